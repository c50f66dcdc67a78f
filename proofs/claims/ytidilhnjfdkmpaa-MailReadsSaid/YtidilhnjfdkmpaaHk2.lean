/- A row of the call's own lies in a block of its type: for printed texts that lost that fact. -/
import Derived.Test.YtidilhnjfdkmpaaWWords
namespace Go.Proofs.Ytidilhnjfdkmpaa
open Go.Proofs.YtidilhnjfdkmpaaW.PrintWords
end Go.Proofs.Ytidilhnjfdkmpaa

/- A row of the call's own lies in a block of its type: for printed texts that lost that fact. -/
import Derived.Test.YtidilhnjfdkmpaaWWords
namespace Go.Proofs.Ytidilhnjfdkmpaa
open Go.Proofs.YtidilhnjfdkmpaaW.PrintWords
theorem rowHeap {α : Type} {d : Kd α} {e : TypeId} {w : World} {base : Nat} {ok : Nat → Prop} {g n c : Nat} {xs : List α} (h : d.R e w base ok (.slice (some ⟨g, 0, none⟩) n c) xs) : ∃ cells, w.heap[g]? = some (.cells cells e (0, 0)) := by
  obtain ⟨inner, ho⟩ := Kd.R_own h
  exact own_typed ho g rfl
end Go.Proofs.Ytidilhnjfdkmpaa

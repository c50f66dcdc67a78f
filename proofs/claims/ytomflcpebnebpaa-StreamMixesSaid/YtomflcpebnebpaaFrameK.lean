/- A struct of two texts that comes in by value: opened, and its sizes. -/
import Derived.Test.YtomflcpebnebpaaFrame
import Derived.Lib.SmallJoins
namespace Go.Proofs.Ytomflcpebnebpaa
open Go.ChangeShapes Go.WideShapes Go.ChangeAt Go.RowKit Go.Joins Go.Deep Go.WideElems Go.Maps
open Go.ChangeMaps (open_string shut_string)
set_option linter.unusedSimpArgs false
set_option linter.unusedVariables false
section
variable {H : Type} {enc : TypeId × Value → H} {P : Program} {w : World} {base : Nat} {sp : Nat → Bool} {held : Bool} {r : Reach} {b0 : Nat} {t : TypeId} {v : Value} {d : DataW H} {ps : List MemPlace}
theorem trod_text {n : Nat} {t : TypeId} {v : Value} {y : DataW H × List MemPlace} (ht : P.underlying t = some .string) (h : DataW.trod enc P w base sp held n t [v] = some y) : ∃ l : List UInt8, v = .string ⟨l.toArray⟩ ∧ y.1 = .lit (.string l) := by
  obtain ⟨s, hs, rfl, _⟩ := DataW.trod_string ht h
  injection hs with hs
  exact ⟨s.data.toList, by rw [hs, ← bytes_eq], rfl⟩
theorem open_key {f0 f1 : Field} (hs : P.underlying t = some (.struct #[f0, f1])) (hone : oneCellFields P #[f0, f1] = true) (hC : P.cellsOf t = 2) (h0 : P.underlying f0.type = some .string) (h1 : P.underlying f1.type = some .string)
    (hval : Value.okWide P w r b0 t v) (hd : DataW.Trod enc P w base sp held t v d ps) :
    ∃ l0 l1 : List UInt8, v = .agg #[.string ⟨l0.toArray⟩, .string ⟨l1.toArray⟩] ∧ d = .agg [.lit (.string l0), .lit (.string l1)] := by
  obtain ⟨v0, v1, y0, y1, n, rfl, rfl, rfl, t0, t1⟩ := open_agg2 hs hone hC hval hd
  obtain ⟨l0, rfl, e0⟩ := trod_text h0 t0
  obtain ⟨l1, rfl, e1⟩ := trod_text h1 t1
  exact ⟨l0, l1, rfl, by rw [e0, e1]⟩
theorem sized_key {ts : List TypeId} {ds : List (DataW H)} (h : (DataW.weightsEach P ts ds).all (· ≤ reachBytes) = true) {j : Nat} {t : TypeId} {f0 f1 : Field} {l0 l1 : List UInt8} (hs : P.underlying t = some (.struct #[f0, f1])) (ht : ts[j]? = some t) (hd : ds[j]? = some (.agg [.lit (.string l0), .lit (.string l1)])) :
    l0.length ≤ reachBytes ∧ l1.length ≤ reachBytes := by
  constructor
  · have := List.all_eq_true.1 h _ (DataW.weights_mem_each ht hd l0.length (by simp [DataW.weights, hs, DataW.weightsEach]))
    simpa using this
  · have := List.all_eq_true.1 h _ (DataW.weights_mem_each ht hd l1.length (by simp [DataW.weights, hs, DataW.weightsEach]))
    simpa using this
end
end Go.Proofs.Ytomflcpebnebpaa

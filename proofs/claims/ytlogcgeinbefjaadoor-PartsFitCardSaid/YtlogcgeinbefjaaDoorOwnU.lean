/- A slice literal as the call's own; an append of whatever slice of texts to it. -/
import Derived.Test.YtlogcgeinbefjaaDoorStrsT
namespace Go.Proofs.YtlogcgeinbefjaaDoor
open Go.RowKit
set_option linter.unusedSimpArgs false
set_option linter.unusedVariables false
set_option maxRecDepth 100000
section
variable {P : Program} {t e ty : TypeId} {z : Value} {by_ : Nat} {w w' : World} {B : Nat} {v : Value} {xs : List Value}
theorem my_own_lit (w : World) (e : TypeId) (xs : List Value) (hB : B ≤ w.heap.size) (hl : xs.length ≤ 9223372036854775807) : Own e (w.alloc (.cells xs.toArray e)) B (.slice (some ⟨w.heap.size, 0, none⟩) xs.length xs.length) xs :=
  ⟨by simp, .inr ⟨w.heap.size, xs.length, xs.toArray, rfl, hB, heap_alloc_new w _, Nat.le_refl _, hl, by simp, by simp⟩⟩
/-- nothing appended. -/
theorem run_append_zero (he : Elem P t e z by_) (w : World) (v : Value) (q : Option Addr) (n cap : Nat) (hv : v = .slice q n cap) (A : Option Addr) (c : Nat) :
    (Builtin.append_ #[t, t] ty #[v, .slice A 0 c]).run P w = .ok v w ∨ (n = 0 ∧ cap = 0 ∧ q = none) ∨ cap < n := by
  subst hv
  obtain ⟨i, hi, hz, hs, hby⟩ := info_parts he.2.1
  by_cases hc : cap < n
  · exact .inr (.inr hc)
  · left
    have hc' : n ≤ cap := by omega
    cases q <;> cases A <;> simp [Builtin.append_, run_underlying he.1, sizeOf, typeInfo, hi, Builtin.lenOf, Builtin.firstCells, loadCells, loadCellsFrom, storeCells, hc']
end
end Go.Proofs.YtlogcgeinbefjaaDoor

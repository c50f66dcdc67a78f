/- An append of any slice's elements (wherever they lie) to a slice that the call made; of none; a made slice without elements. -/
import Derived.Test.YtlogcgeinbefjaaDoorOwnS
namespace Go.Proofs.YtlogcgeinbefjaaDoor
open Go.RowKit
set_option linter.unusedSimpArgs false
set_option linter.unusedVariables false
set_option maxRecDepth 100000
section
variable {P : Program} {t e ty : TypeId} {z : Value} {by_ : Nat} {w w' : World} {B : Nat} {v : Value} {xs : List Value}
theorem own_append_from (he : Elem P t e z by_) (h : Own e w B v xs) (g o m c : Nat) (news : List Value) (hm : news.length = m) (hb : ∀ j u, news[j]? = some u → w.cell? ⟨g, o + j, none⟩ = some u) (h1 : ∀ u ∈ news, u.oneCell' = true)
    (hl : (xs.length + m) * by_ ≤ 140737488355328) (hl2 : xs.length + m ≤ 9223372036854775807) (hB : B ≤ w.heap.size) :
    ∃ A c' w', (Builtin.append_ #[t, t] ty #[v, .slice (some ⟨g, o, none⟩) m c]).run P w = .ok (.slice A (xs.length + m) c') w' ∧ Own e w' B (.slice A (xs.length + m) c') (xs ++ news) ∧ w.grownBy w' v.ownBlock := by
  obtain ⟨i, hi, hz, hs, hby⟩ := info_parts he.2.1
  obtain ⟨v', w', hr, h2, h3, _⟩ := run_append_own (P := P) w B t ty e i z 1 by_ he.1 hi hz hs hby he.2.2 (by decide) v xs.length xs h ⟨g, o, none⟩ m c news (by rw [hm, Nat.mul_one]) (fun j u hj => by
    have := hb j u hj
    unfold Addr.add
    split
    · rename_i h0; subst h0; exact this
    · exact this) h1 hl2 hl hB
  have ho : Own e w' B v' (xs ++ news) := by
    unfold Own
    rw [List.length_append, hm]
    exact h2
  obtain ⟨A, c', rfl⟩ := ho.form
  rw [List.length_append, hm] at ho hr
  exact ⟨A, c', w', hr, ho, h3⟩
/-- a slice literal without elements. -/
theorem own_empty (w : World) (e : TypeId) (hB : B ≤ w.heap.size) : Own e (w.alloc (.cells #[] e)) B (.slice (some ⟨w.heap.size, 0, none⟩) 0 0) [] :=
  ⟨rfl, .inr ⟨w.heap.size, 0, #[], rfl, hB, heap_alloc_new w _, Nat.le_refl _, by decide, rfl, rfl⟩⟩
/-- nothing appended to an empty slice that is not nil. -/
theorem run_append_none (he : Elem P t e z by_) (w : World) (q : Nat) (A : Option Addr) (c : Nat) :
    (Builtin.append_ #[t, t] ty #[.slice (some ⟨q, 0, none⟩) 0 0, .slice A 0 c]).run P w = .ok (.slice (some ⟨q, 0, none⟩) 0 0) w := by
  obtain ⟨i, hi, hz, hs, hby⟩ := info_parts he.2.1
  cases A <;> simp [Builtin.append_, run_underlying he.1, sizeOf, typeInfo, hi, Builtin.lenOf, Builtin.firstCells, loadCells, loadCellsFrom, storeCells]
end
end Go.Proofs.YtlogcgeinbefjaaDoor

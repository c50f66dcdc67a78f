/- Slices of texts: what the call made, what it read, a copy. -/
import Derived.Test.YtlogcgeinbefjaaDoorHashV
import Derived.Test.YtlogcgeinbefjaaDoorOwnT
namespace Go.Proofs.YtlogcgeinbefjaaDoor
open Go.RowKit
set_option linter.unusedSimpArgs false
set_option linter.unusedVariables false
set_option maxRecDepth 100000
theorem elemStr : Elem Tryd.prog 22 9 (.string ⟨#[]⟩) 16 := ⟨Tryd.underlying22, by kernel_rfl, rfl⟩
theorem Own.strs {w : World} {B : Nat} {A : Option Addr} {n c : Nat} {ls : List (List UInt8)} (h : Own 9 w B (.slice A n c) (cstr ls)) : Strs w A n ls := by
  obtain ⟨A', c', hv⟩ := h.form
  injection hv with h1 h2 h3
  refine ⟨by rw [h2, cstr_length], fun hn => ?_⟩
  obtain ⟨g, hA, hB, hg⟩ := h.at_ (by omega)
  subst hA
  refine ⟨g, 0, rfl, hg, fun i hi => ?_⟩
  rw [Nat.zero_add, h.cell i (by omega), cstr_get _ _ (by rw [← cstr_length, ← h2]; exact hi)]

theorem mem_le_flatten {ls : List (List UInt8)} {l : List UInt8} (h : l ∈ ls) : l.length ≤ ls.flatten.length := by
  induction ls with
  | nil => cases h
  | cons x xs ih =>
    rw [List.flatten_cons, List.length_append]
    rcases List.mem_cons.1 h with rfl | h
    · omega
    · have := ih h
      omega
theorem Strs.at_ {w : World} {g o n : Nat} {ls : List (List UInt8)} (h : Strs w (some ⟨g, o, none⟩) n ls) (k : Nat) (hk : k < n) : w.cell? ⟨g, o + k, none⟩ = some (.string ⟨(ls.getD k []).toArray⟩) := by
  obtain ⟨g', o', e, _, hc⟩ := h.2 (by omega)
  injection e with e
  injection e with e1 e2
  subst e1; subst e2
  exact hc k hk
/-- 'own := append([]string{}, l...)'. -/
theorem own_copy_strs (w : World) (A : Option Addr) (n c : Nat) (ls : List (List UInt8)) (h : Strs w A n ls) (hn : n ≤ 1048576) :
    ∃ A' c' w', (Builtin.append_ #[22, 22] 22 #[.slice (some ⟨w.heap.size, 0, none⟩) 0 0, .slice A n c]).run Tryd.prog (w.alloc (.cells #[] 9)) = .ok (.slice A' n c') w' ∧ Strs w' A' n ls ∧ Below w.heap.size w w' := by
  have hb0 : Below w.heap.size w (w.alloc (.cells #[] 9)) := (Below.refl w.heap.size w).alloc (Nat.le_refl _) _
  rcases Nat.eq_zero_or_pos n with rfl | hpos
  · exact ⟨_, _, _, run_append_none elemStr _ _ A c, ⟨h.1, fun h => absurd h (by omega)⟩, hb0⟩
  · obtain ⟨g, o, rfl, hg, hcell⟩ := h.2 hpos
    obtain ⟨A', c', w', hrun, hown, hgr⟩ := own_append_from (B := w.heap.size) (ty := 22) elemStr (own_empty w 9 (Nat.le_refl _)) g o n c (cstr ls) (by rw [cstr_length]; exact h.1) (fun j u hj => by
        have hjl : j < ls.length := by have := (List.getElem?_eq_some_iff.1 hj).1; rwa [cstr_length] at this
        rw [cstr_get _ _ hjl] at hj
        rw [World.cell?_alloc_lt _ _ _ hg, hcell j (by rw [← h.1]; exact hjl)]
        exact hj) (by
        intro u hu
        obtain ⟨l, _, rfl⟩ := List.mem_map.1 hu
        rfl) (by simp; omega) (by simp; omega) (by simp)
    simp only [List.length_nil, Nat.zero_add, List.nil_append] at hrun hown
    exact ⟨A', c', w', hrun, hown.strs, (own_empty w 9 (Nat.le_refl _)).below_grown hb0 (by simp) hgr⟩
end Go.Proofs.YtlogcgeinbefjaaDoor

/- An append to a slice that the call made, whatever the region: what stood in it stands as it did; as one step of a region that draws. -/
import Derived.Test.YtlogcgeinbefjaaDoorOwn
namespace Go.Proofs.YtlogcgeinbefjaaDoor
open Go.RowKit
set_option linter.unusedSimpArgs false
set_option linter.unusedVariables false
set_option maxRecDepth 100000
section
variable {P : Program} {t e ty : TypeId} {z : Value} {by_ : Nat} {w w' : World} {B : Nat} {v : Value} {xs : List Value}
/-- 'own_append', and the old cells are as they were. -/
theorem own_append_cells (he : Elem P t e z by_) {q n cap : Nat} (h : Own e w B (.slice (some ⟨q, 0, none⟩) n cap) xs) (g m c : Nat) (news : List Value) (hm : news.length = m) (hb : ∀ j u, news[j]? = some u → w.cell? ⟨g, j, none⟩ = some u) (h1 : ∀ u ∈ news, u.oneCell' = true)
    (hl : (xs.length + m) * by_ ≤ 140737488355328) (hl2 : xs.length + m ≤ 9223372036854775807) (hB : B ≤ w.heap.size) :
    ∃ A c' w', (Builtin.append_ #[t, t] ty #[.slice (some ⟨q, 0, none⟩) n cap, .slice (some ⟨g, 0, none⟩) m c]).run P w = .ok (.slice A (xs.length + m) c') w' ∧ Own e w' B (.slice A (xs.length + m) c') (xs ++ news) ∧ w.grownBy w' (some q) ∧
      ∀ j, j < xs.length → w'.cell? ⟨q, j, none⟩ = xs[j]? := by
  obtain ⟨A, c', w', hrun, hown, hgr⟩ := own_append (ty := ty) he h g m c news hm hb h1 hl hl2 hB
  refine ⟨A, c', w', hrun, hown, hgr, fun j hj => ?_⟩
  obtain ⟨i, hi, hz, hs, hby⟩ := info_parts he.2.1
  have hbs : ∀ j u, news[j]? = some u → w.cell? ((⟨g, 0, none⟩ : Addr).add j) = some u := fun j u hj => by
    have := hb j u hj
    unfold Addr.add
    split
    · rename_i h0; subst h0; exact this
    · simpa using this
  obtain ⟨hx, h2⟩ := h
  rw [Nat.mul_one] at hx
  rcases h2 with ⟨h0, _⟩ | ⟨g', cap', cur, h3, hbg, hg, hnc, hcm, hcs, htake⟩
  · cases h0
  · injection h3 with e1 e2 e3
    injection e1 with e1
    injection e1 with e1
    subst e1; subst e2; subst e3
    by_cases hroom : xs.length + m ≤ cap
    · have hr := run_append_room (P := P) w t ty e i he.1 hi q xs.length cap cur hg ⟨g, 0, none⟩ m c news (by rw [hs, Nat.mul_one, hm]) hbs h1 hroom (by rw [hs, hm, hcs]; omega)
      rw [hrun] at hr
      injection hr with h4 h5
      injection h4 with h6 h7 h8
      subst h6
      have := hown.cell j (by rw [List.length_append]; omega)
      rw [this, List.getElem?_append_left hj]
    · have holds : ∀ j u, xs[j]? = some u → w.cell? ((⟨q, 0, none⟩ : Addr).add j) = some u := by
        intro j u hu
        have hjx : j < xs.length := (List.getElem?_eq_some_iff.1 hu).1
        have := (show Own e w B (.slice (some ⟨q, 0, none⟩) xs.length cap) xs from ⟨by rw [Nat.mul_one], .inr ⟨q, cap, cur, rfl, hbg, hg, hnc, hcm, hcs, htake⟩⟩).cell j hjx
        unfold Addr.add
        split
        · rename_i h0; subst h0; rw [this]; exact hu
        · simp only [Nat.zero_add]; rw [this]; exact hu
      have hxl : xs.length = xs.length * i.size := by rw [hs, Nat.mul_one]
      have hr := run_append_grow (P := P) w t ty e i z he.1 hi hz ⟨q, 0, none⟩ xs.length cap xs hxl holds ⟨g, 0, none⟩ m c news (by rw [hs, Nat.mul_one, hm]) hbs (by omega) (by omega) (growslice_fits (by omega) (by rw [hby]; exact hl))
      rw [hrun] at hr
      injection hr with h4 h5
      rw [h5]
      have h6 := (show Own e w B (.slice (some ⟨q, 0, none⟩) xs.length cap) xs from ⟨by rw [Nat.mul_one], .inr ⟨q, cap, cur, rfl, hbg, hg, hnc, hcm, hcs, htake⟩⟩).cell j hj
      rw [← h6]
      have hq : q < w.heap.size := by
        rcases Nat.lt_or_ge q w.heap.size with h | h
        · exact h
        · rw [Array.getElem?_eq_none h] at hg; cases hg
      exact World.cell?_alloc_lt w.drew _ _ hq
/-- the append as one step of a region that draws; the elements stand in a block of their own. -/
theorem step_append_own {ops : Array Oper} {o : Oper} {a : Act} {K : Act → World → Prop} {Q : Exit → Act → World → Prop} {E : Prop} {q n cap : Nat} (hgd : o.guard = none) (s x : Operand) (t : TypeId)
    (ho : o.op = .call { callee := .builtin .append, args := #[s, x], argTypes := #[t, t] }) (he : Elem P t e z by_) (hs : a.eval s = .slice (some ⟨q, 0, none⟩) n cap) (h : Own e w B (.slice (some ⟨q, 0, none⟩) n cap) xs)
    (g m c : Nat) (news : List Value) (hx : a.eval x = .slice (some ⟨g, 0, none⟩) m c) (hm : news.length = m) (hb : ∀ j u, news[j]? = some u → w.cell? ⟨g, j, none⟩ = some u) (h1 : ∀ u ∈ news, u.oneCell' = true)
    (hl : (xs.length + m) * by_ ≤ 140737488355328) (hl2 : xs.length + m ≤ 9223372036854775807) (hB : B ≤ w.heap.size)
    (hK : ∀ A c' w', Own e w' B (.slice A (xs.length + m) c') (xs ++ news) → w.grownBy w' (some q) → (∀ j, j < xs.length → w'.cell? ⟨q, j, none⟩ = xs[j]?) → K (a.put o.dst (.slice A (xs.length + m) c')) w') :
    if Region.wanted o (yielded ops a.tmps) = true then Oper.wp P o a w K Q else E := by
  obtain ⟨A, c', w', hrun, hown, hgr, hcl⟩ := own_append_cells (ty := o.type) he h g m c news hm hb h1 hl hl2 hB
  exact step_append_run hgd s x t t ho hs hx hrun (hK A c' w' hown hgr hcl)
end
end Go.Proofs.YtlogcgeinbefjaaDoor

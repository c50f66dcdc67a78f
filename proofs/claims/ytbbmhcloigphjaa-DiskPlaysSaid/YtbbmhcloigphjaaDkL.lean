/- Rows of sectors and of waits, as cells: read and set by their places. -/
import Derived.Test.YtbbmhcloigphjaaDkP
namespace Go.Proofs.Ytbbmhcloigphjaa
open Go.RowKit
set_option linter.unusedSimpArgs false
set_option linter.unusedVariables false
theorem flat_len (l : List (List UInt8)) (h : ∀ x ∈ l, x.length = 64) : (flat l).length = 64 * l.length := by
  induction l with
  | nil => rfl
  | cons x r ih =>
    have e : flat (x :: r) = cb x ++ flat r := by simp [flat]
    rw [e, List.length_append, ih (fun y hy => h y (by simp [hy])), cb_length, h x (by simp)]
    simp only [List.length_cons]; omega
theorem flat_split (l : List (List UInt8)) (i : Nat) (hi : i < l.length) : flat l = flat (l.take i) ++ cb (l.getD i []) ++ flat (l.drop (i + 1)) := by
  have e : l = l.take i ++ l[i] :: l.drop (i + 1) := by rw [← List.drop_eq_getElem_cons hi, List.take_append_drop]
  rw [List.getD_eq_getElem?_getD, List.getElem?_eq_getElem hi]
  conv => lhs; rw [e]
  unfold flat
  rw [List.flatMap_append, List.flatMap_cons]
  exact (List.append_assoc _ _ _).symm
theorem set_split (l : List (List UInt8)) (i : Nat) (hi : i < l.length) (s : List UInt8) : flat (l.set i s) = flat (l.take i) ++ cb s ++ flat (l.drop (i + 1)) := by
  rw [List.set_eq_take_append_cons_drop, if_pos hi]
  simp [flat]
theorem take64 (l : List (List UInt8)) (h : ∀ x ∈ l, x.length = 64) (i : Nat) (hi : i ≤ l.length) : (flat (l.take i)).length = 64 * i := by
  rw [flat_len _ (fun x hx => h x (List.mem_of_mem_take hx)), List.length_take]; omega
theorem flat_get (l : List (List UInt8)) (h : ∀ x ∈ l, x.length = 64) (i : Nat) (hi : i < l.length) : ((flat l).drop (i * 64)).take 64 = cb (l.getD i []) := by
  have h1 := take64 l h i (by omega)
  have h2 : (l.getD i []).length = 64 := by rw [List.getD_eq_getElem?_getD, List.getElem?_eq_getElem hi]; exact h _ (List.getElem_mem hi)
  rw [flat_split l i hi, List.append_assoc, List.drop_left' (by omega), List.take_left' (by rw [cb_length, h2])]
/-- the first p cells of a sector are set. -/
theorem flat_put (l : List (List UInt8)) (h : ∀ x ∈ l, x.length = 64) (i : Nat) (hi : i < l.length) (s : List UInt8) (hs : s.length ≤ 64) :
    (flat l).take (i * 64) ++ cb s ++ (flat l).drop (i * 64 + (cb s).length) = flat (l.set i (s ++ (l.getD i []).drop s.length)) := by
  have h1 := take64 l h i (by omega)
  have h2 : (l.getD i []).length = 64 := by rw [List.getD_eq_getElem?_getD, List.getElem?_eq_getElem hi]; exact h _ (List.getElem_mem hi)
  have e1 : (flat l).take (i * 64) = flat (l.take i) := by
    rw [flat_split l i hi, List.append_assoc, List.take_left' (by omega)]
  have e2 : (flat l).drop (i * 64 + (cb s).length) = cb ((l.getD i []).drop s.length) ++ flat (l.drop (i + 1)) := by
    rw [flat_split l i hi, List.append_assoc, ← List.drop_drop, List.drop_left' (by omega), List.drop_append_of_le_length (by rw [cb_length, cb_length, h2]; exact hs), cb_length]
    simp only [cb, List.map_drop]
  rw [e1, e2, set_split l i hi, cb_append]
  simp only [List.append_assoc]
theorem flat_set (l : List (List UInt8)) (h : ∀ x ∈ l, x.length = 64) (i : Nat) (hi : i < l.length) (s : List UInt8) (hs : s.length = 64) :
    (flat l).take (i * 64) ++ cb s ++ (flat l).drop (i * 64 + (cb s).length) = flat (l.set i s) := by
  have h2 : (l.getD i []).length = 64 := by rw [List.getD_eq_getElem?_getD, List.getElem?_eq_getElem hi]; exact h _ (List.getElem_mem hi)
  rw [flat_put l h i hi s (by omega), List.drop_eq_nil_of_le (by omega), List.append_nil]
theorem all_set (l : List (List UInt8)) (h : ∀ x ∈ l, x.length = 64) (i : Nat) (s : List UInt8) (hs : s.length = 64) : ∀ x ∈ l.set i s, x.length = 64 := by
  intro x hx
  rcases List.mem_or_eq_of_mem_set hx with hx | rfl
  · exact h x hx
  · exact hs
theorem getD64 (l : List (List UInt8)) (h : ∀ x ∈ l, x.length = 64) (i : Nat) (hi : i < l.length) : (l.getD i []).length = 64 := by
  rw [List.getD_eq_getElem?_getD, List.getElem?_eq_getElem hi]; exact h _ (List.getElem_mem hi)
/-! waits -/
def wok (x : Wt) : Prop := x.old.length = 64 ∧ x.new.length = 64
theorem vals_len {x : Wt} (h : wok x) : x.vals.length = 129 := by simp [Wt.vals, cb_length, h.1, h.2]
theorem flatW_len (l : List Wt) (h : ∀ x ∈ l, wok x) : (flatW l).length = l.length * 129 := by
  induction l with
  | nil => rfl
  | cons x r ih =>
    have e : flatW (x :: r) = x.vals ++ flatW r := by simp [flatW]
    rw [e, List.length_append, ih (fun y hy => h y (by simp [hy])), vals_len (h x (by simp))]
    simp only [List.length_cons]; omega
theorem flatW_get (l : List Wt) (h : ∀ x ∈ l, wok x) (i : Nat) (hi : i < l.length) : ((flatW l).drop (i * 129)).take 129 = (l[i]).vals := by
  have h1 : (flatW (l.take i)).length = i * 129 := by rw [flatW_len _ (fun x hx => h x (List.mem_of_mem_take hx)), List.length_take]; congr 1; omega
  have e : flatW l = flatW (l.take i) ++ ((l[i]).vals ++ flatW (l.drop (i + 1))) := by
    have e : l = l.take i ++ l[i] :: l.drop (i + 1) := by rw [← List.drop_eq_getElem_cons hi, List.take_append_drop]
    conv => lhs; rw [e]
    unfold flatW
    rw [List.flatMap_append, List.flatMap_cons]
  rw [e, List.drop_left' h1, List.take_left' (vals_len (h _ (List.getElem_mem hi)))]
theorem one_cb (l : List UInt8) : ∀ u ∈ cb l, u.oneCell' = true := by
  intro u hu
  obtain ⟨b, _, rfl⟩ := List.mem_map.1 hu
  rfl
theorem one_vals (x : Wt) : ∀ u ∈ x.vals, u.oneCell' = true := by
  intro u hu
  simp only [Wt.vals, List.mem_cons, List.mem_append] at hu
  rcases hu with rfl | hu | hu
  · rfl
  · exact one_cb _ u hu
  · exact one_cb _ u hu
end Go.Proofs.Ytbbmhcloigphjaa

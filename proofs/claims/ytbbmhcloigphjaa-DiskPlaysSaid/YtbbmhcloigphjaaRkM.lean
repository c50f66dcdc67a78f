/- The disk and the reference's, as plain data: they answer alike. -/
import Derived.Test.YtbbmhcloigphjaaRkL
namespace Go.Proofs.Ytbbmhcloigphjaa
open Go.RowKit
set_option linter.unusedSimpArgs false
set_option linter.unusedVariables false
structure Match (d : Dk) (r : Rk) : Prop where
  f : d.fuse = r.left
  p : 0 ≤ d.fuse
  dn : d.down = r.down
  s : undo d.l d.w = r.s
  l : d.l = applyR r.s r.l
  w : d.w.map (fun x => (⟨x.at_, x.new⟩ : Rw)) = r.l
theorem Match.n {d : Dk} {r : Rk} (h : Match d r) : d.l.length = r.s.length := by rw [← h.s, undo_len]
theorem Match.wl {d : Dk} {r : Rk} (h : Match d r) : d.w.length = r.l.length := by rw [← h.w, List.length_map]
theorem match_new (n : Nat) : Match (Dk.new n) (Rk.new n) := ⟨rfl, Int.le_refl _, rfl, rfl, rfl, rfl⟩
theorem Match.there {d : Dk} {r : Rk} (h : Match d r) (i : Int) : d.there i = r.there i := by
  unfold Dk.there Rk.there
  rw [h.dn, h.n]
theorem Match.burn {d : Dk} {r : Rk} (h : Match d r) (hd : d.down = false) : d.burn.down = r.burnB ∧ Match d.burn r.burn := by
  have hp := h.p
  by_cases h0 : r.left = 0
  · have e1 : d.burn = d := by unfold Dk.burn; rw [if_neg (by rw [h.f]; omega)]
    have e2 : r.burn = r := if_pos h0
    rw [e1, e2]
    exact ⟨by rw [hd]; exact (if_pos h0).symm, h⟩
  · have hf := h.f
    have e1 : d.burn = { d with fuse := d.fuse - 1, down := d.down || decide (d.fuse = 1) } := by unfold Dk.burn; rw [if_pos (by omega)]
    have e2 : r.burn = { r with left := r.left - 1, down := decide (r.left = 1) } := if_neg h0
    have e3 : r.burnB = decide (r.left = 1) := if_neg h0
    have hdd : (d.down || decide (d.fuse = 1)) = decide (r.left = 1) := by rw [hd, Bool.false_or, hf]
    rw [e1, e2, e3]
    exact ⟨hdd, ⟨by show d.fuse - 1 = r.left - 1; rw [hf], by show 0 ≤ d.fuse - 1; omega, hdd, h.s, h.l, h.w⟩⟩
theorem set_back (l : List (List UInt8)) (i : Nat) (s : List UInt8) : (l.set i s).set i (l.getD i []) = l := by
  rw [List.set_set]
  by_cases h : i < l.length
  · rw [List.getD_eq_getElem?_getD, List.getElem?_eq_getElem h]; simp
  · rw [List.set_eq_of_length_le (by omega)]
theorem Match.put {d : Dk} {r : Rk} (h : Match d r) (i : Nat) (s : List UInt8) : Match (d.put i s) (r.put i s) := by
  refine ⟨h.f, h.p, h.dn, ?_, ?_, ?_⟩
  · show undo (d.l.set i s) (d.w ++ [⟨i, d.l.getD i [], s⟩]) = r.s
    unfold undo
    rw [List.foldr_append]
    show List.foldr _ ((d.l.set i s).set i (d.l.getD i [])) d.w = r.s
    rw [set_back]
    exact h.s
  · show d.l.set i s = applyR r.s (r.l ++ [⟨i, s⟩])
    unfold applyR
    rw [List.foldl_append]
    show _ = (applyR r.s r.l).set i s
    rw [← h.l]
  · show (d.w ++ [_]).map _ = r.l ++ [_]
    rw [List.map_append, h.w]
    rfl
theorem Match.write {d : Dk} {r : Rk} (h : Match d r) (i : Int) (s : List UInt8) : (d.write i s).1 = (r.write i s).1 ∧ Match (d.write i s).2 (r.write i s).2 := by
  unfold Dk.write Rk.write
  rw [h.there i]
  by_cases h1 : r.there i ≠ 0
  · rw [if_pos h1, if_pos h1]; exact ⟨rfl, h⟩
  rw [if_neg h1, if_neg h1]
  by_cases h2 : s.length ≠ 64
  · rw [if_pos h2, if_pos h2]; exact ⟨rfl, h⟩
  rw [if_neg h2, if_neg h2]
  have hd : d.down = false := by
    have ht : d.there i = 0 := by rw [h.there i]; exact Decidable.not_not.1 h1
    exact (there_zero ht).1
  obtain ⟨hb, hm⟩ := h.burn hd
  rw [hb]
  by_cases h3 : r.burnB = true
  · rw [if_pos h3, if_pos h3]; exact ⟨rfl, hm⟩
  · rw [if_neg h3, if_neg h3]; exact ⟨rfl, hm.put _ _⟩
theorem applyR_len (s : List (List UInt8)) (l : List Rw) : (applyR s l).length = s.length := by
  unfold applyR
  induction l generalizing s with
  | nil => rfl
  | cons x r ih => rw [List.foldl_cons, ih, List.length_set]
theorem applyR_get (i : Nat) (l : List Rw) : ∀ (s : List (List UInt8)), i < s.length → (applyR s l).getD i [] = lastIn i (s.getD i []) l := by
  induction l with
  | nil => intro s _; rfl
  | cons x r ih =>
    intro s hi
    show (applyR (s.set x.at_ x.text) r).getD i [] = lastIn i (if x.at_ = i then x.text else s.getD i []) r
    rw [ih _ (by rw [List.length_set]; exact hi)]
    congr 1
    rw [List.getD_eq_getElem?_getD, List.getElem?_set]
    by_cases hx : x.at_ = i
    · subst hx; simp [hi]
    · rw [if_neg hx, if_neg hx]; exact (List.getD_eq_getElem?_getD).symm
theorem Match.read {d : Dk} {r : Rk} (h : Match d r) (i : Int) : d.read i = r.read i := by
  unfold Dk.read Rk.read
  rw [h.there i]
  by_cases h1 : r.there i ≠ 0
  · rw [if_pos h1, if_pos h1]
  · rw [if_neg h1, if_neg h1]
    have ht : d.there i = 0 := by rw [h.there i]; exact Decidable.not_not.1 h1
    obtain ⟨_, h2, h3⟩ := there_zero ht
    have hi : i.toNat < r.s.length := by rw [← h.n]; omega
    rw [← applyR_get i.toNat r.l r.s hi, ← h.l]
theorem Match.sync {d : Dk} {r : Rk} (h : Match d r) : d.sync.1 = r.sync.1 ∧ Match d.sync.2 r.sync.2 := by
  unfold Dk.sync Rk.sync
  by_cases hd : d.down = true
  · rw [if_pos hd, if_pos (by rw [← h.dn]; exact hd)]; exact ⟨rfl, h⟩
  · have hd' : d.down = false := by simpa using hd
    have hr : ¬ r.down = true := by rw [← h.dn]; exact hd
    rw [if_neg hd, if_neg hr]
    obtain ⟨hb, hm⟩ := h.burn hd'
    rw [hb]
    by_cases h3 : r.burnB = true
    · rw [if_pos h3, if_pos h3]; exact ⟨rfl, hm⟩
    · rw [if_neg h3, if_neg h3]
      exact ⟨rfl, ⟨hm.f, hm.p, hm.dn, hm.l, hm.l, rfl⟩⟩
theorem Match.fuse {d : Dk} {r : Rk} (h : Match d r) (n : Int) : (d.setFuse n).1 = (r.setFuse n).1 ∧ Match (d.setFuse n).2 (r.setFuse n).2 := by
  unfold Dk.setFuse Rk.setFuse
  rw [h.dn]
  by_cases hd : r.down = true
  · rw [if_pos hd, if_pos hd]; exact ⟨rfl, h⟩
  · rw [if_neg hd, if_neg hd]
    by_cases h1 : n < 0 ∨ 1048576 < n
    · rw [if_pos h1, if_pos h1]; exact ⟨rfl, h⟩
    · rw [if_neg h1, if_neg h1]
      exact ⟨rfl, ⟨rfl, by show 0 ≤ n; omega, by first | rfl | exact h.dn, h.s, h.l, h.w⟩⟩
theorem redo_redoR (picks : List Int) (w : List Wt) : ∀ (i : Nat) (l : List (List UInt8)), redo picks i l w = redoR picks i l (w.map (fun x => (⟨x.at_, x.new⟩ : Rw))) := by
  induction w with
  | nil => intro i l; rfl
  | cons x r ih => intro i l; exact ih (i + 1) _
theorem Match.crash {d : Dk} {r : Rk} (h : Match d r) (picks : List Int) : Match (d.crash picks) (r.crash picks) := by
  have e : redo picks 0 (undo d.l d.w) d.w = redoR picks 0 r.s r.l := by rw [redo_redoR, h.w, h.s]
  refine ⟨rfl, Int.le_refl _, rfl, e, ?_, rfl⟩
  show redo picks 0 (undo d.l d.w) d.w = redoR picks 0 r.s r.l
  exact e
end Go.Proofs.Ytbbmhcloigphjaa

/- slices.Grow, slices.Concat, over windows; the queue's cut. -/
import Derived.Test.YtlogcgeinbefjaaDoorPtP
import Derived.Test.YtlogcgeinbefjaaDoorWZeros
import Derived.Deep.Upon
namespace Go.Proofs.YtlogcgeinbefjaaDoor
open Go.RowKit Go.Proofs.YtlogcgeinbefjaaDoorW.PrintWords Go.Proofs.YtlogcgeinbefjaaDoorW.PrintLast
set_option linter.unusedSimpArgs false
set_option linter.unusedVariables false
set_option maxRecDepth 20000
theorem Blk.setCells {g : Nat} {t : TypeId} : ∀ (ys : List Value) (o : Nat) (w : World) (cs : Array Value), Blk w g t cs → o + ys.length ≤ cs.size → ∃ cs', Blk (w.setCells g o ys) g t cs' ∧ cs'.size = cs.size ∧ (∀ i, i < o → cs'[i]? = cs[i]?) ∧ ∀ i, i < ys.length → cs'[o + i]? = ys[i]?
  | [], o, w, cs, h, hl => ⟨cs, h, rfl, fun _ _ => rfl, fun i hi => by simp at hi⟩
  | y :: r, o, w, cs, h, hl => by
    simp only [List.length_cons] at hl
    obtain ⟨cs', h1, h2, h3, h4⟩ := Blk.setCells r (o + 1) _ _ (h.set_ o y) (by simp; omega)
    refine ⟨cs', h1, by rw [h2]; simp, fun i hi => ?_, fun i hi => ?_⟩
    · rw [h3 i (by omega), Array.getElem?_setIfInBounds, if_neg (by omega)]
    · cases i with
      | zero => rw [Nat.add_zero, h3 o (by omega), Array.getElem?_setIfInBounds, if_pos rfl, if_pos (by omega)]; rfl
      | succ i =>
        have := h4 i (by simpa using hi)
        rw [show o + (i + 1) = o + 1 + i by omega, this]
        rfl
theorem Kp.setCells {S : Nat → Prop} {g : Nat} (hS : S g) : ∀ (ys : List Value) (o : Nat) (w : World), Kp S w (w.setCells g o ys)
  | [], o, w => Kp.refl S w
  | y :: r, o, w => (Kp.set_ hS o y).trans (Kp.setCells hS r (o + 1) _)
section
variable {P : Program} {e t ty : TypeId} {w w' : World} {B B' : Nat} {v u : Value} {xs ys : List Value} {z : Value} {by_ : Nat} {S : Nat → Prop}
theorem win_src (he : Elem P t e z by_) (hu : Win e w B u ys) (y1 : ∀ y ∈ ys, y.oneCell' = true) : Src P 1 t u ys.length ys w := by
  rcases hu with ⟨rfl, rfl⟩ | ⟨b, off, cap, cur, rfl, h1, h2, h3, h4, h5, h6⟩
  · exact Src.ofNil w he.1 0
  · refine Src.ofSlice w he.1 ⟨b, off, none⟩ ys.length cap ys (by simp) (fun j x hj => ?_) y1
    have hjl := (List.getElem?_eq_some_iff.1 hj).1
    have := (h2.cell (off + j)).trans (h6 j hjl)
    rw [hj] at this
    unfold Addr.add
    split
    · rename_i h0; subst h0; simpa using this
    · exact this
/-- a window's elements are appended, where there is room. -/
theorem win_append_room (he : Elem P t e z by_) (h : Win e w B v xs) {A : Option Addr} {c : Nat} (hv : v = .slice A xs.length c) (hroom : xs.length + ys.length ≤ c) (hu : Win e w B' u ys) (y1 : ∀ y ∈ ys, y.oneCell' = true) :
    ∃ w', (Builtin.append_ #[t, t] ty #[v, u]).run P w = .ok (.slice A (xs ++ ys).length c) w' ∧ Win e w' B (.slice A (xs ++ ys).length c) (xs ++ ys) ∧ Kp (fun i => v.ownBlock = some i) w w' := by
  obtain ⟨i, hi, hz, hs, hby⟩ := info_parts he.2.1
  have hS := win_src he hu y1
  rcases h with ⟨h0, rfl⟩ | ⟨b, off, cap, cur, h0, g1, g2, g3, g4, g5, g6⟩
  · rw [hv] at h0
    injection h0 with h1 h2 h3
    subst h1; subst h3
    have : ys = [] := List.eq_nil_of_length_eq_zero (by omega)
    subst this
    subst hv
    exact ⟨w, run_append_nothing w t t ty e i he.1 hi none 0 0 (Nat.le_refl _) u (by rw [hs]; exact hS), Win.nil e w B, Kp.refl _ _⟩
  · rw [hv] at h0
    injection h0 with h1 h2 h3
    subst h1; subst h3; subst hv
    have hcell : ∀ j, j < ys.length → (w.cell? ⟨b, off + xs.length * i.size + j, none⟩).isSome = true := fun j hj => by
      rw [hs, Nat.mul_one, g2.cell, Array.getElem?_eq_getElem (by omega)]; rfl
    have hrun := run_append_room_src (P := P) w t t ty e i he.1 hi b off xs.length c u ys.length ys (by rw [hs]; exact hS) hroom hcell (fun j hj => g2.frozen _)
    rw [hs, Nat.mul_one] at hrun
    obtain ⟨cs', k1, k2, k3, k4⟩ := Blk.setCells ys (off + xs.length) w cur g2 (by omega)
    refine ⟨_, by rw [List.length_append]; exact hrun, .inr ⟨b, off, c, cs', rfl, g1, k1, by omega, by rw [List.length_append]; omega, g5, fun j hj => ?_⟩, Kp.setCells (S := fun i => (Value.slice (some ⟨b, off, none⟩) xs.length c).ownBlock = some i) rfl ys _ w⟩
    rw [List.length_append] at hj
    by_cases hjl : j < xs.length
    · rw [k3 _ (by omega), g6 j hjl, List.getElem?_append_left hjl]
    · rw [List.getElem?_append_right (by omega), show off + j = off + xs.length + (j - xs.length) by omega, k4 _ (by omega)]
end
set_option maxHeartbeats 800000 in
theorem growM_any (n : Nat) (w : World) (hn : n ≤ 2048) :
    Calls Tryd.prog 43 #[.slice none 0 0, .int .i64 (n : Nat)] w fun e w' => ∃ A c, e = .returned (.slice A 0 c) ∧ n ≤ c ∧ Win 70 w' w.heap.size (.slice A 0 c) [] ∧ Below w.heap.size w w' := by
  rcases Nat.eq_zero_or_pos n with h0 | h0
  · subst h0
    go_enter Tryd.func43, Tryd.ntmps43
    go_wp2_with fail
    go_ret
    exact ⟨none, 0, rfl, Nat.le_refl _, Win.nil _ _ _, Below.refl _ _⟩
  · obtain ⟨i, hi, hz, hs, hby⟩ := info_parts elemMs.2.1
    obtain ⟨v', w2, hrun, hown, hgr, _⟩ := run_append_zeros (P := Tryd.prog) w w.heap.size 57 3 57 70 i (.pointer none) 1 8 elemMs.1 Tryd.underlying3 hi hz hs hby rfl (by decide) (by decide) (.slice none 0 0) 0 [] (World.ownsRow_nil w w.heap.size 70 1) .i64 n (by
      intro y hy
      obtain ⟨j, hj, rfl⟩ := List.mem_iff_getElem.1 hy
      simp [Builtin.zeroCells, Value.cells, Nat.mod_one]; rfl) (by omega) (Nat.le_refl _)
    rcases hown.2 with ⟨_, hz0⟩ | ⟨g, cap, cur, rfl, hg1, hg2, hg3, hg4, hg5, _⟩
    · omega
    have HR := Lib.hid hrun
    have HW := Lib.hid (show Win 70 w2 w.heap.size (.slice (some ⟨g, 0, none⟩) 0 cap) [] from .inr ⟨g, 0, cap, cur, rfl, hg1, hg2, by omega, by simp, by simpa [maxLen] using hg4, fun j hj => by simp at hj⟩)
    have HB := Lib.hid (show Below w.heap.size w w2 from ⟨hgr.os, hgr.tape, hgr.output, hgr.size, fun i hi => hgr.block i hi (by intro h; cases h)⟩)
    rw [Nat.zero_add] at HR hg3
    have HC := Lib.hid hg3
    clear hrun hown hgr hg1 hg2 hg3 hg4 hg5 hi hz hs hby
    have e1 : (0 : Int) < (n : Int) := by omega
    go_enter Tryd.func43, Tryd.ntmps43
    go_wp2_with ((with_reducible refine gate_dst (N := 22) rfl ?_); refine wpList_append_run rfl (.tmp 20) (.tmp 21) _ _ rfl rfl rfl HR.out ?_)
    go_ret
    exact ⟨_, _, rfl, HC.out, HW.out, HB.out⟩
theorem Kp.ownBelow {B : Nat} {v : Value} {w w' : World} {e : TypeId} {xs : List Value} (h : Kp (fun i => v.ownBlock = some i) w w') (hW : Win e w B v xs) (hB : B ≤ w.heap.size) : Below B w w' := h.below (fun i hi => (hW.typed i hi).1) hB
set_option maxHeartbeats 1600000 in
theorem concat_any (B q : Nat) (xs ys : List Value) (A A' : Option Addr) (c c' : Nat) (w : World) (hq : Blk w q 57 #[.slice A xs.length c, .slice A' ys.length c']) (hW : Win 70 w B (.slice A xs.length c) xs) (hU : Win 70 w B (.slice A' ys.length c') ys) (x1 : ∀ u ∈ xs, u.oneCell' = true) (y1 : ∀ u ∈ ys, u.oneCell' = true) (hx : xs.length ≤ 1024) (hy : ys.length ≤ 1024) :
    Calls Tryd.prog 36 #[.slice (some ⟨q, 0, none⟩) 2 2] w fun e w' => ∃ r, e = .returned r ∧ Win 70 w' w.heap.size r (xs ++ ys) ∧ Below w.heap.size w w' := by
  have HQ := Lib.hid hq
  have HW := Lib.hid hW
  have HU := Lib.hid hU
  obtain ⟨n, hn⟩ : ∃ n, Hid (xs.length = n) := ⟨_, Lib.hid rfl⟩
  obtain ⟨m, hm⟩ : ∃ n, Hid (ys.length = n) := ⟨_, Lib.hid rfl⟩
  have HG := fun N (h : n + m = N) => growM_any N w (by have := hn.out; have := hm.out; omega)
  rw [hn.out] at hx HQ HW
  rw [hm.out] at hy HQ HU
  have q0 : w.cell? ⟨q, 0, none⟩ = some (.slice A n c) := HQ.out.cell 0
  have q1 : w.cell? ⟨q, 1, none⟩ = some (.slice A' m c') := HQ.out.cell 1
  have s1 : 0 + (n : Int) = (n : Nat) := Int.zero_add _
  obtain ⟨L, hL⟩ : ∃ L, Hid ((xs ++ ys).length = L) := ⟨_, Lib.hid rfl⟩
  obtain ⟨N, hN⟩ : ∃ N, Hid (n + m = N) := ⟨_, Lib.hid rfl⟩
  have s2 : (n : Int) + (m : Int) = (N : Int) := by have := hN.out; omega
  have s3 : 0 ≤ (n : Int) := by omega
  have s4 : 0 ≤ (N : Int) := by omega
  have HG := Lib.hid (HG N hN.out)
  clear hq hW hU
  go_enter Tryd.func36, Tryd.ntmps36
  go_wp2_with fail
  go_loopg [3, 11] 3 (fun kq v3 v11 wr => wr = w ∧ ((kq = 3 ∧ v3 = .int .i64 0 ∧ v11 = .int .i64 0) ∨ (kq = 2 ∧ v3 = .int .i64 (n : Nat) ∧ v11 = .int .i64 1) ∨ (kq = 1 ∧ v3 = .int .i64 (N : Nat) ∧ v11 = .int .i64 2)))
  case atStart => exact ⟨rfl, .inl ⟨rfl, rfl, rfl⟩⟩
  case round =>
    have hw0 : w = wr := hrel.1.symm
    subst hw0
    obtain ⟨_, ⟨rfl, rfl, rfl⟩ | ⟨rfl, rfl, rfl⟩ | ⟨rfl, rfl, rfl⟩⟩ := hrel
    · go_wp2_with fail
      go_roundg 2
      case measure => omega
      case rel => exact ⟨rfl, .inr (.inl ⟨rfl, rfl, rfl⟩)⟩
    · go_wp2_with fail
      go_roundg 1
      case measure => omega
      case rel => exact ⟨rfl, .inr (.inr ⟨rfl, rfl, rfl⟩)⟩
    · go_wp2_with fail
      refine HG.out.mono ?_
      rintro e w2 ⟨G, gc, rfl, hgc, hw2, hb2⟩
      have W2 := Lib.hid hw2
      have B2 := Lib.hid hb2
      have U1 := Lib.hid (HW.out.below hb2)
      have U2 := Lib.hid (HU.out.below hb2)
      have Q2 := Lib.hid (HQ.out.below hb2 HQ.out.lt)
      clear hw2 hb2 q0 q1
      go_wp2_with fail
      go_loopg [6, 27] 3 (fun kq v6 v27 wz => Hid (Below w.heap.size w wz) ∧ ((kq = 3 ∧ v6 = .slice G 0 gc ∧ v27 = .int .i64 0 ∧ Hid (Win 70 wz w.heap.size (.slice G 0 gc) [])) ∨ (kq = 2 ∧ v6 = .slice G n gc ∧ v27 = .int .i64 1 ∧ Hid (Win 70 wz w.heap.size (.slice G n gc) xs)) ∨ (kq = 1 ∧ v6 = .slice G L gc ∧ v27 = .int .i64 2 ∧ Hid (Win 70 wz w.heap.size (.slice G L gc) (xs ++ ys)))))
      case atStart => exact ⟨B2, .inl ⟨rfl, rfl, rfl, W2⟩⟩
      case round =>
        obtain ⟨BZ, ⟨rfl, rfl, rfl, WZ⟩ | ⟨rfl, rfl, rfl, WZ⟩ | ⟨rfl, rfl, rfl, WZ⟩⟩ := hrel
        · obtain ⟨w3, hr3, hw3, hk3⟩ := win_append_room (P := Tryd.prog) (ty := 57) elemMs WZ.out (A := G) (c := gc) rfl (by simp; have := hn.out; have := hN.out; omega) (HW.out.below BZ.out) x1
          have B3 := Lib.hid (BZ.out.trans (hk3.ownBelow WZ.out BZ.out.size))
          rw [List.nil_append, hn.out] at hr3 hw3
          have R3 := Lib.hid hr3
          have W3 := Lib.hid hw3
          have q0 : wr.cell? ⟨q, 0, none⟩ = some (.slice A n c) := (HQ.out.below BZ.out HQ.out.lt).cell 0
          clear hr3 hw3 hk3
          go_wp2_with ((with_reducible refine gate_dst (N := 33) rfl ?_); refine wpList_append_run rfl (.tmp 31) (.tmp 32) _ _ rfl rfl rfl R3.out ?_)
          go_roundg 2
          case measure => omega
          case rel => exact ⟨B3, .inr (.inl ⟨rfl, rfl, rfl, W3⟩)⟩
        · have WZ' := WZ.out
          rw [← hn.out] at WZ'
          obtain ⟨w3, hr3, hw3, hk3⟩ := win_append_room (P := Tryd.prog) (ty := 57) elemMs WZ' (A := G) (c := gc) rfl (by have := hn.out; have := hm.out; have := hN.out; omega) (u := .slice A' m c') (HU.out.below BZ.out) y1
          have B3 := Lib.hid (BZ.out.trans (hk3.ownBelow WZ' BZ.out.size))
          rw [hn.out, hL.out] at hr3
          rw [hL.out] at hw3
          have R3 := Lib.hid hr3
          have W3 := Lib.hid hw3
          have q1 : wr.cell? ⟨q, 1, none⟩ = some (.slice A' m c') := (HQ.out.below BZ.out HQ.out.lt).cell 1
          clear hr3 hw3 hk3 WZ'
          go_wp2_with ((with_reducible refine gate_dst (N := 33) rfl ?_); refine wpList_append_run rfl (.tmp 31) (.tmp 32) _ _ rfl rfl rfl R3.out ?_)
          go_roundg 1
          case measure => omega
          case rel => exact ⟨B3, .inr (.inr ⟨rfl, rfl, rfl, W3⟩)⟩
        · go_wp2_with fail
          go_ret
          exact ⟨_, rfl, WZ.out, BZ.out⟩
end Go.Proofs.YtlogcgeinbefjaaDoor

/- The walks of hash.Bind and hash.Short. -/
import Derived.Test.YtjkppikpgiageaaDoorHashS
namespace Go.Proofs.YtjkppikpgiageaaDoor
open Go.RowKit
set_option linter.unusedSimpArgs false
set_option linter.unusedVariables false
set_option maxHeartbeats 1600000 in
set_option maxRecDepth 100000 in
theorem bind_any (A : Option Addr) (n c : Nat) (w : World) (ls : List (List UInt8)) (h : Strs w A n ls) (hlen : ∀ l ∈ ls, l.length ≤ 140737488355328) (hn : n ≤ 9223372036854775807) (hk : KsAt w) (hg : 0 < w.heap.size) :
    Calls Tryd.prog 15 #[.slice A n c] w fun e w' => e = .returned (.string ⟨(sha (boundLs ls).flatten).toArray⟩) ∧ Below w.heap.size w w' := by
  have H := Lib.hid h
  have HL := Lib.hid hlen
  have HK := Lib.hid hk
  clear h hlen hk
  obtain ⟨bl, hbl⟩ : ∃ bl, Hid (bl = boundLs ls) := ⟨_, rfl⟩
  have hbln : bl.length = n := by rw [hbl.out, boundLs, List.length_map]; exact H.out.1
  have HBN := Lib.hid hbln
  clear hbln
  go_enter Tryd.func15, Tryd.ntmps15
  go_wp2_with fail
  refine (begin_any w).mono ?_
  rintro e w1 ⟨rfl, hw1⟩
  have h1 := Lib.hid (show Blk w1 w.heap.size 58 (hc (pushes st0 (sumTo bl 0)) (BitVec.ofNat 64 (sumTo bl 0).length)) by rw [hw1]; exact Blk.new _ _ _)
  have b1 := Lib.hid (show Below w.heap.size w w1 by rw [hw1]; exact (Below.refl _ _).alloc (Nat.le_refl _) _)
  clear hw1
  go_wp2_with fail
  go_loopw [9] (fun v wr => ∃ k : Nat, k ≤ n ∧ v = .int .i64 k ∧ Blk wr w.heap.size 58 (hc (pushes st0 (sumTo bl k)) (BitVec.ofNat 64 (sumTo bl k).length)) ∧ Below w.heap.size w wr) (fun v _ => n - (intOf v).toNat)
  case atStart => exact ⟨0, by omega, rfl, h1.out, b1.out⟩
  case round =>
    obtain ⟨k, hk, rfl, hB, hG⟩ := hrel
    have HKW := Lib.hid (show KsAt wr from fun i hi => (hG.cell (p := ⟨0, i, none⟩) hg).trans (HK.out i hi))
    by_cases hlt : k < n
    · obtain ⟨g, o, rfl, hgb, hcell⟩ := (H.out.below hG).2 (by omega)
      have c1 := hcell k hlt
      have hll : (ls.getD k []).length ≤ 140737488355328 := by
        have : k < ls.length := by rw [H.out.1]; exact hlt
        rw [List.getD_eq_getElem?_getD, List.getElem?_eq_getElem this]
        exact HL.out _ (List.getElem_mem this)
      have hsu := sumTo_succ bl k (by rw [HBN.out]; exact hlt)
      rw [show bl.getD k [] = boundL (ls.getD k []) by rw [hbl.out]; exact boundLs_getD ls k (by rw [H.out.1]; exact hlt)] at hsu
      obtain ⟨lk, hlk⟩ : ∃ lk, Hid (lk = ls.getD k []) := ⟨_, rfl⟩
      rw [← hlk.out] at c1 hll hsu
      have hsz : (⟨lk.toArray⟩ : ByteArray).size = lk.length := by simp [ByteArray.size]
      have hsu' : sumTo bl (k + 1) = (sumTo bl k ++ eightL lk.length) ++ lk := by rw [hsu, List.append_assoc]; rfl
      have HSU := Lib.hid hsu'
      have HB := Lib.hid hB
      have HG := Lib.hid hG
      clear hcell hsu hB hG hsu'
      go_wp2_with fail
      refine (eight_any lk.length _ (by omega)).mono ?_
      rintro e w2 ⟨rfl, b2⟩
      have HB2 := Lib.hid (HB.out.below b2 HB.out.lt)
      have HG2 := Lib.hid (HG.out.trans (b2.mono HG.out.size))
      have HK2 := Lib.hid (show KsAt w2 from fun i hi => (b2.cell (p := ⟨0, i, none⟩) (by have := HB.out.lt; show 0 < _; omega)).trans (HKW.out i hi))
      clear b2
      go_wp2_with fail
      refine (take_any w.heap.size _ _ _ (eightL lk.length) (pushes_ok st0_ok _) (by rw [eightL_length]; decide) HB2.out HK2.out hg).mono ?_
      rintro e w3 ⟨rfl, h3, g3⟩
      rw [← pushes_append, ofNat_add64, ← List.length_append] at h3
      have H3 := Lib.hid h3
      have G3 := Lib.hid (below_of_only HG2.out g3 (Nat.le_refl _) HG2.out.size)
      have HK3 := Lib.hid (show KsAt w3 from fun i hi => g3.cell (HK2.out i hi) (by simp; omega))
      clear h3 g3
      go_wp2_with fail
      refine (take_any w.heap.size _ _ _ lk (pushes_ok st0_ok _) hll H3.out HK3.out hg).mono ?_
      rintro e w4 ⟨rfl, h4, g4⟩
      rw [← pushes_append, ofNat_add64, ← List.length_append, ← HSU.out] at h4
      have H4 := Lib.hid h4
      have G4 := Lib.hid (below_of_only G3.out g4 (Nat.le_refl _) G3.out.size)
      clear h4 g4
      go_wp2_with fail
      exact ⟨⟨k + 1, by omega, by go_num, H4.out, G4.out⟩, by simp [intOf]; omega⟩
    · obtain rfl : k = n := by omega
      have hfl : sumTo bl k = (boundLs ls).flatten := by unfold sumTo; rw [← HBN.out, List.take_length, hbl.out]
      rw [hfl] at hB
      have HB := Lib.hid hB
      have HG := Lib.hid hG
      clear hB hG hfl
      go_wp2_with fail
      refine (end_any w.heap.size _ _ _ (pushes_ok st0_ok _) HB.out HKW.out hg).mono ?_
      rintro e w2 ⟨rfl, g2⟩
      obtain ⟨R, hR⟩ : ∃ R, Hid (R = sha (boundLs ls).flatten) := ⟨_, rfl⟩
      rw [finish_mod, show finish (pushes st0 (boundLs ls).flatten) (boundLs ls).flatten.length = R from hR.out.symm]
      have G2 := Lib.hid (below_of_only HG.out g2 (Nat.le_refl _) HG.out.size)
      clear g2
      go_wp2_with fail
      go_ret
      refine ⟨?_, G2.out⟩
      rw [hR.out]
      rfl

set_option maxHeartbeats 800000 in
theorem short_bad (k : Int) (v : Value) (w : World) (h : k < 1 ∨ 32 < k) :
    Calls Tryd.prog 16 #[.int .i64 k, v] w fun e w' => e = .returned (.tuple #[.string ⟨#[]⟩, .int .i64 1]) ∧ w' = w := by
  by_cases h1 : k < 1
  · go_enter Tryd.func16, Tryd.ntmps16
    go_wp2_with fail
    go_ret2
    exact ⟨rfl, rfl⟩
  · have h2 : 32 < k := by omega
    go_enter Tryd.func16, Tryd.ntmps16
    go_wp2_with fail
    go_ret2
    exact ⟨rfl, rfl⟩
set_option maxHeartbeats 800000 in
theorem short_any (k : Int) (hk1 : 1 ≤ k) (hk2 : k ≤ 32) (A : Option Addr) (n c : Nat) (w : World) (ls : List (List UInt8)) (h : Strs w A n ls) (hlen : ∀ l ∈ ls, l.length ≤ 140737488355328) (hn : n ≤ 9223372036854775807) (hk : KsAt w) (hg : 0 < w.heap.size) :
    Calls Tryd.prog 16 #[.int .i64 k, .slice A n c] w fun e w' => e = .returned (.tuple #[.string ⟨((sha ls.flatten).take k.toNat).toArray⟩, .int .i64 0]) ∧ Below w.heap.size w w' := by
  obtain ⟨m, rfl⟩ := Int.eq_ofNat_of_zero_le (show 0 ≤ k by omega)
  rw [Int.toNat_natCast]
  have H := Lib.hid h
  have HL := Lib.hid hlen
  have HK := Lib.hid hk
  clear h hlen hk
  go_enter Tryd.func16, Tryd.ntmps16
  go_wp2_with fail
  refine (sum_any A n c w ls H.out HL.out hn HK.out hg).mono ?_
  rintro e w1 ⟨rfl, b1⟩
  obtain ⟨R, hR⟩ : ∃ R, Hid (R = sha ls.flatten) := ⟨_, rfl⟩
  rw [← hR.out]
  have hRl : R.length = 32 := by rw [hR.out]; exact sha_length _
  have hsz : (⟨R.toArray⟩ : ByteArray).size = 32 := by simp [ByteArray.size, hRl]
  have HX := Lib.hid (extract_take R m)
  have B1 := Lib.hid b1
  clear b1
  go_wp2_with fail
  go_ret2
  refine ⟨?_, B1.out⟩
  rw [← hR.out]
  simp only [HX.out]
  rfl
end Go.Proofs.YtjkppikpgiageaaDoor

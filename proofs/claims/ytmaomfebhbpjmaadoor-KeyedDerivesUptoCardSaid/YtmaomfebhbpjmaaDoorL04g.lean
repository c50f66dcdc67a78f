/- Laws of layer 4: the walk of KeyedDerives. -/
import Derived.Test.YtmaomfebhbpjmaaDoorL04f
namespace Go.Proofs.YtmaomfebhbpjmaaDoor
open Go.RowKit
set_option linter.unusedSimpArgs false
set_option linter.unusedVariables false
set_option maxHeartbeats 400000 in
theorem refDerive_bad (a b : List UInt8) (n : Int) (w : World) (h : n < 0 ∨ 8160 < n) (ha : a.length ≤ 1048576) :
    Calls Tryd.prog 20 #[.string ⟨a.toArray⟩, .string ⟨b.toArray⟩, .int .i64 n] w fun e w' => e = .returned (.tuple #[.string ⟨#[]⟩, .int .i64 1]) ∧ Below w.heap.size w w' := by
  go_enter Tryd.func20, Tryd.ntmps20
  go_wp2_with fail
  refine (refTag_any [100, 111, 118, 101, 99, 111, 116, 101] a w (by decide) (by omega)).mono ?_
  rintro e w1 ⟨rfl, b1⟩
  obtain ⟨T, hT⟩ : ∃ T, Hid (T = tagL [100, 111, 118, 101, 99, 111, 116, 101] a) := ⟨_, rfl⟩
  rw [← hT.out]
  have B1 := Lib.hid b1
  clear b1
  go_wp2_with fail
  refine (refExpand_bad _ _ n w1 h).mono ?_
  rintro e w2 ⟨rfl, rfl⟩
  go_wp2_with fail
  go_ret2
  exact ⟨rfl, B1.out⟩
set_option maxHeartbeats 400000 in
theorem refDerive_any (a b : List UInt8) (n : Nat) (hn : n ≤ 8160) (w : World) (ha : a.length ≤ 1048576) (hb : b.length ≤ 1048576) :
    Calls Tryd.prog 20 #[.string ⟨a.toArray⟩, .string ⟨b.toArray⟩, .int .i64 n] w fun e w' => e = .returned (.tuple #[.string ⟨(expL (tagL [100, 111, 118, 101, 99, 111, 116, 101] a) b n).toArray⟩, .int .i64 0]) ∧ Below w.heap.size w w' := by
  go_enter Tryd.func20, Tryd.ntmps20
  go_wp2_with fail
  refine (refTag_any [100, 111, 118, 101, 99, 111, 116, 101] a w (by decide) (by omega)).mono ?_
  rintro e w1 ⟨rfl, b1⟩
  obtain ⟨T, hT⟩ : ∃ T, Hid (T = tagL [100, 111, 118, 101, 99, 111, 116, 101] a) := ⟨_, rfl⟩
  rw [← hT.out]
  have B1 := Lib.hid b1
  clear b1
  go_wp2_with fail
  refine (refExpand_any T b n hn w1 (by rw [hT.out, tagL_length]; omega) hb).mono ?_
  rintro e w2 ⟨rfl, b2⟩
  obtain ⟨X, hX⟩ : ∃ X, Hid (X = expL T b n) := ⟨_, rfl⟩
  rw [← hX.out]
  have B2 := Lib.hid (B1.out.trans (b2.mono B1.out.size))
  clear b2
  go_wp2_with fail
  go_ret2
  exact ⟨by rw [← hT.out, ← hX.out]; rfl, B2.out⟩
set_option maxHeartbeats 1000000 in
set_option maxRecDepth 100000 in
theorem law_KeyedDerives (a b : List UInt8) (z : Int) (w : World) (ha : a.length ≤ 1048576) (hb : b.length ≤ 1048576) (hk : KsAt w) (hg : 0 < w.heap.size) :
    Calls Tryd.prog 8 #[.string ⟨a.toArray⟩, .string ⟨b.toArray⟩, .int .i64 z] w fun e w' => e = .returned (.bool true) ∧ Below w.heap.size w w' := by
  have HK := Lib.hid hk
  clear hk
  go_enter Tryd.func8, Tryd.ntmps8
  rcases (show z < 0 ∨ 8160 < z ∨ (2000 < z ∧ z ≤ 8160) ∨ (0 ≤ z ∧ z ≤ 2000) by omega) with hz | hz | hz | hz
  · have h : z < 0 ∨ 8160 < z := Or.inl hz
    have d1 : decide ((2000 : Int) < z) = false := by simp; omega
    have H := Lib.hid h
    clear h
    go_wp2_with fail
    refine (expand_bad _ _ z w H.out).mono ?_
    rintro e w1 ⟨rfl, rfl⟩
    go_wp2_with fail
    refine (refExpand_bad _ _ z w1 H.out).mono ?_
    rintro e w2 ⟨rfl, rfl⟩
    go_wp2_with fail
    refine (derive_bad a b z w2 H.out (by omega) HK.out hg).mono ?_
    rintro e w3 ⟨rfl, b3⟩
    have B3 := Lib.hid b3
    clear b3
    go_wp2_with fail
    refine (refDerive_bad a b z w3 H.out (by omega)).mono ?_
    rintro e w4 ⟨rfl, b4⟩
    have B4 := Lib.hid (B3.out.trans (b4.mono B3.out.size))
    clear b4
    go_wp2_with fail
    refine (works04_any w4 (HK.out.below hg B4.out) (Nat.lt_of_lt_of_le hg B4.out.size)).mono ?_
    rintro e w5 ⟨rfl, b5⟩
    have B5 := Lib.hid (B4.out.trans (b5.mono B4.out.size))
    clear b5
    go_wp2_with fail
    go_ret
    exact ⟨rfl, B5.out⟩
  · have h : z < 0 ∨ 8160 < z := Or.inr hz
    have d1 : (2000 : Int) < z := by omega
    have d2 : decide (z ≤ (8160 : Int)) = false := by simp; omega
    have H := Lib.hid h
    clear h
    go_wp2_with fail
    refine (expand_bad _ _ z w H.out).mono ?_
    rintro e w1 ⟨rfl, rfl⟩
    go_wp2_with fail
    refine (refExpand_bad _ _ z w1 H.out).mono ?_
    rintro e w2 ⟨rfl, rfl⟩
    go_wp2_with fail
    refine (derive_bad a b z w2 H.out (by omega) HK.out hg).mono ?_
    rintro e w3 ⟨rfl, b3⟩
    have B3 := Lib.hid b3
    clear b3
    go_wp2_with fail
    refine (refDerive_bad a b z w3 H.out (by omega)).mono ?_
    rintro e w4 ⟨rfl, b4⟩
    have B4 := Lib.hid (B3.out.trans (b4.mono B3.out.size))
    clear b4
    go_wp2_with fail
    refine (works04_any w4 (HK.out.below hg B4.out) (Nat.lt_of_lt_of_le hg B4.out.size)).mono ?_
    rintro e w5 ⟨rfl, b5⟩
    have B5 := Lib.hid (B4.out.trans (b5.mono B4.out.size))
    clear b5
    go_wp2_with fail
    go_ret
    exact ⟨rfl, B5.out⟩
  · obtain ⟨d1, d2⟩ := hz
    go_wp2_with fail
    refine (works04_any w HK.out hg).mono ?_
    rintro e w1 ⟨rfl, b1⟩
    have B1 := Lib.hid b1
    clear b1
    go_wp2_with fail
    go_ret
    exact ⟨rfl, B1.out⟩
  · obtain ⟨m, rfl⟩ := Int.eq_ofNat_of_zero_le hz.1
    have hm : m ≤ 2000 := by omega
    have d1 : decide ((2000 : Int) < (m : Int)) = false := by simp; omega
    clear hz
    obtain ⟨X, hX⟩ : ∃ X, Hid (X = expL a b m) := ⟨_, rfl⟩
    obtain ⟨Y, hY⟩ : ∃ Y, Hid (Y = expL (tagL [100, 111, 118, 101, 99, 111, 116, 101] a) b m) := ⟨_, rfl⟩
    go_wp2_with fail
    refine (expand_any a b m (by omega) w (by omega) (by omega) HK.out hg).mono ?_
    rintro e w1 ⟨rfl, b1⟩
    rw [← hX.out]
    have B1 := Lib.hid b1
    clear b1
    go_wp2_with fail
    refine (refExpand_any a b m (by omega) w1 (by omega) hb).mono ?_
    rintro e w2 ⟨rfl, b2⟩
    rw [← hX.out]
    have B2 := Lib.hid (B1.out.trans (b2.mono B1.out.size))
    clear b2
    go_wp2_with fail
    refine (derive_any a b m (by omega) w2 (by omega) (by omega) (HK.out.below hg B2.out) (Nat.lt_of_lt_of_le hg B2.out.size)).mono ?_
    rintro e w3 ⟨rfl, b3⟩
    rw [← hY.out]
    have B3 := Lib.hid (B2.out.trans (b3.mono B2.out.size))
    clear b3
    go_wp2_with fail
    refine (refDerive_any a b m (by omega) w3 ha hb).mono ?_
    rintro e w4 ⟨rfl, b4⟩
    rw [← hY.out]
    have B4 := Lib.hid (B3.out.trans (b4.mono B3.out.size))
    clear b4
    go_wp2_with fail
    refine (works04_any w4 (HK.out.below hg B4.out) (Nat.lt_of_lt_of_le hg B4.out.size)).mono ?_
    rintro e w5 ⟨rfl, b5⟩
    have B5 := Lib.hid (B4.out.trans (b5.mono B4.out.size))
    clear b5
    go_wp2_with fail
    go_ret
    exact ⟨rfl, B5.out⟩
end Go.Proofs.YtmaomfebhbpjmaaDoor

/- Laws of layer 3: the walks of HashHex and HashShort. -/
import Derived.Test.YtjkppikpgiageaaDoorHashW
import Derived.Test.YtjkppikpgiageaaDoorRef03
import Derived.Deep.RegionWith
import Derived.Deep.RegionHeld3
import Derived.WalkLawsBesides
namespace Go.Proofs.YtjkppikpgiageaaDoor
open Go.RowKit
set_option linter.unusedSimpArgs false
set_option linter.unusedVariables false

set_option maxHeartbeats 1000000 in
set_option maxRecDepth 100000 in
theorem law_HashHex (a : List UInt8) (w : World) (ha : a.length ≤ 1048576) (hk : KsAt w) (hg : 0 < w.heap.size) :
    Calls Tryd.prog 4 #[.string ⟨a.toArray⟩] w fun e w' => e = .returned (.bool true) ∧ Below w.heap.size w w' := by
  have HK := Lib.hid hk
  clear hk
  go_enter Tryd.func4, Tryd.ntmps4
  go_wp2_with fail
  refine (hex_any a _ (by omega)).mono ?_
  rintro e w2 ⟨rfl, b2⟩
  obtain ⟨x, hx⟩ : ∃ x, Hid (x = hexL a) := ⟨_, rfl⟩
  rw [← hx.out]
  have B2 := Lib.hid b2
  clear b2
  go_wp2_with fail
  refine (refHex_any a _ (by omega)).mono ?_
  rintro e w3 ⟨rfl, b3⟩
  rw [← hx.out]
  have B3 := Lib.hid (B2.out.trans (b3.mono B2.out.size))
  clear b3
  go_wp2_with fail
  refine (works_any _ (HK.out.below hg B3.out) (Nat.lt_of_lt_of_le hg B3.out.size)).mono ?_
  rintro e w4 ⟨rfl, b4⟩
  have B4 := Lib.hid (B3.out.trans (b4.mono B3.out.size))
  clear b4
  go_wp2_with fail
  go_ret
  exact ⟨rfl, B4.out⟩

theorem mod32 (n : Int) : ∃ k : Nat, k < 32 ∧ IntKind.u64.wrap n % 32 = k ∧ (IntKind.u64.wrap n).tmod 32 = k := by
  have h1 : 0 ≤ IntKind.u64.wrap n := by rw [wrap_u64e]; omega
  refine ⟨(IntKind.u64.wrap n % 32).toNat, by omega, by omega, by rw [Int.tmod_eq_emod_of_nonneg h1]; omega⟩
set_option maxHeartbeats 2000000 in
set_option maxRecDepth 100000 in
theorem law_HashShort (a : List UInt8) (n m : Int) (w : World) (ha : a.length ≤ 140737488351232) (hk : KsAt w) (hg : 0 < w.heap.size) :
    Calls Tryd.prog 9 #[.string ⟨a.toArray⟩, .int .i64 n, .int .i64 m] w fun e w' => e = .returned (.bool true) ∧ Below w.heap.size w w' := by
  have HK := Lib.hid hk
  clear hk
  obtain ⟨p, hp, hp1, hp2⟩ := mod32 n
  obtain ⟨q, hq, hq1, hq2⟩ := mod32 m
  go_enter Tryd.func9, Tryd.ntmps9
  go_wp2_with fail
  refine (works_any w HK.out hg).mono ?_
  rintro e w1 ⟨rfl, b1⟩
  have B1 := Lib.hid b1
  clear b1
  go_wp2_with fail
  have HP := Lib.hid hp1
  have HQ := Lib.hid hq1
  clear hp1 hp2 hq1 hq2
  have B2 := Lib.hid (B1.out.alloc B1.out.size (.cells #[.string ⟨a.toArray⟩] 9))
  refine (short_any _ (by omega) (by omega) _ 1 1 _ [a] (strs_one w1 9 a) (by intro l hl; simp at hl; subst hl; omega) (by decide) (HK.out.below hg B2.out) (Nat.lt_of_lt_of_le hg B2.out.size)).mono ?_
  rintro e w3 ⟨rfl, b3⟩
  have B3 := Lib.hid (B2.out.trans (b3.mono B2.out.size))
  obtain ⟨R, hR⟩ : ∃ R, Hid (R = sha a) := ⟨_, rfl⟩
  have hfl : sha ([a] : List (List UInt8)).flatten = R := by rw [hR.out]; simp
  have HFL := Lib.hid hfl
  rw [HFL.out, show ((1 : Int) + (p : Int)).toNat = 1 + p from by omega]
  clear b3 hfl
  go_wp2_with fail
  have B4 := Lib.hid (B3.out.alloc B3.out.size (.cells #[.string ⟨a.toArray⟩] 9))
  refine (short_any _ (by omega) (by omega) _ 1 1 _ [a] (strs_one w3 9 a) (by intro l hl; simp at hl; subst hl; omega) (by decide) (HK.out.below hg B4.out) (Nat.lt_of_lt_of_le hg B4.out.size)).mono ?_
  rintro e w5 ⟨rfl, b5⟩
  have B5 := Lib.hid (B4.out.trans (b5.mono B4.out.size))
  rw [HFL.out, show ((1 : Int) + (q : Int)).toNat = 1 + q from by omega]
  clear b5
  go_wp2_with fail
  have B6 := Lib.hid (B5.out.alloc B5.out.size (.cells #[.string ⟨a.toArray⟩] 9))
  refine (short_any 32 (by omega) (by omega) _ 1 1 _ [a] (strs_one w5 9 a) (by intro l hl; simp at hl; subst hl; omega) (by decide) (HK.out.below hg B6.out) (Nat.lt_of_lt_of_le hg B6.out.size)).mono ?_
  rintro e w7 ⟨rfl, b7⟩
  have B7 := Lib.hid (B6.out.trans (b7.mono B6.out.size))
  have hR32 : R.length = 32 := by rw [hR.out]; exact sha_length _
  rw [HFL.out, show (32 : Int).toNat = 32 from rfl, List.take_of_length_le (by omega)]
  clear b7
  go_wp2_with fail
  obtain ⟨K, hK⟩ : ∃ K : Nat, K = 1 + min p q := ⟨_, rfl⟩
  rw [show (1 + min (p : Int) (q : Int)) = (K : Int) by omega]
  obtain ⟨P1, hP1⟩ : ∃ K : Nat, K = 1 + p := ⟨_, rfl⟩
  obtain ⟨Q1, hQ1⟩ : ∃ K : Nat, K = 1 + q := ⟨_, rfl⟩
  rw [show (1 + (p : Int)) = (P1 : Int) by omega, show (1 + (q : Int)) = (Q1 : Int) by omega, ← hP1, ← hQ1]
  have hK1 : K ≤ P1 := by omega
  have hK2 : K ≤ Q1 := by omega
  obtain ⟨X, hX⟩ : ∃ X, Hid (X = R.take P1) := ⟨_, rfl⟩
  obtain ⟨Y, hY⟩ : ∃ Y, Hid (Y = R.take Q1) := ⟨_, rfl⟩
  have x1 : X.length = P1 := by rw [hX.out, List.length_take]; omega
  have y1 : Y.length = Q1 := by rw [hY.out, List.length_take]; omega
  have xs : (⟨X.toArray⟩ : ByteArray).size = X.length := by simp [ByteArray.size]
  have ys : (⟨Y.toArray⟩ : ByteArray).size = Y.length := by simp [ByteArray.size]
  have rs : (⟨R.toArray⟩ : ByteArray).size = R.length := by simp [ByteArray.size]
  have x2 : ((X.length : Int) == (P1 : Int)) = true := by simp; omega
  have y2 : ((Y.length : Int) == (Q1 : Int)) = true := by simp; omega
  have x3 : (K : Int) ≤ (X.length : Int) := by omega
  have y3 : (K : Int) ≤ (Y.length : Int) := by omega
  have r3 : (P1 : Int) ≤ (R.length : Int) := by omega
  have x4 : (⟨X.toArray⟩ : ByteArray).extract 0 K = ⟨(R.take K).toArray⟩ := by rw [extract_take, hX.out, List.take_take, Nat.min_eq_left hK1]
  have y4 : (⟨Y.toArray⟩ : ByteArray).extract 0 K = ⟨(R.take K).toArray⟩ := by rw [extract_take, hY.out, List.take_take, Nat.min_eq_left hK2]
  have r4 : (⟨R.toArray⟩ : ByteArray).extract 0 P1 = ⟨X.toArray⟩ := by rw [extract_take, hX.out]
  rw [← hX.out, ← hY.out]
  clear x1 y1 hK hR32 hP1 hQ1
  have D0 := Lib.hid (show Below w.heap.size w (w7.alloc (.cells #[.string ⟨a.toArray⟩] 9)).drew from (B7.out.alloc B7.out.size _).drew)
  have D1 := Lib.hid (show Strs (w7.alloc (.cells #[.string ⟨a.toArray⟩] 9)).drew (some ⟨w7.heap.size, 0, none⟩) 1 [a] from strs_one w7 9 a)
  have D2 := Lib.hid (sum_any (some ⟨w7.heap.size, 0, none⟩) 1 1 _ [a] D1.out (by intro l hl; simp at hl; subst hl; omega) (by decide) (HK.out.below hg D0.out) (Nat.lt_of_lt_of_le hg D0.out.size))
  rw [HFL.out] at D2
  go_region_held3 (fun _ => True) (trivial) (first | (refine D2.out.mono ?_; rintro e w9 ⟨rfl, b9⟩))
  go_wp2_with fail
  go_ret
  exact ⟨rfl, D0.out.trans (b9.mono D0.out.size)⟩
end Go.Proofs.YtjkppikpgiageaaDoor

/- Laws of layer 4: the walks of KeyedStarts and KeyedBlocks. -/
import Derived.Test.YtmaomfebhbpjmaaDoorKeyX
namespace Go.Proofs.YtmaomfebhbpjmaaDoor
open Go.RowKit
set_option linter.unusedSimpArgs false
set_option linter.unusedVariables false
theorem expandL_take (key info : List UInt8) (i j : Nat) (h : i ≤ j) : (expandL key info j).take (32 * i) = expandL key info i := by
  induction j with
  | zero => obtain rfl : i = 0 := by omega
            rfl
  | succ j ih =>
    by_cases hij : i ≤ j
    · rw [expandL, List.take_append_of_le_length (by rw [expandL_length]; omega), ih hij]
    · obtain rfl : i = j + 1 := by omega
      rw [List.take_of_length_le (by rw [expandL_length]; omega)]
theorem expL_take (key info : List UInt8) (n m : Nat) (h : n ≤ m) : (expL key info m).take n = expL key info n := by
  have hc : cntL n ≤ cntL m := by unfold cntL; omega
  have h1 : n ≤ 32 * cntL n := by unfold cntL; omega
  unfold expL
  rw [List.take_take, Nat.min_eq_left h, ← expandL_take key info (cntL n) (cntL m) hc, List.take_take, Nat.min_eq_left h1]
theorem expL_full (key info : List UInt8) (m : Nat) : expL key info (32 * m) = expandL key info m := by
  have : cntL (32 * m) = m := by unfold cntL; omega
  rw [expL, this, List.take_of_length_le (by rw [expandL_length]; omega)]
theorem expandL_piece (key info : List UInt8) (m i : Nat) (h : i < m) : ((expandL key info m).drop (32 * i)).take 32 = lastL key info (i + 1) := by
  have h1 := expandL_take key info (i + 1) m (by omega)
  have h2 : ((expandL key info m).take (32 * (i + 1))).drop (32 * i) = lastL key info (i + 1) := by
    rw [h1, expandL, List.drop_left' (expandL_length key info i)]
  rw [← h2, List.drop_take]
  congr 1
  omega
set_option maxHeartbeats 1000000 in
set_option maxRecDepth 100000 in
theorem law_KeyedStarts (a b : List UInt8) (z : Int) (w : World) (ha : a.length ≤ 140737488351232) (hb : b.length ≤ 140737488351232) (hk : KsAt w) (hg : 0 < w.heap.size) :
    Calls Tryd.prog 9 #[.string ⟨a.toArray⟩, .string ⟨b.toArray⟩, .int .i64 z] w fun e w' => e = .returned (.bool true) ∧ Below w.heap.size w w' := by
  have HK := Lib.hid hk
  clear hk
  obtain ⟨m, hm, hm1, hm2⟩ : ∃ k : Nat, k < 1000 ∧ IntKind.u64.wrap z % 1000 = k ∧ (IntKind.u64.wrap z).tmod 1000 = k := by
    have h1 : 0 ≤ IntKind.u64.wrap z := by rw [wrap_u64e]; omega
    refine ⟨(IntKind.u64.wrap z % 1000).toNat, by omega, by omega, by rw [Int.tmod_eq_emod_of_nonneg h1]; omega⟩
  obtain ⟨T, hT⟩ : ∃ T, Hid (T = tagL [100, 111, 118, 101, 99, 111, 116, 101] a) := ⟨_, rfl⟩
  obtain ⟨X, hX⟩ : ∃ X, Hid (X = expL T b m) := ⟨_, rfl⟩
  obtain ⟨m2, hm2'⟩ : ∃ m2, Hid (m2 = m + 100) := ⟨_, rfl⟩
  obtain ⟨Y, hY⟩ : ∃ Y, Hid (Y = expL T b m2) := ⟨_, rfl⟩
  have hXs : (⟨X.toArray⟩ : ByteArray).size = m := by simp [ByteArray.size]; rw [hX.out, expL_length]
  have hYs : (⟨Y.toArray⟩ : ByteArray).size = m2 := by simp [ByteArray.size]; rw [hY.out, expL_length]
  have hYX := Lib.hid (show Y.take m = X by rw [hY.out, hX.out, expL_take T b m m2 (by rw [hm2'.out]; omega)])
  have hYx : (⟨Y.toArray⟩ : ByteArray).extract 0 m = ⟨X.toArray⟩ := by rw [extract_take, hYX.out]
  have hTl := Lib.hid (show T.length = 32 by rw [hT.out]; exact tagL_length _ _)
  have e2 := Lib.hid (show (m : Int) + 100 = (m2 : Int) by rw [hm2'.out]; omega)
  have hmm : m ≤ m2 := by rw [hm2'.out]; omega
  have hmmI : (m : Int) ≤ (m2 : Int) := by omega
  have hm2l : m2 ≤ 8160 := by rw [hm2'.out]; omega
  go_enter Tryd.func9, Tryd.ntmps9
  go_wp2_with fail
  refine (works04_any w HK.out hg).mono ?_
  rintro e w1 ⟨rfl, b1⟩
  have B1 := Lib.hid b1
  clear b1
  go_wp2_with fail
  refine (derive_any a b m (by omega) w1 ha hb (HK.out.below hg B1.out) (Nat.lt_of_lt_of_le hg B1.out.size)).mono ?_
  rintro e w2 ⟨rfl, b2⟩
  rw [← hT.out, ← hX.out]
  have B2 := Lib.hid (B1.out.trans (b2.mono B1.out.size))
  clear b2
  go_wp2_with fail
  simp only [e2.out]
  refine (derive_any a b m2 hm2l w2 ha hb (HK.out.below hg B2.out) (Nat.lt_of_lt_of_le hg B2.out.size)).mono ?_
  rintro e w3 ⟨rfl, b3⟩
  rw [← hT.out, ← hY.out]
  have B3 := Lib.hid (B2.out.trans (b3.mono B2.out.size))
  clear b3
  go_wp2_with fail
  refine (extract_any [100, 111, 118, 101, 99, 111, 116, 101] a w3 (by decide) ha (HK.out.below hg B3.out) (Nat.lt_of_lt_of_le hg B3.out.size)).mono ?_
  rintro e w4 ⟨rfl, b4⟩
  rw [← hT.out]
  have B4 := Lib.hid (B3.out.trans (b4.mono B3.out.size))
  clear b4
  go_wp2_with fail
  refine (expand_any T b m (by omega) w4 (by rw [hTl.out]; omega) hb (HK.out.below hg B4.out) (Nat.lt_of_lt_of_le hg B4.out.size)).mono ?_
  rintro e w5 ⟨rfl, b5⟩
  rw [← hX.out]
  have B5 := Lib.hid (B4.out.trans (b5.mono B4.out.size))
  clear b5
  have hq2 : ((m2 : Int) == (m : Int) + 100) = true := by rw [hm2'.out]; simp
  go_wp2_with fail
  go_ret
  exact ⟨rfl, B5.out⟩
end Go.Proofs.YtmaomfebhbpjmaaDoor

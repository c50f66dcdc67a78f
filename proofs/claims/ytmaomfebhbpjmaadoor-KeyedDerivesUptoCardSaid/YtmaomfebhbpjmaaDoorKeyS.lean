/- The walks of keyed.Same, Extract, and of dovecotelaw04's works. -/
import Derived.Test.YtmaomfebhbpjmaaDoorKeyW
import Derived.Test.YtmaomfebhbpjmaaDoorHex
import Derived.RegionTactic
import Derived.BigRegion
namespace Go.Proofs.YtmaomfebhbpjmaaDoor
open Go.RowKit
set_option linter.unusedSimpArgs false
set_option linter.unusedVariables false
theorem toNat64 (m : Nat) (h : m < 4611686018427387904) : (BitVec.ofInt 64 (m : Int)).toNat = m := by
  rw [BitVec.ofInt_natCast, BitVec.toNat_ofNat]
  exact Nat.mod_eq_of_lt (by omega)
theorem bits_or_nat (m n : Nat) (hm : m < 4611686018427387904) (hn : n < 4611686018427387904) : bits .or .i64 (m : Int) (n : Int) = ((m ||| n : Nat) : Int) := by
  show IntKind.i64.wrap ((BitVec.ofInt 64 (m : Int) ||| BitVec.ofInt 64 (n : Int)).toNat : Int) = _
  rw [BitVec.toNat_or, toNat64 m hm, toNat64 n hn]
  have := Nat.or_lt_two_pow (n := 62) hm hn
  rw [IntKind.wrap_i64]
  omega
theorem bits_xor_nat (m n : Nat) (hm : m < 4611686018427387904) (hn : n < 4611686018427387904) : bits .xor .i64 (m : Int) (n : Int) = ((m ^^^ n : Nat) : Int) := by
  show IntKind.i64.wrap ((BitVec.ofInt 64 (m : Int) ^^^ BitVec.ofInt 64 (n : Int)).toNat : Int) = _
  rw [BitVec.toNat_xor, toNat64 m hm, toNat64 n hn]
  have := Nat.xor_lt_two_pow (n := 62) hm hn
  rw [IntKind.wrap_i64]
  omega
theorem or_zero_iff (m n : Nat) : m ||| n = 0 ↔ m = 0 ∧ n = 0 := by
  constructor
  · intro h
    constructor
    · have := Nat.left_le_or (m := n) (n := m); omega
    · have := Nat.right_le_or (m := n) (n := m); omega
  · rintro ⟨rfl, rfl⟩; rfl
theorem xor_zero_iff (m n : Nat) : m ^^^ n = 0 ↔ m = n := by
  constructor
  · intro h
    have h1 : (m ^^^ n) ^^^ n = 0 ^^^ n := by rw [h]
    rw [Nat.xor_assoc, Nat.xor_self, Nat.xor_zero, Nat.zero_xor] at h1
    exact h1
  · rintro rfl; exact Nat.xor_self _
set_option maxHeartbeats 1000000 in
set_option maxRecDepth 100000 in
theorem same_any (a b : List UInt8) (w : World) (ha : a.length ≤ 140737488355328) (hb : b.length ≤ 140737488355328) :
    Calls Tryd.prog 15 #[.string ⟨a.toArray⟩, .string ⟨b.toArray⟩] w fun e w' => e = .returned (.bool (a == b)) ∧ Below w.heap.size w w' := by
  have hsa : (⟨a.toArray⟩ : ByteArray).size = a.length := by simp [ByteArray.size]
  have hsb : (⟨b.toArray⟩ : ByteArray).size = b.length := by simp [ByteArray.size]
  obtain ⟨n, hn⟩ : ∃ n, Hid (n = min a.length b.length) := ⟨_, rfl⟩
  have hmin : min (a.length : Int) (b.length : Int) = (n : Int) := by rw [hn.out]; omega
  have hnb : n ≤ 140737488355328 := by rw [hn.out]; omega
  have hxl := bits_xor_nat a.length b.length (by omega) (by omega)
  obtain ⟨u0, hu0⟩ : ∃ u0, Hid (u0 = a.length ^^^ b.length) := ⟨_, rfl⟩
  rw [← hu0.out] at hxl
  have hu0l : u0 < 281474976710656 := by rw [hu0.out]; exact Nat.xor_lt_two_pow (n := 48) (by omega) (by omega)
  go_enter Tryd.func15, Tryd.ntmps15
  go_wp2_with fail
  go_loopw [5, 6, 17] (fun v5 v6 v17 wx => ∃ i u : Nat, i ≤ n ∧ v17 = .int .i64 i ∧ v5 = .int .i64 u ∧ u < 281474976710656 ∧ (u = 0 ↔ a.length = b.length ∧ a.take i = b.take i) ∧ Below w.heap.size w wx) (fun _ _ v _ => n - (intOf v).toNat)
  case atStart => exact ⟨0, u0, by omega, rfl, rfl, hu0l, by rw [hu0.out, xor_zero_iff]; simp, Below.refl _ _⟩
  case round =>
    obtain ⟨i, u, hi, rfl, rfl, hu, hiff, hG⟩ := hrel
    have HI := Lib.hid hiff
    have HG := Lib.hid hG
    clear hiff hG
    by_cases hlt : i < n
    · have hia : i < a.length := by have := hn.out; omega
      have hib : i < b.length := by have := hn.out; omega
      obtain ⟨x, hx⟩ : ∃ x, Hid (x = a[i]) := ⟨a[i], Lib.hid rfl⟩
      obtain ⟨y, hy⟩ : ∃ y, Hid (y = b[i]) := ⟨b[i], Lib.hid rfl⟩
      have hbx : ∀ h, (⟨a.toArray⟩ : ByteArray)[i]'h = x := fun h => hx.out.symm
      have hby : ∀ h, (⟨b.toArray⟩ : ByteArray)[i]'h = y := fun h => hy.out.symm
      obtain ⟨d, hd⟩ : ∃ d, Hid (d = (x ^^^ y).toNat) := ⟨_, rfl⟩
      have hxor : bits .xor .u8 (x.toNat : Int) (y.toNat : Int) = (d : Int) := by rw [hd.out]; exact n8_xor x y
      have hd8 : d < 256 := by rw [hd.out]; exact (x ^^^ y).toNat_lt
      have hor := bits_or_nat u d (by omega) (by omega)
      obtain ⟨u2, hu2⟩ : ∃ u2, Hid (u2 = u ||| d) := ⟨_, rfl⟩
      rw [← hu2.out] at hor
      have hu2l : u2 < 281474976710656 := by rw [hu2.out]; exact Nat.or_lt_two_pow (n := 48) (by omega) (by omega)
      have hiI : (0 : Int) ≤ (i : Int) ∧ (i : Int) < (n : Int) := by omega
      have hiaI : (i : Int) < (a.length : Int) := by omega
      have hibI : (i : Int) < (b.length : Int) := by omega
      go_wp2_with fail
      go_quiet (fail)
      go_wp2_with fail
      go_roundw
      case rel =>
        refine ⟨i + 1, u2, by omega, by go_num, rfl, hu2l, ?_, below_drewN HG.out _⟩
        rw [hu2.out, hd.out, or_zero_iff, HI.out, List.take_succ_eq_append_getElem hia, List.take_succ_eq_append_getElem hib, ← hx.out, ← hy.out]
        have hxy : (x ^^^ y).toNat = 0 ↔ x = y := by
          rw [UInt8.toNat_xor, xor_zero_iff]
          exact ⟨fun h => UInt8.toNat_inj.1 h, fun h => by rw [h]⟩
        rw [hxy]
        constructor
        · rintro ⟨⟨h1, h2⟩, h3⟩
          exact ⟨h1, by rw [h2, h3]⟩
        · rintro ⟨h1, h2⟩
          have := List.append_inj h2 (by simp; omega)
          simp at this
          exact ⟨⟨h1, this.1⟩, this.2⟩
      case measure => simp [intOf]; omega
    · obtain rfl : i = n := by omega
      have hres : ((u : Int) == 0) = (a == b) := by
        have hu00 : ((u : Int) = 0) ↔ u = 0 := by omega
        rw [Bool.eq_iff_iff, beq_iff_eq, beq_iff_eq, hu00, HI.out]
        constructor
        · rintro ⟨h1, h2⟩
          have := hn.out
          rwa [List.take_of_length_le (by omega), List.take_of_length_le (by omega)] at h2
        · rintro rfl; exact ⟨rfl, rfl⟩
      have HR := Lib.hid hres
      clear hres
      go_wp2_with fail
      go_ret
      refine ⟨?_, HG.out⟩
      rw [← HR.out]
      rfl
set_option maxHeartbeats 400000 in
theorem extract_any (a b : List UInt8) (w : World) (ha : a.length ≤ 140737488351232) (hb : b.length ≤ 140737488351232) (hk : KsAt w) (hg : 0 < w.heap.size) :
    Calls Tryd.prog 16 #[.string ⟨a.toArray⟩, .string ⟨b.toArray⟩] w fun e w' => e = .returned (.string ⟨(tagL a b).toArray⟩) ∧ Below w.heap.size w w' := by
  have HK := Lib.hid hk
  clear hk
  go_enter Tryd.func16, Tryd.ntmps16
  go_wp2_with fail
  have B1 := Lib.hid ((Below.refl w.heap.size w).alloc (Nat.le_refl _) (.cells #[.string ⟨b.toArray⟩] 9))
  refine (tag_any a _ 1 1 [b] _ (strs_one w 9 b) ha (by intro l hl; simp at hl; subst hl; omega) (by decide) (HK.out.below hg B1.out) (Nat.lt_of_lt_of_le hg B1.out.size)).mono ?_
  rintro e w2 ⟨rfl, b2⟩
  rw [show ([b] : List (List UInt8)).flatten = b by simp]
  have B2 := Lib.hid (B1.out.trans (b2.mono B1.out.size))
  clear b2
  go_wp2_with fail
  go_ret
  exact ⟨rfl, B2.out⟩
theorem works_hex04 : hexL (tagL [74, 101, 102, 101] [119, 104, 97, 116, 32, 100, 111, 32, 121, 97, 32, 119, 97, 110, 116, 32, 102, 111, 114, 32, 110, 111, 116, 104, 105, 110, 103, 63]) = [53, 98, 100, 99, 99, 49, 52, 54, 98, 102, 54, 48, 55, 53, 52, 101, 54, 97, 48, 52, 50, 52, 50, 54, 48, 56, 57, 53, 55, 53, 99, 55, 53, 97, 48, 48, 51, 102, 48, 56, 57, 100, 50, 55, 51, 57, 56, 51, 57, 100, 101, 99, 53, 56, 98, 57, 54, 52, 101, 99, 51, 56, 52, 51] := by decide +kernel
set_option maxHeartbeats 1000000 in
set_option maxRecDepth 100000 in
theorem works04_any (w : World) (hk : KsAt w) (hg : 0 < w.heap.size) :
    Calls Tryd.prog 13 #[] w fun e w' => e = .returned (.bool true) ∧ Below w.heap.size w w' := by
  have HK := Lib.hid hk
  clear hk
  go_enter Tryd.func13, Tryd.ntmps13
  go_wp2_with fail
  have B0 := Lib.hid ((Below.refl w.heap.size w).alloc (Nat.le_refl _) (.cells #[.string ⟨[119, 104, 97, 116, 32, 100, 111, 32, 121, 97, 32, 119, 97, 110, 116, 32].toArray⟩, .string ⟨[102, 111, 114, 32, 110, 111, 116, 104, 105, 110, 103, 63].toArray⟩] 9))
  refine (tag_any [74, 101, 102, 101] _ 2 2 [[119, 104, 97, 116, 32, 100, 111, 32, 121, 97, 32, 119, 97, 110, 116, 32], [102, 111, 114, 32, 110, 111, 116, 104, 105, 110, 103, 63]] _ (strs_two w 9 [119, 104, 97, 116, 32, 100, 111, 32, 121, 97, 32, 119, 97, 110, 116, 32] [102, 111, 114, 32, 110, 111, 116, 104, 105, 110, 103, 63]) (by decide) (by decide) (by decide) (HK.out.below hg B0.out) (by simp)).mono ?_
  rintro e w1 ⟨rfl, b1⟩
  rw [show ([[119, 104, 97, 116, 32, 100, 111, 32, 121, 97, 32, 119, 97, 110, 116, 32], [102, 111, 114, 32, 110, 111, 116, 104, 105, 110, 103, 63]] : List (List UInt8)).flatten = [119, 104, 97, 116, 32, 100, 111, 32, 121, 97, 32, 119, 97, 110, 116, 32, 102, 111, 114, 32, 110, 111, 116, 104, 105, 110, 103, 63] from rfl]
  obtain ⟨T, hT⟩ : ∃ T, Hid (T = tagL [74, 101, 102, 101] [119, 104, 97, 116, 32, 100, 111, 32, 121, 97, 32, 119, 97, 110, 116, 32, 102, 111, 114, 32, 110, 111, 116, 104, 105, 110, 103, 63]) := ⟨_, rfl⟩
  rw [← hT.out]
  have B1 := Lib.hid (B0.out.trans (b1.mono B0.out.size))
  clear b1
  go_wp2_with fail
  refine (hex_any T _ (by rw [hT.out, tagL_length]; decide)).mono ?_
  rintro e w2 ⟨rfl, b2⟩
  rw [hT.out, works_hex04]
  have B2 := Lib.hid (B1.out.trans (b2.mono B1.out.size))
  clear b2
  go_wp2_with fail
  refine (same_any [120] [120] _ (by decide) (by decide)).mono ?_
  rintro e w3 ⟨rfl, b3⟩
  rw [show (([120] : List UInt8) == [120]) = true from rfl]
  have B3 := Lib.hid (B2.out.trans (b3.mono B2.out.size))
  clear b3
  go_wp2_with fail
  refine (same_any [120] [120, 121] _ (by decide) (by decide)).mono ?_
  rintro e w4 ⟨rfl, b4⟩
  rw [show (([120] : List UInt8) == [120, 121]) = false from rfl]
  have B4 := Lib.hid (B3.out.trans (b4.mono B3.out.size))
  clear b4
  go_wp2_with fail
  go_ret
  exact ⟨rfl, B4.out⟩
end Go.Proofs.YtmaomfebhbpjmaaDoor

/- The walks of keyed.Expand and Derive. -/
import Derived.Test.YtmaomfebhbpjmaaDoorKeyS
import Derived.Test.YtmaomfebhbpjmaaDoorL04a
import Derived.Test.YtmaomfebhbpjmaaDoorBuild2
namespace Go.Proofs.YtmaomfebhbpjmaaDoor
open Go.RowKit
set_option linter.unusedSimpArgs false
set_option linter.unusedVariables false
theorem byteCells_len (l : List UInt8) : (Lib.byteCells l).length = l.length := by simp [Lib.byteCells]
theorem byteCells_cat (a b : List UInt8) : Lib.byteCells (a ++ b) = Lib.byteCells a ++ Lib.byteCells b := by simp [Lib.byteCells]
/-- so many tags make so many bytes. -/
def cntL (n : Nat) : Nat := (n + 31) / 32
def expL (key info : List UInt8) (n : Nat) : List UInt8 := (expandL key info (cntL n)).take n
theorem expL_length (key info : List UInt8) (n : Nat) : (expL key info n).length = n := by
  rw [expL, List.length_take, expandL_length, cntL]
  omega
def msr (v : Value) : Nat := if intOf v = 0 then 0 else 256 - (intOf v).toNat
theorem msr_lt (k u : Nat) (hu : u = (k + 1) % 256) (hk : k < 255) : msr (.int .u8 (((u : Int) + 1) % 256)) < msr (.int .u8 (u : Int)) := by
  have e : ∀ z : Int, msr (.int .u8 z) = if z = 0 then 0 else 256 - z.toNat := fun z => rfl
  rw [e, e]
  by_cases h1 : ((u : Int) + 1) % 256 = 0
  · rw [if_pos h1, if_neg (by omega)]
    omega
  · rw [if_neg h1, if_neg (by omega)]
    omega
set_option maxHeartbeats 400000 in
theorem expand_bad (a b : Value) (n : Int) (w : World) (h : n < 0 ∨ 8160 < n) :
    Calls Tryd.prog 17 #[a, b, .int .i64 n] w fun e w' => e = .returned (.tuple #[.string ⟨#[]⟩, .int .i64 1]) ∧ w' = w := by
  by_cases h1 : n < 0
  · go_enter Tryd.func17, Tryd.ntmps17
    go_wp2_with fail
    go_ret2
    exact ⟨rfl, rfl⟩
  · have h2 : 8160 < n := by omega
    go_enter Tryd.func17, Tryd.ntmps17
    go_wp2_with fail
    go_ret2
    exact ⟨rfl, rfl⟩
set_option maxHeartbeats 1000000 in
set_option maxRecDepth 100000 in
theorem expand_any (key info : List UInt8) (n : Nat) (hn : n ≤ 8160) (w : World) (hkl : key.length ≤ 140737488351232) (hil : info.length ≤ 140737488351232) (hk : KsAt w) (hg : 0 < w.heap.size) :
    Calls Tryd.prog 17 #[.string ⟨key.toArray⟩, .string ⟨info.toArray⟩, .int .i64 n] w fun e w' => e = .returned (.tuple #[.string ⟨(expL key info n).toArray⟩, .int .i64 0]) ∧ Below w.heap.size w w' := by
  have HK := Lib.hid hk
  clear hk
  have hn0 : (0 : Int) ≤ (n : Int) ∧ (n : Int) ≤ 8160 := by omega
  have hd0 : decide ((n : Int) < 0) = false := by simp
  have hd1 : decide ((8160 : Int) < (n : Int)) = false := by simp; omega
  go_enter Tryd.func17, Tryd.ntmps17
  go_wp2_with fail
  go_loopw [9, 10] (fun v9 v10 wr => ∃ k : Nat, 32 * k < n + 32 ∧ v9 = .string ⟨(lastL key info k).toArray⟩ ∧ v10 = .int .u8 ((k + 1) % 256 : Nat) ∧ Lib.IsBuilder 44 5 w.heap.size w.heap.size (Lib.byteCells (expandL key info k)) wr ∧ Below w.heap.size w wr) (fun _ v _ => msr v)
  case atStart => exact ⟨0, by omega, rfl, rfl, Lib.fresh_isBuilder _ _ _, (Below.refl _ _).alloc (Nat.le_refl _) _⟩
  case round =>
    obtain ⟨k, hkn, rfl, rfl, hB, hG⟩ := hrel
    have HB := Lib.hid hB
    have HG := Lib.hid hG
    clear hB hG
    obtain ⟨last, hlast⟩ : ∃ last, Hid (last = lastL key info k) := ⟨_, rfl⟩
    rw [← hlast.out]
    obtain ⟨u, hu⟩ : ∃ u, Hid (u = (k + 1) % 256) := ⟨_, rfl⟩
    rw [← hu.out]
    obtain ⟨m, hm⟩ : ∃ m, Hid (m = 32 * k) := ⟨_, rfl⟩
    have hlen := Lib.hid (show (Lib.byteCells (expandL key info k)).length = m by rw [byteCells_len, expandL_length, hm.out])
    have hlastl := Lib.hid (show last.length ≤ 32 by rw [hlast.out]; cases k with | zero => simp [lastL] | succ k => rw [lastL_length]; omega)
    have HKN := Lib.hid hkn
    clear hkn
    go_wp2_with fail
    refine (len_any w.heap.size w.heap.size _ wr HB.out).mono ?_
    rintro e w1 ⟨rfl, rfl⟩
    rw [hlen.out]
    by_cases hlt : m < n
    · have hltI : (m : Int) < (n : Int) := by omega
      have hk255 : k < 255 := by have := hm.out; omega
      obtain ⟨c, hc⟩ : ∃ c, Hid (c = UInt8.ofNat (k + 1)) := ⟨_, rfl⟩
      have hcu : n8 c = (u : Int) := by
        rw [hc.out, hu.out]
        show ((UInt8.ofNat (k + 1)).toNat : Int) = _
        rw [UInt8.toNat_ofNat']
      have ho : Own 5 (w1.alloc (.cells #[.int .u8 (n8 c)] 5)) w.heap.size (.slice (some ⟨w1.heap.size, 0, none⟩) 1 1) (cb [c]) := own_lit w1 5 [.int .u8 (n8 c)] (B := w.heap.size) HG.out.size (by simp)
      have hcv := own_string (l := [c]) Tryd.underlying30 Tryd.underlying5 Tryd.underlying9 ho
      rw [hcu] at hcv
      have B2 := Lib.hid (HG.out.alloc HG.out.size (.cells #[.int .u8 (u : Int)] 5))
      have B3 := Lib.hid (B2.out.alloc B2.out.size (.cells #[.string ⟨last.toArray⟩, .string ⟨info.toArray⟩, .string ⟨[c].toArray⟩] 9))
      have HB3 := Lib.hid (builder_alloc (builder_alloc HB.out (.cells #[.int .u8 (u : Int)] 5)) (.cells #[.string ⟨last.toArray⟩, .string ⟨info.toArray⟩, .string ⟨[c].toArray⟩] 9))
      have HS3 := Lib.hid (strs_three (w1.alloc (.cells #[.int .u8 (u : Int)] 5)) 9 last info [c])
      have D0 := (tag_any key _ 3 3 [last, info, [c]] _ HS3.out hkl (by intro l hl; simp at hl; have := hlastl.out; rcases hl with rfl | rfl | rfl <;> (first | omega | simp)) (by decide) (HK.out.below hg B3.out) (Nat.lt_of_lt_of_le hg B3.out.size))
      rw [show (w1.alloc (.cells #[.int .u8 (u : Int)] 5)).heap.size = w1.heap.size + 1 by simp] at D0
      have D := Lib.hid D0
      clear D0
      obtain ⟨nx, hnx⟩ : ∃ nx, Hid (nx = lastL key info (k + 1)) := ⟨_, rfl⟩
      have hfl : tagL key ([last, info, [c]] : List (List UInt8)).flatten = nx := by rw [hnx.out, lastL, hlast.out, hc.out]; simp
      have HFL := Lib.hid hfl
      clear ho hcu hfl
      go_wp2_with fail
      refine D.out.mono ?_
      rintro e w4 ⟨rfl, b4⟩
      rw [HFL.out]
      have B4 := Lib.hid (B3.out.trans (b4.mono B3.out.size))
      have HB4 := Lib.hid (builder_below HB3.out b4)
      clear b4 hcv
      go_wp2_with fail
      refine (writeString_any w.heap.size w.heap.size _ nx w4 HB4.out (by rw [hlen.out]; have := hm.out; rw [hnx.out, lastL_length]; omega) B4.out.size).mono ?_
      rintro e w5 ⟨rfl, hb5, b5⟩
      have HB5 := Lib.hid hb5
      have B5 := Lib.hid (B4.out.trans b5)
      clear hb5 b5
      go_wp2_with fail
      go_roundw
      case rel =>
        refine ⟨k + 1, by have := hm.out; omega, by rw [hnx.out], ?_, ?_, B5.out⟩
        · rw [show ((u : Int) + 1) % 256 = (((k + 1 + 1) % 256 : Nat) : Int) by have h1 := hu.out; omega]
        · have h2 := HB5.out
          rw [hnx.out, ← byteCells_cat] at h2
          exact h2
      case measure => exact msr_lt k u hu.out hk255
    · have hltI : decide ((m : Int) < (n : Int)) = false := by simp; omega
      have hcnt : k = cntL n := by rw [cntL]; have := hm.out; have := HKN.out; omega
      obtain ⟨E, hE⟩ : ∃ E, Hid (E = expandL key info k) := ⟨_, rfl⟩
      rw [← hE.out] at HB
      have hEl : (⟨E.toArray⟩ : ByteArray).size = m := by simp [ByteArray.size]; rw [hE.out, expandL_length, hm.out]
      have hmn : (n : Int) ≤ (m : Int) := by omega
      have hmn2 : n ≤ m := by omega
      have hx := extract_take E n
      have HE2 := Lib.hid (show E.take n = expL key info n by rw [hE.out, hcnt, expL])
      clear hcnt
      go_wp2_with fail
      refine (builder_string w.heap.size w.heap.size E w1 HB.out HG.out.size).mono ?_
      rintro e w2 ⟨rfl, b2⟩
      have B2 := Lib.hid (HG.out.trans b2)
      clear b2
      go_wp2_with fail
      go_ret2
      refine ⟨?_, B2.out⟩
      rw [← HE2.out]
      rfl
set_option maxHeartbeats 400000 in
theorem derive_bad (a b : List UInt8) (n : Int) (w : World) (h : n < 0 ∨ 8160 < n) (ha : a.length ≤ 140737488351232) (hk : KsAt w) (hg : 0 < w.heap.size) :
    Calls Tryd.prog 19 #[.string ⟨a.toArray⟩, .string ⟨b.toArray⟩, .int .i64 n] w fun e w' => e = .returned (.tuple #[.string ⟨#[]⟩, .int .i64 1]) ∧ Below w.heap.size w w' := by
  have HK := Lib.hid hk
  clear hk
  go_enter Tryd.func19, Tryd.ntmps19
  go_wp2_with fail
  refine (extract_any [100, 111, 118, 101, 99, 111, 116, 101] a w (by decide) ha HK.out hg).mono ?_
  rintro e w1 ⟨rfl, b1⟩
  obtain ⟨T, hT⟩ : ∃ T, Hid (T = tagL [100, 111, 118, 101, 99, 111, 116, 101] a) := ⟨_, rfl⟩
  rw [← hT.out]
  have B1 := Lib.hid b1
  clear b1
  go_wp2_with fail
  refine (expand_bad _ _ n w1 h).mono ?_
  rintro e w2 ⟨rfl, rfl⟩
  go_wp2_with fail
  go_ret2
  exact ⟨rfl, B1.out⟩
set_option maxHeartbeats 400000 in
theorem derive_any (a b : List UInt8) (n : Nat) (hn : n ≤ 8160) (w : World) (ha : a.length ≤ 140737488351232) (hb : b.length ≤ 140737488351232) (hk : KsAt w) (hg : 0 < w.heap.size) :
    Calls Tryd.prog 19 #[.string ⟨a.toArray⟩, .string ⟨b.toArray⟩, .int .i64 n] w fun e w' => e = .returned (.tuple #[.string ⟨(expL (tagL [100, 111, 118, 101, 99, 111, 116, 101] a) b n).toArray⟩, .int .i64 0]) ∧ Below w.heap.size w w' := by
  have HK := Lib.hid hk
  clear hk
  go_enter Tryd.func19, Tryd.ntmps19
  go_wp2_with fail
  refine (extract_any [100, 111, 118, 101, 99, 111, 116, 101] a w (by decide) ha HK.out hg).mono ?_
  rintro e w1 ⟨rfl, b1⟩
  obtain ⟨T, hT⟩ : ∃ T, Hid (T = tagL [100, 111, 118, 101, 99, 111, 116, 101] a) := ⟨_, rfl⟩
  rw [← hT.out]
  have B1 := Lib.hid b1
  clear b1
  go_wp2_with fail
  refine (expand_any T b n hn w1 (by rw [hT.out, tagL_length]; omega) hb (HK.out.below hg B1.out) (Nat.lt_of_lt_of_le hg B1.out.size)).mono ?_
  rintro e w2 ⟨rfl, b2⟩
  obtain ⟨X, hX⟩ : ∃ X, Hid (X = expL T b n) := ⟨_, rfl⟩
  rw [← hX.out]
  have B2 := Lib.hid (B1.out.trans (b2.mono B1.out.size))
  clear b2
  go_wp2_with fail
  go_ret2
  exact ⟨by rw [← hT.out, ← hX.out]; rfl, B2.out⟩
end Go.Proofs.YtmaomfebhbpjmaaDoor

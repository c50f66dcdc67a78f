/- Laws of layer 4: the walk of KeyedLong. -/
import Derived.Test.YtmaomfebhbpjmaaDoorL04a
import Derived.Test.YtmaomfebhbpjmaaDoorRefJ
namespace Go.Proofs.YtmaomfebhbpjmaaDoor
open Go.RowKit
set_option linter.unusedSimpArgs false
set_option linter.unusedVariables false
set_option maxHeartbeats 1600000 in
set_option maxRecDepth 100000 in
theorem law_KeyedLong (a b : List UInt8) (z : Int) (w : World) (ha : a.length ≤ 140737488351232) (hb : b.length ≤ 140737488351232) (hk : KsAt w) (hg : 0 < w.heap.size) :
    Calls Tryd.prog 4 #[.string ⟨a.toArray⟩, .string ⟨b.toArray⟩, .int .i64 z] w fun e w' => e = .returned (.bool true) ∧ Below w.heap.size w w' := by
  have HK := Lib.hid hk
  clear hk
  have hsz : (⟨a.toArray⟩ : ByteArray).size = a.length := by simp [ByteArray.size]
  obtain ⟨T, hT⟩ : ∃ T, Hid (T = tagL a b) := ⟨_, rfl⟩
  have HT1 : ∀ k w' A', Below w.heap.size w w' → Strs w' A' 1 [b] → k.length ≤ 140737488351232 → tagL k b = T → Calls Tryd.prog 10 #[.string ⟨k.toArray⟩, .slice A' 1 1] w' fun e w'' => e = .returned (.string ⟨T.toArray⟩) ∧ Below w'.heap.size w' w'' := by
    intro k w' A' h hs hkl hkt
    have := tag_any k A' 1 1 [b] w' hs hkl (by intro l hl; simp at hl; subst hl; omega) (by decide) (HK.out.below hg h) (Nat.lt_of_lt_of_le hg h.size)
    rw [show ([b] : List (List UInt8)).flatten = b by simp, hkt] at this
    exact this
  have H1 := Lib.hid HT1
  clear HT1
  go_enter Tryd.func4, Tryd.ntmps4
  go_wp2_with fail
  refine (works04_any w HK.out hg).mono ?_
  rintro e w1 ⟨rfl, b1⟩
  have B1 := Lib.hid b1
  clear b1
  by_cases h64 : 64 < a.length
  · have h64i : (64 : Int) < (a.length : Int) := by omega
    go_wp2_with fail
    have B2 := Lib.hid (B1.out.alloc B1.out.size (.cells #[.string ⟨b.toArray⟩] 9))
    refine (H1.out a _ _ B2.out (strs_one w1 9 b) ha hT.out.symm).mono ?_
    rintro e w3 ⟨rfl, b3⟩
    have B3 := Lib.hid (B2.out.trans (b3.mono B2.out.size))
    clear b3
    go_wp2_with fail
    have B4 := Lib.hid (B3.out.alloc B3.out.size (.cells #[.string ⟨a.toArray⟩] 9))
    refine (sum_any _ 1 1 _ [a] (strs_one w3 9 a) (by intro l hl; simp at hl; subst hl; omega) (by decide) (HK.out.below hg B4.out) (Nat.lt_of_lt_of_le hg B4.out.size)).mono ?_
    rintro e w5 ⟨rfl, b5⟩
    obtain ⟨S, hS⟩ : ∃ S, Hid (S = sha a) := ⟨_, rfl⟩
    rw [show sha ([a] : List (List UInt8)).flatten = S by rw [hS.out]; simp]
    have B5 := Lib.hid (B4.out.trans (b5.mono B4.out.size))
    clear b5
    go_wp2_with fail
    have B6 := Lib.hid (B5.out.alloc B5.out.size (.cells #[.string ⟨b.toArray⟩] 9))
    have hSl : S.length = 32 := by rw [hS.out]; exact sha_length _
    have hkey : key64 S = key64 a := by
      have e1 : keyL S = S := by rw [keyL, if_neg (by omega)]
      have e2 : keyL a = S := by rw [keyL, if_pos h64, hS.out]
      rw [key64, key64, e1, e2]
    refine (H1.out S _ _ B6.out (strs_one w5 9 b) (by omega) (by rw [hT.out, tagL, tagL, padL, padL, padL, padL, hkey])).mono ?_
    rintro e w7 ⟨rfl, b7⟩
    have B7 := Lib.hid (B6.out.trans (b7.mono B6.out.size))
    clear b7 hSl
    go_wp2_with fail
    go_ret
    exact ⟨rfl, B7.out⟩
  · have h64i : (a.length : Int) ≤ 64 := by omega
    have h64n : decide ((64 : Int) < (a.length : Int)) = false := by simp; omega
    obtain ⟨m, hm, e1⟩ : ∃ m : Nat, a.length + m ≤ 64 ∧ (IntKind.u64.wrap z).tmod ((65 : Int) - (a.length : Int)) = (m : Int) := by
      have h1 : 0 ≤ IntKind.u64.wrap z := by rw [wrap_u64e]; omega
      rw [Int.tmod_eq_emod_of_nonneg h1]
      have h2 : 0 ≤ IntKind.u64.wrap z % ((65 : Int) - (a.length : Int)) := Int.emod_nonneg _ (by omega)
      have h3 : IntKind.u64.wrap z % ((65 : Int) - (a.length : Int)) < (65 : Int) - (a.length : Int) := Int.emod_lt_of_pos _ (by omega)
      exact ⟨(IntKind.u64.wrap z % ((65 : Int) - (a.length : Int))).toNat, by omega, by omega⟩
    obtain ⟨w2, hmk, hown, hgr⟩ := own_make (B := w.heap.size) (t := 30) elemU8 w1 .i64 .i64 m (by omega) (by omega) B1.out.size
    have hrep : (List.replicate m (Value.int IntKind.u8 0).cells[0]!) = cb (List.replicate m 0) := by
      have : (Value.int IntKind.u8 0).cells[0]! = .int .u8 (n8 0) := rfl
      rw [this]
      simp [cb, List.map_replicate]
    rw [hrep] at hown
    obtain ⟨zr, hzr⟩ : ∃ zr, Hid (zr = List.replicate m (0 : UInt8)) := ⟨_, rfl⟩
    rw [← hzr.out] at hown
    have hzl : (⟨zr.toArray⟩ : ByteArray).size = m := by rw [hzr.out]; simp [ByteArray.size]
    have hcv := own_string Tryd.underlying30 Tryd.underlying5 Tryd.underlying9 hown
    have B2 := Lib.hid (B1.out.grown hgr B1.out.size (fun k hk => by cases hk))
    obtain ⟨y, hy⟩ : ∃ y, Hid (y = a ++ zr) := ⟨_, rfl⟩
    have hcat : (⟨a.toArray⟩ : ByteArray) ++ ⟨zr.toArray⟩ = ⟨y.toArray⟩ := by rw [cat_eq, hy.out]
    have hyl : y.length ≤ 64 := by rw [hy.out, hzr.out, List.length_append, List.length_replicate]; omega
    have hkey : key64 y = key64 a := by
      have e1 : keyL y = y := by rw [keyL, if_neg (by omega)]
      have e2 : keyL a = a := by rw [keyL, if_neg (by omega)]
      rw [key64, key64, e1, e2, hy.out, hzr.out, List.append_assoc, List.replicate_append_replicate, List.length_append, List.length_replicate]
      congr 2
      omega
    have hkt := Lib.hid (show tagL y b = T by rw [hT.out, tagL, tagL, padL, padL, padL, padL, hkey])
    have HYL := Lib.hid hyl
    have h65 : ¬ ((65 : Int) = (a.length : Int)) := by omega
    have h65a : ¬ ((a.length : Int) = 65) := by omega
    have h65b : ¬ ((65 : Int) - (a.length : Int) = 0) := by omega
    have h65c : (0 : Int) ≤ 65 - (a.length : Int) := by omega
    have h65d : IntKind.u64.wrap (65 - (a.length : Int)) = 65 - (a.length : Int) := by rw [wrap_u64e]; omega
    have hmi : (m : Int) ≤ 64 := by omega
    clear hown hrep hkey hyl
    go_wp2_with fail
    have B3 := Lib.hid (B2.out.alloc B2.out.size (.cells #[.string ⟨b.toArray⟩] 9))
    refine (H1.out y _ _ B3.out (strs_one w2 9 b) (by have := HYL.out; omega) hkt.out).mono ?_
    rintro e w4 ⟨rfl, b4⟩
    have B4 := Lib.hid (B3.out.trans (b4.mono B3.out.size))
    clear b4
    go_wp2_with fail
    have B5 := Lib.hid (B4.out.alloc B4.out.size (.cells #[.string ⟨b.toArray⟩] 9))
    refine (H1.out a _ _ B5.out (strs_one w4 9 b) ha hT.out.symm).mono ?_
    rintro e w6 ⟨rfl, b6⟩
    have B6 := Lib.hid (B5.out.trans (b6.mono B5.out.size))
    clear b6
    go_wp2_with fail
    go_ret
    exact ⟨rfl, B6.out⟩
end Go.Proofs.YtmaomfebhbpjmaaDoor

/- Laws of layer 4: KeyedDerives, with the reference's Expand and Derive. -/
import Derived.Test.YtmaomfebhbpjmaaDoorKeyX
import Derived.Test.YtmaomfebhbpjmaaDoorRefK
namespace Go.Proofs.YtmaomfebhbpjmaaDoor
open Go.RowKit
set_option linter.unusedSimpArgs false
set_option linter.unusedVariables false
set_option maxHeartbeats 400000 in
theorem refExpand_bad (a b : Value) (n : Int) (w : World) (h : n < 0 ∨ 8160 < n) :
    Calls Tryd.prog 18 #[a, b, .int .i64 n] w fun e w' => e = .returned (.tuple #[.string ⟨#[]⟩, .int .i64 1]) ∧ w' = w := by
  by_cases h1 : n < 0
  · go_enter Tryd.func18, Tryd.ntmps18
    go_wp2_with fail
    go_ret2
    exact ⟨rfl, rfl⟩
  · have h2 : 8160 < n := by omega
    go_enter Tryd.func18, Tryd.ntmps18
    go_wp2_with fail
    go_ret2
    exact ⟨rfl, rfl⟩
set_option maxHeartbeats 1000000 in
set_option maxRecDepth 100000 in
theorem refExpand_any (key info : List UInt8) (n : Nat) (hn : n ≤ 8160) (w : World) (hkl : key.length ≤ 1073741824) (hil : info.length ≤ 1048576) :
    Calls Tryd.prog 18 #[.string ⟨key.toArray⟩, .string ⟨info.toArray⟩, .int .i64 n] w fun e w' => e = .returned (.tuple #[.string ⟨(expL key info n).toArray⟩, .int .i64 0]) ∧ Below w.heap.size w w' := by
  have hszi : (⟨info.toArray⟩ : ByteArray).size = info.length := by simp [ByteArray.size]
  have hilI : (info.length : Int) ≤ 1048576 := by omega
  have hn0 : (0 : Int) ≤ (n : Int) ∧ (n : Int) ≤ 8160 := by omega
  have hd0 : decide ((n : Int) < 0) = false := by simp
  have hd1 : decide ((8160 : Int) < (n : Int)) = false := by simp; omega
  go_enter Tryd.func18, Tryd.ntmps18
  go_wp2_with fail
  go_loopw [8, 9, 10] (fun v8 v9 v10 wr => ∃ k : Nat, 32 * k < n + 32 ∧ v8 = .string ⟨(expandL key info k).toArray⟩ ∧ v9 = .string ⟨(lastL key info k).toArray⟩ ∧ v10 = .int .i64 ((k : Int) + 1) ∧ Below w.heap.size w wr) (fun _ _ v _ => 300 - (intOf v).toNat)
  case atStart => exact ⟨0, by omega, rfl, rfl, rfl, Below.refl _ _⟩
  case round =>
    obtain ⟨k, hkn, rfl, rfl, rfl, hG⟩ := hrel
    have HG := Lib.hid hG
    have HKN := Lib.hid hkn
    clear hG hkn
    obtain ⟨last, hlast⟩ : ∃ last, Hid (last = lastL key info k) := ⟨_, rfl⟩
    obtain ⟨out, hout⟩ : ∃ out, Hid (out = expandL key info k) := ⟨_, rfl⟩
    rw [← hlast.out, ← hout.out]
    obtain ⟨m, hm⟩ : ∃ m, Hid (m = 32 * k) := ⟨_, rfl⟩
    have hos : (⟨out.toArray⟩ : ByteArray).size = m := by simp [ByteArray.size]; rw [hout.out, expandL_length, hm.out]
    have hol : out.length = m := by rw [hout.out, expandL_length, hm.out]
    have hll : last.length ≤ 32 := by rw [hlast.out]; cases k with | zero => simp [lastL] | succ k => rw [lastL_length]; omega
    have hls : (⟨last.toArray⟩ : ByteArray).size = last.length := by simp [ByteArray.size]
    by_cases hlt : m < n
    · have hltI : (m : Int) < (n : Int) := by omega
      have hk255 : k < 255 := by have := hm.out; omega
      have hmI : (m : Int) ≤ 8160 := by omega
      obtain ⟨c, hc⟩ : ∃ c, Hid (c = UInt8.ofNat (k + 1)) := ⟨_, rfl⟩
      have hcu : n8 c = (k : Int) + 1 := by
        rw [hc.out]
        show ((UInt8.ofNat (k + 1)).toNat : Int) = _
        rw [UInt8.toNat_ofNat']
        omega
      have ho : Own 5 (wr.alloc (.cells #[.int .u8 (n8 c)] 5)) w.heap.size (.slice (some ⟨wr.heap.size, 0, none⟩) 1 1) (cb [c]) := own_lit wr 5 [.int .u8 (n8 c)] (B := w.heap.size) HG.out.size (by simp)
      have hcv := own_string (l := [c]) Tryd.underlying30 Tryd.underlying5 Tryd.underlying9 ho
      rw [hcu] at hcv
      obtain ⟨cl, hcl⟩ : ∃ cl, Hid (cl = [c]) := ⟨_, rfl⟩
      rw [← hcl.out] at hcv
      have hcs : (⟨cl.toArray⟩ : ByteArray).size = 1 := by rw [hcl.out]; rfl
      obtain ⟨li, hli⟩ : ∃ li, Hid (li = last ++ info) := ⟨_, rfl⟩
      have hlis : (⟨li.toArray⟩ : ByteArray).size = li.length := by simp [ByteArray.size]
      have hlil : li.length ≤ 1048608 := by rw [hli.out, List.length_append]; omega
      have hlilI : (li.length : Int) ≤ 1048608 := by omega
      have hllI : (last.length : Int) ≤ 32 := by omega
      have hcat1 : (⟨last.toArray⟩ : ByteArray) ++ ⟨info.toArray⟩ = ⟨li.toArray⟩ := by rw [cat_eq, hli.out]
      obtain ⟨lc, hlc⟩ : ∃ lc, Hid (lc = li ++ cl) := ⟨_, rfl⟩
      have hcat2 : (⟨li.toArray⟩ : ByteArray) ++ ⟨cl.toArray⟩ = ⟨lc.toArray⟩ := by rw [cat_eq, hlc.out]
      obtain ⟨nx, hnx⟩ : ∃ nx, Hid (nx = lastL key info (k + 1)) := ⟨_, rfl⟩
      have HT := Lib.hid (show tagL key lc = nx by rw [hnx.out, lastL, hlc.out, hli.out, hcl.out, hlast.out, hc.out])
      have hlcl : lc.length ≤ 8000000 := by rw [hlc.out, List.length_append, hcl.out]; simp; omega
      have hnxs : (⟨nx.toArray⟩ : ByteArray).size = 32 := by simp [ByteArray.size]; rw [hnx.out, lastL_length]
      obtain ⟨on, hon⟩ : ∃ on, Hid (on = out ++ nx) := ⟨_, rfl⟩
      have hcat3 : (⟨out.toArray⟩ : ByteArray) ++ ⟨nx.toArray⟩ = ⟨on.toArray⟩ := by rw [cat_eq, hon.out]
      have HON := Lib.hid (show on = expandL key info (k + 1) by rw [hon.out, expandL, hout.out, hnx.out])
      have hu8 : ((k : Int) + 1) % 256 = (k : Int) + 1 := by omega
      have B2 := Lib.hid (HG.out.alloc HG.out.size (.cells #[.int .u8 ((k : Int) + 1)] 5))
      clear ho hcu
      go_wp2_with fail
      refine (refTag_any key lc _ hkl hlcl).mono ?_
      rintro e w4 ⟨rfl, b4⟩
      rw [HT.out]
      have B4 := Lib.hid (B2.out.trans (b4.mono B2.out.size))
      clear b4 hcv hu8
      go_wp2_with fail
      go_roundw
      case rel => exact ⟨k + 1, by have := hm.out; omega, by rw [← HON.out], by rw [hnx.out], by go_num, B4.out⟩
      case measure => simp [intOf]; omega
    · have hltI : decide ((m : Int) < (n : Int)) = false := by simp; omega
      have hltN : decide (m < n) = false := by simp; omega
      have hcnt : k = cntL n := by rw [cntL]; have := hm.out; have := HKN.out; omega
      have hmn : (n : Int) ≤ (m : Int) := by omega
      have hmn2 : n ≤ m := by omega
      have hx := extract_take out n
      have HE2 := Lib.hid (show out.take n = expL key info n by rw [hout.out, hcnt, expL])
      clear hcnt hlt
      go_wp2_with fail
      go_ret2
      refine ⟨?_, HG.out⟩
      rw [← HE2.out]
      rfl
end Go.Proofs.YtmaomfebhbpjmaaDoor

/- Laws of layer 4: the walk of KeyedBlocks. -/
import Derived.Test.YtmaomfebhbpjmaaDoorL04c
namespace Go.Proofs.YtmaomfebhbpjmaaDoor
open Go.RowKit
set_option linter.unusedSimpArgs false
set_option linter.unusedVariables false
set_option maxHeartbeats 1000000 in
set_option maxRecDepth 100000 in
theorem law_KeyedBlocks (a b : List UInt8) (z : Int) (w : World) (ha : a.length ≤ 140737488351232) (hb : b.length ≤ 140737488351232) (hk : KsAt w) (hg : 0 < w.heap.size) :
    Calls Tryd.prog 7 #[.string ⟨a.toArray⟩, .string ⟨b.toArray⟩, .int .i64 z] w fun e w' => e = .returned (.bool true) ∧ Below w.heap.size w w' := by
  have HK := Lib.hid hk
  clear hk
  obtain ⟨m0, hm0, hm1, hm2⟩ : ∃ k : Nat, k < 6 ∧ IntKind.u64.wrap z % 6 = k ∧ (IntKind.u64.wrap z).tmod 6 = k := by
    have h1 : 0 ≤ IntKind.u64.wrap z := by rw [wrap_u64e]; omega
    refine ⟨(IntKind.u64.wrap z % 6).toNat, by omega, by omega, by rw [Int.tmod_eq_emod_of_nonneg h1]; omega⟩
  obtain ⟨m, hm⟩ : ∃ m, Hid (m = 1 + m0) := ⟨_, rfl⟩
  obtain ⟨M, hM⟩ : ∃ M, Hid (M = 32 * m) := ⟨_, rfl⟩
  have hmb : m ≤ 6 := by rw [hm.out]; omega
  have e1 := Lib.hid (show (1 : Int) + (m0 : Int) = (m : Int) by rw [hm.out]; omega)
  have hMm := Lib.hid (show (32 : Int) * (m : Int) = (M : Int) by rw [hM.out]; omega)
  obtain ⟨S, hS⟩ : ∃ S, Hid (S = expL a b M) := ⟨_, rfl⟩
  have hSs : (⟨S.toArray⟩ : ByteArray).size = M := by simp [ByteArray.size]; rw [hS.out, expL_length]
  have hMl : M ≤ 192 := by rw [hM.out]; omega
  go_enter Tryd.func7, Tryd.ntmps7
  go_wp2_with fail
  refine (works04_any w HK.out hg).mono ?_
  rintro e w1 ⟨rfl, b1⟩
  have B1 := Lib.hid b1
  clear b1
  go_wp2_with fail
  simp only [e1.out, hMm.out]
  refine (expand_any a b M (by omega) w1 ha hb (HK.out.below hg B1.out) (Nat.lt_of_lt_of_le hg B1.out.size)).mono ?_
  rintro e w2 ⟨rfl, b2⟩
  rw [← hS.out]
  have B2 := Lib.hid (B1.out.trans (b2.mono B1.out.size))
  clear b2
  have hq : ((M : Int) == 32 * (m : Int)) = true := by rw [hMm.out]; simp
  have hne : ((M : Int) != 32 * (m : Int)) = false := by rw [bne, hq]; rfl
  go_wp2_with fail
  go_loopw [9, 10, 36] (fun v9 v10 v36 wr => ∃ i : Nat, i ≤ m ∧ v36 = .int .i64 i ∧ v9 = .string ⟨(lastL a b i).toArray⟩ ∧ Below w.heap.size w wr) (fun _ _ v _ => m - (intOf v).toNat)
  case atStart => exact ⟨0, by omega, rfl, rfl, B2.out⟩
  case round =>
    obtain ⟨i, hi, rfl, rfl, hG⟩ := hrel
    have HG := Lib.hid hG
    clear hG
    obtain ⟨last, hlast⟩ : ∃ last, Hid (last = lastL a b i) := ⟨_, rfl⟩
    rw [← hlast.out]
    have hlastl := Lib.hid (show last.length ≤ 32 by rw [hlast.out]; cases i with | zero => simp [lastL] | succ k => rw [lastL_length]; omega)
    by_cases hlt : i < m
    · have hiI : (i : Int) < (m : Int) := by omega
      have hmI : (m : Int) ≤ 6 := by omega
      obtain ⟨c, hc⟩ : ∃ c, Hid (c = UInt8.ofNat (i + 1)) := ⟨_, rfl⟩
      have hcu : n8 c = (i : Int) + 1 := by
        rw [hc.out]
        show ((UInt8.ofNat (i + 1)).toNat : Int) = _
        rw [UInt8.toNat_ofNat']
        omega
      have ho : Own 5 (wr.alloc (.cells #[.int .u8 (n8 c)] 5)) w.heap.size (.slice (some ⟨wr.heap.size, 0, none⟩) 1 1) (cb [c]) := own_lit wr 5 [.int .u8 (n8 c)] (B := w.heap.size) HG.out.size (by simp)
      have hcv := own_string (l := [c]) Tryd.underlying30 Tryd.underlying5 Tryd.underlying9 ho
      rw [hcu] at hcv
      have C2 := Lib.hid (HG.out.alloc HG.out.size (.cells #[.int .u8 ((i : Int) + 1)] 5))
      have C3 := Lib.hid (C2.out.alloc C2.out.size (.cells #[.string ⟨last.toArray⟩, .string ⟨b.toArray⟩, .string ⟨[c].toArray⟩] 9))
      have HS3 := Lib.hid (strs_three (wr.alloc (.cells #[.int .u8 ((i : Int) + 1)] 5)) 9 last b [c])
      have D0 := (tag_any a _ 3 3 [last, b, [c]] _ HS3.out ha (by intro l hl; simp at hl; have := hlastl.out; rcases hl with rfl | rfl | rfl <;> (first | omega | simp)) (by decide) (HK.out.below hg C3.out) (Nat.lt_of_lt_of_le hg C3.out.size))
      rw [show (wr.alloc (.cells #[.int .u8 ((i : Int) + 1)] 5)).heap.size = wr.heap.size + 1 by simp] at D0
      have D := Lib.hid D0
      clear D0
      obtain ⟨nx, hnx⟩ : ∃ nx, Hid (nx = lastL a b (i + 1)) := ⟨_, rfl⟩
      have hfl : tagL a ([last, b, [c]] : List (List UInt8)).flatten = nx := by rw [hnx.out, lastL, hlast.out, hc.out]; simp
      have HFL := Lib.hid hfl
      have hu8 : ((i : Int) + 1) % 256 = (i : Int) + 1 := by omega
      clear ho hcu hfl
      go_wp2_with fail
      refine D.out.mono ?_
      rintro e w4 ⟨rfl, b4⟩
      rw [HFL.out]
      have C4 := Lib.hid (C3.out.trans (b4.mono C3.out.size))
      clear b4 hcv hu8
      have hslice : ∀ w, (Instr.slice 9 (.string ⟨S.toArray⟩) (some (.int .i64 (32 * (i : Int)))) (some (.int .i64 (32 * (i : Int) + 32))) none).run Tryd.prog w = .ok (.string ⟨nx.toArray⟩) w := fun w => by
        have hMo := hM.out
        rw [run_slice_string _ _ _ _ _ _ _ Tryd.underlying9 (by omega) (by omega) (by rw [hSs]; omega)]
        rw [show ((32 : Int) * (i : Int)).toNat = 32 * i by omega, show ((32 : Int) * (i : Int) + 32).toNat = 32 * i + 32 by omega, extract_mid, Nat.add_sub_cancel_left, hS.out, hMo, expL_full, expandL_piece a b m i hlt, hnx.out]
      go_wp2_with fail
      go_roundw
      case rel => exact ⟨i + 1, by omega, by go_num, by rw [hnx.out], C4.out⟩
      case measure => simp [intOf]; omega
    · obtain rfl : i = m := by omega
      go_wp2_with fail
      go_ret
      exact ⟨rfl, HG.out⟩
end Go.Proofs.YtmaomfebhbpjmaaDoor

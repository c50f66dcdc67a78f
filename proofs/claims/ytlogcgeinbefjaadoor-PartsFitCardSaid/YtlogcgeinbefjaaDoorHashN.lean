/- The walk of package hash's hasher.mix. -/
import Derived.Test.YtlogcgeinbefjaaDoorHashM
namespace Go.Proofs.YtlogcgeinbefjaaDoor
open Go.RowKit
set_option linter.unusedSimpArgs false
set_option linter.unusedVariables false
set_option maxRecDepth 100000

/-- a hasher's cells. -/
def hc (s : St) (t : BitVec 64) : Array Value := (cw s.v ++ cb s.r ++ [Value.int .i64 (s.n : Int), Value.int .u64 (t.toNat : Int)]).toArray
theorem hc_v {s : St} (h : s.okL) (t : BitVec 64) (i : Nat) (hi : i < 8) : (hc s t)[i]? = some (.int .u32 (n32 (wd s.v i))) := by
  have := h.1
  simp only [hc, List.getElem?_toArray, List.append_assoc]
  rw [List.getElem?_append_left (by simp [cw]; omega)]
  simp [cw, wd, List.getElem?_eq_getElem (show i < s.v.length by omega)]
theorem hc_r {s : St} (h : s.okL) (t : BitVec 64) (i : Nat) (hi : i < 64) : (hc s t)[8 + i]? = some (.int .u8 (n8 (bd s.r i))) := by
  have := h.1; have := h.2
  simp only [hc, List.getElem?_toArray, List.append_assoc]
  rw [List.getElem?_append_right (by simp [cw]; omega), List.getElem?_append_left (by simp [cw, cb]; omega)]
  simp only [cw, cb, List.length_map, h.1, Nat.add_sub_cancel_left]
  simp [bd, List.getElem?_eq_getElem (show i < s.r.length by omega)]
theorem hc_n {s : St} (h : s.okL) (t : BitVec 64) : (hc s t)[72]? = some (.int .i64 (s.n : Int)) := by
  simp only [hc, List.getElem?_toArray]
  rw [List.getElem?_append_right (by simp [cw, cb, h.1, h.2])]
  simp [cw, cb, h.1, h.2]
theorem hc_t {s : St} (h : s.okL) (t : BitVec 64) : (hc s t)[73]? = some (.int .u64 (t.toNat : Int)) := by
  simp only [hc, List.getElem?_toArray]
  rw [List.getElem?_append_right (by simp [cw, cb, h.1, h.2])]
  simp [cw, cb, h.1, h.2]
theorem hc_size {s : St} (h : s.okL) (t : BitVec 64) : (hc s t).size = 74 := by simp [hc, cw, cb, h.1, h.2]
theorem hc_set_v {s : St} (h : s.okL) (t : BitVec 64) (i : Nat) (hi : i < 8) (x : BitVec 32) : (hc s t).setIfInBounds i (.int .u32 (n32 x)) = hc ⟨s.v.set i x, s.r, s.n⟩ t := by
  have := h.1
  simp only [hc, List.setIfInBounds_toArray, List.append_assoc]
  rw [List.set_append_left _ _ (by simp [cw]; omega)]
  simp [cw, List.map_set]
theorem hc_set_r {s : St} (h : s.okL) (t : BitVec 64) (i : Nat) (hi : i < 64) (x : UInt8) : (hc s t).setIfInBounds (8 + i) (.int .u8 (n8 x)) = hc ⟨s.v, s.r.set i x, s.n⟩ t := by
  have := h.1; have := h.2
  simp only [hc, List.setIfInBounds_toArray, List.append_assoc]
  rw [List.set_append_right _ _ (by simp [cw]; omega), List.set_append_left _ _ (by simp [cw, cb]; omega)]
  simp [cw, cb, List.map_set, h.1]
theorem hc_set_n {s : St} (h : s.okL) (t : BitVec 64) (k : Nat) : (hc s t).setIfInBounds 72 (.int .i64 (k : Int)) = hc ⟨s.v, s.r, k⟩ t := by
  simp only [hc, List.setIfInBounds_toArray]
  rw [List.set_append_right _ _ (by simp [cw, cb, h.1, h.2])]
  simp [cw, cb, h.1, h.2]
theorem hc_set_t {s : St} (h : s.okL) (t u : BitVec 64) : (hc s t).setIfInBounds 73 (.int .u64 (u.toNat : Int)) = hc s u := by
  simp only [hc, List.setIfInBounds_toArray]
  rw [List.set_append_right _ _ (by simp [cw, cb, h.1, h.2])]
  simp [cw, cb, h.1, h.2]
/-- the table of constants lies where the program has it. -/
def KsAt (w : World) : Prop := ∀ i, i < 64 → w.cell? ⟨1, i, none⟩ = some (.int .u32 (n32 (wd ksL i)))

theorem ix8_0 (R : R8) (w : World) : (Instr.index 106 (.agg #[.int .u32 (n32 R.a), .int .u32 (n32 R.b), .int .u32 (n32 R.c), .int .u32 (n32 R.d), .int .u32 (n32 R.e), .int .u32 (n32 R.f), .int .u32 (n32 R.g), .int .u32 (n32 R.k)]) (.int .i64 0)).run Tryd.prog w = .ok (.int .u32 (n32 R.a)) w := by kernel_rfl
theorem ix8_1 (R : R8) (w : World) : (Instr.index 106 (.agg #[.int .u32 (n32 R.a), .int .u32 (n32 R.b), .int .u32 (n32 R.c), .int .u32 (n32 R.d), .int .u32 (n32 R.e), .int .u32 (n32 R.f), .int .u32 (n32 R.g), .int .u32 (n32 R.k)]) (.int .i64 1)).run Tryd.prog w = .ok (.int .u32 (n32 R.b)) w := by kernel_rfl
theorem ix8_2 (R : R8) (w : World) : (Instr.index 106 (.agg #[.int .u32 (n32 R.a), .int .u32 (n32 R.b), .int .u32 (n32 R.c), .int .u32 (n32 R.d), .int .u32 (n32 R.e), .int .u32 (n32 R.f), .int .u32 (n32 R.g), .int .u32 (n32 R.k)]) (.int .i64 2)).run Tryd.prog w = .ok (.int .u32 (n32 R.c)) w := by kernel_rfl
theorem ix8_3 (R : R8) (w : World) : (Instr.index 106 (.agg #[.int .u32 (n32 R.a), .int .u32 (n32 R.b), .int .u32 (n32 R.c), .int .u32 (n32 R.d), .int .u32 (n32 R.e), .int .u32 (n32 R.f), .int .u32 (n32 R.g), .int .u32 (n32 R.k)]) (.int .i64 3)).run Tryd.prog w = .ok (.int .u32 (n32 R.d)) w := by kernel_rfl
theorem ix8_4 (R : R8) (w : World) : (Instr.index 106 (.agg #[.int .u32 (n32 R.a), .int .u32 (n32 R.b), .int .u32 (n32 R.c), .int .u32 (n32 R.d), .int .u32 (n32 R.e), .int .u32 (n32 R.f), .int .u32 (n32 R.g), .int .u32 (n32 R.k)]) (.int .i64 4)).run Tryd.prog w = .ok (.int .u32 (n32 R.e)) w := by kernel_rfl
theorem ix8_5 (R : R8) (w : World) : (Instr.index 106 (.agg #[.int .u32 (n32 R.a), .int .u32 (n32 R.b), .int .u32 (n32 R.c), .int .u32 (n32 R.d), .int .u32 (n32 R.e), .int .u32 (n32 R.f), .int .u32 (n32 R.g), .int .u32 (n32 R.k)]) (.int .i64 5)).run Tryd.prog w = .ok (.int .u32 (n32 R.f)) w := by kernel_rfl
theorem ix8_6 (R : R8) (w : World) : (Instr.index 106 (.agg #[.int .u32 (n32 R.a), .int .u32 (n32 R.b), .int .u32 (n32 R.c), .int .u32 (n32 R.d), .int .u32 (n32 R.e), .int .u32 (n32 R.f), .int .u32 (n32 R.g), .int .u32 (n32 R.k)]) (.int .i64 6)).run Tryd.prog w = .ok (.int .u32 (n32 R.g)) w := by kernel_rfl
theorem ix8_7 (R : R8) (w : World) : (Instr.index 106 (.agg #[.int .u32 (n32 R.a), .int .u32 (n32 R.b), .int .u32 (n32 R.c), .int .u32 (n32 R.d), .int .u32 (n32 R.e), .int .u32 (n32 R.f), .int .u32 (n32 R.g), .int .u32 (n32 R.k)]) (.int .i64 7)).run Tryd.prog w = .ok (.int .u32 (n32 R.k)) w := by kernel_rfl
theorem ix8 (R : R8) (j : Nat) (hj : j < 8) (w : World) : (Instr.index 106 (.agg #[.int .u32 (n32 R.a), .int .u32 (n32 R.b), .int .u32 (n32 R.c), .int .u32 (n32 R.d), .int .u32 (n32 R.e), .int .u32 (n32 R.f), .int .u32 (n32 R.g), .int .u32 (n32 R.k)]) (.int .i64 (j : Int))).run Tryd.prog w = .ok (.int .u32 (n32 (wd R.list j))) w := by
  match j, hj with
  | 0, _ => exact ix8_0 R w
  | 1, _ => exact ix8_1 R w
  | 2, _ => exact ix8_2 R w
  | 3, _ => exact ix8_3 R w
  | 4, _ => exact ix8_4 R w
  | 5, _ => exact ix8_5 R w
  | 6, _ => exact ix8_6 R w
  | 7, _ => exact ix8_7 R w
section
attribute [local go_sem] v32_add v32_xor v32_and v32_or v32_shr3 v32_shr10 v32_shl8 rr7 rr18 rr17 rr19 rr6 rr11 rr25 rr2 rr13 rr22
set_option maxHeartbeats 1600000 in
set_option maxRecDepth 100000 in
theorem mix_any (b : Nat) (w : World) (s : St) (t : BitVec 64) (hs : s.v.length = 8) (hr : s.r.length = 64) (hb : Blk w b 122 (hc s t)) (hk : KsAt w) (hg : 1 < b) :
    Calls Tryd.prog 54 #[.pointer (some ⟨b, 0, none⟩)] w fun e w' => e = .returned (.tuple #[]) ∧
      Blk w' b 122 (hc ⟨mixv s.v s.r, s.r, 0⟩ t) ∧ w.grownBy w' (some b) := by
  have HB := Lib.hid hb
  have HK := Lib.hid hk
  clear hk hb
  go_enter Tryd.func54, Tryd.ntmps54
  go_wp2_with fail
  go_loopw [17] (fun v17 wr => ∃ k : Nat, k ≤ 64 ∧ v17 = .int .i64 k ∧ Blk wr w.heap.size 127 (wc (loadW s.r k)) ∧ w.grownBy wr none) (fun v17 _ => 64 - (intOf v17).toNat)
  case atStart => exact ⟨0, by omega, rfl, Blk.new _ _ _, only_alloc (only_refl _ _) _⟩
  case round =>
    obtain ⟨k, hk, rfl, hW, hG⟩ := hrel
    have hWl := loadW_length s.r k
    by_cases hlt : k < 64
    · have ej : ((k : Int) / 4).toNat = k / 4 := by omega
      have c1 : wr.cell? ⟨w.heap.size, ((k : Int) / 4).toNat, none⟩ = some (.int .u32 (n32 (wd (loadW s.r k) (k / 4)))) := by rw [ej]; exact (hW.cell (k / 4)).trans (wc_get (loadW s.r k) (k / 4) (by omega))
      have f1 : wr.frozen? ⟨w.heap.size, ((k : Int) / 4).toNat, none⟩ = false := by rw [ej]; exact hW.frozen (k / 4)
      have EJ := Lib.hid ej
      clear ej
      have c2 := ((HB.out.grown hG (by simp)).cell (8 + k)).trans (hc_r ⟨hs, hr⟩ t k hlt)
      have hfin : Blk (wr.drew.setCell ⟨w.heap.size, k / 4, none⟩ (.int .u32 (n32 (wd (loadW s.r k) (k / 4) <<< 8 ||| u8w (bd s.r k))))) w.heap.size 127 (wc (loadW s.r (k + 1))) ∧
          w.grownBy (wr.drew.setCell ⟨w.heap.size, k / 4, none⟩ (.int .u32 (n32 (wd (loadW s.r k) (k / 4) <<< 8 ||| u8w (bd s.r k))))) none := by
        have := hW.drew.set_ (k / 4) (.int .u32 (n32 (wd (loadW s.r k) (k / 4) <<< 8 ||| u8w (bd s.r k))))
        rw [wc_set] at this
        exact ⟨this, only_new hG (only_set (only_drew (only_refl _ _)) (.inl rfl) _) (Nat.le_refl _)⟩
      have HF := Lib.hid hfin
      clear hfin hW hG hWl
      have e1 : IntKind.i64.wrap ((k : Int) / 4) = (k : Int) / 4 := IntWalk.i64_in _ (by omega)
      have e2 : 0 ≤ (k : Int) / 4 ∧ (k : Int) / 4 < 16 := by omega
      have e3 : 0 ≤ (k : Int) ∧ (k : Int) < 64 := by omega
      go_wp2_with fail
      refine still_tail 16 (by kernel_rfl) (by kernel_rfl) ?_
      simp only [List.take_succ_cons, List.take_zero, List.drop_succ_cons, List.drop_zero]
      repeat still_step
      refine wpStill_nil ?_
      go_wp2
      go_roundw
      case rel =>
        refine ⟨k + 1, by omega, by go_num, ?_⟩
        simp only [n8_m32, v32_or, EJ.out]
        exact HF.out
      case measure => simp [intOf]; omega
    · obtain rfl : k = 64 := by omega
      rw [show ((64 : Nat) : Int) = 64 from rfl]
      have hB := HB.out.grown hG (by simp)
      have d0 := (hB.cell 0).trans (hc_v ⟨hs, hr⟩ t 0 (by omega))
      have d1 := (hB.cell 1).trans (hc_v ⟨hs, hr⟩ t 1 (by omega))
      have d2 := (hB.cell 2).trans (hc_v ⟨hs, hr⟩ t 2 (by omega))
      have d3 := (hB.cell 3).trans (hc_v ⟨hs, hr⟩ t 3 (by omega))
      have d4 := (hB.cell 4).trans (hc_v ⟨hs, hr⟩ t 4 (by omega))
      have d5 := (hB.cell 5).trans (hc_v ⟨hs, hr⟩ t 5 (by omega))
      have d6 := (hB.cell 6).trans (hc_v ⟨hs, hr⟩ t 6 (by omega))
      have d7 := (hB.cell 7).trans (hc_v ⟨hs, hr⟩ t 7 (by omega))
      have HW := Lib.hid hW
      have HG := Lib.hid hG
      clear hW hG hB hWl hlt hk
      go_wp2_with fail
      go_quiet (fail)
      go_wp2_with fail
      clear d0 d1 d2 d3 d4 d5 d6 d7
      obtain ⟨P, HP⟩ : ∃ P, Hid (P = rounds (R8.of s.v) (loadW s.r 64)) := ⟨_, rfl⟩
      go_loopw [4, 5, 6, 7, 8, 9, 10, 11, 77] (fun v4 v5 v6 v7 v8 v9 v10 v11 v77 wx => ∃ i : Nat, i ≤ 64 ∧ v77 = .int .i64 i ∧ v4 = .int .u32 (n32 (P i).1.a) ∧ v5 = .int .u32 (n32 (P i).1.b) ∧ v6 = .int .u32 (n32 (P i).1.c) ∧
          v7 = .int .u32 (n32 (P i).1.d) ∧ v8 = .int .u32 (n32 (P i).1.e) ∧ v9 = .int .u32 (n32 (P i).1.f) ∧ v10 = .int .u32 (n32 (P i).1.g) ∧ v11 = .int .u32 (n32 (P i).1.k) ∧
          Blk wx w.heap.size 127 (wc (P i).2) ∧ w.grownBy wx none) (fun _ _ _ _ _ _ _ _ v77 _ => 64 - (intOf v77).toNat)
      case atStart =>
        refine ⟨0, by omega, rfl, ?_⟩
        rw [HP.out, rounds_zero]
        simp only [R8.of, true_and]
        exact ⟨HW.out.drewN _, only_drewN HG.out _⟩
      case round =>
        obtain ⟨i, hi, rfl, rfl, rfl, rfl, rfl, rfl, rfl, rfl, rfl, hW2, hG2⟩ := hrel
        have hPl : (P i).2.length = 16 := by rw [HP.out, rounds_length, loadW_length]
        by_cases hlt : i < 64
        · have hks : wr.cell? ⟨1, i, none⟩ = some (.int .u32 (n32 (wd ksL i))) := hG2.cell (HK.out i hlt) (by simp)
          have HS := Lib.hid (rounds_succ (R8.of s.v) (loadW s.r 64) i)
          have e3 : 0 ≤ (i : Int) ∧ (i : Int) < 64 := by omega
          have hbw := HB.out.lt
          by_cases h16 : 16 ≤ i
          · have hA : atRound (P i).2 i = growW (P i).2 i := if_pos h16
            have HA := Lib.hid hA
            have HW2 := Lib.hid hW2
            have HG2 := Lib.hid hG2
            have HPl := Lib.hid hPl
            have HKS := Lib.hid hks
            clear hA hW2 hG2 hPl hks
            have hd : decide ((16 : Int) ≤ i) = true := by simp; omega
            go_wp2_with (go_at_call 56; refine (grow_any _ i _ _ HPl.out HW2.out h16 hlt).mono ?_; rintro e w1 ⟨rfl, hW3, hG3⟩)
            have c1 := (hW3.cell (i % 16)).trans (wc_get _ _ (by rw [growW_length, HPl.out]; omega))
            rw [← HA.out] at c1 hW3
            have k1 : w1.cell? ⟨1, i, none⟩ = some (.int .u32 (n32 (wd ksL i))) := hG3.cell HKS.out (by simp; omega)
            have HG3 := Lib.hid (only_new HG2.out hG3 (Nat.le_refl _))
            have HW3 := Lib.hid hW3
            clear hG3 hW3 HG2 HW2 HKS hd
            go_wp2_with fail
            go_quiet ((first | (go_at_call 57; exact Calls.quiet_of_same (rot_any _ _ _)) | (go_at_call 57; exact quiet_add_same (rot_any _ _ _)) | (go_at_call 58; exact Calls.quiet_of_same (at_any _ _ _ (by omega)))))
            go_wp2_with (go_at_call 57; refine (rot_any _ _ _).mono ?_; rintro e w' ⟨rfl, rfl⟩)
            go_roundw
            case rel =>
              refine ⟨i + 1, by omega, by go_num, ?_⟩
              rw [HP.out, HS.out, ← HP.out]
              simp only [v32_add, v32_xor, v32_and, v32_or, rnd, rndT, rndU, true_and]
              exact ⟨HW3.out.drewN _, only_drewN HG3.out _⟩
            case measure => simp [intOf]; omega
          · have hA : atRound (P i).2 i = (P i).2 := if_neg h16
            have c1 := (hW2.cell (i % 16)).trans (wc_get _ _ (by rw [hPl]; omega))
            rw [← hA] at c1 hW2
            have HG3 := Lib.hid hG2
            have HW3 := Lib.hid hW2
            clear hA hW2 hG2 hPl
            have hd : decide ((16 : Int) ≤ i) = false := by simp; omega
            go_wp2_with fail
            go_quiet ((first | (go_at_call 57; exact Calls.quiet_of_same (rot_any _ _ _)) | (go_at_call 57; exact quiet_add_same (rot_any _ _ _)) | (go_at_call 58; exact Calls.quiet_of_same (at_any _ _ _ (by omega)))))
            go_wp2_with (go_at_call 57; refine (rot_any _ _ _).mono ?_; rintro e w' ⟨rfl, rfl⟩)
            go_roundw
            case rel =>
              refine ⟨i + 1, by omega, by go_num, ?_⟩
              rw [HP.out, HS.out, ← HP.out]
              simp only [v32_add, v32_xor, v32_and, v32_or, rnd, rndT, rndU, true_and]
              exact ⟨HW3.out.drewN _, only_drewN HG3.out _⟩
            case measure => simp [intOf]; omega
        · obtain rfl : i = 64 := by omega
          rw [show ((64 : Nat) : Int) = 64 from rfl]
          have hB2 := HB.out.grown hG2 (by simp)
          have hbw := HB.out.lt
          have HM := Lib.hid (show mixv s.v s.r = addTo s.v (P 64).1.list 8 by rw [HP.out]; rfl)
          have HG2 := Lib.hid hG2
          have HB2 := Lib.hid hB2
          clear hG2 hB2 hW2 hPl hlt hi
          obtain ⟨R, HR⟩ : ∃ R, Hid (R = (P 64).1) := ⟨_, rfl⟩
          rw [← HR.out]
          rw [← HR.out] at HM
          have z45 : ∀ w, (zeroValue 106).run Tryd.prog w = .ok (.agg #[.int .u32 0, .int .u32 0, .int .u32 0, .int .u32 0, .int .u32 0, .int .u32 0, .int .u32 0, .int .u32 0]) w := fun _ => by kernel_rfl
          go_wp2_with fail
          go_loopw [151] (fun v wx => ∃ j : Nat, j ≤ 8 ∧ v = .int .i64 j ∧ Blk wx b 122 (hc ⟨addTo s.v R.list j, s.r, s.n⟩ t) ∧ w.grownBy wx (some b)) (fun v _ => 8 - (intOf v).toNat)
          case atStart => exact ⟨0, by omega, rfl, HB2.out, ⟨HG2.out.os, HG2.out.tape, HG2.out.output, HG2.out.size, fun i h _ => HG2.out.block i h (by simp)⟩⟩
          case round =>
            obtain ⟨j, hj, rfl, hB3, hG3⟩ := hrel
            have hok : St.okL ⟨addTo s.v R.list j, s.r, s.n⟩ := ⟨by rw [addTo_length]; exact hs, hr⟩
            by_cases hlt : j < 8
            · have c1 := (hB3.cell j).trans (hc_v hok t j hlt)
              have f1 := hB3.frozen j
              have hix := ix8 R j hlt
              have hfin : Blk ((wr.setCell ⟨b, j, none⟩ (.int .u32 (n32 (wd (addTo s.v R.list j) j + wd R.list j)))).drew) b 122 (hc ⟨addTo s.v R.list (j + 1), s.r, s.n⟩ t) ∧
                  w.grownBy ((wr.setCell ⟨b, j, none⟩ (.int .u32 (n32 (wd (addTo s.v R.list j) j + wd R.list j)))).drew) (some b) := by
                have := hB3.set_ j (.int .u32 (n32 (wd (addTo s.v R.list j) j + wd R.list j)))
                rw [hc_set_v hok t j hlt] at this
                exact ⟨this, only_drew (only_set hG3 (.inl rfl) _)⟩
              have HF := Lib.hid hfin
              clear hfin hB3 hG3 hok
              have e3 : 0 ≤ (j : Int) ∧ (j : Int) < 8 := by omega
              go_wp2_with fail
              refine still_tail 11 (by kernel_rfl) (by kernel_rfl) ?_
              simp only [List.take_succ_cons, List.take_zero, List.drop_succ_cons, List.drop_zero]
              repeat still_step
              refine wpStill_nil ?_
              go_wp2
              go_roundw
              case rel =>
                refine ⟨j + 1, by omega, by go_num, ?_⟩
                try simp only [v32_add]
                exact HF.out
              case measure => simp [intOf]; omega
            · obtain rfl : j = 8 := by omega
              have c1 := (hB3.cell 72).trans (hc_n hok t)
              have f1 := hB3.frozen 72
              have hfin : Blk (wr.setCell ⟨b, 72, none⟩ (.int .i64 0)) b 122 (hc ⟨mixv s.v s.r, s.r, 0⟩ t) ∧ w.grownBy (wr.setCell ⟨b, 72, none⟩ (.int .i64 0)) (some b) := by
                have := hB3.set_ 72 (.int .i64 ((0 : Nat) : Int))
                rw [hc_set_n hok] at this
                rw [HM.out]
                exact ⟨this, only_set hG3 (.inl rfl) _⟩
              have HF := Lib.hid hfin
              clear hfin hB3 hG3 hok
              go_wp2
              go_end0
              exact ⟨rfl, HF.out⟩
end
end Go.Proofs.YtlogcgeinbefjaaDoor

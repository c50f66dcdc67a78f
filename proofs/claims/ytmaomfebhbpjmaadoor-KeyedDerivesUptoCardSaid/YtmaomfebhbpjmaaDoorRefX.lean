/- The walk of the reference's mixed: eight words, with a block. -/
import Derived.Test.YtmaomfebhbpjmaaDoorRefG
namespace Go.Proofs.YtmaomfebhbpjmaaDoor
open Go.RowKit
set_option linter.unusedSimpArgs false
set_option linter.unusedVariables false
def agg8 (v : List (BitVec 32)) : Value := .agg #[.int .u32 (n32 (wd v 0)), .int .u32 (n32 (wd v 1)), .int .u32 (n32 (wd v 2)), .int .u32 (n32 (wd v 3)), .int .u32 (n32 (wd v 4)), .int .u32 (n32 (wd v 5)), .int .u32 (n32 (wd v 6)), .int .u32 (n32 (wd v 7))]
theorem wc8 (v : List (BitVec 32)) (h : v.length = 8) : wc v = #[.int .u32 (n32 (wd v 0)), .int .u32 (n32 (wd v 1)), .int .u32 (n32 (wd v 2)), .int .u32 (n32 (wd v 3)), .int .u32 (n32 (wd v 4)), .int .u32 (n32 (wd v 5)), .int .u32 (n32 (wd v 6)), .int .u32 (n32 (wd v 7))] := by
  match v, h with
  | [a, b, c, d, e, f, g, k], _ => rfl
theorem Blk.set8 {w : World} {g : Nat} {t : TypeId} {R : R8} (h : Blk w g t (wc R.list)) (x0 x1 x2 x3 x4 x5 x6 x7 : BitVec 32) :
    Blk ((((((((w.setCell ⟨g, 0, none⟩ (.int .u32 (n32 x0))).setCell ⟨g, 1, none⟩ (.int .u32 (n32 x1))).setCell ⟨g, 2, none⟩ (.int .u32 (n32 x2))).setCell ⟨g, 3, none⟩ (.int .u32 (n32 x3))).setCell ⟨g, 4, none⟩ (.int .u32 (n32 x4))).setCell ⟨g, 5, none⟩ (.int .u32 (n32 x5))).setCell ⟨g, 6, none⟩ (.int .u32 (n32 x6))).setCell ⟨g, 7, none⟩ (.int .u32 (n32 x7))) g t (wc (R8.list ⟨x0, x1, x2, x3, x4, x5, x6, x7⟩)) := by
  have h8 := (((((((h.set_ 0 (.int .u32 (n32 x0))).set_ 1 (.int .u32 (n32 x1))).set_ 2 (.int .u32 (n32 x2))).set_ 3 (.int .u32 (n32 x3))).set_ 4 (.int .u32 (n32 x4))).set_ 5 (.int .u32 (n32 x5))).set_ 6 (.int .u32 (n32 x6))).set_ 7 (.int .u32 (n32 x7))
  simp only [wc_set] at h8
  exact h8
theorem only_set8 {a w : World} {g : Nat} (h : a.grownBy w (some g)) (x0 x1 x2 x3 x4 x5 x6 x7 : Value) :
    a.grownBy ((((((((w.setCell ⟨g, 0, none⟩ x0).setCell ⟨g, 1, none⟩ x1).setCell ⟨g, 2, none⟩ x2).setCell ⟨g, 3, none⟩ x3).setCell ⟨g, 4, none⟩ x4).setCell ⟨g, 5, none⟩ x5).setCell ⟨g, 6, none⟩ x6).setCell ⟨g, 7, none⟩ x7) (some g) :=
  only_set (only_set (only_set (only_set (only_set (only_set (only_set (only_set h (.inl rfl) _) (.inl rfl) _) (.inl rfl) _) (.inl rfl) _) (.inl rfl) _) (.inl rfl) _) (.inl rfl) _) (.inl rfl) _
theorem quiet_turn {w : World} {n : Nat} (x : BitVec 32) (c : Int) (h : 0 ≤ c ∧ c ≤ 32) :
    Calls Tryd.prog 42 #[.int .u32 (n32 x), .int .i64 c] (w.drewN n) fun e w'' => e = .returned (.int .u32 (n32 (rr x c.toNat))) ∧ ∃ m, w'' = w.drewN m :=
  (turn_lit x c h (w.drewN n)).mono fun _ _ ⟨he, hw⟩ => ⟨he, n + 1, hw⟩
theorem quiet_turn_add {w : World} {a n : Nat} (x : BitVec 32) (c : Int) (h : 0 ≤ c ∧ c ≤ 32) :
    Calls Tryd.prog 42 #[.int .u32 (n32 x), .int .i64 c] (w.drewN (a + n)) fun e w'' => e = .returned (.int .u32 (n32 (rr x c.toNat))) ∧ ∃ m, w'' = w.drewN (a + m) :=
  (turn_lit x c h (w.drewN (a + n))).mono fun _ _ ⟨he, hw⟩ => ⟨he, n + 1, hw⟩
theorem v32_not (x : BitVec 32) : bits BinOp.xor IntKind.u32 (if IntKind.u32.signed = true then -1 else IntKind.u32.max) (n32 x) = n32 (~~~x) := by
  have h : (if IntKind.u32.signed = true then -1 else IntKind.u32.max) = n32 (BitVec.allOnes 32) := by decide
  rw [h, v32_xor, BitVec.allOnes_xor]
theorem z45 : ∀ w, (zeroValue 52).run Tryd.prog w = .ok (.agg #[.int .u32 0, .int .u32 0, .int .u32 0, .int .u32 0, .int .u32 0, .int .u32 0, .int .u32 0, .int .u32 0]) w := fun _ => by kernel_rfl
section
attribute [local go_sem] v32_add v32_xor v32_and v32_or v32_shr3 v32_shr10 v32_shl8 v32_not v32_addw
set_option maxHeartbeats 1600000 in
set_option maxRecDepth 100000 in
theorem mixed_any (v : List (BitVec 32)) (hv : v.length = 8) (r : List UInt8) (hr : r.length = 64) (w : World) :
    Calls Tryd.prog 32 #[agg8 v, .string ⟨r.toArray⟩] w fun e w' => e = .returned (agg8 (mixv v r)) ∧ Below w.heap.size w w' := by
  have Z := z45
  have hw8 := wc8 v hv
  unfold agg8
  go_enter Tryd.func32, Tryd.ntmps32
  go_wp2_with fail
  rw [← hw8]
  have V0 : Blk ((w.alloc (.cells (wc v) 52)).alloc (.cells #[.int .u32 0, .int .u32 0, .int .u32 0, .int .u32 0, .int .u32 0, .int .u32 0, .int .u32 0, .int .u32 0] 52)) w.heap.size 52 (wc v) := (Blk.new w _ _).alloc _
  have Z0 : Blk ((w.alloc (.cells (wc v) 52)).alloc (.cells #[.int .u32 0, .int .u32 0, .int .u32 0, .int .u32 0, .int .u32 0, .int .u32 0, .int .u32 0, .int .u32 0] 52)) (w.heap.size + 1) 52 #[.int .u32 0, .int .u32 0, .int .u32 0, .int .u32 0, .int .u32 0, .int .u32 0, .int .u32 0, .int .u32 0] := by
    have := Blk.new (w.alloc (.cells (wc v) 52)) 52 #[.int .u32 0, .int .u32 0, .int .u32 0, .int .u32 0, .int .u32 0, .int .u32 0, .int .u32 0, .int .u32 0]
    simpa using this
  have G0 : Below w.heap.size w ((w.alloc (.cells (wc v) 52)).alloc (.cells #[.int .u32 0, .int .u32 0, .int .u32 0, .int .u32 0, .int .u32 0, .int .u32 0, .int .u32 0, .int .u32 0] 52)) := ((Below.refl w.heap.size w).alloc (Nat.le_refl _) _).alloc (by simp) _
  obtain ⟨wa, hwa⟩ : ∃ wa, wa = (w.alloc (.cells (wc v) 52)).alloc (.cells #[.int .u32 0, .int .u32 0, .int .u32 0, .int .u32 0, .int .u32 0, .int .u32 0, .int .u32 0, .int .u32 0] 52) := ⟨_, rfl⟩
  rw [← hwa] at V0 Z0 G0 ⊢
  have hwas : wa.heap.size = w.heap.size + 2 := by rw [hwa]; simp
  clear hwa
  refine (grown_any r hr wa).mono ?_
  rintro e w1 ⟨⟨g, c, rfl, ho⟩, b1⟩
  have V1 := V0.below b1 (by omega)
  have Z1 := Z0.below b1 (by omega)
  have G1 := G0.trans (b1.mono (by omega))
  have hgb : wa.heap.size ≤ g ∧ g < w1.heap.size := ho.lt g rfl
  have hw1 := b1.size
  clear b1 V0 Z0 G0 hw8
  obtain ⟨W, hW⟩ : ∃ W, Hid (W = w64 r) := ⟨_, rfl⟩
  have hWl : W.length = 64 := by rw [hW.out]; exact w64_length r
  rw [← hW.out] at ho
  have HV1 := Lib.hid V1
  have HZ1 := Lib.hid Z1
  have HG1 := Lib.hid G1
  have HO := Lib.hid ho
  clear V1 Z1 G1 ho
  go_wp2_with fail
  refine (ks_any _).mono ?_
  rintro e w2 ⟨rfl, rfl⟩
  have HK2 := Lib.hid (Blk.new w1 51 (wc ksL))
  have HV2 := Lib.hid (HV1.out.alloc (.cells (wc ksL) 51))
  have HZ2 := Lib.hid (HZ1.out.alloc (.cells (wc ksL) 51))
  have HG2 := Lib.hid (HG1.out.alloc HG1.out.size (.cells (wc ksL) 51))
  have HO2 := Lib.hid (HO.out.alloc (.cells (wc ksL) 51))
  obtain ⟨w2, hw2⟩ : ∃ w2, w2 = w1.alloc (.cells (wc ksL) 51) := ⟨_, rfl⟩
  have hs2 : w2.heap.size = w1.heap.size + 1 := by rw [hw2]; simp
  rw [← hw2] at HK2 HV2 HZ2 HG2 HO2 ⊢
  have d0 := (HV2.out.cell 0).trans (wc_get v 0 (by omega))
  have d1 := (HV2.out.cell 1).trans (wc_get v 1 (by omega))
  have d2 := (HV2.out.cell 2).trans (wc_get v 2 (by omega))
  have d3 := (HV2.out.cell 3).trans (wc_get v 3 (by omega))
  have d4 := (HV2.out.cell 4).trans (wc_get v 4 (by omega))
  have d5 := (HV2.out.cell 5).trans (wc_get v 5 (by omega))
  have d6 := (HV2.out.cell 6).trans (wc_get v 6 (by omega))
  have d7 := (HV2.out.cell 7).trans (wc_get v 7 (by omega))
  clear hw2 HV1 HZ1 HG1 HO
  go_wp2_with fail
  clear d0 d1 d2 d3 d4 d5 d6 d7
  have HP0 := Lib.hid (show Blk (w2.alloc (.cells #[.int .u32 (n32 (wd v 0)), .int .u32 (n32 (wd v 1)), .int .u32 (n32 (wd v 2)), .int .u32 (n32 (wd v 3)), .int .u32 (n32 (wd v 4)), .int .u32 (n32 (wd v 5)), .int .u32 (n32 (wd v 6)), .int .u32 (n32 (wd v 7))] 52)) (w1.heap.size + 1) 52 (wc (rnds (R8.of v) W 0).list) by
    have := Blk.new w2 52 (wc (rnds (R8.of v) W 0).list)
    rw [hs2] at this
    exact this)
  have HK3 := Lib.hid (HK2.out.alloc (.cells #[.int .u32 (n32 (wd v 0)), .int .u32 (n32 (wd v 1)), .int .u32 (n32 (wd v 2)), .int .u32 (n32 (wd v 3)), .int .u32 (n32 (wd v 4)), .int .u32 (n32 (wd v 5)), .int .u32 (n32 (wd v 6)), .int .u32 (n32 (wd v 7))] 52))
  have HV3 := Lib.hid (HV2.out.alloc (.cells #[.int .u32 (n32 (wd v 0)), .int .u32 (n32 (wd v 1)), .int .u32 (n32 (wd v 2)), .int .u32 (n32 (wd v 3)), .int .u32 (n32 (wd v 4)), .int .u32 (n32 (wd v 5)), .int .u32 (n32 (wd v 6)), .int .u32 (n32 (wd v 7))] 52))
  have HZ3 := Lib.hid (HZ2.out.alloc (.cells #[.int .u32 (n32 (wd v 0)), .int .u32 (n32 (wd v 1)), .int .u32 (n32 (wd v 2)), .int .u32 (n32 (wd v 3)), .int .u32 (n32 (wd v 4)), .int .u32 (n32 (wd v 5)), .int .u32 (n32 (wd v 6)), .int .u32 (n32 (wd v 7))] 52))
  have HG3 := Lib.hid (HG2.out.alloc HG2.out.size (.cells #[.int .u32 (n32 (wd v 0)), .int .u32 (n32 (wd v 1)), .int .u32 (n32 (wd v 2)), .int .u32 (n32 (wd v 3)), .int .u32 (n32 (wd v 4)), .int .u32 (n32 (wd v 5)), .int .u32 (n32 (wd v 6)), .int .u32 (n32 (wd v 7))] 52))
  have HO3 := Lib.hid (HO2.out.alloc (.cells #[.int .u32 (n32 (wd v 0)), .int .u32 (n32 (wd v 1)), .int .u32 (n32 (wd v 2)), .int .u32 (n32 (wd v 3)), .int .u32 (n32 (wd v 4)), .int .u32 (n32 (wd v 5)), .int .u32 (n32 (wd v 6)), .int .u32 (n32 (wd v 7))] 52))
  obtain ⟨P, HP⟩ : ∃ P, Hid (P = rnds (R8.of v) W) := ⟨_, rfl⟩
  rw [← HP.out] at HP0
  obtain ⟨w3, hw3⟩ : ∃ w3, w3 = (w2.alloc (.cells #[.int .u32 (n32 (wd v 0)), .int .u32 (n32 (wd v 1)), .int .u32 (n32 (wd v 2)), .int .u32 (n32 (wd v 3)), .int .u32 (n32 (wd v 4)), .int .u32 (n32 (wd v 5)), .int .u32 (n32 (wd v 6)), .int .u32 (n32 (wd v 7))] 52)) := ⟨_, rfl⟩
  rw [← hw3] at HP0 HK3 HV3 HZ3 HG3 HO3 ⊢
  clear hw3 HK2 HV2 HZ2 HG2 HO2
  go_loopw [8, 9, 10, 11, 12, 13, 14, 15, 16] (fun v8 v9 v10 v11 v12 v13 v14 v15 v16 wx => ∃ i : Nat, i ≤ 64 ∧ v8 = .int .i64 i ∧ Blk wx (w1.heap.size + 1) 52 (wc (P i).list) ∧ w3.grownBy wx (some (w1.heap.size + 1))) (fun v8 _ _ _ _ _ _ _ _ _ => 64 - (intOf v8).toNat)
  case atStart => exact ⟨0, by omega, rfl, HP0.out, only_refl _ _⟩
  case round =>
    obtain ⟨i, hi, rfl, hB, hG⟩ := hrel
    have HB := Lib.hid hB
    have HG := Lib.hid hG
    clear hB hG
    by_cases hlt : i < 64
    · have d0 : wr.cell? ⟨w1.heap.size + 1, 0, none⟩ = some (.int .u32 (n32 (P i).a)) := HB.out.cell 0
      have d1 : wr.cell? ⟨w1.heap.size + 1, 1, none⟩ = some (.int .u32 (n32 (P i).b)) := HB.out.cell 1
      have d2 : wr.cell? ⟨w1.heap.size + 1, 2, none⟩ = some (.int .u32 (n32 (P i).c)) := HB.out.cell 2
      have d3 : wr.cell? ⟨w1.heap.size + 1, 3, none⟩ = some (.int .u32 (n32 (P i).d)) := HB.out.cell 3
      have d4 : wr.cell? ⟨w1.heap.size + 1, 4, none⟩ = some (.int .u32 (n32 (P i).e)) := HB.out.cell 4
      have d5 : wr.cell? ⟨w1.heap.size + 1, 5, none⟩ = some (.int .u32 (n32 (P i).f)) := HB.out.cell 5
      have d6 : wr.cell? ⟨w1.heap.size + 1, 6, none⟩ = some (.int .u32 (n32 (P i).g)) := HB.out.cell 6
      have d7 : wr.cell? ⟨w1.heap.size + 1, 7, none⟩ = some (.int .u32 (n32 (P i).k)) := HB.out.cell 7
      have f0 := HB.out.frozen 0
      have f1 := HB.out.frozen 1
      have f2 := HB.out.frozen 2
      have f3 := HB.out.frozen 3
      have f4 := HB.out.frozen 4
      have f5 := HB.out.frozen 5
      have f6 := HB.out.frozen 6
      have f7 := HB.out.frozen 7
      have c1 : wr.cell? ⟨w1.heap.size, i, none⟩ = some (.int .u32 (n32 (wd ksL i))) := HG.out.cell ((HK3.out.cell i).trans (wc_get ksL i (show i < 64 from hlt))) (by simp)
      have c2 : wr.cell? ⟨g, i, none⟩ = some (.int .u32 (n32 (wd W i))) := HG.out.cell ((HO3.out.cell i (by rw [cw_length]; omega)).trans (cw_get W i (by omega))) (by simp; omega)
      have e3 : 0 ≤ (i : Int) ∧ (i : Int) < 64 := by omega
      obtain ⟨R, hR⟩ : ∃ R, Hid (R = P i) := ⟨_, rfl⟩
      rw [← hR.out] at d0 d1 d2 d3 d4 d5 d6 d7
      go_wp2_with fail
      go_quiet (fail)
      go_wp2_with fail
      go_quiet ((first | (go_at_call 42; exact quiet_turn _ _ (by decide)) | (go_at_call 42; exact quiet_turn_add _ _ (by decide))))
      go_wp2_with (go_at_call 42; refine (turn_lit _ _ (by decide) _).mono ?_; rintro e w' ⟨rfl, rfl⟩)
      have hP1 : (P (i + 1)) = rnd R (rndT R (wd ksL i) (wd W i)) (rndU R) := by rw [hR.out, HP.out]; rfl
      have HP1 := Lib.hid hP1
      clear hP1
      go_roundw
      case rel =>
        refine ⟨i + 1, by omega, by go_num, ?_, ?_⟩
        · rw [HP1.out]
          simp only [v32_add, ch_eq, maj_eq]
          have hb := HB.out
          rw [← hR.out] at hb
          exact Blk.set8 (hb.drewN _) _ _ _ _ _ _ _ _
        · exact only_set8 (only_drewN HG.out _) _ _ _ _ _ _ _ _
      case measure => simp [intOf]; omega
    · obtain rfl : i = 64 := by omega
      rw [show ((64 : Nat) : Int) = 64 from rfl]
      obtain ⟨R, hR⟩ : ∃ R, Hid (R = P 64) := ⟨_, rfl⟩
      rw [← hR.out] at HB
      have hM : mixv v r = addTo v R.list 8 := by rw [mixv_eq, hR.out, HP.out, hW.out]
      have HM := Lib.hid hM
      have HV4 := Lib.hid (HV3.out.grown HG.out (by simp; omega))
      have HZ4 := Lib.hid (HZ3.out.grown HG.out (by simp; omega))
      have HG4 := Lib.hid (below_of_only HG3.out HG.out (by omega) (by have := HG3.out.size; omega))
      clear hM
      go_wp2_with fail
      obtain ⟨w4, rfl⟩ : ∃ w4, w4 = wr := ⟨_, rfl⟩
      go_loopw [17] (fun v17 wx => ∃ j : Nat, j ≤ 8 ∧ v17 = .int .i64 j ∧ Blk wx w.heap.size 52 (wc (addTo v R.list j)) ∧ w4.grownBy wx (some w.heap.size)) (fun v _ => 8 - (intOf v).toNat)
      case atStart => exact ⟨0, by omega, rfl, HV4.out, only_refl _ _⟩
      case round =>
        obtain ⟨j, hj, rfl, hB2, hG2⟩ := hrel
        have HB2 := Lib.hid hB2
        have HG2 := Lib.hid hG2
        clear hB2 hG2
        have hal : (addTo v R.list j).length = 8 := by rw [addTo_length]; exact hv
        by_cases hlt2 : j < 8
        · have c1 := (HB2.out.cell j).trans (wc_get _ j (by omega))
          have f1 := HB2.out.frozen j
          have c2 : wr.cell? ⟨w1.heap.size + 1, j, none⟩ = some (.int .u32 (n32 (wd R.list j))) := HG2.out.cell ((HB.out.cell j).trans (wc_get R.list j (show j < 8 from hlt2))) (by simp; omega)
          have e3 : 0 ≤ (j : Int) ∧ (j : Int) < 8 := by omega
          have hfin : Blk ((wr.drew).setCell ⟨w.heap.size, j, none⟩ (.int .u32 (n32 (wd (addTo v R.list j) j + wd R.list j)))) w.heap.size 52 (wc (addTo v R.list (j + 1))) ∧ w4.grownBy ((wr.drew).setCell ⟨w.heap.size, j, none⟩ (.int .u32 (n32 (wd (addTo v R.list j) j + wd R.list j)))) (some w.heap.size) := by
            have := HB2.out.drew.set_ j (.int .u32 (n32 (wd (addTo v R.list j) j + wd R.list j)))
            rw [wc_set] at this
            exact ⟨this, only_set (only_drew HG2.out) (.inl rfl) _⟩
          have HF := Lib.hid hfin
          clear hfin
          go_wp2_with fail
          refine still_tail 8 (by kernel_rfl) (by kernel_rfl) ?_
          simp only [List.take_succ_cons, List.take_zero, List.drop_succ_cons, List.drop_zero]
          repeat still_step
          refine wpStill_nil ?_
          go_wp2
          go_roundw
          case rel =>
            refine ⟨j + 1, by omega, by go_num, ?_⟩
            try simp only [v32_add]
            exact HF.out
          case measure => simp [intOf]; omega
        · obtain rfl : j = 8 := by omega
          rw [← HM.out] at hal HB2
          have d0 := (HB2.out.cell 0).trans (wc_get _ 0 (by omega))
          have d1 := (HB2.out.cell 1).trans (wc_get _ 1 (by omega))
          have d2 := (HB2.out.cell 2).trans (wc_get _ 2 (by omega))
          have d3 := (HB2.out.cell 3).trans (wc_get _ 3 (by omega))
          have d4 := (HB2.out.cell 4).trans (wc_get _ 4 (by omega))
          have d5 := (HB2.out.cell 5).trans (wc_get _ 5 (by omega))
          have d6 := (HB2.out.cell 6).trans (wc_get _ 6 (by omega))
          have d7 := (HB2.out.cell 7).trans (wc_get _ 7 (by omega))
          have hz := HZ4.out.grown HG2.out (by simp)
          have z0 := hz.cell 0
          have z1 := hz.cell 1
          have z2 := hz.cell 2
          have z3 := hz.cell 3
          have z4 := hz.cell 4
          have z5 := hz.cell 5
          have z6 := hz.cell 6
          have z7 := hz.cell 7
          have g0 := hz.frozen 0
          have g1 := hz.frozen 1
          have g2 := hz.frozen 2
          have g3 := hz.frozen 3
          have g4 := hz.frozen 4
          have g5 := hz.frozen 5
          have g6 := hz.frozen 6
          have g7 := hz.frozen 7
          simp at z0 z1 z2 z3 z4 z5 z6 z7
          clear hz
          have hgz := Lib.hid (below_of_only (g := w.heap.size + 1) (below_of_only HG4.out HG2.out (by omega) (by have := HG4.out.size; omega)) (only_set8 (only_refl wr (some (w.heap.size + 1))) (.int .u32 (n32 (wd (mixv v r) 0))) (.int .u32 (n32 (wd (mixv v r) 1))) (.int .u32 (n32 (wd (mixv v r) 2))) (.int .u32 (n32 (wd (mixv v r) 3))) (.int .u32 (n32 (wd (mixv v r) 4))) (.int .u32 (n32 (wd (mixv v r) 5))) (.int .u32 (n32 (wd (mixv v r) 6))) (.int .u32 (n32 (wd (mixv v r) 7)))) (by omega) (by have := HG4.out.size; have := HG2.out.size; omega))
          have hbz : Blk wr (w.heap.size + 1) 52 (wc (R8.list ⟨0, 0, 0, 0, 0, 0, 0, 0⟩)) := HZ4.out.grown HG2.out (by simp)
          have HBZ := Lib.hid (hbz.set8 (wd (mixv v r) 0) (wd (mixv v r) 1) (wd (mixv v r) 2) (wd (mixv v r) 3) (wd (mixv v r) 4) (wd (mixv v r) 5) (wd (mixv v r) 6) (wd (mixv v r) 7))
          clear hbz
          go_wp2
          exact bodyPost_ret (results_cell_row rfl _ _ (w.heap.size + 1) 52 _ (0, 0) _ rfl HBZ.out Tryd.underlying52 rfl (by kernel_rfl)) rfl ⟨rfl, hgz.out⟩
end
end Go.Proofs.YtmaomfebhbpjmaaDoor

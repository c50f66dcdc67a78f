/- The walk of the reference's mixed: eight words, with a block. The walks of the reference's whole and Digest. The walk of the reference's Digest; Sum, Bind, Short with it. dovecotebook.SameTexts: the same texts? The reference's Cut. The law PartsCut. -/
import Derived.Test.YtlogcgeinbefjaaDoorZb954bb88
import Derived.Test.YtlogcgeinbefjaaDoorZa8fe5c2f
import Derived.Deep.RegionHeld3
import Derived.WalkLawsBesides
import Derived.Deep.LoopGhost
import Derived.Deep.Cut
import Derived.Outline
import Derived.Deep.QuietTactic
import Derived.BigQuiet
import Derived.Deep.RegionWith
import Derived.Deep.RegionLaw
import Derived.Deep.RegionHeldLaw
namespace Go.Proofs.YtlogcgeinbefjaaDoor
open Go.RowKit
set_option linter.unusedSimpArgs false
set_option linter.unusedVariables false
def agg8 (v : List (BitVec 32)) : Value := .agg #[.int .u32 (n32 (wd v 0)), .int .u32 (n32 (wd v 1)), .int .u32 (n32 (wd v 2)), .int .u32 (n32 (wd v 3)), .int .u32 (n32 (wd v 4)), .int .u32 (n32 (wd v 5)), .int .u32 (n32 (wd v 6)), .int .u32 (n32 (wd v 7))]
theorem wc8 (v : List (BitVec 32)) (h : v.length = 8) : wc v = #[.int .u32 (n32 (wd v 0)), .int .u32 (n32 (wd v 1)), .int .u32 (n32 (wd v 2)), .int .u32 (n32 (wd v 3)), .int .u32 (n32 (wd v 4)), .int .u32 (n32 (wd v 5)), .int .u32 (n32 (wd v 6)), .int .u32 (n32 (wd v 7))] := by
  match v, h with
  | [a, b, c, d, e, f, g, k], _ => rfl
theorem Blk.set8 {w : World} {g : Nat} {t : TypeId} {R : R8} (h : Blk w g t (wc R.list)) (x0 x1 x2 x3 x4 x5 x6 x7 : BitVec 32) :
    Blk ((((((((w.setCell ⟨g, 0, none⟩ (.int .u32 (n32 x0))).setCell ⟨g, 1, none⟩ (.int .u32 (n32 x1))).setCell ⟨g, 2, none⟩ (.int .u32 (n32 x2))).setCell ⟨g, 3, none⟩ (.int .u32 (n32 x3))).setCell ⟨g, 4, none⟩ (.int .u32 (n32 x4))).setCell ⟨g, 5, none⟩ (.int .u32 (n32 x5))).setCell ⟨g, 6, none⟩ (.int .u32 (n32 x6))).setCell ⟨g, 7, none⟩ (.int .u32 (n32 x7))) g t (wc (R8.list ⟨x0, x1, x2, x3, x4, x5, x6, x7⟩)) := by
  have h8 := (((((((h.set_ 0 (.int .u32 (n32 x0))).set_ 1 (.int .u32 (n32 x1))).set_ 2 (.int .u32 (n32 x2))).set_ 3 (.int .u32 (n32 x3))).set_ 4 (.int .u32 (n32 x4))).set_ 5 (.int .u32 (n32 x5))).set_ 6 (.int .u32 (n32 x6))).set_ 7 (.int .u32 (n32 x7))
  simp only [wc_set] at h8
  exact h8
theorem only_set8 {a w : World} {g : Nat} (h : a.grownBy w (some g)) (x0 x1 x2 x3 x4 x5 x6 x7 : Value) :
    a.grownBy ((((((((w.setCell ⟨g, 0, none⟩ x0).setCell ⟨g, 1, none⟩ x1).setCell ⟨g, 2, none⟩ x2).setCell ⟨g, 3, none⟩ x3).setCell ⟨g, 4, none⟩ x4).setCell ⟨g, 5, none⟩ x5).setCell ⟨g, 6, none⟩ x6).setCell ⟨g, 7, none⟩ x7) (some g) :=
  only_set (only_set (only_set (only_set (only_set (only_set (only_set (only_set h (.inl rfl) _) (.inl rfl) _) (.inl rfl) _) (.inl rfl) _) (.inl rfl) _) (.inl rfl) _) (.inl rfl) _) (.inl rfl) _
theorem quiet_turn {w : World} {n : Nat} (x : BitVec 32) (c : Int) (h : 0 ≤ c ∧ c ≤ 32) :
    Calls Tryd.prog 51 #[.int .u32 (n32 x), .int .i64 c] (w.drewN n) fun e w'' => e = .returned (.int .u32 (n32 (rr x c.toNat))) ∧ ∃ m, w'' = w.drewN m :=
  (turn_lit x c h (w.drewN n)).mono fun _ _ ⟨he, hw⟩ => ⟨he, n + 1, hw⟩
theorem quiet_turn_add {w : World} {a n : Nat} (x : BitVec 32) (c : Int) (h : 0 ≤ c ∧ c ≤ 32) :
    Calls Tryd.prog 51 #[.int .u32 (n32 x), .int .i64 c] (w.drewN (a + n)) fun e w'' => e = .returned (.int .u32 (n32 (rr x c.toNat))) ∧ ∃ m, w'' = w.drewN (a + m) :=
  (turn_lit x c h (w.drewN (a + n))).mono fun _ _ ⟨he, hw⟩ => ⟨he, n + 1, hw⟩
theorem v32_not (x : BitVec 32) : bits BinOp.xor IntKind.u32 (if IntKind.u32.signed = true then -1 else IntKind.u32.max) (n32 x) = n32 (~~~x) := by
  have h : (if IntKind.u32.signed = true then -1 else IntKind.u32.max) = n32 (BitVec.allOnes 32) := by decide
  rw [h, v32_xor, BitVec.allOnes_xor]
theorem z45 : ∀ w, (zeroValue 106).run Tryd.prog w = .ok (.agg #[.int .u32 0, .int .u32 0, .int .u32 0, .int .u32 0, .int .u32 0, .int .u32 0, .int .u32 0, .int .u32 0]) w := fun _ => by kernel_rfl
section
attribute [local go_sem] v32_add v32_xor v32_and v32_or v32_shr3 v32_shr10 v32_shl8 v32_not v32_addw
set_option maxHeartbeats 1600000 in
set_option maxRecDepth 100000 in
theorem mixed_any (v : List (BitVec 32)) (hv : v.length = 8) (r : List UInt8) (hr : r.length = 64) (w : World) :
    Calls Tryd.prog 42 #[agg8 v, .string ⟨r.toArray⟩] w fun e w' => e = .returned (agg8 (mixv v r)) ∧ Below w.heap.size w w' := by
  have Z := z45
  have hw8 := wc8 v hv
  unfold agg8
  go_enter Tryd.func42, Tryd.ntmps42
  go_wp2_with fail
  rw [← hw8]
  have V0 : Blk ((w.alloc (.cells (wc v) 106)).alloc (.cells #[.int .u32 0, .int .u32 0, .int .u32 0, .int .u32 0, .int .u32 0, .int .u32 0, .int .u32 0, .int .u32 0] 106)) w.heap.size 106 (wc v) := (Blk.new w _ _).alloc _
  have Z0 : Blk ((w.alloc (.cells (wc v) 106)).alloc (.cells #[.int .u32 0, .int .u32 0, .int .u32 0, .int .u32 0, .int .u32 0, .int .u32 0, .int .u32 0, .int .u32 0] 106)) (w.heap.size + 1) 106 #[.int .u32 0, .int .u32 0, .int .u32 0, .int .u32 0, .int .u32 0, .int .u32 0, .int .u32 0, .int .u32 0] := by
    have := Blk.new (w.alloc (.cells (wc v) 106)) 106 #[.int .u32 0, .int .u32 0, .int .u32 0, .int .u32 0, .int .u32 0, .int .u32 0, .int .u32 0, .int .u32 0]
    simpa using this
  have G0 : Below w.heap.size w ((w.alloc (.cells (wc v) 106)).alloc (.cells #[.int .u32 0, .int .u32 0, .int .u32 0, .int .u32 0, .int .u32 0, .int .u32 0, .int .u32 0, .int .u32 0] 106)) := ((Below.refl w.heap.size w).alloc (Nat.le_refl _) _).alloc (by simp) _
  obtain ⟨wa, hwa⟩ : ∃ wa, wa = (w.alloc (.cells (wc v) 106)).alloc (.cells #[.int .u32 0, .int .u32 0, .int .u32 0, .int .u32 0, .int .u32 0, .int .u32 0, .int .u32 0, .int .u32 0] 106) := ⟨_, rfl⟩
  rw [← hwa] at V0 Z0 G0 ⊢
  have hwas : wa.heap.size = w.heap.size + 2 := by rw [hwa]; simp
  clear hwa
  refine (grown_any r hr wa).mono ?_
  rintro e w1 ⟨⟨g, c, rfl, ho⟩, b1⟩
  have V1 := V0.below b1 (by omega)
  have Z1 := Z0.below b1 (by omega)
  have G1 := G0.trans (b1.mono (by omega))
  have hgb : wa.heap.size ≤ g ∧ g < w1.heap.size := ho.lt g rfl
  have hw1 := b1.size
  clear b1 V0 Z0 G0 hw8
  obtain ⟨W, hW⟩ : ∃ W, Hid (W = w64 r) := ⟨_, rfl⟩
  have hWl : W.length = 64 := by rw [hW.out]; exact w64_length r
  rw [← hW.out] at ho
  have HV1 := Lib.hid V1
  have HZ1 := Lib.hid Z1
  have HG1 := Lib.hid G1
  have HO := Lib.hid ho
  clear V1 Z1 G1 ho
  go_wp2_with fail
  refine (ks_any _).mono ?_
  rintro e w2 ⟨rfl, rfl⟩
  have HK2 := Lib.hid (Blk.new w1 105 (wc ksL))
  have HV2 := Lib.hid (HV1.out.alloc (.cells (wc ksL) 105))
  have HZ2 := Lib.hid (HZ1.out.alloc (.cells (wc ksL) 105))
  have HG2 := Lib.hid (HG1.out.alloc HG1.out.size (.cells (wc ksL) 105))
  have HO2 := Lib.hid (HO.out.alloc (.cells (wc ksL) 105))
  obtain ⟨w2, hw2⟩ : ∃ w2, w2 = w1.alloc (.cells (wc ksL) 105) := ⟨_, rfl⟩
  have hs2 : w2.heap.size = w1.heap.size + 1 := by rw [hw2]; simp
  rw [← hw2] at HK2 HV2 HZ2 HG2 HO2 ⊢
  have d0 := (HV2.out.cell 0).trans (wc_get v 0 (by omega))
  have d1 := (HV2.out.cell 1).trans (wc_get v 1 (by omega))
  have d2 := (HV2.out.cell 2).trans (wc_get v 2 (by omega))
  have d3 := (HV2.out.cell 3).trans (wc_get v 3 (by omega))
  have d4 := (HV2.out.cell 4).trans (wc_get v 4 (by omega))
  have d5 := (HV2.out.cell 5).trans (wc_get v 5 (by omega))
  have d6 := (HV2.out.cell 6).trans (wc_get v 6 (by omega))
  have d7 := (HV2.out.cell 7).trans (wc_get v 7 (by omega))
  clear hw2 HV1 HZ1 HG1 HO
  go_wp2_with fail
  clear d0 d1 d2 d3 d4 d5 d6 d7
  have HP0 := Lib.hid (show Blk (w2.alloc (.cells #[.int .u32 (n32 (wd v 0)), .int .u32 (n32 (wd v 1)), .int .u32 (n32 (wd v 2)), .int .u32 (n32 (wd v 3)), .int .u32 (n32 (wd v 4)), .int .u32 (n32 (wd v 5)), .int .u32 (n32 (wd v 6)), .int .u32 (n32 (wd v 7))] 106)) (w1.heap.size + 1) 106 (wc (rnds (R8.of v) W 0).list) by
    have := Blk.new w2 106 (wc (rnds (R8.of v) W 0).list)
    rw [hs2] at this
    exact this)
  have HK3 := Lib.hid (HK2.out.alloc (.cells #[.int .u32 (n32 (wd v 0)), .int .u32 (n32 (wd v 1)), .int .u32 (n32 (wd v 2)), .int .u32 (n32 (wd v 3)), .int .u32 (n32 (wd v 4)), .int .u32 (n32 (wd v 5)), .int .u32 (n32 (wd v 6)), .int .u32 (n32 (wd v 7))] 106))
  have HV3 := Lib.hid (HV2.out.alloc (.cells #[.int .u32 (n32 (wd v 0)), .int .u32 (n32 (wd v 1)), .int .u32 (n32 (wd v 2)), .int .u32 (n32 (wd v 3)), .int .u32 (n32 (wd v 4)), .int .u32 (n32 (wd v 5)), .int .u32 (n32 (wd v 6)), .int .u32 (n32 (wd v 7))] 106))
  have HZ3 := Lib.hid (HZ2.out.alloc (.cells #[.int .u32 (n32 (wd v 0)), .int .u32 (n32 (wd v 1)), .int .u32 (n32 (wd v 2)), .int .u32 (n32 (wd v 3)), .int .u32 (n32 (wd v 4)), .int .u32 (n32 (wd v 5)), .int .u32 (n32 (wd v 6)), .int .u32 (n32 (wd v 7))] 106))
  have HG3 := Lib.hid (HG2.out.alloc HG2.out.size (.cells #[.int .u32 (n32 (wd v 0)), .int .u32 (n32 (wd v 1)), .int .u32 (n32 (wd v 2)), .int .u32 (n32 (wd v 3)), .int .u32 (n32 (wd v 4)), .int .u32 (n32 (wd v 5)), .int .u32 (n32 (wd v 6)), .int .u32 (n32 (wd v 7))] 106))
  have HO3 := Lib.hid (HO2.out.alloc (.cells #[.int .u32 (n32 (wd v 0)), .int .u32 (n32 (wd v 1)), .int .u32 (n32 (wd v 2)), .int .u32 (n32 (wd v 3)), .int .u32 (n32 (wd v 4)), .int .u32 (n32 (wd v 5)), .int .u32 (n32 (wd v 6)), .int .u32 (n32 (wd v 7))] 106))
  obtain ⟨P, HP⟩ : ∃ P, Hid (P = rnds (R8.of v) W) := ⟨_, rfl⟩
  rw [← HP.out] at HP0
  obtain ⟨w3, hw3⟩ : ∃ w3, w3 = (w2.alloc (.cells #[.int .u32 (n32 (wd v 0)), .int .u32 (n32 (wd v 1)), .int .u32 (n32 (wd v 2)), .int .u32 (n32 (wd v 3)), .int .u32 (n32 (wd v 4)), .int .u32 (n32 (wd v 5)), .int .u32 (n32 (wd v 6)), .int .u32 (n32 (wd v 7))] 106)) := ⟨_, rfl⟩
  rw [← hw3] at HP0 HK3 HV3 HZ3 HG3 HO3 ⊢
  clear hw3 HK2 HV2 HZ2 HG2 HO2
  go_loopw [8, 9, 10, 11, 12, 13, 14, 15, 16] (fun v8 v9 v10 v11 v12 v13 v14 v15 v16 wx => ∃ i : Nat, i ≤ 64 ∧ v8 = .int .i64 i ∧ Blk wx (w1.heap.size + 1) 106 (wc (P i).list) ∧ w3.grownBy wx (some (w1.heap.size + 1))) (fun v8 _ _ _ _ _ _ _ _ _ => 64 - (intOf v8).toNat)
  case atStart => exact ⟨0, by omega, rfl, HP0.out, only_refl _ _⟩
  case round =>
    obtain ⟨i, hi, rfl, hB, hG⟩ := hrel
    have HB := Lib.hid hB
    have HG := Lib.hid hG
    clear hB hG
    by_cases hlt : i < 64
    · have d0 : wr.cell? ⟨w1.heap.size + 1, 0, none⟩ = some (.int .u32 (n32 (P i).a)) := HB.out.cell 0
      have d1 : wr.cell? ⟨w1.heap.size + 1, 1, none⟩ = some (.int .u32 (n32 (P i).b)) := HB.out.cell 1
      have d2 : wr.cell? ⟨w1.heap.size + 1, 2, none⟩ = some (.int .u32 (n32 (P i).c)) := HB.out.cell 2
      have d3 : wr.cell? ⟨w1.heap.size + 1, 3, none⟩ = some (.int .u32 (n32 (P i).d)) := HB.out.cell 3
      have d4 : wr.cell? ⟨w1.heap.size + 1, 4, none⟩ = some (.int .u32 (n32 (P i).e)) := HB.out.cell 4
      have d5 : wr.cell? ⟨w1.heap.size + 1, 5, none⟩ = some (.int .u32 (n32 (P i).f)) := HB.out.cell 5
      have d6 : wr.cell? ⟨w1.heap.size + 1, 6, none⟩ = some (.int .u32 (n32 (P i).g)) := HB.out.cell 6
      have d7 : wr.cell? ⟨w1.heap.size + 1, 7, none⟩ = some (.int .u32 (n32 (P i).k)) := HB.out.cell 7
      have f0 := HB.out.frozen 0
      have f1 := HB.out.frozen 1
      have f2 := HB.out.frozen 2
      have f3 := HB.out.frozen 3
      have f4 := HB.out.frozen 4
      have f5 := HB.out.frozen 5
      have f6 := HB.out.frozen 6
      have f7 := HB.out.frozen 7
      have c1 : wr.cell? ⟨w1.heap.size, i, none⟩ = some (.int .u32 (n32 (wd ksL i))) := HG.out.cell ((HK3.out.cell i).trans (wc_get ksL i (show i < 64 from hlt))) (by simp)
      have c2 : wr.cell? ⟨g, i, none⟩ = some (.int .u32 (n32 (wd W i))) := HG.out.cell ((HO3.out.cell i (by rw [cw_length]; omega)).trans (cw_get W i (by omega))) (by simp; omega)
      have e3 : 0 ≤ (i : Int) ∧ (i : Int) < 64 := by omega
      obtain ⟨R, hR⟩ : ∃ R, Hid (R = P i) := ⟨_, rfl⟩
      rw [← hR.out] at d0 d1 d2 d3 d4 d5 d6 d7
      go_wp2_with fail
      go_quiet (fail)
      go_wp2_with fail
      go_quiet ((first | (go_at_call 51; exact quiet_turn _ _ (by decide)) | (go_at_call 51; exact quiet_turn_add _ _ (by decide))))
      go_wp2_with (go_at_call 51; refine (turn_lit _ _ (by decide) _).mono ?_; rintro e w' ⟨rfl, rfl⟩)
      have hP1 : (P (i + 1)) = rnd R (rndT R (wd ksL i) (wd W i)) (rndU R) := by rw [hR.out, HP.out]; rfl
      have HP1 := Lib.hid hP1
      clear hP1
      go_roundw
      case rel =>
        refine ⟨i + 1, by omega, by go_num, ?_, ?_⟩
        · rw [HP1.out]
          simp only [v32_add, ch_eq, maj_eq]
          have hb := HB.out
          rw [← hR.out] at hb
          exact Blk.set8 (hb.drewN _) _ _ _ _ _ _ _ _
        · exact only_set8 (only_drewN HG.out _) _ _ _ _ _ _ _ _
      case measure => simp [intOf]; omega
    · obtain rfl : i = 64 := by omega
      rw [show ((64 : Nat) : Int) = 64 from rfl]
      obtain ⟨R, hR⟩ : ∃ R, Hid (R = P 64) := ⟨_, rfl⟩
      rw [← hR.out] at HB
      have hM : mixv v r = addTo v R.list 8 := by rw [mixv_eq, hR.out, HP.out, hW.out]
      have HM := Lib.hid hM
      have HV4 := Lib.hid (HV3.out.grown HG.out (by simp; omega))
      have HZ4 := Lib.hid (HZ3.out.grown HG.out (by simp; omega))
      have HG4 := Lib.hid (below_of_only HG3.out HG.out (by omega) (by have := HG3.out.size; omega))
      clear hM
      go_wp2_with fail
      obtain ⟨w4, rfl⟩ : ∃ w4, w4 = wr := ⟨_, rfl⟩
      go_loopw [17] (fun v17 wx => ∃ j : Nat, j ≤ 8 ∧ v17 = .int .i64 j ∧ Blk wx w.heap.size 106 (wc (addTo v R.list j)) ∧ w4.grownBy wx (some w.heap.size)) (fun v _ => 8 - (intOf v).toNat)
      case atStart => exact ⟨0, by omega, rfl, HV4.out, only_refl _ _⟩
      case round =>
        obtain ⟨j, hj, rfl, hB2, hG2⟩ := hrel
        have HB2 := Lib.hid hB2
        have HG2 := Lib.hid hG2
        clear hB2 hG2
        have hal : (addTo v R.list j).length = 8 := by rw [addTo_length]; exact hv
        by_cases hlt2 : j < 8
        · have c1 := (HB2.out.cell j).trans (wc_get _ j (by omega))
          have f1 := HB2.out.frozen j
          have c2 : wr.cell? ⟨w1.heap.size + 1, j, none⟩ = some (.int .u32 (n32 (wd R.list j))) := HG2.out.cell ((HB.out.cell j).trans (wc_get R.list j (show j < 8 from hlt2))) (by simp; omega)
          have e3 : 0 ≤ (j : Int) ∧ (j : Int) < 8 := by omega
          have hfin : Blk ((wr.drew).setCell ⟨w.heap.size, j, none⟩ (.int .u32 (n32 (wd (addTo v R.list j) j + wd R.list j)))) w.heap.size 106 (wc (addTo v R.list (j + 1))) ∧ w4.grownBy ((wr.drew).setCell ⟨w.heap.size, j, none⟩ (.int .u32 (n32 (wd (addTo v R.list j) j + wd R.list j)))) (some w.heap.size) := by
            have := HB2.out.drew.set_ j (.int .u32 (n32 (wd (addTo v R.list j) j + wd R.list j)))
            rw [wc_set] at this
            exact ⟨this, only_set (only_drew HG2.out) (.inl rfl) _⟩
          have HF := Lib.hid hfin
          clear hfin
          go_wp2_with fail
          refine still_tail 8 (by kernel_rfl) (by kernel_rfl) ?_
          simp only [List.take_succ_cons, List.take_zero, List.drop_succ_cons, List.drop_zero]
          repeat still_step
          refine wpStill_nil ?_
          go_wp2
          go_roundw
          case rel =>
            refine ⟨j + 1, by omega, by go_num, ?_⟩
            try simp only [v32_add]
            exact HF.out
          case measure => simp [intOf]; omega
        · obtain rfl : j = 8 := by omega
          rw [← HM.out] at hal HB2
          have d0 := (HB2.out.cell 0).trans (wc_get _ 0 (by omega))
          have d1 := (HB2.out.cell 1).trans (wc_get _ 1 (by omega))
          have d2 := (HB2.out.cell 2).trans (wc_get _ 2 (by omega))
          have d3 := (HB2.out.cell 3).trans (wc_get _ 3 (by omega))
          have d4 := (HB2.out.cell 4).trans (wc_get _ 4 (by omega))
          have d5 := (HB2.out.cell 5).trans (wc_get _ 5 (by omega))
          have d6 := (HB2.out.cell 6).trans (wc_get _ 6 (by omega))
          have d7 := (HB2.out.cell 7).trans (wc_get _ 7 (by omega))
          have hz := HZ4.out.grown HG2.out (by simp)
          have z0 := hz.cell 0
          have z1 := hz.cell 1
          have z2 := hz.cell 2
          have z3 := hz.cell 3
          have z4 := hz.cell 4
          have z5 := hz.cell 5
          have z6 := hz.cell 6
          have z7 := hz.cell 7
          have g0 := hz.frozen 0
          have g1 := hz.frozen 1
          have g2 := hz.frozen 2
          have g3 := hz.frozen 3
          have g4 := hz.frozen 4
          have g5 := hz.frozen 5
          have g6 := hz.frozen 6
          have g7 := hz.frozen 7
          simp at z0 z1 z2 z3 z4 z5 z6 z7
          clear hz
          have hgz := Lib.hid (below_of_only (g := w.heap.size + 1) (below_of_only HG4.out HG2.out (by omega) (by have := HG4.out.size; omega)) (only_set8 (only_refl wr (some (w.heap.size + 1))) (.int .u32 (n32 (wd (mixv v r) 0))) (.int .u32 (n32 (wd (mixv v r) 1))) (.int .u32 (n32 (wd (mixv v r) 2))) (.int .u32 (n32 (wd (mixv v r) 3))) (.int .u32 (n32 (wd (mixv v r) 4))) (.int .u32 (n32 (wd (mixv v r) 5))) (.int .u32 (n32 (wd (mixv v r) 6))) (.int .u32 (n32 (wd (mixv v r) 7)))) (by omega) (by have := HG4.out.size; have := HG2.out.size; omega))
          have hbz : Blk wr (w.heap.size + 1) 106 (wc (R8.list ⟨0, 0, 0, 0, 0, 0, 0, 0⟩)) := HZ4.out.grown HG2.out (by simp)
          have HBZ := Lib.hid (hbz.set8 (wd (mixv v r) 0) (wd (mixv v r) 1) (wd (mixv v r) 2) (wd (mixv v r) 3) (wd (mixv v r) 4) (wd (mixv v r) 5) (wd (mixv v r) 6) (wd (mixv v r) 7))
          clear hbz
          go_wp2
          exact bodyPost_ret (results_cell_row rfl _ _ (w.heap.size + 1) 106 _ (0, 0) _ rfl HBZ.out Tryd.underlying106 rfl (by kernel_rfl)) rfl ⟨rfl, hgz.out⟩
end
end Go.Proofs.YtlogcgeinbefjaaDoor
namespace Go.Proofs.YtlogcgeinbefjaaDoor
open Go.RowKit
set_option linter.unusedSimpArgs false
set_option linter.unusedVariables false
theorem eightL_drop (t i : Nat) (h : i < 8) : (eightL t).drop (7 - i) = UInt8.ofNat (t / 2 ^ (8 * i)) :: (eightL t).drop (8 - i) := by
  match i, h with
  | 0, _ => simp [eightL]
  | 1, _ => rfl
  | 2, _ => rfl
  | 3, _ => rfl
  | 4, _ => rfl
  | 5, _ => rfl
  | 6, _ => rfl
  | 7, _ => rfl
  | n + 8, h => exact absurd h (by omega)
/-- what stands behind a text, so much of it written. -/
def endAt (p t i : Nat) : List UInt8 := 128 :: (List.replicate (p + 8 - i) 0 ++ (eightL t).drop (8 - i))
theorem endAt_set (p t i : Nat) (h : i < 8) : (endAt p t i).set (p + 8 - i) (UInt8.ofNat (t / 2 ^ (8 * i))) = endAt p t (i + 1) := by
  unfold endAt
  rw [show p + 8 - i = (p + 7 - i) + 1 by omega, List.set_cons_succ, List.replicate_succ', List.append_assoc, List.set_append_right _ _ (by simp)]
  simp only [List.length_replicate, Nat.sub_self, List.cons_append, List.nil_append, List.set_cons_zero]
  rw [show p + 8 - (i + 1) = p + 7 - i by omega, show 8 - (i + 1) = 7 - i by omega, eightL_drop t i h]
theorem endAt_length (p t i : Nat) (h : i ≤ 8) : (endAt p t i).length = p + 9 := by
  simp [endAt, eightL_length]
  omega
theorem cb_set' (l : List UInt8) (i : Nat) (x : UInt8) : (cb l).set i (.int .u8 (n8 x)) = cb (l.set i x) := by simp [cb, List.map_set]
set_option maxHeartbeats 1000000 in
set_option maxRecDepth 100000 in
theorem whole_any (l : List UInt8) (hl : l.length ≤ 1073741824) (w : World) :
    Calls Tryd.prog 41 #[.string ⟨l.toArray⟩] w fun e w' => e = .returned (.string ⟨(wholeL l).toArray⟩) ∧ Below w.heap.size w w' := by
  have hsz : (⟨l.toArray⟩ : ByteArray).size = l.length := by simp [ByteArray.size]
  obtain ⟨p, hp⟩ : ∃ p, Hid (p = padN l) := ⟨_, rfl⟩
  have hp64 : p < 64 := by rw [hp.out, padN]; omega
  obtain ⟨m, hm⟩ : ∃ m, Hid (m = p + 9) := ⟨_, rfl⟩
  obtain ⟨q, hq⟩ : ∃ q, Hid (q = l.length % 64) := ⟨_, rfl⟩
  have hq64 : q < 64 := by rw [hq.out]; omega
  have e1 : (l.length : Int).tmod 64 = (q : Int) := by rw [hq.out, Int.tmod_eq_emod_of_nonneg (by omega)]; omega
  have e2 : ((119 : Int) - (q : Int)).tmod 64 = (p : Int) := by rw [hp.out, padN, Int.tmod_eq_emod_of_nonneg (by omega), hq.out]; omega
  have e1' : (l.length : Int) % 64 = (q : Int) := by rw [hq.out]; omega
  have e2' : ((119 : Int) - (q : Int)) % 64 = (p : Int) := by rw [hp.out, padN, hq.out]; omega
  have e3 := Lib.hid (show (p : Int) + 9 = (m : Int) by rw [hm.out]; omega)
  obtain ⟨w1, hmk, hown, hgr⟩ := own_make (B := w.heap.size) (t := 42) elemU8 w .i64 .i64 m (by rw [hm.out]; omega) (by rw [hm.out]; omega) (Nat.le_refl _)
  go_enter Tryd.func41, Tryd.ntmps41
  go_wp2_with fail
  have hrep : (List.replicate m (Value.int IntKind.u8 0).cells[0]!) = cb (List.replicate m 0) := by
    have : (Value.int IntKind.u8 0).cells[0]! = .int .u8 (n8 0) := rfl
    rw [this]
    simp [cb, List.map_replicate]
  rw [hrep] at hown
  have c0 := (hown.cell 0 (by rw [cb_length, List.length_replicate, hm.out]; omega)).trans (show _ = some (.int .u8 0) by rw [hm.out]; rfl)
  have f0 := hown.frozen 0
  have hm0 : 0 < m := by rw [hm.out]; omega
  have hset := hown.set_ 0 (.int .u8 (n8 128))
  obtain ⟨T, hT⟩ : ∃ T, Hid (T = l.length * 8 % 18446744073709551616) := ⟨_, rfl⟩
  have hs0 : (cb (List.replicate m 0)).set 0 (.int .u8 (n8 128)) = cb (endAt p T 0) := by
    rw [cb_set', hm.out]
    simp [endAt, List.replicate_succ, eightL]
  rw [hs0] at hset
  have hbel : Below w.heap.size w (w1.setCell ⟨w.heap.size, 0, none⟩ (.int .u8 (n8 128))) := by
    refine below_of_only (w := w1) ⟨hgr.os, hgr.tape, hgr.output, hgr.size, fun i h => hgr.block i h (by simp)⟩ (only_set (only_refl _ (some w.heap.size)) (.inl rfl) _) (Nat.le_refl _) hgr.size
  have HS := Lib.hid hset
  have HB := Lib.hid hbel
  have hglt : w.heap.size < w1.heap.size := (hown.lt _ rfl).2
  clear hset hbel hown hrep hs0
  simp only [e3.out]
  rw [hmk]
  clear hmk
  go_wp2_with fail
  clear c0 f0 hm0 hgr
  go_loopw [5] (fun v5 wx => ∃ i : Nat, i ≤ 8 ∧ v5 = .int .i64 i ∧ Own 5 wx w.heap.size (.slice (some ⟨w.heap.size, 0, none⟩) m m) (cb (endAt p T i)) ∧ Below w.heap.size w wx) (fun v _ => 8 - (intOf v).toNat)
  case atStart => exact ⟨0, by omega, rfl, HS.out, HB.out⟩
  case round =>
    obtain ⟨i, hi, rfl, hB2, hG2⟩ := hrel
    have HB2 := Lib.hid hB2
    have HG2 := Lib.hid hG2
    clear hB2 hG2
    by_cases hlt : i < 8
    · have hm9 : m = p + 9 := hm.out
      have ej : ((p : Int) + 8 - (i : Int)).toNat = p + 8 - i := by omega
      have e5 : 0 ≤ (p : Int) + 8 - (i : Int) ∧ (p : Int) + 8 - (i : Int) < (m : Int) := by omega
      have e6 : 0 ≤ 8 * (i : Int) := by omega
      have e7 : 0 ≤ (i : Int) ∧ (i : Int) < 8 := by omega
      obtain ⟨y, hy⟩ : ∃ y, Hid (y = UInt8.ofNat (T / 2 ^ (8 * i))) := ⟨_, rfl⟩
      have hTl : T = l.length * 8 := by rw [hT.out]; omega
      have e8 : ((l.length : Int) * 8 / 2 ^ (8 * i)) % 256 = n8 y := by
        have := n8_shr T (8 * i)
        rw [← hy.out] at this
        rw [← this, hTl]
        push_cast
        rfl
      have c1 : wr.cell? ⟨w.heap.size, p + 8 - i, none⟩ = some (.int .u8 (n8 (bd (endAt p T i) (p + 8 - i)))) := by
        refine (HB2.out.cell (p + 8 - i) (by rw [cb_length, endAt_length _ _ _ hi]; omega)).trans ?_
        have := cb_get (endAt p T i) (p + 8 - i) (by rw [endAt_length _ _ _ hi]; omega)
        simpa using this
      have f1 : wr.frozen? ⟨w.heap.size, p + 8 - i, none⟩ = false := HB2.out.frozen _
      have hfin : Own 5 (wr.setCell ⟨w.heap.size, p + 8 - i, none⟩ (.int .u8 (n8 y))) w.heap.size (.slice (some ⟨w.heap.size, 0, none⟩) m m) (cb (endAt p T (i + 1))) ∧ Below w.heap.size w (wr.setCell ⟨w.heap.size, p + 8 - i, none⟩ (.int .u8 (n8 y))) := by
        have h1 := HB2.out.set_ (p + 8 - i) (.int .u8 (n8 y))
        rw [cb_set', hy.out, endAt_set p T i hlt, ← hy.out] at h1
        exact ⟨h1, below_of_only HG2.out (only_set (only_refl _ (some w.heap.size)) (.inl rfl) _) (Nat.le_refl _) HG2.out.size⟩
      have HF := Lib.hid hfin
      have EJ := Lib.hid ej
      clear hfin ej hm9 hTl
      go_wp2_with fail
      go_roundw
      case rel =>
        refine ⟨i + 1, by omega, by go_num, ?_⟩
        exact HF.out
      case measure => simp [intOf]; omega
    · obtain rfl : i = 8 := by omega
      have hcv := my_own_string Tryd.underlying42 Tryd.underlying5 Tryd.underlying9 HB2.out
      obtain ⟨x, hx⟩ : ∃ x, Hid (x = endAt p T 8) := ⟨_, rfl⟩
      rw [← hx.out] at hcv
      have hfw : l ++ x = wholeL l := by rw [hx.out, endAt, wholeL, ← hT.out, ← hp.out]; simp
      have HFW := Lib.hid hfw
      have hxl : x.length ≤ 80 := by rw [hx.out, endAt_length _ _ _ (Nat.le_refl _)]; omega
      have hsx : (⟨x.toArray⟩ : ByteArray).size = x.length := by simp [ByteArray.size]
      clear hfw
      go_wp2_with fail
      go_ret
      refine ⟨?_, HG2.out⟩
      rw [← HFW.out, ← cat_eq]
      rfl
end Go.Proofs.YtlogcgeinbefjaaDoor
namespace Go.Proofs.YtlogcgeinbefjaaDoor
open Go.RowKit
set_option linter.unusedSimpArgs false
set_option linter.unusedVariables false
theorem outL_take (V : List (BitVec 32)) (j : Nat) (h : j < V.length) : outL (V.take (j + 1)) = outL (V.take j) ++ wordL (wd V j) := by
  rw [List.take_succ_eq_append_getElem h, outL, List.flatMap_append]
  simp [outL, wd, List.getD, List.getElem?_eq_getElem h]
theorem wordL_take (x : BitVec 32) (m : Nat) (h : m < 4) : (wordL x).take (m + 1) = (wordL x).take m ++ [w8 (x >>> (8 * (3 - m)))] := by
  match m, h with
  | 0, _ => rfl
  | 1, _ => rfl
  | 2, _ => rfl
  | 3, _ => rfl
  | n + 4, h => exact absurd h (by omega)
theorem cells8 {w : World} {g : Nat} {t : TypeId} {V : List (BitVec 32)} (h : Blk w g t (wc V)) (hl : V.length = 8) : Hid (Blk w g t (wc V)) ∧
    w.frozen? ⟨g, 0, none⟩ = false ∧ w.frozen? ⟨g, 1, none⟩ = false ∧ w.frozen? ⟨g, 2, none⟩ = false ∧ w.frozen? ⟨g, 3, none⟩ = false ∧ w.frozen? ⟨g, 4, none⟩ = false ∧ w.frozen? ⟨g, 5, none⟩ = false ∧ w.frozen? ⟨g, 6, none⟩ = false ∧ w.frozen? ⟨g, 7, none⟩ = false ∧
    w.cell? ⟨g, 0, none⟩ = some (.int .u32 (n32 (wd V 0))) ∧ w.cell? ⟨g, 1, none⟩ = some (.int .u32 (n32 (wd V 1))) ∧ w.cell? ⟨g, 2, none⟩ = some (.int .u32 (n32 (wd V 2))) ∧ w.cell? ⟨g, 3, none⟩ = some (.int .u32 (n32 (wd V 3))) ∧
    w.cell? ⟨g, 4, none⟩ = some (.int .u32 (n32 (wd V 4))) ∧ w.cell? ⟨g, 5, none⟩ = some (.int .u32 (n32 (wd V 5))) ∧ w.cell? ⟨g, 6, none⟩ = some (.int .u32 (n32 (wd V 6))) ∧ w.cell? ⟨g, 7, none⟩ = some (.int .u32 (n32 (wd V 7))) :=
  ⟨Lib.hid h, h.frozen 0, h.frozen 1, h.frozen 2, h.frozen 3, h.frozen 4, h.frozen 5, h.frozen 6, h.frozen 7, (h.cell 0).trans (wc_get V 0 (by omega)), (h.cell 1).trans (wc_get V 1 (by omega)), (h.cell 2).trans (wc_get V 2 (by omega)), (h.cell 3).trans (wc_get V 3 (by omega)),
    (h.cell 4).trans (wc_get V 4 (by omega)), (h.cell 5).trans (wc_get V 5 (by omega)), (h.cell 6).trans (wc_get V 6 (by omega)), (h.cell 7).trans (wc_get V 7 (by omega))⟩
theorem Blk.set8' {w : World} {g : Nat} {t : TypeId} {V U : List (BitVec 32)} (h : Blk w g t (wc V)) (hl : V.length = 8) (hu : U.length = 8) :
    Blk ((((((((w.setCell ⟨g, 0, none⟩ (.int .u32 (n32 (wd U 0)))).setCell ⟨g, 1, none⟩ (.int .u32 (n32 (wd U 1)))).setCell ⟨g, 2, none⟩ (.int .u32 (n32 (wd U 2)))).setCell ⟨g, 3, none⟩ (.int .u32 (n32 (wd U 3)))).setCell ⟨g, 4, none⟩ (.int .u32 (n32 (wd U 4)))).setCell ⟨g, 5, none⟩ (.int .u32 (n32 (wd U 5)))).setCell ⟨g, 6, none⟩ (.int .u32 (n32 (wd U 6)))).setCell ⟨g, 7, none⟩ (.int .u32 (n32 (wd U 7)))) g t (wc U) := by
  rw [wc8 U hu]
  rw [wc8 V hl] at h
  exact Blk.set8 (R := ⟨wd V 0, wd V 1, wd V 2, wd V 3, wd V 4, wd V 5, wd V 6, wd V 7⟩) h _ _ _ _ _ _ _ _
theorem wordL_length (x : BitVec 32) : (wordL x).length = 4 := rfl
set_option maxHeartbeats 1600000 in
set_option maxRecDepth 100000 in
theorem rdigest_any (l : List UInt8) (hl : l.length ≤ 1073741824) (w : World) :
    Calls Tryd.prog 34 #[.string ⟨l.toArray⟩] w fun e w' => e = .returned (.string ⟨(sha l).toArray⟩) ∧ Below w.heap.size w w' := by
  have Z := z45
  obtain ⟨all, hall⟩ : ∃ all, Hid (all = wholeL l) := ⟨_, rfl⟩
  have hN := wholeL_length l
  rw [← hall.out] at hN
  have hpad : padN l < 64 := by rw [padN]; omega
  obtain ⟨N, hNN⟩ : ∃ N, Hid (N = all.length) := ⟨_, rfl⟩
  have hN1 : N ≤ 1073742000 := by rw [hNN.out]; omega
  have hN2 : N % 64 = 0 := by rw [hNN.out]; exact hN.2
  have hsz : (⟨all.toArray⟩ : ByteArray).size = N := by rw [hNN.out]; simp [ByteArray.size]
  clear hN hpad
  go_enter Tryd.func34, Tryd.ntmps34
  go_wp2_with fail
  have h0 : wc (vAt all 0) = #[.int .u32 1779033703, .int .u32 3144134277, .int .u32 1013904242, .int .u32 2773480762, .int .u32 1359893119, .int .u32 2600822924, .int .u32 528734635, .int .u32 1541459225] := by rw [vAt_zero]; rfl
  rw [← h0]
  have hb0 := Blk.new w 106 (wc (vAt all 0))
  have hg0 := (Below.refl w.heap.size w).alloc (Nat.le_refl _) (.cells (wc (vAt all 0)) 106)
  obtain ⟨wa, hwa⟩ : ∃ wa, wa = w.alloc (.cells (wc (vAt all 0)) 106) := ⟨_, rfl⟩
  rw [← hwa] at hb0 hg0 ⊢
  clear hwa h0
  refine (whole_any l hl wa).mono ?_
  rintro e w1 ⟨rfl, b1⟩
  rw [← hall.out]
  have HB1 := Lib.hid (hb0.below b1 hb0.lt)
  have HG1 := Lib.hid (hg0.trans (b1.mono hg0.size))
  clear b1 hb0 hg0
  go_wp2_with fail
  go_loopw [5] (fun v5 wx => ∃ k : Nat, 64 * k ≤ N ∧ v5 = .int .i64 (64 * k : Nat) ∧ Blk wx w.heap.size 106 (wc (vAt all k)) ∧ Below w.heap.size w wx) (fun v _ => N - (intOf v).toNat)
  case atStart => exact ⟨0, by omega, rfl, HB1.out, HG1.out⟩
  case round =>
    obtain ⟨k, hk, rfl, hB, hG⟩ := hrel
    have HB := Lib.hid hB
    have HG := Lib.hid hG
    clear hB hG
    obtain ⟨i, HI⟩ : ∃ i, Hid (i = 64 * k) := ⟨_, rfl⟩
    rw [← HI.out] at hk ⊢
    have hi64 : i % 64 = 0 := by rw [HI.out]; omega
    by_cases hlt : i < N
    · have hik : i + 64 ≤ N := by omega
      obtain ⟨blk, hblk⟩ : ∃ blk, Hid (blk = (all.drop i).take 64) := ⟨_, rfl⟩
      have hbl : blk.length = 64 := by rw [hblk.out, List.length_take, List.length_drop, ← hNN.out]; omega
      have e2 : (⟨all.toArray⟩ : ByteArray).extract i (i + 64) = ⟨blk.toArray⟩ := by rw [extract_mid, hblk.out, Nat.add_sub_cancel_left]
      have hl8 := vAt_length all k
      have d0 := (HB.out.cell 0).trans (wc_get _ 0 (by omega))
      have d1 := (HB.out.cell 1).trans (wc_get _ 1 (by omega))
      have d2 := (HB.out.cell 2).trans (wc_get _ 2 (by omega))
      have d3 := (HB.out.cell 3).trans (wc_get _ 3 (by omega))
      have d4 := (HB.out.cell 4).trans (wc_get _ 4 (by omega))
      have d5 := (HB.out.cell 5).trans (wc_get _ 5 (by omega))
      have d6 := (HB.out.cell 6).trans (wc_get _ 6 (by omega))
      have d7 := (HB.out.cell 7).trans (wc_get _ 7 (by omega))
      have D0 := mixed_any (vAt all k) hl8 blk hbl wr.drew
      unfold agg8 at D0
      have HM := Lib.hid (show mixv (vAt all k) blk = vAt all (k + 1) by rw [vAt_succ all k (by have := HI.out; rw [← hNN.out]; omega), hblk.out, HI.out])
      rw [HM.out] at D0
      have D := Lib.hid D0
      clear D0
      have hl9 := vAt_length all (k + 1)
      have hikI : (i : Int) + 64 ≤ (N : Int) := by omega
      have hltI : (i : Int) < (N : Int) := by omega
      have hslice : ∀ w, (Instr.slice 9 (.string ⟨all.toArray⟩) (some (.int .i64 (i : Int))) (some (.int .i64 ((i : Int) + 64))) none).run Tryd.prog w = .ok (.string ⟨blk.toArray⟩) w := fun w => by
        rw [run_slice_string _ _ _ _ _ _ _ Tryd.underlying9 (by omega) (by omega) (by rw [hsz]; omega)]
        rw [show ((i : Int)).toNat = i by omega, show ((i : Int) + 64).toNat = i + 64 by omega, e2]
      have hw64 : IntKind.i64.wrap ((i : Int) + 64) = (i : Int) + 64 := by rw [IntKind.wrap_i64]; omega
      go_wp2_with fail
      go_region_with (first | (go_at_call 42; refine D.out.mono ?_; rintro e w9 ⟨rfl, b9⟩; obtain ⟨hb9, f0, f1, f2, f3, f4, f5, f6, f7, d0, d1, d2, d3, d4, d5, d6, d7⟩ := cells8 (HB.out.drew.below b9 HB.out.lt) hl8))
      have HF := Lib.hid (hb9.out.set8' hl8 hl9)
      have HGF := Lib.hid (below_of_only (HG.out.drew.trans (b9.mono HG.out.size)) (only_set8 (only_refl w9 (some w.heap.size)) (.int .u32 (n32 (wd (vAt all (k + 1)) 0))) (.int .u32 (n32 (wd (vAt all (k + 1)) 1))) (.int .u32 (n32 (wd (vAt all (k + 1)) 2))) (.int .u32 (n32 (wd (vAt all (k + 1)) 3))) (.int .u32 (n32 (wd (vAt all (k + 1)) 4))) (.int .u32 (n32 (wd (vAt all (k + 1)) 5))) (.int .u32 (n32 (wd (vAt all (k + 1)) 6))) (.int .u32 (n32 (wd (vAt all (k + 1)) 7)))) (Nat.le_refl _) (by have h1 := HG.out.size; have h2 := b9.size; simp at h2; omega))
      go_wp2_with fail
      go_roundw
      case rel =>
        have h64 := HI.out
        exact ⟨k + 1, by omega, by rw [show (i : Int) + 64 = ((64 * (k + 1) : Nat) : Int) by omega], HF.out, HGF.out⟩
      case measure => simp [intOf]; omega
    · have hkN : k = N / 64 := by have := HI.out; omega
      obtain ⟨V, hV⟩ : ∃ V, Hid (V = vAt all k) := ⟨_, rfl⟩
      have hVl : V.length = 8 := by rw [hV.out]; exact vAt_length all k
      have hsh : sha l = outL V := by rw [sha_vAt, hV.out, hkN, hNN.out, hall.out]
      have HSH := Lib.hid hsh
      rw [← hV.out] at HB
      obtain ⟨w4, rfl⟩ : ∃ w4, w4 = wr := ⟨_, rfl⟩
      clear hsh hkN
      go_wp2_with fail
      clear hN1 hN2 hsz hk hi64 hlt Z
      go_loopw [6, 7, 8] (fun v6 v7 v8 wx => ∃ j : Nat, j ≤ 8 ∧ v7 = .int .i64 j ∧ Own 5 wx (w.heap.size + 1) v6 (cb (outL (V.take j))) ∧ Blk wx w.heap.size 106 (wc V) ∧ Below w.heap.size w wx) (fun _ v _ _ => 8 - (intOf v).toNat)
      case atStart => exact ⟨0, by omega, rfl, my_own_nil _ _ _, HB.out, HG.out⟩
      case round =>
        obtain ⟨j, hj, rfl, hO, hB2, hG2⟩ := hrel
        have HO := Lib.hid hO
        have HB2 := Lib.hid hB2
        have HG2 := Lib.hid hG2
        clear hO hB2 hG2
        by_cases hlt2 : j < 8
        · obtain ⟨pre, hpre⟩ : ∃ pre, Hid (pre = outL (V.take j)) := ⟨_, rfl⟩
          have hpl : pre.length ≤ 32 := by rw [hpre.out, outL_length, List.length_take]; omega
          obtain ⟨x, hx⟩ : ∃ x, Hid (x = wd V j) := ⟨_, rfl⟩
          have hnx := outL_take V j (by omega)
          rw [← hpre.out, ← hx.out] at hnx
          have HNX := Lib.hid hnx
          rw [← hpre.out] at HO
          have hj8 : (0 : Int) ≤ (j : Int) ∧ (j : Int) < 8 := by omega
          clear hnx
          go_wp2_with fail
          go_loopw [6, 8] (fun v6 v8 wx => ∃ m : Nat, m ≤ 4 ∧ v8 = .int .i64 (3 - m) ∧ Own 5 wx (w.heap.size + 1) v6 (cb (pre ++ (wordL x).take m)) ∧ Blk wx w.heap.size 106 (wc V) ∧ Below w.heap.size w wx) (fun _ v _ => (intOf v + 1).toNat)
          case atStart => exact ⟨0, by omega, rfl, by simpa using HO.out, HB2.out, HG2.out⟩
          case round =>
            obtain ⟨m, hm, rfl, hO3, hB3, hG3⟩ := hrel
            have HO3 := Lib.hid hO3
            have HB3 := Lib.hid hB3
            have HG3 := Lib.hid hG3
            clear hO3 hB3 hG3
            by_cases hlt3 : m < 4
            · have c1 : wr.cell? ⟨w.heap.size, j, none⟩ = some (.int .u32 (n32 x)) := by rw [hx.out]; exact (HB3.out.cell j).trans (wc_get V j (by omega))
              have hst := wordL_take x m hlt3
              obtain ⟨y, hy⟩ : ∃ y, Hid (y = w8 (x >>> (8 * (3 - m)))) := ⟨_, rfl⟩
              rw [← hy.out] at hst
              have e1 : (n32 x / 2 ^ (8 * (3 - m))) % 256 = n8 y := by
                rw [hy.out, ← w8_n8, ← v32_shr_nat]
                push_cast
                rfl
              have hge : (0 : Int) ≤ 3 - (m : Int) := by omega
              have hm3 : (m : Int) ≤ 3 := by omega
              have hge2 : (0 : Int) ≤ 8 * (3 - (m : Int)) := by omega
              have hle : (cb (pre ++ (wordL x).take m)).length ≤ 36 := by rw [cb_length, List.length_append, List.length_take, wordL_length]; omega
              have hsz3 := HB3.out.lt
              obtain ⟨A', c', w', hrun, hown, hgr⟩ := own_append (ty := 42) elemU8 (HO3.out.alloc (.cells #[.int .u8 (n8 y)] 5)) wr.heap.size 1 1 [.int .u8 (n8 y)] rfl (fun j u h => new_cells wr _ _ j u h) (by intro u hu; simp at hu; subst hu; rfl) (by omega) (by omega) (by simp; omega)
              have hfin : Own 5 w' (w.heap.size + 1) (.slice A' ((cb (pre ++ (wordL x).take m)).length + 1) c') (cb (pre ++ (wordL x).take (m + 1))) ∧ Blk w' w.heap.size 106 (wc V) ∧ Below w.heap.size w w' := by
                rw [hst, ← List.append_assoc, cb_append _ [y]]
                refine ⟨hown, (HB3.out.alloc _).grown hgr (fun h => ?_), (HG3.out.alloc HG3.out.size _).grown hgr (by simp; omega) (fun k hk => Nat.le_of_succ_le ((HO3.out.alloc (.cells #[.int .u8 (n8 y)] 5)).lt k hk).1)⟩
                have := (HO3.out.lt _ h.symm).1
                omega
              have HF := Lib.hid hfin
              have HR := Lib.hid hrun
              clear hst hown hgr hfin hrun hle
              go_wp2_with (at_builtin; refine wpList_append_run rfl _ _ _ _ rfl rfl rfl HR.out ?_)
              exact ⟨⟨m + 1, by omega, by rw [show (3 : Int) - (m : Int) - 1 = 3 - ((m + 1 : Nat) : Int) by omega], HF.out.1, HF.out.2.1, HF.out.2.2⟩, by simp [intOf]; omega⟩
            · obtain rfl : m = 4 := by omega
              rw [show (wordL x).take 4 = wordL x from rfl, ← HNX.out] at HO3
              go_wp2_with fail
              go_roundw
              case rel => exact ⟨j + 1, by omega, by go_num, HO3.out, HB3.out, HG3.out⟩
              case measure => simp [intOf]; omega
        · obtain rfl : j = 8 := by omega
          rw [List.take_of_length_le (by omega), ← HSH.out] at HO
          obtain ⟨S, hS⟩ : ∃ S, Hid (S = sha l) := ⟨_, rfl⟩
          rw [← hS.out] at HO
          have hcv := my_own_string Tryd.underlying42 Tryd.underlying5 Tryd.underlying9 HO.out
          go_wp2_with fail
          go_ret
          exact ⟨by rw [← hS.out]; rfl, HG2.out⟩
end Go.Proofs.YtlogcgeinbefjaaDoor
namespace Go.Proofs.YtlogcgeinbefjaaDoor
open Go.RowKit
set_option linter.unusedSimpArgs false
set_option linter.unusedVariables false
set_option maxRecDepth 20000
theorem getD_ne {L L' : List (List UInt8)} {k : Nat} (h : L.getD k [] ≠ L'.getD k []) : L ≠ L' := fun e => h (by rw [e])
theorem ext_getD {L L' : List (List UInt8)} (h1 : L.length = L'.length) (h2 : ∀ k, k < L.length → L.getD k [] = L'.getD k []) : L = L' := by
  refine List.ext_getElem h1 (fun k a b => ?_)
  have := h2 k a
  rw [List.getD_eq_getElem?_getD, List.getD_eq_getElem?_getD, List.getElem?_eq_getElem a, List.getElem?_eq_getElem b] at this
  exact this
def sameB (L L' : List (List UInt8)) : Bool := L == L'
theorem sameB_yes {L L' : List (List UInt8)} (h : L = L') : sameB L L' = true := by unfold sameB; rw [h]; exact beq_self_eq_true _
theorem sameB_no {L L' : List (List UInt8)} (h : L ≠ L') : sameB L L' = false := by unfold sameB; exact beq_eq_false_iff_ne.mpr h
set_option maxHeartbeats 1600000 in
theorem sameT_any (A A' : Option Addr) (n n' c c' : Nat) (L L' : List (List UInt8)) (w : World) (h : Strs w A n L) (h' : Strs w A' n' L') (hn : n ≤ 140737488355328) :
    Calls Tryd.prog 11 #[.slice A n c, .slice A' n' c'] w fun e w' => e = .returned (.bool (sameB L L')) ∧ Below w.heap.size w w' := by
  by_cases hne : n = n'
  · subst hne
    have H := Lib.hid h
    have H' := Lib.hid h'
    clear h h'
    go_enter Tryd.func11, Tryd.ntmps11
    go_wp2_with fail
    go_loopg [5] (n + 1) (fun kq v5 wr => ∃ k m : Nat, k + kq = n + 1 ∧ k ≤ n ∧ v5 = .int .i64 k ∧ Hid (∀ j, j < k → L.getD j [] = L'.getD j []) ∧ wr = w.drewN m)
    case atStart => exact ⟨0, 0, by omega, by omega, rfl, Lib.hid (fun j hj => by omega), rfl⟩
    case round =>
      obtain ⟨k, m, hk, hk2, rfl, HE, rfl⟩ := hrel
      by_cases hlt : k < n
      · obtain ⟨g, o, rfl, hg, hc⟩ := H.out.2 (by omega)
        obtain ⟨g', o', rfl, hg', hc'⟩ := H'.out.2 (by omega)
        have c1 : w.cell? ⟨g, o + k, none⟩ = some (.string ⟨(L.getD k []).toArray⟩) := hc k hlt
        have c2 : w.cell? ⟨g', o' + k, none⟩ = some (.string ⟨(L'.getD k []).toArray⟩) := hc' k hlt
        have hxt : (⟨(L.getD k []).toArray⟩ : ByteArray).toList = L.getD k [] := by rw [ByteArray.toList_eq]
        have hyt : (⟨(L'.getD k []).toArray⟩ : ByteArray).toList = L'.getD k [] := by rw [ByteArray.toList_eq]
        obtain ⟨x, hx⟩ : ∃ x : ByteArray, Hid (⟨(L.getD k []).toArray⟩ = x) := ⟨_, Lib.hid rfl⟩
        obtain ⟨y, hy⟩ : ∃ x : ByteArray, Hid (⟨(L'.getD k []).toArray⟩ = x) := ⟨_, Lib.hid rfl⟩
        rw [hx.out] at c1 hxt
        rw [hy.out] at c2 hyt
        have e1 : (k : Int) < (n : Int) := by omega
        clear hc hc'
        by_cases hxy : L.getD k [] = L'.getD k []
        · have hq : (x.toList != y.toList) = false := by rw [hxt, hyt, hxy]; simp
          have hq2 : (x.toList == y.toList) = true := by rw [hxt, hyt, hxy]; simp
          have HXY := Lib.hid hxy
          clear hxt hyt hxy
          go_upto_region 6 with fail
          go_quiet (fail)
          go_wp2_with fail
          go_roundg (n - k)
          case measure => omega
          case rel => exact ⟨k + 1, _, by omega, by omega, by go_num, Lib.hid (fun j hj => by
            by_cases hjk : j = k
            · rw [hjk]; exact HXY.out
            · exact HE.out j (by omega)), rfl⟩
        · have hq : (x.toList != y.toList) = true := by rw [hxt, hyt]; simpa using hxy
          have hq2 : (x.toList == y.toList) = false := by rw [hxt, hyt]; simpa using hxy
          have HXY := Lib.hid (sameB_no (getD_ne hxy))
          clear hxt hyt hxy
          go_upto_region 6 with fail
          go_quiet (fail)
          go_wp2_with fail
          go_ret
          exact ⟨by rw [HXY.out]; rfl, below_drewN (below_drewN (Below.refl _ _) _) _⟩
      · obtain rfl : k = n := by omega
        have HXY := Lib.hid (sameB_yes (ext_getD (H.out.1.trans H'.out.1.symm) (fun j hj => HE.out j (by have := H.out.1; omega))))
        obtain rfl : gk = 1 := by omega
        clear hlt hk
        go_wp2_with fail
        go_ret
        exact ⟨by rw [HXY.out]; rfl, below_drewN (Below.refl _ _) _⟩
  · have hq : ((n : Int) != (n' : Int)) = true := by simpa using (show (n : Int) ≠ (n' : Int) by omega)
    have hq2 : ((n : Int) == (n' : Int)) = false := by simpa using (show (n : Int) ≠ (n' : Int) by omega)
    have HXY := Lib.hid (sameB_no (fun e : L = L' => hne (by rw [← h.1, ← h'.1, e])))
    clear hne h h'
    go_enter Tryd.func11, Tryd.ntmps11
    go_wp2_with fail
    go_ret
    exact ⟨by rw [HXY.out]; rfl, Below.refl _ _⟩
end Go.Proofs.YtlogcgeinbefjaaDoor
namespace Go.Proofs.YtlogcgeinbefjaaDoor
open Go.RowKit Go.Proofs.YtlogcgeinbefjaaDoorW.PrintWords Go.Proofs.YtlogcgeinbefjaaDoorW.PrintLast
set_option linter.unusedSimpArgs false
set_option linter.unusedVariables false
set_option maxRecDepth 20000
set_option maxHeartbeats 400000 in
theorem rsum_any (id body : List UInt8) (w : World) (h : id.length + body.length ≤ 1073741824) :
    Calls Tryd.prog 20 #[.string ⟨id.toArray⟩, .string ⟨body.toArray⟩] w fun e w' => e = .returned (.string ⟨(digL id body).toArray⟩) ∧ Below w.heap.size w w' := by
  have hcat : (⟨id.toArray⟩ : ByteArray) ++ ⟨body.toArray⟩ = ⟨(id ++ body).toArray⟩ := by apply ByteArray.ext; simp
  have hsum : ¬ (9223372036854775807 < id.length + body.length) := by omega
  have HD := Lib.hid (rdigest_any (id ++ body) (by simp; omega) w)
  have hx : (⟨(sha (id ++ body)).toArray⟩ : ByteArray).extract 0 6 = ⟨(digL id body).toArray⟩ := by rw [extract_mid]; unfold digL; simp
  have hz : (⟨(sha (id ++ body)).toArray⟩ : ByteArray).size = 32 := by show (sha (id ++ body)).toArray.size = 32; rw [List.size_toArray, sha_length]
  obtain ⟨sb, SB⟩ : ∃ t : ByteArray, Hid (⟨(sha (id ++ body)).toArray⟩ = t) := ⟨_, Lib.hid rfl⟩
  obtain ⟨db, DB⟩ : ∃ t : ByteArray, Hid (⟨(digL id body).toArray⟩ = t) := ⟨_, Lib.hid rfl⟩
  rw [SB.out] at HD hx hz
  rw [DB.out] at hx ⊢
  clear h
  go_enter Tryd.func20, Tryd.ntmps20
  go_wp2_with fail
  refine HD.out.mono ?_
  rintro e w1 ⟨rfl, b1⟩
  have B1 := Lib.hid b1
  clear b1
  go_wp2_with fail
  go_ret
  exact ⟨rfl, B1.out⟩
set_option maxHeartbeats 400000 in
theorem cut_form (id body : List UInt8) (w : World) (h8 : id.length ≠ 8) :
    Calls Tryd.prog 9 #[.string ⟨id.toArray⟩, .string ⟨body.toArray⟩] w fun e w' => e = .returned (.tuple #[.slice none 0 0, .int .i64 3]) ∧ w' = w := by
  have d1 : ((id.length : Int) != 8) = true := by simpa using (show (id.length : Int) ≠ 8 by omega)
  have d2 : ((id.length : Int) == 8) = false := by simpa using (show (id.length : Int) ≠ 8 by omega)
  clear h8
  go_enter Tryd.func9, Tryd.ntmps9
  go_wp2_with fail
  go_ret2
  exact ⟨by rfl, rfl⟩
set_option maxHeartbeats 400000 in
theorem rcut_form (id body : List UInt8) (w : World) (h8 : id.length ≠ 8) :
    Calls Tryd.prog 10 #[.string ⟨id.toArray⟩, .string ⟨body.toArray⟩] w fun e w' => e = .returned (.tuple #[.slice none 0 0, .int .i64 3]) ∧ w' = w := by
  have d1 : ((id.length : Int) != 8) = true := by simpa using (show (id.length : Int) ≠ 8 by omega)
  have d2 : ((id.length : Int) == 8) = false := by simpa using (show (id.length : Int) ≠ 8 by omega)
  clear h8
  go_enter Tryd.func10, Tryd.ntmps10
  go_wp2_with fail
  go_ret2
  exact ⟨by rfl, rfl⟩
set_option maxHeartbeats 400000 in
theorem rcut_long (id body : List UInt8) (w : World) (h8 : id.length = 8) (hl : 2048 < body.length) :
    Calls Tryd.prog 10 #[.string ⟨id.toArray⟩, .string ⟨body.toArray⟩] w fun e w' => e = .returned (.tuple #[.slice none 0 0, .int .i64 2]) ∧ w' = w := by
  have d1 : ((id.length : Int) != 8) = false := by simpa using (show (id.length : Int) = 8 by omega)
  have d2 : ((id.length : Int) == 8) = true := by simpa using (show (id.length : Int) = 8 by omega)
  have d3 : decide (2048 < (body.length : Int)) = true := decide_eq_true (by omega)
  clear h8 hl
  go_enter Tryd.func10, Tryd.ntmps10
  go_wp2_with fail
  go_ret2
  exact ⟨by rfl, rfl⟩
theorem step_append_for {P : Program} {ops : Array Oper} {o : Oper} {a : Act} {K : Act → World → Prop} {Q : Exit → Act → World → Prop} {E : Prop} {sv : Value} {W w0 : World} {B0 : Nat} {ob : Obj} {F : Value → World → Prop} (hgd : o.guard = none) (s x : Operand) (t u : TypeId)
    (ho : o.op = .call { callee := .builtin .append, args := #[s, x], argTypes := #[t, u] }) (hs : a.eval s = sv) (ga : Nat) (hx : a.eval x = .slice (some ⟨ga, 0, none⟩) 1 1) (hga : ga = W.heap.size) (hb : Below B0 w0 W)
    (HF : ∀ W, Below B0 w0 W → ∃ v w', (Builtin.append_ #[t, u] o.type #[sv, .slice (some ⟨W.heap.size, 0, none⟩) 1 1]).run P (W.alloc ob) = .ok v w' ∧ F v w') (hK : ∀ v w', F v w' → K (a.put o.dst v) w') :
    if Region.wanted o (yielded ops a.tmps) = true then Oper.wp P o a (W.alloc ob) K Q else E := by
  subst hga
  obtain ⟨v, w', hr, hf⟩ := HF W hb
  exact step_append_run hgd s x t u ho hs hx hr (hK v w' hf)
theorem piece_ext (b : List UInt8) (k : Nat) : (⟨b.toArray⟩ : ByteArray).extract (200 * k) (min b.length (200 * (k + 1))) = ⟨(pieceL b k).toArray⟩ := by
  rw [extract_mid]
  unfold pieceL
  congr 2
  rw [List.take_eq_take_iff, List.length_drop]
  omega
set_option maxHeartbeats 3200000 in
theorem rcut_any (id body : List UInt8) (w : World) (h8 : id.length = 8) (hl : body.length ≤ 2048) :
    Calls Tryd.prog 10 #[.string ⟨id.toArray⟩, .string ⟨body.toArray⟩] w fun e w' => ∃ v, e = .returned (.tuple #[v, .int .i64 0]) ∧ Win 9 w' w.heap.size v (cstr (cutL id body)) ∧ Below w.heap.size w w' := by
  have hs1 : (⟨id.toArray⟩ : ByteArray).size = 8 := by simp [ByteArray.size, h8]
  have hs2 : (⟨body.toArray⟩ : ByteArray).size = body.length := by simp [ByteArray.size]
  have HD := Lib.hid (show ∀ W, Calls Tryd.prog 20 #[.string ⟨id.toArray⟩, .string ⟨body.toArray⟩] W fun e w' => e = .returned (.string ⟨(digL id body).toArray⟩) ∧ Below W.heap.size W w' from fun W => rsum_any id body W (by omega))
  have hN := cutN_max body hl
  obtain ⟨ib, IB⟩ : ∃ t : ByteArray, Hid (⟨id.toArray⟩ = t) := ⟨_, Lib.hid rfl⟩
  obtain ⟨bb, BB⟩ : ∃ t : ByteArray, Hid (⟨body.toArray⟩ = t) := ⟨_, Lib.hid rfl⟩
  obtain ⟨db, DB⟩ : ∃ t : ByteArray, Hid (⟨(digL id body).toArray⟩ = t) := ⟨_, Lib.hid rfl⟩
  rw [IB.out] at hs1 HD ⊢
  rw [BB.out] at hs2 HD ⊢
  rw [DB.out] at HD
  obtain ⟨n, hn⟩ : ∃ n, Hid (bb.size = n) := ⟨_, Lib.hid rfl⟩
  obtain ⟨N, hNN⟩ : ∃ n, Hid (cutN body = n) := ⟨_, Lib.hid rfl⟩
  have e1 : (n : Int) ≤ 2048 := by have := hn.out; omega
  have d1 : decide (2048 < (n : Int)) = false := decide_eq_false (by omega)
  have hbz : bb.size = n := hn.out
  rw [hn.out] at hs2
  have HS2 := Lib.hid hs2
  rw [hNN.out] at hN
  have HNB := Lib.hid (show 1 ≤ N ∧ N ≤ 11 ∧ 200 * N < n + 200 + (if n = 0 then 200 else 0) by
    have h3 := hNN.out
    unfold cutN at h3
    split <;> omega)
  clear hs2 hN
  go_enter Tryd.func10, Tryd.ntmps10
  go_upto_region 6 with fail
  have eN : max 1 (((n : Int) + 200 - 1) / 200) = (N : Int) := by
    rw [← hNN.out]; have := HS2.out; unfold cutN; omega
  simp only [eN]
  clear eN
  go_wp2_with fail
  go_loopg [7, 8] (N + 1) (fun kq v7 v8 wr => ∃ (k : Nat) (A : Option Addr) (c : Nat), k + kq = N + 1 ∧ k ≤ N ∧ v8 = .int .i64 (k : Nat) ∧ v7 = .slice A k c ∧ Hid (Win 9 wr w.heap.size (.slice A k c) (cstr ((List.range k).map (partL id body)))) ∧ Hid (Below w.heap.size w wr))
  case atStart => exact ⟨0, none, 0, by omega, by omega, rfl, rfl, Lib.hid (Win.nil _ _ _), Lib.hid (Below.refl _ _)⟩
  case round =>
    obtain ⟨k, A, c, hk, hk2, rfl, rfl, WK, BK⟩ := hrel
    by_cases hlt : k < N
    · have e3 : (k : Int) < (N : Int) := by omega
      have hle : 200 * k ≤ n := by have := HNB.out; split at this <;> omega
      have hle' : 200 * (k : Int) ≤ (n : Int) := by omega
      have h0 : 0 ≤ 200 * (k : Int) := by omega
      have hk11 : (k : Int) ≤ 11 := by have := HNB.out; omega
      have hm1 : 200 * (k : Int) ≤ min (n : Int) (200 * ((k : Int) + 1)) := by omega
      have hm2 : min (n : Int) (200 * ((k : Int) + 1)) ≤ (n : Int) := by omega
      have hm0 : 0 ≤ min (n : Int) (200 * ((k : Int) + 1)) := by omega
      go_upto_region 11 with fail
      have HTX : bb.extract (200 * k) (min (n : Int) (200 * ((k : Int) + 1))).toNat = ⟨(pieceL body k).toArray⟩ := by
        have hmT : (min (n : Int) (200 * ((k : Int) + 1))).toNat = min n (200 * (k + 1)) := by omega
        rw [hmT, ← BB.out, HS2.out]; exact piece_ext body k
      simp only [HTX]
      obtain ⟨tb, TB⟩ : ∃ t : ByteArray, Hid (⟨(pieceL body k).toArray⟩ = t) := ⟨_, Lib.hid rfl⟩
      rw [TB.out]
      have hk8 : IntKind.u8.wrap (k : Int) = n8 (UInt8.ofNat k) := by
        have := HNB.out
        show _ = ((UInt8.ofNat k).toNat : Int)
        rw [UInt8.toNat_ofNat']; unfold IntKind.wrap; simp [IntKind.bits, IntKind.signed]
      have hN8 : IntKind.u8.wrap (N : Int) = n8 (UInt8.ofNat N) := by
        have := HNB.out
        show _ = ((UInt8.ofNat N).toNat : Int)
        rw [UInt8.toNat_ofNat']; unfold IntKind.wrap; simp [IntKind.bits, IntKind.signed]
      obtain ⟨b0, hb0⟩ : ∃ b, Hid (UInt8.ofNat k = b) := ⟨_, Lib.hid rfl⟩
      obtain ⟨b1, hb1⟩ : ∃ b, Hid (UInt8.ofNat N = b) := ⟨_, Lib.hid rfl⟩
      rw [hb0.out] at hk8
      rw [hb1.out] at hN8
      have HCV := Lib.hid (show ∀ W : World, (convert 42 9 (.slice (some ⟨W.heap.size, 0, none⟩) 2 2)).run Tryd.prog (W.alloc (.cells #[.int .u8 (n8 b0), .int .u8 (n8 b1)] 5)) = .ok (.string ⟨#[b0, b1]⟩) (W.alloc (.cells #[.int .u8 (n8 b0), .int .u8 (n8 b1)] 5)) from fun W =>
        my_own_string (l := [b0, b1]) Tryd.underlying42 Tryd.underlying5 Tryd.underlying9 (my_own_lit W 5 [.int .u8 (n8 b0), .int .u8 (n8 b1)] (B := 0) (Nat.zero_le _) (by simp)))
      have HCS := Lib.hid (show ∀ W W' : World, Below (W.alloc (.cells #[.int .u8 (n8 b0), .int .u8 (n8 b1)] 5)).heap.size (W.alloc (.cells #[.int .u8 (n8 b0), .int .u8 (n8 b1)] 5)) W' → (convert 42 9 (.slice (some ⟨W.heap.size, 0, none⟩) 2 2)).run Tryd.prog W' = .ok (.string ⟨#[b0, b1]⟩) W' from fun W W' hb =>
        my_own_string (l := [b0, b1]) Tryd.underlying42 Tryd.underlying5 Tryd.underlying9 ((my_own_lit W 5 [.int .u8 (n8 b0), .int .u8 (n8 b1)] (B := 0) (Nat.zero_le _) (by simp)).below hb))
      have HCT := Lib.hid (show ∀ W W' : World, Below (W.alloc (.cells #[.int .u8 (n8 b0), .int .u8 (n8 b1)] 5)).drew.heap.size (W.alloc (.cells #[.int .u8 (n8 b0), .int .u8 (n8 b1)] 5)).drew W' → (convert 42 9 (.slice (some ⟨W.heap.size, 0, none⟩) 2 2)).run Tryd.prog W' = .ok (.string ⟨#[b0, b1]⟩) W' from fun W W' hb =>
        my_own_string (l := [b0, b1]) Tryd.underlying42 Tryd.underlying5 Tryd.underlying9 ((my_own_lit W 5 [.int .u8 (n8 b0), .int .u8 (n8 b1)] (B := 0) (Nat.zero_le _) (by simp)).drew.below hb))
      have hcvd : ∀ W : World, (convert 42 9 (.slice (some ⟨W.heap.size, 0, none⟩) 2 2)).run Tryd.prog (W.alloc (.cells #[.int .u8 (n8 b0), .int .u8 (n8 b1)] 5)).drew = .ok (.string ⟨#[b0, b1]⟩) (W.alloc (.cells #[.int .u8 (n8 b0), .int .u8 (n8 b1)] 5)).drew := fun W => HCT.out W _ (Below.refl _ _)
      have hX : ib ++ (⟨#[b0, b1]⟩ : ByteArray) ++ db ++ tb = ⟨(partL id body k).toArray⟩ := by
        rw [← IB.out, ← DB.out, ← TB.out, partL, hNN.out, hb0.out, hb1.out]
        apply ByteArray.ext
        simp
      have HF := Lib.hid (show ∀ W, Below wr.heap.size wr W → ∃ v w', (Builtin.append_ #[22, 22] 22 #[.slice A k c, .slice (some ⟨W.heap.size, 0, none⟩) 1 1]).run Tryd.prog (W.alloc (.cells #[.string (ib ++ (⟨#[b0, b1]⟩ : ByteArray) ++ db ++ tb)] 9)) = .ok v w' ∧ ∃ A2 c2, v = .slice A2 (k + 1) c2 ∧ Hid (Win 9 w' w.heap.size (.slice A2 (k + 1) c2) (cstr ((List.range (k + 1)).map (partL id body)))) ∧ Hid (Below w.heap.size w w') from fun W hW => by
        have hW2 := hW.alloc hW.size (.cells #[.string (ib ++ (⟨#[b0, b1]⟩ : ByteArray) ++ db ++ tb)] 9)
        have hlen : (cstr ((List.range k).map (partL id body))).length = k := by rw [cstr_length]; simp
        have hWk := WK.out.below hW2
        obtain ⟨v2, w2, hap, h2, h3, h4⟩ := win_append (P := Tryd.prog) (ty := 22) elemTx hWk (cstr_one _) W.heap.size 1 (.string (ib ++ (⟨#[b0, b1]⟩ : ByteArray) ++ db ++ tb)) ((Blk.new W 9 _).cell 0) rfl (by rw [hlen]; have := HNB.out; omega) (by rw [hlen]; have := HNB.out; omega) (Nat.le_trans BK.out.size hW2.size)
        obtain ⟨A2, c2, hv2, _, _⟩ := h2.form
        have HRN : (cstr ((List.range k).map (partL id body)) ++ [Value.string (ib ++ (⟨#[b0, b1]⟩ : ByteArray) ++ db ++ tb)]) = cstr ((List.range (k + 1)).map (partL id body)) := by
          rw [hX, List.range_succ, List.map_append]; simp [cstr]
        rw [HRN] at h2 hv2
        have hl2 : (cstr ((List.range (k + 1)).map (partL id body))).length = k + 1 := by rw [cstr_length]; simp
        rw [hl2] at hv2
        refine ⟨v2, w2, hap, A2, c2, hv2, Lib.hid (hv2 ▸ h2), Lib.hid ?_⟩
        exact ((BK.out.trans (hW2.mono BK.out.size)).trans ((Kp.grown (S := fun i => w.heap.size ≤ i) h3 (fun q hq _ => (WK.out.typed q hq).1)).below (fun i h => h) (Nat.le_trans BK.out.size hW2.size))))
      have z1 : db.size ≤ 6 := by rw [← DB.out]; show (digL id body).toArray.size ≤ 6; unfold digL; simp; omega
      have z2 : tb.size ≤ 200 := by rw [← TB.out]; show (pieceL body k).toArray.size ≤ 200; simpa using pieceL_le body k
      have g1 : ¬ (9223372036854775807 < 8 + 2 + db.size) := by omega
      have g2 : ¬ (9223372036854775807 < 8 + 2 + db.size + tb.size) := by omega
      have hcv := HCV.out
      clear hX hm0 hm1 hm2 HTX
      go_region_held_law (fun w' => Below w.heap.size w w')
        (first | exact hbS | exact hbS.alloc hbS.size _ | exact (hbS.alloc hbS.size _).drew | exact hbS.drew | exact BK.out.drew | exact (BK.out.alloc BK.out.size _).drew | exact (BK.out.alloc BK.out.size _) | exact Below.alloc ‹_› (Below.size ‹Below w.heap.size w _›) _ | exact Below.drew ‹_› | exact Below.trans ‹Below w.heap.size w _› (Below.mono bS (Below.size ‹Below w.heap.size w _›)) | exact D2.out | exact BK.out)
        (first
        | (go_at_call 20; refine (HD.out _).mono ?_; rintro e wS ⟨rfl, bS⟩; have hbS : Below w.heap.size w wS := (by first | exact BK.out.drew.trans (bS.mono BK.out.size) | exact (BK.out.alloc BK.out.size _).drew.trans (bS.mono (by have := BK.out.size; simp; omega)) | exact (BK.out.drew.alloc BK.out.size _).trans (bS.mono (by have := BK.out.size; simp; omega))); first | (have hcvS := HCS.out _ _ bS) | (have hcvS := HCT.out _ _ bS) | skip)
        | (refine step_append_for rfl (.tmp 37) (.tmp 52) 22 22 rfl rfl _ rfl ?hga ?hb HF.out ?_
           case hga => first | rfl | simp
           case hb => first | exact (((Below.refl _ wr).alloc (Nat.le_refl _) _).drew).trans (bS.mono (by simp)) | exact ((below_drewN (Below.refl _ wr) 1).alloc (Nat.le_refl _) _).trans (bS.mono (by simp)) | exact ((below_drewN (Below.refl _ wr) 1).trans bS).alloc bS.size _
           rintro v2 w2 ⟨A2, c2, rfl, W2, D2⟩))
      all_goals
        simp only [List.getElem_toArray, List.getElem_cons_succ, List.getElem_cons_zero, Act.put, List.setIfInBounds_toArray, List.set_cons_zero, List.set_cons_succ]
        go_wp2_with fail
        go_roundg (N - k)
        case measure => omega
        case rel => exact ⟨k + 1, A2, c2, by omega, by omega, by go_num, rfl, W2, D2⟩
    · obtain rfl : k = N := by omega
      have hq : gk = 1 := by omega
      subst hq
      clear hlt hk2 hk
      go_wp2_with fail
      go_ret2
      exact ⟨_, by rfl, by rw [cutL, hNN.out]; exact WK.out, BK.out⟩
end Go.Proofs.YtlogcgeinbefjaaDoor
namespace Go.Proofs.YtlogcgeinbefjaaDoor
open Go.RowKit Go.Proofs.YtlogcgeinbefjaaDoorW.PrintWords Go.Proofs.YtlogcgeinbefjaaDoorW.PrintLast
set_option linter.unusedSimpArgs false
set_option linter.unusedVariables false
set_option maxRecDepth 20000
theorem Pts.strs {B : Nat} {w : World} {A : Option Addr} {n c : Nat} {L : List (List UInt8)} (h : Pts B w A n c L) (hB : B ≤ w.heap.size) : Strs w A n L :=
  ⟨h.len.symm, fun h0 => by
    obtain ⟨b, off, h1, h2, h3⟩ := h.at_ h0
    refine ⟨b, off, h1, by omega, fun i hi => h3 i _ ?_⟩
    rw [List.getD_eq_getElem?_getD, List.getElem?_eq_getElem (by rw [← h.len]; exact hi)]; rfl⟩
theorem Pts.up {B B' : Nat} {w : World} {A : Option Addr} {n c : Nat} {L : List (List UInt8)} (h : Pts B w A n c L) (hb : B ≤ B') : Pts B' w A n c L :=
  ⟨h.len, h.le, h.cap, fun h0 => by
    obtain ⟨b, off, h1, h2, h3⟩ := h.at_ h0
    exact ⟨b, off, h1, by omega, h3⟩⟩
theorem strs_nil (w : World) : Strs w none 0 [] := ⟨rfl, fun h => absurd h (by decide)⟩
set_option maxHeartbeats 3200000 in
theorem law_PartsCut (id body : List UInt8) (w : World) (hid : id.length ≤ 140737488351232) (hb : body.length ≤ 140737488351232) (hk : KsAt w) (hks : 1 < w.heap.size) :
    Calls Tryd.prog 3 #[.string ⟨id.toArray⟩, .string ⟨body.toArray⟩] w fun e w' => e = .returned (.bool true) ∧ Below w.heap.size w w' := by
  have HK := Lib.hid hk
  have HKS := Lib.hid hks
  have HB := Lib.hid hb
  clear hk hks hb hid
  by_cases h8 : id.length = 8
  · by_cases hl : 2048 < body.length
    · have H8 := Lib.hid h8
      have HL := Lib.hid hl
      clear h8 hl
      go_enter Tryd.func3, Tryd.ntmps3
      go_wp2_with fail
      refine (cut_long id body w H8.out HL.out (by have := HB.out; omega)).mono ?_
      rintro e w1 ⟨rfl, rfl⟩
      go_wp2_with fail
      refine (rcut_long id body _ H8.out HL.out).mono ?_
      rintro e w2 ⟨rfl, rfl⟩
      go_wp2_with fail
      refine (sameT_any none none 0 0 0 0 [] [] _ (strs_nil _) (strs_nil _) (by omega)).mono ?_
      rintro e w3 ⟨rfl, b3⟩
      rw [sameB_yes rfl]
      have B3 := Lib.hid b3
      clear b3
      go_wp2_with fail
      refine (works22_any w3 (HK.out.below HKS.out B3.out) (Nat.lt_of_lt_of_le HKS.out B3.out.size)).mono ?_
      rintro e w4 ⟨rfl, b4⟩
      have B4 := Lib.hid (B3.out.trans (b4.mono B3.out.size))
      clear b4
      go_wp2_with fail
      go_ret
      exact ⟨rfl, B4.out⟩
    · have H8 := Lib.hid h8
      have HL := Lib.hid (show body.length ≤ 2048 by omega)
      clear h8 hl
      go_enter Tryd.func3, Tryd.ntmps3
      go_wp2_with fail
      refine (cut_any id body w H8.out HL.out HK.out HKS.out).mono ?_
      rintro e w1 ⟨v1, rfl, hW1, b1⟩
      obtain ⟨A1, c1, rfl, hP1⟩ := hW1.pts
      have P1 := Lib.hid hP1
      have B1 := Lib.hid b1
      clear hW1 hP1 b1
      go_wp2_with fail
      refine (rcut_any id body w1 H8.out HL.out).mono ?_
      rintro e w2 ⟨v2, rfl, hW2, b2⟩
      obtain ⟨A2, c2, rfl, hP2⟩ := hW2.pts
      have S1 := Lib.hid (((P1.out.below b2).up b2.size).strs (Nat.le_refl _))
      have S2 := Lib.hid (hP2.strs (Nat.le_refl _))
      have B2 := Lib.hid (B1.out.trans (b2.mono B1.out.size))
      have HLN := Lib.hid (cutL_length id body)
      have HN := Lib.hid (cutN_max body HL.out)
      clear hW2 hP2 b2
      go_wp2_with fail
      refine (sameT_any A1 A2 _ _ c1 c2 (cutL id body) (cutL id body) _ S1.out S2.out (by have h1 := HLN.out; have h2 := HN.out; omega)).mono ?_
      rintro e w3 ⟨rfl, b3⟩
      rw [sameB_yes rfl]
      have B3 := Lib.hid (B2.out.trans (b3.mono B2.out.size))
      clear b3
      go_wp2_with fail
      refine (works22_any w3 (HK.out.below HKS.out B3.out) (Nat.lt_of_lt_of_le HKS.out B3.out.size)).mono ?_
      rintro e w4 ⟨rfl, b4⟩
      have B4 := Lib.hid (B3.out.trans (b4.mono B3.out.size))
      clear b4
      go_wp2_with fail
      go_ret
      exact ⟨rfl, B4.out⟩
  · have H8 := Lib.hid h8
    clear h8
    go_enter Tryd.func3, Tryd.ntmps3
    go_wp2_with fail
    refine (cut_form id body w H8.out).mono ?_
    rintro e w1 ⟨rfl, rfl⟩
    go_wp2_with fail
    refine (rcut_form id body _ H8.out).mono ?_
    rintro e w2 ⟨rfl, rfl⟩
    go_wp2_with fail
    refine (sameT_any none none 0 0 0 0 [] [] _ (strs_nil _) (strs_nil _) (by omega)).mono ?_
    rintro e w3 ⟨rfl, b3⟩
    rw [sameB_yes rfl]
    have B3 := Lib.hid b3
    clear b3
    go_wp2_with fail
    refine (works22_any w3 (HK.out.below HKS.out B3.out) (Nat.lt_of_lt_of_le HKS.out B3.out.size)).mono ?_
    rintro e w4 ⟨rfl, b4⟩
    have B4 := Lib.hid (B3.out.trans (b4.mono B3.out.size))
    clear b4
    go_wp2_with fail
    go_ret
    exact ⟨rfl, B4.out⟩
end Go.Proofs.YtlogcgeinbefjaaDoor

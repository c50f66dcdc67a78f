/- Printed by a program of this session (hook.py, by way of the kit's print): the functions as Lean functions, each with the proof that the Go code comes to its answers; conditions: as each theorem states. -/
import Derived.Test.YtidilhnjfdkmpaaPMailWx0
namespace Go.Proofs.Ytidilhnjfdkmpaa.PMailW
open Go.RowKit Go.Proofs.Ytidilhnjfdkmpaa.PMailA Go.Proofs.YtidilhnjfdkmpaaW.PrintWords Go.Proofs.YtidilhnjfdkmpaaW.PrintLast Go.Proofs.YtidilhnjfdkmpaaW.PrintMore
attribute [local go_sem] max2_int min2_int max_two min_two max_three min_three max_four min_four   -- for this text's walks alone
set_option linter.unusedVariables false
set_option linter.unusedSimpArgs false

-- mail_Encode: by a contract of this session

-- mail_Long: by a contract of this session

-- mail_Decode: by a contract of this session

/-! ### dovecotelaw11_works: function 15 -/
def dovecotelaw11_works.f (k : Nat)  : Option (Bool) := if 32 ≤ 281474976710656 then ((some (List.replicate 32 0 : List Int)).bind fun y101 => ((mail_Encode.f k 2 3 258 (⟨#[]⟩ : ByteArray) (strOfNums y101) ([] : List (S43)) ([] : List ByteArray)).bind fun bt104 => ((mail_Decode.f k bt104.1).bind fun bt106 => (if bt104.2 = 0 then (if 6 + (strOfNums y101).size ≤ 9223372036854775807 then (if bt104.1.toList = ((⟨#[2, 3, 0, 0, 1, 2]⟩ : ByteArray) ++ (strOfNums y101)).toList then (if bt106.2.2.2.2.2.2.2 = 0 then (if bt106.2.1 = 3 then (if bt106.2.2.1 = 258 then ((mail_Long.f 2).bind fun t119 => (some (t119 == 38))) else (some false)) else (some false)) else (some false)) else (some false)) else (none)) else (some false))))) else (none)
theorem dovecotelaw11_works.mono : ∀ k, LeO (dovecotelaw11_works.f k ) (dovecotelaw11_works.f (k + 1) ) := by
  intro  k
  unfold dovecotelaw11_works.f
  repeat' first
      | (with_reducible exact mail_Decode.mono _ _)
      | (with_reducible exact mail_Encode.mono _ _ _ _ _ _ _ _)
      | (with_reducible exact LeO.refl _)
      | (with_reducible exact LeO.none _)
      | (with_reducible refine LeO.ite ?_ ?_)
      | (with_reducible refine LeO.bind ?_ (fun _ => ?_))
      | exact mail_Decode.mono _ _
      | exact mail_Encode.mono _ _ _ _ _ _ _ _
      | exact LeO.none _
      | refine LeO.ite ?_ ?_
      | refine LeO.bind ?_ (fun _ => ?_)
set_option maxHeartbeats 8000000 in
set_option maxRecDepth 100000 in
theorem dovecotelaw11_works.calls (k : Nat)  (w : World) (h : dovecotelaw11_works.f k  = some true) :
    Calls Try.prog 15 #[] w fun e w' => e = .returned (.bool true) ∧ Below w.heap.size w w' := by
  have hu25 := Try.underlying25
  have HB := Aside0.mk (Below.refl w.heap.size w)
  have H : (if 32 ≤ 281474976710656 then ((some (List.replicate 32 0 : List Int)).bind fun y101 => ((mail_Encode.f k 2 3 258 (⟨#[]⟩ : ByteArray) (strOfNums y101) ([] : List (S43)) ([] : List ByteArray)).bind fun bt104 => ((mail_Decode.f k bt104.1).bind fun bt106 => (if bt104.2 = 0 then (if 6 + (strOfNums y101).size ≤ 9223372036854775807 then (if bt104.1.toList = ((⟨#[2, 3, 0, 0, 1, 2]⟩ : ByteArray) ++ (strOfNums y101)).toList then (if bt106.2.2.2.2.2.2.2 = 0 then (if bt106.2.1 = 3 then (if bt106.2.2.1 = 258 then ((mail_Long.f 2).bind fun t119 => (some (t119 == 38))) else (some false)) else (some false)) else (some false)) else (some false)) else (none)) else (some false))))) else (none)) = some true := h
  clear h
  by_cases c1 : 32 ≤ 281474976710656
  · rw [if_pos c1] at H
    have c1b0 := eq_true c1
    have c1b1 : decide (32 ≤ 281474976710656) = true := decide_eq_true c1
    clear c1
    obtain ⟨y101, hy101⟩ : ∃ y_ : List Int, y_ = (List.replicate 32 0) := ⟨_, rfl⟩
    replace H : ((mail_Encode.f k 2 3 258 (⟨#[]⟩ : ByteArray) (strOfNums y101) ([] : List (S43)) ([] : List ByteArray)).bind fun bt104 => ((mail_Decode.f k bt104.1).bind fun bt106 => (if bt104.2 = 0 then (if 6 + (strOfNums y101).size ≤ 9223372036854775807 then (if bt104.1.toList = ((⟨#[2, 3, 0, 0, 1, 2]⟩ : ByteArray) ++ (strOfNums y101)).toList then (if bt106.2.2.2.2.2.2.2 = 0 then (if bt106.2.1 = 3 then (if bt106.2.2.1 = 258 then ((mail_Long.f 2).bind fun t119 => (some (t119 == 38))) else (some false)) else (some false)) else (some false)) else (some false)) else (none)) else (some false)))) = some true := by first | (rw [hy101]; with_reducible exact H) | (have H2_ := (Option.bind_some _ _).symm.trans H; rw [hy101]; with_reducible exact H2_) | (have H2_ := (Option.bind_some _ _).symm.trans H; with_reducible exact H2_) | with_reducible exact H | (rw [hy101]; exact H) | exact H
    have Ny101 := Aside0.mk hy101
    clear hy101
    replace H := Option.bind_eq_some_iff.mp H
    obtain ⟨⟨t104, t105⟩, A20, H⟩ := H
    replace H : ((mail_Decode.f k t104).bind fun bt106 => (if t105 = 0 then (if 6 + (strOfNums y101).size ≤ 9223372036854775807 then (if t104.toList = ((⟨#[2, 3, 0, 0, 1, 2]⟩ : ByteArray) ++ (strOfNums y101)).toList then (if bt106.2.2.2.2.2.2.2 = 0 then (if bt106.2.1 = 3 then (if bt106.2.2.1 = 258 then ((mail_Long.f 2).bind fun t119 => (some (t119 == 38))) else (some false)) else (some false)) else (some false)) else (some false)) else (none)) else (some false))) = some true := H
    have A2 := Aside0.mk A20
    clear A20
    replace H := Option.bind_eq_some_iff.mp H
    obtain ⟨⟨t106, t107, t108, t109, t110, t111, t114, t117⟩, A30, H⟩ := H
    replace H : (if t105 = 0 then (if 6 + (strOfNums y101).size ≤ 9223372036854775807 then (if t104.toList = ((⟨#[2, 3, 0, 0, 1, 2]⟩ : ByteArray) ++ (strOfNums y101)).toList then (if t117 = 0 then (if t107 = 3 then (if t108 = 258 then ((mail_Long.f 2).bind fun t119 => (some (t119 == 38))) else (some false)) else (some false)) else (some false)) else (some false)) else (none)) else (some false)) = some true := H
    have A3 := Aside0.mk A30
    clear A30
    by_cases c4 : t105 = 0
    · rw [if_pos c4] at H
      have c4b0 : (t105 == 0) = true := beq_iff_eq.mpr c4
      have c4b1 : (t105 != 0) = false := bne_eq_false_iff_eq.mpr c4
      clear c4
      by_cases c5 : 6 + (strOfNums y101).size ≤ 9223372036854775807
      · rw [if_pos c5] at H
        have c5b0 := eq_true c5
        have c5b1 : decide (6 + (strOfNums y101).size ≤ 9223372036854775807) = true := decide_eq_true c5
        try have c5b2 : (9223372036854775807 < 6 + (strOfNums y101).size) = False := eq_false (Nat.not_lt.2 c5)
        by_cases c6 : t104.toList = ((⟨#[2, 3, 0, 0, 1, 2]⟩ : ByteArray) ++ (strOfNums y101)).toList
        · rw [if_pos c6] at H
          have c6b0 : (t104.toList == ((⟨#[2, 3, 0, 0, 1, 2]⟩ : ByteArray) ++ (strOfNums y101)).toList) = true := beq_iff_eq.mpr c6
          have c6b1 : (t104.toList != ((⟨#[2, 3, 0, 0, 1, 2]⟩ : ByteArray) ++ (strOfNums y101)).toList) = false := bne_eq_false_iff_eq.mpr c6
          clear c6
          by_cases c7 : t117 = 0
          · rw [if_pos c7] at H
            have c7b0 : (t117 == 0) = true := beq_iff_eq.mpr c7
            have c7b1 : (t117 != 0) = false := bne_eq_false_iff_eq.mpr c7
            clear c7
            by_cases c8 : t107 = 3
            · rw [if_pos c8] at H
              have c8b0 : (t107 == 3) = true := beq_iff_eq.mpr c8
              have c8b1 : (t107 != 3) = false := bne_eq_false_iff_eq.mpr c8
              clear c8
              by_cases c9 : t108 = 258
              · rw [if_pos c9] at H
                have c9b0 : (t108 == 258) = true := beq_iff_eq.mpr c9
                have c9b1 : (t108 != 258) = false := bne_eq_false_iff_eq.mpr c9
                clear c9
                replace H := Option.bind_eq_some_iff.mp H
                obtain ⟨t119, A100, H⟩ := H
                replace H : (some (t119 == 38)) = some true := H
                have A10 := Aside0.mk A100
                clear A100
                have hT_ := Option.some.inj H
                go_enter Try.func15, Try.ntmps15
                go_wp2_with (first | ((with_reducible refine gate_dst (N := 6) rfl ?_); refine Kd.R_make (Kd.int .u8) _ 5 rfl (N := 6) rfl 39 _ _ rfl 32 rfl rfl Try.underlying39 (.int .u8 0) 1 info5 rfl (by decide) (by omega) 0 (ok := fun _ => True) (okp := fun _ => True) rfl (fun _ hk => hk) trivial (by omega) (by omega) (Below.refl _ _) (Nat.le_refl _) ?_; intro v102 w11 ho12 hb hg_ hnew_; clear hg_ hnew_; (first | rw [← Ny101.out] at ho12 | (simp only [Int.reduceToNat] at ho12; rw [← Ny101.out] at ho12)); have n0_ := Aside0.mk (Kd.R_lower ho12 (below_size (by repeat (first | (with_reducible first | exact HB.out | apply below_alloc | apply pw_below_drewN | apply below_drew1) | exact HB.out)))); have n1_ := Aside0.mk (below_step (by repeat (first | (with_reducible first | exact HB.out | apply below_alloc | apply pw_below_drewN | apply below_drew1) | exact HB.out)) hb); clear HB; have HO103 := n0_; have HB := n1_; clear n0_ n1_; clear hb ho12; have hcv13 := own_string (P := Try.prog) Try.underlying39 Try.underlying5 Try.underlying9 (Kd.own_of_R HO103.out)) | ((with_reducible refine gate_callee (f := 8) rfl ?_); refine goesL_ (some 11) rfl rfl Try.func8 (by kernel_rfl) rfl #[.agg #[.int .i64 2, .int .i64 3, .int .i64 258, .string (⟨#[]⟩ : ByteArray), .string (strOfNums y101), .slice none 0 0, .slice none 0 0]] rfl (by (try simp only [List.map_toArray, List.map_cons, List.map_nil]); first | done | rfl | (simp only [List.length_drop, List.length_take]; rfl)) ?_; (refine (mail_Encode.calls k 2 3 258 (⟨#[]⟩ : ByteArray) (strOfNums y101) _ _ ([] : List (S43)) _ _ ([] : List ByteArray) t104 t105 _ ?side1 ?side2 ?side3 ?side4 A2.out).mono ?_); (case side1 => exact Kd.C_nil _ _); (case side2 => exact Nat.le_refl _); (case side3 => exact Kd.C_nil _ _); (case side4 => exact Nat.le_refl _); rintro e w14 ⟨rfl, hb⟩; refine ⟨_, rfl, ?_⟩; have n0_ := Aside0.mk (Kd.R_below (by (with_reducible repeat (first | apply Kd.R_alloc | apply Kd.R_drewN | apply Kd.R_drew)); exact HO103.out) hb); have n1_ := Aside0.mk (below_step (by repeat (first | (with_reducible first | exact HB.out | apply below_alloc | apply pw_below_drewN | apply below_drew1) | exact HB.out)) hb); clear HO103; clear HB; have HO103 := n0_; have HB := n1_; clear n0_ n1_; (try clear hb); (try clear hb2); (try clear hk); (try clear hi)) | ((with_reducible refine gate_callee (f := 16) rfl ?_); refine goesL_ (some 16) rfl rfl Try.func16 (by kernel_rfl) rfl #[.string t104] rfl (by (try simp only [List.map_toArray, List.map_cons, List.map_nil]); first | done | rfl | (simp only [List.length_drop, List.length_take]; rfl)) ?_; (with_reducible refine (mail_Decode.calls k t104 t106 t107 t108 t109 t110 t111 t114 t117 _ A3.out).mono ?_); rintro e w15 ⟨v112, v115, rfl, ho0, ho1, hb⟩; refine ⟨_, rfl, ?_⟩; have n0_ := Aside0.mk (Kd.R_below (by (with_reducible repeat (first | apply Kd.R_alloc | apply Kd.R_drewN | apply Kd.R_drew)); exact HO103.out) hb); have n1_ := Aside0.mk (Kd.R_lower ho0 (below_size (by repeat (first | (with_reducible first | exact HB.out | apply below_alloc | apply pw_below_drewN | apply below_drew1) | exact HB.out)))); have n2_ := Aside0.mk (Kd.R_lower ho1 (below_size (by repeat (first | (with_reducible first | exact HB.out | apply below_alloc | apply pw_below_drewN | apply below_drew1) | exact HB.out)))); have n3_ := Aside0.mk (below_step (by repeat (first | (with_reducible first | exact HB.out | apply below_alloc | apply pw_below_drewN | apply below_drew1) | exact HB.out)) hb); clear HO103; clear HB; have HO103 := n0_; have HO113 := n1_; have HO116 := n2_; have HB := n3_; clear n0_ n1_ n2_ n3_; (try clear hb); (try clear hb2); (try clear hk); (try clear hi); (try clear ho0); (try clear ho1)) | ((with_reducible refine gate_dst (N := 4) rfl ?_); refine box_event ?hg (N := 4) ?hd (cs := #[.int .i64 0, .int .i64 0, .int .i64 0, .string (⟨#[]⟩ : ByteArray), .string (⟨#[]⟩ : ByteArray), .slice none 0 0, .slice none 0 0]) (t := 25) ?hr ?_; (case hd => rfl); (case hg => rfl); (case hr => first | (go_simp; done) | (go_simp; rfl)); intro gb118 hg w16 hbox hb; have n0_ := Aside0.mk (Kd.R_below (by (with_reducible repeat (first | apply Kd.R_alloc | apply Kd.R_drewN | apply Kd.R_drew)); exact HO103.out) hb); have n1_ := Aside0.mk (Kd.R_below (by (with_reducible repeat (first | apply Kd.R_alloc | apply Kd.R_drewN | apply Kd.R_drew)); exact HO113.out) hb); have n2_ := Aside0.mk (Kd.R_below (by (with_reducible repeat (first | apply Kd.R_alloc | apply Kd.R_drewN | apply Kd.R_drew)); exact HO116.out) hb); have n3_ := Aside0.mk (below_step (by repeat (first | (with_reducible first | exact HB.out | apply below_alloc | apply pw_below_drewN | apply below_drew1) | exact HB.out)) hb); have n4_ := Aside0.mk (hbox); have n5_ := Aside0.mk ((by rw [hg]; exact (below_size (by repeat (first | (with_reducible first | exact HB.out | apply below_alloc | apply pw_below_drewN | apply below_drew1) | exact HB.out))) : w.heap.size ≤ gb118)); have n6_ := Aside0.mk ((by rw [hg]; exact (below_size (by repeat (first | (with_reducible first | exact HB.out | apply below_alloc | apply pw_below_drewN | apply below_drew1) | exact HB.out))) : w.heap.size ≤ gb118)); clear HO103; clear HO113; clear HO116; clear HB; have HO103 := n0_; have HO113 := n1_; have HO116 := n2_; have HB := n3_; have BK118 := n4_; have GW118 := n5_; have GE118 := n6_; clear n0_ n1_ n2_ n3_ n4_ n5_ n6_; clear hb hbox hg; have hcz17_0 : w16.cell? ⟨gb118, 0, none⟩ = some (.int .i64 0) := (blk_cell BK118.out 0).trans rfl; have hcz17_1 : w16.cell? ⟨gb118, 1, none⟩ = some (.int .i64 0) := (blk_cell BK118.out 1).trans rfl; have hcz17_2 : w16.cell? ⟨gb118, 2, none⟩ = some (.int .i64 0) := (blk_cell BK118.out 2).trans rfl; have hcz17_3 : w16.cell? ⟨gb118, 3, none⟩ = some (.string (⟨#[]⟩ : ByteArray)) := (blk_cell BK118.out 3).trans rfl; have hcz17_4 : w16.cell? ⟨gb118, 4, none⟩ = some (.string (⟨#[]⟩ : ByteArray)) := (blk_cell BK118.out 4).trans rfl; have hcz17_5 : w16.cell? ⟨gb118, 5, none⟩ = some (.slice none 0 0) := (blk_cell BK118.out 5).trans rfl; have hcz17_6 : w16.cell? ⟨gb118, 6, none⟩ = some (.slice none 0 0) := (blk_cell BK118.out 6).trans rfl; have hfz17_0 := blk_frozen BK118.out 0; have hfz17_1 := blk_frozen BK118.out 1; have hfz17_2 := blk_frozen BK118.out 2; have hfz17_3 := blk_frozen BK118.out 3; have hfz17_4 := blk_frozen BK118.out 4; have hfz17_5 := blk_frozen BK118.out 5; have hfz17_6 := blk_frozen BK118.out 6; obtain ⟨Ao18, co18, eo18⟩ := Kd.R_slice HO113.out; subst eo18; obtain ⟨Ao19, co19, eo19⟩ := Kd.R_slice HO116.out; subst eo19) | (go_at_call 12; (with_reducible refine (mail_Long.calls 2 t119 _ A10.out).mono ?_); rintro e w' ⟨rfl, ⟨nd, rfl⟩⟩))
                go_ret
                exact ⟨by first | rfl | (simp [errW_none, errW_some] <;> rfl) | (simp [*, errW_none, errW_some] <;> rfl), by repeat (first | (with_reducible first | exact HB.out | apply below_alloc | apply pw_below_drewN | apply below_drew1 | refine below_set ?_ GE118.out) | exact HB.out)⟩
              · rw [if_neg c9] at H
                exact absurd H (by simp)
            · rw [if_neg c8] at H
              exact absurd H (by simp)
          · rw [if_neg c7] at H
            exact absurd H (by simp)
        · rw [if_neg c6] at H
          exact absurd H (by simp)
      · rw [if_neg c5] at H
        exact absurd H (by simp)
    · rw [if_neg c4] at H
      exact absurd H (by simp)
  · rw [if_neg c1] at H
    exact absurd H (by simp)
end Go.Proofs.Ytidilhnjfdkmpaa.PMailW

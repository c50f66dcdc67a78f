/- Printed by a program of this session (hook.py, by way of the kit's print): the functions as Lean functions, each with the proof that the Go code comes to its answers; conditions: as each theorem states. gate.Admit. slices.Clone; gate.Sign. gate.Sign. Texts of bytes. The plain laws of mail: what Check lets pass, what Encode writes. Signed pulls: what pull gives, what Admit says of them. The chapter's example. The law GateOnce: of signed pulls just those are admitted that are above all that were ahead. The law GateApart: what one account's user was admitted does not hang on what others sent. mail.cut: takes bytes off a text in a cell. mail.Decode: its blocks (the result, the rest, the message). mail.Decode. -/
import Derived.Test.YtjmgkjjcdnaapaaDoorZ60f1f094
import Derived.Lib.SliceRun
import Derived.Test.YtjmgkjjcdnaapaaDoorZ1d1d9347
namespace Go.Proofs.YtjmgkjjcdnaapaaDoor.PMailA
open Go.RowKit Go.Proofs.YtjmgkjjcdnaapaaDoorW.PrintWords Go.Proofs.YtjmgkjjcdnaapaaDoorW.PrintLast Go.Proofs.YtjmgkjjcdnaapaaDoorW.PrintMore
attribute [local go_sem] max2_int min2_int max_two min_two max_three min_three max_four min_four   -- for this text's walks alone
set_option linter.unusedVariables false
set_option linter.unusedSimpArgs false

/-! ### mail_Encode: function 23 -/
def mail_Encode.l0 : Nat → ByteArray → List (S68) → Int → Int → Int → Int → Int → ByteArray → ByteArray → List (S68) → List ByteArray → Option (ByteArray × Int)
  | 0, _, _, _, _, _, _, _, _, _, _, _ => none
  | k + 1, x7, x55, x56, x57, x106000, x106001, x106002, x106003, x106004, x106005, x106006 => if x57 < x56 then (if 0 ≤ x57 then (if x57 < (x55.length : Int) then ((mail_pad.f ((rd_T68 x55 x57).f0) 16).bind fun t123 => ((mail_pad.f ((rd_T68 x55 x57).f1) 222).bind fun t127 => ((mail_join.f (([x7, t123, strOfNums (([((((rd_T68 x55 x57).f1).size : Int)) % 256] : List Int)), t127] : List ByteArray))).bind fun t131 => (mail_Encode.l0 k t131 x55 x56 (wrap64 (x57 + 1)) x106000 x106001 x106002 x106003 x106004 x106005 x106006)))) else (none)) else (none)) else ((mail_join.f x106006).bind fun t132 => ((mail_join.f (([x7, t132] : List ByteArray))).bind fun t136 => ((mail_Long.f x106000).bind fun t137 => ((mail_pad.f t136 t137).bind fun t138 => (some (t138, 0))))))
def mail_Encode.f (k : Nat) (a0_0 : Int) (a0_1 : Int) (a0_2 : Int) (a0_3 : ByteArray) (a0_4 : ByteArray) (l0_5 : List (S68)) (l0_6 : List ByteArray) : Option (ByteArray × Int) := (mail_Check.f k a0_0 a0_1 a0_2 a0_3 a0_4 l0_5 l0_6).bind fun t106 => (if t106 = 0 then ((some (([(a0_0) % 256] : List Int) : List Int)).bind fun y107 => (if a0_0 = 1 then ((mail_join.f (([strOfNums y107, a0_3] : List ByteArray))).bind fun t113 => (some (t113, 0))) else ((mail_join.f (([strOfNums y107, strOfNums (([(a0_1) % 256, (a0_2 / 16777216) % 256, (a0_2 / 65536) % 256, (a0_2 / 256) % 256, (a0_2) % 256] : List Int)), a0_4] : List ByteArray))).bind fun t120 => (mail_Encode.l0 k t120 l0_5 (l0_5.length : Int) 0 a0_0 a0_1 a0_2 a0_3 a0_4 l0_5 l0_6)))) else (some ((⟨#[]⟩ : ByteArray), t106)))
def mail_Encode.T12 : Bool × List (List Nat × List Nat) := (true, [([], []), ([], []), ([1], [1]), ([2], [2]), ([], []), ([4], [4]), ([5], [5]), ([6], [6]), ([7], [7]), ([8], [8]), ([], []), ([10], [10]), ([11, 3], [11]), ([0, 3, 9, 12], [0, 3, 9, 12]), ([13, 12], [13]), ([14, 14, 0, 1, 2, 3, 4, 5, 6, 7, 8, 9, 10, 11, 12, 13, 14], [0, 14])])
def mail_Encode.B12 : List Nat := [0, 0, 2, 6, 0, 16, 48, 112, 240, 496, 0, 1024, 3086, 8191, 16383, 32767]
theorem mail_Encode.tab12 : rtab .any (opsOf Tryd.f23 12) = mail_Encode.T12 := by kernel_rfl
theorem mail_Encode.bits12 : waitsOk mail_Encode.T12.2 mail_Encode.B12 = true := by kernel_rfl
def mail_Encode.T14 : Bool × List (List Nat × List Nat) := (true, [([], []), ([], []), ([1], [1]), ([2], [2]), ([0, 3], [0, 3]), ([4, 3], [4]), ([], []), ([6], [6]), ([7, 5], [7]), ([5, 8, 8], [5, 8]), ([9, 9, 0, 1, 2, 3, 4, 5, 6, 7, 8, 9], [9]), ([10, 0, 1, 2, 3, 4, 5, 6, 7, 8, 9, 10], [])])
def mail_Encode.B14 : List Nat := [0, 0, 2, 6, 15, 31, 0, 64, 255, 511, 1023, 2047]
theorem mail_Encode.tab14 : rtab .any (opsOf Tryd.f23 14) = mail_Encode.T14 := by kernel_rfl
theorem mail_Encode.bits14 : waitsOk mail_Encode.T14.2 mail_Encode.B14 = true := by kernel_rfl
set_option maxHeartbeats 8000000 in
set_option maxRecDepth 100000 in
theorem mail_Encode.calls (k : Nat) (a0_0 : Int) (a0_1 : Int) (a0_2 : Int) (a0_3 : ByteArray) (a0_4 : ByteArray) (A0_5 : Option Addr) (c0_5 : Nat) (l0_5 : List (S68)) (A0_6 : Option Addr) (c0_6 : Nat) (l0_6 : List ByteArray) (r1 : ByteArray) (r2 : Int) (w : World) (hr0_5 : Kd.C k68 w A0_5 l0_5.length l0_5) (hc0_5 : l0_5.length ≤ c0_5) (hr0_6 : Kd.C Kd.string w A0_6 l0_6.length l0_6) (hc0_6 : l0_6.length ≤ c0_6) (h : mail_Encode.f k a0_0 a0_1 a0_2 a0_3 a0_4 l0_5 l0_6 = some (r1, r2)) :
    Calls Tryd.prog 23 #[.agg #[.int .i64 a0_0, .int .i64 a0_1, .int .i64 a0_2, .string a0_3, .string a0_4, .slice A0_5 l0_5.length c0_5, .slice A0_6 l0_6.length c0_6]] w fun e w' => e = .returned (.tuple #[.string r1, .int .i64 r2]) ∧ Below w.heap.size w w' := by
  have hu25 := Tryd.underlying25
  have hu68 := Tryd.underlying68
  have HR0_5 := Aside0.mk hr0_5
  have HC0_5 := Aside0.mk hc0_5
  clear hr0_5 hc0_5
  have HR0_6 := Aside0.mk hr0_6
  have HC0_6 := Aside0.mk hc0_6
  clear hr0_6 hc0_6
  have HB := Aside0.mk (Below.refl w.heap.size w)
  have H : ((mail_Check.f k a0_0 a0_1 a0_2 a0_3 a0_4 l0_5 l0_6).bind fun t106 => (if t106 = 0 then ((some (([(a0_0) % 256] : List Int) : List Int)).bind fun y107 => (if a0_0 = 1 then ((mail_join.f (([strOfNums y107, a0_3] : List ByteArray))).bind fun t113 => (some (t113, 0))) else ((mail_join.f (([strOfNums y107, strOfNums (([(a0_1) % 256, (a0_2 / 16777216) % 256, (a0_2 / 65536) % 256, (a0_2 / 256) % 256, (a0_2) % 256] : List Int)), a0_4] : List ByteArray))).bind fun t120 => (mail_Encode.l0 k t120 l0_5 (l0_5.length : Int) 0 a0_0 a0_1 a0_2 a0_3 a0_4 l0_5 l0_6)))) else (some ((⟨#[]⟩ : ByteArray), t106)))) = some (r1, r2) := h
  clear h
  replace H := Option.bind_eq_some_iff.mp H
  obtain ⟨t106, A20, H⟩ := H
  replace H : (if t106 = 0 then ((some (([(a0_0) % 256] : List Int) : List Int)).bind fun y107 => (if a0_0 = 1 then ((mail_join.f (([strOfNums y107, a0_3] : List ByteArray))).bind fun t113 => (some (t113, 0))) else ((mail_join.f (([strOfNums y107, strOfNums (([(a0_1) % 256, (a0_2 / 16777216) % 256, (a0_2 / 65536) % 256, (a0_2 / 256) % 256, (a0_2) % 256] : List Int)), a0_4] : List ByteArray))).bind fun t120 => (mail_Encode.l0 k t120 l0_5 (l0_5.length : Int) 0 a0_0 a0_1 a0_2 a0_3 a0_4 l0_5 l0_6)))) else (some ((⟨#[]⟩ : ByteArray), t106))) = some (r1, r2) := H
  have A2 := Aside0.mk A20
  clear A20
  by_cases c3 : t106 = 0
  · rw [if_pos c3] at H
    have c3b0 : (t106 == 0) = true := beq_iff_eq.mpr c3
    have c3b1 : (t106 != 0) = false := bne_eq_false_iff_eq.mpr c3
    clear c3
    obtain ⟨y107, hy107⟩ : ∃ y_ : List Int, y_ = (([(a0_0) % 256] : List Int)) := ⟨_, rfl⟩
    replace H : (if a0_0 = 1 then ((mail_join.f (([strOfNums y107, a0_3] : List ByteArray))).bind fun t113 => (some (t113, 0))) else ((mail_join.f (([strOfNums y107, strOfNums (([(a0_1) % 256, (a0_2 / 16777216) % 256, (a0_2 / 65536) % 256, (a0_2 / 256) % 256, (a0_2) % 256] : List Int)), a0_4] : List ByteArray))).bind fun t120 => (mail_Encode.l0 k t120 l0_5 (l0_5.length : Int) 0 a0_0 a0_1 a0_2 a0_3 a0_4 l0_5 l0_6))) = some (r1, r2) := by first | (rw [hy107]; with_reducible exact H) | (have H2_ := (Option.bind_some _ _).symm.trans H; rw [hy107]; with_reducible exact H2_) | (have H2_ := (Option.bind_some _ _).symm.trans H; with_reducible exact H2_) | with_reducible exact H | (rw [hy107]; exact H) | exact H
    have Ny107 := Aside0.mk hy107
    clear hy107
    by_cases c4 : a0_0 = 1
    · rw [if_pos c4] at H
      have c4b0 : (a0_0 == 1) = true := beq_iff_eq.mpr c4
      have c4b1 : (a0_0 != 1) = false := bne_eq_false_iff_eq.mpr c4
      clear c4
      obtain ⟨y110, hy110⟩ : ∃ y_ : List ByteArray, y_ = (([strOfNums y107, a0_3] : List ByteArray)) := ⟨_, rfl⟩
      replace H : ((mail_join.f y110).bind fun t113 => (some (t113, 0))) = some (r1, r2) := by first | (rw [hy110]; with_reducible exact H) | (have H2_ := (Option.bind_some _ _).symm.trans H; rw [hy110]; with_reducible exact H2_) | (have H2_ := (Option.bind_some _ _).symm.trans H; with_reducible exact H2_) | with_reducible exact H | (rw [hy110]; exact H) | exact H
      have Ny110 := Aside0.mk hy110
      clear hy110
      replace H := Option.bind_eq_some_iff.mp H
      obtain ⟨t113, A50, H⟩ := H
      replace H : (some (t113, 0)) = some (r1, r2) := H
      have A5 := Aside0.mk A50
      clear A50
      simp only [Option.some.injEq, Prod.mk.injEq] at H
      obtain ⟨rfl, rfl⟩ := H
      go_enter Tryd.func23, Tryd.ntmps23
      go_wp2_with (first | ((with_reducible refine gate_dst (N := 1) rfl ?_); refine box_event ?hg (N := 1) ?hd (cs := #[.int .i64 a0_0, .int .i64 a0_1, .int .i64 a0_2, .string a0_3, .string a0_4, .slice A0_5 l0_5.length c0_5, .slice A0_6 l0_6.length c0_6]) (t := 25) ?hr ?_; (case hd => rfl); (case hg => rfl); (case hr => first | (go_simp; done) | (go_simp; rfl)); intro gb105 hg w6 hbox hb; have n0_ := Aside0.mk (below_step (by repeat (first | (with_reducible first | exact HB.out | apply below_alloc | apply pw_below_drewN | apply below_drew1) | exact HB.out)) hb); have n1_ := Aside0.mk (hbox); have n2_ := Aside0.mk ((by rw [hg]; exact (below_size (by repeat (first | (with_reducible first | exact HB.out | apply below_alloc | apply pw_below_drewN | apply below_drew1) | exact HB.out))) : w.heap.size ≤ gb105)); have n3_ := Aside0.mk ((by rw [hg]; exact (below_size (by repeat (first | (with_reducible first | exact HB.out | apply below_alloc | apply pw_below_drewN | apply below_drew1) | exact HB.out))) : w.heap.size ≤ gb105)); clear HB; have HB := n0_; have BK105 := n1_; have GW105 := n2_; have GE105 := n3_; clear n0_ n1_ n2_ n3_; clear hb hbox hg; have hcz7_0 : w6.cell? ⟨gb105, 0, none⟩ = some (.int .i64 a0_0) := (blk_cell BK105.out 0).trans rfl; have hcz7_1 : w6.cell? ⟨gb105, 1, none⟩ = some (.int .i64 a0_1) := (blk_cell BK105.out 1).trans rfl; have hcz7_2 : w6.cell? ⟨gb105, 2, none⟩ = some (.int .i64 a0_2) := (blk_cell BK105.out 2).trans rfl; have hcz7_3 : w6.cell? ⟨gb105, 3, none⟩ = some (.string a0_3) := (blk_cell BK105.out 3).trans rfl; have hcz7_4 : w6.cell? ⟨gb105, 4, none⟩ = some (.string a0_4) := (blk_cell BK105.out 4).trans rfl; have hcz7_5 : w6.cell? ⟨gb105, 5, none⟩ = some (.slice A0_5 l0_5.length c0_5) := (blk_cell BK105.out 5).trans rfl; have hcz7_6 : w6.cell? ⟨gb105, 6, none⟩ = some (.slice A0_6 l0_6.length c0_6) := (blk_cell BK105.out 6).trans rfl; have hfz7_0 := blk_frozen BK105.out 0; have hfz7_1 := blk_frozen BK105.out 1; have hfz7_2 := blk_frozen BK105.out 2; have hfz7_3 := blk_frozen BK105.out 3; have hfz7_4 := blk_frozen BK105.out 4; have hfz7_5 := blk_frozen BK105.out 5; have hfz7_6 := blk_frozen BK105.out 6) | ((with_reducible refine gate_callee (f := 38) rfl ?_); refine goesL_ (some 11) rfl rfl Tryd.func38 (by kernel_rfl) rfl #[.agg #[.int .i64 a0_0, .int .i64 a0_1, .int .i64 a0_2, .string a0_3, .string a0_4, .slice A0_5 l0_5.length c0_5, .slice A0_6 l0_6.length c0_6]] rfl (by (try simp only [List.map_toArray, List.map_cons, List.map_nil]); first | done | rfl | (simp only [List.length_drop, List.length_take]; rfl)) ?_; (with_reducible refine (mail_Check.calls k a0_0 a0_1 a0_2 a0_3 a0_4 _ _ l0_5 _ _ l0_6 t106 _ ?side1 ?side2 ?side3 ?side4 A2.out).mono ?_); (case side1 => repeat (first | exact (Kd.C_below HR0_5.out HB.out) | (with_reducible refine Kd.C_alloc ?_ _) | (with_reducible refine Kd.C_drewN ?_ _) | (with_reducible refine Kd.C_drew ?_))); (case side2 => exact HC0_5.out); (case side3 => repeat (first | exact (Kd.C_below HR0_6.out HB.out) | (with_reducible refine Kd.C_alloc ?_ _) | (with_reducible refine Kd.C_drewN ?_ _) | (with_reducible refine Kd.C_drew ?_))); (case side4 => exact HC0_6.out); rintro e w8 ⟨rfl, hb⟩; refine ⟨_, rfl, ?_⟩; have n0_ := Aside0.mk (blk_below (g := gb105) (o := .cells #[.int .i64 a0_0, .int .i64 a0_1, .int .i64 a0_2, .string a0_3, .string a0_4, .slice A0_5 l0_5.length c0_5, .slice A0_6 l0_6.length c0_6] 25 (0, 0)) (by (with_reducible repeat (first | refine blk_drewN ?_ _ | refine blk_drew ?_ | refine blk_alloc ?_ _)); exact BK105.out) hb); have n1_ := Aside0.mk (below_step (by repeat (first | (with_reducible first | exact HB.out | apply below_alloc | apply pw_below_drewN | apply below_drew1 | refine below_set ?_ GE105.out) | exact HB.out)) hb); clear BK105; clear HB; have BK105 := n0_; have HB := n1_; clear n0_ n1_; (try clear hb); (try clear hb2); (try clear hk); (try clear hi); have hcz9_0 : w8.cell? ⟨gb105, 0, none⟩ = some (.int .i64 a0_0) := (blk_cell BK105.out 0).trans rfl; have hcz9_1 : w8.cell? ⟨gb105, 1, none⟩ = some (.int .i64 a0_1) := (blk_cell BK105.out 1).trans rfl; have hcz9_2 : w8.cell? ⟨gb105, 2, none⟩ = some (.int .i64 a0_2) := (blk_cell BK105.out 2).trans rfl; have hcz9_3 : w8.cell? ⟨gb105, 3, none⟩ = some (.string a0_3) := (blk_cell BK105.out 3).trans rfl; have hcz9_4 : w8.cell? ⟨gb105, 4, none⟩ = some (.string a0_4) := (blk_cell BK105.out 4).trans rfl; have hcz9_5 : w8.cell? ⟨gb105, 5, none⟩ = some (.slice A0_5 l0_5.length c0_5) := (blk_cell BK105.out 5).trans rfl; have hcz9_6 : w8.cell? ⟨gb105, 6, none⟩ = some (.slice A0_6 l0_6.length c0_6) := (blk_cell BK105.out 6).trans rfl; have hfz9_0 := blk_frozen BK105.out 0; have hfz9_1 := blk_frozen BK105.out 1; have hfz9_2 := blk_frozen BK105.out 2; have hfz9_3 := blk_frozen BK105.out 3; have hfz9_4 := blk_frozen BK105.out 4; have hfz9_5 := blk_frozen BK105.out 5; have hfz9_6 := blk_frozen BK105.out 6) | ((with_reducible refine gate_dst (N := 18) rfl ?_); refine Kd.R_lit (Kd.int .u8) _ 5 ?hg (N := 18) ?hd (xs := ([(a0_0) % 256] : List Int)) (inner := [.int .u8 ((a0_0) % 256)]) (ok := fun _ => True) (okp := fun _ => True) ?hr ?hp (fun _ hk => hk) trivial (Below.refl _ _) (Nat.le_refl _) (by simp) ?_; (case hd => rfl); (case hg => rfl); (case hr => first | (go_simp; done) | (go_simp; rfl)); (case hp => exact (Reps.one (show Kd.M (Kd.int .u8) _ _ _ ((a0_0) % 256) [.int .u8 ((a0_0) % 256)] from rfl) (Reps.none _ _))); intro v108 w10 ho11 hb hg_ hnew_; clear hg_ hnew_; (first | rw [← Ny107.out] at ho11 | (simp only [Int.reduceToNat] at ho11; rw [← Ny107.out] at ho11)); have n0_ := Aside0.mk (Kd.R_lower ho11 (below_size (by repeat (first | (with_reducible first | exact HB.out | apply below_alloc | apply pw_below_drewN | apply below_drew1 | refine below_set ?_ GE105.out) | exact HB.out)))); have n1_ := Aside0.mk (blk_below (g := gb105) (o := .cells #[.int .i64 a0_0, .int .i64 a0_1, .int .i64 a0_2, .string a0_3, .string a0_4, .slice A0_5 l0_5.length c0_5, .slice A0_6 l0_6.length c0_6] 25 (0, 0)) (by (with_reducible repeat (first | refine blk_drewN ?_ _ | refine blk_drew ?_ | refine blk_alloc ?_ _)); exact BK105.out) hb); have n2_ := Aside0.mk (below_step (by repeat (first | (with_reducible first | exact HB.out | apply below_alloc | apply pw_below_drewN | apply below_drew1 | refine below_set ?_ GE105.out) | exact HB.out)) hb); clear BK105; clear HB; have HO109 := n0_; have BK105 := n1_; have HB := n2_; clear n0_ n1_ n2_; clear hb ho11; have hcv12 := own_string (P := Tryd.prog) Tryd.underlying61 Tryd.underlying5 Tryd.underlying9 (Kd.own_of_R HO109.out); have hcz13_0 : w10.cell? ⟨gb105, 0, none⟩ = some (.int .i64 a0_0) := (blk_cell BK105.out 0).trans rfl; have hcz13_1 : w10.cell? ⟨gb105, 1, none⟩ = some (.int .i64 a0_1) := (blk_cell BK105.out 1).trans rfl; have hcz13_2 : w10.cell? ⟨gb105, 2, none⟩ = some (.int .i64 a0_2) := (blk_cell BK105.out 2).trans rfl; have hcz13_3 : w10.cell? ⟨gb105, 3, none⟩ = some (.string a0_3) := (blk_cell BK105.out 3).trans rfl; have hcz13_4 : w10.cell? ⟨gb105, 4, none⟩ = some (.string a0_4) := (blk_cell BK105.out 4).trans rfl; have hcz13_5 : w10.cell? ⟨gb105, 5, none⟩ = some (.slice A0_5 l0_5.length c0_5) := (blk_cell BK105.out 5).trans rfl; have hcz13_6 : w10.cell? ⟨gb105, 6, none⟩ = some (.slice A0_6 l0_6.length c0_6) := (blk_cell BK105.out 6).trans rfl; have hfz13_0 := blk_frozen BK105.out 0; have hfz13_1 := blk_frozen BK105.out 1; have hfz13_2 := blk_frozen BK105.out 2; have hfz13_3 := blk_frozen BK105.out 3; have hfz13_4 := blk_frozen BK105.out 4; have hfz13_5 := blk_frozen BK105.out 5; have hfz13_6 := blk_frozen BK105.out 6) | ((with_reducible refine gate_dst (N := 26) rfl ?_); refine Kd.R_lit Kd.string _ 9 ?hg (N := 26) ?hd (xs := ([strOfNums y107, a0_3] : List ByteArray)) (inner := [.string (strOfNums y107), .string a0_3]) (ok := fun _ => True) (okp := fun _ => True) ?hr ?hp (fun _ hk => hk) trivial (Below.refl _ _) (Nat.le_refl _) (by simp) ?_; (case hd => rfl); (case hg => rfl); (case hr => first | (go_simp; done) | (go_simp; rfl)); (case hp => exact (Reps.one (show Kd.M Kd.string _ _ _ (strOfNums y107) [.string (strOfNums y107)] from rfl) (Reps.one (show Kd.M Kd.string _ _ _ a0_3 [.string a0_3] from rfl) (Reps.none _ _)))); intro v111 w14 ho15 hb hg_ hnew_; clear hg_ hnew_; (first | rw [← Ny110.out] at ho15 | (simp only [Int.reduceToNat] at ho15; rw [← Ny110.out] at ho15)); have n0_ := Aside0.mk (Kd.R_below (by (with_reducible repeat (first | apply Kd.R_alloc | apply Kd.R_drewN | apply Kd.R_drew)); exact HO109.out) hb); have n1_ := Aside0.mk (Kd.R_lower ho15 (below_size (by repeat (first | (with_reducible first | exact HB.out | apply below_alloc | apply pw_below_drewN | apply below_drew1 | refine below_set ?_ GE105.out) | exact HB.out)))); have n2_ := Aside0.mk (blk_below (g := gb105) (o := .cells #[.int .i64 a0_0, .int .i64 a0_1, .int .i64 a0_2, .string a0_3, .string a0_4, .slice A0_5 l0_5.length c0_5, .slice A0_6 l0_6.length c0_6] 25 (0, 0)) (by (with_reducible repeat (first | refine blk_drewN ?_ _ | refine blk_drew ?_ | refine blk_alloc ?_ _)); exact BK105.out) hb); have n3_ := Aside0.mk (below_step (by repeat (first | (with_reducible first | exact HB.out | apply below_alloc | apply pw_below_drewN | apply below_drew1 | refine below_set ?_ GE105.out) | exact HB.out)) hb); clear HO109; clear BK105; clear HB; have HO109 := n0_; have HO112 := n1_; have BK105 := n2_; have HB := n3_; clear n0_ n1_ n2_ n3_; clear hb ho15; obtain ⟨Ao16, co16, eo16⟩ := Kd.R_slice HO112.out; subst eo16) | ((with_reducible refine gate_callee (f := 39) rfl ?_); refine goesL_ (some 27) rfl rfl Tryd.func39 (by kernel_rfl) rfl #[.slice Ao16 y110.length co16] rfl (by (try simp only [List.map_toArray, List.map_cons, List.map_nil]); first | done | rfl | (simp only [List.length_drop, List.length_take]; rfl)) ?_; (with_reducible refine (mail_join.calls _ _ y110 t113 _ ?side1 ?side2 A5.out).mono ?_); (case side1 => repeat (first | exact (Kd.R_reads' HO112.out).2.2 | (with_reducible refine Kd.C_alloc ?_ _) | (with_reducible refine Kd.C_drewN ?_ _) | (with_reducible refine Kd.C_drew ?_))); (case side2 => exact (Kd.R_reads' HO112.out).2.1); rintro e w17 ⟨rfl, hb⟩; refine ⟨_, rfl, ?_⟩; have n0_ := Aside0.mk (Kd.R_below (by (with_reducible repeat (first | apply Kd.R_alloc | apply Kd.R_drewN | apply Kd.R_drew)); exact HO109.out) hb); have n1_ := Aside0.mk (Kd.R_below (by (with_reducible repeat (first | apply Kd.R_alloc | apply Kd.R_drewN | apply Kd.R_drew)); exact HO112.out) hb); have n2_ := Aside0.mk (blk_below (g := gb105) (o := .cells #[.int .i64 a0_0, .int .i64 a0_1, .int .i64 a0_2, .string a0_3, .string a0_4, .slice A0_5 l0_5.length c0_5, .slice A0_6 l0_6.length c0_6] 25 (0, 0)) (by (with_reducible repeat (first | refine blk_drewN ?_ _ | refine blk_drew ?_ | refine blk_alloc ?_ _)); exact BK105.out) hb); have n3_ := Aside0.mk (below_step (by repeat (first | (with_reducible first | exact HB.out | apply below_alloc | apply pw_below_drewN | apply below_drew1 | refine below_set ?_ GE105.out) | exact HB.out)) hb); clear HO109; clear HO112; clear BK105; clear HB; have HO109 := n0_; have HO112 := n1_; have BK105 := n2_; have HB := n3_; clear n0_ n1_ n2_ n3_; (try clear hb); (try clear hb2); (try clear hk); (try clear hi)))
      go_ret2
      exact ⟨by first | rfl | (simp [errW_none, errW_some] <;> rfl) | (simp [*, errW_none, errW_some] <;> rfl), by repeat (first | (with_reducible first | exact HB.out | apply below_alloc | apply pw_below_drewN | apply below_drew1 | refine below_set ?_ GE105.out) | exact HB.out)⟩
    · rw [if_neg c4] at H
      have c4b0 : (a0_0 == 1) = false := beq_eq_false_iff_ne.mpr c4
      have c4b1 : (a0_0 != 1) = true := bne_iff_ne.mpr c4
      obtain ⟨y114, hy114⟩ : ∃ y_ : List Int, y_ = (([(a0_1) % 256, (a0_2 / 16777216) % 256, (a0_2 / 65536) % 256, (a0_2 / 256) % 256, (a0_2) % 256] : List Int)) := ⟨_, rfl⟩
      replace H : ((mail_join.f (([strOfNums y107, strOfNums y114, a0_4] : List ByteArray))).bind fun t120 => (mail_Encode.l0 k t120 l0_5 (l0_5.length : Int) 0 a0_0 a0_1 a0_2 a0_3 a0_4 l0_5 l0_6)) = some (r1, r2) := by first | (rw [hy114]; with_reducible exact H) | (have H2_ := (Option.bind_some _ _).symm.trans H; rw [hy114]; with_reducible exact H2_) | (have H2_ := (Option.bind_some _ _).symm.trans H; with_reducible exact H2_) | with_reducible exact H | (rw [hy114]; exact H) | exact H
      have Ny114 := Aside0.mk hy114
      clear hy114
      obtain ⟨y117, hy117⟩ : ∃ y_ : List ByteArray, y_ = (([strOfNums y107, strOfNums y114, a0_4] : List ByteArray)) := ⟨_, rfl⟩
      replace H : ((mail_join.f y117).bind fun t120 => (mail_Encode.l0 k t120 l0_5 (l0_5.length : Int) 0 a0_0 a0_1 a0_2 a0_3 a0_4 l0_5 l0_6)) = some (r1, r2) := by first | (rw [hy117]; with_reducible exact H) | (have H2_ := (Option.bind_some _ _).symm.trans H; rw [hy117]; with_reducible exact H2_) | (have H2_ := (Option.bind_some _ _).symm.trans H; with_reducible exact H2_) | with_reducible exact H | (rw [hy117]; exact H) | exact H
      have Ny117 := Aside0.mk hy117
      clear hy117
      replace H := Option.bind_eq_some_iff.mp H
      obtain ⟨t120, A180, H⟩ := H
      replace H : (mail_Encode.l0 k t120 l0_5 (l0_5.length : Int) 0 a0_0 a0_1 a0_2 a0_3 a0_4 l0_5 l0_6) = some (r1, r2) := H
      have A18 := Aside0.mk A180
      clear A180
      have H' := Aside0.mk H
      clear H
      go_enter Tryd.func23, Tryd.ntmps23
      go_wp2_with (first | ((with_reducible refine gate_dst (N := 1) rfl ?_); refine box_event ?hg (N := 1) ?hd (cs := #[.int .i64 a0_0, .int .i64 a0_1, .int .i64 a0_2, .string a0_3, .string a0_4, .slice A0_5 l0_5.length c0_5, .slice A0_6 l0_6.length c0_6]) (t := 25) ?hr ?_; (case hd => rfl); (case hg => rfl); (case hr => first | (go_simp; done) | (go_simp; rfl)); intro gb105 hg w19 hbox hb; have n0_ := Aside0.mk (below_step (by repeat (first | (with_reducible first | exact HB.out | apply below_alloc | apply pw_below_drewN | apply below_drew1) | exact HB.out)) hb); have n1_ := Aside0.mk (hbox); have n2_ := Aside0.mk ((by rw [hg]; exact (below_size (by repeat (first | (with_reducible first | exact HB.out | apply below_alloc | apply pw_below_drewN | apply below_drew1) | exact HB.out))) : w.heap.size ≤ gb105)); have n3_ := Aside0.mk ((by rw [hg]; exact (below_size (by repeat (first | (with_reducible first | exact HB.out | apply below_alloc | apply pw_below_drewN | apply below_drew1) | exact HB.out))) : w.heap.size ≤ gb105)); clear HB; have HB := n0_; have BK105 := n1_; have GW105 := n2_; have GE105 := n3_; clear n0_ n1_ n2_ n3_; clear hb hbox hg; have hcz20_0 : w19.cell? ⟨gb105, 0, none⟩ = some (.int .i64 a0_0) := (blk_cell BK105.out 0).trans rfl; have hcz20_1 : w19.cell? ⟨gb105, 1, none⟩ = some (.int .i64 a0_1) := (blk_cell BK105.out 1).trans rfl; have hcz20_2 : w19.cell? ⟨gb105, 2, none⟩ = some (.int .i64 a0_2) := (blk_cell BK105.out 2).trans rfl; have hcz20_3 : w19.cell? ⟨gb105, 3, none⟩ = some (.string a0_3) := (blk_cell BK105.out 3).trans rfl; have hcz20_4 : w19.cell? ⟨gb105, 4, none⟩ = some (.string a0_4) := (blk_cell BK105.out 4).trans rfl; have hcz20_5 : w19.cell? ⟨gb105, 5, none⟩ = some (.slice A0_5 l0_5.length c0_5) := (blk_cell BK105.out 5).trans rfl; have hcz20_6 : w19.cell? ⟨gb105, 6, none⟩ = some (.slice A0_6 l0_6.length c0_6) := (blk_cell BK105.out 6).trans rfl; have hfz20_0 := blk_frozen BK105.out 0; have hfz20_1 := blk_frozen BK105.out 1; have hfz20_2 := blk_frozen BK105.out 2; have hfz20_3 := blk_frozen BK105.out 3; have hfz20_4 := blk_frozen BK105.out 4; have hfz20_5 := blk_frozen BK105.out 5; have hfz20_6 := blk_frozen BK105.out 6) | ((with_reducible refine gate_callee (f := 38) rfl ?_); refine goesL_ (some 11) rfl rfl Tryd.func38 (by kernel_rfl) rfl #[.agg #[.int .i64 a0_0, .int .i64 a0_1, .int .i64 a0_2, .string a0_3, .string a0_4, .slice A0_5 l0_5.length c0_5, .slice A0_6 l0_6.length c0_6]] rfl (by (try simp only [List.map_toArray, List.map_cons, List.map_nil]); first | done | rfl | (simp only [List.length_drop, List.length_take]; rfl)) ?_; (with_reducible refine (mail_Check.calls k a0_0 a0_1 a0_2 a0_3 a0_4 _ _ l0_5 _ _ l0_6 t106 _ ?side1 ?side2 ?side3 ?side4 A2.out).mono ?_); (case side1 => repeat (first | exact (Kd.C_below HR0_5.out HB.out) | (with_reducible refine Kd.C_alloc ?_ _) | (with_reducible refine Kd.C_drewN ?_ _) | (with_reducible refine Kd.C_drew ?_))); (case side2 => exact HC0_5.out); (case side3 => repeat (first | exact (Kd.C_below HR0_6.out HB.out) | (with_reducible refine Kd.C_alloc ?_ _) | (with_reducible refine Kd.C_drewN ?_ _) | (with_reducible refine Kd.C_drew ?_))); (case side4 => exact HC0_6.out); rintro e w21 ⟨rfl, hb⟩; refine ⟨_, rfl, ?_⟩; have n0_ := Aside0.mk (blk_below (g := gb105) (o := .cells #[.int .i64 a0_0, .int .i64 a0_1, .int .i64 a0_2, .string a0_3, .string a0_4, .slice A0_5 l0_5.length c0_5, .slice A0_6 l0_6.length c0_6] 25 (0, 0)) (by (with_reducible repeat (first | refine blk_drewN ?_ _ | refine blk_drew ?_ | refine blk_alloc ?_ _)); exact BK105.out) hb); have n1_ := Aside0.mk (below_step (by repeat (first | (with_reducible first | exact HB.out | apply below_alloc | apply pw_below_drewN | apply below_drew1 | refine below_set ?_ GE105.out) | exact HB.out)) hb); clear BK105; clear HB; have BK105 := n0_; have HB := n1_; clear n0_ n1_; (try clear hb); (try clear hb2); (try clear hk); (try clear hi); have hcz22_0 : w21.cell? ⟨gb105, 0, none⟩ = some (.int .i64 a0_0) := (blk_cell BK105.out 0).trans rfl; have hcz22_1 : w21.cell? ⟨gb105, 1, none⟩ = some (.int .i64 a0_1) := (blk_cell BK105.out 1).trans rfl; have hcz22_2 : w21.cell? ⟨gb105, 2, none⟩ = some (.int .i64 a0_2) := (blk_cell BK105.out 2).trans rfl; have hcz22_3 : w21.cell? ⟨gb105, 3, none⟩ = some (.string a0_3) := (blk_cell BK105.out 3).trans rfl; have hcz22_4 : w21.cell? ⟨gb105, 4, none⟩ = some (.string a0_4) := (blk_cell BK105.out 4).trans rfl; have hcz22_5 : w21.cell? ⟨gb105, 5, none⟩ = some (.slice A0_5 l0_5.length c0_5) := (blk_cell BK105.out 5).trans rfl; have hcz22_6 : w21.cell? ⟨gb105, 6, none⟩ = some (.slice A0_6 l0_6.length c0_6) := (blk_cell BK105.out 6).trans rfl; have hfz22_0 := blk_frozen BK105.out 0; have hfz22_1 := blk_frozen BK105.out 1; have hfz22_2 := blk_frozen BK105.out 2; have hfz22_3 := blk_frozen BK105.out 3; have hfz22_4 := blk_frozen BK105.out 4; have hfz22_5 := blk_frozen BK105.out 5; have hfz22_6 := blk_frozen BK105.out 6) | ((with_reducible refine gate_dst (N := 18) rfl ?_); refine Kd.R_lit (Kd.int .u8) _ 5 ?hg (N := 18) ?hd (xs := ([(a0_0) % 256] : List Int)) (inner := [.int .u8 ((a0_0) % 256)]) (ok := fun _ => True) (okp := fun _ => True) ?hr ?hp (fun _ hk => hk) trivial (Below.refl _ _) (Nat.le_refl _) (by simp) ?_; (case hd => rfl); (case hg => rfl); (case hr => first | (go_simp; done) | (go_simp; rfl)); (case hp => exact (Reps.one (show Kd.M (Kd.int .u8) _ _ _ ((a0_0) % 256) [.int .u8 ((a0_0) % 256)] from rfl) (Reps.none _ _))); intro v108 w23 ho24 hb hg_ hnew_; clear hg_ hnew_; (first | rw [← Ny107.out] at ho24 | (simp only [Int.reduceToNat] at ho24; rw [← Ny107.out] at ho24)); have n0_ := Aside0.mk (Kd.R_lower ho24 (below_size (by repeat (first | (with_reducible first | exact HB.out | apply below_alloc | apply pw_below_drewN | apply below_drew1 | refine below_set ?_ GE105.out) | exact HB.out)))); have n1_ := Aside0.mk (blk_below (g := gb105) (o := .cells #[.int .i64 a0_0, .int .i64 a0_1, .int .i64 a0_2, .string a0_3, .string a0_4, .slice A0_5 l0_5.length c0_5, .slice A0_6 l0_6.length c0_6] 25 (0, 0)) (by (with_reducible repeat (first | refine blk_drewN ?_ _ | refine blk_drew ?_ | refine blk_alloc ?_ _)); exact BK105.out) hb); have n2_ := Aside0.mk (below_step (by repeat (first | (with_reducible first | exact HB.out | apply below_alloc | apply pw_below_drewN | apply below_drew1 | refine below_set ?_ GE105.out) | exact HB.out)) hb); clear BK105; clear HB; have HO109 := n0_; have BK105 := n1_; have HB := n2_; clear n0_ n1_ n2_; clear hb ho24; have hcv25 := own_string (P := Tryd.prog) Tryd.underlying61 Tryd.underlying5 Tryd.underlying9 (Kd.own_of_R HO109.out); have hcz26_0 : w23.cell? ⟨gb105, 0, none⟩ = some (.int .i64 a0_0) := (blk_cell BK105.out 0).trans rfl; have hcz26_1 : w23.cell? ⟨gb105, 1, none⟩ = some (.int .i64 a0_1) := (blk_cell BK105.out 1).trans rfl; have hcz26_2 : w23.cell? ⟨gb105, 2, none⟩ = some (.int .i64 a0_2) := (blk_cell BK105.out 2).trans rfl; have hcz26_3 : w23.cell? ⟨gb105, 3, none⟩ = some (.string a0_3) := (blk_cell BK105.out 3).trans rfl; have hcz26_4 : w23.cell? ⟨gb105, 4, none⟩ = some (.string a0_4) := (blk_cell BK105.out 4).trans rfl; have hcz26_5 : w23.cell? ⟨gb105, 5, none⟩ = some (.slice A0_5 l0_5.length c0_5) := (blk_cell BK105.out 5).trans rfl; have hcz26_6 : w23.cell? ⟨gb105, 6, none⟩ = some (.slice A0_6 l0_6.length c0_6) := (blk_cell BK105.out 6).trans rfl; have hfz26_0 := blk_frozen BK105.out 0; have hfz26_1 := blk_frozen BK105.out 1; have hfz26_2 := blk_frozen BK105.out 2; have hfz26_3 := blk_frozen BK105.out 3; have hfz26_4 := blk_frozen BK105.out 4; have hfz26_5 := blk_frozen BK105.out 5; have hfz26_6 := blk_frozen BK105.out 6) | ((with_reducible refine gate_dst (N := 46) rfl ?_); refine Kd.R_lit (Kd.int .u8) _ 5 ?hg (N := 46) ?hd (xs := ([(a0_1) % 256, (a0_2 / 16777216) % 256, (a0_2 / 65536) % 256, (a0_2 / 256) % 256, (a0_2) % 256] : List Int)) (inner := [.int .u8 ((a0_1) % 256), .int .u8 ((a0_2 / 16777216) % 256), .int .u8 ((a0_2 / 65536) % 256), .int .u8 ((a0_2 / 256) % 256), .int .u8 ((a0_2) % 256)]) (ok := fun _ => True) (okp := fun _ => True) ?hr ?hp (fun _ hk => hk) trivial (Below.refl _ _) (Nat.le_refl _) (by simp) ?_; (case hd => rfl); (case hg => rfl); (case hr => first | (go_simp; done) | (go_simp; rfl)); (case hp => exact (Reps.one (show Kd.M (Kd.int .u8) _ _ _ ((a0_1) % 256) [.int .u8 ((a0_1) % 256)] from rfl) (Reps.one (show Kd.M (Kd.int .u8) _ _ _ ((a0_2 / 16777216) % 256) [.int .u8 ((a0_2 / 16777216) % 256)] from rfl) (Reps.one (show Kd.M (Kd.int .u8) _ _ _ ((a0_2 / 65536) % 256) [.int .u8 ((a0_2 / 65536) % 256)] from rfl) (Reps.one (show Kd.M (Kd.int .u8) _ _ _ ((a0_2 / 256) % 256) [.int .u8 ((a0_2 / 256) % 256)] from rfl) (Reps.one (show Kd.M (Kd.int .u8) _ _ _ ((a0_2) % 256) [.int .u8 ((a0_2) % 256)] from rfl) (Reps.none _ _))))))); intro v115 w27 ho28 hb hg_ hnew_; clear hg_ hnew_; (first | rw [← Ny114.out] at ho28 | (simp only [Int.reduceToNat] at ho28; rw [← Ny114.out] at ho28)); have n0_ := Aside0.mk (Kd.R_elder' (by (with_reducible repeat (first | apply Kd.R_alloc | apply Kd.R_drewN | apply Kd.R_drew)); exact HO109.out) (Kd.R_base ho28) hb); have n1_ := Aside0.mk (Kd.R_lower (Kd.R_new' ho28 (Kd.R_lt (by (with_reducible repeat (first | apply Kd.R_alloc | apply Kd.R_drewN | apply Kd.R_drew)); exact HO109.out))) (below_size (by repeat (first | (with_reducible first | exact HB.out | apply below_alloc | apply pw_below_drewN | apply below_drew1 | refine below_set ?_ GE105.out) | exact HB.out)))); have n2_ := Aside0.mk (blk_below (g := gb105) (o := .cells #[.int .i64 a0_0, .int .i64 a0_1, .int .i64 a0_2, .string a0_3, .string a0_4, .slice A0_5 l0_5.length c0_5, .slice A0_6 l0_6.length c0_6] 25 (0, 0)) (by (with_reducible repeat (first | refine blk_drewN ?_ _ | refine blk_drew ?_ | refine blk_alloc ?_ _)); exact BK105.out) hb); have n3_ := Aside0.mk (below_step (by repeat (first | (with_reducible first | exact HB.out | apply below_alloc | apply pw_below_drewN | apply below_drew1 | refine below_set ?_ GE105.out) | exact HB.out)) hb); clear HO109; clear BK105; clear HB; have HO109 := n0_; have HO116 := n1_; have BK105 := n2_; have HB := n3_; clear n0_ n1_ n2_ n3_; clear hb ho28; have hcv29 := own_string (P := Tryd.prog) Tryd.underlying61 Tryd.underlying5 Tryd.underlying9 (Kd.own_of_R HO116.out); have hcz30_0 : w27.cell? ⟨gb105, 0, none⟩ = some (.int .i64 a0_0) := (blk_cell BK105.out 0).trans rfl; have hcz30_1 : w27.cell? ⟨gb105, 1, none⟩ = some (.int .i64 a0_1) := (blk_cell BK105.out 1).trans rfl; have hcz30_2 : w27.cell? ⟨gb105, 2, none⟩ = some (.int .i64 a0_2) := (blk_cell BK105.out 2).trans rfl; have hcz30_3 : w27.cell? ⟨gb105, 3, none⟩ = some (.string a0_3) := (blk_cell BK105.out 3).trans rfl; have hcz30_4 : w27.cell? ⟨gb105, 4, none⟩ = some (.string a0_4) := (blk_cell BK105.out 4).trans rfl; have hcz30_5 : w27.cell? ⟨gb105, 5, none⟩ = some (.slice A0_5 l0_5.length c0_5) := (blk_cell BK105.out 5).trans rfl; have hcz30_6 : w27.cell? ⟨gb105, 6, none⟩ = some (.slice A0_6 l0_6.length c0_6) := (blk_cell BK105.out 6).trans rfl; have hfz30_0 := blk_frozen BK105.out 0; have hfz30_1 := blk_frozen BK105.out 1; have hfz30_2 := blk_frozen BK105.out 2; have hfz30_3 := blk_frozen BK105.out 3; have hfz30_4 := blk_frozen BK105.out 4; have hfz30_5 := blk_frozen BK105.out 5; have hfz30_6 := blk_frozen BK105.out 6) | ((with_reducible refine gate_dst (N := 52) rfl ?_); refine Kd.R_lit Kd.string _ 9 ?hg (N := 52) ?hd (xs := ([strOfNums y107, strOfNums y114, a0_4] : List ByteArray)) (inner := [.string (strOfNums y107), .string (strOfNums y114), .string a0_4]) (ok := fun _ => True) (okp := fun _ => True) ?hr ?hp (fun _ hk => hk) trivial (Below.refl _ _) (Nat.le_refl _) (by simp) ?_; (case hd => rfl); (case hg => rfl); (case hr => first | (go_simp; done) | (go_simp; rfl)); (case hp => exact (Reps.one (show Kd.M Kd.string _ _ _ (strOfNums y107) [.string (strOfNums y107)] from rfl) (Reps.one (show Kd.M Kd.string _ _ _ (strOfNums y114) [.string (strOfNums y114)] from rfl) (Reps.one (show Kd.M Kd.string _ _ _ a0_4 [.string a0_4] from rfl) (Reps.none _ _))))); intro v118 w31 ho32 hb hg_ hnew_; clear hg_ hnew_; (first | rw [← Ny117.out] at ho32 | (simp only [Int.reduceToNat] at ho32; rw [← Ny117.out] at ho32)); have n0_ := Aside0.mk (Kd.R_below (by (with_reducible repeat (first | apply Kd.R_alloc | apply Kd.R_drewN | apply Kd.R_drew)); exact HO109.out) hb); have n1_ := Aside0.mk (Kd.R_below (by (with_reducible repeat (first | apply Kd.R_alloc | apply Kd.R_drewN | apply Kd.R_drew)); exact HO116.out) hb); have n2_ := Aside0.mk (Kd.R_lower ho32 (below_size (by repeat (first | (with_reducible first | exact HB.out | apply below_alloc | apply pw_below_drewN | apply below_drew1 | refine below_set ?_ GE105.out) | exact HB.out)))); have n3_ := Aside0.mk (blk_below (g := gb105) (o := .cells #[.int .i64 a0_0, .int .i64 a0_1, .int .i64 a0_2, .string a0_3, .string a0_4, .slice A0_5 l0_5.length c0_5, .slice A0_6 l0_6.length c0_6] 25 (0, 0)) (by (with_reducible repeat (first | refine blk_drewN ?_ _ | refine blk_drew ?_ | refine blk_alloc ?_ _)); exact BK105.out) hb); have n4_ := Aside0.mk (below_step (by repeat (first | (with_reducible first | exact HB.out | apply below_alloc | apply pw_below_drewN | apply below_drew1 | refine below_set ?_ GE105.out) | exact HB.out)) hb); clear HO109; clear HO116; clear BK105; clear HB; have HO109 := n0_; have HO116 := n1_; have HO119 := n2_; have BK105 := n3_; have HB := n4_; clear n0_ n1_ n2_ n3_ n4_; clear hb ho32; obtain ⟨Ao33, co33, eo33⟩ := Kd.R_slice HO119.out; subst eo33) | ((with_reducible refine gate_callee (f := 39) rfl ?_); refine goesL_ (some 53) rfl rfl Tryd.func39 (by kernel_rfl) rfl #[.slice Ao33 y117.length co33] rfl (by (try simp only [List.map_toArray, List.map_cons, List.map_nil]); first | done | rfl | (simp only [List.length_drop, List.length_take]; rfl)) ?_; (with_reducible refine (mail_join.calls _ _ y117 t120 _ ?side1 ?side2 A18.out).mono ?_); (case side1 => repeat (first | exact (Kd.R_reads' HO119.out).2.2 | (with_reducible refine Kd.C_alloc ?_ _) | (with_reducible refine Kd.C_drewN ?_ _) | (with_reducible refine Kd.C_drew ?_))); (case side2 => exact (Kd.R_reads' HO119.out).2.1); rintro e w34 ⟨rfl, hb⟩; refine ⟨_, rfl, ?_⟩; have n0_ := Aside0.mk (Kd.R_below (by (with_reducible repeat (first | apply Kd.R_alloc | apply Kd.R_drewN | apply Kd.R_drew)); exact HO109.out) hb); have n1_ := Aside0.mk (Kd.R_below (by (with_reducible repeat (first | apply Kd.R_alloc | apply Kd.R_drewN | apply Kd.R_drew)); exact HO116.out) hb); have n2_ := Aside0.mk (Kd.R_below (by (with_reducible repeat (first | apply Kd.R_alloc | apply Kd.R_drewN | apply Kd.R_drew)); exact HO119.out) hb); have n3_ := Aside0.mk (blk_below (g := gb105) (o := .cells #[.int .i64 a0_0, .int .i64 a0_1, .int .i64 a0_2, .string a0_3, .string a0_4, .slice A0_5 l0_5.length c0_5, .slice A0_6 l0_6.length c0_6] 25 (0, 0)) (by (with_reducible repeat (first | refine blk_drewN ?_ _ | refine blk_drew ?_ | refine blk_alloc ?_ _)); exact BK105.out) hb); have n4_ := Aside0.mk (below_step (by repeat (first | (with_reducible first | exact HB.out | apply below_alloc | apply pw_below_drewN | apply below_drew1 | refine below_set ?_ GE105.out) | exact HB.out)) hb); clear HO109; clear HO116; clear HO119; clear BK105; clear HB; have HO109 := n0_; have HO116 := n1_; have HO119 := n2_; have BK105 := n3_; have HB := n4_; clear n0_ n1_ n2_ n3_ n4_; (try clear hb); (try clear hb2); (try clear hk); (try clear hi); have hcz35_0 : w34.cell? ⟨gb105, 0, none⟩ = some (.int .i64 a0_0) := (blk_cell BK105.out 0).trans rfl; have hcz35_1 : w34.cell? ⟨gb105, 1, none⟩ = some (.int .i64 a0_1) := (blk_cell BK105.out 1).trans rfl; have hcz35_2 : w34.cell? ⟨gb105, 2, none⟩ = some (.int .i64 a0_2) := (blk_cell BK105.out 2).trans rfl; have hcz35_3 : w34.cell? ⟨gb105, 3, none⟩ = some (.string a0_3) := (blk_cell BK105.out 3).trans rfl; have hcz35_4 : w34.cell? ⟨gb105, 4, none⟩ = some (.string a0_4) := (blk_cell BK105.out 4).trans rfl; have hcz35_5 : w34.cell? ⟨gb105, 5, none⟩ = some (.slice A0_5 l0_5.length c0_5) := (blk_cell BK105.out 5).trans rfl; have hcz35_6 : w34.cell? ⟨gb105, 6, none⟩ = some (.slice A0_6 l0_6.length c0_6) := (blk_cell BK105.out 6).trans rfl; have hfz35_0 := blk_frozen BK105.out 0; have hfz35_1 := blk_frozen BK105.out 1; have hfz35_2 := blk_frozen BK105.out 2; have hfz35_3 := blk_frozen BK105.out 3; have hfz35_4 := blk_frozen BK105.out 4; have hfz35_5 := blk_frozen BK105.out 5; have hfz35_6 := blk_frozen BK105.out 6))
      go_loopg [7, 57] k (fun kq v7 v57 w' => ∃ (x7_1 : ByteArray) (x57_1 : Int), v7 = .string x7_1 ∧ v57 = .int .i64 x57_1 ∧ Aside0 (mail_Encode.l0 kq x7_1 l0_5 (l0_5.length : Int) x57_1 a0_0 a0_1 a0_2 a0_3 a0_4 l0_5 l0_6 = some (r1, r2)) ∧ Aside0 (kq ≤ k) ∧ Aside0 (w'.heap[gb105]? = some (.cells #[.int .i64 a0_0, .int .i64 a0_1, .int .i64 a0_2, .string a0_3, .string a0_4, (.slice A0_5 l0_5.length c0_5), (.slice A0_6 l0_6.length c0_6)] 25 (0, 0))) ∧ Aside0 (Below w.heap.size w w'))
      case atStart => exact ⟨(t120), (0), (by first | rfl | (simp; done) | (simp [*]; done)), (by first | rfl | (simp; done) | (simp [*]; done)), H', ⟨Nat.le_refl _⟩, ⟨by (with_reducible repeat (first | refine blk_drewN ?_ _ | refine blk_drew ?_ | refine blk_alloc ?_ _)); exact BK105.out⟩, ⟨by repeat (first | (with_reducible first | exact HB.out | apply below_alloc | apply pw_below_drewN | apply below_drew1 | refine below_set ?_ GE105.out) | exact HB.out)⟩⟩
      case round =>
        clear H'
        try clear hcv1
        try clear c2
        try clear p2
        try clear hcv2
        try clear c3
        try clear c3b0
        try clear c3b1
        try clear c4
        try clear c4b0
        try clear c4b1
        try clear hcv12
        try clear c23
        try clear hcv25
        try clear hcv29
        try clear hcz13_0
        try clear hcz13_1
        try clear hcz13_2
        try clear hcz13_3
        try clear hcz13_4
        try clear hcz13_5
        try clear hcz13_6
        try clear hcz20_0
        try clear hcz20_1
        try clear hcz20_2
        try clear hcz20_3
        try clear hcz20_4
        try clear hcz20_5
        try clear hcz20_6
        try clear hcz22_0
        try clear hcz22_1
        try clear hcz22_2
        try clear hcz22_3
        try clear hcz22_4
        try clear hcz22_5
        try clear hcz22_6
        try clear hcz26_0
        try clear hcz26_1
        try clear hcz26_2
        try clear hcz26_3
        try clear hcz26_4
        try clear hcz26_5
        try clear hcz26_6
        try clear hcz30_0
        try clear hcz30_1
        try clear hcz30_2
        try clear hcz30_3
        try clear hcz30_4
        try clear hcz30_5
        try clear hcz30_6
        try clear hcz35_0
        try clear hcz35_1
        try clear hcz35_2
        try clear hcz35_3
        try clear hcz35_4
        try clear hcz35_5
        try clear hcz35_6
        try clear hcz7_0
        try clear hcz7_1
        try clear hcz7_2
        try clear hcz7_3
        try clear hcz7_4
        try clear hcz7_5
        try clear hcz7_6
        try clear hcz9_0
        try clear hcz9_1
        try clear hcz9_2
        try clear hcz9_3
        try clear hcz9_4
        try clear hcz9_5
        try clear hcz9_6
        try clear hfz13_0
        try clear hfz13_1
        try clear hfz13_2
        try clear hfz13_3
        try clear hfz13_4
        try clear hfz13_5
        try clear hfz13_6
        try clear hfz20_0
        try clear hfz20_1
        try clear hfz20_2
        try clear hfz20_3
        try clear hfz20_4
        try clear hfz20_5
        try clear hfz20_6
        try clear hfz22_0
        try clear hfz22_1
        try clear hfz22_2
        try clear hfz22_3
        try clear hfz22_4
        try clear hfz22_5
        try clear hfz22_6
        try clear hfz26_0
        try clear hfz26_1
        try clear hfz26_2
        try clear hfz26_3
        try clear hfz26_4
        try clear hfz26_5
        try clear hfz26_6
        try clear hfz30_0
        try clear hfz30_1
        try clear hfz30_2
        try clear hfz30_3
        try clear hfz30_4
        try clear hfz30_5
        try clear hfz30_6
        try clear hfz35_0
        try clear hfz35_1
        try clear hfz35_2
        try clear hfz35_3
        try clear hfz35_4
        try clear hfz35_5
        try clear hfz35_6
        try clear hfz7_0
        try clear hfz7_1
        try clear hfz7_2
        try clear hfz7_3
        try clear hfz7_4
        try clear hfz7_5
        try clear hfz7_6
        try clear hfz9_0
        try clear hfz9_1
        try clear hfz9_2
        try clear hfz9_3
        try clear hfz9_4
        try clear hfz9_5
        try clear hfz9_6
        obtain ⟨x7_1, x57_1, rfl, rfl, HA, HK1, BK105, HB⟩ := hrel
        cases gk with
        | zero => exact absurd HA.out (by simp [mail_Encode.l0])
        | succ k1 =>
          have H := HA.out
          clear HA
          simp only [mail_Encode.l0] at H
          by_cases c36 : x57_1 < (l0_5.length : Int)
          · rw [if_pos c36] at H
            have c36b0 : decide (x57_1 < (l0_5.length : Int)) = true := decide_eq_true c36
            clear c36
            by_cases c37 : 0 ≤ x57_1
            · rw [if_pos c37] at H
              have c37b0 : decide (0 ≤ x57_1) = true := decide_eq_true c37
              clear c37
              by_cases c38 : x57_1 < (l0_5.length : Int)
              · rw [if_pos c38] at H
                have c38b0 : decide (x57_1 < (l0_5.length : Int)) = true := decide_eq_true c38
                clear c38
                replace H := Option.bind_eq_some_iff.mp H
                obtain ⟨t123, A390, H⟩ := H
                replace H : ((mail_pad.f ((rd_T68 l0_5 x57_1).f1) 222).bind fun t127 => ((mail_join.f (([x7_1, t123, strOfNums (([((((rd_T68 l0_5 x57_1).f1).size : Int)) % 256] : List Int)), t127] : List ByteArray))).bind fun t131 => (mail_Encode.l0 k1 t131 l0_5 (l0_5.length : Int) (wrap64 (x57_1 + 1)) a0_0 a0_1 a0_2 a0_3 a0_4 l0_5 l0_6))) = some (r1, r2) := H
                have A39 := Aside0.mk A390
                clear A390
                obtain ⟨y124, hy124⟩ : ∃ y_ : List Int, y_ = (([((((rd_T68 l0_5 x57_1).f1).size : Int)) % 256] : List Int)) := ⟨_, rfl⟩
                replace H : ((mail_pad.f ((rd_T68 l0_5 x57_1).f1) 222).bind fun t127 => ((mail_join.f (([x7_1, t123, strOfNums y124, t127] : List ByteArray))).bind fun t131 => (mail_Encode.l0 k1 t131 l0_5 (l0_5.length : Int) (wrap64 (x57_1 + 1)) a0_0 a0_1 a0_2 a0_3 a0_4 l0_5 l0_6))) = some (r1, r2) := by first | (rw [hy124]; with_reducible exact H) | (have H2_ := (Option.bind_some _ _).symm.trans H; rw [hy124]; with_reducible exact H2_) | (have H2_ := (Option.bind_some _ _).symm.trans H; with_reducible exact H2_) | with_reducible exact H | (rw [hy124]; exact H) | exact H
                have Ny124 := Aside0.mk hy124
                clear hy124
                replace H := Option.bind_eq_some_iff.mp H
                obtain ⟨t127, A400, H⟩ := H
                replace H : ((mail_join.f (([x7_1, t123, strOfNums y124, t127] : List ByteArray))).bind fun t131 => (mail_Encode.l0 k1 t131 l0_5 (l0_5.length : Int) (wrap64 (x57_1 + 1)) a0_0 a0_1 a0_2 a0_3 a0_4 l0_5 l0_6)) = some (r1, r2) := H
                have A40 := Aside0.mk A400
                clear A400
                obtain ⟨y128, hy128⟩ : ∃ y_ : List ByteArray, y_ = (([x7_1, t123, strOfNums y124, t127] : List ByteArray)) := ⟨_, rfl⟩
                replace H : ((mail_join.f y128).bind fun t131 => (mail_Encode.l0 k1 t131 l0_5 (l0_5.length : Int) (wrap64 (x57_1 + 1)) a0_0 a0_1 a0_2 a0_3 a0_4 l0_5 l0_6)) = some (r1, r2) := by first | (rw [hy128]; with_reducible exact H) | (have H2_ := (Option.bind_some _ _).symm.trans H; rw [hy128]; with_reducible exact H2_) | (have H2_ := (Option.bind_some _ _).symm.trans H; with_reducible exact H2_) | with_reducible exact H | (rw [hy128]; exact H) | exact H
                have Ny128 := Aside0.mk hy128
                clear hy128
                replace H := Option.bind_eq_some_iff.mp H
                obtain ⟨t131, A410, H⟩ := H
                replace H : (mail_Encode.l0 k1 t131 l0_5 (l0_5.length : Int) (wrap64 (x57_1 + 1)) a0_0 a0_1 a0_2 a0_3 a0_4 l0_5 l0_6) = some (r1, r2) := H
                have A41 := Aside0.mk A410
                clear A410
                have H' := Aside0.mk H
                clear H
                have p121 : 0 ≤ (x57_1 : Int) := of_decide_eq_true (by first | (with_reducible assumption) | assumption)
                have q121 : x57_1 < (l0_5.length : Int) := of_decide_eq_true (by first | (with_reducible assumption) | assumption)
                obtain ⟨ad121, e121, hx121_0, hx121_1⟩ := at_T68 HR0_5.out x57_1 p121 q121
                cases e121
                replace hx121_0 := (HB.out.cell (World.block_lt_of_cell? w _ hx121_0)).trans hx121_0
                replace hx121_1 := (HB.out.cell (World.block_lt_of_cell? w _ hx121_1)).trans hx121_1
                replace p121 := eq_true p121
                replace q121 := eq_true q121
                try go_wp2_with (first | ((with_reducible refine gate_dst (N := 9) rfl ?_); refine box_event ?hg (N := 9) ?hd (cs := #[.string (⟨#[]⟩ : ByteArray), .string (⟨#[]⟩ : ByteArray)]) (t := 68) ?hr ?_; (case hd => rfl); (case hg => rfl); (case hr => first | (go_simp; done) | (go_simp; rfl)); intro gb122 hg w42 hbox hb; have n0_ := Aside0.mk (blk_below (g := gb105) (o := .cells #[.int .i64 a0_0, .int .i64 a0_1, .int .i64 a0_2, .string a0_3, .string a0_4, .slice (some ad121) l0_5.length c0_5, .slice A0_6 l0_6.length c0_6] 25 (0, 0)) (by (with_reducible repeat (first | refine blk_drewN ?_ _ | refine blk_drew ?_ | refine blk_alloc ?_ _)); exact BK105.out) hb); have n1_ := Aside0.mk (below_step (by repeat (first | (with_reducible first | exact HB.out | apply below_alloc | apply pw_below_drewN | apply below_drew1 | refine below_set ?_ GE105.out) | exact HB.out)) hb); have n2_ := Aside0.mk (hbox); have n3_ := Aside0.mk ((by rw [hg]; exact (below_size (by repeat (first | (with_reducible first | exact HB.out | apply below_alloc | apply pw_below_drewN | apply below_drew1 | refine below_set ?_ GE105.out) | exact HB.out))) : w.heap.size ≤ gb122)); have n4_ := Aside0.mk ((by rw [hg]; exact (below_size (by repeat (first | (with_reducible first | exact HB.out | apply below_alloc | apply pw_below_drewN | apply below_drew1 | refine below_set ?_ GE105.out) | exact HB.out))) : w.heap.size ≤ gb122)); have n5_ := Aside0.mk ((by rw [hg]; exact Nat.ne_of_lt (blk_lt (g := gb105) (o := .cells #[.int .i64 a0_0, .int .i64 a0_1, .int .i64 a0_2, .string a0_3, .string a0_4, .slice (some ad121) l0_5.length c0_5, .slice A0_6 l0_6.length c0_6] 25 (0, 0)) (by (with_reducible repeat (first | refine blk_drewN ?_ _ | refine blk_drew ?_ | refine blk_alloc ?_ _)); exact BK105.out)) : gb105 ≠ gb122)); have n6_ := Aside0.mk ((by rw [hg]; exact Nat.ne_of_gt (blk_lt (g := gb105) (o := .cells #[.int .i64 a0_0, .int .i64 a0_1, .int .i64 a0_2, .string a0_3, .string a0_4, .slice (some ad121) l0_5.length c0_5, .slice A0_6 l0_6.length c0_6] 25 (0, 0)) (by (with_reducible repeat (first | refine blk_drewN ?_ _ | refine blk_drew ?_ | refine blk_alloc ?_ _)); exact BK105.out)) : gb122 ≠ gb105)); clear BK105; clear HB; have BK105 := n0_; have HB := n1_; have BK122 := n2_; have GW122 := n3_; have GE122 := n4_; have NB105_122 := n5_; have NB122_105 := n6_; clear n0_ n1_ n2_ n3_ n4_ n5_ n6_; clear hb hbox hg; have hnb43 := NB122_105.out; have hnc43 := NB105_122.out; have hcz44_0 : w42.cell? ⟨gb122, 0, none⟩ = some (.string (⟨#[]⟩ : ByteArray)) := (blk_cell BK122.out 0).trans rfl; have hcz44_1 : w42.cell? ⟨gb122, 1, none⟩ = some (.string (⟨#[]⟩ : ByteArray)) := (blk_cell BK122.out 1).trans rfl; have hfz44_0 := blk_frozen BK122.out 0; have hfz44_1 := blk_frozen BK122.out 1))
                have n0_ : Aside0 (((w42.setCell ⟨gb122, 0, none⟩ (.string ((rd_T68 l0_5 x57_1).f0))).setCell ⟨gb122, 1, none⟩ (.string ((rd_T68 l0_5 x57_1).f1))).heap[gb105]? = some (.cells #[.int .i64 a0_0, .int .i64 a0_1, .int .i64 a0_2, .string a0_3, .string a0_4, .slice (some ad121) l0_5.length c0_5, .slice A0_6 l0_6.length c0_6] 25 (0, 0))) := ⟨by (with_reducible repeat (first | refine blk_drewN ?_ _ | refine blk_drew ?_ | refine blk_alloc ?_ _)); refine blk_far ?_ NB105_122.out _; (with_reducible repeat (first | refine blk_drewN ?_ _ | refine blk_drew ?_ | refine blk_alloc ?_ _)); refine blk_far ?_ NB105_122.out _; (with_reducible repeat (first | refine blk_drewN ?_ _ | refine blk_drew ?_ | refine blk_alloc ?_ _)); exact BK105.out⟩
                have n1_ : Aside0 (((w42.setCell ⟨gb122, 0, none⟩ (.string ((rd_T68 l0_5 x57_1).f0))).setCell ⟨gb122, 1, none⟩ (.string ((rd_T68 l0_5 x57_1).f1))).heap[gb122]? = some (.cells #[.string ((rd_T68 l0_5 x57_1).f0), .string ((rd_T68 l0_5 x57_1).f1)] 68 (0, 0))) := ⟨by (with_reducible repeat (first | refine blk_drewN ?_ _ | refine blk_drew ?_ | refine blk_alloc ?_ _)); refine blk_put (cs := #[.string ((rd_T68 l0_5 x57_1).f0), .string (⟨#[]⟩ : ByteArray)]) ?_ 1 _ rfl; (with_reducible repeat (first | refine blk_drewN ?_ _ | refine blk_drew ?_ | refine blk_alloc ?_ _)); refine blk_put (cs := #[.string (⟨#[]⟩ : ByteArray), .string (⟨#[]⟩ : ByteArray)]) ?_ 0 _ rfl; (with_reducible repeat (first | refine blk_drewN ?_ _ | refine blk_drew ?_ | refine blk_alloc ?_ _)); exact BK122.out⟩
                have n2_ : Aside0 (Below w.heap.size w ((w42.setCell ⟨gb122, 0, none⟩ (.string ((rd_T68 l0_5 x57_1).f0))).setCell ⟨gb122, 1, none⟩ (.string ((rd_T68 l0_5 x57_1).f1)))) := ⟨by repeat (first | (with_reducible first | exact HB.out | apply below_alloc | apply pw_below_drewN | apply below_drew1 | refine below_set ?_ GE105.out | refine below_set ?_ GE122.out) | exact HB.out)⟩
                (try clear BK105)
                (try clear BK122)
                (try clear HB)
                generalize ((w42.setCell ⟨gb122, 0, none⟩ (.string ((rd_T68 l0_5 x57_1).f0))).setCell ⟨gb122, 1, none⟩ (.string ((rd_T68 l0_5 x57_1).f1))) = w45 at n0_ n1_ n2_ ⊢
                have BK105 := n0_
                have BK122 := n1_
                have HB := n2_
                clear n0_ n1_ n2_
                have n0_ := Aside0.mk (blk_drew BK105.out)
                have n1_ := Aside0.mk (blk_drew BK122.out)
                have n2_ := Aside0.mk (below_drew1 HB.out)
                clear BK105
                clear BK122
                clear HB
                have BK105 := n0_
                have BK122 := n1_
                have HB := n2_
                clear n0_ n1_ n2_
                refine start_ (n := 16) (S := fun w' => w'.cell? ⟨gb122, 0, none⟩ = some (.string ((rd_T68 l0_5 x57_1).f0)) ∧ w'.cell? ⟨gb122, 1, none⟩ = some (.string ((rd_T68 l0_5 x57_1).f1))) (ds := []) #[false, false, false, false, false, false, false, false, false, false, false, false, false, false, false, false] (by kernel_rfl) rfl rfl ⟨(blk_cell BK122.out 0).trans rfl, (blk_cell BK122.out 1).trans rfl⟩ (fun hHeld => ?_); refine with_tabW mail_Encode.tab12 mail_Encode.bits12 (fun HT_ HW_ => ?_)
                generalize w45.drew = w46 at BK105 BK122 HB hHeld ⊢
                refine pure_ (i := 0) (N := some 61) (v := ?_) (a' := ?_) #[true, false, false, false, false, false, false, false, false, false, false, false, false, false, false, false] rfl rfl (any_of HT_.out (by kernel_rfl)) (fun _ _ _ h => h) (Or.inl ⟨by rfl, ?_⟩) ?_ ?_
                rotate_left
                · intro w'
                  go_simp
                  with_reducible rfl
                rotate_left
                · simp only [Act.put, List.setIfInBounds_toArray, List.set_cons_zero, List.set_cons_succ, i64_w, i32_w]
                  rfl
                refine pure_ (i := 1) (N := some 62) (v := ?_) (a' := ?_) #[true, true, false, false, false, false, false, false, false, false, false, false, false, false, false, false] rfl rfl (any_of HT_.out (by kernel_rfl)) (fun _ _ _ h => h) (Or.inl ⟨by rfl, ?_⟩) ?_ ?_
                rotate_left
                · intro w'
                  go_simp
                  with_reducible rfl
                rotate_left
                · simp only [Act.put, List.setIfInBounds_toArray, List.set_cons_zero, List.set_cons_succ, i64_w, i32_w]
                  rfl
                refine pure_ (i := 4) (N := some 65) (v := ?_) (a' := ?_) #[true, true, false, false, true, false, false, false, false, false, false, false, false, false, false, false] rfl rfl (any_of HT_.out (by kernel_rfl)) (fun _ _ _ h => h) (Or.inl ⟨by rfl, ?_⟩) ?_ ?_
                rotate_left
                · intro w'
                  go_simp
                  with_reducible rfl
                rotate_left
                · simp only [Act.put, List.setIfInBounds_toArray, List.set_cons_zero, List.set_cons_succ, i64_w, i32_w]
                  rfl
                refine pure_ (i := 10) (N := some 71) (v := ?_) (a' := ?_) #[true, true, false, false, true, false, false, false, false, false, true, false, false, false, false, false] rfl rfl (any_of HT_.out (by kernel_rfl)) (fun _ _ _ h => h) (Or.inl ⟨by rfl, ?_⟩) ?_ ?_
                rotate_left
                · intro w'
                  go_simp
                  with_reducible rfl
                rotate_left
                · simp only [Act.put, List.setIfInBounds_toArray, List.set_cons_zero, List.set_cons_succ, i64_w, i32_w]
                  rfl
                refine take_ (i := 2) (N := some 63) (v := ?_) (a' := ?_) #[true, true, true, false, true, false, false, false, false, false, true, false, false, false, false, false] rfl rfl (take_ofW HT_.out HW_.out (by kernel_rfl)) (fun _ _ _ h => h) (Or.inl ⟨by rfl, ?_⟩) hHeld ?_ ?_
                rotate_left
                · rintro w' ⟨s0, s1⟩
                  go_simp
                  with_reducible rfl
                rotate_left
                · simp only [Act.put, List.setIfInBounds_toArray, List.set_cons_zero, List.set_cons_succ, i64_w, i32_w]
                  rfl
                refine take_ (i := 5) (N := some 66) (v := ?_) (a' := ?_) #[true, true, true, false, true, true, false, false, false, false, true, false, false, false, false, false] rfl rfl (take_ofW HT_.out HW_.out (by kernel_rfl)) (fun _ _ _ h => h) (Or.inl ⟨by rfl, ?_⟩) hHeld ?_ ?_
                rotate_left
                · rintro w' ⟨s0, s1⟩
                  go_simp
                  with_reducible rfl
                rotate_left
                · simp only [Act.put, List.setIfInBounds_toArray, List.set_cons_zero, List.set_cons_succ, i64_w, i32_w]
                  rfl
                refine pure_ (i := 6) (N := some 67) (v := ?_) (a' := ?_) #[true, true, true, false, true, true, true, false, false, false, true, false, false, false, false, false] rfl rfl (any_of HT_.out (by kernel_rfl)) (fun _ _ _ h => h) (Or.inl ⟨by rfl, ?_⟩) ?_ ?_
                rotate_left
                · intro w'
                  go_simp
                  with_reducible rfl
                rotate_left
                · simp only [Act.put, List.setIfInBounds_toArray, List.set_cons_zero, List.set_cons_succ, i64_w, i32_w]
                  rfl
                refine pure_ (i := 7) (N := some 68) (v := ?_) (a' := ?_) #[true, true, true, false, true, true, true, true, false, false, true, false, false, false, false, false] rfl rfl (any_of HT_.out (by kernel_rfl)) (fun _ _ _ h => h) (Or.inl ⟨by rfl, ?_⟩) ?_ ?_
                rotate_left
                · intro w'
                  go_simp
                  with_reducible rfl
                rotate_left
                · simp only [Act.put, List.setIfInBounds_toArray, List.set_cons_zero, List.set_cons_succ, i64_w, i32_w]
                  rfl
                refine take_ (i := 11) (N := some 72) (v := ?_) (a' := ?_) #[true, true, true, false, true, true, true, true, false, false, true, true, false, false, false, false] rfl rfl (take_ofW HT_.out HW_.out (by kernel_rfl)) (fun _ _ _ h => h) (Or.inl ⟨by rfl, ?_⟩) hHeld ?_ ?_
                rotate_left
                · rintro w' ⟨s0, s1⟩
                  go_simp
                  with_reducible rfl
                rotate_left
                · simp only [Act.put, List.setIfInBounds_toArray, List.set_cons_zero, List.set_cons_succ, i64_w, i32_w]
                  rfl
                refine join_ (σ := Value) 3 #[true, true, true, true, true, true, true, true, true, true, true, true, true, false, false, false] (fun s_ => [(64, .string t123), (69, s_), (70, .string (strOfNums y124)), (73, .string t127)]) (fun s_ w' => (w'.cell? ⟨gb122, 0, none⟩ = some (.string ((rd_T68 l0_5 x57_1).f0)) ∧ w'.cell? ⟨gb122, 1, none⟩ = some (.string ((rd_T68 l0_5 x57_1).f1))) ∧ (Kd.R (Kd.int .u8) 5 w' w.heap.size (fun _ => True) s_ y124) ∧ (w'.heap[gb105]? = some (.cells #[.int .i64 a0_0, .int .i64 a0_1, .int .i64 a0_2, .string a0_3, .string a0_4, .slice (some ad121) l0_5.length c0_5, .slice A0_6 l0_6.length c0_6] 25 (0, 0))) ∧ (w'.heap[gb122]? = some (.cells #[.string ((rd_T68 l0_5 x57_1).f0), .string ((rd_T68 l0_5 x57_1).f1)] 68 (0, 0))) ∧ (Below w.heap.size w w')) ?_ ?_
                rotate_left
                · intro hJ3_8_9_12
                  refine join_ (σ := Value) 4 #[true, true, true, true, true, true, true, true, true, true, true, true, false, false, false, false] (fun s_ => [(64, .string t123), (69, s_), (70, .string (strOfNums y124))]) (fun s_ w' => (w'.cell? ⟨gb122, 0, none⟩ = some (.string ((rd_T68 l0_5 x57_1).f0)) ∧ w'.cell? ⟨gb122, 1, none⟩ = some (.string ((rd_T68 l0_5 x57_1).f1))) ∧ (Kd.R (Kd.int .u8) 5 w' w.heap.size (fun _ => True) s_ y124) ∧ (w'.heap[gb105]? = some (.cells #[.int .i64 a0_0, .int .i64 a0_1, .int .i64 a0_2, .string a0_3, .string a0_4, .slice (some ad121) l0_5.length c0_5, .slice A0_6 l0_6.length c0_6] 25 (0, 0))) ∧ (w'.heap[gb122]? = some (.cells #[.string ((rd_T68 l0_5 x57_1).f0), .string ((rd_T68 l0_5 x57_1).f1)] 68 (0, 0))) ∧ (Below w.heap.size w w')) ?_ ?_
                  rotate_left
                  · intro hJ3_8_9
                    refine join_ (σ := Value) 4 #[true, true, true, true, true, true, true, true, true, false, true, true, true, false, false, false] (fun s_ => [(64, .string t123), (69, s_), (73, .string t127)]) (fun s_ w' => (w'.cell? ⟨gb122, 0, none⟩ = some (.string ((rd_T68 l0_5 x57_1).f0)) ∧ w'.cell? ⟨gb122, 1, none⟩ = some (.string ((rd_T68 l0_5 x57_1).f1))) ∧ (Kd.R (Kd.int .u8) 5 w' w.heap.size (fun _ => True) s_ y124) ∧ (w'.heap[gb105]? = some (.cells #[.int .i64 a0_0, .int .i64 a0_1, .int .i64 a0_2, .string a0_3, .string a0_4, .slice (some ad121) l0_5.length c0_5, .slice A0_6 l0_6.length c0_6] 25 (0, 0))) ∧ (w'.heap[gb122]? = some (.cells #[.string ((rd_T68 l0_5 x57_1).f0), .string ((rd_T68 l0_5 x57_1).f1)] 68 (0, 0))) ∧ (Below w.heap.size w w')) ?_ ?_
                    rotate_left
                    · intro hJ3_8_12
                      refine join_ (σ := Value) 5 #[true, true, true, true, true, true, true, true, true, false, true, true, false, false, false, false] (fun s_ => [(64, .string t123), (69, s_)]) (fun s_ w' => (w'.cell? ⟨gb122, 0, none⟩ = some (.string ((rd_T68 l0_5 x57_1).f0)) ∧ w'.cell? ⟨gb122, 1, none⟩ = some (.string ((rd_T68 l0_5 x57_1).f1))) ∧ (Kd.R (Kd.int .u8) 5 w' w.heap.size (fun _ => True) s_ y124) ∧ (w'.heap[gb105]? = some (.cells #[.int .i64 a0_0, .int .i64 a0_1, .int .i64 a0_2, .string a0_3, .string a0_4, .slice (some ad121) l0_5.length c0_5, .slice A0_6 l0_6.length c0_6] 25 (0, 0))) ∧ (w'.heap[gb122]? = some (.cells #[.string ((rd_T68 l0_5 x57_1).f0), .string ((rd_T68 l0_5 x57_1).f1)] 68 (0, 0))) ∧ (Below w.heap.size w w')) ?_ ?_
                      rotate_left
                      · intro hJ3_8
                        refine join_ (σ := Unit) 5 #[true, true, true, true, true, true, true, true, false, false, true, true, true, false, false, false] (fun s_ => [(64, .string t123), (73, .string t127)]) (fun s_ w' => (w'.cell? ⟨gb122, 0, none⟩ = some (.string ((rd_T68 l0_5 x57_1).f0)) ∧ w'.cell? ⟨gb122, 1, none⟩ = some (.string ((rd_T68 l0_5 x57_1).f1))) ∧ (w'.heap[gb105]? = some (.cells #[.int .i64 a0_0, .int .i64 a0_1, .int .i64 a0_2, .string a0_3, .string a0_4, .slice (some ad121) l0_5.length c0_5, .slice A0_6 l0_6.length c0_6] 25 (0, 0))) ∧ (w'.heap[gb122]? = some (.cells #[.string ((rd_T68 l0_5 x57_1).f0), .string ((rd_T68 l0_5 x57_1).f1)] 68 (0, 0))) ∧ (Below w.heap.size w w')) ?_ ?_
                        rotate_left
                        · intro hJ3_12
                          refine join_ (σ := Value) 5 #[true, true, true, false, true, true, true, true, true, true, true, true, false, false, false, false] (fun s_ => [(69, s_), (70, .string (strOfNums y124))]) (fun s_ w' => (w'.cell? ⟨gb122, 0, none⟩ = some (.string ((rd_T68 l0_5 x57_1).f0)) ∧ w'.cell? ⟨gb122, 1, none⟩ = some (.string ((rd_T68 l0_5 x57_1).f1))) ∧ (Kd.R (Kd.int .u8) 5 w' w.heap.size (fun _ => True) s_ y124) ∧ (w'.heap[gb105]? = some (.cells #[.int .i64 a0_0, .int .i64 a0_1, .int .i64 a0_2, .string a0_3, .string a0_4, .slice (some ad121) l0_5.length c0_5, .slice A0_6 l0_6.length c0_6] 25 (0, 0))) ∧ (w'.heap[gb122]? = some (.cells #[.string ((rd_T68 l0_5 x57_1).f0), .string ((rd_T68 l0_5 x57_1).f1)] 68 (0, 0))) ∧ (Below w.heap.size w w')) ?_ ?_
                          rotate_left
                          · intro hJ8_9
                            refine join_ (σ := Unit) 6 #[true, true, true, true, true, true, true, true, false, false, true, true, false, false, false, false] (fun s_ => [(64, .string t123)]) (fun s_ w' => (w'.cell? ⟨gb122, 0, none⟩ = some (.string ((rd_T68 l0_5 x57_1).f0)) ∧ w'.cell? ⟨gb122, 1, none⟩ = some (.string ((rd_T68 l0_5 x57_1).f1))) ∧ (w'.heap[gb105]? = some (.cells #[.int .i64 a0_0, .int .i64 a0_1, .int .i64 a0_2, .string a0_3, .string a0_4, .slice (some ad121) l0_5.length c0_5, .slice A0_6 l0_6.length c0_6] 25 (0, 0))) ∧ (w'.heap[gb122]? = some (.cells #[.string ((rd_T68 l0_5 x57_1).f0), .string ((rd_T68 l0_5 x57_1).f1)] 68 (0, 0))) ∧ (Below w.heap.size w w')) ?_ ?_
                            rotate_left
                            · intro hJ3
                              refine join_ (σ := Value) 6 #[true, true, true, false, true, true, true, true, true, false, true, true, false, false, false, false] (fun s_ => [(69, s_)]) (fun s_ w' => (w'.cell? ⟨gb122, 0, none⟩ = some (.string ((rd_T68 l0_5 x57_1).f0)) ∧ w'.cell? ⟨gb122, 1, none⟩ = some (.string ((rd_T68 l0_5 x57_1).f1))) ∧ (Kd.R (Kd.int .u8) 5 w' w.heap.size (fun _ => True) s_ y124) ∧ (w'.heap[gb105]? = some (.cells #[.int .i64 a0_0, .int .i64 a0_1, .int .i64 a0_2, .string a0_3, .string a0_4, .slice (some ad121) l0_5.length c0_5, .slice A0_6 l0_6.length c0_6] 25 (0, 0))) ∧ (w'.heap[gb122]? = some (.cells #[.string ((rd_T68 l0_5 x57_1).f0), .string ((rd_T68 l0_5 x57_1).f1)] 68 (0, 0))) ∧ (Below w.heap.size w w')) ?_ ?_
                              rotate_left
                              · intro hJ8
                                refine two_ (i := 3) (j := 8) (Ni := some 64) (Nj := some 69) #[true, true, true, true, true, true, true, true, false, false, true, true, false, false, false, false] #[true, true, true, false, true, true, true, true, true, false, true, true, false, false, false, false] rfl rfl rfl rfl (two_of HT_.out (by kernel_rfl)) (by decide) (by decide) (fun K hK => ?_) (fun K hK => ?_)
                                · skip
                                  refine goes_ Tryd.func40 (by kernel_rfl) rfl #[.string ((rd_T68 l0_5 x57_1).f0), .int .i64 16] (by rfl) rfl rfl (by (try simp only [List.map_toArray, List.map_cons, List.map_nil]); first | done | rfl | (simp only [List.length_drop, List.length_take]; rfl)) ?_
                                  with_reducible refine (mail_pad.calls ((rd_T68 l0_5 x57_1).f0) 16 t123 _ A39.out).mono ?_
                                  rintro e w47 ⟨rfl, hb⟩
                                  refine ⟨_, rfl, ?_⟩
                                  have n0_ := Aside0.mk (blk_below (g := gb105) (o := .cells #[.int .i64 a0_0, .int .i64 a0_1, .int .i64 a0_2, .string a0_3, .string a0_4, .slice (some ad121) l0_5.length c0_5, .slice A0_6 l0_6.length c0_6] 25 (0, 0)) (by (with_reducible repeat (first | refine blk_drewN ?_ _ | refine blk_drew ?_ | refine blk_alloc ?_ _)); exact BK105.out) hb)
                                  have n1_ := Aside0.mk (blk_below (g := gb122) (o := .cells #[.string ((rd_T68 l0_5 x57_1).f0), .string ((rd_T68 l0_5 x57_1).f1)] 68 (0, 0)) (by (with_reducible repeat (first | refine blk_drewN ?_ _ | refine blk_drew ?_ | refine blk_alloc ?_ _)); exact BK122.out) hb)
                                  have n2_ := Aside0.mk (below_step (by repeat (first | (with_reducible first | exact HB.out | apply below_alloc | apply pw_below_drewN | apply below_drew1 | refine below_set ?_ GE105.out | refine below_set ?_ GE122.out) | exact HB.out)) hb)
                                  clear BK105
                                  clear BK122
                                  clear HB
                                  have BK105 := n0_
                                  have BK122 := n1_
                                  have HB := n2_
                                  clear n0_ n1_ n2_
                                  (try clear hb)
                                  (try clear hb2)
                                  (try clear hk)
                                  (try clear hi)
                                  refine hK.out _ _ ⟨(blk_cell BK122.out 0).trans rfl, (blk_cell BK122.out 1).trans rfl⟩ (fun hHeld => ?_)
                                  clear hK K
                                  refine norm_ (a' := ?_) ?_ ?_
                                  rotate_left
                                  · show Act.put _ (some 64) _ = _
                                    simp only [Act.put, List.setIfInBounds_toArray, List.set_cons_zero, List.set_cons_succ, i64_w, i32_w]
                                    rfl
                                  exact norm_ (by first | (simp only [putAll, Act.put, List.setIfInBounds_toArray, List.set_cons_zero, List.set_cons_succ]; done) | (simp only [putAll, Act.put, List.setIfInBounds_toArray, List.set_cons_zero, List.set_cons_succ]; rfl)) (hJ3 () _ ⟨hHeld, (by (with_reducible repeat (first | refine blk_drewN ?_ _ | refine blk_drew ?_ | refine blk_alloc ?_ _)); exact BK105.out), (by (with_reducible repeat (first | refine blk_drewN ?_ _ | refine blk_drew ?_ | refine blk_alloc ?_ _)); exact BK122.out), (by repeat (first | (with_reducible first | exact HB.out | apply below_alloc | apply pw_below_drewN | apply below_drew1 | refine below_set ?_ GE105.out | refine below_set ?_ GE122.out) | exact HB.out))⟩)
                                · skip
                                  refine Kd.R_lit_step (Kd.int .u8) _ 5 ?hg (N := 69) ?hd (xs := ([((((rd_T68 l0_5 x57_1).f1).size : Int)) % 256] : List Int)) (inner := [.int .u8 (((((rd_T68 l0_5 x57_1).f1).size : Int)) % 256)]) (ok := fun _ => True) (okp := fun _ => True) ?hr ?hp (fun _ hk => hk) trivial (Below.refl _ _) (Nat.le_refl _) (by simp) ?_; (case hd => rfl); (case hg => rfl); (case hr => first | (go_simp; done) | (go_simp; rfl)); (case hp => exact (Reps.one (show Kd.M (Kd.int .u8) _ _ _ (((((rd_T68 l0_5 x57_1).f1).size : Int)) % 256) [.int .u8 (((((rd_T68 l0_5 x57_1).f1).size : Int)) % 256)] from rfl) (Reps.none _ _)))
                                  intro v125 w47 ho48 hb hg_ hnew_
                                  clear hg_ hnew_
                                  (first | rw [← Ny124.out] at ho48 | (simp only [Int.reduceToNat] at ho48; rw [← Ny124.out] at ho48))
                                  have n0_ := Aside0.mk (Kd.R_lower ho48 (below_size (by repeat (first | (with_reducible first | exact HB.out | apply below_alloc | apply pw_below_drewN | apply below_drew1 | refine below_set ?_ GE105.out | refine below_set ?_ GE122.out) | exact HB.out))))
                                  have n1_ := Aside0.mk (blk_below (g := gb105) (o := .cells #[.int .i64 a0_0, .int .i64 a0_1, .int .i64 a0_2, .string a0_3, .string a0_4, .slice (some ad121) l0_5.length c0_5, .slice A0_6 l0_6.length c0_6] 25 (0, 0)) (by (with_reducible repeat (first | refine blk_drewN ?_ _ | refine blk_drew ?_ | refine blk_alloc ?_ _)); exact BK105.out) hb)
                                  have n2_ := Aside0.mk (blk_below (g := gb122) (o := .cells #[.string ((rd_T68 l0_5 x57_1).f0), .string ((rd_T68 l0_5 x57_1).f1)] 68 (0, 0)) (by (with_reducible repeat (first | refine blk_drewN ?_ _ | refine blk_drew ?_ | refine blk_alloc ?_ _)); exact BK122.out) hb)
                                  have n3_ := Aside0.mk (below_step (by repeat (first | (with_reducible first | exact HB.out | apply below_alloc | apply pw_below_drewN | apply below_drew1 | refine below_set ?_ GE105.out | refine below_set ?_ GE122.out) | exact HB.out)) hb)
                                  clear BK105
                                  clear BK122
                                  clear HB
                                  have HO126 := n0_
                                  have BK105 := n1_
                                  have BK122 := n2_
                                  have HB := n3_
                                  clear n0_ n1_ n2_ n3_
                                  clear hb ho48
                                  refine hK.out _ _ ⟨(blk_cell BK122.out 0).trans rfl, (blk_cell BK122.out 1).trans rfl⟩ (fun hHeld => ?_)
                                  clear hK K
                                  refine norm_ (a' := ?_) ?_ ?_
                                  rotate_left
                                  · show Act.put _ (some 69) _ = _
                                    simp only [Act.put, List.setIfInBounds_toArray, List.set_cons_zero, List.set_cons_succ, i64_w, i32_w]
                                    rfl
                                  exact norm_ (by first | (simp only [putAll, Act.put, List.setIfInBounds_toArray, List.set_cons_zero, List.set_cons_succ]; done) | (simp only [putAll, Act.put, List.setIfInBounds_toArray, List.set_cons_zero, List.set_cons_succ]; rfl)) (hJ8 (v125) _ ⟨hHeld, (by (with_reducible repeat (first | apply Kd.R_alloc | apply Kd.R_drewN | apply Kd.R_drew)); exact HO126.out), (by (with_reducible repeat (first | refine blk_drewN ?_ _ | refine blk_drew ?_ | refine blk_alloc ?_ _)); exact BK105.out), (by (with_reducible repeat (first | refine blk_drewN ?_ _ | refine blk_drew ?_ | refine blk_alloc ?_ _)); exact BK122.out), (by repeat (first | (with_reducible first | exact HB.out | apply below_alloc | apply pw_below_drewN | apply below_drew1 | refine below_set ?_ GE105.out | refine below_set ?_ GE122.out) | exact HB.out))⟩)
                              · skip
                                rintro v125 w49 ⟨hS_, h0_, h1_, h2_, h3_⟩
                                have n0_ : Aside0 (Kd.R (Kd.int .u8) 5 w49 w.heap.size (fun _ => True) v125 y124) := ⟨h0_⟩
                                have n1_ : Aside0 (w49.heap[gb105]? = some (.cells #[.int .i64 a0_0, .int .i64 a0_1, .int .i64 a0_2, .string a0_3, .string a0_4, .slice (some ad121) l0_5.length c0_5, .slice A0_6 l0_6.length c0_6] 25 (0, 0))) := ⟨h1_⟩
                                have n2_ : Aside0 (w49.heap[gb122]? = some (.cells #[.string ((rd_T68 l0_5 x57_1).f0), .string ((rd_T68 l0_5 x57_1).f1)] 68 (0, 0))) := ⟨h2_⟩
                                have n3_ : Aside0 (Below w.heap.size w w49) := ⟨h3_⟩
                                clear BK105
                                clear BK122
                                clear HB
                                clear h0_ h1_ h2_ h3_
                                have HO126 := n0_
                                have BK105 := n1_
                                have BK122 := n2_
                                have HB := n3_
                                clear n0_ n1_ n2_ n3_
                                have hHeld : w49.cell? ⟨gb122, 0, none⟩ = some (.string ((rd_T68 l0_5 x57_1).f0)) ∧ w49.cell? ⟨gb122, 1, none⟩ = some (.string ((rd_T68 l0_5 x57_1).f1)) := hS_
                                refine norm_ (a' := ?_) ?_ ?_
                                rotate_left
                                · simp only [putAll, Act.put, List.setIfInBounds_toArray, List.set_cons_zero, List.set_cons_succ]
                                  rfl
                                refine two_ (i := 3) (j := 9) (Ni := some 64) (Nj := some 70) #[true, true, true, true, true, true, true, true, true, false, true, true, false, false, false, false] #[true, true, true, false, true, true, true, true, true, true, true, true, false, false, false, false] rfl rfl rfl rfl (two_of HT_.out (by kernel_rfl)) (by decide) (by decide) (fun K hK => ?_) (fun K hK => ?_)
                                · skip
                                  refine goes_ Tryd.func40 (by kernel_rfl) rfl #[.string ((rd_T68 l0_5 x57_1).f0), .int .i64 16] (by rfl) rfl rfl (by (try simp only [List.map_toArray, List.map_cons, List.map_nil]); first | done | rfl | (simp only [List.length_drop, List.length_take]; rfl)) ?_
                                  with_reducible refine (mail_pad.calls ((rd_T68 l0_5 x57_1).f0) 16 t123 _ A39.out).mono ?_
                                  rintro e w50 ⟨rfl, hb⟩
                                  refine ⟨_, rfl, ?_⟩
                                  have n0_ := Aside0.mk (Kd.R_below (by (with_reducible repeat (first | apply Kd.R_alloc | apply Kd.R_drewN | apply Kd.R_drew)); exact HO126.out) hb)
                                  have n1_ := Aside0.mk (blk_below (g := gb105) (o := .cells #[.int .i64 a0_0, .int .i64 a0_1, .int .i64 a0_2, .string a0_3, .string a0_4, .slice (some ad121) l0_5.length c0_5, .slice A0_6 l0_6.length c0_6] 25 (0, 0)) (by (with_reducible repeat (first | refine blk_drewN ?_ _ | refine blk_drew ?_ | refine blk_alloc ?_ _)); exact BK105.out) hb)
                                  have n2_ := Aside0.mk (blk_below (g := gb122) (o := .cells #[.string ((rd_T68 l0_5 x57_1).f0), .string ((rd_T68 l0_5 x57_1).f1)] 68 (0, 0)) (by (with_reducible repeat (first | refine blk_drewN ?_ _ | refine blk_drew ?_ | refine blk_alloc ?_ _)); exact BK122.out) hb)
                                  have n3_ := Aside0.mk (below_step (by repeat (first | (with_reducible first | exact HB.out | apply below_alloc | apply pw_below_drewN | apply below_drew1 | refine below_set ?_ GE105.out | refine below_set ?_ GE122.out) | exact HB.out)) hb)
                                  clear HO126
                                  clear BK105
                                  clear BK122
                                  clear HB
                                  have HO126 := n0_
                                  have BK105 := n1_
                                  have BK122 := n2_
                                  have HB := n3_
                                  clear n0_ n1_ n2_ n3_
                                  (try clear hb)
                                  (try clear hb2)
                                  (try clear hk)
                                  (try clear hi)
                                  refine hK.out _ _ ⟨(blk_cell BK122.out 0).trans rfl, (blk_cell BK122.out 1).trans rfl⟩ (fun hHeld => ?_)
                                  clear hK K
                                  refine norm_ (a' := ?_) ?_ ?_
                                  rotate_left
                                  · show Act.put _ (some 64) _ = _
                                    simp only [Act.put, List.setIfInBounds_toArray, List.set_cons_zero, List.set_cons_succ, i64_w, i32_w]
                                    rfl
                                  exact norm_ (by first | (simp only [putAll, Act.put, List.setIfInBounds_toArray, List.set_cons_zero, List.set_cons_succ]; done) | (simp only [putAll, Act.put, List.setIfInBounds_toArray, List.set_cons_zero, List.set_cons_succ]; rfl)) (hJ3_8 (v125) _ ⟨hHeld, (by (with_reducible repeat (first | apply Kd.R_alloc | apply Kd.R_drewN | apply Kd.R_drew)); exact HO126.out), (by (with_reducible repeat (first | refine blk_drewN ?_ _ | refine blk_drew ?_ | refine blk_alloc ?_ _)); exact BK105.out), (by (with_reducible repeat (first | refine blk_drewN ?_ _ | refine blk_drew ?_ | refine blk_alloc ?_ _)); exact BK122.out), (by repeat (first | (with_reducible first | exact HB.out | apply below_alloc | apply pw_below_drewN | apply below_drew1 | refine below_set ?_ GE105.out | refine below_set ?_ GE122.out) | exact HB.out))⟩)
                                · skip
                                  have hcv50 := own_string (P := Tryd.prog) Tryd.underlying61 Tryd.underlying5 Tryd.underlying9 (Kd.own_of_R HO126.out)
                                  refine value_ (w1 := ?_) (v := ?_) (by rfl) rfl ?_ ?_
                                  rotate_left 2
                                  · go_simp
                                    constructor
                                    · rfl
                                    · rfl
                                  clear hcv50
                                  refine hK.out _ _ ⟨(blk_cell BK122.out 0).trans rfl, (blk_cell BK122.out 1).trans rfl⟩ (fun hHeld => ?_)
                                  clear hK K
                                  refine norm_ (a' := ?_) ?_ ?_
                                  rotate_left
                                  · show Act.put _ (some 70) _ = _
                                    simp only [Act.put, List.setIfInBounds_toArray, List.set_cons_zero, List.set_cons_succ, i64_w, i32_w]
                                    rfl
                                  exact norm_ (by first | (simp only [putAll, Act.put, List.setIfInBounds_toArray, List.set_cons_zero, List.set_cons_succ]; done) | (simp only [putAll, Act.put, List.setIfInBounds_toArray, List.set_cons_zero, List.set_cons_succ]; rfl)) (hJ8_9 (v125) _ ⟨hHeld, (by (with_reducible repeat (first | apply Kd.R_alloc | apply Kd.R_drewN | apply Kd.R_drew)); exact HO126.out), (by (with_reducible repeat (first | refine blk_drewN ?_ _ | refine blk_drew ?_ | refine blk_alloc ?_ _)); exact BK105.out), (by (with_reducible repeat (first | refine blk_drewN ?_ _ | refine blk_drew ?_ | refine blk_alloc ?_ _)); exact BK122.out), (by repeat (first | (with_reducible first | exact HB.out | apply below_alloc | apply pw_below_drewN | apply below_drew1 | refine below_set ?_ GE105.out | refine below_set ?_ GE122.out) | exact HB.out))⟩)
                            · skip
                              rintro _ w48 ⟨hS_, h0_, h1_, h2_⟩
                              have n0_ : Aside0 (w48.heap[gb105]? = some (.cells #[.int .i64 a0_0, .int .i64 a0_1, .int .i64 a0_2, .string a0_3, .string a0_4, .slice (some ad121) l0_5.length c0_5, .slice A0_6 l0_6.length c0_6] 25 (0, 0))) := ⟨h0_⟩
                              have n1_ : Aside0 (w48.heap[gb122]? = some (.cells #[.string ((rd_T68 l0_5 x57_1).f0), .string ((rd_T68 l0_5 x57_1).f1)] 68 (0, 0))) := ⟨h1_⟩
                              have n2_ : Aside0 (Below w.heap.size w w48) := ⟨h2_⟩
                              clear BK105
                              clear BK122
                              clear HB
                              clear h0_ h1_ h2_
                              have BK105 := n0_
                              have BK122 := n1_
                              have HB := n2_
                              clear n0_ n1_ n2_
                              have hHeld : w48.cell? ⟨gb122, 0, none⟩ = some (.string ((rd_T68 l0_5 x57_1).f0)) ∧ w48.cell? ⟨gb122, 1, none⟩ = some (.string ((rd_T68 l0_5 x57_1).f1)) := hS_
                              refine norm_ (a' := ?_) ?_ ?_
                              rotate_left
                              · simp only [putAll, Act.put, List.setIfInBounds_toArray, List.set_cons_zero, List.set_cons_succ]
                                rfl
                              refine two_ (i := 8) (j := 12) (Ni := some 69) (Nj := some 73) #[true, true, true, true, true, true, true, true, true, false, true, true, false, false, false, false] #[true, true, true, true, true, true, true, true, false, false, true, true, true, false, false, false] rfl rfl rfl rfl (two_of HT_.out (by kernel_rfl)) (by decide) (by decide) (fun K hK => ?_) (fun K hK => ?_)
                              · skip
                                refine Kd.R_lit_step (Kd.int .u8) _ 5 ?hg (N := 69) ?hd (xs := ([((((rd_T68 l0_5 x57_1).f1).size : Int)) % 256] : List Int)) (inner := [.int .u8 (((((rd_T68 l0_5 x57_1).f1).size : Int)) % 256)]) (ok := fun _ => True) (okp := fun _ => True) ?hr ?hp (fun _ hk => hk) trivial (Below.refl _ _) (Nat.le_refl _) (by simp) ?_; (case hd => rfl); (case hg => rfl); (case hr => first | (go_simp; done) | (go_simp; rfl)); (case hp => exact (Reps.one (show Kd.M (Kd.int .u8) _ _ _ (((((rd_T68 l0_5 x57_1).f1).size : Int)) % 256) [.int .u8 (((((rd_T68 l0_5 x57_1).f1).size : Int)) % 256)] from rfl) (Reps.none _ _)))
                                intro v125 w49 ho50 hb hg_ hnew_
                                clear hg_ hnew_
                                (first | rw [← Ny124.out] at ho50 | (simp only [Int.reduceToNat] at ho50; rw [← Ny124.out] at ho50))
                                have n0_ := Aside0.mk (Kd.R_lower ho50 (below_size (by repeat (first | (with_reducible first | exact HB.out | apply below_alloc | apply pw_below_drewN | apply below_drew1 | refine below_set ?_ GE105.out | refine below_set ?_ GE122.out) | exact HB.out))))
                                have n1_ := Aside0.mk (blk_below (g := gb105) (o := .cells #[.int .i64 a0_0, .int .i64 a0_1, .int .i64 a0_2, .string a0_3, .string a0_4, .slice (some ad121) l0_5.length c0_5, .slice A0_6 l0_6.length c0_6] 25 (0, 0)) (by (with_reducible repeat (first | refine blk_drewN ?_ _ | refine blk_drew ?_ | refine blk_alloc ?_ _)); exact BK105.out) hb)
                                have n2_ := Aside0.mk (blk_below (g := gb122) (o := .cells #[.string ((rd_T68 l0_5 x57_1).f0), .string ((rd_T68 l0_5 x57_1).f1)] 68 (0, 0)) (by (with_reducible repeat (first | refine blk_drewN ?_ _ | refine blk_drew ?_ | refine blk_alloc ?_ _)); exact BK122.out) hb)
                                have n3_ := Aside0.mk (below_step (by repeat (first | (with_reducible first | exact HB.out | apply below_alloc | apply pw_below_drewN | apply below_drew1 | refine below_set ?_ GE105.out | refine below_set ?_ GE122.out) | exact HB.out)) hb)
                                clear BK105
                                clear BK122
                                clear HB
                                have HO126 := n0_
                                have BK105 := n1_
                                have BK122 := n2_
                                have HB := n3_
                                clear n0_ n1_ n2_ n3_
                                clear hb ho50
                                refine hK.out _ _ ⟨(blk_cell BK122.out 0).trans rfl, (blk_cell BK122.out 1).trans rfl⟩ (fun hHeld => ?_)
                                clear hK K
                                refine norm_ (a' := ?_) ?_ ?_
                                rotate_left
                                · show Act.put _ (some 69) _ = _
                                  simp only [Act.put, List.setIfInBounds_toArray, List.set_cons_zero, List.set_cons_succ, i64_w, i32_w]
                                  rfl
                                exact norm_ (by first | (simp only [putAll, Act.put, List.setIfInBounds_toArray, List.set_cons_zero, List.set_cons_succ]; done) | (simp only [putAll, Act.put, List.setIfInBounds_toArray, List.set_cons_zero, List.set_cons_succ]; rfl)) (hJ3_8 (v125) _ ⟨hHeld, (by (with_reducible repeat (first | apply Kd.R_alloc | apply Kd.R_drewN | apply Kd.R_drew)); exact HO126.out), (by (with_reducible repeat (first | refine blk_drewN ?_ _ | refine blk_drew ?_ | refine blk_alloc ?_ _)); exact BK105.out), (by (with_reducible repeat (first | refine blk_drewN ?_ _ | refine blk_drew ?_ | refine blk_alloc ?_ _)); exact BK122.out), (by repeat (first | (with_reducible first | exact HB.out | apply below_alloc | apply pw_below_drewN | apply below_drew1 | refine below_set ?_ GE105.out | refine below_set ?_ GE122.out) | exact HB.out))⟩)
                              · skip
                                refine goes_ Tryd.func40 (by kernel_rfl) rfl #[.string ((rd_T68 l0_5 x57_1).f1), .int .i64 222] (by rfl) rfl rfl (by (try simp only [List.map_toArray, List.map_cons, List.map_nil]); first | done | rfl | (simp only [List.length_drop, List.length_take]; rfl)) ?_
                                with_reducible refine (mail_pad.calls ((rd_T68 l0_5 x57_1).f1) 222 t127 _ A40.out).mono ?_
                                rintro e w49 ⟨rfl, hb⟩
                                refine ⟨_, rfl, ?_⟩
                                have n0_ := Aside0.mk (blk_below (g := gb105) (o := .cells #[.int .i64 a0_0, .int .i64 a0_1, .int .i64 a0_2, .string a0_3, .string a0_4, .slice (some ad121) l0_5.length c0_5, .slice A0_6 l0_6.length c0_6] 25 (0, 0)) (by (with_reducible repeat (first | refine blk_drewN ?_ _ | refine blk_drew ?_ | refine blk_alloc ?_ _)); exact BK105.out) hb)
                                have n1_ := Aside0.mk (blk_below (g := gb122) (o := .cells #[.string ((rd_T68 l0_5 x57_1).f0), .string ((rd_T68 l0_5 x57_1).f1)] 68 (0, 0)) (by (with_reducible repeat (first | refine blk_drewN ?_ _ | refine blk_drew ?_ | refine blk_alloc ?_ _)); exact BK122.out) hb)
                                have n2_ := Aside0.mk (below_step (by repeat (first | (with_reducible first | exact HB.out | apply below_alloc | apply pw_below_drewN | apply below_drew1 | refine below_set ?_ GE105.out | refine below_set ?_ GE122.out) | exact HB.out)) hb)
                                clear BK105
                                clear BK122
                                clear HB
                                have BK105 := n0_
                                have BK122 := n1_
                                have HB := n2_
                                clear n0_ n1_ n2_
                                (try clear hb)
                                (try clear hb2)
                                (try clear hk)
                                (try clear hi)
                                refine hK.out _ _ ⟨(blk_cell BK122.out 0).trans rfl, (blk_cell BK122.out 1).trans rfl⟩ (fun hHeld => ?_)
                                clear hK K
                                refine norm_ (a' := ?_) ?_ ?_
                                rotate_left
                                · show Act.put _ (some 73) _ = _
                                  simp only [Act.put, List.setIfInBounds_toArray, List.set_cons_zero, List.set_cons_succ, i64_w, i32_w]
                                  rfl
                                exact norm_ (by first | (simp only [putAll, Act.put, List.setIfInBounds_toArray, List.set_cons_zero, List.set_cons_succ]; done) | (simp only [putAll, Act.put, List.setIfInBounds_toArray, List.set_cons_zero, List.set_cons_succ]; rfl)) (hJ3_12 () _ ⟨hHeld, (by (with_reducible repeat (first | refine blk_drewN ?_ _ | refine blk_drew ?_ | refine blk_alloc ?_ _)); exact BK105.out), (by (with_reducible repeat (first | refine blk_drewN ?_ _ | refine blk_drew ?_ | refine blk_alloc ?_ _)); exact BK122.out), (by repeat (first | (with_reducible first | exact HB.out | apply below_alloc | apply pw_below_drewN | apply below_drew1 | refine below_set ?_ GE105.out | refine below_set ?_ GE122.out) | exact HB.out))⟩)
                          · skip
                            rintro v125 w50 ⟨hS_, h0_, h1_, h2_, h3_⟩
                            have n0_ : Aside0 (Kd.R (Kd.int .u8) 5 w50 w.heap.size (fun _ => True) v125 y124) := ⟨h0_⟩
                            have n1_ : Aside0 (w50.heap[gb105]? = some (.cells #[.int .i64 a0_0, .int .i64 a0_1, .int .i64 a0_2, .string a0_3, .string a0_4, .slice (some ad121) l0_5.length c0_5, .slice A0_6 l0_6.length c0_6] 25 (0, 0))) := ⟨h1_⟩
                            have n2_ : Aside0 (w50.heap[gb122]? = some (.cells #[.string ((rd_T68 l0_5 x57_1).f0), .string ((rd_T68 l0_5 x57_1).f1)] 68 (0, 0))) := ⟨h2_⟩
                            have n3_ : Aside0 (Below w.heap.size w w50) := ⟨h3_⟩
                            clear BK105
                            clear BK122
                            clear HB
                            clear h0_ h1_ h2_ h3_
                            have HO126 := n0_
                            have BK105 := n1_
                            have BK122 := n2_
                            have HB := n3_
                            clear n0_ n1_ n2_ n3_
                            have hHeld : w50.cell? ⟨gb122, 0, none⟩ = some (.string ((rd_T68 l0_5 x57_1).f0)) ∧ w50.cell? ⟨gb122, 1, none⟩ = some (.string ((rd_T68 l0_5 x57_1).f1)) := hS_
                            refine norm_ (a' := ?_) ?_ ?_
                            rotate_left
                            · simp only [putAll, Act.put, List.setIfInBounds_toArray, List.set_cons_zero, List.set_cons_succ]
                              rfl
                            refine one_ (i := 3) (N := some 64) #[true, true, true, true, true, true, true, true, true, true, true, true, false, false, false, false] rfl rfl (one_of HT_.out (by kernel_rfl)) (by decide) (fun K hK => ?_)
                            refine goes_ Tryd.func40 (by kernel_rfl) rfl #[.string ((rd_T68 l0_5 x57_1).f0), .int .i64 16] (by rfl) rfl rfl (by (try simp only [List.map_toArray, List.map_cons, List.map_nil]); first | done | rfl | (simp only [List.length_drop, List.length_take]; rfl)) ?_
                            with_reducible refine (mail_pad.calls ((rd_T68 l0_5 x57_1).f0) 16 t123 _ A39.out).mono ?_
                            rintro e w51 ⟨rfl, hb⟩
                            refine ⟨_, rfl, ?_⟩
                            have n0_ := Aside0.mk (Kd.R_below (by (with_reducible repeat (first | apply Kd.R_alloc | apply Kd.R_drewN | apply Kd.R_drew)); exact HO126.out) hb)
                            have n1_ := Aside0.mk (blk_below (g := gb105) (o := .cells #[.int .i64 a0_0, .int .i64 a0_1, .int .i64 a0_2, .string a0_3, .string a0_4, .slice (some ad121) l0_5.length c0_5, .slice A0_6 l0_6.length c0_6] 25 (0, 0)) (by (with_reducible repeat (first | refine blk_drewN ?_ _ | refine blk_drew ?_ | refine blk_alloc ?_ _)); exact BK105.out) hb)
                            have n2_ := Aside0.mk (blk_below (g := gb122) (o := .cells #[.string ((rd_T68 l0_5 x57_1).f0), .string ((rd_T68 l0_5 x57_1).f1)] 68 (0, 0)) (by (with_reducible repeat (first | refine blk_drewN ?_ _ | refine blk_drew ?_ | refine blk_alloc ?_ _)); exact BK122.out) hb)
                            have n3_ := Aside0.mk (below_step (by repeat (first | (with_reducible first | exact HB.out | apply below_alloc | apply pw_below_drewN | apply below_drew1 | refine below_set ?_ GE105.out | refine below_set ?_ GE122.out) | exact HB.out)) hb)
                            clear HO126
                            clear BK105
                            clear BK122
                            clear HB
                            have HO126 := n0_
                            have BK105 := n1_
                            have BK122 := n2_
                            have HB := n3_
                            clear n0_ n1_ n2_ n3_
                            (try clear hb)
                            (try clear hb2)
                            (try clear hk)
                            (try clear hi)
                            refine hK.out _ _ ⟨(blk_cell BK122.out 0).trans rfl, (blk_cell BK122.out 1).trans rfl⟩ (fun hHeld => ?_)
                            clear hK K
                            refine norm_ (a' := ?_) ?_ ?_
                            rotate_left
                            · show Act.put _ (some 64) _ = _
                              simp only [Act.put, List.setIfInBounds_toArray, List.set_cons_zero, List.set_cons_succ, i64_w, i32_w]
                              rfl
                            exact norm_ (by first | (simp only [putAll, Act.put, List.setIfInBounds_toArray, List.set_cons_zero, List.set_cons_succ]; done) | (simp only [putAll, Act.put, List.setIfInBounds_toArray, List.set_cons_zero, List.set_cons_succ]; rfl)) (hJ3_8_9 (v125) _ ⟨hHeld, (by (with_reducible repeat (first | apply Kd.R_alloc | apply Kd.R_drewN | apply Kd.R_drew)); exact HO126.out), (by (with_reducible repeat (first | refine blk_drewN ?_ _ | refine blk_drew ?_ | refine blk_alloc ?_ _)); exact BK105.out), (by (with_reducible repeat (first | refine blk_drewN ?_ _ | refine blk_drew ?_ | refine blk_alloc ?_ _)); exact BK122.out), (by repeat (first | (with_reducible first | exact HB.out | apply below_alloc | apply pw_below_drewN | apply below_drew1 | refine below_set ?_ GE105.out | refine below_set ?_ GE122.out) | exact HB.out))⟩)
                        · skip
                          rintro _ w49 ⟨hS_, h0_, h1_, h2_⟩
                          have n0_ : Aside0 (w49.heap[gb105]? = some (.cells #[.int .i64 a0_0, .int .i64 a0_1, .int .i64 a0_2, .string a0_3, .string a0_4, .slice (some ad121) l0_5.length c0_5, .slice A0_6 l0_6.length c0_6] 25 (0, 0))) := ⟨h0_⟩
                          have n1_ : Aside0 (w49.heap[gb122]? = some (.cells #[.string ((rd_T68 l0_5 x57_1).f0), .string ((rd_T68 l0_5 x57_1).f1)] 68 (0, 0))) := ⟨h1_⟩
                          have n2_ : Aside0 (Below w.heap.size w w49) := ⟨h2_⟩
                          clear BK105
                          clear BK122
                          clear HB
                          clear h0_ h1_ h2_
                          have BK105 := n0_
                          have BK122 := n1_
                          have HB := n2_
                          clear n0_ n1_ n2_
                          have hHeld : w49.cell? ⟨gb122, 0, none⟩ = some (.string ((rd_T68 l0_5 x57_1).f0)) ∧ w49.cell? ⟨gb122, 1, none⟩ = some (.string ((rd_T68 l0_5 x57_1).f1)) := hS_
                          refine norm_ (a' := ?_) ?_ ?_
                          rotate_left
                          · simp only [putAll, Act.put, List.setIfInBounds_toArray, List.set_cons_zero, List.set_cons_succ]
                            rfl
                          refine one_ (i := 8) (N := some 69) #[true, true, true, true, true, true, true, true, true, false, true, true, true, false, false, false] rfl rfl (one_of HT_.out (by kernel_rfl)) (by decide) (fun K hK => ?_)
                          refine Kd.R_lit_step (Kd.int .u8) _ 5 ?hg (N := 69) ?hd (xs := ([((((rd_T68 l0_5 x57_1).f1).size : Int)) % 256] : List Int)) (inner := [.int .u8 (((((rd_T68 l0_5 x57_1).f1).size : Int)) % 256)]) (ok := fun _ => True) (okp := fun _ => True) ?hr ?hp (fun _ hk => hk) trivial (Below.refl _ _) (Nat.le_refl _) (by simp) ?_; (case hd => rfl); (case hg => rfl); (case hr => first | (go_simp; done) | (go_simp; rfl)); (case hp => exact (Reps.one (show Kd.M (Kd.int .u8) _ _ _ (((((rd_T68 l0_5 x57_1).f1).size : Int)) % 256) [.int .u8 (((((rd_T68 l0_5 x57_1).f1).size : Int)) % 256)] from rfl) (Reps.none _ _)))
                          intro v125 w50 ho51 hb hg_ hnew_
                          clear hg_ hnew_
                          (first | rw [← Ny124.out] at ho51 | (simp only [Int.reduceToNat] at ho51; rw [← Ny124.out] at ho51))
                          have n0_ := Aside0.mk (Kd.R_lower ho51 (below_size (by repeat (first | (with_reducible first | exact HB.out | apply below_alloc | apply pw_below_drewN | apply below_drew1 | refine below_set ?_ GE105.out | refine below_set ?_ GE122.out) | exact HB.out))))
                          have n1_ := Aside0.mk (blk_below (g := gb105) (o := .cells #[.int .i64 a0_0, .int .i64 a0_1, .int .i64 a0_2, .string a0_3, .string a0_4, .slice (some ad121) l0_5.length c0_5, .slice A0_6 l0_6.length c0_6] 25 (0, 0)) (by (with_reducible repeat (first | refine blk_drewN ?_ _ | refine blk_drew ?_ | refine blk_alloc ?_ _)); exact BK105.out) hb)
                          have n2_ := Aside0.mk (blk_below (g := gb122) (o := .cells #[.string ((rd_T68 l0_5 x57_1).f0), .string ((rd_T68 l0_5 x57_1).f1)] 68 (0, 0)) (by (with_reducible repeat (first | refine blk_drewN ?_ _ | refine blk_drew ?_ | refine blk_alloc ?_ _)); exact BK122.out) hb)
                          have n3_ := Aside0.mk (below_step (by repeat (first | (with_reducible first | exact HB.out | apply below_alloc | apply pw_below_drewN | apply below_drew1 | refine below_set ?_ GE105.out | refine below_set ?_ GE122.out) | exact HB.out)) hb)
                          clear BK105
                          clear BK122
                          clear HB
                          have HO126 := n0_
                          have BK105 := n1_
                          have BK122 := n2_
                          have HB := n3_
                          clear n0_ n1_ n2_ n3_
                          clear hb ho51
                          refine hK.out _ _ ⟨(blk_cell BK122.out 0).trans rfl, (blk_cell BK122.out 1).trans rfl⟩ (fun hHeld => ?_)
                          clear hK K
                          refine norm_ (a' := ?_) ?_ ?_
                          rotate_left
                          · show Act.put _ (some 69) _ = _
                            simp only [Act.put, List.setIfInBounds_toArray, List.set_cons_zero, List.set_cons_succ, i64_w, i32_w]
                            rfl
                          exact norm_ (by first | (simp only [putAll, Act.put, List.setIfInBounds_toArray, List.set_cons_zero, List.set_cons_succ]; done) | (simp only [putAll, Act.put, List.setIfInBounds_toArray, List.set_cons_zero, List.set_cons_succ]; rfl)) (hJ3_8_12 (v125) _ ⟨hHeld, (by (with_reducible repeat (first | apply Kd.R_alloc | apply Kd.R_drewN | apply Kd.R_drew)); exact HO126.out), (by (with_reducible repeat (first | refine blk_drewN ?_ _ | refine blk_drew ?_ | refine blk_alloc ?_ _)); exact BK105.out), (by (with_reducible repeat (first | refine blk_drewN ?_ _ | refine blk_drew ?_ | refine blk_alloc ?_ _)); exact BK122.out), (by repeat (first | (with_reducible first | exact HB.out | apply below_alloc | apply pw_below_drewN | apply below_drew1 | refine below_set ?_ GE105.out | refine below_set ?_ GE122.out) | exact HB.out))⟩)
                      · skip
                        rintro v125 w50 ⟨hS_, h0_, h1_, h2_, h3_⟩
                        have n0_ : Aside0 (Kd.R (Kd.int .u8) 5 w50 w.heap.size (fun _ => True) v125 y124) := ⟨h0_⟩
                        have n1_ : Aside0 (w50.heap[gb105]? = some (.cells #[.int .i64 a0_0, .int .i64 a0_1, .int .i64 a0_2, .string a0_3, .string a0_4, .slice (some ad121) l0_5.length c0_5, .slice A0_6 l0_6.length c0_6] 25 (0, 0))) := ⟨h1_⟩
                        have n2_ : Aside0 (w50.heap[gb122]? = some (.cells #[.string ((rd_T68 l0_5 x57_1).f0), .string ((rd_T68 l0_5 x57_1).f1)] 68 (0, 0))) := ⟨h2_⟩
                        have n3_ : Aside0 (Below w.heap.size w w50) := ⟨h3_⟩
                        clear BK105
                        clear BK122
                        clear HB
                        clear h0_ h1_ h2_ h3_
                        have HO126 := n0_
                        have BK105 := n1_
                        have BK122 := n2_
                        have HB := n3_
                        clear n0_ n1_ n2_ n3_
                        have hHeld : w50.cell? ⟨gb122, 0, none⟩ = some (.string ((rd_T68 l0_5 x57_1).f0)) ∧ w50.cell? ⟨gb122, 1, none⟩ = some (.string ((rd_T68 l0_5 x57_1).f1)) := hS_
                        refine norm_ (a' := ?_) ?_ ?_
                        rotate_left
                        · simp only [putAll, Act.put, List.setIfInBounds_toArray, List.set_cons_zero, List.set_cons_succ]
                          rfl
                        refine two_ (i := 9) (j := 12) (Ni := some 70) (Nj := some 73) #[true, true, true, true, true, true, true, true, true, true, true, true, false, false, false, false] #[true, true, true, true, true, true, true, true, true, false, true, true, true, false, false, false] rfl rfl rfl rfl (two_of HT_.out (by kernel_rfl)) (by decide) (by decide) (fun K hK => ?_) (fun K hK => ?_)
                        · skip
                          have hcv51 := own_string (P := Tryd.prog) Tryd.underlying61 Tryd.underlying5 Tryd.underlying9 (Kd.own_of_R HO126.out)
                          refine value_ (w1 := ?_) (v := ?_) (by rfl) rfl ?_ ?_
                          rotate_left 2
                          · go_simp
                            constructor
                            · rfl
                            · rfl
                          clear hcv51
                          refine hK.out _ _ ⟨(blk_cell BK122.out 0).trans rfl, (blk_cell BK122.out 1).trans rfl⟩ (fun hHeld => ?_)
                          clear hK K
                          refine norm_ (a' := ?_) ?_ ?_
                          rotate_left
                          · show Act.put _ (some 70) _ = _
                            simp only [Act.put, List.setIfInBounds_toArray, List.set_cons_zero, List.set_cons_succ, i64_w, i32_w]
                            rfl
                          exact norm_ (by first | (simp only [putAll, Act.put, List.setIfInBounds_toArray, List.set_cons_zero, List.set_cons_succ]; done) | (simp only [putAll, Act.put, List.setIfInBounds_toArray, List.set_cons_zero, List.set_cons_succ]; rfl)) (hJ3_8_9 (v125) _ ⟨hHeld, (by (with_reducible repeat (first | apply Kd.R_alloc | apply Kd.R_drewN | apply Kd.R_drew)); exact HO126.out), (by (with_reducible repeat (first | refine blk_drewN ?_ _ | refine blk_drew ?_ | refine blk_alloc ?_ _)); exact BK105.out), (by (with_reducible repeat (first | refine blk_drewN ?_ _ | refine blk_drew ?_ | refine blk_alloc ?_ _)); exact BK122.out), (by repeat (first | (with_reducible first | exact HB.out | apply below_alloc | apply pw_below_drewN | apply below_drew1 | refine below_set ?_ GE105.out | refine below_set ?_ GE122.out) | exact HB.out))⟩)
                        · skip
                          refine goes_ Tryd.func40 (by kernel_rfl) rfl #[.string ((rd_T68 l0_5 x57_1).f1), .int .i64 222] (by rfl) rfl rfl (by (try simp only [List.map_toArray, List.map_cons, List.map_nil]); first | done | rfl | (simp only [List.length_drop, List.length_take]; rfl)) ?_
                          with_reducible refine (mail_pad.calls ((rd_T68 l0_5 x57_1).f1) 222 t127 _ A40.out).mono ?_
                          rintro e w51 ⟨rfl, hb⟩
                          refine ⟨_, rfl, ?_⟩
                          have n0_ := Aside0.mk (Kd.R_below (by (with_reducible repeat (first | apply Kd.R_alloc | apply Kd.R_drewN | apply Kd.R_drew)); exact HO126.out) hb)
                          have n1_ := Aside0.mk (blk_below (g := gb105) (o := .cells #[.int .i64 a0_0, .int .i64 a0_1, .int .i64 a0_2, .string a0_3, .string a0_4, .slice (some ad121) l0_5.length c0_5, .slice A0_6 l0_6.length c0_6] 25 (0, 0)) (by (with_reducible repeat (first | refine blk_drewN ?_ _ | refine blk_drew ?_ | refine blk_alloc ?_ _)); exact BK105.out) hb)
                          have n2_ := Aside0.mk (blk_below (g := gb122) (o := .cells #[.string ((rd_T68 l0_5 x57_1).f0), .string ((rd_T68 l0_5 x57_1).f1)] 68 (0, 0)) (by (with_reducible repeat (first | refine blk_drewN ?_ _ | refine blk_drew ?_ | refine blk_alloc ?_ _)); exact BK122.out) hb)
                          have n3_ := Aside0.mk (below_step (by repeat (first | (with_reducible first | exact HB.out | apply below_alloc | apply pw_below_drewN | apply below_drew1 | refine below_set ?_ GE105.out | refine below_set ?_ GE122.out) | exact HB.out)) hb)
                          clear HO126
                          clear BK105
                          clear BK122
                          clear HB
                          have HO126 := n0_
                          have BK105 := n1_
                          have BK122 := n2_
                          have HB := n3_
                          clear n0_ n1_ n2_ n3_
                          (try clear hb)
                          (try clear hb2)
                          (try clear hk)
                          (try clear hi)
                          refine hK.out _ _ ⟨(blk_cell BK122.out 0).trans rfl, (blk_cell BK122.out 1).trans rfl⟩ (fun hHeld => ?_)
                          clear hK K
                          refine norm_ (a' := ?_) ?_ ?_
                          rotate_left
                          · show Act.put _ (some 73) _ = _
                            simp only [Act.put, List.setIfInBounds_toArray, List.set_cons_zero, List.set_cons_succ, i64_w, i32_w]
                            rfl
                          exact norm_ (by first | (simp only [putAll, Act.put, List.setIfInBounds_toArray, List.set_cons_zero, List.set_cons_succ]; done) | (simp only [putAll, Act.put, List.setIfInBounds_toArray, List.set_cons_zero, List.set_cons_succ]; rfl)) (hJ3_8_12 (v125) _ ⟨hHeld, (by (with_reducible repeat (first | apply Kd.R_alloc | apply Kd.R_drewN | apply Kd.R_drew)); exact HO126.out), (by (with_reducible repeat (first | refine blk_drewN ?_ _ | refine blk_drew ?_ | refine blk_alloc ?_ _)); exact BK105.out), (by (with_reducible repeat (first | refine blk_drewN ?_ _ | refine blk_drew ?_ | refine blk_alloc ?_ _)); exact BK122.out), (by repeat (first | (with_reducible first | exact HB.out | apply below_alloc | apply pw_below_drewN | apply below_drew1 | refine below_set ?_ GE105.out | refine below_set ?_ GE122.out) | exact HB.out))⟩)
                    · skip
                      rintro v125 w51 ⟨hS_, h0_, h1_, h2_, h3_⟩
                      have n0_ : Aside0 (Kd.R (Kd.int .u8) 5 w51 w.heap.size (fun _ => True) v125 y124) := ⟨h0_⟩
                      have n1_ : Aside0 (w51.heap[gb105]? = some (.cells #[.int .i64 a0_0, .int .i64 a0_1, .int .i64 a0_2, .string a0_3, .string a0_4, .slice (some ad121) l0_5.length c0_5, .slice A0_6 l0_6.length c0_6] 25 (0, 0))) := ⟨h1_⟩
                      have n2_ : Aside0 (w51.heap[gb122]? = some (.cells #[.string ((rd_T68 l0_5 x57_1).f0), .string ((rd_T68 l0_5 x57_1).f1)] 68 (0, 0))) := ⟨h2_⟩
                      have n3_ : Aside0 (Below w.heap.size w w51) := ⟨h3_⟩
                      clear BK105
                      clear BK122
                      clear HB
                      clear h0_ h1_ h2_ h3_
                      have HO126 := n0_
                      have BK105 := n1_
                      have BK122 := n2_
                      have HB := n3_
                      clear n0_ n1_ n2_ n3_
                      have hHeld : w51.cell? ⟨gb122, 0, none⟩ = some (.string ((rd_T68 l0_5 x57_1).f0)) ∧ w51.cell? ⟨gb122, 1, none⟩ = some (.string ((rd_T68 l0_5 x57_1).f1)) := hS_
                      refine norm_ (a' := ?_) ?_ ?_
                      rotate_left
                      · simp only [putAll, Act.put, List.setIfInBounds_toArray, List.set_cons_zero, List.set_cons_succ]
                        rfl
                      refine one_ (i := 9) (N := some 70) #[true, true, true, true, true, true, true, true, true, true, true, true, true, false, false, false] rfl rfl (one_of HT_.out (by kernel_rfl)) (by decide) (fun K hK => ?_)
                      have hcv52 := own_string (P := Tryd.prog) Tryd.underlying61 Tryd.underlying5 Tryd.underlying9 (Kd.own_of_R HO126.out)
                      refine value_ (w1 := ?_) (v := ?_) (by rfl) rfl ?_ ?_
                      rotate_left 2
                      · go_simp
                        constructor
                        · rfl
                        · rfl
                      clear hcv52
                      refine hK.out _ _ ⟨(blk_cell BK122.out 0).trans rfl, (blk_cell BK122.out 1).trans rfl⟩ (fun hHeld => ?_)
                      clear hK K
                      refine norm_ (a' := ?_) ?_ ?_
                      rotate_left
                      · show Act.put _ (some 70) _ = _
                        simp only [Act.put, List.setIfInBounds_toArray, List.set_cons_zero, List.set_cons_succ, i64_w, i32_w]
                        rfl
                      exact norm_ (by first | (simp only [putAll, Act.put, List.setIfInBounds_toArray, List.set_cons_zero, List.set_cons_succ]; done) | (simp only [putAll, Act.put, List.setIfInBounds_toArray, List.set_cons_zero, List.set_cons_succ]; rfl)) (hJ3_8_9_12 (v125) _ ⟨hHeld, (by (with_reducible repeat (first | apply Kd.R_alloc | apply Kd.R_drewN | apply Kd.R_drew)); exact HO126.out), (by (with_reducible repeat (first | refine blk_drewN ?_ _ | refine blk_drew ?_ | refine blk_alloc ?_ _)); exact BK105.out), (by (with_reducible repeat (first | refine blk_drewN ?_ _ | refine blk_drew ?_ | refine blk_alloc ?_ _)); exact BK122.out), (by repeat (first | (with_reducible first | exact HB.out | apply below_alloc | apply pw_below_drewN | apply below_drew1 | refine below_set ?_ GE105.out | refine below_set ?_ GE122.out) | exact HB.out))⟩)
                  · skip
                    rintro v125 w51 ⟨hS_, h0_, h1_, h2_, h3_⟩
                    have n0_ : Aside0 (Kd.R (Kd.int .u8) 5 w51 w.heap.size (fun _ => True) v125 y124) := ⟨h0_⟩
                    have n1_ : Aside0 (w51.heap[gb105]? = some (.cells #[.int .i64 a0_0, .int .i64 a0_1, .int .i64 a0_2, .string a0_3, .string a0_4, .slice (some ad121) l0_5.length c0_5, .slice A0_6 l0_6.length c0_6] 25 (0, 0))) := ⟨h1_⟩
                    have n2_ : Aside0 (w51.heap[gb122]? = some (.cells #[.string ((rd_T68 l0_5 x57_1).f0), .string ((rd_T68 l0_5 x57_1).f1)] 68 (0, 0))) := ⟨h2_⟩
                    have n3_ : Aside0 (Below w.heap.size w w51) := ⟨h3_⟩
                    clear BK105
                    clear BK122
                    clear HB
                    clear h0_ h1_ h2_ h3_
                    have HO126 := n0_
                    have BK105 := n1_
                    have BK122 := n2_
                    have HB := n3_
                    clear n0_ n1_ n2_ n3_
                    have hHeld : w51.cell? ⟨gb122, 0, none⟩ = some (.string ((rd_T68 l0_5 x57_1).f0)) ∧ w51.cell? ⟨gb122, 1, none⟩ = some (.string ((rd_T68 l0_5 x57_1).f1)) := hS_
                    refine norm_ (a' := ?_) ?_ ?_
                    rotate_left
                    · simp only [putAll, Act.put, List.setIfInBounds_toArray, List.set_cons_zero, List.set_cons_succ]
                      rfl
                    refine one_ (i := 12) (N := some 73) #[true, true, true, true, true, true, true, true, true, true, true, true, true, false, false, false] rfl rfl (one_of HT_.out (by kernel_rfl)) (by decide) (fun K hK => ?_)
                    refine goes_ Tryd.func40 (by kernel_rfl) rfl #[.string ((rd_T68 l0_5 x57_1).f1), .int .i64 222] (by rfl) rfl rfl (by (try simp only [List.map_toArray, List.map_cons, List.map_nil]); first | done | rfl | (simp only [List.length_drop, List.length_take]; rfl)) ?_
                    with_reducible refine (mail_pad.calls ((rd_T68 l0_5 x57_1).f1) 222 t127 _ A40.out).mono ?_
                    rintro e w52 ⟨rfl, hb⟩
                    refine ⟨_, rfl, ?_⟩
                    have n0_ := Aside0.mk (Kd.R_below (by (with_reducible repeat (first | apply Kd.R_alloc | apply Kd.R_drewN | apply Kd.R_drew)); exact HO126.out) hb)
                    have n1_ := Aside0.mk (blk_below (g := gb105) (o := .cells #[.int .i64 a0_0, .int .i64 a0_1, .int .i64 a0_2, .string a0_3, .string a0_4, .slice (some ad121) l0_5.length c0_5, .slice A0_6 l0_6.length c0_6] 25 (0, 0)) (by (with_reducible repeat (first | refine blk_drewN ?_ _ | refine blk_drew ?_ | refine blk_alloc ?_ _)); exact BK105.out) hb)
                    have n2_ := Aside0.mk (blk_below (g := gb122) (o := .cells #[.string ((rd_T68 l0_5 x57_1).f0), .string ((rd_T68 l0_5 x57_1).f1)] 68 (0, 0)) (by (with_reducible repeat (first | refine blk_drewN ?_ _ | refine blk_drew ?_ | refine blk_alloc ?_ _)); exact BK122.out) hb)
                    have n3_ := Aside0.mk (below_step (by repeat (first | (with_reducible first | exact HB.out | apply below_alloc | apply pw_below_drewN | apply below_drew1 | refine below_set ?_ GE105.out | refine below_set ?_ GE122.out) | exact HB.out)) hb)
                    clear HO126
                    clear BK105
                    clear BK122
                    clear HB
                    have HO126 := n0_
                    have BK105 := n1_
                    have BK122 := n2_
                    have HB := n3_
                    clear n0_ n1_ n2_ n3_
                    (try clear hb)
                    (try clear hb2)
                    (try clear hk)
                    (try clear hi)
                    refine hK.out _ _ ⟨(blk_cell BK122.out 0).trans rfl, (blk_cell BK122.out 1).trans rfl⟩ (fun hHeld => ?_)
                    clear hK K
                    refine norm_ (a' := ?_) ?_ ?_
                    rotate_left
                    · show Act.put _ (some 73) _ = _
                      simp only [Act.put, List.setIfInBounds_toArray, List.set_cons_zero, List.set_cons_succ, i64_w, i32_w]
                      rfl
                    exact norm_ (by first | (simp only [putAll, Act.put, List.setIfInBounds_toArray, List.set_cons_zero, List.set_cons_succ]; done) | (simp only [putAll, Act.put, List.setIfInBounds_toArray, List.set_cons_zero, List.set_cons_succ]; rfl)) (hJ3_8_9_12 (v125) _ ⟨hHeld, (by (with_reducible repeat (first | apply Kd.R_alloc | apply Kd.R_drewN | apply Kd.R_drew)); exact HO126.out), (by (with_reducible repeat (first | refine blk_drewN ?_ _ | refine blk_drew ?_ | refine blk_alloc ?_ _)); exact BK105.out), (by (with_reducible repeat (first | refine blk_drewN ?_ _ | refine blk_drew ?_ | refine blk_alloc ?_ _)); exact BK122.out), (by repeat (first | (with_reducible first | exact HB.out | apply below_alloc | apply pw_below_drewN | apply below_drew1 | refine below_set ?_ GE105.out | refine below_set ?_ GE122.out) | exact HB.out))⟩)
                rintro v125 w52 ⟨hS_, h0_, h1_, h2_, h3_⟩
                have n0_ : Aside0 (Kd.R (Kd.int .u8) 5 w52 w.heap.size (fun _ => True) v125 y124) := ⟨h0_⟩
                have n1_ : Aside0 (w52.heap[gb105]? = some (.cells #[.int .i64 a0_0, .int .i64 a0_1, .int .i64 a0_2, .string a0_3, .string a0_4, .slice (some ad121) l0_5.length c0_5, .slice A0_6 l0_6.length c0_6] 25 (0, 0))) := ⟨h1_⟩
                have n2_ : Aside0 (w52.heap[gb122]? = some (.cells #[.string ((rd_T68 l0_5 x57_1).f0), .string ((rd_T68 l0_5 x57_1).f1)] 68 (0, 0))) := ⟨h2_⟩
                have n3_ : Aside0 (Below w.heap.size w w52) := ⟨h3_⟩
                clear BK105
                clear BK122
                clear HB
                clear h0_ h1_ h2_ h3_
                have HO126 := n0_
                have BK105 := n1_
                have BK122 := n2_
                have HB := n3_
                clear n0_ n1_ n2_ n3_
                have hHeld : w52.cell? ⟨gb122, 0, none⟩ = some (.string ((rd_T68 l0_5 x57_1).f0)) ∧ w52.cell? ⟨gb122, 1, none⟩ = some (.string ((rd_T68 l0_5 x57_1).f1)) := hS_
                refine norm_ (a' := ?_) ?_ ?_
                rotate_left
                · simp only [putAll, Act.put, List.setIfInBounds_toArray, List.set_cons_zero, List.set_cons_succ]
                  rfl
                refine one_ (i := 13) (N := some 74) #[true, true, true, true, true, true, true, true, true, true, true, true, true, true, false, false] rfl rfl (one_of HT_.out (by kernel_rfl)) (by decide) (fun K hK => ?_)
                refine Kd.R_lit_step Kd.string _ 9 ?hg (N := 74) ?hd (xs := ([x7_1, t123, strOfNums y124, t127] : List ByteArray)) (inner := [.string x7_1, .string t123, .string (strOfNums y124), .string t127]) (ok := fun _ => True) (okp := fun _ => True) ?hr ?hp (fun _ hk => hk) trivial (Below.refl _ _) (Nat.le_refl _) (by simp) ?_; (case hd => rfl); (case hg => rfl); (case hr => first | (go_simp; done) | (go_simp; rfl)); (case hp => exact (Reps.one (show Kd.M Kd.string _ _ _ x7_1 [.string x7_1] from rfl) (Reps.one (show Kd.M Kd.string _ _ _ t123 [.string t123] from rfl) (Reps.one (show Kd.M Kd.string _ _ _ (strOfNums y124) [.string (strOfNums y124)] from rfl) (Reps.one (show Kd.M Kd.string _ _ _ t127 [.string t127] from rfl) (Reps.none _ _))))))
                intro v129 w53 ho54 hb hg_ hnew_
                clear hg_ hnew_
                (first | rw [← Ny128.out] at ho54 | (simp only [Int.reduceToNat] at ho54; rw [← Ny128.out] at ho54))
                have n0_ := Aside0.mk (Kd.R_below (by (with_reducible repeat (first | apply Kd.R_alloc | apply Kd.R_drewN | apply Kd.R_drew)); exact HO126.out) hb)
                have n1_ := Aside0.mk (Kd.R_lower ho54 (below_size (by repeat (first | (with_reducible first | exact HB.out | apply below_alloc | apply pw_below_drewN | apply below_drew1 | refine below_set ?_ GE105.out | refine below_set ?_ GE122.out) | exact HB.out))))
                have n2_ := Aside0.mk (blk_below (g := gb105) (o := .cells #[.int .i64 a0_0, .int .i64 a0_1, .int .i64 a0_2, .string a0_3, .string a0_4, .slice (some ad121) l0_5.length c0_5, .slice A0_6 l0_6.length c0_6] 25 (0, 0)) (by (with_reducible repeat (first | refine blk_drewN ?_ _ | refine blk_drew ?_ | refine blk_alloc ?_ _)); exact BK105.out) hb)
                have n3_ := Aside0.mk (blk_below (g := gb122) (o := .cells #[.string ((rd_T68 l0_5 x57_1).f0), .string ((rd_T68 l0_5 x57_1).f1)] 68 (0, 0)) (by (with_reducible repeat (first | refine blk_drewN ?_ _ | refine blk_drew ?_ | refine blk_alloc ?_ _)); exact BK122.out) hb)
                have n4_ := Aside0.mk (below_step (by repeat (first | (with_reducible first | exact HB.out | apply below_alloc | apply pw_below_drewN | apply below_drew1 | refine below_set ?_ GE105.out | refine below_set ?_ GE122.out) | exact HB.out)) hb)
                clear HO126
                clear BK105
                clear BK122
                clear HB
                have HO126 := n0_
                have HO130 := n1_
                have BK105 := n2_
                have BK122 := n3_
                have HB := n4_
                clear n0_ n1_ n2_ n3_ n4_
                clear hb ho54
                obtain ⟨Ao55, co55, eo55⟩ := Kd.R_slice HO130.out
                (first | subst eo55 | (injection eo55 with f1_ f2_ f3_; have f4_ := f1_.symm; have f5_ := f3_.symm; clear f1_ f2_ f3_; subst f4_; subst f5_))
                refine hK.out _ _ ⟨(blk_cell BK122.out 0).trans rfl, (blk_cell BK122.out 1).trans rfl⟩ (fun hHeld => ?_)
                clear hK K
                refine norm_ (a' := ?_) ?_ ?_
                rotate_left
                · show Act.put _ (some 74) _ = _
                  simp only [Act.put, List.setIfInBounds_toArray, List.set_cons_zero, List.set_cons_succ, i64_w, i32_w]
                  rfl
                refine one_ (i := 14) (N := some 75) #[true, true, true, true, true, true, true, true, true, true, true, true, true, true, true, false] rfl rfl (one_of HT_.out (by kernel_rfl)) (by decide) (fun K hK => ?_)
                refine goes_ Tryd.func39 (by kernel_rfl) rfl #[.slice Ao55 y128.length co55] (by rfl) rfl rfl (by (try simp only [List.map_toArray, List.map_cons, List.map_nil]); first | done | rfl | (simp only [List.length_drop, List.length_take]; rfl)) ?_
                with_reducible refine (mail_join.calls _ _ y128 t131 _ ?side1 ?side2 A41.out).mono ?_
                (case side1 => repeat (first | exact (Kd.R_reads' HO130.out).2.2 | (with_reducible refine Kd.C_alloc ?_ _) | (with_reducible refine Kd.C_drewN ?_ _) | (with_reducible refine Kd.C_drew ?_)))
                (case side2 => exact (Kd.R_reads' HO130.out).2.1)
                rintro e w56 ⟨rfl, hb⟩
                refine ⟨_, rfl, ?_⟩
                have n0_ := Aside0.mk (Kd.R_below (by (with_reducible repeat (first | apply Kd.R_alloc | apply Kd.R_drewN | apply Kd.R_drew)); exact HO126.out) hb)
                have n1_ := Aside0.mk (Kd.R_below (by (with_reducible repeat (first | apply Kd.R_alloc | apply Kd.R_drewN | apply Kd.R_drew)); exact HO130.out) hb)
                have n2_ := Aside0.mk (blk_below (g := gb105) (o := .cells #[.int .i64 a0_0, .int .i64 a0_1, .int .i64 a0_2, .string a0_3, .string a0_4, .slice (some ad121) l0_5.length c0_5, .slice A0_6 l0_6.length c0_6] 25 (0, 0)) (by (with_reducible repeat (first | refine blk_drewN ?_ _ | refine blk_drew ?_ | refine blk_alloc ?_ _)); exact BK105.out) hb)
                have n3_ := Aside0.mk (blk_below (g := gb122) (o := .cells #[.string ((rd_T68 l0_5 x57_1).f0), .string ((rd_T68 l0_5 x57_1).f1)] 68 (0, 0)) (by (with_reducible repeat (first | refine blk_drewN ?_ _ | refine blk_drew ?_ | refine blk_alloc ?_ _)); exact BK122.out) hb)
                have n4_ := Aside0.mk (below_step (by repeat (first | (with_reducible first | exact HB.out | apply below_alloc | apply pw_below_drewN | apply below_drew1 | refine below_set ?_ GE105.out | refine below_set ?_ GE122.out) | exact HB.out)) hb)
                clear HO126
                clear HO130
                clear BK105
                clear BK122
                clear HB
                have HO126 := n0_
                have HO130 := n1_
                have BK105 := n2_
                have BK122 := n3_
                have HB := n4_
                clear n0_ n1_ n2_ n3_ n4_
                (try clear hb)
                (try clear hb2)
                (try clear hk)
                (try clear hi)
                refine hK.out _ _ ⟨(blk_cell BK122.out 0).trans rfl, (blk_cell BK122.out 1).trans rfl⟩ (fun hHeld => ?_)
                clear hK K
                refine norm_ (a' := ?_) ?_ ?_
                rotate_left
                · show Act.put _ (some 75) _ = _
                  simp only [Act.put, List.setIfInBounds_toArray, List.set_cons_zero, List.set_cons_succ, i64_w, i32_w]
                  rfl
                refine pure_ (i := 15) (N := some 7) (v := ?_) (a' := ?_) #[true, true, true, true, true, true, true, true, true, true, true, true, true, true, true, true] rfl rfl (any_of HT_.out (by kernel_rfl)) (fun _ _ _ h => h) (Or.inl ⟨by rfl, ?_⟩) ?_ ?_
                rotate_left
                · intro w'
                  go_simp
                  with_reducible rfl
                rotate_left
                · simp only [Act.put, List.setIfInBounds_toArray, List.set_cons_zero, List.set_cons_succ, i64_w, i32_w]
                  rfl
                refine done_ (done_of HT_.out (by kernel_rfl)) ?_
                try go_wp2
                go_roundg k1
                case measure => have := HK1.out; omega
                case rel => exact ⟨(t131), (wrap64 (x57_1 + 1)), (by first | rfl | (simp; done) | (simp [*]; done)), (by first | rfl | (simp; done) | (simp [*]; done)), H', ⟨by have := HK1.out; omega⟩, ⟨by (with_reducible repeat (first | refine blk_drewN ?_ _ | refine blk_drew ?_ | refine blk_alloc ?_ _)); exact BK105.out⟩, ⟨by repeat (first | (with_reducible first | exact HB.out | apply below_alloc | apply pw_below_drewN | apply below_drew1 | refine below_set ?_ GE105.out | refine below_set ?_ GE122.out) | exact HB.out)⟩⟩
              · rw [if_neg c38] at H
                exact absurd H (by simp)
            · rw [if_neg c37] at H
              exact absurd H (by simp)
          · rw [if_neg c36] at H
            have c36b0 : decide (x57_1 < (l0_5.length : Int)) = false := decide_eq_false c36
            clear c36
            replace H := Option.bind_eq_some_iff.mp H
            obtain ⟨t132, A570, H⟩ := H
            replace H : ((mail_join.f (([x7_1, t132] : List ByteArray))).bind fun t136 => ((mail_Long.f a0_0).bind fun t137 => ((mail_pad.f t136 t137).bind fun t138 => (some (t138, 0))))) = some (r1, r2) := H
            have A57 := Aside0.mk A570
            clear A570
            obtain ⟨y133, hy133⟩ : ∃ y_ : List ByteArray, y_ = (([x7_1, t132] : List ByteArray)) := ⟨_, rfl⟩
            replace H : ((mail_join.f y133).bind fun t136 => ((mail_Long.f a0_0).bind fun t137 => ((mail_pad.f t136 t137).bind fun t138 => (some (t138, 0))))) = some (r1, r2) := by first | (rw [hy133]; with_reducible exact H) | (have H2_ := (Option.bind_some _ _).symm.trans H; rw [hy133]; with_reducible exact H2_) | (have H2_ := (Option.bind_some _ _).symm.trans H; with_reducible exact H2_) | with_reducible exact H | (rw [hy133]; exact H) | exact H
            have Ny133 := Aside0.mk hy133
            clear hy133
            replace H := Option.bind_eq_some_iff.mp H
            obtain ⟨t136, A580, H⟩ := H
            replace H : ((mail_Long.f a0_0).bind fun t137 => ((mail_pad.f t136 t137).bind fun t138 => (some (t138, 0)))) = some (r1, r2) := H
            have A58 := Aside0.mk A580
            clear A580
            replace H := Option.bind_eq_some_iff.mp H
            obtain ⟨t137, A590, H⟩ := H
            replace H : ((mail_pad.f t136 t137).bind fun t138 => (some (t138, 0))) = some (r1, r2) := H
            have A59 := Aside0.mk A590
            clear A590
            replace H := Option.bind_eq_some_iff.mp H
            obtain ⟨t138, A600, H⟩ := H
            replace H : (some (t138, 0)) = some (r1, r2) := H
            have A60 := Aside0.mk A600
            clear A600
            simp only [Option.some.injEq, Prod.mk.injEq] at H
            obtain ⟨rfl, rfl⟩ := H
            try go_wp2
            have n0_ := Aside0.mk (blk_drew BK105.out)
            have n1_ := Aside0.mk (below_drew1 HB.out)
            clear BK105
            clear HB
            have BK105 := n0_
            have HB := n1_
            clear n0_ n1_
            refine start_ (n := 12) (S := fun w' => w'.cell? ⟨gb105, 0, none⟩ = some (.int .i64 a0_0) ∧ w'.cell? ⟨gb105, 1, none⟩ = some (.int .i64 a0_1) ∧ w'.cell? ⟨gb105, 2, none⟩ = some (.int .i64 a0_2) ∧ w'.cell? ⟨gb105, 3, none⟩ = some (.string a0_3) ∧ w'.cell? ⟨gb105, 4, none⟩ = some (.string a0_4) ∧ w'.cell? ⟨gb105, 5, none⟩ = some (.slice A0_5 l0_5.length c0_5) ∧ w'.cell? ⟨gb105, 6, none⟩ = some (.slice A0_6 l0_6.length c0_6)) (ds := []) #[false, false, false, false, false, false, false, false, false, false, false, false] (by kernel_rfl) rfl rfl ⟨(blk_cell BK105.out 0).trans rfl, (blk_cell BK105.out 1).trans rfl, (blk_cell BK105.out 2).trans rfl, (blk_cell BK105.out 3).trans rfl, (blk_cell BK105.out 4).trans rfl, (blk_cell BK105.out 5).trans rfl, (blk_cell BK105.out 6).trans rfl⟩ (fun hHeld => ?_); refine with_tabW mail_Encode.tab14 mail_Encode.bits14 (fun HT_ HW_ => ?_)
            generalize wr.drew = w61 at BK105 HB hHeld ⊢
            refine pure_ (i := 0) (N := some 77) (v := ?_) (a' := ?_) #[true, false, false, false, false, false, false, false, false, false, false, false] rfl rfl (any_of HT_.out (by kernel_rfl)) (fun _ _ _ h => h) (Or.inl ⟨by rfl, ?_⟩) ?_ ?_
            rotate_left
            · intro w'
              go_simp
              with_reducible rfl
            rotate_left
            · simp only [Act.put, List.setIfInBounds_toArray, List.set_cons_zero, List.set_cons_succ, i64_w, i32_w]
              rfl
            refine pure_ (i := 1) (N := some 78) (v := ?_) (a' := ?_) #[true, true, false, false, false, false, false, false, false, false, false, false] rfl rfl (any_of HT_.out (by kernel_rfl)) (fun _ _ _ h => h) (Or.inl ⟨by rfl, ?_⟩) ?_ ?_
            rotate_left
            · intro w'
              go_simp
              with_reducible rfl
            rotate_left
            · simp only [Act.put, List.setIfInBounds_toArray, List.set_cons_zero, List.set_cons_succ, i64_w, i32_w]
              rfl
            refine pure_ (i := 6) (N := some 83) (v := ?_) (a' := ?_) #[true, true, false, false, false, false, true, false, false, false, false, false] rfl rfl (any_of HT_.out (by kernel_rfl)) (fun _ _ _ h => h) (Or.inl ⟨by rfl, ?_⟩) ?_ ?_
            rotate_left
            · intro w'
              go_simp
              with_reducible rfl
            rotate_left
            · simp only [Act.put, List.setIfInBounds_toArray, List.set_cons_zero, List.set_cons_succ, i64_w, i32_w]
              rfl
            refine take_ (i := 2) (N := some 79) (v := ?_) (a' := ?_) #[true, true, true, false, false, false, true, false, false, false, false, false] rfl rfl (take_ofW HT_.out HW_.out (by kernel_rfl)) (fun _ _ _ h => h) (Or.inl ⟨by rfl, ?_⟩) hHeld ?_ ?_
            rotate_left
            · rintro w' ⟨s0, s1, s2, s3, s4, s5, s6⟩
              go_simp
              with_reducible rfl
            rotate_left
            · simp only [Act.put, List.setIfInBounds_toArray, List.set_cons_zero, List.set_cons_succ, i64_w, i32_w]
              rfl
            refine take_ (i := 7) (N := some 84) (v := ?_) (a' := ?_) #[true, true, true, false, false, false, true, true, false, false, false, false] rfl rfl (take_ofW HT_.out HW_.out (by kernel_rfl)) (fun _ _ _ h => h) (Or.inl ⟨by rfl, ?_⟩) hHeld ?_ ?_
            rotate_left
            · rintro w' ⟨s0, s1, s2, s3, s4, s5, s6⟩
              go_simp
              with_reducible rfl
            rotate_left
            · simp only [Act.put, List.setIfInBounds_toArray, List.set_cons_zero, List.set_cons_succ, i64_w, i32_w]
              rfl
            refine one_ (i := 3) (N := some 80) #[true, true, true, true, false, false, true, true, false, false, false, false] rfl rfl (one_of HT_.out (by kernel_rfl)) (by decide) (fun K hK => ?_)
            refine goes_ Tryd.func39 (by kernel_rfl) rfl #[.slice A0_6 l0_6.length c0_6] (by rfl) rfl rfl (by (try simp only [List.map_toArray, List.map_cons, List.map_nil]); first | done | rfl | (simp only [List.length_drop, List.length_take]; rfl)) ?_
            with_reducible refine (mail_join.calls _ _ l0_6 t132 _ ?side1 ?side2 A57.out).mono ?_
            (case side1 => repeat (first | exact (Kd.C_below HR0_6.out HB.out) | (with_reducible refine Kd.C_alloc ?_ _) | (with_reducible refine Kd.C_drewN ?_ _) | (with_reducible refine Kd.C_drew ?_)))
            (case side2 => exact HC0_6.out)
            rintro e w62 ⟨rfl, hb⟩
            refine ⟨_, rfl, ?_⟩
            have n0_ := Aside0.mk (blk_below (g := gb105) (o := .cells #[.int .i64 a0_0, .int .i64 a0_1, .int .i64 a0_2, .string a0_3, .string a0_4, .slice A0_5 l0_5.length c0_5, .slice A0_6 l0_6.length c0_6] 25 (0, 0)) (by (with_reducible repeat (first | refine blk_drewN ?_ _ | refine blk_drew ?_ | refine blk_alloc ?_ _)); exact BK105.out) hb)
            have n1_ := Aside0.mk (below_step (by repeat (first | (with_reducible first | exact HB.out | apply below_alloc | apply pw_below_drewN | apply below_drew1 | refine below_set ?_ GE105.out) | exact HB.out)) hb)
            clear BK105
            clear HB
            have BK105 := n0_
            have HB := n1_
            clear n0_ n1_
            (try clear hb)
            (try clear hb2)
            (try clear hk)
            (try clear hi)
            refine hK.out _ _ ⟨(blk_cell BK105.out 0).trans rfl, (blk_cell BK105.out 1).trans rfl, (blk_cell BK105.out 2).trans rfl, (blk_cell BK105.out 3).trans rfl, (blk_cell BK105.out 4).trans rfl, (blk_cell BK105.out 5).trans rfl, (blk_cell BK105.out 6).trans rfl⟩ (fun hHeld => ?_)
            clear hK K
            refine norm_ (a' := ?_) ?_ ?_
            rotate_left
            · show Act.put _ (some 80) _ = _
              simp only [Act.put, List.setIfInBounds_toArray, List.set_cons_zero, List.set_cons_succ, i64_w, i32_w]
              rfl
            refine one_ (i := 4) (N := some 81) #[true, true, true, true, true, false, true, true, false, false, false, false] rfl rfl (one_of HT_.out (by kernel_rfl)) (by decide) (fun K hK => ?_)
            refine Kd.R_lit_step Kd.string _ 9 ?hg (N := 81) ?hd (xs := ([x7_1, t132] : List ByteArray)) (inner := [.string x7_1, .string t132]) (ok := fun _ => True) (okp := fun _ => True) ?hr ?hp (fun _ hk => hk) trivial (Below.refl _ _) (Nat.le_refl _) (by simp) ?_; (case hd => rfl); (case hg => rfl); (case hr => first | (go_simp; done) | (go_simp; rfl)); (case hp => exact (Reps.one (show Kd.M Kd.string _ _ _ x7_1 [.string x7_1] from rfl) (Reps.one (show Kd.M Kd.string _ _ _ t132 [.string t132] from rfl) (Reps.none _ _))))
            intro v134 w63 ho64 hb hg_ hnew_
            clear hg_ hnew_
            (first | rw [← Ny133.out] at ho64 | (simp only [Int.reduceToNat] at ho64; rw [← Ny133.out] at ho64))
            have n0_ := Aside0.mk (Kd.R_lower ho64 (below_size (by repeat (first | (with_reducible first | exact HB.out | apply below_alloc | apply pw_below_drewN | apply below_drew1 | refine below_set ?_ GE105.out) | exact HB.out))))
            have n1_ := Aside0.mk (blk_below (g := gb105) (o := .cells #[.int .i64 a0_0, .int .i64 a0_1, .int .i64 a0_2, .string a0_3, .string a0_4, .slice A0_5 l0_5.length c0_5, .slice A0_6 l0_6.length c0_6] 25 (0, 0)) (by (with_reducible repeat (first | refine blk_drewN ?_ _ | refine blk_drew ?_ | refine blk_alloc ?_ _)); exact BK105.out) hb)
            have n2_ := Aside0.mk (below_step (by repeat (first | (with_reducible first | exact HB.out | apply below_alloc | apply pw_below_drewN | apply below_drew1 | refine below_set ?_ GE105.out) | exact HB.out)) hb)
            clear BK105
            clear HB
            have HO135 := n0_
            have BK105 := n1_
            have HB := n2_
            clear n0_ n1_ n2_
            clear hb ho64
            obtain ⟨Ao65, co65, eo65⟩ := Kd.R_slice HO135.out
            (first | subst eo65 | (injection eo65 with f1_ f2_ f3_; have f4_ := f1_.symm; have f5_ := f3_.symm; clear f1_ f2_ f3_; subst f4_; subst f5_))
            refine hK.out _ _ ⟨(blk_cell BK105.out 0).trans rfl, (blk_cell BK105.out 1).trans rfl, (blk_cell BK105.out 2).trans rfl, (blk_cell BK105.out 3).trans rfl, (blk_cell BK105.out 4).trans rfl, (blk_cell BK105.out 5).trans rfl, (blk_cell BK105.out 6).trans rfl⟩ (fun hHeld => ?_)
            clear hK K
            refine norm_ (a' := ?_) ?_ ?_
            rotate_left
            · show Act.put _ (some 81) _ = _
              simp only [Act.put, List.setIfInBounds_toArray, List.set_cons_zero, List.set_cons_succ, i64_w, i32_w]
              rfl
            refine one_ (i := 5) (N := some 82) #[true, true, true, true, true, true, true, true, false, false, false, false] rfl rfl (one_of HT_.out (by kernel_rfl)) (by decide) (fun K hK => ?_)
            refine goes_ Tryd.func39 (by kernel_rfl) rfl #[.slice Ao65 y133.length co65] (by rfl) rfl rfl (by (try simp only [List.map_toArray, List.map_cons, List.map_nil]); first | done | rfl | (simp only [List.length_drop, List.length_take]; rfl)) ?_
            with_reducible refine (mail_join.calls _ _ y133 t136 _ ?side1 ?side2 A58.out).mono ?_
            (case side1 => repeat (first | exact (Kd.R_reads' HO135.out).2.2 | (with_reducible refine Kd.C_alloc ?_ _) | (with_reducible refine Kd.C_drewN ?_ _) | (with_reducible refine Kd.C_drew ?_)))
            (case side2 => exact (Kd.R_reads' HO135.out).2.1)
            rintro e w66 ⟨rfl, hb⟩
            refine ⟨_, rfl, ?_⟩
            have n0_ := Aside0.mk (Kd.R_below (by (with_reducible repeat (first | apply Kd.R_alloc | apply Kd.R_drewN | apply Kd.R_drew)); exact HO135.out) hb)
            have n1_ := Aside0.mk (blk_below (g := gb105) (o := .cells #[.int .i64 a0_0, .int .i64 a0_1, .int .i64 a0_2, .string a0_3, .string a0_4, .slice A0_5 l0_5.length c0_5, .slice A0_6 l0_6.length c0_6] 25 (0, 0)) (by (with_reducible repeat (first | refine blk_drewN ?_ _ | refine blk_drew ?_ | refine blk_alloc ?_ _)); exact BK105.out) hb)
            have n2_ := Aside0.mk (below_step (by repeat (first | (with_reducible first | exact HB.out | apply below_alloc | apply pw_below_drewN | apply below_drew1 | refine below_set ?_ GE105.out) | exact HB.out)) hb)
            clear HO135
            clear BK105
            clear HB
            have HO135 := n0_
            have BK105 := n1_
            have HB := n2_
            clear n0_ n1_ n2_
            (try clear hb)
            (try clear hb2)
            (try clear hk)
            (try clear hi)
            refine hK.out _ _ ⟨(blk_cell BK105.out 0).trans rfl, (blk_cell BK105.out 1).trans rfl, (blk_cell BK105.out 2).trans rfl, (blk_cell BK105.out 3).trans rfl, (blk_cell BK105.out 4).trans rfl, (blk_cell BK105.out 5).trans rfl, (blk_cell BK105.out 6).trans rfl⟩ (fun hHeld => ?_)
            clear hK K
            refine norm_ (a' := ?_) ?_ ?_
            rotate_left
            · show Act.put _ (some 82) _ = _
              simp only [Act.put, List.setIfInBounds_toArray, List.set_cons_zero, List.set_cons_succ, i64_w, i32_w]
              rfl
            refine one_ (i := 8) (N := some 85) #[true, true, true, true, true, true, true, true, true, false, false, false] rfl rfl (one_of HT_.out (by kernel_rfl)) (by decide) (fun K hK => ?_)
            refine goes_ Tryd.func41 (by kernel_rfl) rfl #[.int .i64 a0_0] (by rfl) rfl rfl (by (try simp only [List.map_toArray, List.map_cons, List.map_nil]); first | done | rfl | (simp only [List.length_drop, List.length_take]; rfl)) ?_
            with_reducible refine (mail_Long.calls a0_0 t137 _ A59.out).mono ?_
            rintro e w' ⟨rfl, ⟨nd, rfl⟩⟩
            refine ⟨_, rfl, ?_⟩
            refine hK.out _ _ ⟨(blk_cell BK105.out 0).trans rfl, (blk_cell BK105.out 1).trans rfl, (blk_cell BK105.out 2).trans rfl, (blk_cell BK105.out 3).trans rfl, (blk_cell BK105.out 4).trans rfl, (blk_cell BK105.out 5).trans rfl, (blk_cell BK105.out 6).trans rfl⟩ (fun hHeld => ?_)
            clear hK K
            refine norm_ (a' := ?_) ?_ ?_
            rotate_left
            · show Act.put _ (some 85) _ = _
              simp only [Act.put, List.setIfInBounds_toArray, List.set_cons_zero, List.set_cons_succ, i64_w, i32_w]
              rfl
            refine one_ (i := 9) (N := some 86) #[true, true, true, true, true, true, true, true, true, true, false, false] rfl rfl (one_of HT_.out (by kernel_rfl)) (by decide) (fun K hK => ?_)
            refine goes_ Tryd.func40 (by kernel_rfl) rfl #[.string t136, .int .i64 t137] (by rfl) rfl rfl (by (try simp only [List.map_toArray, List.map_cons, List.map_nil]); first | done | rfl | (simp only [List.length_drop, List.length_take]; rfl)) ?_
            with_reducible refine (mail_pad.calls t136 t137 t138 _ A60.out).mono ?_
            rintro e w67 ⟨rfl, hb⟩
            refine ⟨_, rfl, ?_⟩
            have n0_ := Aside0.mk (Kd.R_below (by (with_reducible repeat (first | apply Kd.R_alloc | apply Kd.R_drewN | apply Kd.R_drew)); exact HO135.out) hb)
            have n1_ := Aside0.mk (blk_below (g := gb105) (o := .cells #[.int .i64 a0_0, .int .i64 a0_1, .int .i64 a0_2, .string a0_3, .string a0_4, .slice A0_5 l0_5.length c0_5, .slice A0_6 l0_6.length c0_6] 25 (0, 0)) (by (with_reducible repeat (first | refine blk_drewN ?_ _ | refine blk_drew ?_ | refine blk_alloc ?_ _)); exact BK105.out) hb)
            have n2_ := Aside0.mk (below_step (by repeat (first | (with_reducible first | exact HB.out | apply below_alloc | apply pw_below_drewN | apply below_drew1 | refine below_set ?_ GE105.out) | exact HB.out)) hb)
            clear HO135
            clear BK105
            clear HB
            have HO135 := n0_
            have BK105 := n1_
            have HB := n2_
            clear n0_ n1_ n2_
            (try clear hb)
            (try clear hb2)
            (try clear hk)
            (try clear hi)
            refine hK.out _ _ ⟨(blk_cell BK105.out 0).trans rfl, (blk_cell BK105.out 1).trans rfl, (blk_cell BK105.out 2).trans rfl, (blk_cell BK105.out 3).trans rfl, (blk_cell BK105.out 4).trans rfl, (blk_cell BK105.out 5).trans rfl, (blk_cell BK105.out 6).trans rfl⟩ (fun hHeld => ?_)
            clear hK K
            refine norm_ (a' := ?_) ?_ ?_
            rotate_left
            · show Act.put _ (some 86) _ = _
              simp only [Act.put, List.setIfInBounds_toArray, List.set_cons_zero, List.set_cons_succ, i64_w, i32_w]
              rfl
            refine pure_ (i := 10) (N := some 2) (v := ?_) (a' := ?_) #[true, true, true, true, true, true, true, true, true, true, true, false] rfl rfl (any_of HT_.out (by kernel_rfl)) (fun _ _ _ h => h) (Or.inl ⟨by rfl, ?_⟩) ?_ ?_
            rotate_left
            · intro w'
              go_simp
              with_reducible rfl
            rotate_left
            · simp only [Act.put, List.setIfInBounds_toArray, List.set_cons_zero, List.set_cons_succ, i64_w, i32_w]
              rfl
            refine pure_ (i := 11) (N := some 3) (v := ?_) (a' := ?_) #[true, true, true, true, true, true, true, true, true, true, true, true] rfl rfl (any_of HT_.out (by kernel_rfl)) (fun _ _ _ h => h) (Or.inl ⟨by rfl, ?_⟩) ?_ ?_
            rotate_left
            · intro w'
              go_simp
              with_reducible rfl
            rotate_left
            · simp only [Act.put, List.setIfInBounds_toArray, List.set_cons_zero, List.set_cons_succ, i64_w, i32_w]
              rfl
            refine done_ (done_of HT_.out (by kernel_rfl)) ?_
            try go_wp2
            go_ret2
            exact ⟨by first | rfl | (simp [errW_none, errW_some] <;> rfl) | (simp [*, errW_none, errW_some] <;> rfl), by repeat (first | (with_reducible first | exact HB.out | apply below_alloc | apply pw_below_drewN | apply below_drew1 | refine below_set ?_ GE105.out) | exact HB.out)⟩
  · rw [if_neg c3] at H
    have c3b0 : (t106 == 0) = false := beq_eq_false_iff_ne.mpr c3
    have c3b1 : (t106 != 0) = true := bne_iff_ne.mpr c3
    simp only [Option.some.injEq, Prod.mk.injEq] at H
    obtain ⟨rfl, rfl⟩ := H
    go_enter Tryd.func23, Tryd.ntmps23
    go_wp2_with (first | ((with_reducible refine gate_dst (N := 1) rfl ?_); refine box_event ?hg (N := 1) ?hd (cs := #[.int .i64 a0_0, .int .i64 a0_1, .int .i64 a0_2, .string a0_3, .string a0_4, .slice A0_5 l0_5.length c0_5, .slice A0_6 l0_6.length c0_6]) (t := 25) ?hr ?_; (case hd => rfl); (case hg => rfl); (case hr => first | (go_simp; done) | (go_simp; rfl)); intro gb105 hg w68 hbox hb; have n0_ := Aside0.mk (below_step (by repeat (first | (with_reducible first | exact HB.out | apply below_alloc | apply pw_below_drewN | apply below_drew1) | exact HB.out)) hb); have n1_ := Aside0.mk (hbox); have n2_ := Aside0.mk ((by rw [hg]; exact (below_size (by repeat (first | (with_reducible first | exact HB.out | apply below_alloc | apply pw_below_drewN | apply below_drew1) | exact HB.out))) : w.heap.size ≤ gb105)); have n3_ := Aside0.mk ((by rw [hg]; exact (below_size (by repeat (first | (with_reducible first | exact HB.out | apply below_alloc | apply pw_below_drewN | apply below_drew1) | exact HB.out))) : w.heap.size ≤ gb105)); clear HB; have HB := n0_; have BK105 := n1_; have GW105 := n2_; have GE105 := n3_; clear n0_ n1_ n2_ n3_; clear hb hbox hg; have hcz69_0 : w68.cell? ⟨gb105, 0, none⟩ = some (.int .i64 a0_0) := (blk_cell BK105.out 0).trans rfl; have hcz69_1 : w68.cell? ⟨gb105, 1, none⟩ = some (.int .i64 a0_1) := (blk_cell BK105.out 1).trans rfl; have hcz69_2 : w68.cell? ⟨gb105, 2, none⟩ = some (.int .i64 a0_2) := (blk_cell BK105.out 2).trans rfl; have hcz69_3 : w68.cell? ⟨gb105, 3, none⟩ = some (.string a0_3) := (blk_cell BK105.out 3).trans rfl; have hcz69_4 : w68.cell? ⟨gb105, 4, none⟩ = some (.string a0_4) := (blk_cell BK105.out 4).trans rfl; have hcz69_5 : w68.cell? ⟨gb105, 5, none⟩ = some (.slice A0_5 l0_5.length c0_5) := (blk_cell BK105.out 5).trans rfl; have hcz69_6 : w68.cell? ⟨gb105, 6, none⟩ = some (.slice A0_6 l0_6.length c0_6) := (blk_cell BK105.out 6).trans rfl; have hfz69_0 := blk_frozen BK105.out 0; have hfz69_1 := blk_frozen BK105.out 1; have hfz69_2 := blk_frozen BK105.out 2; have hfz69_3 := blk_frozen BK105.out 3; have hfz69_4 := blk_frozen BK105.out 4; have hfz69_5 := blk_frozen BK105.out 5; have hfz69_6 := blk_frozen BK105.out 6) | ((with_reducible refine gate_callee (f := 38) rfl ?_); refine goesL_ (some 11) rfl rfl Tryd.func38 (by kernel_rfl) rfl #[.agg #[.int .i64 a0_0, .int .i64 a0_1, .int .i64 a0_2, .string a0_3, .string a0_4, .slice A0_5 l0_5.length c0_5, .slice A0_6 l0_6.length c0_6]] rfl (by (try simp only [List.map_toArray, List.map_cons, List.map_nil]); first | done | rfl | (simp only [List.length_drop, List.length_take]; rfl)) ?_; (with_reducible refine (mail_Check.calls k a0_0 a0_1 a0_2 a0_3 a0_4 _ _ l0_5 _ _ l0_6 t106 _ ?side1 ?side2 ?side3 ?side4 A2.out).mono ?_); (case side1 => repeat (first | exact (Kd.C_below HR0_5.out HB.out) | (with_reducible refine Kd.C_alloc ?_ _) | (with_reducible refine Kd.C_drewN ?_ _) | (with_reducible refine Kd.C_drew ?_))); (case side2 => exact HC0_5.out); (case side3 => repeat (first | exact (Kd.C_below HR0_6.out HB.out) | (with_reducible refine Kd.C_alloc ?_ _) | (with_reducible refine Kd.C_drewN ?_ _) | (with_reducible refine Kd.C_drew ?_))); (case side4 => exact HC0_6.out); rintro e w70 ⟨rfl, hb⟩; refine ⟨_, rfl, ?_⟩; have n0_ := Aside0.mk (blk_below (g := gb105) (o := .cells #[.int .i64 a0_0, .int .i64 a0_1, .int .i64 a0_2, .string a0_3, .string a0_4, .slice A0_5 l0_5.length c0_5, .slice A0_6 l0_6.length c0_6] 25 (0, 0)) (by (with_reducible repeat (first | refine blk_drewN ?_ _ | refine blk_drew ?_ | refine blk_alloc ?_ _)); exact BK105.out) hb); have n1_ := Aside0.mk (below_step (by repeat (first | (with_reducible first | exact HB.out | apply below_alloc | apply pw_below_drewN | apply below_drew1 | refine below_set ?_ GE105.out) | exact HB.out)) hb); clear BK105; clear HB; have BK105 := n0_; have HB := n1_; clear n0_ n1_; (try clear hb); (try clear hb2); (try clear hk); (try clear hi)))
    go_ret2
    exact ⟨by first | rfl | (simp [errW_none, errW_some] <;> rfl) | (simp [*, errW_none, errW_some] <;> rfl), by repeat (first | (with_reducible first | exact HB.out | apply below_alloc | apply pw_below_drewN | apply below_drew1 | refine below_set ?_ GE105.out) | exact HB.out)⟩

end Go.Proofs.YtjmgkjjcdnaapaaDoor.PMailA
namespace Go.Proofs.YtjmgkjjcdnaapaaDoor.PMailA
open Go.RowKit Go.Proofs.YtjmgkjjcdnaapaaDoorW.PrintWords Go.Proofs.YtjmgkjjcdnaapaaDoorW.PrintLast Go.Proofs.YtjmgkjjcdnaapaaDoorW.PrintMore
attribute [local go_sem] max2_int min2_int max_two min_two max_three min_three max_four min_four   -- for this text's walks alone
set_option linter.unusedVariables false
set_option linter.unusedSimpArgs false

-- dovecoteref11_slots: by a contract of this session

/-! ### dovecoteref11_id: function 81 -/
/-! ### dovecoteref11_ids: function 65 -/
end Go.Proofs.YtjmgkjjcdnaapaaDoor.PMailA
namespace Go.Proofs.YtjmgkjjcdnaapaaDoor.PMailA
open Go.RowKit Go.Proofs.YtjmgkjjcdnaapaaDoorW.PrintWords Go.Proofs.YtjmgkjjcdnaapaaDoorW.PrintLast Go.Proofs.YtjmgkjjcdnaapaaDoorW.PrintMore
attribute [local go_sem] max2_int min2_int max_two min_two max_three min_three max_four min_four   -- for this text's walks alone
set_option linter.unusedVariables false
set_option linter.unusedSimpArgs false

/-! ### dovecoteref11_Check: function 46 -/
end Go.Proofs.YtjmgkjjcdnaapaaDoor.PMailA
namespace Go.Proofs.YtjmgkjjcdnaapaaDoor.PMailA
open Go.RowKit Go.Proofs.YtjmgkjjcdnaapaaDoorW.PrintWords Go.Proofs.YtjmgkjjcdnaapaaDoorW.PrintLast Go.Proofs.YtjmgkjjcdnaapaaDoorW.PrintMore
attribute [local go_sem] max2_int min2_int max_two min_two max_three min_three max_four min_four   -- for this text's walks alone
set_option linter.unusedVariables false
set_option linter.unusedSimpArgs false

attribute [local go_sem high] eqA68
/-! ### dovecotebook_CopyMail: function 8 -/
/-! ### dovecotebook_SameSlots: function 32 -/
/-! ### dovecotebook_SameTexts: function 33 -/
/-! ### dovecotebook_SameMail: function 11 -/
/-! ### mail_isId: function 73 -/
/-! ### gate_plain: function 26 -/
def gate_plain.f (k : Nat) (a0_0 : Int) (a0_1 : Int) (a0_2 : Int) (a0_3 : ByteArray) (a0_4 : ByteArray) (l0_5 : List (S68)) (l0_6 : List ByteArray) : Option (ByteArray × Int) := (strings_Repeat.f (⟨#[0]⟩ : ByteArray) 32).bind fun t186 => (if a0_0 = 2 then ((mail_Encode.f k a0_0 a0_1 a0_2 a0_3 t186 l0_5 l0_6).bind fun bt187 => (some (bt187.1, bt187.2))) else (if a0_0 = 4 then ((mail_Encode.f k a0_0 a0_1 a0_2 a0_3 t186 l0_5 l0_6).bind fun bt189 => (some (bt189.1, bt189.2))) else (some ((⟨#[]⟩ : ByteArray), 110))))
set_option maxHeartbeats 8000000 in
set_option maxRecDepth 100000 in
theorem gate_plain.calls (k : Nat) (a0_0 : Int) (a0_1 : Int) (a0_2 : Int) (a0_3 : ByteArray) (a0_4 : ByteArray) (A0_5 : Option Addr) (c0_5 : Nat) (l0_5 : List (S68)) (A0_6 : Option Addr) (c0_6 : Nat) (l0_6 : List ByteArray) (r1 : ByteArray) (r2 : Int) (w : World) (hr0_5 : Kd.C k68 w A0_5 l0_5.length l0_5) (hc0_5 : l0_5.length ≤ c0_5) (hr0_6 : Kd.C Kd.string w A0_6 l0_6.length l0_6) (hc0_6 : l0_6.length ≤ c0_6) (h : gate_plain.f k a0_0 a0_1 a0_2 a0_3 a0_4 l0_5 l0_6 = some (r1, r2)) :
    Calls Tryd.prog 26 #[.agg #[.int .i64 a0_0, .int .i64 a0_1, .int .i64 a0_2, .string a0_3, .string a0_4, .slice A0_5 l0_5.length c0_5, .slice A0_6 l0_6.length c0_6]] w fun e w' => e = .returned (.tuple #[.string r1, .int .i64 r2]) ∧ Below w.heap.size w w' := by
  have hu25 := Tryd.underlying25
  have HR0_5 := Aside0.mk hr0_5
  have HC0_5 := Aside0.mk hc0_5
  clear hr0_5 hc0_5
  have HR0_6 := Aside0.mk hr0_6
  have HC0_6 := Aside0.mk hc0_6
  clear hr0_6 hc0_6
  have HB := Aside0.mk (Below.refl w.heap.size w)
  have H : ((strings_Repeat.f (⟨#[0]⟩ : ByteArray) 32).bind fun t186 => (if a0_0 = 2 then ((mail_Encode.f k a0_0 a0_1 a0_2 a0_3 t186 l0_5 l0_6).bind fun bt187 => (some (bt187.1, bt187.2))) else (if a0_0 = 4 then ((mail_Encode.f k a0_0 a0_1 a0_2 a0_3 t186 l0_5 l0_6).bind fun bt189 => (some (bt189.1, bt189.2))) else (some ((⟨#[]⟩ : ByteArray), 110))))) = some (r1, r2) := h
  clear h
  replace H := Option.bind_eq_some_iff.mp H
  obtain ⟨t186, A20, H⟩ := H
  replace H : (if a0_0 = 2 then ((mail_Encode.f k a0_0 a0_1 a0_2 a0_3 t186 l0_5 l0_6).bind fun bt187 => (some (bt187.1, bt187.2))) else (if a0_0 = 4 then ((mail_Encode.f k a0_0 a0_1 a0_2 a0_3 t186 l0_5 l0_6).bind fun bt189 => (some (bt189.1, bt189.2))) else (some ((⟨#[]⟩ : ByteArray), 110)))) = some (r1, r2) := H
  have A2 := Aside0.mk A20
  clear A20
  by_cases c3 : a0_0 = 2
  · rw [if_pos c3] at H
    have c3b0 : (a0_0 == 2) = true := beq_iff_eq.mpr c3
    have c3b1 : (a0_0 != 2) = false := bne_eq_false_iff_eq.mpr c3
    clear c3
    replace H := Option.bind_eq_some_iff.mp H
    obtain ⟨⟨t187, t188⟩, A40, H⟩ := H
    replace H : (some (t187, t188)) = some (r1, r2) := H
    have A4 := Aside0.mk A40
    clear A40
    simp only [Option.some.injEq, Prod.mk.injEq] at H
    obtain ⟨rfl, rfl⟩ := H
    go_enter Tryd.func26, Tryd.ntmps26
    go_wp2_with (first | ((with_reducible refine gate_dst (N := 1) rfl ?_); refine box_event ?hg (N := 1) ?hd (cs := #[.int .i64 a0_0, .int .i64 a0_1, .int .i64 a0_2, .string a0_3, .string a0_4, .slice A0_5 l0_5.length c0_5, .slice A0_6 l0_6.length c0_6]) (t := 25) ?hr ?_; (case hd => rfl); (case hg => rfl); (case hr => first | (go_simp; done) | (go_simp; rfl)); intro gb185 hg w5 hbox hb; have n0_ := Aside0.mk (below_step (by repeat (first | (with_reducible first | exact HB.out | apply below_alloc | apply pw_below_drewN | apply below_drew1) | exact HB.out)) hb); have n1_ := Aside0.mk (hbox); have n2_ := Aside0.mk ((by rw [hg]; exact (below_size (by repeat (first | (with_reducible first | exact HB.out | apply below_alloc | apply pw_below_drewN | apply below_drew1) | exact HB.out))) : w.heap.size ≤ gb185)); have n3_ := Aside0.mk ((by rw [hg]; exact (below_size (by repeat (first | (with_reducible first | exact HB.out | apply below_alloc | apply pw_below_drewN | apply below_drew1) | exact HB.out))) : w.heap.size ≤ gb185)); clear HB; have HB := n0_; have BK185 := n1_; have GW185 := n2_; have GE185 := n3_; clear n0_ n1_ n2_ n3_; clear hb hbox hg) | ((with_reducible refine gate_callee (f := 45) rfl ?_); refine goesL_ (some 4) rfl rfl Tryd.func45 (by kernel_rfl) rfl #[.string (⟨#[0]⟩ : ByteArray), .int .i64 32] rfl (by (try simp only [List.map_toArray, List.map_cons, List.map_nil]); first | done | rfl | (simp only [List.length_drop, List.length_take]; rfl)) ?_; (with_reducible refine (strings_Repeat.calls (⟨#[0]⟩ : ByteArray) 32 t186 _ A2.out).mono ?_); rintro e w6 ⟨rfl, hb⟩; refine ⟨_, rfl, ?_⟩; have n0_ := Aside0.mk (blk_below (g := gb185) (o := .cells #[.int .i64 a0_0, .int .i64 a0_1, .int .i64 a0_2, .string a0_3, .string a0_4, .slice A0_5 l0_5.length c0_5, .slice A0_6 l0_6.length c0_6] 25 (0, 0)) (by (with_reducible repeat (first | refine blk_drewN ?_ _ | refine blk_drew ?_ | refine blk_alloc ?_ _)); exact BK185.out) hb); have n1_ := Aside0.mk (below_step (by repeat (first | (with_reducible first | exact HB.out | apply below_alloc | apply pw_below_drewN | apply below_drew1 | refine below_set ?_ GE185.out) | exact HB.out)) hb); clear BK185; clear HB; have BK185 := n0_; have HB := n1_; clear n0_ n1_; (try clear hb); (try clear hb2); (try clear hk); (try clear hi); have hcz7_0 : w6.cell? ⟨gb185, 0, none⟩ = some (.int .i64 a0_0) := (blk_cell BK185.out 0).trans rfl; have hcz7_1 : w6.cell? ⟨gb185, 1, none⟩ = some (.int .i64 a0_1) := (blk_cell BK185.out 1).trans rfl; have hcz7_2 : w6.cell? ⟨gb185, 2, none⟩ = some (.int .i64 a0_2) := (blk_cell BK185.out 2).trans rfl; have hcz7_3 : w6.cell? ⟨gb185, 3, none⟩ = some (.string a0_3) := (blk_cell BK185.out 3).trans rfl; have hcz7_4 : w6.cell? ⟨gb185, 4, none⟩ = some (.string a0_4) := (blk_cell BK185.out 4).trans rfl; have hcz7_5 : w6.cell? ⟨gb185, 5, none⟩ = some (.slice A0_5 l0_5.length c0_5) := (blk_cell BK185.out 5).trans rfl; have hcz7_6 : w6.cell? ⟨gb185, 6, none⟩ = some (.slice A0_6 l0_6.length c0_6) := (blk_cell BK185.out 6).trans rfl; have hfz7_0 := blk_frozen BK185.out 0; have hfz7_1 := blk_frozen BK185.out 1; have hfz7_2 := blk_frozen BK185.out 2; have hfz7_3 := blk_frozen BK185.out 3; have hfz7_4 := blk_frozen BK185.out 4; have hfz7_5 := blk_frozen BK185.out 5; have hfz7_6 := blk_frozen BK185.out 6) | ((with_reducible refine gate_callee (f := 23) rfl ?_); refine goesL_ (some 15) rfl rfl Tryd.func23 (by kernel_rfl) rfl #[.agg #[.int .i64 a0_0, .int .i64 a0_1, .int .i64 a0_2, .string a0_3, .string t186, .slice A0_5 l0_5.length c0_5, .slice A0_6 l0_6.length c0_6]] rfl (by (try simp only [List.map_toArray, List.map_cons, List.map_nil]); first | done | rfl | (simp only [List.length_drop, List.length_take]; rfl)) ?_; (with_reducible refine (mail_Encode.calls k a0_0 a0_1 a0_2 a0_3 t186 _ _ l0_5 _ _ l0_6 t187 t188 _ ?side1 ?side2 ?side3 ?side4 A4.out).mono ?_); (case side1 => exact Kd.C_below HR0_5.out (by repeat (first | (with_reducible first | exact HB.out | apply below_alloc | apply pw_below_drewN | apply below_drew1 | refine below_set ?_ GE185.out) | exact HB.out))); (case side2 => exact HC0_5.out); (case side3 => exact Kd.C_below HR0_6.out (by repeat (first | (with_reducible first | exact HB.out | apply below_alloc | apply pw_below_drewN | apply below_drew1 | refine below_set ?_ GE185.out) | exact HB.out))); (case side4 => exact HC0_6.out); rintro e w8 ⟨rfl, hb⟩; refine ⟨_, rfl, ?_⟩; have n0_ := Aside0.mk (blk_below (g := gb185) (o := .cells #[.int .i64 a0_0, .int .i64 a0_1, .int .i64 a0_2, .string a0_3, .string t186, .slice A0_5 l0_5.length c0_5, .slice A0_6 l0_6.length c0_6] 25 (0, 0)) (by (with_reducible repeat (first | refine blk_drewN ?_ _ | refine blk_drew ?_ | refine blk_alloc ?_ _)); refine blk_put (cs := #[.int .i64 a0_0, .int .i64 a0_1, .int .i64 a0_2, .string a0_3, .string a0_4, .slice A0_5 l0_5.length c0_5, .slice A0_6 l0_6.length c0_6]) ?_ 4 _ rfl; (with_reducible repeat (first | refine blk_drewN ?_ _ | refine blk_drew ?_ | refine blk_alloc ?_ _)); exact BK185.out) hb); have n1_ := Aside0.mk (below_step (by repeat (first | (with_reducible first | exact HB.out | apply below_alloc | apply pw_below_drewN | apply below_drew1 | refine below_set ?_ GE185.out) | exact HB.out)) hb); clear BK185; clear HB; have BK185 := n0_; have HB := n1_; clear n0_ n1_; (try clear hb); (try clear hb2); (try clear hk); (try clear hi)))
    go_ret2
    exact ⟨by first | rfl | (simp [errW_none, errW_some] <;> rfl) | (simp [*, errW_none, errW_some] <;> rfl), by repeat (first | (with_reducible first | exact HB.out | apply below_alloc | apply pw_below_drewN | apply below_drew1 | refine below_set ?_ GE185.out) | exact HB.out)⟩
  · rw [if_neg c3] at H
    have c3b0 : (a0_0 == 2) = false := beq_eq_false_iff_ne.mpr c3
    have c3b1 : (a0_0 != 2) = true := bne_iff_ne.mpr c3
    by_cases c9 : a0_0 = 4
    · rw [if_pos c9] at H
      have c9b0 : (a0_0 == 4) = true := beq_iff_eq.mpr c9
      have c9b1 : (a0_0 != 4) = false := bne_eq_false_iff_eq.mpr c9
      clear c9
      replace H := Option.bind_eq_some_iff.mp H
      obtain ⟨⟨t189, t190⟩, A100, H⟩ := H
      replace H : (some (t189, t190)) = some (r1, r2) := H
      have A10 := Aside0.mk A100
      clear A100
      simp only [Option.some.injEq, Prod.mk.injEq] at H
      obtain ⟨rfl, rfl⟩ := H
      go_enter Tryd.func26, Tryd.ntmps26
      go_wp2_with (first | ((with_reducible refine gate_dst (N := 1) rfl ?_); refine box_event ?hg (N := 1) ?hd (cs := #[.int .i64 a0_0, .int .i64 a0_1, .int .i64 a0_2, .string a0_3, .string a0_4, .slice A0_5 l0_5.length c0_5, .slice A0_6 l0_6.length c0_6]) (t := 25) ?hr ?_; (case hd => rfl); (case hg => rfl); (case hr => first | (go_simp; done) | (go_simp; rfl)); intro gb185 hg w11 hbox hb; have n0_ := Aside0.mk (below_step (by repeat (first | (with_reducible first | exact HB.out | apply below_alloc | apply pw_below_drewN | apply below_drew1) | exact HB.out)) hb); have n1_ := Aside0.mk (hbox); have n2_ := Aside0.mk ((by rw [hg]; exact (below_size (by repeat (first | (with_reducible first | exact HB.out | apply below_alloc | apply pw_below_drewN | apply below_drew1) | exact HB.out))) : w.heap.size ≤ gb185)); have n3_ := Aside0.mk ((by rw [hg]; exact (below_size (by repeat (first | (with_reducible first | exact HB.out | apply below_alloc | apply pw_below_drewN | apply below_drew1) | exact HB.out))) : w.heap.size ≤ gb185)); clear HB; have HB := n0_; have BK185 := n1_; have GW185 := n2_; have GE185 := n3_; clear n0_ n1_ n2_ n3_; clear hb hbox hg) | ((with_reducible refine gate_callee (f := 45) rfl ?_); refine goesL_ (some 4) rfl rfl Tryd.func45 (by kernel_rfl) rfl #[.string (⟨#[0]⟩ : ByteArray), .int .i64 32] rfl (by (try simp only [List.map_toArray, List.map_cons, List.map_nil]); first | done | rfl | (simp only [List.length_drop, List.length_take]; rfl)) ?_; (with_reducible refine (strings_Repeat.calls (⟨#[0]⟩ : ByteArray) 32 t186 _ A2.out).mono ?_); rintro e w12 ⟨rfl, hb⟩; refine ⟨_, rfl, ?_⟩; have n0_ := Aside0.mk (blk_below (g := gb185) (o := .cells #[.int .i64 a0_0, .int .i64 a0_1, .int .i64 a0_2, .string a0_3, .string a0_4, .slice A0_5 l0_5.length c0_5, .slice A0_6 l0_6.length c0_6] 25 (0, 0)) (by (with_reducible repeat (first | refine blk_drewN ?_ _ | refine blk_drew ?_ | refine blk_alloc ?_ _)); exact BK185.out) hb); have n1_ := Aside0.mk (below_step (by repeat (first | (with_reducible first | exact HB.out | apply below_alloc | apply pw_below_drewN | apply below_drew1 | refine below_set ?_ GE185.out) | exact HB.out)) hb); clear BK185; clear HB; have BK185 := n0_; have HB := n1_; clear n0_ n1_; (try clear hb); (try clear hb2); (try clear hk); (try clear hi); have hcz13_0 : w12.cell? ⟨gb185, 0, none⟩ = some (.int .i64 a0_0) := (blk_cell BK185.out 0).trans rfl; have hcz13_1 : w12.cell? ⟨gb185, 1, none⟩ = some (.int .i64 a0_1) := (blk_cell BK185.out 1).trans rfl; have hcz13_2 : w12.cell? ⟨gb185, 2, none⟩ = some (.int .i64 a0_2) := (blk_cell BK185.out 2).trans rfl; have hcz13_3 : w12.cell? ⟨gb185, 3, none⟩ = some (.string a0_3) := (blk_cell BK185.out 3).trans rfl; have hcz13_4 : w12.cell? ⟨gb185, 4, none⟩ = some (.string a0_4) := (blk_cell BK185.out 4).trans rfl; have hcz13_5 : w12.cell? ⟨gb185, 5, none⟩ = some (.slice A0_5 l0_5.length c0_5) := (blk_cell BK185.out 5).trans rfl; have hcz13_6 : w12.cell? ⟨gb185, 6, none⟩ = some (.slice A0_6 l0_6.length c0_6) := (blk_cell BK185.out 6).trans rfl; have hfz13_0 := blk_frozen BK185.out 0; have hfz13_1 := blk_frozen BK185.out 1; have hfz13_2 := blk_frozen BK185.out 2; have hfz13_3 := blk_frozen BK185.out 3; have hfz13_4 := blk_frozen BK185.out 4; have hfz13_5 := blk_frozen BK185.out 5; have hfz13_6 := blk_frozen BK185.out 6) | ((with_reducible refine gate_callee (f := 23) rfl ?_); refine goesL_ (some 15) rfl rfl Tryd.func23 (by kernel_rfl) rfl #[.agg #[.int .i64 a0_0, .int .i64 a0_1, .int .i64 a0_2, .string a0_3, .string t186, .slice A0_5 l0_5.length c0_5, .slice A0_6 l0_6.length c0_6]] rfl (by (try simp only [List.map_toArray, List.map_cons, List.map_nil]); first | done | rfl | (simp only [List.length_drop, List.length_take]; rfl)) ?_; (with_reducible refine (mail_Encode.calls k a0_0 a0_1 a0_2 a0_3 t186 _ _ l0_5 _ _ l0_6 t189 t190 _ ?side1 ?side2 ?side3 ?side4 A10.out).mono ?_); (case side1 => exact Kd.C_below HR0_5.out (by repeat (first | (with_reducible first | exact HB.out | apply below_alloc | apply pw_below_drewN | apply below_drew1 | refine below_set ?_ GE185.out) | exact HB.out))); (case side2 => exact HC0_5.out); (case side3 => exact Kd.C_below HR0_6.out (by repeat (first | (with_reducible first | exact HB.out | apply below_alloc | apply pw_below_drewN | apply below_drew1 | refine below_set ?_ GE185.out) | exact HB.out))); (case side4 => exact HC0_6.out); rintro e w14 ⟨rfl, hb⟩; refine ⟨_, rfl, ?_⟩; have n0_ := Aside0.mk (blk_below (g := gb185) (o := .cells #[.int .i64 a0_0, .int .i64 a0_1, .int .i64 a0_2, .string a0_3, .string t186, .slice A0_5 l0_5.length c0_5, .slice A0_6 l0_6.length c0_6] 25 (0, 0)) (by (with_reducible repeat (first | refine blk_drewN ?_ _ | refine blk_drew ?_ | refine blk_alloc ?_ _)); refine blk_put (cs := #[.int .i64 a0_0, .int .i64 a0_1, .int .i64 a0_2, .string a0_3, .string a0_4, .slice A0_5 l0_5.length c0_5, .slice A0_6 l0_6.length c0_6]) ?_ 4 _ rfl; (with_reducible repeat (first | refine blk_drewN ?_ _ | refine blk_drew ?_ | refine blk_alloc ?_ _)); exact BK185.out) hb); have n1_ := Aside0.mk (below_step (by repeat (first | (with_reducible first | exact HB.out | apply below_alloc | apply pw_below_drewN | apply below_drew1 | refine below_set ?_ GE185.out) | exact HB.out)) hb); clear BK185; clear HB; have BK185 := n0_; have HB := n1_; clear n0_ n1_; (try clear hb); (try clear hb2); (try clear hk); (try clear hi)))
      go_ret2
      exact ⟨by first | rfl | (simp [errW_none, errW_some] <;> rfl) | (simp [*, errW_none, errW_some] <;> rfl), by repeat (first | (with_reducible first | exact HB.out | apply below_alloc | apply pw_below_drewN | apply below_drew1 | refine below_set ?_ GE185.out) | exact HB.out)⟩
    · rw [if_neg c9] at H
      have c9b0 : (a0_0 == 4) = false := beq_eq_false_iff_ne.mpr c9
      have c9b1 : (a0_0 != 4) = true := bne_iff_ne.mpr c9
      simp only [Option.some.injEq, Prod.mk.injEq] at H
      obtain ⟨rfl, rfl⟩ := H
      go_enter Tryd.func26, Tryd.ntmps26
      go_wp2_with (first | ((with_reducible refine gate_dst (N := 1) rfl ?_); refine box_event ?hg (N := 1) ?hd (cs := #[.int .i64 a0_0, .int .i64 a0_1, .int .i64 a0_2, .string a0_3, .string a0_4, .slice A0_5 l0_5.length c0_5, .slice A0_6 l0_6.length c0_6]) (t := 25) ?hr ?_; (case hd => rfl); (case hg => rfl); (case hr => first | (go_simp; done) | (go_simp; rfl)); intro gb185 hg w15 hbox hb; have n0_ := Aside0.mk (below_step (by repeat (first | (with_reducible first | exact HB.out | apply below_alloc | apply pw_below_drewN | apply below_drew1) | exact HB.out)) hb); have n1_ := Aside0.mk (hbox); have n2_ := Aside0.mk ((by rw [hg]; exact (below_size (by repeat (first | (with_reducible first | exact HB.out | apply below_alloc | apply pw_below_drewN | apply below_drew1) | exact HB.out))) : w.heap.size ≤ gb185)); have n3_ := Aside0.mk ((by rw [hg]; exact (below_size (by repeat (first | (with_reducible first | exact HB.out | apply below_alloc | apply pw_below_drewN | apply below_drew1) | exact HB.out))) : w.heap.size ≤ gb185)); clear HB; have HB := n0_; have BK185 := n1_; have GW185 := n2_; have GE185 := n3_; clear n0_ n1_ n2_ n3_; clear hb hbox hg) | ((with_reducible refine gate_callee (f := 45) rfl ?_); refine goesL_ (some 4) rfl rfl Tryd.func45 (by kernel_rfl) rfl #[.string (⟨#[0]⟩ : ByteArray), .int .i64 32] rfl (by (try simp only [List.map_toArray, List.map_cons, List.map_nil]); first | done | rfl | (simp only [List.length_drop, List.length_take]; rfl)) ?_; (with_reducible refine (strings_Repeat.calls (⟨#[0]⟩ : ByteArray) 32 t186 _ A2.out).mono ?_); rintro e w16 ⟨rfl, hb⟩; refine ⟨_, rfl, ?_⟩; have n0_ := Aside0.mk (blk_below (g := gb185) (o := .cells #[.int .i64 a0_0, .int .i64 a0_1, .int .i64 a0_2, .string a0_3, .string a0_4, .slice A0_5 l0_5.length c0_5, .slice A0_6 l0_6.length c0_6] 25 (0, 0)) (by (with_reducible repeat (first | refine blk_drewN ?_ _ | refine blk_drew ?_ | refine blk_alloc ?_ _)); exact BK185.out) hb); have n1_ := Aside0.mk (below_step (by repeat (first | (with_reducible first | exact HB.out | apply below_alloc | apply pw_below_drewN | apply below_drew1 | refine below_set ?_ GE185.out) | exact HB.out)) hb); clear BK185; clear HB; have BK185 := n0_; have HB := n1_; clear n0_ n1_; (try clear hb); (try clear hb2); (try clear hk); (try clear hi); have hcz17_0 : w16.cell? ⟨gb185, 0, none⟩ = some (.int .i64 a0_0) := (blk_cell BK185.out 0).trans rfl; have hcz17_1 : w16.cell? ⟨gb185, 1, none⟩ = some (.int .i64 a0_1) := (blk_cell BK185.out 1).trans rfl; have hcz17_2 : w16.cell? ⟨gb185, 2, none⟩ = some (.int .i64 a0_2) := (blk_cell BK185.out 2).trans rfl; have hcz17_3 : w16.cell? ⟨gb185, 3, none⟩ = some (.string a0_3) := (blk_cell BK185.out 3).trans rfl; have hcz17_4 : w16.cell? ⟨gb185, 4, none⟩ = some (.string a0_4) := (blk_cell BK185.out 4).trans rfl; have hcz17_5 : w16.cell? ⟨gb185, 5, none⟩ = some (.slice A0_5 l0_5.length c0_5) := (blk_cell BK185.out 5).trans rfl; have hcz17_6 : w16.cell? ⟨gb185, 6, none⟩ = some (.slice A0_6 l0_6.length c0_6) := (blk_cell BK185.out 6).trans rfl; have hfz17_0 := blk_frozen BK185.out 0; have hfz17_1 := blk_frozen BK185.out 1; have hfz17_2 := blk_frozen BK185.out 2; have hfz17_3 := blk_frozen BK185.out 3; have hfz17_4 := blk_frozen BK185.out 4; have hfz17_5 := blk_frozen BK185.out 5; have hfz17_6 := blk_frozen BK185.out 6))
      go_ret2
      exact ⟨by first | rfl | (simp [errW_none, errW_some] <;> rfl) | (simp [*, errW_none, errW_some] <;> rfl), by repeat (first | (with_reducible first | exact HB.out | apply below_alloc | apply pw_below_drewN | apply below_drew1 | refine below_set ?_ GE185.out) | exact HB.out)⟩

/-! ### dovecoteref20_may: function 29 -/
/-! ### dovecoteref20_blank: function 30 -/
-- NOT PRINTED: function 27 (slices_Clone_string_string)

-- NOT PRINTED: function 28 (api_Slot)

end Go.Proofs.YtjmgkjjcdnaapaaDoor.PMailA
namespace Go.Proofs.YtjmgkjjcdnaapaaDoor
open Go.RowKit Go.Proofs.YtjmgkjjcdnaapaaDoor.PMailA Go.Proofs.YtjmgkjjcdnaapaaDoorW.PrintWords Go.Proofs.YtjmgkjjcdnaapaaDoorW.PrintLast Go.Proofs.YtjmgkjjcdnaapaaDoorW.PrintMore
set_option linter.unusedSimpArgs false
set_option linter.unusedVariables false
set_option maxRecDepth 20000
def ad5.T : Bool × List (List Nat × List Nat) := (true, [([], []), ([0], [0]), ([1], [1]), ([2], [2]), ([3, 2], [2, 3]), ([4, 2], [2, 4]), ([5, 2], [2, 5]), ([6, 2], [2, 6]), ([2], [2]), ([8, 2], [2, 8]), ([7, 9, 2, 2], [2, 7, 9]), ([2], [2]), ([11, 2], [2, 11]), ([10, 12, 10, 2], [2, 10, 12]), ([13, 2], [2, 13]), ([2, 14], [2, 14]), ([15, 13], [15])])
def ad5.B : List Nat := [0, 1, 3, 7, 15, 31, 63, 127, 7, 263, 1023, 7, 2055, 8191, 16383, 32767, 65535]
theorem ad5.tab : rtab .any (opsOf Tryd.f17 5) = ad5.T := by kernel_rfl
theorem ad5.bits : waitsOk ad5.T.2 ad5.B = true := by kernel_rfl
def gateL : List UInt8 := [103, 97, 116, 101]
/-- what Admit answers. -/
def admE (l : List Sg) (s : List UInt8) (e : Int) (tag : List UInt8) (q : Int) : Option Nat → Int
  | none => if e ≠ 0 ∨ tag.length ≠ 32 then 110 else 200
  | some j => if e ≠ 0 ∨ tag.length ≠ 32 then 110 else if tagL (l.getD j ⟨0, [], 0⟩).k (gateL ++ s) ≠ tag then 200 else if q ≤ (l.getD j ⟨0, [], 0⟩).q then 170 else 0
structure MsA (w : World) (A5 : Option Addr) (c5 : Nat) (l5 : List S68) (A6 : Option Addr) (c6 : Nat) (l6 : List ByteArray) : Prop where
  s5 : Kd.C k68 w A5 l5.length l5
  h5 : l5.length ≤ c5
  s6 : Kd.C Kd.string w A6 l6.length l6
  h6 : l6.length ≤ c6
theorem MsA.below {w w' : World} {A5 : Option Addr} {c5 : Nat} {l5 : List S68} {A6 : Option Addr} {c6 : Nat} {l6 : List ByteArray} (h : MsA w A5 c5 l5 A6 c6 l6) (hb : Below w.heap.size w w') : MsA w' A5 c5 l5 A6 c6 l6 :=
  ⟨Kd.C_below h.s5 hb, h.h5, Kd.C_below h.s6 hb, h.h6⟩
structure AdH (w0 w : World) (B g : Nat) (v : Value) (gs : List Nat) (l : List Sg) (b : Nat) (cs : Array Value) : Prop where
  b0 : Below w0.heap.size w0 w
  h : GtA B w g v gs l
  m : Blk w b 25 cs
theorem AdH.below {w0 w w' : World} {B g : Nat} {v : Value} {gs : List Nat} {l : List Sg} {b : Nat} {cs : Array Value} (h : AdH w0 w B g v gs l b cs) (hb : Below w.heap.size w w') : AdH w0 w' B g v gs l b cs :=
  ⟨h.b0.trans (hb.mono h.b0.size), h.h.below hb, h.m.below hb h.m.lt⟩
def AdOut (w0 : World) (gs : List Nat) (q r : Int) (o : Option Nat) (e : Ending) (w' : World) : Prop :=
  e = .returned (.int .i64 r) ∧ ∃ w1, Below w0.heap.size w0 w1 ∧ w' = if r = 0 then w1.setCell ⟨gs.getD (o.getD 0) 0, 2, none⟩ (.int .i64 q) else w1
theorem AdOut.no {w0 w' : World} {gs : List Nat} {q r : Int} {o : Option Nat} (h : r ≠ 0) (hb : Below w0.heap.size w0 w') : AdOut w0 gs q r o (.returned (.int .i64 r)) w' := ⟨rfl, w', hb, (if_neg h).symm⟩
theorem AdOut.yes {w0 w1 : World} {gs : List Nat} {q : Int} {j x : Nat} (hb : Below w0.heap.size w0 w1) (hx : gs.getD j 0 = x) : AdOut w0 gs q 0 (some j) (.returned (.int .i64 0)) (w1.setCell ⟨x, 2, none⟩ (.int .i64 q)) := ⟨rfl, w1, hb, by rw [if_pos rfl]; subst hx; rfl⟩
set_option maxHeartbeats 3200000 in
theorem admit_any (kE g B : Nat) (v : Value) (gs : List Nat) (l : List Sg) (kd u q : Int) (text : ByteArray) (tag : List UInt8) (A5 : Option Addr) (c5 : Nat) (l5 : List S68) (A6 : Option Addr) (c6 : Nat) (l6 : List ByteArray) (s : List UInt8) (e0 : Int) (w : World)
    (h : GtA B w g v gs l) (hm : MsA w A5 c5 l5 A6 c6 l6) (hp : gate_plain.f kE kd u q text ⟨tag.toArray⟩ l5 l6 = some (⟨s.toArray⟩, e0)) (o : Option Nat) (ho : fN l u = o)
    (hk : KsAt w) (hks : 0 < w.heap.size) (hkl : ∀ x ∈ l, x.k.length ≤ 1000000) (hsl : s.length ≤ 1000000) (htl : tag.length ≤ 140737488355328) :
    Calls Tryd.prog 17 #[.pointer (some ⟨g, 0, none⟩), .agg #[.int .i64 kd, .int .i64 u, .int .i64 q, .string text, .string ⟨tag.toArray⟩, .slice A5 l5.length c5, .slice A6 l6.length c6]] w fun e w' => AdOut w gs q (admE l s e0 tag q o) o e w' := by
  have H := Lib.hid h
  have HM := Lib.hid hm
  have HP := Lib.hid hp
  have HO := Lib.hid ho
  have HK := Lib.hid hk
  have HKS := Lib.hid hks
  have HKL := Lib.hid hkl
  have HSL := Lib.hid hsl
  have HTL := Lib.hid htl
  have nbw : ∀ (W : World) n, Below W.heap.size W (W.drewN n) := fun W n => Go.Proofs.YtjmgkjjcdnaapaaDoor.below_drewN (Below.refl _ _) n
  obtain ⟨tb, TB⟩ : ∃ t : ByteArray, Hid (⟨tag.toArray⟩ = t) := ⟨_, Lib.hid rfl⟩
  have htb : (tb.size : Int) = (tag.length : Int) := by rw [← TB.out]; simp [ByteArray.size]
  rw [TB.out] at hp ⊢
  have HP := Lib.hid hp
  clear h hm hp ho hk hks hkl hsl htl
  go_enter Tryd.func17, Tryd.ntmps17
  go_upto_region 1 with fail
  refine gworld (fun W => Hid (Blk W w.heap.size 25 #[.int .i64 kd, .int .i64 u, .int .i64 q, .string text, .string tb, .slice A5 l5.length c5, .slice A6 l6.length c6]) ∧ Hid (Below w.heap.size w W)) ⟨Lib.hid (Blk.new w _ _), Lib.hid ((Below.refl _ _).alloc (Nat.le_refl _) _)⟩ ?_
  rintro w1 ⟨HB1, HW1⟩
  obtain ⟨b, hb⟩ : ∃ b, Hid (w.heap.size = b) := ⟨_, Lib.hid rfl⟩
  have D1 := Lib.hid (AdH.mk (w0 := w) HW1.out (H.out.below HW1.out) HB1.out)
  have M1 := Lib.hid (HM.out.below HW1.out)
  rw [hb.out]
  have D1 := Lib.hid (show AdH w w1 B g v gs l b #[.int .i64 kd, .int .i64 u, .int .i64 q, .string text, .string tb, .slice A5 l5.length c5, .slice A6 l6.length c6] by rw [← hb.out]; exact D1.out)
  clear HB1 HW1 hb H HM
  have m0 : w1.cell? ⟨b, 0, none⟩ = some (.int .i64 kd) := D1.out.m.cell 0
  have m1 : w1.cell? ⟨b, 1, none⟩ = some (.int .i64 u) := D1.out.m.cell 1
  have m2 : w1.cell? ⟨b, 2, none⟩ = some (.int .i64 q) := D1.out.m.cell 2
  have m3 : w1.cell? ⟨b, 3, none⟩ = some (.string text) := D1.out.m.cell 3
  have m4 : w1.cell? ⟨b, 4, none⟩ = some (.string tb) := D1.out.m.cell 4
  have m5 : w1.cell? ⟨b, 5, none⟩ = some (.slice A5 l5.length c5) := D1.out.m.cell 5
  have m6 : w1.cell? ⟨b, 6, none⟩ = some (.slice A6 l6.length c6) := D1.out.m.cell 6
  go_wp2_with fail
  refine (gate_plain.calls kE kd u q text tb A5 c5 l5 A6 c6 l6 _ e0 _ M1.out.s5 M1.out.h5 M1.out.s6 M1.out.h6 HP.out).mono ?_
  rintro e w2 ⟨rfl, b2⟩
  have D2 := Lib.hid (D1.out.below b2)
  clear m0 m1 m2 m3 m4 m5 m6 b2 D1 M1
  have m4 : w2.cell? ⟨b, 4, none⟩ = some (.string tb) := D2.out.m.cell 4
  have m1 : w2.cell? ⟨b, 1, none⟩ = some (.int .i64 u) := D2.out.m.cell 1
  by_cases hbad : e0 ≠ 0 ∨ tag.length ≠ 32
  · have HA := Lib.hid (show admE l s e0 tag q o = 110 by cases o <;> exact if_pos hbad)
    rcases Classical.em (e0 = 0) with he | he
    · have ht : ((tb.size : Int) != 32) = true := bne_iff_ne.mpr (by rw [htb]; rcases hbad with h | h <;> omega)
      subst he
      clear hbad htb
      go_wp2_with fail
      go_ret
      rw [HA.out]
      exact AdOut.no (by decide) D2.out.b0
    · have ht : (e0 != 0) = true := bne_iff_ne.mpr he
      clear hbad htb he
      go_wp2_with fail
      go_ret
      rw [HA.out]
      exact AdOut.no (by decide) D2.out.b0
  · have he : (e0 != 0) = false := bne_eq_false_iff_eq.mpr (by omega)
    have ht : ((tb.size : Int) != 32) = false := bne_eq_false_iff_eq.mpr (by rw [htb]; omega)
    have HBAD := Lib.hid hbad
    clear hbad htb
    go_wp2_with fail
    refine (find_any g B v gs l u w2 D2.out.h o HO.out).mono ?_
    rintro e w3 ⟨rfl, b3⟩
    have D3 := Lib.hid (D2.out.below b3)
    clear m1 m4 b3
    cases o with
    | none =>
      have HA := Lib.hid (show admE l s e0 tag q none = 200 from if_neg HBAD.out)
      have e1 : fndV gs none = .pointer none := rfl
      rw [e1]
      go_wp2_with fail
      go_quiet (fail)
      go_wp2_with fail
      go_ret
      rw [HA.out]
      exact AdOut.no (by decide) (D3.out.b0.trans ((nbw _ _).mono D3.out.b0.size))
    | some j =>
      obtain ⟨hj, hju⟩ := fN_some HO.out
      obtain ⟨A', c', b', x, e', e'', hx, hc, hBx, hsx⟩ := D3.out.h.at_ j hj
      have HX := Lib.hid (show gs.getD j 0 = x by rw [List.getD_eq_getElem?_getD, hx]; rfl)
      have HJ := Lib.hid (show l.getD j ⟨0, [], 0⟩ = l[j] by rw [List.getD_eq_getElem?_getD, List.getElem?_eq_getElem hj]; rfl)
      have e1 : fndV gs (some j) = .pointer (some ⟨x, 0, none⟩) := by show Value.pointer (some ⟨gs.getD j 0, 0, none⟩) = _; rw [HX.out]
      rw [e1]
      obtain ⟨k, K⟩ : ∃ k, Hid (l[j].k = k) := ⟨_, Lib.hid rfl⟩
      obtain ⟨L, HL⟩ : ∃ L, Hid (l[j].q = L) := ⟨_, Lib.hid rfl⟩
      obtain ⟨ju, HU⟩ : ∃ L, Hid (l[j].u = L) := ⟨_, Lib.hid rfl⟩
      have BX := Lib.hid (show Blk w3 x 80 #[.int .i64 ju, .string ⟨k.toArray⟩, .int .i64 L] by rw [← K.out, ← HL.out, ← HU.out]; exact hsx)
      have hkx := Lib.hid (show k.length ≤ 1000000 by rw [← K.out]; exact HKL.out _ (List.getElem_mem hj))
      obtain ⟨T, HT⟩ : ∃ T, Hid (tagL k ([[103, 97, 116, 101], s] : List (List UInt8)).flatten = T) := ⟨_, Lib.hid rfl⟩
      have HTL2 := Lib.hid (show T.length ≤ 140737488355328 by rw [← HT.out, tagL_length]; decide)
      have HTAG := Lib.hid (show ∀ (W : World) (A : Option Addr), Strs W A 2 [[103, 97, 116, 101], s] → KsAt W → 0 < W.heap.size → Calls Tryd.prog 25 #[.string ⟨k.toArray⟩, .slice A 2 2] W fun e w' => e = .returned (.string ⟨T.toArray⟩) ∧ Below W.heap.size W w' from fun W A hS hk hg => by
        have := tag_any k A 2 2 [[103, 97, 116, 101], s] W hS (by have := hkx.out; omega) (by
          intro y hy
          have hs := HSL.out
          rcases List.mem_cons.1 hy with h | h
          · rw [h]; decide
          · rw [List.mem_singleton.1 h]; omega) (by decide) hk hg
        rw [HT.out] at this
        exact this)
      obtain ⟨sm, SM⟩ : ∃ b : Bool, Hid ((T == tag) = b) := ⟨_, Lib.hid rfl⟩
      have HSAME := Lib.hid (show ∀ W : World, Calls Tryd.prog 37 #[.string ⟨T.toArray⟩, .string tb] W fun e w' => e = .returned (.bool sm) ∧ Below W.heap.size W w' from fun W => by
        have := same_any T tag W HTL2.out HTL.out
        rw [SM.out, TB.out] at this
        exact this)
      have HA := Lib.hid (show admE l s e0 tag q (some j) = if sm = false then 200 else if q ≤ L then 170 else 0 by
        show (if e0 ≠ 0 ∨ tag.length ≠ 32 then (110 : Int) else if tagL (l.getD j ⟨0, [], 0⟩).k (gateL ++ s) ≠ tag then 200 else if q ≤ (l.getD j ⟨0, [], 0⟩).q then 170 else 0) = _
        rw [if_neg HBAD.out, HJ.out, K.out, HL.out]
        have : tagL k (gateL ++ s) = T := by rw [← HT.out]; simp [gateL]
        rw [this, ← SM.out]
        by_cases h : T = tag
        · rw [if_neg (show ¬ (T ≠ tag) from fun hn => hn h), show (T == tag) = true from beq_iff_eq.mpr h, if_neg (show ¬ (true = false) by decide)]
        · rw [if_pos h, show (T == tag) = false from beq_eq_false_iff_ne.mpr h, if_pos rfl])
      clear hx hc hBx hsx e' e'' HJ K HL HU hju hj
      have BD := Lib.hid (show ∀ o, Below w3.heap.size w3 (w3.drew.alloc o) from fun o => (show Below w3.heap.size w3 w3.drew from nbw w3 1).alloc (Nat.le_refl _) o)
      have BX1 := Lib.hid BX.out.drew
      have BM1 := Lib.hid D3.out.m.drew
      have HKW := Lib.hid (HK.out.below HKS.out D3.out.b0)
      have HKSW := Lib.hid (Nat.lt_of_lt_of_le HKS.out D3.out.b0.size)
      have kx : w3.drew.cell? ⟨x, 1, none⟩ = some (.string ⟨k.toArray⟩) := BX1.out.cell 1
      have mb : w3.drew.cell? ⟨b, 4, none⟩ = some (.string tb) := BM1.out.cell 4
      go_upto_region 5 with fail
      refine start_ (n := 17) (S := fun w' => w'.cell? ⟨x, 1, none⟩ = some (.string ⟨k.toArray⟩) ∧ w'.cell? ⟨b, 4, none⟩ = some (.string tb)) (ds := []) #[false, false, false, false, false, false, false, false, false, false, false, false, false, false, false, false, false] (by kernel_rfl) rfl rfl ⟨kx, mb⟩ (fun hHeld => ?_)
      refine with_tabW ad5.tab ad5.bits (fun HT_ HW_ => ?_)
      refine pure_ (i := 0) (N := some 26) (v := ?_) (a' := ?_) #[true, false, false, false, false, false, false, false, false, false, false, false, false, false, false, false, false] rfl rfl (any_of HT_.out (by kernel_rfl)) (fun _ _ _ h => h) (Or.inl ⟨by rfl, ?_⟩) ?_ ?_
      rotate_left
      · intro w'
        go_simp
        try with_reducible rfl
      rotate_left
      · simp only [Act.put, List.setIfInBounds_toArray, List.set_cons_zero, List.set_cons_succ]
        rfl
      refine pure_ (i := 1) (N := some 27) (v := ?_) (a' := ?_) #[true, true, false, false, false, false, false, false, false, false, false, false, false, false, false, false, false] rfl rfl (any_of HT_.out (by kernel_rfl)) (fun _ _ _ h => h) (Or.inl ⟨by rfl, ?_⟩) ?_ ?_
      rotate_left
      · intro w'
        go_simp
        try with_reducible rfl
      rotate_left
      · simp only [Act.put, List.setIfInBounds_toArray, List.set_cons_zero, List.set_cons_succ]
        rfl
      refine pure_ (i := 2) (N := some 28) (v := ?_) (a' := ?_) #[true, true, true, false, false, false, false, false, false, false, false, false, false, false, false, false, false] rfl rfl (any_of HT_.out (by kernel_rfl)) (fun _ _ _ h => h) (Or.inl ⟨by rfl, ?_⟩) ?_ ?_
      rotate_left
      · intro w'
        go_simp
        try with_reducible rfl
      rotate_left
      · simp only [Act.put, List.setIfInBounds_toArray, List.set_cons_zero, List.set_cons_succ]
        rfl
      refine pure_ (i := 3) (N := some 29) (v := ?_) (a' := ?_) #[true, true, true, true, false, false, false, false, false, false, false, false, false, false, false, false, false] rfl rfl (any_of HT_.out (by kernel_rfl)) (fun _ _ _ h => h) (Or.inl ⟨by rfl, ?_⟩) ?_ ?_
      rotate_left
      · intro w'
        go_simp
        try with_reducible rfl
      rotate_left
      · simp only [Act.put, List.setIfInBounds_toArray, List.set_cons_zero, List.set_cons_succ]
        rfl
      refine pure_ (i := 4) (N := some 30) (v := ?_) (a' := ?_) #[true, true, true, true, true, false, false, false, false, false, false, false, false, false, false, false, false] rfl rfl (any_of HT_.out (by kernel_rfl)) (fun _ _ _ h => h) (Or.inl ⟨by rfl, ?_⟩) ?_ ?_
      rotate_left
      · intro w'
        go_simp
        try with_reducible rfl
      rotate_left
      · simp only [Act.put, List.setIfInBounds_toArray, List.set_cons_zero, List.set_cons_succ]
        rfl
      refine pure_ (i := 5) (N := some 31) (v := ?_) (a' := ?_) #[true, true, true, true, true, true, false, false, false, false, false, false, false, false, false, false, false] rfl rfl (any_of HT_.out (by kernel_rfl)) (fun _ _ _ h => h) (Or.inl ⟨by rfl, ?_⟩) ?_ ?_
      rotate_left
      · intro w'
        go_simp
        try with_reducible rfl
      rotate_left
      · simp only [Act.put, List.setIfInBounds_toArray, List.set_cons_zero, List.set_cons_succ]
        rfl
      refine pure_ (i := 6) (N := some 32) (v := ?_) (a' := ?_) #[true, true, true, true, true, true, true, false, false, false, false, false, false, false, false, false, false] rfl rfl (any_of HT_.out (by kernel_rfl)) (fun _ _ _ h => h) (Or.inl ⟨by rfl, ?_⟩) ?_ ?_
      rotate_left
      · intro w'
        go_simp
        try with_reducible rfl
      rotate_left
      · simp only [Act.put, List.setIfInBounds_toArray, List.set_cons_zero, List.set_cons_succ]
        rfl
      refine pure_ (i := 8) (N := some 34) (v := ?_) (a' := ?_) #[true, true, true, true, true, true, true, false, true, false, false, false, false, false, false, false, false] rfl rfl (any_of HT_.out (by kernel_rfl)) (fun _ _ _ h => h) (Or.inl ⟨by rfl, ?_⟩) ?_ ?_
      rotate_left
      · intro w'
        go_simp
        try with_reducible rfl
      rotate_left
      · simp only [Act.put, List.setIfInBounds_toArray, List.set_cons_zero, List.set_cons_succ]
        rfl
      refine pure_ (i := 11) (N := some 37) (v := ?_) (a' := ?_) #[true, true, true, true, true, true, true, false, true, false, false, true, false, false, false, false, false] rfl rfl (any_of HT_.out (by kernel_rfl)) (fun _ _ _ h => h) (Or.inl ⟨by rfl, ?_⟩) ?_ ?_
      rotate_left
      · intro w'
        go_simp
        try with_reducible rfl
      rotate_left
      · simp only [Act.put, List.setIfInBounds_toArray, List.set_cons_zero, List.set_cons_succ]
        rfl
      refine take_ (i := 7) (N := some 33) (v := ?_) (a' := ?_) #[true, true, true, true, true, true, true, true, true, false, false, true, false, false, false, false, false] rfl rfl (take_ofW HT_.out HW_.out (by kernel_rfl)) (fun _ _ _ h => h) (Or.inl ⟨by rfl, ?_⟩) hHeld ?_ ?_
      rotate_left
      · rintro w' ⟨s0, s1⟩
        go_simp
        try with_reducible rfl
      rotate_left
      · simp only [Act.put, List.setIfInBounds_toArray, List.set_cons_zero, List.set_cons_succ]
        rfl
      refine take_ (i := 12) (N := some 38) (v := ?_) (a' := ?_) #[true, true, true, true, true, true, true, true, true, false, false, true, true, false, false, false, false] rfl rfl (take_ofW HT_.out HW_.out (by kernel_rfl)) (fun _ _ _ h => h) (Or.inl ⟨by rfl, ?_⟩) hHeld ?_ ?_
      rotate_left
      · rintro w' ⟨s0, s1⟩
        go_simp
        try with_reducible rfl
      rotate_left
      · simp only [Act.put, List.setIfInBounds_toArray, List.set_cons_zero, List.set_cons_succ]
        rfl
      refine one_ (i := 9) (N := some 35) #[true, true, true, true, true, true, true, true, true, true, false, true, true, false, false, false, false] rfl rfl (one_of HT_.out (by kernel_rfl)) (by decide) (fun K hK => ?_)
      refine value_ (w1 := ?_) (v := ?_) (by rfl) rfl ?_ ?_
      rotate_left 2
      · go_simp
        constructor
        · rfl
        · rfl
      refine hK.out _ _ ⟨(BX1.out.alloc _).cell 1, (BM1.out.alloc _).cell 4⟩ (fun hHeld => ?_)
      clear hK K
      refine norm_ (a' := ?_) ?_ ?_
      rotate_left
      · show Act.put _ (some 35) _ = _
        simp only [Act.put, List.setIfInBounds_toArray, List.set_cons_zero, List.set_cons_succ]
        rfl
      refine one_ (i := 10) (N := some 36) #[true, true, true, true, true, true, true, true, true, true, true, true, true, false, false, false, false] rfl rfl (one_of HT_.out (by kernel_rfl)) (by decide) (fun K hK => ?_)
      refine goes_ Tryd.func25 (by kernel_rfl) rfl #[.string ⟨k.toArray⟩, .slice (some ⟨w3.drew.heap.size, 0, none⟩) 2 2] (by rfl) rfl rfl (by first | done | rfl | (simp only [List.map_toArray, List.map_cons, List.map_nil]; done) | (simp only [List.map_toArray, List.map_cons, List.map_nil]; rfl)) ?_
      refine (HTAG.out _ _ (strs_two w3.drew 9 [103, 97, 116, 101] s) (HKW.out.below HKSW.out (BD.out _)) (Nat.lt_of_lt_of_le HKSW.out (BD.out _).size)).mono ?_
      rintro e' w4 ⟨rfl, b4⟩
      refine ⟨_, rfl, ?_⟩
      refine hK.out _ _ ⟨((BX1.out.alloc _).below b4 (BX1.out.alloc _).lt).cell 1, ((BM1.out.alloc _).below b4 (BM1.out.alloc _).lt).cell 4⟩ (fun hHeld => ?_)
      clear hK K
      refine norm_ (a' := ?_) ?_ ?_
      rotate_left
      · show Act.put _ (some 36) _ = _
        simp only [Act.put, List.setIfInBounds_toArray, List.set_cons_zero, List.set_cons_succ]
        rfl
      refine one_ (i := 13) (N := some 39) #[true, true, true, true, true, true, true, true, true, true, true, true, true, true, false, false, false] rfl rfl (one_of HT_.out (by kernel_rfl)) (by decide) (fun K hK => ?_)
      refine goes_ Tryd.func37 (by kernel_rfl) rfl #[.string ⟨T.toArray⟩, .string tb] (by rfl) rfl rfl (by first | done | rfl | (simp only [List.map_toArray, List.map_cons, List.map_nil]; done) | (simp only [List.map_toArray, List.map_cons, List.map_nil]; rfl)) ?_
      refine (HSAME.out _).mono ?_
      rintro e' w5 ⟨rfl, b5⟩
      refine ⟨_, rfl, ?_⟩
      refine hK.out _ _ ⟨(((BX1.out.alloc _).below b4 (BX1.out.alloc _).lt).below b5 ((BX1.out.alloc _).below b4 (BX1.out.alloc _).lt).lt).cell 1, (((BM1.out.alloc _).below b4 (BM1.out.alloc _).lt).below b5 ((BM1.out.alloc _).below b4 (BM1.out.alloc _).lt).lt).cell 4⟩ (fun hHeld => ?_)
      clear hK K
      refine norm_ (a' := ?_) ?_ ?_
      rotate_left
      · show Act.put _ (some 39) _ = _
        simp only [Act.put, List.setIfInBounds_toArray, List.set_cons_zero, List.set_cons_succ]
        rfl
      refine pure_ (i := 14) (N := some 40) (v := ?_) (a' := ?_) #[true, true, true, true, true, true, true, true, true, true, true, true, true, true, true, false, false] rfl rfl (any_of HT_.out (by kernel_rfl)) (fun _ _ _ h => h) (Or.inl ⟨by rfl, ?_⟩) ?_ ?_
      rotate_left
      · intro w'
        go_simp
        try with_reducible rfl
      rotate_left
      · simp only [Act.put, List.setIfInBounds_toArray, List.set_cons_zero, List.set_cons_succ]
        rfl
      refine pure_ (i := 15) (N := some 41) (v := ?_) (a' := ?_) #[true, true, true, true, true, true, true, true, true, true, true, true, true, true, true, true, false] rfl rfl (any_of HT_.out (by kernel_rfl)) (fun _ _ _ h => h) (Or.inl ⟨by rfl, ?_⟩) ?_ ?_
      rotate_left
      · intro w'
        go_simp
        try with_reducible rfl
      rotate_left
      · simp only [Act.put, List.setIfInBounds_toArray, List.set_cons_zero, List.set_cons_succ]
        rfl
      refine pure_ (i := 16) (N := some 25) (v := ?_) (a' := ?_) #[true, true, true, true, true, true, true, true, true, true, true, true, true, true, true, true, true] rfl rfl (any_of HT_.out (by kernel_rfl)) (fun _ _ _ h => h) (Or.inl ⟨by rfl, ?_⟩) ?_ ?_
      rotate_left
      · intro w'
        go_simp
        try with_reducible rfl
      rotate_left
      · simp only [Act.put, List.setIfInBounds_toArray, List.set_cons_zero, List.set_cons_succ]
        rfl
      refine done_ (done_of HT_.out (by kernel_rfl)) ?_
      clear HT_ HW_
      have D5 := Lib.hid (((D3.out.below (BD.out _)).below b4).below b5)
      have BX5 := Lib.hid (((BX1.out.alloc _).below b4 (BX1.out.alloc _).lt).below b5 ((BX1.out.alloc _).below b4 (BX1.out.alloc _).lt).lt)
      have HXX := Lib.hid HX.out
      clear kx mb b4 b5 BD BX1 BM1 BX D3 HKW HKSW HX
      have k2 : w5.cell? ⟨x, 2, none⟩ = some (.int .i64 L) := BX5.out.cell 2
      have m2 : w5.cell? ⟨b, 2, none⟩ = some (.int .i64 q) := D5.out.m.cell 2
      cases sm with
      | false =>
        have HA2 := Lib.hid (show admE l s e0 tag q (some j) = 200 by rw [HA.out, if_pos rfl])
        simp only [Bool.not_false]
        go_wp2_with fail
        go_ret
        rw [HA2.out]
        exact AdOut.no (by decide) D5.out.b0
      | true =>
        simp only [Bool.not_true]
        by_cases hq : q ≤ L
        · have hq1 : decide (q ≤ L) = true := decide_eq_true hq
          have HA2 := Lib.hid (show admE l s e0 tag q (some j) = 170 by rw [HA.out, if_neg (by decide), if_pos hq])
          clear hq
          go_wp2_with fail
          go_quiet (fail)
          go_wp2_with fail
          go_ret
          rw [HA2.out]
          exact AdOut.no (by decide) (D5.out.b0.trans ((nbw _ _).mono D5.out.b0.size))
        · have hq1 : decide (q ≤ L) = false := decide_eq_false hq
          have HA2 := Lib.hid (show admE l s e0 tag q (some j) = 0 by rw [HA.out, if_neg (by decide), if_neg hq])
          clear hq
          go_wp2_with fail
          go_quiet (fail)
          have f2 := BX5.out.frozen 2
          go_wp2_with fail
          go_ret
          rw [HA2.out]
          exact AdOut.yes (D5.out.b0.trans ((nbw _ _).mono D5.out.b0.size)) HXX.out
end Go.Proofs.YtjmgkjjcdnaapaaDoor
namespace Go.Proofs.YtjmgkjjcdnaapaaDoor
open Go.RowKit Go.Proofs.YtjmgkjjcdnaapaaDoor.PMailA Go.Proofs.YtjmgkjjcdnaapaaDoorW.PrintWords Go.Proofs.YtjmgkjjcdnaapaaDoorW.PrintLast Go.Proofs.YtjmgkjjcdnaapaaDoorW.PrintMore
set_option linter.unusedSimpArgs false
set_option linter.unusedVariables false
set_option maxRecDepth 20000
/-- a slice that is none, or one that lies somewhere. -/
def Cp {α : Type} (k : Kd α) (w : World) (A : Option Addr) (c : Nat) (l : List α) : Prop := (A = none ∧ c = 0 ∧ l = []) ∨ ((∃ a, A = some a) ∧ k.C w A l.length l ∧ l.length ≤ c ∧ l.length * k.sz < 8796093022208)
section
variable {α : Type} {k : Kd α} {w w' : World} {A : Option Addr} {c : Nat} {l : List α}
theorem Cp.C (h : Cp k w A c l) : k.C w A l.length l := by
  rcases h with ⟨rfl, _, rfl⟩ | h
  · exact Kd.C_nil k w
  · exact h.2.1
theorem Cp.le (h : Cp k w A c l) : l.length ≤ c := by
  rcases h with ⟨_, _, rfl⟩ | h
  · exact Nat.zero_le _
  · exact h.2.2.1
theorem Cp.below (h : Cp k w A c l) (hb : Below w.heap.size w w') : Cp k w' A c l := by
  rcases h with h | ⟨h1, h2, h3⟩
  · exact .inl h
  · exact .inr ⟨h1, Kd.C_below h2 hb, h3⟩
theorem Cp.nil (k : Kd α) (w : World) : Cp k w none 0 [] := .inl ⟨rfl, rfl, rfl⟩
end
/-- a slice that a clone gave. -/
structure Cq {α : Type} (k : Kd α) (e : Nat) (w : World) (base : Nat) (v : Value) (l : List α) : Prop where
  r : k.R e w base (fun _ => True) v l
  s : v = .slice none 0 0 ∨ ∃ a n c, v = .slice (some a) n c
  few : l.length * k.sz < 8796093022208
section
variable {α : Type} {k : Kd α} {e base : Nat} {w w' : World} {v : Value} {l : List α}
theorem Cq.cp (h : Cq k e w base v l) : ∃ A c, v = .slice A l.length c ∧ Cp k w A c l := by
  obtain ⟨A, c, e1, hc, hC⟩ := Kd.R_reads h.r
  refine ⟨A, c, e1, ?_⟩
  rcases h.s with h0 | ⟨a, n, c', h0⟩
  · rw [h0] at e1
    injection e1 with e1 e2 e3
    exact .inl ⟨e1.symm, e3.symm, List.eq_nil_of_length_eq_zero e2.symm⟩
  · rw [h0] at e1
    injection e1 with e1 e2 e3
    exact .inr ⟨⟨a, e1.symm⟩, hC, hc, h.few⟩
theorem Cq.below (h : Cq k e w base v l) (hb : Below w.heap.size w w') : Cq k e w' base v l := ⟨Kd.R_below h.r hb, h.s, h.few⟩
theorem Cq.put (h : Cq k e w base v l) {g i t : Nat} {cs : Array Value} (hk : Blk w g t cs) (ht : ∀ q, q ∈ e :: k.E → q ≠ t) (u : Value) : Cq k e (w.setCell ⟨g, i, none⟩ u) base v l :=
  ⟨Kd.R_mono (Kd.R_far (p := ⟨g, i, none⟩) (Kd.R_types h.r hk ht) (fun _ hk => hk.2) u) (fun _ h => h.1), h.s, h.few⟩
theorem Cq.row (h : Cq k e w base v l) {g t : Nat} {cs cs' : Array Value} (hk : Blk w g t cs) (ht : ∀ q, q ∈ e :: k.E → q ≠ t) : Cq k e (w.setRow g cs') base v l :=
  ⟨Kd.R_mono (Kd.R_move (Kd.R_types h.r hk ht) (fun j hj => heap_setRow_other w g cs' j hj.2)) (fun _ h => h.1), h.s, h.few⟩
end
set_option maxHeartbeats 800000 in
theorem cloneT_any (A : Option Addr) (c : Nat) (l : List ByteArray) (w : World) (h : Cp Kd.string w A c l) :
    Calls Tryd.prog 27 #[.slice A l.length c] w fun e w' => ∃ v, e = .returned v ∧ Cq Kd.string 9 w' w.heap.size v l ∧ Below w.heap.size w w' := by
  rcases h with ⟨rfl, rfl, rfl⟩ | ⟨⟨a, rfl⟩, h2, h3, h4⟩
  · have heq : ∀ W : World, (binOp .eql 23 (.slice none 0 0) (.slice none 0 0)).run Tryd.prog W = .ok (.bool true) W := fun W => Lib.run_eql_slice_nil W 23 9 none 0 0 0 0 Tryd.underlying23
    go_enter Tryd.func27, Tryd.ntmps27
    go_wp2_with fail
    go_ret
    exact ⟨_, rfl, ⟨Kd.R_nil _ _ _ _ _, .inl rfl, by decide⟩, Below.refl _ _⟩
  · have H2 := Lib.hid h2
    have H3 := Lib.hid h3
    have H4 := Lib.hid h4
    clear h2 h3 h4
    have heq : ∀ W : World, (binOp .eql 23 (.slice (some a) l.length c) (.slice none 0 0)).run Tryd.prog W = .ok (.bool false) W := fun W => Lib.run_eql_slice_nil W 23 9 (some a) l.length c 0 0 Tryd.underlying23
    go_enter Tryd.func27, Tryd.ntmps27
    go_wp2_with (first
      | ((with_reducible refine gate_dst (N := 5) rfl ?_); refine Kd.R_lit Kd.string (w0 := w) w.heap.size 9 ?hg (N := 5) ?hd (xs := ([] : List ByteArray)) (inner := []) (ok := fun _ => True) (okp := fun _ => True) ?hr ?hp (fun _ hk => hk) trivial (Below.refl _ _) (Nat.le_refl _) (by simp) ?_; (case hd => rfl); (case hg => rfl); (case hr => first | (go_simp; done) | (go_simp; rfl)); (case hp => exact (Reps.none _ _)); intro v5 w1 ho hb hg_ hnew_; have HO := Lib.hid ho; have HB := Lib.hid hb; have HN := Lib.hid hnew_; clear ho hb hg_ hnew_)
      | ((with_reducible refine gate_builtin (b := .append) (xs := #[.tmp 5, .tmp 6]) rfl ?_); at_builtin; refine Kd.R_append_rows Kd.string (w0 := w) w.heap.size rfl (.tmp 5) (.tmp 6) 23 9 (.string ⟨#[]⟩) 16 rfl Tryd.underlying23 (by kernel_rfl) rfl (by decide) (by omega) v5 [] l _ _ _ (fun _ => True) (fun _ => False) rfl rfl ?aO ?aR (fun _ _ h => h) (fun _ h => h.elim) ?aF ?aB ?aS ?aL ?_; (case aR => exact Kd.C_below H2.out HB.out); (case aB => exact HB.out); (case aF => exact (fun _ _ => trivial)); (case aO => exact HO.out); (case aS => exact HB.out.size); (case aL => have h4_ : l.length * 1 < 8796093022208 := H4.out; simp; omega); intro v7 w2 ho hb hg hat; have HO2 := Lib.hid ho; have HB2 := Lib.hid hb; have HA2 := Lib.hid hat; clear ho hb hg hat))
    go_ret
    refine ⟨_, rfl, ⟨HO2.out, .inr ?_, H4.out⟩, HB2.out⟩
    obtain ⟨A', c', e⟩ := Kd.R_slice HO2.out
    obtain ⟨b0, h0, _⟩ := HN.out
    cases A' with
    | some a' => exact ⟨a', _, c', e⟩
    | none =>
      subst e
      rcases HA2.out with h | ⟨b, h, _⟩
      · rw [h0] at h; cases h
      · cases h
set_option maxHeartbeats 800000 in
theorem cloneS_any (A : Option Addr) (c : Nat) (l : List S68) (w : World) (h : Cp k68 w A c l) :
    Calls Tryd.prog 28 #[.slice A l.length c] w fun e w' => ∃ v, e = .returned v ∧ Cq k68 68 w' w.heap.size v l ∧ Below w.heap.size w w' := by
  rcases h with ⟨rfl, rfl, rfl⟩ | ⟨⟨a, rfl⟩, h2, h3, h4⟩
  · have heq : ∀ W : World, (binOp .eql 22 (.slice none 0 0) (.slice none 0 0)).run Tryd.prog W = .ok (.bool true) W := fun W => Lib.run_eql_slice_nil W 22 68 none 0 0 0 0 Tryd.underlying22
    go_enter Tryd.func28, Tryd.ntmps28
    go_wp2_with fail
    go_ret
    exact ⟨_, rfl, ⟨Kd.R_nil _ _ _ _ _, .inl rfl, by decide⟩, Below.refl _ _⟩
  · have H2 := Lib.hid h2
    have H3 := Lib.hid h3
    have H4 := Lib.hid h4
    clear h2 h3 h4
    have heq : ∀ W : World, (binOp .eql 22 (.slice (some a) l.length c) (.slice none 0 0)).run Tryd.prog W = .ok (.bool false) W := fun W => Lib.run_eql_slice_nil W 22 68 (some a) l.length c 0 0 Tryd.underlying22
    go_enter Tryd.func28, Tryd.ntmps28
    go_wp2_with (first
      | ((with_reducible refine gate_dst (N := 5) rfl ?_); refine Kd.R_lit k68 (w0 := w) w.heap.size 68 ?hg (N := 5) ?hd (xs := ([] : List S68)) (inner := []) (ok := fun _ => True) (okp := fun _ => True) ?hr ?hp (fun _ hk => hk) trivial (Below.refl _ _) (Nat.le_refl _) (by simp) ?_; (case hd => rfl); (case hg => rfl); (case hr => first | (go_simp; done) | (go_simp; rfl)); (case hp => exact (Reps.none _ _)); intro v5 w1 ho hb hg_ hnew_; have HO := Lib.hid ho; have HB := Lib.hid hb; have HN := Lib.hid hnew_; clear ho hb hg_ hnew_)
      | ((with_reducible refine gate_builtin (b := .append) (xs := #[.tmp 5, .tmp 6]) rfl ?_); at_builtin; refine Kd.R_append_rows k68 (w0 := w) w.heap.size rfl (.tmp 5) (.tmp 6) 22 68 (.agg #[.string ⟨#[]⟩, .string ⟨#[]⟩]) 32 rfl Tryd.underlying22 (by kernel_rfl) rfl (by decide) (by omega) v5 [] l _ _ _ (fun _ => True) (fun _ => False) rfl rfl ?aO ?aR (fun _ _ h => h) (fun _ h => h.elim) ?aF ?aB ?aS ?aL ?_; (case aR => exact Kd.C_below H2.out HB.out); (case aB => exact HB.out); (case aF => exact (fun _ _ => trivial)); (case aO => exact HO.out); (case aS => exact HB.out.size); (case aL => have h4_ : l.length * 2 < 8796093022208 := H4.out; simp; omega); intro v7 w2 ho hb hg hat; have HO2 := Lib.hid ho; have HB2 := Lib.hid hb; have HA2 := Lib.hid hat; clear ho hb hg hat))
    go_ret
    refine ⟨_, rfl, ⟨HO2.out, .inr ?_, H4.out⟩, HB2.out⟩
    obtain ⟨A', c', e⟩ := Kd.R_slice HO2.out
    obtain ⟨b0, h0, _⟩ := HN.out
    cases A' with
    | some a' => exact ⟨a', _, c', e⟩
    | none =>
      subst e
      rcases HA2.out with h | ⟨b, h, _⟩
      · rw [h0] at h; cases h
      · cases h
end Go.Proofs.YtjmgkjjcdnaapaaDoor
namespace Go.Proofs.YtjmgkjjcdnaapaaDoor
open Go.RowKit Go.Proofs.YtjmgkjjcdnaapaaDoor.PMailA Go.Proofs.YtjmgkjjcdnaapaaDoorW.PrintWords Go.Proofs.YtjmgkjjcdnaapaaDoorW.PrintLast Go.Proofs.YtjmgkjjcdnaapaaDoorW.PrintMore
set_option linter.unusedSimpArgs false
set_option linter.unusedVariables false
set_option maxRecDepth 20000
abbrev zMl : Array Value := #[.int .i64 0, .int .i64 0, .int .i64 0, .string ⟨#[]⟩, .string ⟨#[]⟩, .slice none 0 0, .slice none 0 0]
theorem size_mail : (Tryd.prog.info? 25).map (·.size) = some 7 := by kernel_rfl
theorem one_mail (kd u q : Int) (text tag : ByteArray) (A5 : Option Addr) (n5 c5 : Nat) (A6 : Option Addr) (n6 c6 : Nat) : (#[.int .i64 kd, .int .i64 u, .int .i64 q, .string text, .string tag, .slice A5 n5 c5, .slice A6 n6 c6] : Array Value).all (·.oneCell') = true := by
  refine all_oneCell_toArray (cs := [.int .i64 kd, .int .i64 u, .int .i64 q, .string text, .string tag, .slice A5 n5 c5, .slice A6 n6 c6]) fun u hu => ?_
  simp only [List.mem_cons, List.not_mem_nil, or_false] at hu
  rcases hu with rfl | rfl | rfl | rfl | rfl | rfl | rfl <;> rfl
structure SgH (w0 w : World) (b r : Nat) (cs rs : Array Value) : Prop where
  b0 : Below w0.heap.size w0 w
  m : Blk w b 25 cs
  z : Blk w r 25 rs
  ne : b ≠ r
  nb : w0.heap.size ≤ b
  nr : w0.heap.size ≤ r
section
variable {w0 w w' : World} {b r : Nat} {cs rs : Array Value}
theorem SgH.below (h : SgH w0 w b r cs rs) (hb : Below w.heap.size w w') : SgH w0 w' b r cs rs := ⟨h.b0.trans (hb.mono h.b0.size), h.m.below hb h.m.lt, h.z.below hb h.z.lt, h.ne, h.nb, h.nr⟩
theorem SgH.put (h : SgH w0 w b r cs rs) (i : Nat) (u : Value) : SgH w0 (w.setCell ⟨b, i, none⟩ u) b r (cs.setIfInBounds i u) rs := ⟨h.b0.setCell h.nb u, h.m.set_ i u, h.z.far (fun e => h.ne e.symm) u, h.ne, h.nb, h.nr⟩
theorem SgH.row (h : SgH w0 w b r cs rs) (cs' : Array Value) : SgH w0 (w.setRow r cs') b r cs cs' :=
  ⟨below_of_only h.b0 (only_setRow (only_refl _ _) _) h.nr h.b0.size, by have := heap_setRow_other w r cs' b h.ne; unfold Blk; rw [this]; exact h.m, h.z.setRow _, h.ne, h.nb, h.nr⟩
theorem SgH.start (w : World) (cs rs : Array Value) : SgH w ((w.alloc (.cells cs 25)).alloc (.cells rs 25)) w.heap.size (w.heap.size + 1) cs rs :=
  ⟨((Below.refl _ _).alloc (Nat.le_refl _) _).alloc (by simp) _, (Blk.new w _ _).alloc _, (by have := Blk.new (w.alloc (.cells cs 25)) 25 rs; simpa using this), by simp, Nat.le_refl _, by simp⟩
end
/-- what Sign gives. -/
def SgOut (w w' : World) (kd u q : Int) (text T : ByteArray) (l5 : List S68) (l6 : List ByteArray) (er : Int) (e : Ending) : Prop :=
  Below w.heap.size w w' ∧ ∃ v, e = .returned (.tuple #[v, .int .i64 er]) ∧ (er ≠ 0 → v = .agg zMl) ∧ (er = 0 → ∃ A5 c5 A6 c6, v = .agg #[.int .i64 kd, .int .i64 u, .int .i64 q, .string text, .string T, .slice A5 l5.length c5, .slice A6 l6.length c6] ∧ Cp k68 w' A5 c5 l5 ∧ Cp Kd.string w' A6 c6 l6)
def sgE (key : List UInt8) (e0 : Int) : Int := if key.length ≠ 32 then 3 else e0
set_option maxHeartbeats 3200000 in
theorem sign_any (kE : Nat) (key : List UInt8) (kd u q : Int) (text tag : ByteArray) (A5 : Option Addr) (c5 : Nat) (l5 : List S68) (A6 : Option Addr) (c6 : Nat) (l6 : List ByteArray) (s : List UInt8) (e0 : Int) (w : World)
    (h5 : Cp k68 w A5 c5 l5) (h6 : Cp Kd.string w A6 c6 l6) (hp : gate_plain.f kE kd u q text tag l5 l6 = some (⟨s.toArray⟩, e0))
    (hk : KsAt w) (hks : 0 < w.heap.size) (hsl : s.length ≤ 1000000) :
    Calls Tryd.prog 9 #[.string ⟨key.toArray⟩, .agg #[.int .i64 kd, .int .i64 u, .int .i64 q, .string text, .string tag, .slice A5 l5.length c5, .slice A6 l6.length c6]] w fun e w' => SgOut w w' kd u q text ⟨(tagL key (gateL ++ s)).toArray⟩ l5 l6 (sgE key e0) e := by
  have H5 := Lib.hid h5
  have H6 := Lib.hid h6
  have HP := Lib.hid hp
  have HK := Lib.hid hk
  have HKS := Lib.hid hks
  have HSL := Lib.hid hsl
  obtain ⟨kb, KB⟩ : ∃ t : ByteArray, Hid (⟨key.toArray⟩ = t) := ⟨_, Lib.hid rfl⟩
  have hkb : (kb.size : Int) = (key.length : Int) := by rw [← KB.out]; simp [ByteArray.size]
  rw [KB.out]
  clear h5 h6 hp hk hks hsl
  go_enter Tryd.func9, Tryd.ntmps9
  go_upto_region 1 with fail
  refine gworld (fun W => Hid (SgH w W w.heap.size (w.heap.size + 1) #[.int .i64 kd, .int .i64 u, .int .i64 q, .string text, .string tag, .slice A5 l5.length c5, .slice A6 l6.length c6] zMl)) (Lib.hid (SgH.start _ _ _)) ?_
  intro w1 D0
  obtain ⟨b, hb⟩ : ∃ b, b = w.heap.size := ⟨_, rfl⟩
  obtain ⟨r, hr⟩ : ∃ r, r = (w.heap.size + 1) := ⟨_, rfl⟩
  rw [← hr, ← hb] at D0
  rw [← hr, ← hb]
  clear hb hr
  by_cases hkey : key.length = 32
  · have ht : ((kb.size : Int) != 32) = false := bne_eq_false_iff_eq.mpr (by rw [hkb]; omega)
    have HE := Lib.hid (show sgE key e0 = e0 from if_neg (fun h => h hkey))
    have HKEY := Lib.hid hkey
    clear hkb hkey
    have m0 : w1.cell? ⟨b, 0, none⟩ = some (.int .i64 kd) := D0.out.m.cell 0
    have m1 : w1.cell? ⟨b, 1, none⟩ = some (.int .i64 u) := D0.out.m.cell 1
    have m2 : w1.cell? ⟨b, 2, none⟩ = some (.int .i64 q) := D0.out.m.cell 2
    have m3 : w1.cell? ⟨b, 3, none⟩ = some (.string text) := D0.out.m.cell 3
    have m4 : w1.cell? ⟨b, 4, none⟩ = some (.string tag) := D0.out.m.cell 4
    have m5 : w1.cell? ⟨b, 5, none⟩ = some (.slice A5 l5.length c5) := D0.out.m.cell 5
    have m6 : w1.cell? ⟨b, 6, none⟩ = some (.slice A6 l6.length c6) := D0.out.m.cell 6
    go_wp2_with fail
    refine (gate_plain.calls kE kd u q text tag A5 c5 l5 A6 c6 l6 _ e0 _ (H5.out.below D0.out.b0).C H5.out.le (H6.out.below D0.out.b0).C H6.out.le HP.out).mono ?_
    rintro e w2 ⟨rfl, b2⟩
    have D2 := Lib.hid (D0.out.below b2)
    clear m0 m1 m2 m3 m4 m5 m6 b2 D0
    by_cases he0 : e0 = 0
    · subst he0
      go_upto_region 6 with fail
      have HT := Lib.hid (show ∀ (W : World) (A : Option Addr), Strs W A 2 [[103, 97, 116, 101], s] → KsAt W → 0 < W.heap.size → Calls Tryd.prog 25 #[.string kb, .slice A 2 2] W fun e w' => e = .returned (.string ⟨(tagL key (gateL ++ s)).toArray⟩) ∧ Below W.heap.size W w' from fun W A hS hk hg => by
        have := tag_any key A 2 2 [[103, 97, 116, 101], s] W hS (by have := HKEY.out; omega) (by
          intro y hy
          have hs := HSL.out
          rcases List.mem_cons.1 hy with h | h
          · rw [h]; decide
          · rw [List.mem_singleton.1 h]; omega) (by decide) hk hg
        rw [KB.out] at this
        have e : ([[103, 97, 116, 101], s] : List (List UInt8)).flatten = gateL ++ s := by simp [gateL]
        rw [e] at this
        exact this)
      obtain ⟨T, ET⟩ : ∃ T : ByteArray, Hid (⟨(tagL key (gateL ++ s)).toArray⟩ = T) := ⟨_, Lib.hid rfl⟩
      rw [ET.out] at HT
      have HK2 := Lib.hid (HK.out.below HKS.out D2.out.b0)
      have HKS2 := Lib.hid (Nat.lt_of_lt_of_le HKS.out D2.out.b0.size)
      go_wp2_with fail
      refine (HT.out _ _ (strs_two w2 9 [103, 97, 116, 101] s) (HK2.out.below HKS2.out ((Below.refl _ _).alloc (Nat.le_refl _) _)) (Nat.lt_of_lt_of_le HKS2.out (by simp))).mono ?_
      rintro e w3 ⟨rfl, b3⟩
      have D3 := Lib.hid ((D2.out.below ((Below.refl _ _).alloc (Nat.le_refl _) _)).below b3)
      clear b3 D2 HT HK2 HKS2
      have f4 := D3.out.m.frozen 4
      have m4 : w3.cell? ⟨b, 4, none⟩ = some (.string tag) := D3.out.m.cell 4
      go_upto_region 7 with fail
      refine gworld (fun W => Hid (SgH w W b r #[.int .i64 kd, .int .i64 u, .int .i64 q, .string text, .string T, .slice A5 l5.length c5, .slice A6 l6.length c6] zMl)) (Lib.hid (D3.out.put 4 _)) ?_
      clear f4 m4 D3
      intro w4 D4
      have m6 : w4.cell? ⟨b, 6, none⟩ = some (.slice A6 l6.length c6) := D4.out.m.cell 6
      have H64 := Lib.hid (H6.out.below D4.out.b0)
      go_wp2_with fail
      refine (cloneT_any A6 c6 l6 w4 H64.out).mono ?_
      rintro e w5 ⟨v6, rfl, hc6, b5⟩
      have D5 := Lib.hid (D4.out.below b5)
      have C6 := Lib.hid hc6
      clear hc6 b5 D4 m6 H64
      obtain ⟨B6, d6, e6, _⟩ := C6.out.cp
      subst e6
      have f6 := D5.out.m.frozen 6
      have m6 : w5.cell? ⟨b, 6, none⟩ = some (.slice A6 l6.length c6) := D5.out.m.cell 6
      go_upto_region 8 with fail
      refine gworld (fun W => Hid (SgH w W b r #[.int .i64 kd, .int .i64 u, .int .i64 q, .string text, .string T, .slice A5 l5.length c5, .slice B6 l6.length d6] zMl) ∧ Hid (Cq Kd.string 9 W w4.heap.size (.slice B6 l6.length d6) l6)) ⟨Lib.hid (D5.out.put 6 _), Lib.hid (C6.out.put D5.out.m (by decide) _)⟩ ?_
      clear f6 m6 D5 C6
      rintro w6 ⟨D6, C6⟩
      have m5 : w6.cell? ⟨b, 5, none⟩ = some (.slice A5 l5.length c5) := D6.out.m.cell 5
      have H56 := Lib.hid (H5.out.below D6.out.b0)
      go_wp2_with fail
      refine (cloneS_any A5 c5 l5 w6 H56.out).mono ?_
      rintro e w7 ⟨v5, rfl, hc5, b7⟩
      have D7 := Lib.hid (D6.out.below b7)
      have C7 := Lib.hid (C6.out.below b7)
      have C5 := Lib.hid hc5
      clear hc5 b7 D6 m5 H56 C6
      obtain ⟨B5, d5, e5, _⟩ := C5.out.cp
      subst e5
      have f5 := D7.out.m.frozen 5
      have m5 : w7.cell? ⟨b, 5, none⟩ = some (.slice A5 l5.length c5) := D7.out.m.cell 5
      go_upto_region 9 with fail
      refine gworld (fun W => Hid (SgH w W b r #[.int .i64 kd, .int .i64 u, .int .i64 q, .string text, .string T, .slice B5 l5.length d5, .slice B6 l6.length d6] zMl) ∧ Hid (Cq Kd.string 9 W w4.heap.size (.slice B6 l6.length d6) l6) ∧ Hid (Cq k68 68 W w6.heap.size (.slice B5 l5.length d5) l5)) ⟨Lib.hid (D7.out.put 5 _), Lib.hid (C7.out.put D7.out.m (by decide) _), Lib.hid (C5.out.put D7.out.m (by decide) _)⟩ ?_
      clear f5 m5 D7 C7 C5
      rintro w8 ⟨D8, C6, C5⟩
      have m0 : w8.cell? ⟨b, 0, none⟩ = some (.int .i64 kd) := D8.out.m.cell 0
      have m1 : w8.cell? ⟨b, 1, none⟩ = some (.int .i64 u) := D8.out.m.cell 1
      have m2 : w8.cell? ⟨b, 2, none⟩ = some (.int .i64 q) := D8.out.m.cell 2
      have m3 : w8.cell? ⟨b, 3, none⟩ = some (.string text) := D8.out.m.cell 3
      have m4 : w8.cell? ⟨b, 4, none⟩ = some (.string T) := D8.out.m.cell 4
      have m5 : w8.cell? ⟨b, 5, none⟩ = some (.slice B5 l5.length d5) := D8.out.m.cell 5
      have m6 : w8.cell? ⟨b, 6, none⟩ = some (.slice B6 l6.length d6) := D8.out.m.cell 6
      have HZ := Lib.hid D8.out.z
      go_wp2_with (first
        | ((with_reducible refine gate_store (t := 25) (p := 4) (v := .tmp 34) rfl ?_); refine wpList_store_row rfl 25 (.tmp 4) (.tmp 34) rfl r #[.int .i64 kd, .int .i64 u, .int .i64 q, .string text, .string T, .slice B5 l5.length d5, .slice B6 l6.length d6] rfl rfl 25 zMl HZ.out size_mail rfl (one_mail _ _ _ _ _ _ _ _ _ _ _) ?_))
      have D9 := Lib.hid (D8.out.row #[.int .i64 kd, .int .i64 u, .int .i64 q, .string text, .string T, .slice B5 l5.length d5, .slice B6 l6.length d6])
      refine bodyPost_ret (results_ct rfl _ _ r 25 _ (0, 0) _ rfl D9.out.z Tryd.underlying25 rfl rfl) rfl ?_
      refine ⟨D9.out.b0, _, by rw [HE.out]; rfl, fun h => absurd HE.out h, fun _ => ?_⟩
      obtain ⟨B5', d5', e5', p5⟩ := (C5.out.row (cs' := #[.int .i64 kd, .int .i64 u, .int .i64 q, .string text, .string T, .slice B5 l5.length d5, .slice B6 l6.length d6]) D8.out.z (by decide)).cp
      obtain ⟨B6', d6', e6', p6⟩ := (C6.out.row (cs' := #[.int .i64 kd, .int .i64 u, .int .i64 q, .string text, .string T, .slice B5 l5.length d5, .slice B6 l6.length d6]) D8.out.z (by decide)).cp
      exact ⟨B5', d5', B6', d6', by rw [← e5', ← e6', ET.out], p5, p6⟩
    · have ht2 : (e0 != 0) = true := bne_iff_ne.mpr he0
      have HZ := Lib.hid D2.out.z
      have HE0 := Lib.hid he0
      clear he0
      go_wp2_with (first
        | ((with_reducible refine gate_store (t := 25) (p := 4) (v := .tmp 19) rfl ?_); refine wpList_store_row rfl 25 (.tmp 4) (.tmp 19) rfl r zMl rfl rfl 25 zMl HZ.out size_mail rfl (one_mail _ _ _ _ _ _ _ _ _ _ _) ?_))
      have D9 := Lib.hid (D2.out.row zMl)
      refine bodyPost_ret (results_ct rfl _ _ r 25 _ (0, 0) _ rfl D9.out.z Tryd.underlying25 rfl rfl) rfl ?_
      exact ⟨D9.out.b0, _, by rw [HE.out]; rfl, fun _ => rfl, fun h => absurd (HE.out.symm.trans h) HE0.out⟩
  · have ht : ((kb.size : Int) != 32) = true := bne_iff_ne.mpr (by rw [hkb]; omega)
    have HE := Lib.hid (show sgE key e0 = 3 from if_pos hkey)
    clear hkb hkey
    have HZ := Lib.hid D0.out.z
    go_wp2_with (first
      | ((with_reducible refine gate_store (t := 25) (p := 4) (v := .tmp 11) rfl ?_); refine wpList_store_row rfl 25 (.tmp 4) (.tmp 11) rfl r zMl rfl rfl 25 zMl HZ.out size_mail rfl (one_mail _ _ _ _ _ _ _ _ _ _ _) ?_))
    have D9 := Lib.hid (D0.out.row zMl)
    refine bodyPost_ret (results_ct rfl _ _ r 25 _ (0, 0) _ rfl D9.out.z Tryd.underlying25 rfl rfl) rfl ?_
    exact ⟨D9.out.b0, _, by rw [HE.out]; rfl, fun _ => rfl, fun h => by rw [HE.out] at h; cases h⟩
end Go.Proofs.YtjmgkjjcdnaapaaDoor
namespace Go.Proofs.YtjmgkjjcdnaapaaDoor
set_option linter.unusedSimpArgs false
set_option linter.unusedVariables false
/-- a text of bytes. -/
def tx (l : List UInt8) : ByteArray := ⟨l.toArray⟩
theorem tx_size (l : List UInt8) : (tx l).size = l.length := by simp [tx, ByteArray.size]
theorem tx_ext {a : ByteArray} {l : List UInt8} (h : a.data.toList = l) : a = tx l := by
  subst h; cases a; simp [tx]
theorem tx_list (l : List UInt8) : (tx l).data.toList = l := by simp [tx]
theorem tx_take (l : List UInt8) (n : Nat) : (tx l).extract 0 n = tx (l.take n) := by
  apply tx_ext
  simp [tx, ByteArray.data_extract]
theorem tx_drop (l : List UInt8) (n : Nat) : (tx l).extract n (tx l).size = tx (l.drop n) := by
  apply tx_ext
  rw [tx_size]
  simp [tx, ByteArray.data_extract]
  exact List.take_of_length_le (by simp)
theorem tx_of (a : ByteArray) : a = tx a.data.toList := tx_ext rfl
end Go.Proofs.YtjmgkjjcdnaapaaDoor
namespace Go.Proofs.YtjmgkjjcdnaapaaDoor
open Go.RowKit Go.Proofs.YtjmgkjjcdnaapaaDoor.PMailA Go.Proofs.YtjmgkjjcdnaapaaDoorW.PrintWords Go.Proofs.YtjmgkjjcdnaapaaDoorW.PrintLast
set_option linter.unusedSimpArgs false
set_option linter.unusedVariables false
/-- a message that may be. -/
def Good (kd u q : Int) (text tag : ByteArray) (ls : List S68) (li : List ByteArray) : Prop :=
  (kd = 1 ∧ u = 0 ∧ q = 0 ∧ text.size = 504 ∧ tag.toList = [] ∧ ls = [] ∧ li = []) ∨
  ((0 ≤ u ∧ u < 64 ∧ 1 ≤ q ∧ q ≤ 2147483647) ∧ text.toList = [] ∧
    ((kd = 2 ∧ tag.size = 32 ∧ ls = [] ∧ li = []) ∨ (kd = 3 ∧ tag.toList = [] ∧ filledB ls = true ∧ li = []) ∨ (kd = 4 ∧ tag.size = 32 ∧ ls = [] ∧ li.length ≤ 4 ∧ (li.any fun a => !idB a) = false)))
theorem chk_f (kd u q : Int) (text tag : ByteArray) (ls : List S68) (li : List ByteArray) :
    mail_Check.f 2 kd u q text tag ls li = mail_Check.j0 2 (decide (0 ≤ u ∧ u < 64 ∧ 1 ≤ q ∧ q ≤ 2147483647)) kd u q text tag ls li := by
  unfold mail_Check.f
  by_cases h1 : 0 ≤ u
  · by_cases h2 : u < 64
    · by_cases h3 : 1 ≤ q
      · simp [h1, h2, h3]
      · simp [h1, h2, h3]
    · simp [h1, h2]
  · simp [h1]
theorem chk_j (b : Bool) (kd u q : Int) (text tag : ByteArray) (ls : List S68) (li : List ByteArray) :
    mail_Check.j0 2 b kd u q text tag ls li = mail_Check.j1 1 b (decide (u = 0 ∧ q = 0)) kd u q text tag ls li := by
  rw [mail_Check.j0]
  by_cases h1 : u = 0
  · by_cases h2 : q = 0
    · simp [h1, h2]
    · have h3 : (q == 0) = false := by simpa using h2
      simp [h1, h2, h3]
  · simp [h1]
theorem chk (kd u q : Int) (text tag : ByteArray) (ls : List S68) (li : List ByteArray) :
    (mail_Check.f 2 kd u q text tag ls li = some 0 ∧ Good kd u q text tag ls li) ∨ mail_Check.f 2 kd u q text tag ls li = some 110 := by
  rw [chk_f, chk_j, mail_Check.j1]
  unfold mail_filled.f mail_stranger.f
  simp only [Option.bind_some]
  repeat' split
  all_goals first | exact Or.inr rfl | skip
  all_goals
    refine Or.inl ⟨rfl, ?_⟩
    unfold Good
    simp_all
    try omega
theorem chk_ev {kd u q : Int} {text tag : ByteArray} {ls : List S68} {li : List ByteArray} :
    (Ev (fun k => mail_Check.f k kd u q text tag ls li) 0 ∧ Good kd u q text tag ls li) ∨ Ev (fun k => mail_Check.f k kd u q text tag ls li) 110 := by
  rcases chk kd u q text tag ls li with ⟨h, g⟩ | h
  · exact Or.inl ⟨Ev.of (fun k => mail_Check.mono _ _ _ _ _ _ _ k) h, g⟩
  · exact Or.inr (Ev.of (fun k => mail_Check.mono _ _ _ _ _ _ _ k) h)
theorem size_nil {a : ByteArray} (h : a.data.toList = []) : a.size = 0 := by
  have e : a.data.toList.length = a.size := Array.length_toList
  rw [h] at e
  exact e.symm
theorem filled_small (l : List S68) : ((l.drop (leadN l)).any someB) = false → ∀ a ∈ l, a.f0.size ≤ 16 ∧ a.f1.size ≤ 222 := by
  induction l with
  | nil => intro _ a ha; cases ha
  | cons b l ih =>
    intro h a ha
    unfold leadN at h ih
    have none_small : ∀ c : S68, someB c = false → c.f0.size ≤ 16 ∧ c.f1.size ≤ 222 := by
      intro c hc
      obtain ⟨h0, h1⟩ := someB_no hc
      rw [ByteArray.toList_eq] at h0 h1
      have e0 := size_nil h0
      have e1 := size_nil h1
      omega
    by_cases hb : entryB b = true
    · rw [List.takeWhile_cons_of_pos hb, List.length_cons, List.drop_succ_cons] at h
      rcases List.mem_cons.1 ha with rfl | ha
      · unfold entryB idB at hb
        simp only [Bool.and_eq_true, beq_iff_eq, decide_eq_true_eq] at hb
        omega
      · exact ih h a ha
    · rw [List.takeWhile_cons_of_neg hb, List.length_nil, List.drop_zero] at h
      have := List.any_eq_false.1 h a ha
      exact none_small a (by simpa using this)
def b8 (x : Int) : UInt8 := UInt8.ofNat (x % 256).toNat
theorem n8_b8 (x : Int) : n8 (b8 x) = x % 256 := by
  unfold n8 b8
  rw [UInt8.toNat_ofNat']
  omega
def slotL (a : S68) : List UInt8 := a.f0.data.toList ++ List.replicate (16 - a.f0.size) 0 ++ [b8 (a.f1.size : Int)] ++ (a.f1.data.toList ++ List.replicate (222 - a.f1.size) 0)
theorem slotL_len (a : S68) (h : a.f0.size ≤ 16 ∧ a.f1.size ≤ 222) : (slotL a).length = 239 := by
  have e0 : a.f0.data.toList.length = a.f0.size := Array.length_toList
  have e1 : a.f1.data.toList.length = a.f1.size := Array.length_toList
  unfold slotL
  simp only [List.length_append, List.length_replicate, List.length_singleton]
  omega
theorem join_eq (ls : List (List UInt8)) (h : ls.length ≤ 100000) (h2 : ls.flatten.length ≤ 100000) : mail_join.f (ls.map tx) = some (tx ls.flatten) := by
  have e : Lib.join ((ls.map tx).map (·.data.toList)) [] = ls.flatten := by
    rw [List.map_map, show ((·.data.toList) ∘ tx) = id from funext fun l => tx_list l, List.map_id]
    unfold Lib.join
    induction ls with
    | nil => rfl
    | cons a l ih =>
      cases l with
      | nil => simp [List.intercalate]
      | cons b l => 
        have := ih (by simp at h ⊢; omega) (by simp at h2 ⊢; omega)
        simp only [List.intercalate, List.intersperse, List.flatten_cons, List.nil_append] at this ⊢
        rw [this]
  unfold mail_join.f
  rw [e, if_pos ⟨by rw [List.length_map]; omega, by omega⟩]
  rfl
theorem pad_eq (l : List UInt8) (n : Nat) (h : l.length ≤ n) (hn : n ≤ 100000) : mail_pad.f (tx l) (n : Int) = some (tx (l ++ List.replicate (n - l.length) 0)) := by
  unfold mail_pad.f strings_Repeat.f
  have e : wrap64 ((n : Int) - ((tx l).size : Int)) = ((n - l.length : Nat) : Int) := by rw [tx_size]; unfold wrap64; omega
  rw [e, if_pos ⟨by omega, by omega, by simp [ByteArray.size]; omega⟩]
  simp only [Option.bind_some, Int.toNat_natCast]
  rw [repeat_zero20]
  have e2 : (⟨(List.replicate (n - l.length) (0 : UInt8)).toArray⟩ : ByteArray) = tx (List.replicate (n - l.length) 0) := rfl
  rw [e2, if_pos (by rw [tx_size, tx_size, List.length_replicate]; omega)]
  exact congrArg some (tx_ext (by rw [ByteArray.data_append, Array.toList_append, tx_list, tx_list]))
theorem strs_b8 (l : List Int) : strOfNums (l.map (· % 256)) = tx (l.map b8) := by
  have e : l.map (· % 256) = (l.map b8).map n8 := by
    rw [List.map_map]
    exact List.map_congr_left fun x _ => (n8_b8 x).symm
  rw [e, strOfNums_n8]
  rfl
def whoL (u q : Int) : List UInt8 := [b8 u, b8 (q / 16777216), b8 (q / 65536), b8 (q / 256), b8 q]
def restL (n : Nat) (y : List UInt8) (li : List ByteArray) : List UInt8 := y ++ (li.map (·.data.toList)).flatten ++ List.replicate (n - (y.length + (li.map (·.data.toList)).flatten.length)) 0
theorem tx_map (li : List ByteArray) : (li.map (·.data.toList)).map tx = li := by
  rw [List.map_map]
  conv => rhs; rw [← List.map_id li]
  exact List.map_congr_left fun a _ => (tx_of a).symm
theorem rd_get (ls : List S68) (i : Nat) (h : i < ls.length) : rd_T68 ls (i : Int) = ls[i] := by
  unfold rd_T68
  rw [Int.toNat_natCast, List.getD_eq_getElem?_getD, List.getElem?_eq_getElem h]
  rfl
theorem l0_ev (ls ls0 : List S68) (li : List ByteArray) (kd u q : Int) (text tag : ByteArray) (n : Nat) (hn : mail_Long.f kd = some (n : Int)) (hn2 : n ≤ 1000) (hs : ∀ a ∈ ls, a.f0.size ≤ 16 ∧ a.f1.size ≤ 222) (hl : li.length ≤ 4) (hls : ls.length ≤ 4) (d : Nat) :
    ∀ (i : Nat) (x : List UInt8), i + d = ls.length → (x ++ ((ls.drop i).map slotL).flatten).length + (li.map (·.data.toList)).flatten.length ≤ n →
      Ev (fun k => mail_Encode.l0 k (tx x) ls (ls.length : Int) (i : Int) kd u q text tag ls0 li) (tx (restL n (x ++ ((ls.drop i).map slotL).flatten) li), 0) := by
  induction d with
  | zero =>
    intro i x hi hb
    obtain rfl : i = ls.length := by omega
    rw [List.drop_length, List.map_nil, List.flatten_nil, List.append_nil] at hb ⊢
    refine Ev.step (f := fun _ => some (tx (restL n x li), 0)) (fun k => ?_) (Ev.now _)
    simp only [mail_Encode.l0]
    have j1 : mail_join.f li = some (tx (li.map (·.data.toList)).flatten) := by
      conv => lhs; rw [← tx_map li]
      exact join_eq _ (by rw [List.length_map]; omega) (by omega)
    have j2 : mail_join.f [tx x, tx (li.map (·.data.toList)).flatten] = some (tx (x ++ (li.map (·.data.toList)).flatten)) := by
      have := join_eq [x, (li.map (·.data.toList)).flatten] (by simp) (by simp only [List.flatten_cons, List.flatten_nil, List.append_nil, List.length_append]; omega)
      simpa using this
    rw [if_neg (by omega), j1]
    simp only [Option.bind_some]
    rw [j2]
    simp only [Option.bind_some]
    rw [hn]
    simp only [Option.bind_some]
    rw [pad_eq _ n (by rw [List.length_append]; exact hb) (by omega)]
    simp only [Option.bind_some]
    rw [List.length_append]
    rfl
  | succ d ih =>
    intro i x hi hb
    have hlt : i < ls.length := by omega
    have hdrop : ls.drop i = ls[i] :: ls.drop (i + 1) := List.drop_eq_getElem_cons hlt
    have hsz := hs ls[i] (List.getElem_mem hlt)
    have e : x ++ ((ls.drop i).map slotL).flatten = (x ++ slotL ls[i]) ++ ((ls.drop (i + 1)).map slotL).flatten := by
      rw [hdrop, List.map_cons, List.flatten_cons, List.append_assoc]
    rw [e] at hb ⊢
    refine Ev.step (f := fun k => mail_Encode.l0 k (tx (x ++ slotL ls[i])) ls (ls.length : Int) ((i + 1 : Nat) : Int) kd u q text tag ls0 li) (fun k => ?_) (ih (i + 1) _ (by omega) hb)
    simp only [mail_Encode.l0]
    rw [if_pos (by omega), if_pos (by omega), if_pos (by omega), rd_get ls i hlt]
    have e0 : ls[i].f0.data.toList.length = ls[i].f0.size := Array.length_toList
    have e1 : ls[i].f1.data.toList.length = ls[i].f1.size := Array.length_toList
    have p0 := pad_eq ls[i].f0.data.toList 16 (by omega) (by omega)
    have p1 := pad_eq ls[i].f1.data.toList 222 (by omega) (by omega)
    rw [← tx_of, e0] at p0
    rw [← tx_of, e1] at p1
    have b := strs_b8 [((ls[i].f1).size : Int)]
    simp only [List.map_cons, List.map_nil] at b
    have hb1 : (x ++ slotL ls[i]).length ≤ 1000 := by rw [List.length_append] at hb; omega
    have j := join_eq [x, ls[i].f0.data.toList ++ List.replicate (16 - ls[i].f0.size) 0, [b8 (ls[i].f1.size : Int)], ls[i].f1.data.toList ++ List.replicate (222 - ls[i].f1.size) 0] (by simp) (by
      have e5 : [x, ls[i].f0.data.toList ++ List.replicate (16 - ls[i].f0.size) 0, [b8 (ls[i].f1.size : Int)], ls[i].f1.data.toList ++ List.replicate (222 - ls[i].f1.size) 0].flatten = x ++ slotL ls[i] := by simp [slotL]
      rw [e5]; omega)
    have e5 : [x, ls[i].f0.data.toList ++ List.replicate (16 - ls[i].f0.size) 0, [b8 (ls[i].f1.size : Int)], ls[i].f1.data.toList ++ List.replicate (222 - ls[i].f1.size) 0].flatten = x ++ slotL ls[i] := by simp [slotL]
    rw [e5] at j
    simp only [List.map_cons, List.map_nil] at j
    have p0' : mail_pad.f ls[i].f0 16 = some (tx (ls[i].f0.data.toList ++ List.replicate (16 - ls[i].f0.size) 0)) := p0
    have p1' : mail_pad.f ls[i].f1 222 = some (tx (ls[i].f1.data.toList ++ List.replicate (222 - ls[i].f1.size) 0)) := p1
    rw [p0']
    simp only [Option.bind_some]
    rw [p1']
    simp only [Option.bind_some]
    rw [b, j]
    simp only [Option.bind_some]
    rw [show wrap64 ((i : Int) + 1) = ((i + 1 : Nat) : Int) by unfold wrap64; omega]
/-- the text of a message that may be. -/
def headL (kd u q : Int) (tag : ByteArray) (ls : List S68) : List UInt8 := b8 kd :: (whoL u q ++ tag.data.toList) ++ (ls.map slotL).flatten
def longN (kd : Int) : Nat := if kd = 2 then 38 else if kd = 3 then 962 else 102
def encL (kd u q : Int) (text tag : ByteArray) (ls : List S68) (li : List ByteArray) : List UInt8 :=
  if kd = 1 then b8 kd :: text.data.toList else restL (longN kd) (headL kd u q tag ls) li
theorem slots_len (ls : List S68) (h : ∀ a ∈ ls, a.f0.size ≤ 16 ∧ a.f1.size ≤ 222) : ((ls.map slotL).flatten).length = 239 * ls.length := by
  induction ls with
  | nil => rfl
  | cons a l ih =>
    rw [List.map_cons, List.flatten_cons, List.length_append, slotL_len a (h a (List.mem_cons_self ..)), ih (fun b hb => h b (List.mem_cons_of_mem _ hb)), List.length_cons]
    omega
theorem ids_len (li : List ByteArray) (h : ∀ a ∈ li, a.size = 16) : ((li.map (·.data.toList)).flatten).length = 16 * li.length := by
  induction li with
  | nil => rfl
  | cons a l ih =>
    have e : a.data.toList.length = a.size := Array.length_toList
    rw [List.map_cons, List.flatten_cons, List.length_append, e, h a (List.mem_cons_self ..), ih (fun b hb => h b (List.mem_cons_of_mem _ hb)), List.length_cons]
    omega
theorem ids_16 {li : List ByteArray} (h : (li.any fun a => !idB a) = false) : ∀ a ∈ li, a.size = 16 := by
  intro a ha
  have := List.any_eq_false.1 h a ha
  simp only [Bool.not_eq_true, Bool.not_eq_false'] at this
  unfold idB at this
  simp only [Bool.and_eq_true, beq_iff_eq] at this
  exact this.1
theorem headL_len (kd u q : Int) (tag : ByteArray) (ls : List S68) (h : ∀ a ∈ ls, a.f0.size ≤ 16 ∧ a.f1.size ≤ 222) : (headL kd u q tag ls).length = 6 + tag.size + 239 * ls.length := by
  have e : tag.data.toList.length = tag.size := Array.length_toList
  unfold headL whoL
  rw [List.length_append, slots_len ls h]
  simp only [List.length_cons, List.length_append, List.length_nil, e]
  omega
theorem restL_len (n : Nat) (y : List UInt8) (li : List ByteArray) (h : y.length + ((li.map (·.data.toList)).flatten).length ≤ n) : (restL n y li).length = n := by
  unfold restL
  simp only [List.length_append, List.length_replicate]
  omega
/-- what a message that may be, of no packet's kind, tells. -/
theorem Good.sizes {kd u q : Int} {text tag : ByteArray} {ls : List S68} {li : List ByteArray} (g : Good kd u q text tag ls li) (h1 : ¬ kd = 1) :
    mail_Long.f kd = some (longN kd : Int) ∧ longN kd ≤ 1000 ∧ (∀ a ∈ ls, a.f0.size ≤ 16 ∧ a.f1.size ≤ 222) ∧ li.length ≤ 4 ∧ ls.length ≤ 4 ∧ tag.size ≤ 32 ∧ (headL kd u q tag ls).length + ((li.map (·.data.toList)).flatten).length ≤ longN kd := by
  rcases g with g | ⟨_, _, ⟨rfl, ht, rfl, rfl⟩ | ⟨rfl, ht, hf, rfl⟩ | ⟨rfl, ht, rfl, h4, hi⟩⟩
  · exact absurd g.1 h1
  · refine ⟨rfl, by decide, fun a ha => (by cases ha), by simp, by simp, by omega, ?_⟩
    rw [headL_len _ _ _ _ _ (fun a ha => (by cases ha)), ht]
    decide
  · have hf2 : ls.length = 4 ∧ ((ls.drop (leadN ls)).any someB) = false := by
      unfold filledB at hf
      simpa using hf
    have hs := filled_small ls hf2.2
    rw [ByteArray.toList_eq] at ht
    have h0 := size_nil ht
    refine ⟨rfl, by decide, hs, by simp, by omega, by omega, ?_⟩
    rw [headL_len _ _ _ _ _ hs, hf2.1, h0]
    decide
  · have h16 := ids_16 hi
    refine ⟨rfl, by decide, fun a ha => (by cases ha), h4, by simp, by omega, ?_⟩
    rw [headL_len _ _ _ _ _ (fun a ha => (by cases ha)), ht, ids_len li h16]
    have e : longN 4 = 102 := rfl
    rw [e, List.length_nil]
    omega
theorem enc_good {kd u q : Int} {text tag : ByteArray} {ls : List S68} {li : List ByteArray} (hc : Ev (fun k => mail_Check.f k kd u q text tag ls li) 0) (g : Good kd u q text tag ls li) :
    Ev (fun k => mail_Encode.f k kd u q text tag ls li) (tx (encL kd u q text tag ls li), 0) := by
  unfold mail_Encode.f
  refine Ev.bind hc ?_
  have b := strs_b8 [kd]
  simp only [List.map_cons, List.map_nil] at b
  by_cases h1 : kd = 1
  · refine Ev.congr (f := fun _ => some (tx (encL kd u q text tag ls li), 0)) (fun k => ?_) (Ev.now _)
    have ht : text.size = 504 := by
      rcases g with g | ⟨_, _, ⟨h, _⟩ | ⟨h, _⟩ | ⟨h, _⟩⟩
      · exact g.2.2.2.1
      all_goals omega
    have e : text.data.toList.length = text.size := Array.length_toList
    have j := join_eq [[b8 kd], text.data.toList] (by simp) (by simp only [List.flatten_cons, List.flatten_nil, List.append_nil, List.length_append, List.length_singleton]; omega)
    simp only [List.map_cons, List.map_nil, List.flatten_cons, List.flatten_nil, List.append_nil] at j
    rw [← tx_of] at j
    rw [if_pos rfl]
    simp only [Option.bind_some]
    rw [if_pos h1, b, j]
    simp only [Option.bind_some]
    rw [encL, if_pos h1]
    rfl
  · obtain ⟨hn, hn2, hs, hl, hls, htg, hsum⟩ := g.sizes h1
    have e : tag.data.toList.length = tag.size := Array.length_toList
    have w5 := strs_b8 [u, q / 16777216, q / 65536, q / 256, q]
    simp only [List.map_cons, List.map_nil] at w5
    have j := join_eq [[b8 kd], whoL u q, tag.data.toList] (by simp) (by simp only [whoL, List.flatten_cons, List.flatten_nil, List.append_nil, List.length_append, List.length_singleton, List.length_cons, List.length_nil]; omega)
    simp only [List.map_cons, List.map_nil, List.flatten_cons, List.flatten_nil, List.append_nil] at j
    rw [← tx_of] at j
    have l := l0_ev ls ls li kd u q text tag (longN kd) hn hn2 hs hl hls ls.length 0 ([b8 kd] ++ (whoL u q ++ tag.data.toList)) (by omega) hsum
    refine Ev.congr (fun k => ?_) (by rw [encL, if_neg h1]; exact l)
    rw [if_pos rfl]
    simp only [Option.bind_some]
    rw [if_neg h1, b, w5]
    show (mail_join.f [tx [b8 kd], tx (whoL u q), tag]).bind _ = _
    rw [j]
    rfl
/-- what Encode gives. -/
theorem enc_any (kd u q : Int) (text tag : ByteArray) (ls : List S68) (li : List ByteArray) :
    (Ev (fun k => mail_Encode.f k kd u q text tag ls li) (tx (encL kd u q text tag ls li), 0) ∧ Good kd u q text tag ls li) ∨ Ev (fun k => mail_Encode.f k kd u q text tag ls li) (⟨#[]⟩, 110) := by
  rcases chk_ev (kd := kd) (u := u) (q := q) (text := text) (tag := tag) (ls := ls) (li := li) with ⟨h, g⟩ | h
  · exact Or.inl ⟨enc_good h g, g⟩
  · refine Or.inr ?_
    unfold mail_Encode.f
    refine Ev.bind h (Ev.congr (f := fun _ => some (⟨#[]⟩, 110)) (fun k => ?_) (Ev.now _))
    rw [if_neg (by decide)]
theorem Good.long {kd u q : Int} {text tag : ByteArray} {ls : List S68} {li : List ByteArray} (g : Good kd u q text tag ls li) :
    mail_Long.f kd = some ((encL kd u q text tag ls li).length : Int) := by
  by_cases h1 : kd = 1
  · have ht : text.size = 504 := by
      rcases g with g | ⟨_, _, ⟨h, _⟩ | ⟨h, _⟩ | ⟨h, _⟩⟩
      · exact g.2.2.2.1
      all_goals omega
    have e : text.data.toList.length = text.size := Array.length_toList
    rw [encL, if_pos h1, List.length_cons, e, ht, h1]
    rfl
  · obtain ⟨hn, _, _, _, _, _, hsum⟩ := g.sizes h1
    rw [encL, if_neg h1, restL_len _ _ _ hsum]
    exact hn
end Go.Proofs.YtjmgkjjcdnaapaaDoor
namespace Go.Proofs.YtjmgkjjcdnaapaaDoor
open Go.RowKit Go.Proofs.YtjmgkjjcdnaapaaDoor.PMailA Go.Proofs.YtjmgkjjcdnaapaaDoorW.PrintWords Go.Proofs.YtjmgkjjcdnaapaaDoorW.PrintLast Go.Proofs.YtjmgkjjcdnaapaaDoorW.PrintMore
set_option linter.unusedSimpArgs false
set_option linter.unusedVariables false
set_option maxRecDepth 20000
/-- a pull's bytes without its tag. -/
def sP (u q : Int) : List UInt8 := b8 2 :: whoL u q ++ List.replicate 32 0
theorem sP_length (u q : Int) : (sP u q).length = 38 := by simp [sP, whoL]
theorem rep0 : strings_Repeat.f (⟨#[0]⟩ : ByteArray) 32 = some (tx (List.replicate 32 0)) := by decide +kernel
theorem chk_pull (u q : Int) (tag : ByteArray) (hu : 0 ≤ u ∧ u < 64) (hq : 1 ≤ q ∧ q ≤ 2147483647) (ht : tag.size = 32) : mail_Check.f 2 2 u q ⟨#[]⟩ tag [] [] = some 0 := by
  rw [chk_f, chk_j, mail_Check.j1]
  simp [hu, hq, ht]
theorem good_pull (u q : Int) (tag : ByteArray) (hu : 0 ≤ u ∧ u < 64) (hq : 1 ≤ q ∧ q ≤ 2147483647) (ht : tag.size = 32) : Good 2 u q ⟨#[]⟩ tag [] [] :=
  .inr ⟨⟨hu.1, hu.2, hq.1, hq.2⟩, by decide +kernel, .inl ⟨rfl, ht, rfl, rfl⟩⟩
theorem enc_pull (u q : Int) (tag : List UInt8) (hu : 0 ≤ u ∧ u < 64) (hq : 1 ≤ q ∧ q ≤ 2147483647) (ht : tag.length = 32) : Ev (fun k => mail_Encode.f k 2 u q ⟨#[]⟩ (tx tag) [] []) (tx (b8 2 :: whoL u q ++ tag), 0) := by
  have hs : (tx tag).size = 32 := by rw [tx_size]; exact ht
  have h := enc_good (Ev.of (fun k => mail_Check.mono _ _ _ _ _ _ _ k) (chk_pull u q _ hu hq hs)) (good_pull u q _ hu hq hs)
  have e : encL 2 u q ⟨#[]⟩ (tx tag) [] [] = b8 2 :: whoL u q ++ tag := by
    simp [encL, headL, restL, longN, tx_list, whoL, ht]
  rw [e] at h
  exact h
theorem plain_pull (u q : Int) (tag : ByteArray) (hu : 0 ≤ u ∧ u < 64) (hq : 1 ≤ q ∧ q ≤ 2147483647) : ∃ k, gate_plain.f k 2 u q ⟨#[]⟩ tag [] [] = some (tx (sP u q), 0) := by
  obtain ⟨k, hk⟩ := (enc_pull u q (List.replicate 32 0) hu hq (by simp)).rounds
  refine ⟨k, ?_⟩
  unfold gate_plain.f
  rw [rep0]
  simp only [Option.bind_some, if_true]
  rw [hk]
  rfl
theorem Cp.empty {α : Type} {k : Kd α} {w w' : World} {A : Option Addr} {c : Nat} (h : Cp k w A c []) : Cp k w' A c [] := by
  rcases h with h | ⟨h1, h2, h3⟩
  · exact .inl h
  · exact .inr ⟨h1, ⟨rfl, h2.2.1, fun h => absurd h (Nat.lt_irrefl 0)⟩, h3⟩
/-- a pulled message: its slices are empty. -/
def Pm (w : World) (v : Value) (u q : Int) (T : List UInt8) : Prop := ∃ A5 c5 A6 c6, v = .agg #[.int .i64 2, .int .i64 u, .int .i64 q, .string ⟨#[]⟩, .string ⟨T.toArray⟩, .slice A5 ([] : List S68).length c5, .slice A6 ([] : List ByteArray).length c6] ∧ Cp k68 w A5 c5 [] ∧ Cp Kd.string w A6 c6 []
theorem Pm.below {w w' : World} {v : Value} {u q : Int} {T : List UInt8} (h : Pm w v u q T) (hb : Below w.heap.size w w') : Pm w' v u q T := by
  obtain ⟨A5, c5, A6, c6, e, h5, h6⟩ := h
  exact ⟨A5, c5, A6, c6, e, h5.below hb, h6.below hb⟩
/-- the tag of a pull. -/
def tgP (key : List UInt8) (u q : Int) : List UInt8 := tagL key (gateL ++ sP u q)
theorem tgP_length (key : List UInt8) (u q : Int) : (tgP key u q).length = 32 := tagL_length _ _
theorem signP_any (key : List UInt8) (u q : Int) (w : World) (hk32 : key.length = 32) (hu : 0 ≤ u ∧ u < 64) (hq : 1 ≤ q ∧ q ≤ 2147483647) (hk : KsAt w) (hks : 0 < w.heap.size) :
    Calls Tryd.prog 9 #[.string ⟨key.toArray⟩, .agg #[.int .i64 2, .int .i64 u, .int .i64 q, .string ⟨#[]⟩, .string ⟨#[]⟩, .slice none 0 0, .slice none 0 0]] w fun e w' => ∃ v, e = .returned (.tuple #[v, .int .i64 0]) ∧ Pm w' v u q (tgP key u q) ∧ Below w.heap.size w w' := by
  obtain ⟨k, hp⟩ := plain_pull u q ⟨#[]⟩ hu hq
  refine (sign_any k key 2 u q ⟨#[]⟩ ⟨#[]⟩ none 0 [] none 0 [] (sP u q) 0 w (Cp.nil _ _) (Cp.nil _ _) hp hk hks (by rw [sP_length]; decide)).mono ?_
  rintro e w' ⟨hb, v, he, _, h0⟩
  have hE : sgE key 0 = 0 := if_neg (fun h => h hk32)
  rw [hE] at he h0
  obtain ⟨A5, c5, A6, c6, ev, h5, h6⟩ := h0 rfl
  exact ⟨v, he, ⟨A5, c5, A6, c6, ev, h5, h6⟩, hb⟩
set_option maxHeartbeats 800000 in
theorem pull_any (key : List UInt8) (q : Int) (w : World) (hk32 : key.length = 32) (hq : 1 ≤ q ∧ q ≤ 2147483647) (hk : KsAt w) (hks : 0 < w.heap.size) :
    Calls Tryd.prog 22 #[.string ⟨key.toArray⟩, .int .i64 q] w fun e w' => ∃ v, e = .returned v ∧ Pm w' v 3 q (tgP key 3 q) ∧ Below w.heap.size w w' := by
  have HS := Lib.hid (fun W => signP_any key 3 q W hk32 (by decide) hq)
  have HK := Lib.hid hk
  have HKS := Lib.hid hks
  obtain ⟨kb, KB⟩ : ∃ t : ByteArray, Hid (⟨key.toArray⟩ = t) := ⟨_, Lib.hid rfl⟩
  rw [KB.out] at HS ⊢
  clear hk hks hq hk32
  go_enter Tryd.func22, Tryd.ntmps22
  go_upto_region 1 with fail
  obtain ⟨r, hr⟩ : ∃ r, Hid (w.heap.size = r) := ⟨_, Lib.hid rfl⟩
  refine gworld (fun W => Hid (Blk W r 25 zMl) ∧ Hid (Below w.heap.size w W)) ⟨Lib.hid (by rw [← hr.out]; exact Blk.new _ _ _), Lib.hid ((Below.refl _ _).alloc (Nat.le_refl _) _)⟩ ?_
  rintro w1 ⟨HZ, HW⟩
  rw [hr.out]
  have HK1 := Lib.hid (HK.out.below HKS.out HW.out)
  have HKS1 := Lib.hid (Nat.lt_of_lt_of_le HKS.out HW.out.size)
  go_wp2_with fail
  refine (HS.out w1 HK1.out HKS1.out).mono ?_
  rintro e w2 ⟨v, rfl, hP, b2⟩
  obtain ⟨A5, c5, A6, c6, ev, h5, h6⟩ := hP
  subst ev
  have H5 := Lib.hid h5
  have H6 := Lib.hid h6
  have HW2 := Lib.hid (HW.out.trans (b2.mono HW.out.size))
  have HZ2 := Lib.hid (HZ.out.below b2 HZ.out.lt)
  clear h5 h6 b2 HK1 HKS1 HW HZ HS
  obtain ⟨T, ET⟩ : ∃ T : ByteArray, Hid (⟨(tgP key 3 q).toArray⟩ = T) := ⟨_, Lib.hid rfl⟩
  rw [ET.out]
  go_upto_region 2 with fail
  refine gworld (fun W => Hid (Blk W w2.heap.size 25 #[.int .i64 2, .int .i64 3, .int .i64 q, .string ⟨#[]⟩, .string T, .slice A5 ([] : List S68).length c5, .slice A6 ([] : List ByteArray).length c6]) ∧ Hid (Below w2.heap.size w2 W)) ⟨Lib.hid (Blk.new _ _ _), Lib.hid ((Below.refl _ _).alloc (Nat.le_refl _) _)⟩ ?_
  obtain ⟨b, hb⟩ : ∃ b, Hid (w2.heap.size = b) := ⟨_, Lib.hid rfl⟩
  rintro w3 ⟨HM, HB3⟩
  have HM := Lib.hid (show Blk w3 b 25 #[.int .i64 2, .int .i64 3, .int .i64 q, .string ⟨#[]⟩, .string T, .slice A5 ([] : List S68).length c5, .slice A6 ([] : List ByteArray).length c6] by rw [← hb.out]; exact HM.out)
  rw [hb.out]
  have m0 : w3.cell? ⟨b, 0, none⟩ = some (.int .i64 2) := HM.out.cell 0
  have m1 : w3.cell? ⟨b, 1, none⟩ = some (.int .i64 3) := HM.out.cell 1
  have m2 : w3.cell? ⟨b, 2, none⟩ = some (.int .i64 q) := HM.out.cell 2
  have m3 : w3.cell? ⟨b, 3, none⟩ = some (.string ⟨#[]⟩) := HM.out.cell 3
  have m4 : w3.cell? ⟨b, 4, none⟩ = some (.string T) := HM.out.cell 4
  have m5 : w3.cell? ⟨b, 5, none⟩ = some (.slice A5 ([] : List S68).length c5) := HM.out.cell 5
  have m6 : w3.cell? ⟨b, 6, none⟩ = some (.slice A6 ([] : List ByteArray).length c6) := HM.out.cell 6
  have HZ3 := Lib.hid (HZ2.out.below HB3.out HZ2.out.lt)
  go_wp2_with (first
    | ((with_reducible refine gate_store (t := 25) (p := 4) (v := .tmp 14) rfl ?_); refine wpList_store_row rfl 25 (.tmp 4) (.tmp 14) rfl r #[.int .i64 2, .int .i64 3, .int .i64 q, .string ⟨#[]⟩, .string T, .slice A5 ([] : List S68).length c5, .slice A6 ([] : List ByteArray).length c6] rfl rfl 25 zMl HZ3.out size_mail rfl (one_mail _ _ _ _ _ _ _ _ _ _ _) ?_))
  have HB4 := Lib.hid (show Below w.heap.size w (w3.setRow r #[.int .i64 2, .int .i64 3, .int .i64 q, .string ⟨#[]⟩, .string T, .slice A5 ([] : List S68).length c5, .slice A6 ([] : List ByteArray).length c6]) from
    below_of_only (HW2.out.trans (HB3.out.mono HW2.out.size)) (only_setRow (only_refl _ _) _) (by rw [hr.out]; exact Nat.le_refl _) (Nat.le_trans HW2.out.size HB3.out.size))
  have HR := Lib.hid (HZ3.out.setRow #[.int .i64 2, .int .i64 3, .int .i64 q, .string ⟨#[]⟩, .string T, .slice A5 ([] : List S68).length c5, .slice A6 ([] : List ByteArray).length c6])
  refine bodyPost_ret (results_cell_row rfl _ _ r 25 _ (0, 0) _ rfl HR.out Tryd.underlying25 rfl rfl) rfl ?_
  exact ⟨_, rfl, ⟨A5, c5, A6, c6, by rw [ET.out], H5.out.empty, H6.out.empty⟩, HB4.out⟩
/-- what Admit does with a signed pull. -/
def adP (l : List Sg) (u q : Int) (T : List UInt8) : Int × List Sg :=
  match fN l u with
  | none => (200, l)
  | some j => if tgP (l.getD j ⟨0, [], 0⟩).k u q ≠ T then (200, l) else if q ≤ (l.getD j ⟨0, [], 0⟩).q then (170, l) else (0, l.set j { l.getD j ⟨0, [], 0⟩ with q := q })
/-- what a gate's Admit turns. -/
def Ad1 (w w' : World) (gs : List Nat) : Prop := ∃ w1, Below w.heap.size w w1 ∧ (w' = w1 ∨ ∃ x ∈ gs, ∃ u, w' = w1.setCell ⟨x, 2, none⟩ u)
theorem GtA.typed {B g : Nat} {w : World} {v : Value} {gs : List Nat} {l : List Sg} (h : GtA B w g v gs l) : ∀ x ∈ gs, B ≤ x ∧ ∃ cs, Blk w x 80 cs := fun x hx => by
  obtain ⟨j, hj, rfl⟩ := List.mem_iff_getElem.1 hx
  have := h.sg j gs[j] (l[j]'(by rw [← h.len]; exact hj)) (List.getElem?_eq_getElem hj) (List.getElem?_eq_getElem _)
  exact ⟨this.1, _, this.2⟩
theorem GtA.set_ {B g j x : Nat} {w : World} {v : Value} {gs : List Nat} {l : List Sg} (h : GtA B w g v gs l) (hx : gs[j]? = some x) (q : Int) : GtA B (w.setCell ⟨x, 2, none⟩ (.int .i64 q)) g v gs (l.set j { l.getD j ⟨0, [], 0⟩ with q := q }) := by
  obtain ⟨hj, ex⟩ := List.getElem?_eq_some_iff.1 hx
  have hjl : j < l.length := by rw [← h.len]; exact hj
  have hX := h.sg j x (l[j]) hx (List.getElem?_eq_getElem hjl)
  refine ⟨h.hg.far (gt_apart h.hg hX.2 (by decide)) _, h.bg, Own.setFar h.vo (fun e => ?_) _, by simpa using h.len, ?_, h.nd, by simpa using h.few⟩
  · obtain ⟨cs, hc⟩ := gt_typed h.vo _ e
    exact absurd (gt_type hX.2 hc) (by decide)
  · intro i y s h1 h2
    by_cases hij : i = j
    · subst hij
      rw [hx] at h1
      obtain rfl := Option.some.inj h1
      rw [List.getElem?_set_self hjl] at h2
      obtain rfl := Option.some.inj h2
      refine ⟨hX.1, ?_⟩
      have := hX.2.set_ 2 (.int .i64 q)
      have e : l.getD i ⟨0, [], 0⟩ = l[i] := by rw [List.getD_eq_getElem?_getD, List.getElem?_eq_getElem hjl]; rfl
      rw [e]
      exact this
    · rw [List.getElem?_set_ne (fun e => hij e.symm)] at h2
      obtain ⟨b1, b2⟩ := h.sg i y s h1 h2
      refine ⟨b1, b2.far (fun e => ?_) _⟩
      have e' : y = x := e
      subst e'
      obtain ⟨hi, ey⟩ := List.getElem?_eq_some_iff.1 h1
      exact hij ((List.getElem_inj h.nd).1 (ey.trans ex.symm))
/-- another gate stays. -/
theorem GtA.other {B g : Nat} {w w' : World} {v : Value} {gs gs' : List Nat} {l : List Sg} (h : GtA B w g v gs l) (ha : Ad1 w w' gs') (ht : ∀ x ∈ gs', ∃ cs, Blk w x 80 cs) (hd : ∀ x ∈ gs', x ∉ gs) : GtA B w' g v gs l := by
  obtain ⟨w1, hb, rfl | ⟨x, hx, u, rfl⟩⟩ := ha
  · exact h.below hb
  · have h1 := h.below hb
    obtain ⟨cs, hc⟩ := ht x hx
    have hc1 := hc.below hb hc.lt
    refine ⟨h1.hg.far (gt_apart h1.hg hc1 (by decide)) _, h1.bg, Own.setFar h1.vo (fun e => ?_) _, h1.len, ?_, h1.nd, h1.few⟩
    · obtain ⟨cs', hc'⟩ := gt_typed h1.vo _ e
      exact absurd (gt_type hc1 hc') (by decide)
    · intro i y s h2 h3
      obtain ⟨b1, b2⟩ := h1.sg i y s h2 h3
      refine ⟨b1, b2.far (fun e => ?_) _⟩
      have e' : y = x := e
      subst e'
      exact hd _ hx (List.mem_of_getElem? h2)
theorem Ad1.blk {w w' : World} {gs : List Nat} (ha : Ad1 w w' gs) (ht : ∀ x ∈ gs, ∃ cs, Blk w x 80 cs) {b : Nat} {t : TypeId} {cs : Array Value} (hb : Blk w b t cs) (hne : t ≠ 80) : Blk w' b t cs := by
  obtain ⟨w1, hw, rfl | ⟨x, hx, u, rfl⟩⟩ := ha
  · exact hb.below hw hb.lt
  · obtain ⟨cs', hc⟩ := ht x hx
    exact (hb.below hw hb.lt).far (gt_apart hb hc hne) u
theorem Ad1.below {B : Nat} {w w' : World} {gs : List Nat} (ha : Ad1 w w' gs) (hB : ∀ x ∈ gs, B ≤ x) (hw : B ≤ w.heap.size) : Below B w w' := by
  obtain ⟨w1, hb, rfl | ⟨x, hx, u, rfl⟩⟩ := ha
  · exact hb.mono hw
  · exact (hb.mono hw).setCell (hB x hx) u
theorem admitP_any (g B : Nat) (v : Value) (gs : List Nat) (l : List Sg) (u q : Int) (T : List UInt8) (m : Value) (w : World) (h : GtA B w g v gs l) (hm : Pm w m u q T) (hT : T.length = 32) (hu : 0 ≤ u ∧ u < 64) (hq : 1 ≤ q ∧ q ≤ 2147483647)
    (hk : KsAt w) (hks : 0 < w.heap.size) (hkl : ∀ x ∈ l, x.k.length ≤ 1000000) :
    Calls Tryd.prog 17 #[.pointer (some ⟨g, 0, none⟩), m] w fun e w' => e = .returned (.int .i64 (adP l u q T).1) ∧ GtA B w' g v gs (adP l u q T).2 ∧ Ad1 w w' gs := by
  obtain ⟨A5, c5, A6, c6, rfl, h5, h6⟩ := hm
  obtain ⟨k, hp⟩ := plain_pull u q (tx T) hu hq
  obtain ⟨o, ho⟩ : ∃ o, fN l u = o := ⟨_, rfl⟩
  refine (admit_any k g B v gs l 2 u q ⟨#[]⟩ T A5 c5 [] A6 c6 [] (sP u q) 0 w h ⟨h5.C, h5.le, h6.C, h6.le⟩ hp o ho hk hks hkl (by rw [sP_length]; decide) (by rw [hT]; decide)).mono ?_
  rintro e w' ⟨he, w1, hb, hw⟩
  have h32 : ¬ ((0 : Int) ≠ 0 ∨ T.length ≠ 32) := by omega
  cases o with
  | none =>
    have ea : admE l (sP u q) 0 T q none = 200 := if_neg h32
    have ep : adP l u q T = (200, l) := by unfold adP; rw [ho]
    rw [ea] at he hw
    rw [if_neg (by decide)] at hw
    subst hw
    rw [ep]
    exact ⟨he, h.below hb, _, hb, .inl rfl⟩
  | some j =>
    obtain ⟨hj, _⟩ := fN_some ho
    have ex : gs[j]? = some (gs[j]'(by rw [h.len]; exact hj)) := List.getElem?_eq_getElem _
    have egd : gs.getD j 0 = gs[j]'(by rw [h.len]; exact hj) := by rw [List.getD_eq_getElem?_getD, ex]; rfl
    have ea : admE l (sP u q) 0 T q (some j) = if tgP (l.getD j ⟨0, [], 0⟩).k u q ≠ T then 200 else if q ≤ (l.getD j ⟨0, [], 0⟩).q then 170 else 0 := if_neg h32
    have ep : adP l u q T = if tgP (l.getD j ⟨0, [], 0⟩).k u q ≠ T then (200, l) else if q ≤ (l.getD j ⟨0, [], 0⟩).q then (170, l) else (0, l.set j { l.getD j ⟨0, [], 0⟩ with q := q }) := by unfold adP; rw [ho]
    rw [ea] at he hw
    rw [ep]
    split at he
    · rename_i hc
      rw [if_pos hc, if_neg (by decide)] at hw
      subst hw
      rw [if_pos hc]
      exact ⟨he, h.below hb, _, hb, .inl rfl⟩
    · rename_i hc
      rw [if_neg hc] at hw
      rw [if_neg hc]
      split at he
      · rename_i hq
        rw [if_pos hq, if_neg (by decide)] at hw
        subst hw
        rw [if_pos hq]
        exact ⟨he, h.below hb, _, hb, .inl rfl⟩
      · rename_i hq
        rw [if_neg hq, if_pos rfl] at hw
        subst hw
        rw [if_neg hq]
        show _ ∧ GtA B (w1.setCell ⟨gs.getD j 0, 2, none⟩ (.int .i64 q)) g v gs _ ∧ Ad1 w (w1.setCell ⟨gs.getD j 0, 2, none⟩ (.int .i64 q)) gs
        rw [egd]
        exact ⟨he, (h.below hb).set_ ex q, _, hb, .inr ⟨_, List.getElem_mem _, _, rfl⟩⟩
end Go.Proofs.YtjmgkjjcdnaapaaDoor
namespace Go.Proofs.YtjmgkjjcdnaapaaDoor
open Go.RowKit Go.Proofs.YtjmgkjjcdnaapaaDoor.PMailA Go.Proofs.YtjmgkjjcdnaapaaDoorW.PrintWords Go.Proofs.YtjmgkjjcdnaapaaDoorW.PrintLast Go.Proofs.YtjmgkjjcdnaapaaDoorW.PrintMore
set_option linter.unusedSimpArgs false
set_option linter.unusedVariables false
set_option maxRecDepth 20000
def kyL : List UInt8 := [116, 104, 105, 114, 116, 121, 45, 116, 119, 111, 32, 98, 121, 116, 101, 115, 32, 97, 114, 101, 32, 106, 117, 115, 116, 32, 97, 32, 107, 101, 121, 46]
theorem kyL_length : kyL.length = 32 := by decide
def one3 (q : Int) : List Sg := [⟨3, kyL, q⟩]
theorem adP_some {l : List Sg} {u q : Int} {T : List UInt8} {j : Nat} {s : Sg} (ho : fN l u = some j) (hs : l.getD j ⟨0, [], 0⟩ = s) : adP l u q T = if tgP s.k u q ≠ T then (200, l) else if q ≤ s.q then (170, l) else (0, l.set j { s with q := q }) := by
  unfold adP; rw [ho]; subst hs; rfl
theorem adP_one (p q : Int) : adP (one3 p) 3 q (tgP kyL 3 q) = if q ≤ p then (170, one3 p) else (0, one3 q) := by
  have hf : fN (one3 p) 3 = some 0 := by simp [fN, one3]
  unfold adP
  rw [hf]
  show (if tgP kyL 3 q ≠ tgP kyL 3 q then _ else if q ≤ p then _ else _) = _
  rw [if_neg (fun h => h rfl)]
  rfl
theorem one_key (q : Int) : ∀ x ∈ one3 q, x.k.length ≤ 1000000 := fun x hx => by
  rw [List.mem_singleton.1 hx]; show kyL.length ≤ _; rw [kyL_length]; decide
theorem acc_lit (w : World) (l : List Ac) (h : l.length ≤ 1000) : Accs (w.alloc (.cells (l.flatMap fun a => [Value.int .i64 a.u, .string ⟨a.k.toArray⟩]).toArray 44)) (some ⟨w.heap.size, 0, none⟩) l.length l.length l := by
  refine ⟨rfl, Nat.le_refl _, by omega, fun hn => ⟨w.heap.size, 0, rfl, by simp, fun i x hx => ?_⟩⟩
  have key : ∀ (l : List Ac) (i : Nat) (x : Ac), l[i]? = some x → (l.flatMap fun a => [Value.int .i64 a.u, .string ⟨a.k.toArray⟩])[i * 2]? = some (.int .i64 x.u) ∧ (l.flatMap fun a => [Value.int .i64 a.u, .string ⟨a.k.toArray⟩])[i * 2 + 1]? = some (.string ⟨x.k.toArray⟩) := by
    intro l
    induction l with
    | nil => intro i x hx; simp at hx
    | cons a l ih =>
      intro i x hx
      cases i with
      | zero => simp at hx; subst hx; exact ⟨rfl, rfl⟩
      | succ i =>
        have := ih i x (by simpa using hx)
        simp only [List.flatMap_cons]
        rw [show (i + 1) * 2 = 2 + i * 2 by omega, show 2 + i * 2 + 1 = 2 + (i * 2 + 1) by omega]
        exact ⟨by rw [List.getElem?_append_right (by simp)]; simpa using this.1, by rw [List.getElem?_append_right (by simp)]; simpa using this.2⟩
  obtain ⟨h1, h2⟩ := key l i x hx
  exact ⟨by rw [Nat.zero_add]; exact new_cells w _ _ _ _ h1, by rw [Nat.zero_add]; exact new_cells w _ _ _ _ h2⟩
theorem tag_zero : tgP kyL 3 9 ≠ List.replicate 32 0 := by decide +kernel
def lsW (k : Nat) : Int := [0, 1, 1, 5, 5, 6].getD k 0
/-- what is held beside a gate: all below the start as it was, and hash's table. -/
structure GW (w0 w : World) (g : Nat) (v : Value) (gs : List Nat) (l : List Sg) : Prop where
  b : Below w0.heap.size w0 w
  g : GtA w0.heap.size w g v gs l
  k : KsAt w
  ks : 0 < w.heap.size
theorem GW.below {w0 w w' : World} {g : Nat} {v : Value} {gs : List Nat} {l : List Sg} (h : GW w0 w g v gs l) (hb : Below w.heap.size w w') : GW w0 w' g v gs l :=
  ⟨h.b.trans (hb.mono h.b.size), h.g.below hb, h.k.below h.ks hb, Nat.lt_of_lt_of_le h.ks hb.size⟩
theorem GW.ad {w0 w w' : World} {g : Nat} {v : Value} {gs : List Nat} {l l' : List Sg} (h : GW w0 w g v gs l) (hg : GtA w0.heap.size w' g v gs l') (ha : Ad1 w w' gs) (hk0 : KsAt w0) (hks0 : 0 < w0.heap.size) : GW w0 w' g v gs l' := by
  have hb : Below w0.heap.size w w' := ha.below (fun x hx => (h.g.typed x hx).1) h.b.size
  have hb0 := h.b.trans hb
  exact ⟨hb0, hg, hk0.below hks0 hb0, Nat.lt_of_lt_of_le hks0 hb0.size⟩
theorem GtA.lower {B B' g : Nat} {w : World} {v : Value} {gs : List Nat} {l : List Sg} (h : GtA B w g v gs l) (hb : B' ≤ B) : GtA B' w g v gs l :=
  ⟨h.hg, Nat.le_trans hb h.bg, own_weaken h.vo hb, h.len, fun j x s h1 h2 => ⟨Nat.le_trans hb (h.sg j x s h1 h2).1, (h.sg j x s h1 h2).2⟩, h.nd, h.few⟩
theorem GW.start {w w1 w2 : World} {g : Nat} {v : Value} {gs : List Nat} {l : List Sg} (hk : KsAt w) (hks : 0 < w.heap.size) (hb : Below w.heap.size w w1) (h : GtA w1.heap.size w2 g v gs l) (hb2 : Below w1.heap.size w1 w2) : GW w w2 g v gs l := by
  have hb' := hb.trans (hb2.mono hb.size)
  exact ⟨hb', h.lower hb.size, hk.below hks hb', Nat.lt_of_lt_of_le hks hb'.size⟩
set_option maxHeartbeats 3200000 in
theorem works20_any (w : World) (hk : KsAt w) (hks : 0 < w.heap.size) :
    Calls Tryd.prog 12 #[] w fun e w' => e = .returned (.bool true) ∧ Below w.heap.size w w' := by
  have HK := Lib.hid hk
  have HKS := Lib.hid hks
  clear hk hks
  have hb1 : ∀ s : List UInt8, Tryd.prog.built 44 [(0, Value.int .i64 3), (1, Value.string ⟨s.toArray⟩)] = some #[.int .i64 3, .string ⟨s.toArray⟩] := fun s => by kernel_rfl
  go_enter Tryd.func12, Tryd.ntmps12
  go_wp2_with fail
  refine (new_any _ 1 1 [⟨3, kyL⟩] _ (acc_lit w [⟨3, kyL⟩] (by decide)) (by decide)).mono ?_
  rintro e w1 ⟨g, v, gs, rfl, G1, b1⟩
  have D1 := Lib.hid (show GW w w1 g v gs (one3 0) from GW.start HK.out HKS.out ((Below.refl _ _).alloc (Nat.le_refl _) _) G1 b1)
  clear G1 b1
  go_upto_region 5 with fail
  obtain ⟨gi, hgi⟩ : ∃ b, Hid (w1.heap.size = b) := ⟨_, Lib.hid rfl⟩
  refine gworld (fun W => Hid (GW w W g v gs (one3 (lsW 0))) ∧ Hid (Blk W gi 3 #[.int .i64 1, .int .i64 1, .int .i64 5, .int .i64 4, .int .i64 6])) ⟨Lib.hid (D1.out.below ((Below.refl _ _).alloc (Nat.le_refl _) _)), Lib.hid (by rw [← hgi.out]; exact Blk.new _ _ _)⟩ ?_
  clear D1
  rintro w2 ⟨D2, I2⟩
  rw [hgi.out]
  go_wp2_with fail
  go_loopg [20] 6 (fun kq v' wr => ∃ k : Nat, k + kq = 6 ∧ k ≤ 5 ∧ v' = .int .i64 k ∧ Hid (GW w wr g v gs (one3 (lsW k))) ∧ Hid (Blk wr gi 3 #[.int .i64 1, .int .i64 1, .int .i64 5, .int .i64 4, .int .i64 6]))
  case atStart => exact ⟨0, by omega, by omega, rfl, D2, I2⟩
  case round =>
    clear D2 I2
    obtain ⟨k, hk, hk2, rfl, D, I⟩ := hrel
    by_cases hlt : k < 5
    · rcases (show k = 0 ∨ k = 1 ∨ k = 2 ∨ k = 3 ∨ k = 4 by omega) with rfl | rfl | rfl | rfl | rfl
      · have hc : wr.cell? ⟨gi, 0, none⟩ = some (.int .i64 1) := I.out.cell 0
        have HA := Lib.hid (show adP (one3 (lsW 0)) 3 1 (tgP kyL 3 1) = (0, one3 (lsW 1)) by rw [adP_one]; rfl)
        obtain rfl : gk = 6 := by omega
        clear hk hk2 hlt
        go_wp2_with fail
        refine (pull_any kyL 1 wr kyL_length (by decide) D.out.k D.out.ks).mono ?_
        rintro e w3 ⟨m, rfl, hP, b3⟩
        have P3 := Lib.hid hP
        have D3 := Lib.hid (D.out.below b3)
        have I3 := Lib.hid (I.out.below b3 I.out.lt)
        clear hP b3 D I hc
        go_wp2_with fail
        refine (admitP_any g _ v gs _ 3 1 _ m w3 D3.out.g P3.out (tgP_length _ _ _) (by decide) (by decide) D3.out.k D3.out.ks (one_key _)).mono ?_
        rintro e w4 ⟨rfl, G4, A4⟩
        rw [HA.out] at G4 ⊢
        have D4 := Lib.hid (D3.out.ad G4 A4 HK.out HKS.out)
        have I4 := Lib.hid (A4.blk (fun x hx => (D3.out.g.typed x hx).2) I3.out (by decide))
        clear G4 A4 P3 D3 I3
        go_wp2_with fail
        go_roundg 5
        case measure => decide
        case rel => exact ⟨1, rfl, by decide, rfl, D4, I4⟩
      · have hc : wr.cell? ⟨gi, 1, none⟩ = some (.int .i64 1) := I.out.cell 1
        have HA := Lib.hid (show adP (one3 (lsW 1)) 3 1 (tgP kyL 3 1) = (170, one3 (lsW 2)) by rw [adP_one]; rfl)
        obtain rfl : gk = 5 := by omega
        clear hk hk2 hlt
        go_wp2_with fail
        refine (pull_any kyL 1 wr kyL_length (by decide) D.out.k D.out.ks).mono ?_
        rintro e w3 ⟨m, rfl, hP, b3⟩
        have P3 := Lib.hid hP
        have D3 := Lib.hid (D.out.below b3)
        have I3 := Lib.hid (I.out.below b3 I.out.lt)
        clear hP b3 D I hc
        go_wp2_with fail
        refine (admitP_any g _ v gs _ 3 1 _ m w3 D3.out.g P3.out (tgP_length _ _ _) (by decide) (by decide) D3.out.k D3.out.ks (one_key _)).mono ?_
        rintro e w4 ⟨rfl, G4, A4⟩
        rw [HA.out] at G4 ⊢
        have D4 := Lib.hid (D3.out.ad G4 A4 HK.out HKS.out)
        have I4 := Lib.hid (A4.blk (fun x hx => (D3.out.g.typed x hx).2) I3.out (by decide))
        clear G4 A4 P3 D3 I3
        go_wp2_with fail
        go_roundg 4
        case measure => decide
        case rel => exact ⟨2, rfl, by decide, rfl, D4, I4⟩
      · have hc : wr.cell? ⟨gi, 2, none⟩ = some (.int .i64 5) := I.out.cell 2
        have HA := Lib.hid (show adP (one3 (lsW 2)) 3 5 (tgP kyL 3 5) = (0, one3 (lsW 3)) by rw [adP_one]; rfl)
        obtain rfl : gk = 4 := by omega
        clear hk hk2 hlt
        go_wp2_with fail
        refine (pull_any kyL 5 wr kyL_length (by decide) D.out.k D.out.ks).mono ?_
        rintro e w3 ⟨m, rfl, hP, b3⟩
        have P3 := Lib.hid hP
        have D3 := Lib.hid (D.out.below b3)
        have I3 := Lib.hid (I.out.below b3 I.out.lt)
        clear hP b3 D I hc
        go_wp2_with fail
        refine (admitP_any g _ v gs _ 3 5 _ m w3 D3.out.g P3.out (tgP_length _ _ _) (by decide) (by decide) D3.out.k D3.out.ks (one_key _)).mono ?_
        rintro e w4 ⟨rfl, G4, A4⟩
        rw [HA.out] at G4 ⊢
        have D4 := Lib.hid (D3.out.ad G4 A4 HK.out HKS.out)
        have I4 := Lib.hid (A4.blk (fun x hx => (D3.out.g.typed x hx).2) I3.out (by decide))
        clear G4 A4 P3 D3 I3
        go_wp2_with fail
        go_roundg 3
        case measure => decide
        case rel => exact ⟨3, rfl, by decide, rfl, D4, I4⟩
      · have hc : wr.cell? ⟨gi, 3, none⟩ = some (.int .i64 4) := I.out.cell 3
        have HA := Lib.hid (show adP (one3 (lsW 3)) 3 4 (tgP kyL 3 4) = (170, one3 (lsW 4)) by rw [adP_one]; rfl)
        obtain rfl : gk = 3 := by omega
        clear hk hk2 hlt
        go_wp2_with fail
        refine (pull_any kyL 4 wr kyL_length (by decide) D.out.k D.out.ks).mono ?_
        rintro e w3 ⟨m, rfl, hP, b3⟩
        have P3 := Lib.hid hP
        have D3 := Lib.hid (D.out.below b3)
        have I3 := Lib.hid (I.out.below b3 I.out.lt)
        clear hP b3 D I hc
        go_wp2_with fail
        refine (admitP_any g _ v gs _ 3 4 _ m w3 D3.out.g P3.out (tgP_length _ _ _) (by decide) (by decide) D3.out.k D3.out.ks (one_key _)).mono ?_
        rintro e w4 ⟨rfl, G4, A4⟩
        rw [HA.out] at G4 ⊢
        have D4 := Lib.hid (D3.out.ad G4 A4 HK.out HKS.out)
        have I4 := Lib.hid (A4.blk (fun x hx => (D3.out.g.typed x hx).2) I3.out (by decide))
        clear G4 A4 P3 D3 I3
        go_wp2_with fail
        go_roundg 2
        case measure => decide
        case rel => exact ⟨4, rfl, by decide, rfl, D4, I4⟩
      · have hc : wr.cell? ⟨gi, 4, none⟩ = some (.int .i64 6) := I.out.cell 4
        have HA := Lib.hid (show adP (one3 (lsW 4)) 3 6 (tgP kyL 3 6) = (0, one3 (lsW 5)) by rw [adP_one]; rfl)
        obtain rfl : gk = 2 := by omega
        clear hk hk2 hlt
        go_wp2_with fail
        refine (pull_any kyL 6 wr kyL_length (by decide) D.out.k D.out.ks).mono ?_
        rintro e w3 ⟨m, rfl, hP, b3⟩
        have P3 := Lib.hid hP
        have D3 := Lib.hid (D.out.below b3)
        have I3 := Lib.hid (I.out.below b3 I.out.lt)
        clear hP b3 D I hc
        go_wp2_with fail
        refine (admitP_any g _ v gs _ 3 6 _ m w3 D3.out.g P3.out (tgP_length _ _ _) (by decide) (by decide) D3.out.k D3.out.ks (one_key _)).mono ?_
        rintro e w4 ⟨rfl, G4, A4⟩
        rw [HA.out] at G4 ⊢
        have D4 := Lib.hid (D3.out.ad G4 A4 HK.out HKS.out)
        have I4 := Lib.hid (A4.blk (fun x hx => (D3.out.g.typed x hx).2) I3.out (by decide))
        clear G4 A4 P3 D3 I3
        go_wp2_with fail
        go_roundg 1
        case measure => decide
        case rel => exact ⟨5, rfl, by decide, rfl, D4, I4⟩
    · obtain rfl : k = 5 := by omega
      have hq : gk = 1 := by omega
      subst hq
      have D := Lib.hid (show GW w wr g v gs (one3 6) from D.out)
      clear hlt hk2 hk I
      have hf3 : fN (one3 6) 3 = some 0 := by decide
      have hf4 : fN (one3 6) 4 = none := by decide
      go_wp2_with fail
      refine (has_any g _ v gs _ 3 wr D.out.g _ hf3).mono ?_
      rintro e w3 ⟨rfl, b3⟩
      have D3 := Lib.hid (D.out.below b3)
      clear b3 D
      go_wp2_with fail
      refine (has_any g _ v gs _ 4 w3 D3.out.g _ hf4).mono ?_
      rintro e w4 ⟨rfl, b4⟩
      have D4 := Lib.hid (D3.out.below b4)
      clear b4 D3
      obtain ⟨w5, hmk0, hown, hgr⟩ := own_make (B := w4.heap.size) (t := 61) elemU8 w4 .i64 .i64 32 (by decide) (by decide) (Nat.le_refl _)
      have hmk : (Instr.makeSlice 61 (.int .i64 32) (.int .i64 32)).run Tryd.prog w4 = .ok (.slice (some ⟨w4.heap.size, 0, none⟩) 32 32) w5 := hmk0
      have hown' : Own 5 w5 w4.heap.size (.slice (some ⟨w4.heap.size, 0, none⟩) 32 32) (cb (List.replicate 32 0)) := hown
      have hcv : (convert 61 9 (.slice (some ⟨w4.heap.size, 0, none⟩) 32 32)).run Tryd.prog w5 = .ok (.string ⟨(List.replicate 32 (0 : UInt8)).toArray⟩) w5 := my_own_string Tryd.underlying61 Tryd.underlying5 Tryd.underlying9 hown'
      have D5 := Lib.hid (D4.out.below ((Below.refl _ _).grown hgr (Nat.le_refl _) (fun k hk => by cases hk)))
      obtain ⟨z, hz⟩ : ∃ z : ByteArray, Hid (⟨(List.replicate 32 (0 : UInt8)).toArray⟩ = z) := ⟨_, Lib.hid rfl⟩
      rw [hz.out] at hcv
      clear hmk0 hown hgr hown' D4 hf3 hf4
      go_wp2_with fail
      have HA := Lib.hid (show adP (one3 6) 3 9 (List.replicate 32 0) = (200, one3 6) by
        have hf3 : fN (one3 6) 3 = some 0 := by decide
        rw [adP_some hf3 (s := ⟨3, kyL, 6⟩) rfl, if_pos tag_zero])
      refine (admitP_any g _ v gs (one3 6) 3 9 (List.replicate 32 0) _ w5 D5.out.g ⟨none, 0, none, 0, by rw [hz.out]; rfl, Cp.nil _ _, Cp.nil _ _⟩ (by decide) (by decide) (by decide) D5.out.k D5.out.ks (one_key _)).mono ?_
      rintro e w6 ⟨rfl, G6, A6⟩
      rw [HA.out]
      have D6 := Lib.hid (D5.out.ad G6 A6 HK.out HKS.out)
      clear G6 A6
      go_wp2_with fail
      go_ret
      exact ⟨rfl, D6.out.b⟩
end Go.Proofs.YtjmgkjjcdnaapaaDoor
namespace Go.Proofs.YtjmgkjjcdnaapaaDoor
open Go.RowKit Go.Proofs.YtjmgkjjcdnaapaaDoor.PMailA Go.Proofs.YtjmgkjjcdnaapaaDoorW.PrintWords Go.Proofs.YtjmgkjjcdnaapaaDoorW.PrintLast Go.Proofs.YtjmgkjjcdnaapaaDoorW.PrintMore
set_option linter.unusedSimpArgs false
set_option linter.unusedVariables false
set_option maxRecDepth 20000
end Go.Proofs.YtjmgkjjcdnaapaaDoor
namespace Go.Proofs.YtjmgkjjcdnaapaaDoor
open Go.RowKit Go.Proofs.YtjmgkjjcdnaapaaDoor.PMailA Go.Proofs.YtjmgkjjcdnaapaaDoorW.PrintWords Go.Proofs.YtjmgkjjcdnaapaaDoorW.PrintLast Go.Proofs.YtjmgkjjcdnaapaaDoorW.PrintMore
set_option linter.unusedSimpArgs false
set_option linter.unusedVariables false
set_option maxRecDepth 20000
def ap11.T : Bool × List (List Nat × List Nat) := (true, [([], []), ([0], [0]), ([1], [1]), ([2], [2]), ([2], [2]), ([3, 4, 2, 2], [2, 3, 4]), ([2], [2]), ([2], [2]), ([6, 7, 5, 2], [2, 6, 7]), ([5, 8, 2], [2, 5, 8]), ([2, 9], [2, 9])])
def ap11.B : List Nat := [0, 1, 3, 7, 7, 31, 7, 7, 255, 511, 1023]
theorem ap11.tab : rtab .any (opsOf Tryd.f6 11) = ap11.T := by kernel_rfl
theorem ap11.bits : waitsOk ap11.T.2 ap11.B = true := by kernel_rfl
def two (p r : Int) : List Sg := [⟨3, kyL, p⟩, ⟨9, kyL, r⟩]
/-- two gates. -/
structure GW2 (w0 w : World) (g : Nat) (v : Value) (gs : List Nat) (l : List Sg) (g' : Nat) (v' : Value) (gs' : List Nat) (l' : List Sg) : Prop where
  b : Below w0.heap.size w0 w
  g : GtA w0.heap.size w g v gs l
  g' : GtA w0.heap.size w g' v' gs' l'
  d : ∀ x ∈ gs, x ∉ gs'
  k : KsAt w
  ks : 0 < w.heap.size
section
variable {w0 w w' : World} {g : Nat} {v : Value} {gs : List Nat} {l : List Sg} {g' : Nat} {v' : Value} {gs' : List Nat} {l' l2 : List Sg}
theorem GW2.below (h : GW2 w0 w g v gs l g' v' gs' l') (hb : Below w.heap.size w w') : GW2 w0 w' g v gs l g' v' gs' l' :=
  ⟨h.b.trans (hb.mono h.b.size), h.g.below hb, h.g'.below hb, h.d, h.k.below h.ks hb, Nat.lt_of_lt_of_le h.ks hb.size⟩
theorem GW2.start {w1 : World} (h : GW w0 w1 g v gs l) (hb : Below w1.heap.size w1 w) (h2 : GtA w.heap.size w' g' v' gs' l') (hb2 : Below w.heap.size w w') : GW2 w0 w' g v gs l g' v' gs' l' := by
  have hw := h.below hb
  have hw' := hw.below hb2
  exact ⟨hw'.b, hw'.g, h2.lower hw.b.size, fun x hx hx2 => by
    have h1 := (hw.g.typed x hx).2.elim fun cs hc => hc.lt
    have h3 := (h2.typed x hx2).1
    omega, hw'.k, hw'.ks⟩
end
end Go.Proofs.YtjmgkjjcdnaapaaDoor
namespace Go.Proofs.YtjmgkjjcdnaapaaDoor
open Go.RowKit Go.Proofs.YtjmgkjjcdnaapaaDoorW.PrintWords Go.Proofs.YtjmgkjjcdnaapaaDoorW.PrintLast
set_option linter.unusedSimpArgs false
set_option linter.unusedVariables false
set_option maxRecDepth 100000
set_option maxHeartbeats 400000 in
theorem cut_any (g : Nat) (s : ByteArray) (n : Nat) (w : World) (hb : Blk w g 9 #[.string s]) (hn : n ≤ s.size) :
    Calls Tryd.prog 42 #[.pointer (some ⟨g, 0, none⟩), .int .i64 n] w fun e w' => e = .returned (.string (s.extract 0 n)) ∧ w' = w.setCell ⟨g, 0, none⟩ (.string (s.extract n s.size)) := by
  have hc := hb.cell 0
  have hf := hb.frozen 0
  have h1 : (n : Int) ≤ (s.size : Int) := by omega
  go_enter Tryd.func42, Tryd.ntmps42
  go_wp2_with fail
  go_ret
  exact ⟨rfl, rfl⟩
end Go.Proofs.YtjmgkjjcdnaapaaDoor
namespace Go.Proofs.YtjmgkjjcdnaapaaDoor
open Go.RowKit Go.Proofs.YtjmgkjjcdnaapaaDoorW.PrintWords Go.Proofs.YtjmgkjjcdnaapaaDoorW.PrintLast
set_option linter.unusedSimpArgs false
set_option linter.unusedVariables false
set_option maxRecDepth 100000
structure DS (w0 w : World) (g2 g4 g5 : Nat) (cs2 cs5 : Array Value) (r : List UInt8) (vs : Value) (ls : List S68) (vi : Value) (li : List ByteArray) : Prop where
  b : Below w0.heap.size w0 w
  h2 : Blk w g2 25 cs2
  h4 : Blk w g4 9 #[.string (tx r)]
  h5 : Blk w g5 25 cs5
  n2 : w0.heap.size ≤ g2
  n4 : w0.heap.size ≤ g4
  n5 : w0.heap.size ≤ g5
  d24 : g2 ≠ g4
  d25 : g2 ≠ g5
  d45 : g4 ≠ g5
  rs : Kd.R k68 68 w w0.heap.size (fun _ => True) vs ls
  ri : Kd.R Kd.string 9 w w0.heap.size (fun k => k ≠ g4) vi li
section
variable {w0 w w1 : World} {g2 g4 g5 : Nat} {cs2 cs5 : Array Value} {r : List UInt8} {vs vi : Value} {ls : List S68} {li : List ByteArray}
theorem DS.cut (h : DS w0 w g2 g4 g5 cs2 cs5 r vs ls vi li) (r' : List UInt8) : DS w0 (w.setCell ⟨g4, 0, none⟩ (.string (tx r'))) g2 g4 g5 cs2 cs5 r' vs ls vi li :=
  ⟨h.b.setCell h.n4 _, h.h2.far h.d24 _, h.h4.set_ 0 _, h.h5.far h.d45.symm _, h.n2, h.n4, h.n5, h.d24, h.d25, h.d45, Kd.R_set h.rs h.h4 (by decide) 0 _,
    Kd.R_grown h.ri (only_set (g := g4) (only_refl w _) (Or.inl rfl) _) (fun k hk e => hk (by injection e))⟩
theorem DS.put (h : DS w0 w g2 g4 g5 cs2 cs5 r vs ls vi li) (i : Nat) (u : Value) : DS w0 (w.setCell ⟨g5, i, none⟩ u) g2 g4 g5 cs2 (cs5.setIfInBounds i u) r vs ls vi li :=
  ⟨h.b.setCell h.n5 _, h.h2.far h.d25 _, h.h4.far h.d45 _, h.h5.set_ i _, h.n2, h.n4, h.n5, h.d24, h.d25, h.d45, Kd.R_set h.rs h.h5 (by decide) i _, Kd.R_set h.ri h.h5 (by decide) i _⟩
theorem DS.put2 (h : DS w0 w g2 g4 g5 cs2 cs5 r vs ls vi li) (i : Nat) (u : Value) : DS w0 (w.setCell ⟨g2, i, none⟩ u) g2 g4 g5 (cs2.setIfInBounds i u) cs5 r vs ls vi li :=
  ⟨h.b.setCell h.n2 _, h.h2.set_ i _, h.h4.far h.d24.symm _, h.h5.far h.d25.symm _, h.n2, h.n4, h.n5, h.d24, h.d25, h.d45, Kd.R_set h.rs h.h2 (by decide) i _, Kd.R_set h.ri h.h2 (by decide) i _⟩
theorem DS.below (h : DS w0 w g2 g4 g5 cs2 cs5 r vs ls vi li) (hb : Below w.heap.size w w1) : DS w0 w1 g2 g4 g5 cs2 cs5 r vs ls vi li :=
  ⟨h.b.trans (hb.mono h.b.size), h.h2.below hb h.h2.lt, h.h4.below hb h.h4.lt, h.h5.below hb h.h5.lt, h.n2, h.n4, h.n5, h.d24, h.d25, h.d45, Kd.R_below h.rs hb, Kd.R_below h.ri hb⟩
theorem DS.alloc (h : DS w0 w g2 g4 g5 cs2 cs5 r vs ls vi li) (o : Obj) : DS w0 (w.alloc o) g2 g4 g5 cs2 cs5 r vs ls vi li := h.below (below_alloc (Below.refl _ _) o)
theorem DS.drew (h : DS w0 w g2 g4 g5 cs2 cs5 r vs ls vi li) : DS w0 w.drew g2 g4 g5 cs2 cs5 r vs ls vi li := h.below (Go.Proofs.YtjmgkjjcdnaapaaDoorW.PrintWords.below_drew (Below.refl _ _))
theorem DS.drewN (h : DS w0 w g2 g4 g5 cs2 cs5 r vs ls vi li) (n : Nat) : DS w0 (w.drewN n) g2 g4 g5 cs2 cs5 r vs ls vi li := h.below (pw_below_drewN (Below.refl _ _) n)
theorem DS.appI (h : DS w0 w g2 g4 g5 cs2 cs5 r vs ls vi li) {v1 : Value} {l1 : List ByteArray} (hr : Kd.R Kd.string 9 w1 w0.heap.size (fun k => k ≠ g4) v1 l1) (hb : Below w0.heap.size w0 w1) (hg : w.grownBy w1 vi.ownBlock) : DS w0 w1 g2 g4 g5 cs2 cs5 r vs ls v1 l1 :=
  ⟨hb, h.h2.grown hg (Kd.R_ne h.ri h.h2 (by decide)), h.h4.grown hg (fun e => h.ri.1 g4 e.symm rfl), h.h5.grown hg (Kd.R_ne h.ri h.h5 (by decide)), h.n2, h.n4, h.n5, h.d24, h.d25, h.d45,
    Kd.R_over' h.rs (Kd.R_typed h.ri) (by decide) hg, hr⟩
theorem DS.appS (h : DS w0 w g2 g4 g5 cs2 cs5 r vs ls vi li) {v1 : Value} {l1 : List S68} (hr : Kd.R k68 68 w1 w0.heap.size (fun _ => True) v1 l1) (hb : Below w0.heap.size w0 w1) (hg : w.grownBy w1 vs.ownBlock) : DS w0 w1 g2 g4 g5 cs2 cs5 r v1 l1 vi li :=
  ⟨hb, h.h2.grown hg (Kd.R_ne h.rs h.h2 (by decide)), h.h4.grown hg (Kd.R_ne h.rs h.h4 (by decide)), h.h5.grown hg (Kd.R_ne h.rs h.h5 (by decide)), h.n2, h.n4, h.n5, h.d24, h.d25, h.d45,
    hr, Kd.R_over' h.ri (Kd.R_typed h.rs) (by decide) hg⟩
/-- the blocks as they are made. -/
theorem DS.start (w : World) (g2 g4 g5 : Nat) (w1 : World) (cs2 cs5 : Array Value) (r : List UInt8) (b : Below w.heap.size w w1) (h2 : Blk w1 g2 25 cs2) (h4 : Blk w1 g4 9 #[.string (tx r)]) (h5 : Blk w1 g5 25 cs5) (n2 : w.heap.size ≤ g2) (n4 : w.heap.size ≤ g4) (n5 : w.heap.size ≤ g5) (d24 : g2 ≠ g4) (d25 : g2 ≠ g5) (d45 : g4 ≠ g5) :
    DS w w1 g2 g4 g5 cs2 cs5 r (.slice none 0 0) [] (.slice none 0 0) [] := ⟨b, h2, h4, h5, n2, n4, n5, d24, d25, d45, Kd.R_nil _ _ _ _ _, Kd.R_nil _ _ _ _ _⟩
theorem cut_ds (h : DS w0 w g2 g4 g5 cs2 cs5 r vs ls vi li) (n : Nat) (hn : n ≤ r.length) :
    Calls Tryd.prog 42 #[.pointer (some ⟨g4, 0, none⟩), .int .i64 n] w fun e w' => e = .returned (.string (tx (r.take n))) ∧ DS w0 w' g2 g4 g5 cs2 cs5 (r.drop n) vs ls vi li := by
  refine (cut_any g4 (tx r) n w h.h4 (by rw [tx_size]; exact hn)).mono ?_
  rintro e w' ⟨rfl, rfl⟩
  refine ⟨by rw [tx_take], ?_⟩
  rw [tx_drop]
  exact h.cut _
end
end Go.Proofs.YtjmgkjjcdnaapaaDoor
namespace Go.Proofs.YtjmgkjjcdnaapaaDoor
open Go.RowKit Go.Proofs.YtjmgkjjcdnaapaaDoor.PMailA Go.Proofs.YtjmgkjjcdnaapaaDoorW.PrintWords Go.Proofs.YtjmgkjjcdnaapaaDoorW.PrintLast
set_option linter.unusedSimpArgs false
set_option linter.unusedVariables false
set_option maxRecDepth 100000
def zM : Value := .agg #[.int .i64 0, .int .i64 0, .int .i64 0, .string ⟨#[]⟩, .string ⟨#[]⟩, .slice none 0 0, .slice none 0 0]
set_option maxHeartbeats 400000 in
theorem dec_none (a0 : ByteArray) (w : World) (h0 : a0.toList = []) :
    Calls Tryd.prog 24 #[.string a0] w fun e w' => e = .returned (.tuple #[zM, .int .i64 110]) ∧ Below w.heap.size w w' := by
  go_enter Tryd.func24, Tryd.ntmps24
  go_wp2_with fail
  refine bodyPost_ret (results_ct rfl _ _ w.heap.size 25 #[.int .i64 0, .int .i64 0, .int .i64 0, .string ⟨#[]⟩, .string ⟨#[]⟩, .slice none 0 0, .slice none 0 0] (0, 0) _ rfl (blk_new _ _) Tryd.underlying25 rfl rfl) rfl ?_
  exact ⟨rfl, below_alloc (Below.refl _ _) _⟩
abbrev Z7 : Array Value := #[.int .i64 0, .int .i64 0, .int .i64 0, .string ⟨#[]⟩, .string ⟨#[]⟩, .slice none 0 0, .slice none 0 0]
theorem gen_world {P : Program} {c : Code} {Q : Exit → Act → World → Prop} {a : Act} {W : World} (D : World → Prop) (h : D W) (k : ∀ W', D W' → c.wp P Q a W') : c.wp P Q a W := k W h
theorem bt_at' (a : ByteArray) (h : 0 < a.size) : ((a[0]'h).toNat : Int) = bt a 0 := by
  unfold bt
  rw [dif_pos (by simpa using h)]
  rfl
theorem list_ne {a : ByteArray} (h : 0 < a.size) : a.toList.isEmpty = false := by
  rw [ByteArray.toList_eq]
  obtain ⟨⟨l⟩⟩ := a
  cases l with
  | nil => simp [ByteArray.size] at h
  | cons x l => rfl
def sq (l : List UInt8) : Int := l.foldl (fun m b => m * 256 + n8 b) 0
theorem gen_body {P : Program} {fn : Func} {Q : Ending → World → Prop} {ex : Exit} {a : Act} {W : World} (D : World → Prop) (h : D W) (k : ∀ W', D W' → bodyPost P fn Q ex a W') : bodyPost P fn Q ex a W := k W h
theorem ex_drop (a : ByteArray) (n : Nat) : a.extract n a.size = tx (a.data.toList.drop n) := by
  conv => lhs; rw [tx_of a]
  exact tx_drop _ n
theorem ex_bt (a : ByteArray) (q : 0 < a.size) (h : 0 < (a.extract 0 1).size) : (((a.extract 0 1)[0]'h).toNat : Int) = bt a 0 := by
  rw [← bt_at' a q]
  have e : (a.extract 0 1)[0]'h = a[0]'q := by first | (simp; done) | simp [ByteArray.getElem_eq_getElem_data, ByteArray.data_extract] | simp [ByteArray.getElem_extract]
  rw [e]
set_option maxHeartbeats 800000 in
theorem dec_long (a0 : ByteArray) (kd n : Int) (w : World) (q : 0 < a0.size) (hk : wrap64 (bt a0 0) = kd) (hn : mail_Long.f kd = some n) (h1 : ¬ (a0.size : Int) = n) :
    Calls Tryd.prog 24 #[.string a0] w fun e w' => e = .returned (.tuple #[zM, .int .i64 110]) ∧ Below w.heap.size w w' := by
  have hx := bt_at' a0
  have hl := list_ne q
  have qi : (0 < (a0.size : Int)) = True := eq_true (by omega)
  have q' : (0 < a0.size) = True := eq_true q
  have hc : ((a0.size : Int) != n) = true := bne_iff_ne.mpr h1
  have HN := Lib.hid hn
  clear h1 hn
  go_enter Tryd.func24, Tryd.ntmps24
  go_wp2_with fail
  refine (mail_Long.calls kd n _ HN.out).mono ?_
  rintro e w1 ⟨rfl, ⟨nd, hw⟩⟩
  have HZ := Lib.hid (show Blk w1 w.heap.size 25 Z7 by rw [hw]; exact blk_drewN (blk_new w _) nd)
  have HB := Lib.hid (show Below w.heap.size w w1 by rw [hw]; exact pw_below_drewN (below_alloc (Below.refl _ _) _) _)
  have HS := Lib.hid (show w1.heap.size = w.heap.size + 1 by rw [hw]; simp [World.drewN])
  clear hw
  have hz0 : w1.cell? ⟨w.heap.size, 0, none⟩ = some (.int .i64 0) := HZ.out.cell 0
  have fz0 := HZ.out.frozen 0
  have hz1 : w1.cell? ⟨w.heap.size, 1, none⟩ = some (.int .i64 0) := HZ.out.cell 1
  have fz1 := HZ.out.frozen 1
  have hz2 : w1.cell? ⟨w.heap.size, 2, none⟩ = some (.int .i64 0) := HZ.out.cell 2
  have fz2 := HZ.out.frozen 2
  have hz3 : w1.cell? ⟨w.heap.size, 3, none⟩ = some (.string ⟨#[]⟩) := HZ.out.cell 3
  have fz3 := HZ.out.frozen 3
  have hz4 : w1.cell? ⟨w.heap.size, 4, none⟩ = some (.string ⟨#[]⟩) := HZ.out.cell 4
  have fz4 := HZ.out.frozen 4
  have hz5 : w1.cell? ⟨w.heap.size, 5, none⟩ = some (.slice none 0 0) := HZ.out.cell 5
  have fz5 := HZ.out.frozen 5
  have hz6 : w1.cell? ⟨w.heap.size, 6, none⟩ = some (.slice none 0 0) := HZ.out.cell 6
  have fz6 := HZ.out.frozen 6
  go_wp2_with fail
  refine gen_body (fun W => Blk W w.heap.size 25 Z7 ∧ Below w.heap.size w W) ⟨?_, ?_⟩ ?_
  · exact ((((((HZ.out.set_ 0 _).set_ 1 _).set_ 2 _).set_ 3 _).set_ 4 _).set_ 5 _).set_ 6 _
  · exact (((((((HB.out.setCell (p := ⟨w.heap.size, 0, none⟩) (Nat.le_refl _) _).setCell (p := ⟨w.heap.size, 1, none⟩) (Nat.le_refl _) _).setCell (p := ⟨w.heap.size, 2, none⟩) (Nat.le_refl _) _).setCell (p := ⟨w.heap.size, 3, none⟩) (Nat.le_refl _) _).setCell (p := ⟨w.heap.size, 4, none⟩) (Nat.le_refl _) _).setCell (p := ⟨w.heap.size, 5, none⟩) (Nat.le_refl _) _).setCell (p := ⟨w.heap.size, 6, none⟩) (Nat.le_refl _) _)
  rintro W' ⟨hb, hB⟩
  refine bodyPost_ret (results_ct rfl _ _ w.heap.size 25 Z7 (0, 0) _ rfl hb Tryd.underlying25 rfl rfl) rfl ?_
  exact ⟨rfl, hB⟩
set_option maxHeartbeats 1600000 in
theorem dec_pac (a0 : ByteArray) (n kd : Int) (w : World) (q : 0 < a0.size) (hk : wrap64 (bt a0 0) = kd) (hn : mail_Long.f kd = some n) (h1 : (a0.size : Int) = n) (k1 : kd = 1) :
    Calls Tryd.prog 24 #[.string a0] w fun e w' => e = .returned (.tuple #[.agg #[.int .i64 kd, .int .i64 0, .int .i64 0, .string (tx (a0.data.toList.drop 1)), .string ⟨#[]⟩, .slice none 0 0, .slice none 0 0], .int .i64 0]) ∧ Below w.heap.size w w' := by
  have K1 : (kd == 1) = true := beq_iff_eq.mpr k1
  clear k1
  have hx := bt_at' a0
  have hl := list_ne q
  have qi : (0 < (a0.size : Int)) = True := eq_true (by omega)
  have q' : (0 < a0.size) = True := eq_true q
  have hc : ((a0.size : Int) != n) = false := bne_eq_false_iff_eq.mpr h1
  have HN := Lib.hid hn
  clear h1 hn
  go_enter Tryd.func24, Tryd.ntmps24
  go_wp2_with fail
  refine (mail_Long.calls kd n _ HN.out).mono ?_
  rintro e w1 ⟨rfl, ⟨nd, hw⟩⟩
  have HZ := Lib.hid (show Blk w1 w.heap.size 25 Z7 by rw [hw]; exact blk_drewN (blk_new w _) nd)
  have HB := Lib.hid (show Below w.heap.size w w1 by rw [hw]; exact pw_below_drewN (below_alloc (Below.refl _ _) _) _)
  have HS := Lib.hid (show w1.heap.size = w.heap.size + 1 by rw [hw]; simp [World.drewN])
  clear hw
  go_wp2_with fail
  refine (cut_any w1.heap.size a0 1 _ (Blk.new w1 _ _) q).mono ?_
  rintro e w2 ⟨rfl, hw⟩
  have B4 := Lib.hid (show Blk w2 w1.heap.size 9 #[.string (tx (a0.data.toList.drop 1))] by rw [hw, ex_drop]; exact (Blk.new w1 9 #[.string a0]).set_ 0 _)
  have B2 := Lib.hid (show Blk w2 w.heap.size 25 Z7 by rw [hw]; exact (HZ.out.alloc _).far (by show w.heap.size ≠ w1.heap.size; rw [HS.out]; omega) _)
  have B0 := Lib.hid (show Below w.heap.size w w2 by rw [hw]; exact ((below_alloc HB.out _).setCell (by show w.heap.size ≤ w1.heap.size; rw [HS.out]; omega) _))
  have S2 := Lib.hid (show w2.heap.size = w1.heap.size + 1 by rw [hw]; simp [World.setCell])
  clear hw
  have hx1 := ex_bt a0 q
  go_upto_region 5 with (first | ((with_reducible refine gate_dst (N := 5) rfl ?_); refine box_event ?hg (N := 5) ?hd (cs := Z7) (t := 25) ?hr ?_; (case hd => rfl); (case hg => rfl); (case hr => first | (go_simp; done) | (go_simp; rfl)); intro g5 hg w3 hbox hb; subst hg; have hz0 : w3.cell? ⟨w2.heap.size, 0, none⟩ = some (.int .i64 0) := blk_cell hbox 0; have fz0 := blk_frozen hbox 0; have hz1 : w3.cell? ⟨w2.heap.size, 1, none⟩ = some (.int .i64 0) := blk_cell hbox 1; have fz1 := blk_frozen hbox 1; have hz2 : w3.cell? ⟨w2.heap.size, 2, none⟩ = some (.int .i64 0) := blk_cell hbox 2; have fz2 := blk_frozen hbox 2; have hz3 : w3.cell? ⟨w2.heap.size, 3, none⟩ = some (.string ⟨#[]⟩) := blk_cell hbox 3; have fz3 := blk_frozen hbox 3; have hz4 : w3.cell? ⟨w2.heap.size, 4, none⟩ = some (.string ⟨#[]⟩) := blk_cell hbox 4; have fz4 := blk_frozen hbox 4; have hz5 : w3.cell? ⟨w2.heap.size, 5, none⟩ = some (.slice none 0 0) := blk_cell hbox 5; have fz5 := blk_frozen hbox 5; have hz6 : w3.cell? ⟨w2.heap.size, 6, none⟩ = some (.slice none 0 0) := blk_cell hbox 6; have fz6 := blk_frozen hbox 6))
  refine gen_world (fun W => DS w W w.heap.size w1.heap.size w2.heap.size Z7 #[.int .i64 kd, .int .i64 0, .int .i64 0, .string ⟨#[]⟩, .string ⟨#[]⟩, .slice none 0 0, .slice none 0 0] (a0.data.toList.drop 1) (.slice none 0 0) [] (.slice none 0 0) []) ?_ ?_
  · exact ((((((((DS.start w w.heap.size w1.heap.size w2.heap.size w3 Z7 Z7 (a0.data.toList.drop 1) (B0.out.trans (hb.mono B0.out.size)) (B2.out.below hb B2.out.lt) (B4.out.below hb B4.out.lt) hbox (Nat.le_refl _) (by rw [HS.out]; omega) (by rw [S2.out, HS.out]; omega) (by rw [HS.out]; omega) (by rw [S2.out, HS.out]; omega) (by rw [S2.out]; omega)).put 0 _).put 1 _).put 2 _).put 3 _).put 4 _).put 5 _).put 6 _)
  obtain ⟨r1, R1_⟩ : ∃ r, r = a0.data.toList.drop 1 := ⟨_, rfl⟩
  obtain ⟨g2, G2⟩ : ∃ g, g = w.heap.size := ⟨_, rfl⟩
  obtain ⟨g4, G4⟩ : ∃ g, g = w1.heap.size := ⟨_, rfl⟩
  obtain ⟨g5, G5⟩ : ∃ g, g = w2.heap.size := ⟨_, rfl⟩
  rw [← G2, ← G4, ← G5, ← R1_]
  have R1 := Lib.hid R1_
  clear R1_ G2 G4 G5 hbox hb hx1 hz0 hz1 hz2 hz3 hz4 hz5 hz6 fz0 fz1 fz2 fz3 fz4 fz5 fz6 HB HZ HS B4 B2 B0 S2 HN hx
  intro w4 D
  have D_ := Lib.hid D
  have t4 : w4.cell? ⟨g4, 0, none⟩ = some (.string (tx r1)) := D.h4.cell 0
  have f4 := D.h4.frozen 0
  have m0 : w4.cell? ⟨g5, 0, none⟩ = some (.int .i64 kd) := D.h5.cell 0
  have n0 := D.h5.frozen 0
  have m1 : w4.cell? ⟨g5, 1, none⟩ = some (.int .i64 0) := D.h5.cell 1
  have n1 := D.h5.frozen 1
  have m2 : w4.cell? ⟨g5, 2, none⟩ = some (.int .i64 0) := D.h5.cell 2
  have n2 := D.h5.frozen 2
  have m3 : w4.cell? ⟨g5, 3, none⟩ = some (.string ⟨#[]⟩) := D.h5.cell 3
  have n3 := D.h5.frozen 3
  have m4 : w4.cell? ⟨g5, 4, none⟩ = some (.string ⟨#[]⟩) := D.h5.cell 4
  have n4 := D.h5.frozen 4
  have m5 : w4.cell? ⟨g5, 5, none⟩ = some (.slice none 0 0) := D.h5.cell 5
  have n5 := D.h5.frozen 5
  have m6 : w4.cell? ⟨g5, 6, none⟩ = some (.slice none 0 0) := D.h5.cell 6
  have n6 := D.h5.frozen 6
  have k0 : w4.cell? ⟨g2, 0, none⟩ = some (.int .i64 0) := D.h2.cell 0
  have l0 := D.h2.frozen 0
  have k1 : w4.cell? ⟨g2, 1, none⟩ = some (.int .i64 0) := D.h2.cell 1
  have l1 := D.h2.frozen 1
  have k2 : w4.cell? ⟨g2, 2, none⟩ = some (.int .i64 0) := D.h2.cell 2
  have l2 := D.h2.frozen 2
  have k3 : w4.cell? ⟨g2, 3, none⟩ = some (.string ⟨#[]⟩) := D.h2.cell 3
  have l3 := D.h2.frozen 3
  have k4 : w4.cell? ⟨g2, 4, none⟩ = some (.string ⟨#[]⟩) := D.h2.cell 4
  have l4 := D.h2.frozen 4
  have k5 : w4.cell? ⟨g2, 5, none⟩ = some (.slice none 0 0) := D.h2.cell 5
  have l5 := D.h2.frozen 5
  have k6 : w4.cell? ⟨g2, 6, none⟩ = some (.slice none 0 0) := D.h2.cell 6
  have l6 := D.h2.frozen 6
  have d24 := D.d24
  have d25 := D.d25
  have d45 := D.d45
  have d42 := D.d24.symm
  have d52 := D.d25.symm
  have d54 := D.d45.symm
  clear D
  go_wp2_with fail
  refine gen_body (fun W => DS w W g2 g4 g5 #[.int .i64 kd, .int .i64 0, .int .i64 0, .string (tx r1), .string ⟨#[]⟩, .slice none 0 0, .slice none 0 0] #[.int .i64 kd, .int .i64 0, .int .i64 0, .string (tx r1), .string ⟨#[]⟩, .slice none 0 0, .slice none 0 0] r1 (.slice none 0 0) [] (.slice none 0 0) []) ?_ ?_
  · exact ((((((((D_.out.put 3 _).put2 0 _).put2 1 _).put2 2 _).put2 3 _).put2 4 _).put2 5 _).put2 6 _)
  intro W' E
  refine bodyPost_ret (results_ct rfl _ _ g2 25 #[.int .i64 kd, .int .i64 0, .int .i64 0, .string (tx r1), .string ⟨#[]⟩, .slice none 0 0, .slice none 0 0] (0, 0) _ rfl E.h2 Tryd.underlying25 rfl rfl) rfl ?_
  exact ⟨by rw [← R1.out]; rfl, E.b⟩
end Go.Proofs.YtjmgkjjcdnaapaaDoor

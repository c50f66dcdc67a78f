/- Printed by a program of this session (hook.py, by way of the kit's print): the functions as Lean functions, each with the proof that the Go code comes to its answers; conditions: as each theorem states. gate.Admit. slices.Clone; gate.Sign. gate.Sign. Texts of bytes. The plain laws of mail: what Check lets pass, what Encode writes. Signed pulls: what pull gives, what Admit says of them. The chapter's example. A message (a struct of seven fields, two of them slices) that comes in by value: opened. The first theorem is after the manner of the guide extra-structs. A message that comes in by value, opened, with how many entries its datum holds (for the bound by the arguments' weight). The reference's Check is Check, plainly. -/
import Derived.Test.YtjmgkjjcdnaapaaDoorZ1a9914c9
import Derived.Test.YtjmgkjjcdnaapaaDoorZ9c18425e
import Derived.Lib.SliceRun
import Derived.Test.YtjmgkjjcdnaapaaDoorZ9a867bbf
import Derived.Lib.SmallJoins
import Derived.Deep.Slices
import Derived.Deep.Fields
import Derived.ChangeSame
namespace Go.Proofs.YtjmgkjjcdnaapaaDoor.PMailA
open Go.RowKit Go.Proofs.YtjmgkjjcdnaapaaDoorW.PrintWords Go.Proofs.YtjmgkjjcdnaapaaDoorW.PrintLast Go.Proofs.YtjmgkjjcdnaapaaDoorW.PrintMore
attribute [local go_sem] max2_int min2_int max_two min_two max_three min_three max_four min_four   -- for this text's walks alone
set_option linter.unusedVariables false
set_option linter.unusedSimpArgs false

attribute [local go_sem high] eqA68
/-! ### dovecotebook_CopyMail: function 8 -/
def dovecotebook_CopyMail.f (a0_0 : Int) (a0_1 : Int) (a0_2 : Int) (a0_3 : ByteArray) (a0_4 : ByteArray) (l0_5 : List (S68)) (l0_6 : List ByteArray) : Option (Int × Int × Int × ByteArray × ByteArray × (List (S68)) × List ByteArray) := (some (([] : List (S68)) : List (S68))).bind fun y165 => (if y165.length + l0_5.length < 4398046511104 then ((some (([] : List ByteArray) : List ByteArray)).bind fun y171 => (if y171.length + l0_6.length < 8796093022208 then (some (a0_0, a0_1, a0_2, a0_3, a0_4, (y165 ++ l0_5), (y171 ++ l0_6))) else (none))) else (none))
set_option maxHeartbeats 8000000 in
set_option maxRecDepth 100000 in
theorem dovecotebook_CopyMail.calls (a0_0 : Int) (a0_1 : Int) (a0_2 : Int) (a0_3 : ByteArray) (a0_4 : ByteArray) (A0_5 : Option Addr) (c0_5 : Nat) (l0_5 : List (S68)) (A0_6 : Option Addr) (c0_6 : Nat) (l0_6 : List ByteArray) (r1 : Int) (r2 : Int) (r3 : Int) (r4 : ByteArray) (r5 : ByteArray) (r6 : List (S68)) (r7 : List ByteArray) (w : World) (hr0_5 : Kd.C k68 w A0_5 l0_5.length l0_5) (hc0_5 : l0_5.length ≤ c0_5) (hr0_6 : Kd.C Kd.string w A0_6 l0_6.length l0_6) (hc0_6 : l0_6.length ≤ c0_6) (h : dovecotebook_CopyMail.f a0_0 a0_1 a0_2 a0_3 a0_4 l0_5 l0_6 = some (r1, r2, r3, r4, r5, r6, r7)) :
    Calls Tryd.prog 8 #[.agg #[.int .i64 a0_0, .int .i64 a0_1, .int .i64 a0_2, .string a0_3, .string a0_4, .slice A0_5 l0_5.length c0_5, .slice A0_6 l0_6.length c0_6]] w fun e w' => ∃ v5_ v6_ : Value, e = .returned (.agg #[.int .i64 r1, .int .i64 r2, .int .i64 r3, .string r4, .string r5, v5_, v6_]) ∧ Kd.R k68 68 w' w.heap.size (fun _ => True) v5_ r6 ∧ Kd.R Kd.string 9 w' w.heap.size (fun _ => True) v6_ r7 ∧ Below w.heap.size w w' := by
  have hu25 := Tryd.underlying25
  have HR0_5 := Aside0.mk hr0_5
  have HC0_5 := Aside0.mk hc0_5
  clear hr0_5 hc0_5
  have HR0_6 := Aside0.mk hr0_6
  have HC0_6 := Aside0.mk hc0_6
  clear hr0_6 hc0_6
  have HB := Aside0.mk (Below.refl w.heap.size w)
  have H : ((some (([] : List (S68)) : List (S68))).bind fun y165 => (if y165.length + l0_5.length < 4398046511104 then ((some (([] : List ByteArray) : List ByteArray)).bind fun y171 => (if y171.length + l0_6.length < 8796093022208 then (some (a0_0, a0_1, a0_2, a0_3, a0_4, (y165 ++ l0_5), (y171 ++ l0_6))) else (none))) else (none))) = some (r1, r2, r3, r4, r5, r6, r7) := h
  clear h
  obtain ⟨y165, hy165⟩ : ∃ y_ : List (S68), y_ = (([] : List (S68))) := ⟨_, rfl⟩
  replace H : (if y165.length + l0_5.length < 4398046511104 then ((some (([] : List ByteArray) : List ByteArray)).bind fun y171 => (if y171.length + l0_6.length < 8796093022208 then (some (a0_0, a0_1, a0_2, a0_3, a0_4, (y165 ++ l0_5), (y171 ++ l0_6))) else (none))) else (none)) = some (r1, r2, r3, r4, r5, r6, r7) := by first | (rw [hy165]; with_reducible exact H) | (have H2_ := (Option.bind_some _ _).symm.trans H; rw [hy165]; with_reducible exact H2_) | (have H2_ := (Option.bind_some _ _).symm.trans H; with_reducible exact H2_) | with_reducible exact H | (rw [hy165]; exact H) | exact H
  have Ny165 := Aside0.mk hy165
  clear hy165
  by_cases c2 : y165.length + l0_5.length < 4398046511104
  · rw [if_pos c2] at H
    have LMc2 := Aside0.mk c2
    clear c2
    obtain ⟨y168, hy168⟩ : ∃ y_ : List (S68), y_ = (y165 ++ l0_5) := ⟨_, rfl⟩
    replace H : ((some (([] : List ByteArray) : List ByteArray)).bind fun y171 => (if y171.length + l0_6.length < 8796093022208 then (some (a0_0, a0_1, a0_2, a0_3, a0_4, y168, (y171 ++ l0_6))) else (none))) = some (r1, r2, r3, r4, r5, r6, r7) := by first | (rw [hy168]; with_reducible exact H) | (have H2_ := (Option.bind_some _ _).symm.trans H; rw [hy168]; with_reducible exact H2_) | (have H2_ := (Option.bind_some _ _).symm.trans H; with_reducible exact H2_) | with_reducible exact H | (rw [hy168]; exact H) | exact H
    have Ny168 := Aside0.mk hy168
    clear hy168
    obtain ⟨y171, hy171⟩ : ∃ y_ : List ByteArray, y_ = (([] : List ByteArray)) := ⟨_, rfl⟩
    replace H : (if y171.length + l0_6.length < 8796093022208 then (some (a0_0, a0_1, a0_2, a0_3, a0_4, y168, (y171 ++ l0_6))) else (none)) = some (r1, r2, r3, r4, r5, r6, r7) := by first | (rw [hy171]; with_reducible exact H) | (have H2_ := (Option.bind_some _ _).symm.trans H; rw [hy171]; with_reducible exact H2_) | (have H2_ := (Option.bind_some _ _).symm.trans H; with_reducible exact H2_) | with_reducible exact H | (rw [hy171]; exact H) | exact H
    have Ny171 := Aside0.mk hy171
    clear hy171
    by_cases c3 : y171.length + l0_6.length < 8796093022208
    · rw [if_pos c3] at H
      have LMc3 := Aside0.mk c3
      clear c3
      obtain ⟨y174, hy174⟩ : ∃ y_ : List ByteArray, y_ = (y171 ++ l0_6) := ⟨_, rfl⟩
      replace H : (some (a0_0, a0_1, a0_2, a0_3, a0_4, y168, y174)) = some (r1, r2, r3, r4, r5, r6, r7) := by first | (rw [hy174]; with_reducible exact H) | (have H2_ := (Option.bind_some _ _).symm.trans H; rw [hy174]; with_reducible exact H2_) | (have H2_ := (Option.bind_some _ _).symm.trans H; with_reducible exact H2_) | with_reducible exact H | (rw [hy174]; exact H) | exact H
      have Ny174 := Aside0.mk hy174
      clear hy174
      simp only [Option.some.injEq, Prod.mk.injEq] at H
      obtain ⟨rfl, rfl, rfl, rfl, rfl, rfl, rfl⟩ := H
      go_enter Tryd.func8, Tryd.ntmps8
      go_wp2_with (first | ((with_reducible refine gate_dst (N := 1) rfl ?_); refine box_event ?hg (N := 1) ?hd (cs := #[.int .i64 a0_0, .int .i64 a0_1, .int .i64 a0_2, .string a0_3, .string a0_4, .slice A0_5 l0_5.length c0_5, .slice A0_6 l0_6.length c0_6]) (t := 25) ?hr ?_; (case hd => rfl); (case hg => rfl); (case hr => first | (go_simp; done) | (go_simp; rfl)); intro gb163 hg w4 hbox hb; have n0_ := Aside0.mk (below_step (by repeat (first | (with_reducible first | exact HB.out | apply below_alloc | apply pw_below_drewN | apply below_drew1) | exact HB.out)) hb); have n1_ := Aside0.mk (hbox); have n2_ := Aside0.mk ((by rw [hg]; exact (below_size (by repeat (first | (with_reducible first | exact HB.out | apply below_alloc | apply pw_below_drewN | apply below_drew1) | exact HB.out))) : w.heap.size ≤ gb163)); have n3_ := Aside0.mk ((by rw [hg]; exact (below_size (by repeat (first | (with_reducible first | exact HB.out | apply below_alloc | apply pw_below_drewN | apply below_drew1) | exact HB.out))) : w.heap.size ≤ gb163)); clear HB; have HB := n0_; have BK163 := n1_; have GW163 := n2_; have GE163 := n3_; clear n0_ n1_ n2_ n3_; clear hb hbox hg) | ((with_reducible refine gate_dst (N := 2) rfl ?_); refine box_event ?hg (N := 2) ?hd (cs := #[.int .i64 0, .int .i64 0, .int .i64 0, .string (⟨#[]⟩ : ByteArray), .string (⟨#[]⟩ : ByteArray), .slice none 0 0, .slice none 0 0]) (t := 25) ?hr ?_; (case hd => rfl); (case hg => rfl); (case hr => first | (go_simp; done) | (go_simp; rfl)); intro gb164 hg w5 hbox hb; have n0_ := Aside0.mk (blk_below (g := gb163) (o := .cells #[.int .i64 a0_0, .int .i64 a0_1, .int .i64 a0_2, .string a0_3, .string a0_4, .slice A0_5 l0_5.length c0_5, .slice A0_6 l0_6.length c0_6] 25 (0, 0)) (by (with_reducible repeat (first | refine blk_drewN ?_ _ | refine blk_drew ?_ | refine blk_alloc ?_ _)); exact BK163.out) hb); have n1_ := Aside0.mk (below_step (by repeat (first | (with_reducible first | exact HB.out | apply below_alloc | apply pw_below_drewN | apply below_drew1 | refine below_set ?_ GE163.out) | exact HB.out)) hb); have n2_ := Aside0.mk (hbox); have n3_ := Aside0.mk ((by rw [hg]; exact (below_size (by repeat (first | (with_reducible first | exact HB.out | apply below_alloc | apply pw_below_drewN | apply below_drew1 | refine below_set ?_ GE163.out) | exact HB.out))) : w.heap.size ≤ gb164)); have n4_ := Aside0.mk ((by rw [hg]; exact (below_size (by repeat (first | (with_reducible first | exact HB.out | apply below_alloc | apply pw_below_drewN | apply below_drew1 | refine below_set ?_ GE163.out) | exact HB.out))) : w.heap.size ≤ gb164)); have n5_ := Aside0.mk ((by rw [hg]; exact Nat.ne_of_lt (blk_lt (g := gb163) (o := .cells #[.int .i64 a0_0, .int .i64 a0_1, .int .i64 a0_2, .string a0_3, .string a0_4, .slice A0_5 l0_5.length c0_5, .slice A0_6 l0_6.length c0_6] 25 (0, 0)) (by (with_reducible repeat (first | refine blk_drewN ?_ _ | refine blk_drew ?_ | refine blk_alloc ?_ _)); exact BK163.out)) : gb163 ≠ gb164)); have n6_ := Aside0.mk ((by rw [hg]; exact Nat.ne_of_gt (blk_lt (g := gb163) (o := .cells #[.int .i64 a0_0, .int .i64 a0_1, .int .i64 a0_2, .string a0_3, .string a0_4, .slice A0_5 l0_5.length c0_5, .slice A0_6 l0_6.length c0_6] 25 (0, 0)) (by (with_reducible repeat (first | refine blk_drewN ?_ _ | refine blk_drew ?_ | refine blk_alloc ?_ _)); exact BK163.out)) : gb164 ≠ gb163)); clear BK163; clear HB; have BK163 := n0_; have HB := n1_; have BK164 := n2_; have GW164 := n3_; have GE164 := n4_; have NB163_164 := n5_; have NB164_163 := n6_; clear n0_ n1_ n2_ n3_ n4_ n5_ n6_; clear hb hbox hg) | ((with_reducible refine gate_dst (N := 3) rfl ?_); refine Kd.R_lit k68 _ 68 ?hg (N := 3) ?hd (xs := ([] : List (S68))) (inner := []) (ok := fun _ => True) (okp := fun _ => True) ?hr ?hp (fun _ hk => hk) trivial (Below.refl _ _) (Nat.le_refl _) (by simp) ?_; (case hd => rfl); (case hg => rfl); (case hr => first | (go_simp; done) | (go_simp; rfl)); (case hp => exact (Reps.none _ _)); intro v166 w6 ho7 hb hg_ hnew_; clear hg_ hnew_; (first | rw [← Ny165.out] at ho7 | (simp only [Int.reduceToNat] at ho7; rw [← Ny165.out] at ho7)); have n0_ := Aside0.mk (Kd.R_lower ho7 (below_size (by repeat (first | (with_reducible first | exact HB.out | apply below_alloc | apply pw_below_drewN | apply below_drew1 | refine below_set ?_ GE163.out | refine below_set ?_ GE164.out) | exact HB.out)))); have n1_ := Aside0.mk (blk_below (g := gb163) (o := .cells #[.int .i64 a0_0, .int .i64 a0_1, .int .i64 a0_2, .string a0_3, .string a0_4, .slice A0_5 l0_5.length c0_5, .slice A0_6 l0_6.length c0_6] 25 (0, 0)) (by (with_reducible repeat (first | refine blk_drewN ?_ _ | refine blk_drew ?_ | refine blk_alloc ?_ _)); exact BK163.out) hb); have n2_ := Aside0.mk (blk_below (g := gb164) (o := .cells #[.int .i64 0, .int .i64 0, .int .i64 0, .string (⟨#[]⟩ : ByteArray), .string (⟨#[]⟩ : ByteArray), .slice none 0 0, .slice none 0 0] 25 (0, 0)) (by (with_reducible repeat (first | refine blk_drewN ?_ _ | refine blk_drew ?_ | refine blk_alloc ?_ _)); exact BK164.out) hb); have n3_ := Aside0.mk (below_step (by repeat (first | (with_reducible first | exact HB.out | apply below_alloc | apply pw_below_drewN | apply below_drew1 | refine below_set ?_ GE163.out | refine below_set ?_ GE164.out) | exact HB.out)) hb); clear BK163; clear BK164; clear HB; have HO167 := n0_; have BK163 := n1_; have BK164 := n2_; have HB := n3_; clear n0_ n1_ n2_ n3_; clear hb ho7; have hnb8 := NB163_164.out; have hnc8 := NB164_163.out; have hcz9_0 : w6.cell? ⟨gb163, 0, none⟩ = some (.int .i64 a0_0) := (blk_cell BK163.out 0).trans rfl; have hcz9_1 : w6.cell? ⟨gb163, 1, none⟩ = some (.int .i64 a0_1) := (blk_cell BK163.out 1).trans rfl; have hcz9_2 : w6.cell? ⟨gb163, 2, none⟩ = some (.int .i64 a0_2) := (blk_cell BK163.out 2).trans rfl; have hcz9_3 : w6.cell? ⟨gb163, 3, none⟩ = some (.string a0_3) := (blk_cell BK163.out 3).trans rfl; have hcz9_4 : w6.cell? ⟨gb163, 4, none⟩ = some (.string a0_4) := (blk_cell BK163.out 4).trans rfl; have hcz9_5 : w6.cell? ⟨gb163, 5, none⟩ = some (.slice A0_5 l0_5.length c0_5) := (blk_cell BK163.out 5).trans rfl; have hcz9_6 : w6.cell? ⟨gb163, 6, none⟩ = some (.slice A0_6 l0_6.length c0_6) := (blk_cell BK163.out 6).trans rfl; have hfz9_0 := blk_frozen BK163.out 0; have hfz9_1 := blk_frozen BK163.out 1; have hfz9_2 := blk_frozen BK163.out 2; have hfz9_3 := blk_frozen BK163.out 3; have hfz9_4 := blk_frozen BK163.out 4; have hfz9_5 := blk_frozen BK163.out 5; have hfz9_6 := blk_frozen BK163.out 6) | ((with_reducible refine gate_builtin (b := .append) (xs := #[.tmp 3, .tmp 5]) rfl ?_); at_builtin; refine Kd.R_append_rows k68 (w0 := w) w.heap.size rfl (.tmp 3) (.tmp 5) 22 68 (.agg #[(.string ⟨#[]⟩), (.string ⟨#[]⟩)]) 32 rfl Tryd.underlying22 info68 rfl (by decide) (by omega) v166 y165 l0_5 _ _ _ (fun _ => True) (fun _ => False) rfl rfl ?aO ?aR (fun _ _ h => h) (fun _ h => h.elim) ?aF ?aB ?aS ?aL ?_; (case aR => repeat (first | exact (Kd.C_below HR0_5.out HB.out) | (with_reducible refine Kd.C_alloc ?_ _) | (with_reducible refine Kd.C_drewN ?_ _) | (with_reducible refine Kd.C_drew ?_))); (case aB => exact (by repeat (first | (with_reducible first | exact HB.out | apply below_alloc | apply pw_below_drewN | apply below_drew1 | refine below_set ?_ GE163.out | refine below_set ?_ GE164.out) | exact HB.out))); (case aF => exact (fun _ _ => trivial)); (case aO => exact (by (with_reducible repeat (first | apply Kd.R_alloc | apply Kd.R_drewN | apply Kd.R_drew)); exact HO167.out)); (case aS => exact (below_size (by repeat (first | (with_reducible first | exact HB.out | apply below_alloc | apply pw_below_drewN | apply below_drew1 | refine below_set ?_ GE163.out | refine below_set ?_ GE164.out) | exact HB.out)))); (case aL => have := LMc2.out; omega); intro v169 w10 ho hb hg hat; rw [← Ny168.out] at ho; have n0_ := Aside0.mk (blk_grown (g := gb163) (o := .cells #[.int .i64 a0_0, .int .i64 a0_1, .int .i64 a0_2, .string a0_3, .string a0_4, .slice A0_5 l0_5.length c0_5, .slice A0_6 l0_6.length c0_6] 25 (0, 0)) (by (with_reducible repeat (first | refine blk_drewN ?_ _ | refine blk_drew ?_ | refine blk_alloc ?_ _)); exact BK163.out) hg (Kd.R_ne HO167.out BK163.out (by decide))); have n1_ := Aside0.mk (blk_grown (g := gb164) (o := .cells #[.int .i64 0, .int .i64 0, .int .i64 0, .string (⟨#[]⟩ : ByteArray), .string (⟨#[]⟩ : ByteArray), .slice none 0 0, .slice none 0 0] 25 (0, 0)) (by (with_reducible repeat (first | refine blk_drewN ?_ _ | refine blk_drew ?_ | refine blk_alloc ?_ _)); exact BK164.out) hg (Kd.R_ne HO167.out BK164.out (by decide))); have n2_ := Aside0.mk (hb); have n3_ := Aside0.mk (ho); clear BK163; clear BK164; clear HB; clear HO167; have BK163 := n0_; have BK164 := n1_; have HB := n2_; have HO170 := n3_; clear n0_ n1_ n2_ n3_; clear ho hb hg hat; obtain ⟨Ao11, co11, eo11⟩ := Kd.R_slice HO170.out; subst eo11; have hcz12_0 : w10.cell? ⟨gb163, 0, none⟩ = some (.int .i64 a0_0) := (blk_cell BK163.out 0).trans rfl; have hcz12_1 : w10.cell? ⟨gb163, 1, none⟩ = some (.int .i64 a0_1) := (blk_cell BK163.out 1).trans rfl; have hcz12_2 : w10.cell? ⟨gb163, 2, none⟩ = some (.int .i64 a0_2) := (blk_cell BK163.out 2).trans rfl; have hcz12_3 : w10.cell? ⟨gb163, 3, none⟩ = some (.string a0_3) := (blk_cell BK163.out 3).trans rfl; have hcz12_4 : w10.cell? ⟨gb163, 4, none⟩ = some (.string a0_4) := (blk_cell BK163.out 4).trans rfl; have hcz12_5 : w10.cell? ⟨gb163, 5, none⟩ = some (.slice A0_5 l0_5.length c0_5) := (blk_cell BK163.out 5).trans rfl; have hcz12_6 : w10.cell? ⟨gb163, 6, none⟩ = some (.slice A0_6 l0_6.length c0_6) := (blk_cell BK163.out 6).trans rfl; have hfz12_0 := blk_frozen BK163.out 0; have hfz12_1 := blk_frozen BK163.out 1; have hfz12_2 := blk_frozen BK163.out 2; have hfz12_3 := blk_frozen BK163.out 3; have hfz12_4 := blk_frozen BK163.out 4; have hfz12_5 := blk_frozen BK163.out 5; have hfz12_6 := blk_frozen BK163.out 6) | ((with_reducible refine gate_dst (N := 8) rfl ?_); refine Kd.R_lit Kd.string _ 9 ?hg (N := 8) ?hd (xs := ([] : List ByteArray)) (inner := []) (ok := fun _ => True) (okp := fun _ => True) ?hr ?hp (fun _ hk => hk) trivial (Below.refl _ _) (Nat.le_refl _) (by simp) ?_; (case hd => rfl); (case hg => rfl); (case hr => first | (go_simp; done) | (go_simp; rfl)); (case hp => exact (Reps.none _ _)); intro v172 w13 ho14 hb hg_ hnew_; clear hg_ hnew_; (first | rw [← Ny171.out] at ho14 | (simp only [Int.reduceToNat] at ho14; rw [← Ny171.out] at ho14)); have n0_ := Aside0.mk (Kd.R_below (by (with_reducible repeat (first | apply Kd.R_alloc | apply Kd.R_drewN | apply Kd.R_drew)); exact (Kd.R_mono (Kd.R_far (p := ⟨gb163, 5, none⟩) (Kd.R_types HO170.out BK163.out (by decide)) (fun _ hk => hk.2) (.slice Ao11 y168.length co11)) (fun _ h_ => h_.1))) hb); have n1_ := Aside0.mk (Kd.R_lower ho14 (below_size (by repeat (first | (with_reducible first | exact HB.out | apply below_alloc | apply pw_below_drewN | apply below_drew1 | refine below_set ?_ GE163.out | refine below_set ?_ GE164.out) | exact HB.out)))); have n2_ := Aside0.mk (blk_below (g := gb163) (o := .cells #[.int .i64 a0_0, .int .i64 a0_1, .int .i64 a0_2, .string a0_3, .string a0_4, .slice Ao11 y168.length co11, .slice A0_6 l0_6.length c0_6] 25 (0, 0)) (by (with_reducible repeat (first | refine blk_drewN ?_ _ | refine blk_drew ?_ | refine blk_alloc ?_ _)); refine blk_put (cs := #[.int .i64 a0_0, .int .i64 a0_1, .int .i64 a0_2, .string a0_3, .string a0_4, .slice A0_5 l0_5.length c0_5, .slice A0_6 l0_6.length c0_6]) ?_ 5 _ rfl; (with_reducible repeat (first | refine blk_drewN ?_ _ | refine blk_drew ?_ | refine blk_alloc ?_ _)); exact BK163.out) hb); have n3_ := Aside0.mk (blk_below (g := gb164) (o := .cells #[.int .i64 0, .int .i64 0, .int .i64 0, .string (⟨#[]⟩ : ByteArray), .string (⟨#[]⟩ : ByteArray), .slice none 0 0, .slice none 0 0] 25 (0, 0)) (by (with_reducible repeat (first | refine blk_drewN ?_ _ | refine blk_drew ?_ | refine blk_alloc ?_ _)); refine blk_far ?_ NB164_163.out _; (with_reducible repeat (first | refine blk_drewN ?_ _ | refine blk_drew ?_ | refine blk_alloc ?_ _)); exact BK164.out) hb); have n4_ := Aside0.mk (below_step (by repeat (first | (with_reducible first | exact HB.out | apply below_alloc | apply pw_below_drewN | apply below_drew1 | refine below_set ?_ GE163.out | refine below_set ?_ GE164.out) | exact HB.out)) hb); clear HO170; clear BK163; clear BK164; clear HB; have HO170 := n0_; have HO173 := n1_; have BK163 := n2_; have BK164 := n3_; have HB := n4_; clear n0_ n1_ n2_ n3_ n4_; clear hb ho14; have hcz15_0 : w13.cell? ⟨gb163, 0, none⟩ = some (.int .i64 a0_0) := (blk_cell BK163.out 0).trans rfl; have hcz15_1 : w13.cell? ⟨gb163, 1, none⟩ = some (.int .i64 a0_1) := (blk_cell BK163.out 1).trans rfl; have hcz15_2 : w13.cell? ⟨gb163, 2, none⟩ = some (.int .i64 a0_2) := (blk_cell BK163.out 2).trans rfl; have hcz15_3 : w13.cell? ⟨gb163, 3, none⟩ = some (.string a0_3) := (blk_cell BK163.out 3).trans rfl; have hcz15_4 : w13.cell? ⟨gb163, 4, none⟩ = some (.string a0_4) := (blk_cell BK163.out 4).trans rfl; have hcz15_5 : w13.cell? ⟨gb163, 5, none⟩ = some (.slice Ao11 y168.length co11) := (blk_cell BK163.out 5).trans rfl; have hcz15_6 : w13.cell? ⟨gb163, 6, none⟩ = some (.slice A0_6 l0_6.length c0_6) := (blk_cell BK163.out 6).trans rfl; have hfz15_0 := blk_frozen BK163.out 0; have hfz15_1 := blk_frozen BK163.out 1; have hfz15_2 := blk_frozen BK163.out 2; have hfz15_3 := blk_frozen BK163.out 3; have hfz15_4 := blk_frozen BK163.out 4; have hfz15_5 := blk_frozen BK163.out 5; have hfz15_6 := blk_frozen BK163.out 6) | ((with_reducible refine gate_builtin (b := .append) (xs := #[.tmp 8, .tmp 10]) rfl ?_); at_builtin; refine Kd.R_append_rows Kd.string (w0 := w) w.heap.size rfl (.tmp 8) (.tmp 10) 23 9 (.string ⟨#[]⟩) 16 rfl Tryd.underlying23 info9 rfl (by decide) (by omega) v172 y171 l0_6 _ _ _ (fun _ => True) (fun _ => False) rfl rfl ?aO ?aR (fun _ _ h => h) (fun _ h => h.elim) ?aF ?aB ?aS ?aL ?_; (case aR => repeat (first | exact (Kd.C_below HR0_6.out HB.out) | (with_reducible refine Kd.C_alloc ?_ _) | (with_reducible refine Kd.C_drewN ?_ _) | (with_reducible refine Kd.C_drew ?_))); (case aB => exact (by repeat (first | (with_reducible first | exact HB.out | apply below_alloc | apply pw_below_drewN | apply below_drew1 | refine below_set ?_ GE163.out | refine below_set ?_ GE164.out) | exact HB.out))); (case aF => exact (fun _ _ => trivial)); (case aO => exact (by (with_reducible repeat (first | apply Kd.R_alloc | apply Kd.R_drewN | apply Kd.R_drew)); exact HO173.out)); (case aS => exact (below_size (by repeat (first | (with_reducible first | exact HB.out | apply below_alloc | apply pw_below_drewN | apply below_drew1 | refine below_set ?_ GE163.out | refine below_set ?_ GE164.out) | exact HB.out)))); (case aL => have := LMc3.out; omega); intro v175 w16 ho hb hg hat; rw [← Ny174.out] at ho; have n0_ := Aside0.mk (blk_grown (g := gb163) (o := .cells #[.int .i64 a0_0, .int .i64 a0_1, .int .i64 a0_2, .string a0_3, .string a0_4, .slice Ao11 y168.length co11, .slice A0_6 l0_6.length c0_6] 25 (0, 0)) (by (with_reducible repeat (first | refine blk_drewN ?_ _ | refine blk_drew ?_ | refine blk_alloc ?_ _)); exact BK163.out) hg (Kd.R_ne HO173.out BK163.out (by decide))); have n1_ := Aside0.mk (blk_grown (g := gb164) (o := .cells #[.int .i64 0, .int .i64 0, .int .i64 0, .string (⟨#[]⟩ : ByteArray), .string (⟨#[]⟩ : ByteArray), .slice none 0 0, .slice none 0 0] 25 (0, 0)) (by (with_reducible repeat (first | refine blk_drewN ?_ _ | refine blk_drew ?_ | refine blk_alloc ?_ _)); exact BK164.out) hg (Kd.R_ne HO173.out BK164.out (by decide))); have n2_ := Aside0.mk (Kd.R_over' (by (with_reducible repeat (first | apply Kd.R_alloc | apply Kd.R_drewN | apply Kd.R_drew)); exact HO170.out) (Kd.R_typed (by (with_reducible repeat (first | apply Kd.R_alloc | apply Kd.R_drewN | apply Kd.R_drew)); exact HO173.out)) (by decide) hg); have n3_ := Aside0.mk (hb); have n4_ := Aside0.mk (ho); clear BK163; clear BK164; clear HO170; clear HB; clear HO173; have BK163 := n0_; have BK164 := n1_; have HO170 := n2_; have HB := n3_; have HO176 := n4_; clear n0_ n1_ n2_ n3_ n4_; clear ho hb hg hat; obtain ⟨Ao17, co17, eo17⟩ := Kd.R_slice HO176.out; subst eo17; have hcz18_0 : w16.cell? ⟨gb163, 0, none⟩ = some (.int .i64 a0_0) := (blk_cell BK163.out 0).trans rfl; have hcz18_1 : w16.cell? ⟨gb163, 1, none⟩ = some (.int .i64 a0_1) := (blk_cell BK163.out 1).trans rfl; have hcz18_2 : w16.cell? ⟨gb163, 2, none⟩ = some (.int .i64 a0_2) := (blk_cell BK163.out 2).trans rfl; have hcz18_3 : w16.cell? ⟨gb163, 3, none⟩ = some (.string a0_3) := (blk_cell BK163.out 3).trans rfl; have hcz18_4 : w16.cell? ⟨gb163, 4, none⟩ = some (.string a0_4) := (blk_cell BK163.out 4).trans rfl; have hcz18_5 : w16.cell? ⟨gb163, 5, none⟩ = some (.slice Ao11 y168.length co11) := (blk_cell BK163.out 5).trans rfl; have hcz18_6 : w16.cell? ⟨gb163, 6, none⟩ = some (.slice A0_6 l0_6.length c0_6) := (blk_cell BK163.out 6).trans rfl; have hfz18_0 := blk_frozen BK163.out 0; have hfz18_1 := blk_frozen BK163.out 1; have hfz18_2 := blk_frozen BK163.out 2; have hfz18_3 := blk_frozen BK163.out 3; have hfz18_4 := blk_frozen BK163.out 4; have hfz18_5 := blk_frozen BK163.out 5; have hfz18_6 := blk_frozen BK163.out 6; have hcz19_0 : w16.cell? ⟨gb164, 0, none⟩ = some (.int .i64 0) := (blk_cell BK164.out 0).trans rfl; have hcz19_1 : w16.cell? ⟨gb164, 1, none⟩ = some (.int .i64 0) := (blk_cell BK164.out 1).trans rfl; have hcz19_2 : w16.cell? ⟨gb164, 2, none⟩ = some (.int .i64 0) := (blk_cell BK164.out 2).trans rfl; have hcz19_3 : w16.cell? ⟨gb164, 3, none⟩ = some (.string (⟨#[]⟩ : ByteArray)) := (blk_cell BK164.out 3).trans rfl; have hcz19_4 : w16.cell? ⟨gb164, 4, none⟩ = some (.string (⟨#[]⟩ : ByteArray)) := (blk_cell BK164.out 4).trans rfl; have hcz19_5 : w16.cell? ⟨gb164, 5, none⟩ = some (.slice none 0 0) := (blk_cell BK164.out 5).trans rfl; have hcz19_6 : w16.cell? ⟨gb164, 6, none⟩ = some (.slice none 0 0) := (blk_cell BK164.out 6).trans rfl; have hfz19_0 := blk_frozen BK164.out 0; have hfz19_1 := blk_frozen BK164.out 1; have hfz19_2 := blk_frozen BK164.out 2; have hfz19_3 := blk_frozen BK164.out 3; have hfz19_4 := blk_frozen BK164.out 4; have hfz19_5 := blk_frozen BK164.out 5; have hfz19_6 := blk_frozen BK164.out 6))
      refine bodyPost_ret (results_cell_row rfl _ _ gb164 25 #[.int .i64 a0_0, .int .i64 a0_1, .int .i64 a0_2, .string a0_3, .string a0_4, .slice Ao11 y168.length co11, .slice Ao17 y174.length co17] (0, 0) _ rfl (by (with_reducible repeat (first | refine blk_drewN ?_ _ | refine blk_drew ?_ | refine blk_alloc ?_ _)); refine blk_put (cs := #[.int .i64 a0_0, .int .i64 a0_1, .int .i64 a0_2, .string a0_3, .string a0_4, .slice Ao11 y168.length co11, .slice none 0 0]) ?_ 6 _ rfl; (with_reducible repeat (first | refine blk_drewN ?_ _ | refine blk_drew ?_ | refine blk_alloc ?_ _)); refine blk_put (cs := #[.int .i64 a0_0, .int .i64 a0_1, .int .i64 a0_2, .string a0_3, .string a0_4, .slice none 0 0, .slice none 0 0]) ?_ 5 _ rfl; (with_reducible repeat (first | refine blk_drewN ?_ _ | refine blk_drew ?_ | refine blk_alloc ?_ _)); refine blk_put (cs := #[.int .i64 a0_0, .int .i64 a0_1, .int .i64 a0_2, .string a0_3, .string (⟨#[]⟩ : ByteArray), .slice none 0 0, .slice none 0 0]) ?_ 4 _ rfl; (with_reducible repeat (first | refine blk_drewN ?_ _ | refine blk_drew ?_ | refine blk_alloc ?_ _)); refine blk_put (cs := #[.int .i64 a0_0, .int .i64 a0_1, .int .i64 a0_2, .string (⟨#[]⟩ : ByteArray), .string (⟨#[]⟩ : ByteArray), .slice none 0 0, .slice none 0 0]) ?_ 3 _ rfl; (with_reducible repeat (first | refine blk_drewN ?_ _ | refine blk_drew ?_ | refine blk_alloc ?_ _)); refine blk_put (cs := #[.int .i64 a0_0, .int .i64 a0_1, .int .i64 0, .string (⟨#[]⟩ : ByteArray), .string (⟨#[]⟩ : ByteArray), .slice none 0 0, .slice none 0 0]) ?_ 2 _ rfl; (with_reducible repeat (first | refine blk_drewN ?_ _ | refine blk_drew ?_ | refine blk_alloc ?_ _)); refine blk_put (cs := #[.int .i64 a0_0, .int .i64 0, .int .i64 0, .string (⟨#[]⟩ : ByteArray), .string (⟨#[]⟩ : ByteArray), .slice none 0 0, .slice none 0 0]) ?_ 1 _ rfl; (with_reducible repeat (first | refine blk_drewN ?_ _ | refine blk_drew ?_ | refine blk_alloc ?_ _)); refine blk_put (cs := #[.int .i64 0, .int .i64 0, .int .i64 0, .string (⟨#[]⟩ : ByteArray), .string (⟨#[]⟩ : ByteArray), .slice none 0 0, .slice none 0 0]) ?_ 0 _ rfl; (with_reducible repeat (first | refine blk_drewN ?_ _ | refine blk_drew ?_ | refine blk_alloc ?_ _)); refine blk_far ?_ NB164_163.out _; (with_reducible repeat (first | refine blk_drewN ?_ _ | refine blk_drew ?_ | refine blk_alloc ?_ _)); exact BK164.out) Tryd.underlying25 rfl (by kernel_rfl)) rfl ?_
      exact ⟨_, _, by first | rfl | (simp [errW_none, errW_some] <;> rfl) | (simp [*, errW_none, errW_some] <;> rfl), by (with_reducible repeat (first | apply Kd.R_alloc | apply Kd.R_drewN | apply Kd.R_drew)); exact Kd.R_mono (Kd.R_far (p := ⟨gb164, 6, none⟩) (Kd.R_far (p := ⟨gb164, 5, none⟩) (Kd.R_far (p := ⟨gb164, 4, none⟩) (Kd.R_far (p := ⟨gb164, 3, none⟩) (Kd.R_far (p := ⟨gb164, 2, none⟩) (Kd.R_far (p := ⟨gb164, 1, none⟩) (Kd.R_far (p := ⟨gb164, 0, none⟩) (Kd.R_far (p := ⟨gb163, 6, none⟩) (Kd.R_types (Kd.R_types HO170.out BK163.out (by decide)) BK164.out (by decide)) (fun _ hk => hk.1.2) (.slice Ao17 y174.length co17)) (fun _ hk => hk.2) (.int .i64 a0_0)) (fun _ hk => hk.2) (.int .i64 a0_1)) (fun _ hk => hk.2) (.int .i64 a0_2)) (fun _ hk => hk.2) (.string a0_3)) (fun _ hk => hk.2) (.string a0_4)) (fun _ hk => hk.2) (.slice Ao11 y168.length co11)) (fun _ hk => hk.2) (.slice Ao17 y174.length co17)) (fun _ hk => trivial), by (with_reducible repeat (first | apply Kd.R_alloc | apply Kd.R_drewN | apply Kd.R_drew)); exact Kd.R_mono (Kd.R_far (p := ⟨gb164, 6, none⟩) (Kd.R_far (p := ⟨gb164, 5, none⟩) (Kd.R_far (p := ⟨gb164, 4, none⟩) (Kd.R_far (p := ⟨gb164, 3, none⟩) (Kd.R_far (p := ⟨gb164, 2, none⟩) (Kd.R_far (p := ⟨gb164, 1, none⟩) (Kd.R_far (p := ⟨gb164, 0, none⟩) (Kd.R_far (p := ⟨gb163, 6, none⟩) (Kd.R_types (Kd.R_types HO176.out BK163.out (by decide)) BK164.out (by decide)) (fun _ hk => hk.1.2) (.slice Ao17 y174.length co17)) (fun _ hk => hk.2) (.int .i64 a0_0)) (fun _ hk => hk.2) (.int .i64 a0_1)) (fun _ hk => hk.2) (.int .i64 a0_2)) (fun _ hk => hk.2) (.string a0_3)) (fun _ hk => hk.2) (.string a0_4)) (fun _ hk => hk.2) (.slice Ao11 y168.length co11)) (fun _ hk => hk.2) (.slice Ao17 y174.length co17)) (fun _ hk => trivial), by repeat (first | (with_reducible first | exact HB.out | apply below_alloc | apply pw_below_drewN | apply below_drew1 | refine below_set ?_ GE163.out | refine below_set ?_ GE164.out) | exact HB.out)⟩
    · rw [if_neg c3] at H
      exact absurd H (by simp)
  · rw [if_neg c2] at H
    exact absurd H (by simp)

/-! ### dovecotebook_SameSlots: function 32 -/
def dovecotebook_SameSlots.l0 : Nat → List (S68) → List (S68) → Int → Option (Bool)
  | 0, _, _, _ => none
  | k + 1, x0, x1, x5 => if x5 < (x0.length : Int) then (if 0 ≤ x5 then (if x5 < (x1.length : Int) then (if (!((((rd_T68 x0 x5).f0).toList) == (((rd_T68 x1 x5).f0).toList)) || (!((((rd_T68 x0 x5).f1).toList) == (((rd_T68 x1 x5).f1).toList)))) = true then (some false) else (dovecotebook_SameSlots.l0 k x0 x1 (wrap64 (x5 + 1)))) else (none)) else (none)) else (some true)
def dovecotebook_SameSlots.f (k : Nat) (l0 : List (S68)) (l1 : List (S68)) : Option (Bool) := if (l0.length : Int) = (l1.length : Int) then (dovecotebook_SameSlots.l0 k l0 l1 0) else (some false)
set_option maxHeartbeats 8000000 in
set_option maxRecDepth 100000 in
theorem dovecotebook_SameSlots.calls (k : Nat) (A0 : Option Addr) (c0 : Nat) (l0 : List (S68)) (A1 : Option Addr) (c1 : Nat) (l1 : List (S68)) (r : Bool) (w : World) (hr0 : Kd.C k68 w A0 l0.length l0) (hc0 : l0.length ≤ c0) (hr1 : Kd.C k68 w A1 l1.length l1) (hc1 : l1.length ≤ c1) (h : dovecotebook_SameSlots.f k l0 l1 = some r) :
    Calls Tryd.prog 32 #[.slice A0 l0.length c0, .slice A1 l1.length c1] w fun e w' => e = .returned (.bool r) ∧ Drawn0 w w' := by
  have hu68 := Tryd.underlying68
  have HR0 := Aside0.mk hr0
  have HC0 := Aside0.mk hc0
  clear hr0 hc0
  have HR1 := Aside0.mk hr1
  have HC1 := Aside0.mk hc1
  clear hr1 hc1
  have H : (if (l0.length : Int) = (l1.length : Int) then (dovecotebook_SameSlots.l0 k l0 l1 0) else (some false)) = some r := h
  clear h
  by_cases c3 : (l0.length : Int) = (l1.length : Int)
  · rw [if_pos c3] at H
    have c3b0 : ((l0.length : Int) == (l1.length : Int)) = true := beq_iff_eq.mpr c3
    have c3b1 : ((l0.length : Int) != (l1.length : Int)) = false := bne_eq_false_iff_eq.mpr c3
    have c3b2 : (l0.length == l1.length) = true := by first | simpa using c3 | (simp at c3 ⊢; omega)
    clear c3
    have H' := Aside0.mk H
    clear H
    go_enter Tryd.func32, Tryd.ntmps32
    go_wp2
    repeat (go_quiet (fail); try go_wp2)
    go_loopg [5] k (fun kq v5 w' => ∃ (x5_1 : Int), v5 = .int .i64 x5_1 ∧ Aside0 (dovecotebook_SameSlots.l0 kq l0 l1 x5_1 = some r) ∧ Aside0 (kq ≤ k) ∧ Drawn0 w w')
    case atStart => exact ⟨(0), (by first | rfl | (simp; done) | (simp [*]; done)), H', ⟨Nat.le_refl _⟩, by repeat (first | exact Drawn0.refl _ | apply Drawn0.step)⟩
    case round =>
      clear H'
      try clear c1
      try clear p2
      try clear c3
      try clear c3b0
      try clear c3b1
      try clear c3b2
      obtain ⟨x5_1, rfl, HA, HK1, ⟨m1, rfl⟩⟩ := hrel
      cases gk with
      | zero => exact absurd HA.out (by simp [dovecotebook_SameSlots.l0])
      | succ k1 =>
        have H := HA.out
        clear HA
        simp only [dovecotebook_SameSlots.l0] at H
        by_cases c4 : x5_1 < (l0.length : Int)
        · rw [if_pos c4] at H
          have c4b0 : decide (x5_1 < (l0.length : Int)) = true := decide_eq_true c4
          clear c4
          by_cases c5 : 0 ≤ x5_1
          · rw [if_pos c5] at H
            have c5b0 : decide (0 ≤ x5_1) = true := decide_eq_true c5
            clear c5
            by_cases c6 : x5_1 < (l1.length : Int)
            · rw [if_pos c6] at H
              have c6b0 : decide (x5_1 < (l1.length : Int)) = true := decide_eq_true c6
              clear c6
              by_cases c7 : (!((((rd_T68 l0 x5_1).f0).toList) == (((rd_T68 l1 x5_1).f0).toList)) || (!((((rd_T68 l0 x5_1).f1).toList) == (((rd_T68 l1 x5_1).f1).toList)))) = true
              · rw [if_pos c7] at H
                have c7b0 : (!((((rd_T68 l0 x5_1).f0).toList) == (((rd_T68 l1 x5_1).f0).toList)) || (!((((rd_T68 l0 x5_1).f1).toList) == (((rd_T68 l1 x5_1).f1).toList)))) = true := c7
                clear c7
                obtain rfl := Option.some.inj H
                have p177 : 0 ≤ (x5_1 : Int) := of_decide_eq_true (by first | (with_reducible assumption) | assumption)
                have q177 : x5_1 < (l0.length : Int) := of_decide_eq_true (by first | (with_reducible assumption) | assumption)
                obtain ⟨ad177, e177, hx177_0, hx177_1⟩ := at_T68 HR0.out x5_1 p177 q177
                cases e177
                replace p177 := eq_true p177
                replace q177 := eq_true q177
                have p178 : 0 ≤ (x5_1 : Int) := of_decide_eq_true (by first | (with_reducible assumption) | assumption)
                have q178 : x5_1 < (l1.length : Int) := of_decide_eq_true (by first | (with_reducible assumption) | assumption)
                obtain ⟨ad178, e178, hx178_0, hx178_1⟩ := at_T68 HR1.out x5_1 p178 q178
                cases e178
                replace p178 := eq_true p178
                replace q178 := eq_true q178
                go_wp2
                repeat (go_quiet (fail); try go_wp2)
                go_ret
                exact ⟨by first | rfl | (simp; done) | (simp [*]; done), by repeat (first | exact Drawn0.refl _ | apply Drawn0.step)⟩
              · rw [if_neg c7] at H
                have c7b0 : (!((((rd_T68 l0 x5_1).f0).toList) == (((rd_T68 l1 x5_1).f0).toList)) || (!((((rd_T68 l0 x5_1).f1).toList) == (((rd_T68 l1 x5_1).f1).toList)))) = false := by simpa using c7
                clear c7
                have H' := Aside0.mk H
                clear H
                have p177 : 0 ≤ (x5_1 : Int) := of_decide_eq_true (by first | (with_reducible assumption) | assumption)
                have q177 : x5_1 < (l0.length : Int) := of_decide_eq_true (by first | (with_reducible assumption) | assumption)
                obtain ⟨ad177, e177, hx177_0, hx177_1⟩ := at_T68 HR0.out x5_1 p177 q177
                cases e177
                replace p177 := eq_true p177
                replace q177 := eq_true q177
                have p178 : 0 ≤ (x5_1 : Int) := of_decide_eq_true (by first | (with_reducible assumption) | assumption)
                have q178 : x5_1 < (l1.length : Int) := of_decide_eq_true (by first | (with_reducible assumption) | assumption)
                obtain ⟨ad178, e178, hx178_0, hx178_1⟩ := at_T68 HR1.out x5_1 p178 q178
                cases e178
                replace p178 := eq_true p178
                replace q178 := eq_true q178
                go_wp2
                repeat (go_quiet (fail); try go_wp2)
                go_roundg k1
                case measure => have := HK1.out; omega
                case rel => exact ⟨(wrap64 (x5_1 + 1)), (by first | rfl | (simp; done) | (simp [*]; done)), H', ⟨by have := HK1.out; omega⟩, by repeat (first | exact Drawn0.refl _ | apply Drawn0.step)⟩
            · rw [if_neg c6] at H
              exact absurd H (by simp)
          · rw [if_neg c5] at H
            exact absurd H (by simp)
        · rw [if_neg c4] at H
          have c4b0 : decide (x5_1 < (l0.length : Int)) = false := decide_eq_false c4
          clear c4
          obtain rfl := Option.some.inj H
          go_wp2
          repeat (go_quiet (fail); try go_wp2)
          go_ret
          exact ⟨by first | rfl | (simp; done) | (simp [*]; done), by repeat (first | exact Drawn0.refl _ | apply Drawn0.step)⟩
  · rw [if_neg c3] at H
    have c3b0 : ((l0.length : Int) == (l1.length : Int)) = false := beq_eq_false_iff_ne.mpr c3
    have c3b1 : ((l0.length : Int) != (l1.length : Int)) = true := bne_iff_ne.mpr c3
    have c3b2 : (l0.length == l1.length) = false := by first | simpa using c3 | (simp at c3 ⊢; omega)
    obtain rfl := Option.some.inj H
    go_enter Tryd.func32, Tryd.ntmps32
    go_wp2
    repeat (go_quiet (fail); try go_wp2)
    go_ret
    exact ⟨by first | rfl | (simp; done) | (simp [*]; done), by repeat (first | exact Drawn0.refl _ | apply Drawn0.step)⟩

/-! ### dovecotebook_SameTexts: function 33 -/
def dovecotebook_SameTexts.l0 : Nat → List ByteArray → List ByteArray → Int → Option (Bool)
  | 0, _, _, _ => none
  | k + 1, x0, x1, x5 => if x5 < (x0.length : Int) then (if 0 ≤ x5 then (if x5 < (x1.length : Int) then (if (rdOf ByteArray.empty x0 x5).toList = (rdOf ByteArray.empty x1 x5).toList then (dovecotebook_SameTexts.l0 k x0 x1 (wrap64 (x5 + 1))) else (some false)) else (none)) else (none)) else (some true)
def dovecotebook_SameTexts.f (k : Nat) (l0 : List ByteArray) (l1 : List ByteArray) : Option (Bool) := if (l0.length : Int) = (l1.length : Int) then (dovecotebook_SameTexts.l0 k l0 l1 0) else (some false)
set_option maxHeartbeats 8000000 in
set_option maxRecDepth 100000 in
theorem dovecotebook_SameTexts.calls (k : Nat) (A0 : Option Addr) (c0 : Nat) (l0 : List ByteArray) (A1 : Option Addr) (c1 : Nat) (l1 : List ByteArray) (r : Bool) (w : World) (hr0 : Kd.C Kd.string w A0 l0.length l0) (hc0 : l0.length ≤ c0) (hr1 : Kd.C Kd.string w A1 l1.length l1) (hc1 : l1.length ≤ c1) (h : dovecotebook_SameTexts.f k l0 l1 = some r) :
    Calls Tryd.prog 33 #[.slice A0 l0.length c0, .slice A1 l1.length c1] w fun e w' => e = .returned (.bool r) ∧ Drawn0 w w' := by
  have HR0 := Aside0.mk hr0
  have HC0 := Aside0.mk hc0
  clear hr0 hc0
  have HR1 := Aside0.mk hr1
  have HC1 := Aside0.mk hc1
  clear hr1 hc1
  have H : (if (l0.length : Int) = (l1.length : Int) then (dovecotebook_SameTexts.l0 k l0 l1 0) else (some false)) = some r := h
  clear h
  by_cases c3 : (l0.length : Int) = (l1.length : Int)
  · rw [if_pos c3] at H
    have c3b0 : ((l0.length : Int) == (l1.length : Int)) = true := beq_iff_eq.mpr c3
    have c3b1 : ((l0.length : Int) != (l1.length : Int)) = false := bne_eq_false_iff_eq.mpr c3
    have c3b2 : (l0.length == l1.length) = true := by first | simpa using c3 | (simp at c3 ⊢; omega)
    clear c3
    have H' := Aside0.mk H
    clear H
    go_enter Tryd.func33, Tryd.ntmps33
    go_wp2
    repeat (go_quiet (fail); try go_wp2)
    go_loopg [5] k (fun kq v5 w' => ∃ (x5_1 : Int), v5 = .int .i64 x5_1 ∧ Aside0 (dovecotebook_SameTexts.l0 kq l0 l1 x5_1 = some r) ∧ Aside0 (kq ≤ k) ∧ Drawn0 w w')
    case atStart => exact ⟨(0), (by first | rfl | (simp; done) | (simp [*]; done)), H', ⟨Nat.le_refl _⟩, by repeat (first | exact Drawn0.refl _ | apply Drawn0.step)⟩
    case round =>
      clear H'
      try clear c1
      try clear p2
      try clear c3
      try clear c3b0
      try clear c3b1
      try clear c3b2
      obtain ⟨x5_1, rfl, HA, HK1, ⟨m1, rfl⟩⟩ := hrel
      cases gk with
      | zero => exact absurd HA.out (by simp [dovecotebook_SameTexts.l0])
      | succ k1 =>
        have H := HA.out
        clear HA
        simp only [dovecotebook_SameTexts.l0] at H
        by_cases c4 : x5_1 < (l0.length : Int)
        · rw [if_pos c4] at H
          have c4b0 : decide (x5_1 < (l0.length : Int)) = true := decide_eq_true c4
          clear c4
          by_cases c5 : 0 ≤ x5_1
          · rw [if_pos c5] at H
            have c5b0 : decide (0 ≤ x5_1) = true := decide_eq_true c5
            clear c5
            by_cases c6 : x5_1 < (l1.length : Int)
            · rw [if_pos c6] at H
              have c6b0 : decide (x5_1 < (l1.length : Int)) = true := decide_eq_true c6
              clear c6
              by_cases c7 : (rdOf ByteArray.empty l0 x5_1).toList = (rdOf ByteArray.empty l1 x5_1).toList
              · rw [if_pos c7] at H
                have c7b0 : ((rdOf ByteArray.empty l0 x5_1).toList == (rdOf ByteArray.empty l1 x5_1).toList) = true := beq_iff_eq.mpr c7
                have c7b1 : ((rdOf ByteArray.empty l0 x5_1).toList != (rdOf ByteArray.empty l1 x5_1).toList) = false := bne_eq_false_iff_eq.mpr c7
                clear c7
                have H' := Aside0.mk H
                clear H
                have p179 : 0 ≤ (x5_1 : Int) := of_decide_eq_true (by first | (with_reducible assumption) | assumption)
                have q179 : x5_1 < (l0.length : Int) := of_decide_eq_true (by first | (with_reducible assumption) | assumption)
                obtain ⟨ad179, e179, hx179_0⟩ := Kd.at_string HR0.out x5_1 p179 q179
                cases e179
                replace p179 := eq_true p179
                replace q179 := eq_true q179
                have p180 : 0 ≤ (x5_1 : Int) := of_decide_eq_true (by first | (with_reducible assumption) | assumption)
                have q180 : x5_1 < (l1.length : Int) := of_decide_eq_true (by first | (with_reducible assumption) | assumption)
                obtain ⟨ad180, e180, hx180_0⟩ := Kd.at_string HR1.out x5_1 p180 q180
                cases e180
                replace p180 := eq_true p180
                replace q180 := eq_true q180
                go_wp2
                repeat (go_quiet (fail); try go_wp2)
                go_roundg k1
                case measure => have := HK1.out; omega
                case rel => exact ⟨(wrap64 (x5_1 + 1)), (by first | rfl | (simp; done) | (simp [*]; done)), H', ⟨by have := HK1.out; omega⟩, by repeat (first | exact Drawn0.refl _ | apply Drawn0.step)⟩
              · rw [if_neg c7] at H
                have c7b0 : ((rdOf ByteArray.empty l0 x5_1).toList == (rdOf ByteArray.empty l1 x5_1).toList) = false := beq_eq_false_iff_ne.mpr c7
                have c7b1 : ((rdOf ByteArray.empty l0 x5_1).toList != (rdOf ByteArray.empty l1 x5_1).toList) = true := bne_iff_ne.mpr c7
                obtain rfl := Option.some.inj H
                have p179 : 0 ≤ (x5_1 : Int) := of_decide_eq_true (by first | (with_reducible assumption) | assumption)
                have q179 : x5_1 < (l0.length : Int) := of_decide_eq_true (by first | (with_reducible assumption) | assumption)
                obtain ⟨ad179, e179, hx179_0⟩ := Kd.at_string HR0.out x5_1 p179 q179
                cases e179
                replace p179 := eq_true p179
                replace q179 := eq_true q179
                have p180 : 0 ≤ (x5_1 : Int) := of_decide_eq_true (by first | (with_reducible assumption) | assumption)
                have q180 : x5_1 < (l1.length : Int) := of_decide_eq_true (by first | (with_reducible assumption) | assumption)
                obtain ⟨ad180, e180, hx180_0⟩ := Kd.at_string HR1.out x5_1 p180 q180
                cases e180
                replace p180 := eq_true p180
                replace q180 := eq_true q180
                go_wp2
                repeat (go_quiet (fail); try go_wp2)
                go_ret
                exact ⟨by first | rfl | (simp; done) | (simp [*]; done), by repeat (first | exact Drawn0.refl _ | apply Drawn0.step)⟩
            · rw [if_neg c6] at H
              exact absurd H (by simp)
          · rw [if_neg c5] at H
            exact absurd H (by simp)
        · rw [if_neg c4] at H
          have c4b0 : decide (x5_1 < (l0.length : Int)) = false := decide_eq_false c4
          clear c4
          obtain rfl := Option.some.inj H
          go_wp2
          repeat (go_quiet (fail); try go_wp2)
          go_ret
          exact ⟨by first | rfl | (simp; done) | (simp [*]; done), by repeat (first | exact Drawn0.refl _ | apply Drawn0.step)⟩
  · rw [if_neg c3] at H
    have c3b0 : ((l0.length : Int) == (l1.length : Int)) = false := beq_eq_false_iff_ne.mpr c3
    have c3b1 : ((l0.length : Int) != (l1.length : Int)) = true := bne_iff_ne.mpr c3
    have c3b2 : (l0.length == l1.length) = false := by first | simpa using c3 | (simp at c3 ⊢; omega)
    obtain rfl := Option.some.inj H
    go_enter Tryd.func33, Tryd.ntmps33
    go_wp2
    repeat (go_quiet (fail); try go_wp2)
    go_ret
    exact ⟨by first | rfl | (simp; done) | (simp [*]; done), by repeat (first | exact Drawn0.refl _ | apply Drawn0.step)⟩

/-! ### dovecotebook_SameMail: function 11 -/
def dovecotebook_SameMail.f (k : Nat) (a0_0 : Int) (a0_1 : Int) (a0_2 : Int) (a0_3 : ByteArray) (a0_4 : ByteArray) (l0_5 : List (S68)) (l0_6 : List ByteArray) (a1_0 : Int) (a1_1 : Int) (a1_2 : Int) (a1_3 : ByteArray) (a1_4 : ByteArray) (l1_5 : List (S68)) (l1_6 : List ByteArray) : Option (Bool) := if a0_0 = a1_0 then (if a0_1 = a1_1 then (if a0_2 = a1_2 then (if a0_3.toList = a1_3.toList then (if a0_4.toList = a1_4.toList then ((dovecotebook_SameSlots.f k l0_5 l1_5).bind fun t183 => (if t183 = true then ((dovecotebook_SameTexts.f k l0_6 l1_6).bind fun t184 => (some t184)) else (some false))) else (some false)) else (some false)) else (some false)) else (some false)) else (some false)
set_option maxHeartbeats 8000000 in
set_option maxRecDepth 100000 in
theorem dovecotebook_SameMail.calls (k : Nat) (a0_0 : Int) (a0_1 : Int) (a0_2 : Int) (a0_3 : ByteArray) (a0_4 : ByteArray) (A0_5 : Option Addr) (c0_5 : Nat) (l0_5 : List (S68)) (A0_6 : Option Addr) (c0_6 : Nat) (l0_6 : List ByteArray) (a1_0 : Int) (a1_1 : Int) (a1_2 : Int) (a1_3 : ByteArray) (a1_4 : ByteArray) (A1_5 : Option Addr) (c1_5 : Nat) (l1_5 : List (S68)) (A1_6 : Option Addr) (c1_6 : Nat) (l1_6 : List ByteArray) (r : Bool) (w : World) (hr0_5 : Kd.C k68 w A0_5 l0_5.length l0_5) (hc0_5 : l0_5.length ≤ c0_5) (hr0_6 : Kd.C Kd.string w A0_6 l0_6.length l0_6) (hc0_6 : l0_6.length ≤ c0_6) (hr1_5 : Kd.C k68 w A1_5 l1_5.length l1_5) (hc1_5 : l1_5.length ≤ c1_5) (hr1_6 : Kd.C Kd.string w A1_6 l1_6.length l1_6) (hc1_6 : l1_6.length ≤ c1_6) (h : dovecotebook_SameMail.f k a0_0 a0_1 a0_2 a0_3 a0_4 l0_5 l0_6 a1_0 a1_1 a1_2 a1_3 a1_4 l1_5 l1_6 = some r) :
    Calls Tryd.prog 11 #[.agg #[.int .i64 a0_0, .int .i64 a0_1, .int .i64 a0_2, .string a0_3, .string a0_4, .slice A0_5 l0_5.length c0_5, .slice A0_6 l0_6.length c0_6], .agg #[.int .i64 a1_0, .int .i64 a1_1, .int .i64 a1_2, .string a1_3, .string a1_4, .slice A1_5 l1_5.length c1_5, .slice A1_6 l1_6.length c1_6]] w fun e w' => e = .returned (.bool r) ∧ Below w.heap.size w w' := by
  have hu25 := Tryd.underlying25
  have HR0_5 := Aside0.mk hr0_5
  have HC0_5 := Aside0.mk hc0_5
  clear hr0_5 hc0_5
  have HR0_6 := Aside0.mk hr0_6
  have HC0_6 := Aside0.mk hc0_6
  clear hr0_6 hc0_6
  have HR1_5 := Aside0.mk hr1_5
  have HC1_5 := Aside0.mk hc1_5
  clear hr1_5 hc1_5
  have HR1_6 := Aside0.mk hr1_6
  have HC1_6 := Aside0.mk hc1_6
  clear hr1_6 hc1_6
  have HB := Aside0.mk (Below.refl w.heap.size w)
  have H : (if a0_0 = a1_0 then (if a0_1 = a1_1 then (if a0_2 = a1_2 then (if a0_3.toList = a1_3.toList then (if a0_4.toList = a1_4.toList then ((dovecotebook_SameSlots.f k l0_5 l1_5).bind fun t183 => (if t183 = true then ((dovecotebook_SameTexts.f k l0_6 l1_6).bind fun t184 => (some t184)) else (some false))) else (some false)) else (some false)) else (some false)) else (some false)) else (some false)) = some r := h
  clear h
  by_cases c3 : a0_0 = a1_0
  · rw [if_pos c3] at H
    have c3b0 : (a0_0 == a1_0) = true := beq_iff_eq.mpr c3
    have c3b1 : (a0_0 != a1_0) = false := bne_eq_false_iff_eq.mpr c3
    clear c3
    by_cases c4 : a0_1 = a1_1
    · rw [if_pos c4] at H
      have c4b0 : (a0_1 == a1_1) = true := beq_iff_eq.mpr c4
      have c4b1 : (a0_1 != a1_1) = false := bne_eq_false_iff_eq.mpr c4
      clear c4
      by_cases c5 : a0_2 = a1_2
      · rw [if_pos c5] at H
        have c5b0 : (a0_2 == a1_2) = true := beq_iff_eq.mpr c5
        have c5b1 : (a0_2 != a1_2) = false := bne_eq_false_iff_eq.mpr c5
        clear c5
        by_cases c6 : a0_3.toList = a1_3.toList
        · rw [if_pos c6] at H
          have c6b0 : (a0_3.toList == a1_3.toList) = true := beq_iff_eq.mpr c6
          have c6b1 : (a0_3.toList != a1_3.toList) = false := bne_eq_false_iff_eq.mpr c6
          clear c6
          by_cases c7 : a0_4.toList = a1_4.toList
          · rw [if_pos c7] at H
            have c7b0 : (a0_4.toList == a1_4.toList) = true := beq_iff_eq.mpr c7
            have c7b1 : (a0_4.toList != a1_4.toList) = false := bne_eq_false_iff_eq.mpr c7
            clear c7
            replace H := Option.bind_eq_some_iff.mp H
            obtain ⟨t183, A80, H⟩ := H
            replace H : (if t183 = true then ((dovecotebook_SameTexts.f k l0_6 l1_6).bind fun t184 => (some t184)) else (some false)) = some r := H
            have A8 := Aside0.mk A80
            clear A80
            by_cases c9 : t183 = true
            · subst c9
              have H1 : ((dovecotebook_SameTexts.f k l0_6 l1_6).bind fun t184 => (some t184)) = some r := by rw [if_pos rfl] at H; exact H
              clear H
              have H := H1
              clear H1
              replace H := Option.bind_eq_some_iff.mp H
              obtain ⟨t184, A100, H⟩ := H
              replace H : (some t184) = some r := H
              have A10 := Aside0.mk A100
              clear A100
              obtain rfl := Option.some.inj H
              go_enter Tryd.func11, Tryd.ntmps11
              go_wp2_with (first | ((with_reducible refine gate_dst (N := 2) rfl ?_); refine box_event ?hg (N := 2) ?hd (cs := #[.int .i64 a0_0, .int .i64 a0_1, .int .i64 a0_2, .string a0_3, .string a0_4, .slice A0_5 l0_5.length c0_5, .slice A0_6 l0_6.length c0_6]) (t := 25) ?hr ?_; (case hd => rfl); (case hg => rfl); (case hr => first | (go_simp; done) | (go_simp; rfl)); intro gb181 hg w11 hbox hb; have n0_ := Aside0.mk (below_step (by repeat (first | (with_reducible first | exact HB.out | apply below_alloc | apply pw_below_drewN | apply below_drew1) | exact HB.out)) hb); have n1_ := Aside0.mk (hbox); have n2_ := Aside0.mk ((by rw [hg]; exact (below_size (by repeat (first | (with_reducible first | exact HB.out | apply below_alloc | apply pw_below_drewN | apply below_drew1) | exact HB.out))) : w.heap.size ≤ gb181)); have n3_ := Aside0.mk ((by rw [hg]; exact (below_size (by repeat (first | (with_reducible first | exact HB.out | apply below_alloc | apply pw_below_drewN | apply below_drew1) | exact HB.out))) : w.heap.size ≤ gb181)); clear HB; have HB := n0_; have BK181 := n1_; have GW181 := n2_; have GE181 := n3_; clear n0_ n1_ n2_ n3_; clear hb hbox hg) | ((with_reducible refine gate_dst (N := 3) rfl ?_); refine box_event ?hg (N := 3) ?hd (cs := #[.int .i64 a1_0, .int .i64 a1_1, .int .i64 a1_2, .string a1_3, .string a1_4, .slice A1_5 l1_5.length c1_5, .slice A1_6 l1_6.length c1_6]) (t := 25) ?hr ?_; (case hd => rfl); (case hg => rfl); (case hr => first | (go_simp; done) | (go_simp; rfl)); intro gb182 hg w12 hbox hb; have n0_ := Aside0.mk (blk_below (g := gb181) (o := .cells #[.int .i64 a0_0, .int .i64 a0_1, .int .i64 a0_2, .string a0_3, .string a0_4, .slice A0_5 l0_5.length c0_5, .slice A0_6 l0_6.length c0_6] 25 (0, 0)) (by (with_reducible repeat (first | refine blk_drewN ?_ _ | refine blk_drew ?_ | refine blk_alloc ?_ _)); exact BK181.out) hb); have n1_ := Aside0.mk (below_step (by repeat (first | (with_reducible first | exact HB.out | apply below_alloc | apply pw_below_drewN | apply below_drew1 | refine below_set ?_ GE181.out) | exact HB.out)) hb); have n2_ := Aside0.mk (hbox); have n3_ := Aside0.mk ((by rw [hg]; exact (below_size (by repeat (first | (with_reducible first | exact HB.out | apply below_alloc | apply pw_below_drewN | apply below_drew1 | refine below_set ?_ GE181.out) | exact HB.out))) : w.heap.size ≤ gb182)); have n4_ := Aside0.mk ((by rw [hg]; exact (below_size (by repeat (first | (with_reducible first | exact HB.out | apply below_alloc | apply pw_below_drewN | apply below_drew1 | refine below_set ?_ GE181.out) | exact HB.out))) : w.heap.size ≤ gb182)); have n5_ := Aside0.mk ((by rw [hg]; exact Nat.ne_of_lt (blk_lt (g := gb181) (o := .cells #[.int .i64 a0_0, .int .i64 a0_1, .int .i64 a0_2, .string a0_3, .string a0_4, .slice A0_5 l0_5.length c0_5, .slice A0_6 l0_6.length c0_6] 25 (0, 0)) (by (with_reducible repeat (first | refine blk_drewN ?_ _ | refine blk_drew ?_ | refine blk_alloc ?_ _)); exact BK181.out)) : gb181 ≠ gb182)); have n6_ := Aside0.mk ((by rw [hg]; exact Nat.ne_of_gt (blk_lt (g := gb181) (o := .cells #[.int .i64 a0_0, .int .i64 a0_1, .int .i64 a0_2, .string a0_3, .string a0_4, .slice A0_5 l0_5.length c0_5, .slice A0_6 l0_6.length c0_6] 25 (0, 0)) (by (with_reducible repeat (first | refine blk_drewN ?_ _ | refine blk_drew ?_ | refine blk_alloc ?_ _)); exact BK181.out)) : gb182 ≠ gb181)); clear BK181; clear HB; have BK181 := n0_; have HB := n1_; have BK182 := n2_; have GW182 := n3_; have GE182 := n4_; have NB181_182 := n5_; have NB182_181 := n6_; clear n0_ n1_ n2_ n3_ n4_ n5_ n6_; clear hb hbox hg; have hnb13 := NB181_182.out; have hnc13 := NB182_181.out; have hcz14_0 : w12.cell? ⟨gb181, 0, none⟩ = some (.int .i64 a0_0) := (blk_cell BK181.out 0).trans rfl; have hcz14_1 : w12.cell? ⟨gb181, 1, none⟩ = some (.int .i64 a0_1) := (blk_cell BK181.out 1).trans rfl; have hcz14_2 : w12.cell? ⟨gb181, 2, none⟩ = some (.int .i64 a0_2) := (blk_cell BK181.out 2).trans rfl; have hcz14_3 : w12.cell? ⟨gb181, 3, none⟩ = some (.string a0_3) := (blk_cell BK181.out 3).trans rfl; have hcz14_4 : w12.cell? ⟨gb181, 4, none⟩ = some (.string a0_4) := (blk_cell BK181.out 4).trans rfl; have hcz14_5 : w12.cell? ⟨gb181, 5, none⟩ = some (.slice A0_5 l0_5.length c0_5) := (blk_cell BK181.out 5).trans rfl; have hcz14_6 : w12.cell? ⟨gb181, 6, none⟩ = some (.slice A0_6 l0_6.length c0_6) := (blk_cell BK181.out 6).trans rfl; have hfz14_0 := blk_frozen BK181.out 0; have hfz14_1 := blk_frozen BK181.out 1; have hfz14_2 := blk_frozen BK181.out 2; have hfz14_3 := blk_frozen BK181.out 3; have hfz14_4 := blk_frozen BK181.out 4; have hfz14_5 := blk_frozen BK181.out 5; have hfz14_6 := blk_frozen BK181.out 6; have hcz15_0 : w12.cell? ⟨gb182, 0, none⟩ = some (.int .i64 a1_0) := (blk_cell BK182.out 0).trans rfl; have hcz15_1 : w12.cell? ⟨gb182, 1, none⟩ = some (.int .i64 a1_1) := (blk_cell BK182.out 1).trans rfl; have hcz15_2 : w12.cell? ⟨gb182, 2, none⟩ = some (.int .i64 a1_2) := (blk_cell BK182.out 2).trans rfl; have hcz15_3 : w12.cell? ⟨gb182, 3, none⟩ = some (.string a1_3) := (blk_cell BK182.out 3).trans rfl; have hcz15_4 : w12.cell? ⟨gb182, 4, none⟩ = some (.string a1_4) := (blk_cell BK182.out 4).trans rfl; have hcz15_5 : w12.cell? ⟨gb182, 5, none⟩ = some (.slice A1_5 l1_5.length c1_5) := (blk_cell BK182.out 5).trans rfl; have hcz15_6 : w12.cell? ⟨gb182, 6, none⟩ = some (.slice A1_6 l1_6.length c1_6) := (blk_cell BK182.out 6).trans rfl; have hfz15_0 := blk_frozen BK182.out 0; have hfz15_1 := blk_frozen BK182.out 1; have hfz15_2 := blk_frozen BK182.out 2; have hfz15_3 := blk_frozen BK182.out 3; have hfz15_4 := blk_frozen BK182.out 4; have hfz15_5 := blk_frozen BK182.out 5; have hfz15_6 := blk_frozen BK182.out 6) | (go_at_call 32; (with_reducible refine (dovecotebook_SameSlots.calls k _ _ l0_5 _ _ l1_5 true _ ?side1 ?side2 ?side3 ?side4 A8.out).mono ?_); (case side1 => repeat (first | exact (Kd.C_below HR0_5.out HB.out) | (with_reducible refine Kd.C_alloc ?_ _) | (with_reducible refine Kd.C_drewN ?_ _) | (with_reducible refine Kd.C_drew ?_))); (case side2 => exact HC0_5.out); (case side3 => repeat (first | exact (Kd.C_below HR1_5.out HB.out) | (with_reducible refine Kd.C_alloc ?_ _) | (with_reducible refine Kd.C_drewN ?_ _) | (with_reducible refine Kd.C_drew ?_))); (case side4 => exact HC1_5.out); rintro e w' ⟨rfl, ⟨nd, rfl⟩⟩) | (go_at_call 33; (with_reducible refine (dovecotebook_SameTexts.calls k _ _ l0_6 _ _ l1_6 t184 _ ?side1 ?side2 ?side3 ?side4 A10.out).mono ?_); (case side1 => repeat (first | exact (Kd.C_below HR0_6.out (by repeat (first | (with_reducible first | exact HB.out | apply below_alloc | apply pw_below_drewN | apply below_drew1 | refine below_set ?_ GE181.out | refine below_set ?_ GE182.out) | exact HB.out))) | (with_reducible refine Kd.C_alloc ?_ _) | (with_reducible refine Kd.C_drewN ?_ _) | (with_reducible refine Kd.C_drew ?_))); (case side2 => exact HC0_6.out); (case side3 => repeat (first | exact (Kd.C_below HR1_6.out (by repeat (first | (with_reducible first | exact HB.out | apply below_alloc | apply pw_below_drewN | apply below_drew1 | refine below_set ?_ GE181.out | refine below_set ?_ GE182.out) | exact HB.out))) | (with_reducible refine Kd.C_alloc ?_ _) | (with_reducible refine Kd.C_drewN ?_ _) | (with_reducible refine Kd.C_drew ?_))); (case side4 => exact HC1_6.out); rintro e w' ⟨rfl, ⟨nd, rfl⟩⟩))
              go_ret
              exact ⟨by first | rfl | (simp [errW_none, errW_some] <;> rfl) | (simp [*, errW_none, errW_some] <;> rfl), by repeat (first | (with_reducible first | exact HB.out | apply below_alloc | apply pw_below_drewN | apply below_drew1 | refine below_set ?_ GE181.out | refine below_set ?_ GE182.out) | exact HB.out)⟩
            · replace c9 := Bool.eq_false_iff.mpr c9
              subst c9
              have H1 : (some false) = some r := by rw [if_neg (show ¬ (false = true) by decide)] at H; exact H
              clear H
              have H := H1
              clear H1
              obtain rfl := Option.some.inj H
              go_enter Tryd.func11, Tryd.ntmps11
              go_wp2_with (first | ((with_reducible refine gate_dst (N := 2) rfl ?_); refine box_event ?hg (N := 2) ?hd (cs := #[.int .i64 a0_0, .int .i64 a0_1, .int .i64 a0_2, .string a0_3, .string a0_4, .slice A0_5 l0_5.length c0_5, .slice A0_6 l0_6.length c0_6]) (t := 25) ?hr ?_; (case hd => rfl); (case hg => rfl); (case hr => first | (go_simp; done) | (go_simp; rfl)); intro gb181 hg w16 hbox hb; have n0_ := Aside0.mk (below_step (by repeat (first | (with_reducible first | exact HB.out | apply below_alloc | apply pw_below_drewN | apply below_drew1) | exact HB.out)) hb); have n1_ := Aside0.mk (hbox); have n2_ := Aside0.mk ((by rw [hg]; exact (below_size (by repeat (first | (with_reducible first | exact HB.out | apply below_alloc | apply pw_below_drewN | apply below_drew1) | exact HB.out))) : w.heap.size ≤ gb181)); have n3_ := Aside0.mk ((by rw [hg]; exact (below_size (by repeat (first | (with_reducible first | exact HB.out | apply below_alloc | apply pw_below_drewN | apply below_drew1) | exact HB.out))) : w.heap.size ≤ gb181)); clear HB; have HB := n0_; have BK181 := n1_; have GW181 := n2_; have GE181 := n3_; clear n0_ n1_ n2_ n3_; clear hb hbox hg) | ((with_reducible refine gate_dst (N := 3) rfl ?_); refine box_event ?hg (N := 3) ?hd (cs := #[.int .i64 a1_0, .int .i64 a1_1, .int .i64 a1_2, .string a1_3, .string a1_4, .slice A1_5 l1_5.length c1_5, .slice A1_6 l1_6.length c1_6]) (t := 25) ?hr ?_; (case hd => rfl); (case hg => rfl); (case hr => first | (go_simp; done) | (go_simp; rfl)); intro gb182 hg w17 hbox hb; have n0_ := Aside0.mk (blk_below (g := gb181) (o := .cells #[.int .i64 a0_0, .int .i64 a0_1, .int .i64 a0_2, .string a0_3, .string a0_4, .slice A0_5 l0_5.length c0_5, .slice A0_6 l0_6.length c0_6] 25 (0, 0)) (by (with_reducible repeat (first | refine blk_drewN ?_ _ | refine blk_drew ?_ | refine blk_alloc ?_ _)); exact BK181.out) hb); have n1_ := Aside0.mk (below_step (by repeat (first | (with_reducible first | exact HB.out | apply below_alloc | apply pw_below_drewN | apply below_drew1 | refine below_set ?_ GE181.out) | exact HB.out)) hb); have n2_ := Aside0.mk (hbox); have n3_ := Aside0.mk ((by rw [hg]; exact (below_size (by repeat (first | (with_reducible first | exact HB.out | apply below_alloc | apply pw_below_drewN | apply below_drew1 | refine below_set ?_ GE181.out) | exact HB.out))) : w.heap.size ≤ gb182)); have n4_ := Aside0.mk ((by rw [hg]; exact (below_size (by repeat (first | (with_reducible first | exact HB.out | apply below_alloc | apply pw_below_drewN | apply below_drew1 | refine below_set ?_ GE181.out) | exact HB.out))) : w.heap.size ≤ gb182)); have n5_ := Aside0.mk ((by rw [hg]; exact Nat.ne_of_lt (blk_lt (g := gb181) (o := .cells #[.int .i64 a0_0, .int .i64 a0_1, .int .i64 a0_2, .string a0_3, .string a0_4, .slice A0_5 l0_5.length c0_5, .slice A0_6 l0_6.length c0_6] 25 (0, 0)) (by (with_reducible repeat (first | refine blk_drewN ?_ _ | refine blk_drew ?_ | refine blk_alloc ?_ _)); exact BK181.out)) : gb181 ≠ gb182)); have n6_ := Aside0.mk ((by rw [hg]; exact Nat.ne_of_gt (blk_lt (g := gb181) (o := .cells #[.int .i64 a0_0, .int .i64 a0_1, .int .i64 a0_2, .string a0_3, .string a0_4, .slice A0_5 l0_5.length c0_5, .slice A0_6 l0_6.length c0_6] 25 (0, 0)) (by (with_reducible repeat (first | refine blk_drewN ?_ _ | refine blk_drew ?_ | refine blk_alloc ?_ _)); exact BK181.out)) : gb182 ≠ gb181)); clear BK181; clear HB; have BK181 := n0_; have HB := n1_; have BK182 := n2_; have GW182 := n3_; have GE182 := n4_; have NB181_182 := n5_; have NB182_181 := n6_; clear n0_ n1_ n2_ n3_ n4_ n5_ n6_; clear hb hbox hg; have hnb18 := NB181_182.out; have hnc18 := NB182_181.out; have hcz19_0 : w17.cell? ⟨gb181, 0, none⟩ = some (.int .i64 a0_0) := (blk_cell BK181.out 0).trans rfl; have hcz19_1 : w17.cell? ⟨gb181, 1, none⟩ = some (.int .i64 a0_1) := (blk_cell BK181.out 1).trans rfl; have hcz19_2 : w17.cell? ⟨gb181, 2, none⟩ = some (.int .i64 a0_2) := (blk_cell BK181.out 2).trans rfl; have hcz19_3 : w17.cell? ⟨gb181, 3, none⟩ = some (.string a0_3) := (blk_cell BK181.out 3).trans rfl; have hcz19_4 : w17.cell? ⟨gb181, 4, none⟩ = some (.string a0_4) := (blk_cell BK181.out 4).trans rfl; have hcz19_5 : w17.cell? ⟨gb181, 5, none⟩ = some (.slice A0_5 l0_5.length c0_5) := (blk_cell BK181.out 5).trans rfl; have hcz19_6 : w17.cell? ⟨gb181, 6, none⟩ = some (.slice A0_6 l0_6.length c0_6) := (blk_cell BK181.out 6).trans rfl; have hfz19_0 := blk_frozen BK181.out 0; have hfz19_1 := blk_frozen BK181.out 1; have hfz19_2 := blk_frozen BK181.out 2; have hfz19_3 := blk_frozen BK181.out 3; have hfz19_4 := blk_frozen BK181.out 4; have hfz19_5 := blk_frozen BK181.out 5; have hfz19_6 := blk_frozen BK181.out 6; have hcz20_0 : w17.cell? ⟨gb182, 0, none⟩ = some (.int .i64 a1_0) := (blk_cell BK182.out 0).trans rfl; have hcz20_1 : w17.cell? ⟨gb182, 1, none⟩ = some (.int .i64 a1_1) := (blk_cell BK182.out 1).trans rfl; have hcz20_2 : w17.cell? ⟨gb182, 2, none⟩ = some (.int .i64 a1_2) := (blk_cell BK182.out 2).trans rfl; have hcz20_3 : w17.cell? ⟨gb182, 3, none⟩ = some (.string a1_3) := (blk_cell BK182.out 3).trans rfl; have hcz20_4 : w17.cell? ⟨gb182, 4, none⟩ = some (.string a1_4) := (blk_cell BK182.out 4).trans rfl; have hcz20_5 : w17.cell? ⟨gb182, 5, none⟩ = some (.slice A1_5 l1_5.length c1_5) := (blk_cell BK182.out 5).trans rfl; have hcz20_6 : w17.cell? ⟨gb182, 6, none⟩ = some (.slice A1_6 l1_6.length c1_6) := (blk_cell BK182.out 6).trans rfl; have hfz20_0 := blk_frozen BK182.out 0; have hfz20_1 := blk_frozen BK182.out 1; have hfz20_2 := blk_frozen BK182.out 2; have hfz20_3 := blk_frozen BK182.out 3; have hfz20_4 := blk_frozen BK182.out 4; have hfz20_5 := blk_frozen BK182.out 5; have hfz20_6 := blk_frozen BK182.out 6) | (go_at_call 32; (with_reducible refine (dovecotebook_SameSlots.calls k _ _ l0_5 _ _ l1_5 false _ ?side1 ?side2 ?side3 ?side4 A8.out).mono ?_); (case side1 => repeat (first | exact (Kd.C_below HR0_5.out HB.out) | (with_reducible refine Kd.C_alloc ?_ _) | (with_reducible refine Kd.C_drewN ?_ _) | (with_reducible refine Kd.C_drew ?_))); (case side2 => exact HC0_5.out); (case side3 => repeat (first | exact (Kd.C_below HR1_5.out HB.out) | (with_reducible refine Kd.C_alloc ?_ _) | (with_reducible refine Kd.C_drewN ?_ _) | (with_reducible refine Kd.C_drew ?_))); (case side4 => exact HC1_5.out); rintro e w' ⟨rfl, ⟨nd, rfl⟩⟩))
              go_ret
              exact ⟨by first | rfl | (simp [errW_none, errW_some] <;> rfl) | (simp [*, errW_none, errW_some] <;> rfl), by repeat (first | (with_reducible first | exact HB.out | apply below_alloc | apply pw_below_drewN | apply below_drew1 | refine below_set ?_ GE181.out | refine below_set ?_ GE182.out) | exact HB.out)⟩
          · rw [if_neg c7] at H
            have c7b0 : (a0_4.toList == a1_4.toList) = false := beq_eq_false_iff_ne.mpr c7
            have c7b1 : (a0_4.toList != a1_4.toList) = true := bne_iff_ne.mpr c7
            obtain rfl := Option.some.inj H
            go_enter Tryd.func11, Tryd.ntmps11
            go_wp2_with (first | ((with_reducible refine gate_dst (N := 2) rfl ?_); refine box_event ?hg (N := 2) ?hd (cs := #[.int .i64 a0_0, .int .i64 a0_1, .int .i64 a0_2, .string a0_3, .string a0_4, .slice A0_5 l0_5.length c0_5, .slice A0_6 l0_6.length c0_6]) (t := 25) ?hr ?_; (case hd => rfl); (case hg => rfl); (case hr => first | (go_simp; done) | (go_simp; rfl)); intro gb181 hg w21 hbox hb; have n0_ := Aside0.mk (below_step (by repeat (first | (with_reducible first | exact HB.out | apply below_alloc | apply pw_below_drewN | apply below_drew1) | exact HB.out)) hb); have n1_ := Aside0.mk (hbox); have n2_ := Aside0.mk ((by rw [hg]; exact (below_size (by repeat (first | (with_reducible first | exact HB.out | apply below_alloc | apply pw_below_drewN | apply below_drew1) | exact HB.out))) : w.heap.size ≤ gb181)); have n3_ := Aside0.mk ((by rw [hg]; exact (below_size (by repeat (first | (with_reducible first | exact HB.out | apply below_alloc | apply pw_below_drewN | apply below_drew1) | exact HB.out))) : w.heap.size ≤ gb181)); clear HB; have HB := n0_; have BK181 := n1_; have GW181 := n2_; have GE181 := n3_; clear n0_ n1_ n2_ n3_; clear hb hbox hg) | ((with_reducible refine gate_dst (N := 3) rfl ?_); refine box_event ?hg (N := 3) ?hd (cs := #[.int .i64 a1_0, .int .i64 a1_1, .int .i64 a1_2, .string a1_3, .string a1_4, .slice A1_5 l1_5.length c1_5, .slice A1_6 l1_6.length c1_6]) (t := 25) ?hr ?_; (case hd => rfl); (case hg => rfl); (case hr => first | (go_simp; done) | (go_simp; rfl)); intro gb182 hg w22 hbox hb; have n0_ := Aside0.mk (blk_below (g := gb181) (o := .cells #[.int .i64 a0_0, .int .i64 a0_1, .int .i64 a0_2, .string a0_3, .string a0_4, .slice A0_5 l0_5.length c0_5, .slice A0_6 l0_6.length c0_6] 25 (0, 0)) (by (with_reducible repeat (first | refine blk_drewN ?_ _ | refine blk_drew ?_ | refine blk_alloc ?_ _)); exact BK181.out) hb); have n1_ := Aside0.mk (below_step (by repeat (first | (with_reducible first | exact HB.out | apply below_alloc | apply pw_below_drewN | apply below_drew1 | refine below_set ?_ GE181.out) | exact HB.out)) hb); have n2_ := Aside0.mk (hbox); have n3_ := Aside0.mk ((by rw [hg]; exact (below_size (by repeat (first | (with_reducible first | exact HB.out | apply below_alloc | apply pw_below_drewN | apply below_drew1 | refine below_set ?_ GE181.out) | exact HB.out))) : w.heap.size ≤ gb182)); have n4_ := Aside0.mk ((by rw [hg]; exact (below_size (by repeat (first | (with_reducible first | exact HB.out | apply below_alloc | apply pw_below_drewN | apply below_drew1 | refine below_set ?_ GE181.out) | exact HB.out))) : w.heap.size ≤ gb182)); have n5_ := Aside0.mk ((by rw [hg]; exact Nat.ne_of_lt (blk_lt (g := gb181) (o := .cells #[.int .i64 a0_0, .int .i64 a0_1, .int .i64 a0_2, .string a0_3, .string a0_4, .slice A0_5 l0_5.length c0_5, .slice A0_6 l0_6.length c0_6] 25 (0, 0)) (by (with_reducible repeat (first | refine blk_drewN ?_ _ | refine blk_drew ?_ | refine blk_alloc ?_ _)); exact BK181.out)) : gb181 ≠ gb182)); have n6_ := Aside0.mk ((by rw [hg]; exact Nat.ne_of_gt (blk_lt (g := gb181) (o := .cells #[.int .i64 a0_0, .int .i64 a0_1, .int .i64 a0_2, .string a0_3, .string a0_4, .slice A0_5 l0_5.length c0_5, .slice A0_6 l0_6.length c0_6] 25 (0, 0)) (by (with_reducible repeat (first | refine blk_drewN ?_ _ | refine blk_drew ?_ | refine blk_alloc ?_ _)); exact BK181.out)) : gb182 ≠ gb181)); clear BK181; clear HB; have BK181 := n0_; have HB := n1_; have BK182 := n2_; have GW182 := n3_; have GE182 := n4_; have NB181_182 := n5_; have NB182_181 := n6_; clear n0_ n1_ n2_ n3_ n4_ n5_ n6_; clear hb hbox hg; have hnb23 := NB181_182.out; have hnc23 := NB182_181.out; have hcz24_0 : w22.cell? ⟨gb181, 0, none⟩ = some (.int .i64 a0_0) := (blk_cell BK181.out 0).trans rfl; have hcz24_1 : w22.cell? ⟨gb181, 1, none⟩ = some (.int .i64 a0_1) := (blk_cell BK181.out 1).trans rfl; have hcz24_2 : w22.cell? ⟨gb181, 2, none⟩ = some (.int .i64 a0_2) := (blk_cell BK181.out 2).trans rfl; have hcz24_3 : w22.cell? ⟨gb181, 3, none⟩ = some (.string a0_3) := (blk_cell BK181.out 3).trans rfl; have hcz24_4 : w22.cell? ⟨gb181, 4, none⟩ = some (.string a0_4) := (blk_cell BK181.out 4).trans rfl; have hcz24_5 : w22.cell? ⟨gb181, 5, none⟩ = some (.slice A0_5 l0_5.length c0_5) := (blk_cell BK181.out 5).trans rfl; have hcz24_6 : w22.cell? ⟨gb181, 6, none⟩ = some (.slice A0_6 l0_6.length c0_6) := (blk_cell BK181.out 6).trans rfl; have hfz24_0 := blk_frozen BK181.out 0; have hfz24_1 := blk_frozen BK181.out 1; have hfz24_2 := blk_frozen BK181.out 2; have hfz24_3 := blk_frozen BK181.out 3; have hfz24_4 := blk_frozen BK181.out 4; have hfz24_5 := blk_frozen BK181.out 5; have hfz24_6 := blk_frozen BK181.out 6; have hcz25_0 : w22.cell? ⟨gb182, 0, none⟩ = some (.int .i64 a1_0) := (blk_cell BK182.out 0).trans rfl; have hcz25_1 : w22.cell? ⟨gb182, 1, none⟩ = some (.int .i64 a1_1) := (blk_cell BK182.out 1).trans rfl; have hcz25_2 : w22.cell? ⟨gb182, 2, none⟩ = some (.int .i64 a1_2) := (blk_cell BK182.out 2).trans rfl; have hcz25_3 : w22.cell? ⟨gb182, 3, none⟩ = some (.string a1_3) := (blk_cell BK182.out 3).trans rfl; have hcz25_4 : w22.cell? ⟨gb182, 4, none⟩ = some (.string a1_4) := (blk_cell BK182.out 4).trans rfl; have hcz25_5 : w22.cell? ⟨gb182, 5, none⟩ = some (.slice A1_5 l1_5.length c1_5) := (blk_cell BK182.out 5).trans rfl; have hcz25_6 : w22.cell? ⟨gb182, 6, none⟩ = some (.slice A1_6 l1_6.length c1_6) := (blk_cell BK182.out 6).trans rfl; have hfz25_0 := blk_frozen BK182.out 0; have hfz25_1 := blk_frozen BK182.out 1; have hfz25_2 := blk_frozen BK182.out 2; have hfz25_3 := blk_frozen BK182.out 3; have hfz25_4 := blk_frozen BK182.out 4; have hfz25_5 := blk_frozen BK182.out 5; have hfz25_6 := blk_frozen BK182.out 6))
            go_ret
            exact ⟨by first | rfl | (simp [errW_none, errW_some] <;> rfl) | (simp [*, errW_none, errW_some] <;> rfl), by repeat (first | (with_reducible first | exact HB.out | apply below_alloc | apply pw_below_drewN | apply below_drew1 | refine below_set ?_ GE181.out | refine below_set ?_ GE182.out) | exact HB.out)⟩
        · rw [if_neg c6] at H
          have c6b0 : (a0_3.toList == a1_3.toList) = false := beq_eq_false_iff_ne.mpr c6
          have c6b1 : (a0_3.toList != a1_3.toList) = true := bne_iff_ne.mpr c6
          obtain rfl := Option.some.inj H
          go_enter Tryd.func11, Tryd.ntmps11
          go_wp2_with (first | ((with_reducible refine gate_dst (N := 2) rfl ?_); refine box_event ?hg (N := 2) ?hd (cs := #[.int .i64 a0_0, .int .i64 a0_1, .int .i64 a0_2, .string a0_3, .string a0_4, .slice A0_5 l0_5.length c0_5, .slice A0_6 l0_6.length c0_6]) (t := 25) ?hr ?_; (case hd => rfl); (case hg => rfl); (case hr => first | (go_simp; done) | (go_simp; rfl)); intro gb181 hg w26 hbox hb; have n0_ := Aside0.mk (below_step (by repeat (first | (with_reducible first | exact HB.out | apply below_alloc | apply pw_below_drewN | apply below_drew1) | exact HB.out)) hb); have n1_ := Aside0.mk (hbox); have n2_ := Aside0.mk ((by rw [hg]; exact (below_size (by repeat (first | (with_reducible first | exact HB.out | apply below_alloc | apply pw_below_drewN | apply below_drew1) | exact HB.out))) : w.heap.size ≤ gb181)); have n3_ := Aside0.mk ((by rw [hg]; exact (below_size (by repeat (first | (with_reducible first | exact HB.out | apply below_alloc | apply pw_below_drewN | apply below_drew1) | exact HB.out))) : w.heap.size ≤ gb181)); clear HB; have HB := n0_; have BK181 := n1_; have GW181 := n2_; have GE181 := n3_; clear n0_ n1_ n2_ n3_; clear hb hbox hg) | ((with_reducible refine gate_dst (N := 3) rfl ?_); refine box_event ?hg (N := 3) ?hd (cs := #[.int .i64 a1_0, .int .i64 a1_1, .int .i64 a1_2, .string a1_3, .string a1_4, .slice A1_5 l1_5.length c1_5, .slice A1_6 l1_6.length c1_6]) (t := 25) ?hr ?_; (case hd => rfl); (case hg => rfl); (case hr => first | (go_simp; done) | (go_simp; rfl)); intro gb182 hg w27 hbox hb; have n0_ := Aside0.mk (blk_below (g := gb181) (o := .cells #[.int .i64 a0_0, .int .i64 a0_1, .int .i64 a0_2, .string a0_3, .string a0_4, .slice A0_5 l0_5.length c0_5, .slice A0_6 l0_6.length c0_6] 25 (0, 0)) (by (with_reducible repeat (first | refine blk_drewN ?_ _ | refine blk_drew ?_ | refine blk_alloc ?_ _)); exact BK181.out) hb); have n1_ := Aside0.mk (below_step (by repeat (first | (with_reducible first | exact HB.out | apply below_alloc | apply pw_below_drewN | apply below_drew1 | refine below_set ?_ GE181.out) | exact HB.out)) hb); have n2_ := Aside0.mk (hbox); have n3_ := Aside0.mk ((by rw [hg]; exact (below_size (by repeat (first | (with_reducible first | exact HB.out | apply below_alloc | apply pw_below_drewN | apply below_drew1 | refine below_set ?_ GE181.out) | exact HB.out))) : w.heap.size ≤ gb182)); have n4_ := Aside0.mk ((by rw [hg]; exact (below_size (by repeat (first | (with_reducible first | exact HB.out | apply below_alloc | apply pw_below_drewN | apply below_drew1 | refine below_set ?_ GE181.out) | exact HB.out))) : w.heap.size ≤ gb182)); have n5_ := Aside0.mk ((by rw [hg]; exact Nat.ne_of_lt (blk_lt (g := gb181) (o := .cells #[.int .i64 a0_0, .int .i64 a0_1, .int .i64 a0_2, .string a0_3, .string a0_4, .slice A0_5 l0_5.length c0_5, .slice A0_6 l0_6.length c0_6] 25 (0, 0)) (by (with_reducible repeat (first | refine blk_drewN ?_ _ | refine blk_drew ?_ | refine blk_alloc ?_ _)); exact BK181.out)) : gb181 ≠ gb182)); have n6_ := Aside0.mk ((by rw [hg]; exact Nat.ne_of_gt (blk_lt (g := gb181) (o := .cells #[.int .i64 a0_0, .int .i64 a0_1, .int .i64 a0_2, .string a0_3, .string a0_4, .slice A0_5 l0_5.length c0_5, .slice A0_6 l0_6.length c0_6] 25 (0, 0)) (by (with_reducible repeat (first | refine blk_drewN ?_ _ | refine blk_drew ?_ | refine blk_alloc ?_ _)); exact BK181.out)) : gb182 ≠ gb181)); clear BK181; clear HB; have BK181 := n0_; have HB := n1_; have BK182 := n2_; have GW182 := n3_; have GE182 := n4_; have NB181_182 := n5_; have NB182_181 := n6_; clear n0_ n1_ n2_ n3_ n4_ n5_ n6_; clear hb hbox hg; have hnb28 := NB181_182.out; have hnc28 := NB182_181.out; have hcz29_0 : w27.cell? ⟨gb181, 0, none⟩ = some (.int .i64 a0_0) := (blk_cell BK181.out 0).trans rfl; have hcz29_1 : w27.cell? ⟨gb181, 1, none⟩ = some (.int .i64 a0_1) := (blk_cell BK181.out 1).trans rfl; have hcz29_2 : w27.cell? ⟨gb181, 2, none⟩ = some (.int .i64 a0_2) := (blk_cell BK181.out 2).trans rfl; have hcz29_3 : w27.cell? ⟨gb181, 3, none⟩ = some (.string a0_3) := (blk_cell BK181.out 3).trans rfl; have hcz29_4 : w27.cell? ⟨gb181, 4, none⟩ = some (.string a0_4) := (blk_cell BK181.out 4).trans rfl; have hcz29_5 : w27.cell? ⟨gb181, 5, none⟩ = some (.slice A0_5 l0_5.length c0_5) := (blk_cell BK181.out 5).trans rfl; have hcz29_6 : w27.cell? ⟨gb181, 6, none⟩ = some (.slice A0_6 l0_6.length c0_6) := (blk_cell BK181.out 6).trans rfl; have hfz29_0 := blk_frozen BK181.out 0; have hfz29_1 := blk_frozen BK181.out 1; have hfz29_2 := blk_frozen BK181.out 2; have hfz29_3 := blk_frozen BK181.out 3; have hfz29_4 := blk_frozen BK181.out 4; have hfz29_5 := blk_frozen BK181.out 5; have hfz29_6 := blk_frozen BK181.out 6; have hcz30_0 : w27.cell? ⟨gb182, 0, none⟩ = some (.int .i64 a1_0) := (blk_cell BK182.out 0).trans rfl; have hcz30_1 : w27.cell? ⟨gb182, 1, none⟩ = some (.int .i64 a1_1) := (blk_cell BK182.out 1).trans rfl; have hcz30_2 : w27.cell? ⟨gb182, 2, none⟩ = some (.int .i64 a1_2) := (blk_cell BK182.out 2).trans rfl; have hcz30_3 : w27.cell? ⟨gb182, 3, none⟩ = some (.string a1_3) := (blk_cell BK182.out 3).trans rfl; have hcz30_4 : w27.cell? ⟨gb182, 4, none⟩ = some (.string a1_4) := (blk_cell BK182.out 4).trans rfl; have hcz30_5 : w27.cell? ⟨gb182, 5, none⟩ = some (.slice A1_5 l1_5.length c1_5) := (blk_cell BK182.out 5).trans rfl; have hcz30_6 : w27.cell? ⟨gb182, 6, none⟩ = some (.slice A1_6 l1_6.length c1_6) := (blk_cell BK182.out 6).trans rfl; have hfz30_0 := blk_frozen BK182.out 0; have hfz30_1 := blk_frozen BK182.out 1; have hfz30_2 := blk_frozen BK182.out 2; have hfz30_3 := blk_frozen BK182.out 3; have hfz30_4 := blk_frozen BK182.out 4; have hfz30_5 := blk_frozen BK182.out 5; have hfz30_6 := blk_frozen BK182.out 6))
          go_ret
          exact ⟨by first | rfl | (simp [errW_none, errW_some] <;> rfl) | (simp [*, errW_none, errW_some] <;> rfl), by repeat (first | (with_reducible first | exact HB.out | apply below_alloc | apply pw_below_drewN | apply below_drew1 | refine below_set ?_ GE181.out | refine below_set ?_ GE182.out) | exact HB.out)⟩
      · rw [if_neg c5] at H
        have c5b0 : (a0_2 == a1_2) = false := beq_eq_false_iff_ne.mpr c5
        have c5b1 : (a0_2 != a1_2) = true := bne_iff_ne.mpr c5
        obtain rfl := Option.some.inj H
        go_enter Tryd.func11, Tryd.ntmps11
        go_wp2_with (first | ((with_reducible refine gate_dst (N := 2) rfl ?_); refine box_event ?hg (N := 2) ?hd (cs := #[.int .i64 a0_0, .int .i64 a0_1, .int .i64 a0_2, .string a0_3, .string a0_4, .slice A0_5 l0_5.length c0_5, .slice A0_6 l0_6.length c0_6]) (t := 25) ?hr ?_; (case hd => rfl); (case hg => rfl); (case hr => first | (go_simp; done) | (go_simp; rfl)); intro gb181 hg w31 hbox hb; have n0_ := Aside0.mk (below_step (by repeat (first | (with_reducible first | exact HB.out | apply below_alloc | apply pw_below_drewN | apply below_drew1) | exact HB.out)) hb); have n1_ := Aside0.mk (hbox); have n2_ := Aside0.mk ((by rw [hg]; exact (below_size (by repeat (first | (with_reducible first | exact HB.out | apply below_alloc | apply pw_below_drewN | apply below_drew1) | exact HB.out))) : w.heap.size ≤ gb181)); have n3_ := Aside0.mk ((by rw [hg]; exact (below_size (by repeat (first | (with_reducible first | exact HB.out | apply below_alloc | apply pw_below_drewN | apply below_drew1) | exact HB.out))) : w.heap.size ≤ gb181)); clear HB; have HB := n0_; have BK181 := n1_; have GW181 := n2_; have GE181 := n3_; clear n0_ n1_ n2_ n3_; clear hb hbox hg) | ((with_reducible refine gate_dst (N := 3) rfl ?_); refine box_event ?hg (N := 3) ?hd (cs := #[.int .i64 a1_0, .int .i64 a1_1, .int .i64 a1_2, .string a1_3, .string a1_4, .slice A1_5 l1_5.length c1_5, .slice A1_6 l1_6.length c1_6]) (t := 25) ?hr ?_; (case hd => rfl); (case hg => rfl); (case hr => first | (go_simp; done) | (go_simp; rfl)); intro gb182 hg w32 hbox hb; have n0_ := Aside0.mk (blk_below (g := gb181) (o := .cells #[.int .i64 a0_0, .int .i64 a0_1, .int .i64 a0_2, .string a0_3, .string a0_4, .slice A0_5 l0_5.length c0_5, .slice A0_6 l0_6.length c0_6] 25 (0, 0)) (by (with_reducible repeat (first | refine blk_drewN ?_ _ | refine blk_drew ?_ | refine blk_alloc ?_ _)); exact BK181.out) hb); have n1_ := Aside0.mk (below_step (by repeat (first | (with_reducible first | exact HB.out | apply below_alloc | apply pw_below_drewN | apply below_drew1 | refine below_set ?_ GE181.out) | exact HB.out)) hb); have n2_ := Aside0.mk (hbox); have n3_ := Aside0.mk ((by rw [hg]; exact (below_size (by repeat (first | (with_reducible first | exact HB.out | apply below_alloc | apply pw_below_drewN | apply below_drew1 | refine below_set ?_ GE181.out) | exact HB.out))) : w.heap.size ≤ gb182)); have n4_ := Aside0.mk ((by rw [hg]; exact (below_size (by repeat (first | (with_reducible first | exact HB.out | apply below_alloc | apply pw_below_drewN | apply below_drew1 | refine below_set ?_ GE181.out) | exact HB.out))) : w.heap.size ≤ gb182)); have n5_ := Aside0.mk ((by rw [hg]; exact Nat.ne_of_lt (blk_lt (g := gb181) (o := .cells #[.int .i64 a0_0, .int .i64 a0_1, .int .i64 a0_2, .string a0_3, .string a0_4, .slice A0_5 l0_5.length c0_5, .slice A0_6 l0_6.length c0_6] 25 (0, 0)) (by (with_reducible repeat (first | refine blk_drewN ?_ _ | refine blk_drew ?_ | refine blk_alloc ?_ _)); exact BK181.out)) : gb181 ≠ gb182)); have n6_ := Aside0.mk ((by rw [hg]; exact Nat.ne_of_gt (blk_lt (g := gb181) (o := .cells #[.int .i64 a0_0, .int .i64 a0_1, .int .i64 a0_2, .string a0_3, .string a0_4, .slice A0_5 l0_5.length c0_5, .slice A0_6 l0_6.length c0_6] 25 (0, 0)) (by (with_reducible repeat (first | refine blk_drewN ?_ _ | refine blk_drew ?_ | refine blk_alloc ?_ _)); exact BK181.out)) : gb182 ≠ gb181)); clear BK181; clear HB; have BK181 := n0_; have HB := n1_; have BK182 := n2_; have GW182 := n3_; have GE182 := n4_; have NB181_182 := n5_; have NB182_181 := n6_; clear n0_ n1_ n2_ n3_ n4_ n5_ n6_; clear hb hbox hg; have hnb33 := NB181_182.out; have hnc33 := NB182_181.out; have hcz34_0 : w32.cell? ⟨gb181, 0, none⟩ = some (.int .i64 a0_0) := (blk_cell BK181.out 0).trans rfl; have hcz34_1 : w32.cell? ⟨gb181, 1, none⟩ = some (.int .i64 a0_1) := (blk_cell BK181.out 1).trans rfl; have hcz34_2 : w32.cell? ⟨gb181, 2, none⟩ = some (.int .i64 a0_2) := (blk_cell BK181.out 2).trans rfl; have hcz34_3 : w32.cell? ⟨gb181, 3, none⟩ = some (.string a0_3) := (blk_cell BK181.out 3).trans rfl; have hcz34_4 : w32.cell? ⟨gb181, 4, none⟩ = some (.string a0_4) := (blk_cell BK181.out 4).trans rfl; have hcz34_5 : w32.cell? ⟨gb181, 5, none⟩ = some (.slice A0_5 l0_5.length c0_5) := (blk_cell BK181.out 5).trans rfl; have hcz34_6 : w32.cell? ⟨gb181, 6, none⟩ = some (.slice A0_6 l0_6.length c0_6) := (blk_cell BK181.out 6).trans rfl; have hfz34_0 := blk_frozen BK181.out 0; have hfz34_1 := blk_frozen BK181.out 1; have hfz34_2 := blk_frozen BK181.out 2; have hfz34_3 := blk_frozen BK181.out 3; have hfz34_4 := blk_frozen BK181.out 4; have hfz34_5 := blk_frozen BK181.out 5; have hfz34_6 := blk_frozen BK181.out 6; have hcz35_0 : w32.cell? ⟨gb182, 0, none⟩ = some (.int .i64 a1_0) := (blk_cell BK182.out 0).trans rfl; have hcz35_1 : w32.cell? ⟨gb182, 1, none⟩ = some (.int .i64 a1_1) := (blk_cell BK182.out 1).trans rfl; have hcz35_2 : w32.cell? ⟨gb182, 2, none⟩ = some (.int .i64 a1_2) := (blk_cell BK182.out 2).trans rfl; have hcz35_3 : w32.cell? ⟨gb182, 3, none⟩ = some (.string a1_3) := (blk_cell BK182.out 3).trans rfl; have hcz35_4 : w32.cell? ⟨gb182, 4, none⟩ = some (.string a1_4) := (blk_cell BK182.out 4).trans rfl; have hcz35_5 : w32.cell? ⟨gb182, 5, none⟩ = some (.slice A1_5 l1_5.length c1_5) := (blk_cell BK182.out 5).trans rfl; have hcz35_6 : w32.cell? ⟨gb182, 6, none⟩ = some (.slice A1_6 l1_6.length c1_6) := (blk_cell BK182.out 6).trans rfl; have hfz35_0 := blk_frozen BK182.out 0; have hfz35_1 := blk_frozen BK182.out 1; have hfz35_2 := blk_frozen BK182.out 2; have hfz35_3 := blk_frozen BK182.out 3; have hfz35_4 := blk_frozen BK182.out 4; have hfz35_5 := blk_frozen BK182.out 5; have hfz35_6 := blk_frozen BK182.out 6))
        go_ret
        exact ⟨by first | rfl | (simp [errW_none, errW_some] <;> rfl) | (simp [*, errW_none, errW_some] <;> rfl), by repeat (first | (with_reducible first | exact HB.out | apply below_alloc | apply pw_below_drewN | apply below_drew1 | refine below_set ?_ GE181.out | refine below_set ?_ GE182.out) | exact HB.out)⟩
    · rw [if_neg c4] at H
      have c4b0 : (a0_1 == a1_1) = false := beq_eq_false_iff_ne.mpr c4
      have c4b1 : (a0_1 != a1_1) = true := bne_iff_ne.mpr c4
      obtain rfl := Option.some.inj H
      go_enter Tryd.func11, Tryd.ntmps11
      go_wp2_with (first | ((with_reducible refine gate_dst (N := 2) rfl ?_); refine box_event ?hg (N := 2) ?hd (cs := #[.int .i64 a0_0, .int .i64 a0_1, .int .i64 a0_2, .string a0_3, .string a0_4, .slice A0_5 l0_5.length c0_5, .slice A0_6 l0_6.length c0_6]) (t := 25) ?hr ?_; (case hd => rfl); (case hg => rfl); (case hr => first | (go_simp; done) | (go_simp; rfl)); intro gb181 hg w36 hbox hb; have n0_ := Aside0.mk (below_step (by repeat (first | (with_reducible first | exact HB.out | apply below_alloc | apply pw_below_drewN | apply below_drew1) | exact HB.out)) hb); have n1_ := Aside0.mk (hbox); have n2_ := Aside0.mk ((by rw [hg]; exact (below_size (by repeat (first | (with_reducible first | exact HB.out | apply below_alloc | apply pw_below_drewN | apply below_drew1) | exact HB.out))) : w.heap.size ≤ gb181)); have n3_ := Aside0.mk ((by rw [hg]; exact (below_size (by repeat (first | (with_reducible first | exact HB.out | apply below_alloc | apply pw_below_drewN | apply below_drew1) | exact HB.out))) : w.heap.size ≤ gb181)); clear HB; have HB := n0_; have BK181 := n1_; have GW181 := n2_; have GE181 := n3_; clear n0_ n1_ n2_ n3_; clear hb hbox hg) | ((with_reducible refine gate_dst (N := 3) rfl ?_); refine box_event ?hg (N := 3) ?hd (cs := #[.int .i64 a1_0, .int .i64 a1_1, .int .i64 a1_2, .string a1_3, .string a1_4, .slice A1_5 l1_5.length c1_5, .slice A1_6 l1_6.length c1_6]) (t := 25) ?hr ?_; (case hd => rfl); (case hg => rfl); (case hr => first | (go_simp; done) | (go_simp; rfl)); intro gb182 hg w37 hbox hb; have n0_ := Aside0.mk (blk_below (g := gb181) (o := .cells #[.int .i64 a0_0, .int .i64 a0_1, .int .i64 a0_2, .string a0_3, .string a0_4, .slice A0_5 l0_5.length c0_5, .slice A0_6 l0_6.length c0_6] 25 (0, 0)) (by (with_reducible repeat (first | refine blk_drewN ?_ _ | refine blk_drew ?_ | refine blk_alloc ?_ _)); exact BK181.out) hb); have n1_ := Aside0.mk (below_step (by repeat (first | (with_reducible first | exact HB.out | apply below_alloc | apply pw_below_drewN | apply below_drew1 | refine below_set ?_ GE181.out) | exact HB.out)) hb); have n2_ := Aside0.mk (hbox); have n3_ := Aside0.mk ((by rw [hg]; exact (below_size (by repeat (first | (with_reducible first | exact HB.out | apply below_alloc | apply pw_below_drewN | apply below_drew1 | refine below_set ?_ GE181.out) | exact HB.out))) : w.heap.size ≤ gb182)); have n4_ := Aside0.mk ((by rw [hg]; exact (below_size (by repeat (first | (with_reducible first | exact HB.out | apply below_alloc | apply pw_below_drewN | apply below_drew1 | refine below_set ?_ GE181.out) | exact HB.out))) : w.heap.size ≤ gb182)); have n5_ := Aside0.mk ((by rw [hg]; exact Nat.ne_of_lt (blk_lt (g := gb181) (o := .cells #[.int .i64 a0_0, .int .i64 a0_1, .int .i64 a0_2, .string a0_3, .string a0_4, .slice A0_5 l0_5.length c0_5, .slice A0_6 l0_6.length c0_6] 25 (0, 0)) (by (with_reducible repeat (first | refine blk_drewN ?_ _ | refine blk_drew ?_ | refine blk_alloc ?_ _)); exact BK181.out)) : gb181 ≠ gb182)); have n6_ := Aside0.mk ((by rw [hg]; exact Nat.ne_of_gt (blk_lt (g := gb181) (o := .cells #[.int .i64 a0_0, .int .i64 a0_1, .int .i64 a0_2, .string a0_3, .string a0_4, .slice A0_5 l0_5.length c0_5, .slice A0_6 l0_6.length c0_6] 25 (0, 0)) (by (with_reducible repeat (first | refine blk_drewN ?_ _ | refine blk_drew ?_ | refine blk_alloc ?_ _)); exact BK181.out)) : gb182 ≠ gb181)); clear BK181; clear HB; have BK181 := n0_; have HB := n1_; have BK182 := n2_; have GW182 := n3_; have GE182 := n4_; have NB181_182 := n5_; have NB182_181 := n6_; clear n0_ n1_ n2_ n3_ n4_ n5_ n6_; clear hb hbox hg; have hnb38 := NB181_182.out; have hnc38 := NB182_181.out; have hcz39_0 : w37.cell? ⟨gb181, 0, none⟩ = some (.int .i64 a0_0) := (blk_cell BK181.out 0).trans rfl; have hcz39_1 : w37.cell? ⟨gb181, 1, none⟩ = some (.int .i64 a0_1) := (blk_cell BK181.out 1).trans rfl; have hcz39_2 : w37.cell? ⟨gb181, 2, none⟩ = some (.int .i64 a0_2) := (blk_cell BK181.out 2).trans rfl; have hcz39_3 : w37.cell? ⟨gb181, 3, none⟩ = some (.string a0_3) := (blk_cell BK181.out 3).trans rfl; have hcz39_4 : w37.cell? ⟨gb181, 4, none⟩ = some (.string a0_4) := (blk_cell BK181.out 4).trans rfl; have hcz39_5 : w37.cell? ⟨gb181, 5, none⟩ = some (.slice A0_5 l0_5.length c0_5) := (blk_cell BK181.out 5).trans rfl; have hcz39_6 : w37.cell? ⟨gb181, 6, none⟩ = some (.slice A0_6 l0_6.length c0_6) := (blk_cell BK181.out 6).trans rfl; have hfz39_0 := blk_frozen BK181.out 0; have hfz39_1 := blk_frozen BK181.out 1; have hfz39_2 := blk_frozen BK181.out 2; have hfz39_3 := blk_frozen BK181.out 3; have hfz39_4 := blk_frozen BK181.out 4; have hfz39_5 := blk_frozen BK181.out 5; have hfz39_6 := blk_frozen BK181.out 6; have hcz40_0 : w37.cell? ⟨gb182, 0, none⟩ = some (.int .i64 a1_0) := (blk_cell BK182.out 0).trans rfl; have hcz40_1 : w37.cell? ⟨gb182, 1, none⟩ = some (.int .i64 a1_1) := (blk_cell BK182.out 1).trans rfl; have hcz40_2 : w37.cell? ⟨gb182, 2, none⟩ = some (.int .i64 a1_2) := (blk_cell BK182.out 2).trans rfl; have hcz40_3 : w37.cell? ⟨gb182, 3, none⟩ = some (.string a1_3) := (blk_cell BK182.out 3).trans rfl; have hcz40_4 : w37.cell? ⟨gb182, 4, none⟩ = some (.string a1_4) := (blk_cell BK182.out 4).trans rfl; have hcz40_5 : w37.cell? ⟨gb182, 5, none⟩ = some (.slice A1_5 l1_5.length c1_5) := (blk_cell BK182.out 5).trans rfl; have hcz40_6 : w37.cell? ⟨gb182, 6, none⟩ = some (.slice A1_6 l1_6.length c1_6) := (blk_cell BK182.out 6).trans rfl; have hfz40_0 := blk_frozen BK182.out 0; have hfz40_1 := blk_frozen BK182.out 1; have hfz40_2 := blk_frozen BK182.out 2; have hfz40_3 := blk_frozen BK182.out 3; have hfz40_4 := blk_frozen BK182.out 4; have hfz40_5 := blk_frozen BK182.out 5; have hfz40_6 := blk_frozen BK182.out 6))
      go_ret
      exact ⟨by first | rfl | (simp [errW_none, errW_some] <;> rfl) | (simp [*, errW_none, errW_some] <;> rfl), by repeat (first | (with_reducible first | exact HB.out | apply below_alloc | apply pw_below_drewN | apply below_drew1 | refine below_set ?_ GE181.out | refine below_set ?_ GE182.out) | exact HB.out)⟩
  · rw [if_neg c3] at H
    have c3b0 : (a0_0 == a1_0) = false := beq_eq_false_iff_ne.mpr c3
    have c3b1 : (a0_0 != a1_0) = true := bne_iff_ne.mpr c3
    obtain rfl := Option.some.inj H
    go_enter Tryd.func11, Tryd.ntmps11
    go_wp2_with (first | ((with_reducible refine gate_dst (N := 2) rfl ?_); refine box_event ?hg (N := 2) ?hd (cs := #[.int .i64 a0_0, .int .i64 a0_1, .int .i64 a0_2, .string a0_3, .string a0_4, .slice A0_5 l0_5.length c0_5, .slice A0_6 l0_6.length c0_6]) (t := 25) ?hr ?_; (case hd => rfl); (case hg => rfl); (case hr => first | (go_simp; done) | (go_simp; rfl)); intro gb181 hg w41 hbox hb; have n0_ := Aside0.mk (below_step (by repeat (first | (with_reducible first | exact HB.out | apply below_alloc | apply pw_below_drewN | apply below_drew1) | exact HB.out)) hb); have n1_ := Aside0.mk (hbox); have n2_ := Aside0.mk ((by rw [hg]; exact (below_size (by repeat (first | (with_reducible first | exact HB.out | apply below_alloc | apply pw_below_drewN | apply below_drew1) | exact HB.out))) : w.heap.size ≤ gb181)); have n3_ := Aside0.mk ((by rw [hg]; exact (below_size (by repeat (first | (with_reducible first | exact HB.out | apply below_alloc | apply pw_below_drewN | apply below_drew1) | exact HB.out))) : w.heap.size ≤ gb181)); clear HB; have HB := n0_; have BK181 := n1_; have GW181 := n2_; have GE181 := n3_; clear n0_ n1_ n2_ n3_; clear hb hbox hg) | ((with_reducible refine gate_dst (N := 3) rfl ?_); refine box_event ?hg (N := 3) ?hd (cs := #[.int .i64 a1_0, .int .i64 a1_1, .int .i64 a1_2, .string a1_3, .string a1_4, .slice A1_5 l1_5.length c1_5, .slice A1_6 l1_6.length c1_6]) (t := 25) ?hr ?_; (case hd => rfl); (case hg => rfl); (case hr => first | (go_simp; done) | (go_simp; rfl)); intro gb182 hg w42 hbox hb; have n0_ := Aside0.mk (blk_below (g := gb181) (o := .cells #[.int .i64 a0_0, .int .i64 a0_1, .int .i64 a0_2, .string a0_3, .string a0_4, .slice A0_5 l0_5.length c0_5, .slice A0_6 l0_6.length c0_6] 25 (0, 0)) (by (with_reducible repeat (first | refine blk_drewN ?_ _ | refine blk_drew ?_ | refine blk_alloc ?_ _)); exact BK181.out) hb); have n1_ := Aside0.mk (below_step (by repeat (first | (with_reducible first | exact HB.out | apply below_alloc | apply pw_below_drewN | apply below_drew1 | refine below_set ?_ GE181.out) | exact HB.out)) hb); have n2_ := Aside0.mk (hbox); have n3_ := Aside0.mk ((by rw [hg]; exact (below_size (by repeat (first | (with_reducible first | exact HB.out | apply below_alloc | apply pw_below_drewN | apply below_drew1 | refine below_set ?_ GE181.out) | exact HB.out))) : w.heap.size ≤ gb182)); have n4_ := Aside0.mk ((by rw [hg]; exact (below_size (by repeat (first | (with_reducible first | exact HB.out | apply below_alloc | apply pw_below_drewN | apply below_drew1 | refine below_set ?_ GE181.out) | exact HB.out))) : w.heap.size ≤ gb182)); have n5_ := Aside0.mk ((by rw [hg]; exact Nat.ne_of_lt (blk_lt (g := gb181) (o := .cells #[.int .i64 a0_0, .int .i64 a0_1, .int .i64 a0_2, .string a0_3, .string a0_4, .slice A0_5 l0_5.length c0_5, .slice A0_6 l0_6.length c0_6] 25 (0, 0)) (by (with_reducible repeat (first | refine blk_drewN ?_ _ | refine blk_drew ?_ | refine blk_alloc ?_ _)); exact BK181.out)) : gb181 ≠ gb182)); have n6_ := Aside0.mk ((by rw [hg]; exact Nat.ne_of_gt (blk_lt (g := gb181) (o := .cells #[.int .i64 a0_0, .int .i64 a0_1, .int .i64 a0_2, .string a0_3, .string a0_4, .slice A0_5 l0_5.length c0_5, .slice A0_6 l0_6.length c0_6] 25 (0, 0)) (by (with_reducible repeat (first | refine blk_drewN ?_ _ | refine blk_drew ?_ | refine blk_alloc ?_ _)); exact BK181.out)) : gb182 ≠ gb181)); clear BK181; clear HB; have BK181 := n0_; have HB := n1_; have BK182 := n2_; have GW182 := n3_; have GE182 := n4_; have NB181_182 := n5_; have NB182_181 := n6_; clear n0_ n1_ n2_ n3_ n4_ n5_ n6_; clear hb hbox hg; have hnb43 := NB181_182.out; have hnc43 := NB182_181.out; have hcz44_0 : w42.cell? ⟨gb181, 0, none⟩ = some (.int .i64 a0_0) := (blk_cell BK181.out 0).trans rfl; have hcz44_1 : w42.cell? ⟨gb181, 1, none⟩ = some (.int .i64 a0_1) := (blk_cell BK181.out 1).trans rfl; have hcz44_2 : w42.cell? ⟨gb181, 2, none⟩ = some (.int .i64 a0_2) := (blk_cell BK181.out 2).trans rfl; have hcz44_3 : w42.cell? ⟨gb181, 3, none⟩ = some (.string a0_3) := (blk_cell BK181.out 3).trans rfl; have hcz44_4 : w42.cell? ⟨gb181, 4, none⟩ = some (.string a0_4) := (blk_cell BK181.out 4).trans rfl; have hcz44_5 : w42.cell? ⟨gb181, 5, none⟩ = some (.slice A0_5 l0_5.length c0_5) := (blk_cell BK181.out 5).trans rfl; have hcz44_6 : w42.cell? ⟨gb181, 6, none⟩ = some (.slice A0_6 l0_6.length c0_6) := (blk_cell BK181.out 6).trans rfl; have hfz44_0 := blk_frozen BK181.out 0; have hfz44_1 := blk_frozen BK181.out 1; have hfz44_2 := blk_frozen BK181.out 2; have hfz44_3 := blk_frozen BK181.out 3; have hfz44_4 := blk_frozen BK181.out 4; have hfz44_5 := blk_frozen BK181.out 5; have hfz44_6 := blk_frozen BK181.out 6; have hcz45_0 : w42.cell? ⟨gb182, 0, none⟩ = some (.int .i64 a1_0) := (blk_cell BK182.out 0).trans rfl; have hcz45_1 : w42.cell? ⟨gb182, 1, none⟩ = some (.int .i64 a1_1) := (blk_cell BK182.out 1).trans rfl; have hcz45_2 : w42.cell? ⟨gb182, 2, none⟩ = some (.int .i64 a1_2) := (blk_cell BK182.out 2).trans rfl; have hcz45_3 : w42.cell? ⟨gb182, 3, none⟩ = some (.string a1_3) := (blk_cell BK182.out 3).trans rfl; have hcz45_4 : w42.cell? ⟨gb182, 4, none⟩ = some (.string a1_4) := (blk_cell BK182.out 4).trans rfl; have hcz45_5 : w42.cell? ⟨gb182, 5, none⟩ = some (.slice A1_5 l1_5.length c1_5) := (blk_cell BK182.out 5).trans rfl; have hcz45_6 : w42.cell? ⟨gb182, 6, none⟩ = some (.slice A1_6 l1_6.length c1_6) := (blk_cell BK182.out 6).trans rfl; have hfz45_0 := blk_frozen BK182.out 0; have hfz45_1 := blk_frozen BK182.out 1; have hfz45_2 := blk_frozen BK182.out 2; have hfz45_3 := blk_frozen BK182.out 3; have hfz45_4 := blk_frozen BK182.out 4; have hfz45_5 := blk_frozen BK182.out 5; have hfz45_6 := blk_frozen BK182.out 6))
    go_ret
    exact ⟨by first | rfl | (simp [errW_none, errW_some] <;> rfl) | (simp [*, errW_none, errW_some] <;> rfl), by repeat (first | (with_reducible first | exact HB.out | apply below_alloc | apply pw_below_drewN | apply below_drew1 | refine below_set ?_ GE181.out | refine below_set ?_ GE182.out) | exact HB.out)⟩

/-! ### mail_isId: function 73 -/
/-! ### gate_plain: function 26 -/
def gate_plain.f (k : Nat) (a0_0 : Int) (a0_1 : Int) (a0_2 : Int) (a0_3 : ByteArray) (a0_4 : ByteArray) (l0_5 : List (S68)) (l0_6 : List ByteArray) : Option (ByteArray × Int) := (strings_Repeat.f (⟨#[0]⟩ : ByteArray) 32).bind fun t186 => (if a0_0 = 2 then ((mail_Encode.f k a0_0 a0_1 a0_2 a0_3 t186 l0_5 l0_6).bind fun bt187 => (some (bt187.1, bt187.2))) else (if a0_0 = 4 then ((mail_Encode.f k a0_0 a0_1 a0_2 a0_3 t186 l0_5 l0_6).bind fun bt189 => (some (bt189.1, bt189.2))) else (some ((⟨#[]⟩ : ByteArray), 110))))
set_option maxHeartbeats 8000000 in
set_option maxRecDepth 100000 in
theorem gate_plain.calls (k : Nat) (a0_0 : Int) (a0_1 : Int) (a0_2 : Int) (a0_3 : ByteArray) (a0_4 : ByteArray) (A0_5 : Option Addr) (c0_5 : Nat) (l0_5 : List (S68)) (A0_6 : Option Addr) (c0_6 : Nat) (l0_6 : List ByteArray) (r1 : ByteArray) (r2 : Int) (w : World) (hr0_5 : Kd.C k68 w A0_5 l0_5.length l0_5) (hc0_5 : l0_5.length ≤ c0_5) (hr0_6 : Kd.C Kd.string w A0_6 l0_6.length l0_6) (hc0_6 : l0_6.length ≤ c0_6) (h : gate_plain.f k a0_0 a0_1 a0_2 a0_3 a0_4 l0_5 l0_6 = some (r1, r2)) :
    Calls Tryd.prog 26 #[.agg #[.int .i64 a0_0, .int .i64 a0_1, .int .i64 a0_2, .string a0_3, .string a0_4, .slice A0_5 l0_5.length c0_5, .slice A0_6 l0_6.length c0_6]] w fun e w' => e = .returned (.tuple #[.string r1, .int .i64 r2]) ∧ Below w.heap.size w w' := by
  have hu25 := Tryd.underlying25
  have HR0_5 := Aside0.mk hr0_5
  have HC0_5 := Aside0.mk hc0_5
  clear hr0_5 hc0_5
  have HR0_6 := Aside0.mk hr0_6
  have HC0_6 := Aside0.mk hc0_6
  clear hr0_6 hc0_6
  have HB := Aside0.mk (Below.refl w.heap.size w)
  have H : ((strings_Repeat.f (⟨#[0]⟩ : ByteArray) 32).bind fun t186 => (if a0_0 = 2 then ((mail_Encode.f k a0_0 a0_1 a0_2 a0_3 t186 l0_5 l0_6).bind fun bt187 => (some (bt187.1, bt187.2))) else (if a0_0 = 4 then ((mail_Encode.f k a0_0 a0_1 a0_2 a0_3 t186 l0_5 l0_6).bind fun bt189 => (some (bt189.1, bt189.2))) else (some ((⟨#[]⟩ : ByteArray), 110))))) = some (r1, r2) := h
  clear h
  replace H := Option.bind_eq_some_iff.mp H
  obtain ⟨t186, A20, H⟩ := H
  replace H : (if a0_0 = 2 then ((mail_Encode.f k a0_0 a0_1 a0_2 a0_3 t186 l0_5 l0_6).bind fun bt187 => (some (bt187.1, bt187.2))) else (if a0_0 = 4 then ((mail_Encode.f k a0_0 a0_1 a0_2 a0_3 t186 l0_5 l0_6).bind fun bt189 => (some (bt189.1, bt189.2))) else (some ((⟨#[]⟩ : ByteArray), 110)))) = some (r1, r2) := H
  have A2 := Aside0.mk A20
  clear A20
  by_cases c3 : a0_0 = 2
  · rw [if_pos c3] at H
    have c3b0 : (a0_0 == 2) = true := beq_iff_eq.mpr c3
    have c3b1 : (a0_0 != 2) = false := bne_eq_false_iff_eq.mpr c3
    clear c3
    replace H := Option.bind_eq_some_iff.mp H
    obtain ⟨⟨t187, t188⟩, A40, H⟩ := H
    replace H : (some (t187, t188)) = some (r1, r2) := H
    have A4 := Aside0.mk A40
    clear A40
    simp only [Option.some.injEq, Prod.mk.injEq] at H
    obtain ⟨rfl, rfl⟩ := H
    go_enter Tryd.func26, Tryd.ntmps26
    go_wp2_with (first | ((with_reducible refine gate_dst (N := 1) rfl ?_); refine box_event ?hg (N := 1) ?hd (cs := #[.int .i64 a0_0, .int .i64 a0_1, .int .i64 a0_2, .string a0_3, .string a0_4, .slice A0_5 l0_5.length c0_5, .slice A0_6 l0_6.length c0_6]) (t := 25) ?hr ?_; (case hd => rfl); (case hg => rfl); (case hr => first | (go_simp; done) | (go_simp; rfl)); intro gb185 hg w5 hbox hb; have n0_ := Aside0.mk (below_step (by repeat (first | (with_reducible first | exact HB.out | apply below_alloc | apply pw_below_drewN | apply below_drew1) | exact HB.out)) hb); have n1_ := Aside0.mk (hbox); have n2_ := Aside0.mk ((by rw [hg]; exact (below_size (by repeat (first | (with_reducible first | exact HB.out | apply below_alloc | apply pw_below_drewN | apply below_drew1) | exact HB.out))) : w.heap.size ≤ gb185)); have n3_ := Aside0.mk ((by rw [hg]; exact (below_size (by repeat (first | (with_reducible first | exact HB.out | apply below_alloc | apply pw_below_drewN | apply below_drew1) | exact HB.out))) : w.heap.size ≤ gb185)); clear HB; have HB := n0_; have BK185 := n1_; have GW185 := n2_; have GE185 := n3_; clear n0_ n1_ n2_ n3_; clear hb hbox hg) | ((with_reducible refine gate_callee (f := 45) rfl ?_); refine goesL_ (some 4) rfl rfl Tryd.func45 (by kernel_rfl) rfl #[.string (⟨#[0]⟩ : ByteArray), .int .i64 32] rfl (by (try simp only [List.map_toArray, List.map_cons, List.map_nil]); first | done | rfl | (simp only [List.length_drop, List.length_take]; rfl)) ?_; (with_reducible refine (strings_Repeat.calls (⟨#[0]⟩ : ByteArray) 32 t186 _ A2.out).mono ?_); rintro e w6 ⟨rfl, hb⟩; refine ⟨_, rfl, ?_⟩; have n0_ := Aside0.mk (blk_below (g := gb185) (o := .cells #[.int .i64 a0_0, .int .i64 a0_1, .int .i64 a0_2, .string a0_3, .string a0_4, .slice A0_5 l0_5.length c0_5, .slice A0_6 l0_6.length c0_6] 25 (0, 0)) (by (with_reducible repeat (first | refine blk_drewN ?_ _ | refine blk_drew ?_ | refine blk_alloc ?_ _)); exact BK185.out) hb); have n1_ := Aside0.mk (below_step (by repeat (first | (with_reducible first | exact HB.out | apply below_alloc | apply pw_below_drewN | apply below_drew1 | refine below_set ?_ GE185.out) | exact HB.out)) hb); clear BK185; clear HB; have BK185 := n0_; have HB := n1_; clear n0_ n1_; (try clear hb); (try clear hb2); (try clear hk); (try clear hi); have hcz7_0 : w6.cell? ⟨gb185, 0, none⟩ = some (.int .i64 a0_0) := (blk_cell BK185.out 0).trans rfl; have hcz7_1 : w6.cell? ⟨gb185, 1, none⟩ = some (.int .i64 a0_1) := (blk_cell BK185.out 1).trans rfl; have hcz7_2 : w6.cell? ⟨gb185, 2, none⟩ = some (.int .i64 a0_2) := (blk_cell BK185.out 2).trans rfl; have hcz7_3 : w6.cell? ⟨gb185, 3, none⟩ = some (.string a0_3) := (blk_cell BK185.out 3).trans rfl; have hcz7_4 : w6.cell? ⟨gb185, 4, none⟩ = some (.string a0_4) := (blk_cell BK185.out 4).trans rfl; have hcz7_5 : w6.cell? ⟨gb185, 5, none⟩ = some (.slice A0_5 l0_5.length c0_5) := (blk_cell BK185.out 5).trans rfl; have hcz7_6 : w6.cell? ⟨gb185, 6, none⟩ = some (.slice A0_6 l0_6.length c0_6) := (blk_cell BK185.out 6).trans rfl; have hfz7_0 := blk_frozen BK185.out 0; have hfz7_1 := blk_frozen BK185.out 1; have hfz7_2 := blk_frozen BK185.out 2; have hfz7_3 := blk_frozen BK185.out 3; have hfz7_4 := blk_frozen BK185.out 4; have hfz7_5 := blk_frozen BK185.out 5; have hfz7_6 := blk_frozen BK185.out 6) | ((with_reducible refine gate_callee (f := 23) rfl ?_); refine goesL_ (some 15) rfl rfl Tryd.func23 (by kernel_rfl) rfl #[.agg #[.int .i64 a0_0, .int .i64 a0_1, .int .i64 a0_2, .string a0_3, .string t186, .slice A0_5 l0_5.length c0_5, .slice A0_6 l0_6.length c0_6]] rfl (by (try simp only [List.map_toArray, List.map_cons, List.map_nil]); first | done | rfl | (simp only [List.length_drop, List.length_take]; rfl)) ?_; (with_reducible refine (mail_Encode.calls k a0_0 a0_1 a0_2 a0_3 t186 _ _ l0_5 _ _ l0_6 t187 t188 _ ?side1 ?side2 ?side3 ?side4 A4.out).mono ?_); (case side1 => exact Kd.C_below HR0_5.out (by repeat (first | (with_reducible first | exact HB.out | apply below_alloc | apply pw_below_drewN | apply below_drew1 | refine below_set ?_ GE185.out) | exact HB.out))); (case side2 => exact HC0_5.out); (case side3 => exact Kd.C_below HR0_6.out (by repeat (first | (with_reducible first | exact HB.out | apply below_alloc | apply pw_below_drewN | apply below_drew1 | refine below_set ?_ GE185.out) | exact HB.out))); (case side4 => exact HC0_6.out); rintro e w8 ⟨rfl, hb⟩; refine ⟨_, rfl, ?_⟩; have n0_ := Aside0.mk (blk_below (g := gb185) (o := .cells #[.int .i64 a0_0, .int .i64 a0_1, .int .i64 a0_2, .string a0_3, .string t186, .slice A0_5 l0_5.length c0_5, .slice A0_6 l0_6.length c0_6] 25 (0, 0)) (by (with_reducible repeat (first | refine blk_drewN ?_ _ | refine blk_drew ?_ | refine blk_alloc ?_ _)); refine blk_put (cs := #[.int .i64 a0_0, .int .i64 a0_1, .int .i64 a0_2, .string a0_3, .string a0_4, .slice A0_5 l0_5.length c0_5, .slice A0_6 l0_6.length c0_6]) ?_ 4 _ rfl; (with_reducible repeat (first | refine blk_drewN ?_ _ | refine blk_drew ?_ | refine blk_alloc ?_ _)); exact BK185.out) hb); have n1_ := Aside0.mk (below_step (by repeat (first | (with_reducible first | exact HB.out | apply below_alloc | apply pw_below_drewN | apply below_drew1 | refine below_set ?_ GE185.out) | exact HB.out)) hb); clear BK185; clear HB; have BK185 := n0_; have HB := n1_; clear n0_ n1_; (try clear hb); (try clear hb2); (try clear hk); (try clear hi)))
    go_ret2
    exact ⟨by first | rfl | (simp [errW_none, errW_some] <;> rfl) | (simp [*, errW_none, errW_some] <;> rfl), by repeat (first | (with_reducible first | exact HB.out | apply below_alloc | apply pw_below_drewN | apply below_drew1 | refine below_set ?_ GE185.out) | exact HB.out)⟩
  · rw [if_neg c3] at H
    have c3b0 : (a0_0 == 2) = false := beq_eq_false_iff_ne.mpr c3
    have c3b1 : (a0_0 != 2) = true := bne_iff_ne.mpr c3
    by_cases c9 : a0_0 = 4
    · rw [if_pos c9] at H
      have c9b0 : (a0_0 == 4) = true := beq_iff_eq.mpr c9
      have c9b1 : (a0_0 != 4) = false := bne_eq_false_iff_eq.mpr c9
      clear c9
      replace H := Option.bind_eq_some_iff.mp H
      obtain ⟨⟨t189, t190⟩, A100, H⟩ := H
      replace H : (some (t189, t190)) = some (r1, r2) := H
      have A10 := Aside0.mk A100
      clear A100
      simp only [Option.some.injEq, Prod.mk.injEq] at H
      obtain ⟨rfl, rfl⟩ := H
      go_enter Tryd.func26, Tryd.ntmps26
      go_wp2_with (first | ((with_reducible refine gate_dst (N := 1) rfl ?_); refine box_event ?hg (N := 1) ?hd (cs := #[.int .i64 a0_0, .int .i64 a0_1, .int .i64 a0_2, .string a0_3, .string a0_4, .slice A0_5 l0_5.length c0_5, .slice A0_6 l0_6.length c0_6]) (t := 25) ?hr ?_; (case hd => rfl); (case hg => rfl); (case hr => first | (go_simp; done) | (go_simp; rfl)); intro gb185 hg w11 hbox hb; have n0_ := Aside0.mk (below_step (by repeat (first | (with_reducible first | exact HB.out | apply below_alloc | apply pw_below_drewN | apply below_drew1) | exact HB.out)) hb); have n1_ := Aside0.mk (hbox); have n2_ := Aside0.mk ((by rw [hg]; exact (below_size (by repeat (first | (with_reducible first | exact HB.out | apply below_alloc | apply pw_below_drewN | apply below_drew1) | exact HB.out))) : w.heap.size ≤ gb185)); have n3_ := Aside0.mk ((by rw [hg]; exact (below_size (by repeat (first | (with_reducible first | exact HB.out | apply below_alloc | apply pw_below_drewN | apply below_drew1) | exact HB.out))) : w.heap.size ≤ gb185)); clear HB; have HB := n0_; have BK185 := n1_; have GW185 := n2_; have GE185 := n3_; clear n0_ n1_ n2_ n3_; clear hb hbox hg) | ((with_reducible refine gate_callee (f := 45) rfl ?_); refine goesL_ (some 4) rfl rfl Tryd.func45 (by kernel_rfl) rfl #[.string (⟨#[0]⟩ : ByteArray), .int .i64 32] rfl (by (try simp only [List.map_toArray, List.map_cons, List.map_nil]); first | done | rfl | (simp only [List.length_drop, List.length_take]; rfl)) ?_; (with_reducible refine (strings_Repeat.calls (⟨#[0]⟩ : ByteArray) 32 t186 _ A2.out).mono ?_); rintro e w12 ⟨rfl, hb⟩; refine ⟨_, rfl, ?_⟩; have n0_ := Aside0.mk (blk_below (g := gb185) (o := .cells #[.int .i64 a0_0, .int .i64 a0_1, .int .i64 a0_2, .string a0_3, .string a0_4, .slice A0_5 l0_5.length c0_5, .slice A0_6 l0_6.length c0_6] 25 (0, 0)) (by (with_reducible repeat (first | refine blk_drewN ?_ _ | refine blk_drew ?_ | refine blk_alloc ?_ _)); exact BK185.out) hb); have n1_ := Aside0.mk (below_step (by repeat (first | (with_reducible first | exact HB.out | apply below_alloc | apply pw_below_drewN | apply below_drew1 | refine below_set ?_ GE185.out) | exact HB.out)) hb); clear BK185; clear HB; have BK185 := n0_; have HB := n1_; clear n0_ n1_; (try clear hb); (try clear hb2); (try clear hk); (try clear hi); have hcz13_0 : w12.cell? ⟨gb185, 0, none⟩ = some (.int .i64 a0_0) := (blk_cell BK185.out 0).trans rfl; have hcz13_1 : w12.cell? ⟨gb185, 1, none⟩ = some (.int .i64 a0_1) := (blk_cell BK185.out 1).trans rfl; have hcz13_2 : w12.cell? ⟨gb185, 2, none⟩ = some (.int .i64 a0_2) := (blk_cell BK185.out 2).trans rfl; have hcz13_3 : w12.cell? ⟨gb185, 3, none⟩ = some (.string a0_3) := (blk_cell BK185.out 3).trans rfl; have hcz13_4 : w12.cell? ⟨gb185, 4, none⟩ = some (.string a0_4) := (blk_cell BK185.out 4).trans rfl; have hcz13_5 : w12.cell? ⟨gb185, 5, none⟩ = some (.slice A0_5 l0_5.length c0_5) := (blk_cell BK185.out 5).trans rfl; have hcz13_6 : w12.cell? ⟨gb185, 6, none⟩ = some (.slice A0_6 l0_6.length c0_6) := (blk_cell BK185.out 6).trans rfl; have hfz13_0 := blk_frozen BK185.out 0; have hfz13_1 := blk_frozen BK185.out 1; have hfz13_2 := blk_frozen BK185.out 2; have hfz13_3 := blk_frozen BK185.out 3; have hfz13_4 := blk_frozen BK185.out 4; have hfz13_5 := blk_frozen BK185.out 5; have hfz13_6 := blk_frozen BK185.out 6) | ((with_reducible refine gate_callee (f := 23) rfl ?_); refine goesL_ (some 15) rfl rfl Tryd.func23 (by kernel_rfl) rfl #[.agg #[.int .i64 a0_0, .int .i64 a0_1, .int .i64 a0_2, .string a0_3, .string t186, .slice A0_5 l0_5.length c0_5, .slice A0_6 l0_6.length c0_6]] rfl (by (try simp only [List.map_toArray, List.map_cons, List.map_nil]); first | done | rfl | (simp only [List.length_drop, List.length_take]; rfl)) ?_; (with_reducible refine (mail_Encode.calls k a0_0 a0_1 a0_2 a0_3 t186 _ _ l0_5 _ _ l0_6 t189 t190 _ ?side1 ?side2 ?side3 ?side4 A10.out).mono ?_); (case side1 => exact Kd.C_below HR0_5.out (by repeat (first | (with_reducible first | exact HB.out | apply below_alloc | apply pw_below_drewN | apply below_drew1 | refine below_set ?_ GE185.out) | exact HB.out))); (case side2 => exact HC0_5.out); (case side3 => exact Kd.C_below HR0_6.out (by repeat (first | (with_reducible first | exact HB.out | apply below_alloc | apply pw_below_drewN | apply below_drew1 | refine below_set ?_ GE185.out) | exact HB.out))); (case side4 => exact HC0_6.out); rintro e w14 ⟨rfl, hb⟩; refine ⟨_, rfl, ?_⟩; have n0_ := Aside0.mk (blk_below (g := gb185) (o := .cells #[.int .i64 a0_0, .int .i64 a0_1, .int .i64 a0_2, .string a0_3, .string t186, .slice A0_5 l0_5.length c0_5, .slice A0_6 l0_6.length c0_6] 25 (0, 0)) (by (with_reducible repeat (first | refine blk_drewN ?_ _ | refine blk_drew ?_ | refine blk_alloc ?_ _)); refine blk_put (cs := #[.int .i64 a0_0, .int .i64 a0_1, .int .i64 a0_2, .string a0_3, .string a0_4, .slice A0_5 l0_5.length c0_5, .slice A0_6 l0_6.length c0_6]) ?_ 4 _ rfl; (with_reducible repeat (first | refine blk_drewN ?_ _ | refine blk_drew ?_ | refine blk_alloc ?_ _)); exact BK185.out) hb); have n1_ := Aside0.mk (below_step (by repeat (first | (with_reducible first | exact HB.out | apply below_alloc | apply pw_below_drewN | apply below_drew1 | refine below_set ?_ GE185.out) | exact HB.out)) hb); clear BK185; clear HB; have BK185 := n0_; have HB := n1_; clear n0_ n1_; (try clear hb); (try clear hb2); (try clear hk); (try clear hi)))
      go_ret2
      exact ⟨by first | rfl | (simp [errW_none, errW_some] <;> rfl) | (simp [*, errW_none, errW_some] <;> rfl), by repeat (first | (with_reducible first | exact HB.out | apply below_alloc | apply pw_below_drewN | apply below_drew1 | refine below_set ?_ GE185.out) | exact HB.out)⟩
    · rw [if_neg c9] at H
      have c9b0 : (a0_0 == 4) = false := beq_eq_false_iff_ne.mpr c9
      have c9b1 : (a0_0 != 4) = true := bne_iff_ne.mpr c9
      simp only [Option.some.injEq, Prod.mk.injEq] at H
      obtain ⟨rfl, rfl⟩ := H
      go_enter Tryd.func26, Tryd.ntmps26
      go_wp2_with (first | ((with_reducible refine gate_dst (N := 1) rfl ?_); refine box_event ?hg (N := 1) ?hd (cs := #[.int .i64 a0_0, .int .i64 a0_1, .int .i64 a0_2, .string a0_3, .string a0_4, .slice A0_5 l0_5.length c0_5, .slice A0_6 l0_6.length c0_6]) (t := 25) ?hr ?_; (case hd => rfl); (case hg => rfl); (case hr => first | (go_simp; done) | (go_simp; rfl)); intro gb185 hg w15 hbox hb; have n0_ := Aside0.mk (below_step (by repeat (first | (with_reducible first | exact HB.out | apply below_alloc | apply pw_below_drewN | apply below_drew1) | exact HB.out)) hb); have n1_ := Aside0.mk (hbox); have n2_ := Aside0.mk ((by rw [hg]; exact (below_size (by repeat (first | (with_reducible first | exact HB.out | apply below_alloc | apply pw_below_drewN | apply below_drew1) | exact HB.out))) : w.heap.size ≤ gb185)); have n3_ := Aside0.mk ((by rw [hg]; exact (below_size (by repeat (first | (with_reducible first | exact HB.out | apply below_alloc | apply pw_below_drewN | apply below_drew1) | exact HB.out))) : w.heap.size ≤ gb185)); clear HB; have HB := n0_; have BK185 := n1_; have GW185 := n2_; have GE185 := n3_; clear n0_ n1_ n2_ n3_; clear hb hbox hg) | ((with_reducible refine gate_callee (f := 45) rfl ?_); refine goesL_ (some 4) rfl rfl Tryd.func45 (by kernel_rfl) rfl #[.string (⟨#[0]⟩ : ByteArray), .int .i64 32] rfl (by (try simp only [List.map_toArray, List.map_cons, List.map_nil]); first | done | rfl | (simp only [List.length_drop, List.length_take]; rfl)) ?_; (with_reducible refine (strings_Repeat.calls (⟨#[0]⟩ : ByteArray) 32 t186 _ A2.out).mono ?_); rintro e w16 ⟨rfl, hb⟩; refine ⟨_, rfl, ?_⟩; have n0_ := Aside0.mk (blk_below (g := gb185) (o := .cells #[.int .i64 a0_0, .int .i64 a0_1, .int .i64 a0_2, .string a0_3, .string a0_4, .slice A0_5 l0_5.length c0_5, .slice A0_6 l0_6.length c0_6] 25 (0, 0)) (by (with_reducible repeat (first | refine blk_drewN ?_ _ | refine blk_drew ?_ | refine blk_alloc ?_ _)); exact BK185.out) hb); have n1_ := Aside0.mk (below_step (by repeat (first | (with_reducible first | exact HB.out | apply below_alloc | apply pw_below_drewN | apply below_drew1 | refine below_set ?_ GE185.out) | exact HB.out)) hb); clear BK185; clear HB; have BK185 := n0_; have HB := n1_; clear n0_ n1_; (try clear hb); (try clear hb2); (try clear hk); (try clear hi); have hcz17_0 : w16.cell? ⟨gb185, 0, none⟩ = some (.int .i64 a0_0) := (blk_cell BK185.out 0).trans rfl; have hcz17_1 : w16.cell? ⟨gb185, 1, none⟩ = some (.int .i64 a0_1) := (blk_cell BK185.out 1).trans rfl; have hcz17_2 : w16.cell? ⟨gb185, 2, none⟩ = some (.int .i64 a0_2) := (blk_cell BK185.out 2).trans rfl; have hcz17_3 : w16.cell? ⟨gb185, 3, none⟩ = some (.string a0_3) := (blk_cell BK185.out 3).trans rfl; have hcz17_4 : w16.cell? ⟨gb185, 4, none⟩ = some (.string a0_4) := (blk_cell BK185.out 4).trans rfl; have hcz17_5 : w16.cell? ⟨gb185, 5, none⟩ = some (.slice A0_5 l0_5.length c0_5) := (blk_cell BK185.out 5).trans rfl; have hcz17_6 : w16.cell? ⟨gb185, 6, none⟩ = some (.slice A0_6 l0_6.length c0_6) := (blk_cell BK185.out 6).trans rfl; have hfz17_0 := blk_frozen BK185.out 0; have hfz17_1 := blk_frozen BK185.out 1; have hfz17_2 := blk_frozen BK185.out 2; have hfz17_3 := blk_frozen BK185.out 3; have hfz17_4 := blk_frozen BK185.out 4; have hfz17_5 := blk_frozen BK185.out 5; have hfz17_6 := blk_frozen BK185.out 6))
      go_ret2
      exact ⟨by first | rfl | (simp [errW_none, errW_some] <;> rfl) | (simp [*, errW_none, errW_some] <;> rfl), by repeat (first | (with_reducible first | exact HB.out | apply below_alloc | apply pw_below_drewN | apply below_drew1 | refine below_set ?_ GE185.out) | exact HB.out)⟩

/-! ### dovecoteref20_may: function 29 -/
def dovecoteref20_may.f (k : Nat) (a0_0 : Int) (a0_1 : Int) (a0_2 : Int) (a0_3 : ByteArray) (a0_4 : ByteArray) (l0_5 : List (S68)) (l0_6 : List ByteArray) : Option (Bool) := if a0_0 = 2 then ((dovecoteref11_Check.f k a0_0 a0_1 a0_2 a0_3 a0_4 l0_5 l0_6).bind fun t192 => (some (t192 == 0))) else (if a0_0 = 4 then ((dovecoteref11_Check.f k a0_0 a0_1 a0_2 a0_3 a0_4 l0_5 l0_6).bind fun t193 => (some (t193 == 0))) else (some false))
set_option maxHeartbeats 8000000 in
set_option maxRecDepth 100000 in
theorem dovecoteref20_may.calls (k : Nat) (a0_0 : Int) (a0_1 : Int) (a0_2 : Int) (a0_3 : ByteArray) (a0_4 : ByteArray) (A0_5 : Option Addr) (c0_5 : Nat) (l0_5 : List (S68)) (A0_6 : Option Addr) (c0_6 : Nat) (l0_6 : List ByteArray) (r : Bool) (w : World) (hr0_5 : Kd.C k68 w A0_5 l0_5.length l0_5) (hc0_5 : l0_5.length ≤ c0_5) (hr0_6 : Kd.C Kd.string w A0_6 l0_6.length l0_6) (hc0_6 : l0_6.length ≤ c0_6) (h : dovecoteref20_may.f k a0_0 a0_1 a0_2 a0_3 a0_4 l0_5 l0_6 = some r) :
    Calls Tryd.prog 29 #[.agg #[.int .i64 a0_0, .int .i64 a0_1, .int .i64 a0_2, .string a0_3, .string a0_4, .slice A0_5 l0_5.length c0_5, .slice A0_6 l0_6.length c0_6]] w fun e w' => e = .returned (.bool r) ∧ Below w.heap.size w w' := by
  have hu25 := Tryd.underlying25
  have HR0_5 := Aside0.mk hr0_5
  have HC0_5 := Aside0.mk hc0_5
  clear hr0_5 hc0_5
  have HR0_6 := Aside0.mk hr0_6
  have HC0_6 := Aside0.mk hc0_6
  clear hr0_6 hc0_6
  have HB := Aside0.mk (Below.refl w.heap.size w)
  have H : (if a0_0 = 2 then ((dovecoteref11_Check.f k a0_0 a0_1 a0_2 a0_3 a0_4 l0_5 l0_6).bind fun t192 => (some (t192 == 0))) else (if a0_0 = 4 then ((dovecoteref11_Check.f k a0_0 a0_1 a0_2 a0_3 a0_4 l0_5 l0_6).bind fun t193 => (some (t193 == 0))) else (some false))) = some r := h
  clear h
  by_cases c2 : a0_0 = 2
  · rw [if_pos c2] at H
    have c2b0 : (a0_0 == 2) = true := beq_iff_eq.mpr c2
    have c2b1 : (a0_0 != 2) = false := bne_eq_false_iff_eq.mpr c2
    clear c2
    replace H := Option.bind_eq_some_iff.mp H
    obtain ⟨t192, A30, H⟩ := H
    replace H : (some (t192 == 0)) = some r := H
    have A3 := Aside0.mk A30
    clear A30
    obtain rfl := Option.some.inj H
    go_enter Tryd.func29, Tryd.ntmps29
    go_wp2_with (first | ((with_reducible refine gate_dst (N := 1) rfl ?_); refine box_event ?hg (N := 1) ?hd (cs := #[.int .i64 a0_0, .int .i64 a0_1, .int .i64 a0_2, .string a0_3, .string a0_4, .slice A0_5 l0_5.length c0_5, .slice A0_6 l0_6.length c0_6]) (t := 25) ?hr ?_; (case hd => rfl); (case hg => rfl); (case hr => first | (go_simp; done) | (go_simp; rfl)); intro gb191 hg w4 hbox hb; have n0_ := Aside0.mk (below_step (by repeat (first | (with_reducible first | exact HB.out | apply below_alloc | apply pw_below_drewN | apply below_drew1) | exact HB.out)) hb); have n1_ := Aside0.mk (hbox); have n2_ := Aside0.mk ((by rw [hg]; exact (below_size (by repeat (first | (with_reducible first | exact HB.out | apply below_alloc | apply pw_below_drewN | apply below_drew1) | exact HB.out))) : w.heap.size ≤ gb191)); have n3_ := Aside0.mk ((by rw [hg]; exact (below_size (by repeat (first | (with_reducible first | exact HB.out | apply below_alloc | apply pw_below_drewN | apply below_drew1) | exact HB.out))) : w.heap.size ≤ gb191)); clear HB; have HB := n0_; have BK191 := n1_; have GW191 := n2_; have GE191 := n3_; clear n0_ n1_ n2_ n3_; clear hb hbox hg; have hcz5_0 : w4.cell? ⟨gb191, 0, none⟩ = some (.int .i64 a0_0) := (blk_cell BK191.out 0).trans rfl; have hcz5_1 : w4.cell? ⟨gb191, 1, none⟩ = some (.int .i64 a0_1) := (blk_cell BK191.out 1).trans rfl; have hcz5_2 : w4.cell? ⟨gb191, 2, none⟩ = some (.int .i64 a0_2) := (blk_cell BK191.out 2).trans rfl; have hcz5_3 : w4.cell? ⟨gb191, 3, none⟩ = some (.string a0_3) := (blk_cell BK191.out 3).trans rfl; have hcz5_4 : w4.cell? ⟨gb191, 4, none⟩ = some (.string a0_4) := (blk_cell BK191.out 4).trans rfl; have hcz5_5 : w4.cell? ⟨gb191, 5, none⟩ = some (.slice A0_5 l0_5.length c0_5) := (blk_cell BK191.out 5).trans rfl; have hcz5_6 : w4.cell? ⟨gb191, 6, none⟩ = some (.slice A0_6 l0_6.length c0_6) := (blk_cell BK191.out 6).trans rfl; have hfz5_0 := blk_frozen BK191.out 0; have hfz5_1 := blk_frozen BK191.out 1; have hfz5_2 := blk_frozen BK191.out 2; have hfz5_3 := blk_frozen BK191.out 3; have hfz5_4 := blk_frozen BK191.out 4; have hfz5_5 := blk_frozen BK191.out 5; have hfz5_6 := blk_frozen BK191.out 6) | (go_at_call 46; (with_reducible refine (dovecoteref11_Check.calls k a0_0 a0_1 a0_2 a0_3 a0_4 _ _ l0_5 _ _ l0_6 t192 _ ?side1 ?side2 ?side3 ?side4 A3.out).mono ?_); (case side1 => repeat (first | exact (Kd.C_below HR0_5.out HB.out) | (with_reducible refine Kd.C_alloc ?_ _) | (with_reducible refine Kd.C_drewN ?_ _) | (with_reducible refine Kd.C_drew ?_))); (case side2 => exact HC0_5.out); (case side3 => repeat (first | exact (Kd.C_below HR0_6.out HB.out) | (with_reducible refine Kd.C_alloc ?_ _) | (with_reducible refine Kd.C_drewN ?_ _) | (with_reducible refine Kd.C_drew ?_))); (case side4 => exact HC0_6.out); rintro e w6 ⟨rfl, hb⟩; have n0_ := Aside0.mk (blk_below (g := gb191) (o := .cells #[.int .i64 a0_0, .int .i64 a0_1, .int .i64 a0_2, .string a0_3, .string a0_4, .slice A0_5 l0_5.length c0_5, .slice A0_6 l0_6.length c0_6] 25 (0, 0)) (by (with_reducible repeat (first | refine blk_drewN ?_ _ | refine blk_drew ?_ | refine blk_alloc ?_ _)); exact BK191.out) hb); have n1_ := Aside0.mk (below_step (by repeat (first | (with_reducible first | exact HB.out | apply below_alloc | apply pw_below_drewN | apply below_drew1 | refine below_set ?_ GE191.out) | exact HB.out)) hb); clear BK191; clear HB; have BK191 := n0_; have HB := n1_; clear n0_ n1_; (try clear hb); (try clear hb2); (try clear hk); (try clear hi)))
    go_ret
    exact ⟨by first | rfl | (simp [errW_none, errW_some] <;> rfl) | (simp [*, errW_none, errW_some] <;> rfl), by repeat (first | (with_reducible first | exact HB.out | apply below_alloc | apply pw_below_drewN | apply below_drew1 | refine below_set ?_ GE191.out) | exact HB.out)⟩
  · rw [if_neg c2] at H
    have c2b0 : (a0_0 == 2) = false := beq_eq_false_iff_ne.mpr c2
    have c2b1 : (a0_0 != 2) = true := bne_iff_ne.mpr c2
    by_cases c7 : a0_0 = 4
    · rw [if_pos c7] at H
      have c7b0 : (a0_0 == 4) = true := beq_iff_eq.mpr c7
      have c7b1 : (a0_0 != 4) = false := bne_eq_false_iff_eq.mpr c7
      clear c7
      replace H := Option.bind_eq_some_iff.mp H
      obtain ⟨t193, A80, H⟩ := H
      replace H : (some (t193 == 0)) = some r := H
      have A8 := Aside0.mk A80
      clear A80
      obtain rfl := Option.some.inj H
      go_enter Tryd.func29, Tryd.ntmps29
      go_wp2_with (first | ((with_reducible refine gate_dst (N := 1) rfl ?_); refine box_event ?hg (N := 1) ?hd (cs := #[.int .i64 a0_0, .int .i64 a0_1, .int .i64 a0_2, .string a0_3, .string a0_4, .slice A0_5 l0_5.length c0_5, .slice A0_6 l0_6.length c0_6]) (t := 25) ?hr ?_; (case hd => rfl); (case hg => rfl); (case hr => first | (go_simp; done) | (go_simp; rfl)); intro gb191 hg w9 hbox hb; have n0_ := Aside0.mk (below_step (by repeat (first | (with_reducible first | exact HB.out | apply below_alloc | apply pw_below_drewN | apply below_drew1) | exact HB.out)) hb); have n1_ := Aside0.mk (hbox); have n2_ := Aside0.mk ((by rw [hg]; exact (below_size (by repeat (first | (with_reducible first | exact HB.out | apply below_alloc | apply pw_below_drewN | apply below_drew1) | exact HB.out))) : w.heap.size ≤ gb191)); have n3_ := Aside0.mk ((by rw [hg]; exact (below_size (by repeat (first | (with_reducible first | exact HB.out | apply below_alloc | apply pw_below_drewN | apply below_drew1) | exact HB.out))) : w.heap.size ≤ gb191)); clear HB; have HB := n0_; have BK191 := n1_; have GW191 := n2_; have GE191 := n3_; clear n0_ n1_ n2_ n3_; clear hb hbox hg; have hcz10_0 : w9.cell? ⟨gb191, 0, none⟩ = some (.int .i64 a0_0) := (blk_cell BK191.out 0).trans rfl; have hcz10_1 : w9.cell? ⟨gb191, 1, none⟩ = some (.int .i64 a0_1) := (blk_cell BK191.out 1).trans rfl; have hcz10_2 : w9.cell? ⟨gb191, 2, none⟩ = some (.int .i64 a0_2) := (blk_cell BK191.out 2).trans rfl; have hcz10_3 : w9.cell? ⟨gb191, 3, none⟩ = some (.string a0_3) := (blk_cell BK191.out 3).trans rfl; have hcz10_4 : w9.cell? ⟨gb191, 4, none⟩ = some (.string a0_4) := (blk_cell BK191.out 4).trans rfl; have hcz10_5 : w9.cell? ⟨gb191, 5, none⟩ = some (.slice A0_5 l0_5.length c0_5) := (blk_cell BK191.out 5).trans rfl; have hcz10_6 : w9.cell? ⟨gb191, 6, none⟩ = some (.slice A0_6 l0_6.length c0_6) := (blk_cell BK191.out 6).trans rfl; have hfz10_0 := blk_frozen BK191.out 0; have hfz10_1 := blk_frozen BK191.out 1; have hfz10_2 := blk_frozen BK191.out 2; have hfz10_3 := blk_frozen BK191.out 3; have hfz10_4 := blk_frozen BK191.out 4; have hfz10_5 := blk_frozen BK191.out 5; have hfz10_6 := blk_frozen BK191.out 6) | (go_at_call 46; (with_reducible refine (dovecoteref11_Check.calls k a0_0 a0_1 a0_2 a0_3 a0_4 _ _ l0_5 _ _ l0_6 t193 _ ?side1 ?side2 ?side3 ?side4 A8.out).mono ?_); (case side1 => repeat (first | exact (Kd.C_below HR0_5.out HB.out) | (with_reducible refine Kd.C_alloc ?_ _) | (with_reducible refine Kd.C_drewN ?_ _) | (with_reducible refine Kd.C_drew ?_))); (case side2 => exact HC0_5.out); (case side3 => repeat (first | exact (Kd.C_below HR0_6.out HB.out) | (with_reducible refine Kd.C_alloc ?_ _) | (with_reducible refine Kd.C_drewN ?_ _) | (with_reducible refine Kd.C_drew ?_))); (case side4 => exact HC0_6.out); rintro e w11 ⟨rfl, hb⟩; have n0_ := Aside0.mk (blk_below (g := gb191) (o := .cells #[.int .i64 a0_0, .int .i64 a0_1, .int .i64 a0_2, .string a0_3, .string a0_4, .slice A0_5 l0_5.length c0_5, .slice A0_6 l0_6.length c0_6] 25 (0, 0)) (by (with_reducible repeat (first | refine blk_drewN ?_ _ | refine blk_drew ?_ | refine blk_alloc ?_ _)); exact BK191.out) hb); have n1_ := Aside0.mk (below_step (by repeat (first | (with_reducible first | exact HB.out | apply below_alloc | apply pw_below_drewN | apply below_drew1 | refine below_set ?_ GE191.out) | exact HB.out)) hb); clear BK191; clear HB; have BK191 := n0_; have HB := n1_; clear n0_ n1_; (try clear hb); (try clear hb2); (try clear hk); (try clear hi)))
      go_ret
      exact ⟨by first | rfl | (simp [errW_none, errW_some] <;> rfl) | (simp [*, errW_none, errW_some] <;> rfl), by repeat (first | (with_reducible first | exact HB.out | apply below_alloc | apply pw_below_drewN | apply below_drew1 | refine below_set ?_ GE191.out) | exact HB.out)⟩
    · rw [if_neg c7] at H
      have c7b0 : (a0_0 == 4) = false := beq_eq_false_iff_ne.mpr c7
      have c7b1 : (a0_0 != 4) = true := bne_iff_ne.mpr c7
      obtain rfl := Option.some.inj H
      go_enter Tryd.func29, Tryd.ntmps29
      go_wp2_with (first | ((with_reducible refine gate_dst (N := 1) rfl ?_); refine box_event ?hg (N := 1) ?hd (cs := #[.int .i64 a0_0, .int .i64 a0_1, .int .i64 a0_2, .string a0_3, .string a0_4, .slice A0_5 l0_5.length c0_5, .slice A0_6 l0_6.length c0_6]) (t := 25) ?hr ?_; (case hd => rfl); (case hg => rfl); (case hr => first | (go_simp; done) | (go_simp; rfl)); intro gb191 hg w12 hbox hb; have n0_ := Aside0.mk (below_step (by repeat (first | (with_reducible first | exact HB.out | apply below_alloc | apply pw_below_drewN | apply below_drew1) | exact HB.out)) hb); have n1_ := Aside0.mk (hbox); have n2_ := Aside0.mk ((by rw [hg]; exact (below_size (by repeat (first | (with_reducible first | exact HB.out | apply below_alloc | apply pw_below_drewN | apply below_drew1) | exact HB.out))) : w.heap.size ≤ gb191)); have n3_ := Aside0.mk ((by rw [hg]; exact (below_size (by repeat (first | (with_reducible first | exact HB.out | apply below_alloc | apply pw_below_drewN | apply below_drew1) | exact HB.out))) : w.heap.size ≤ gb191)); clear HB; have HB := n0_; have BK191 := n1_; have GW191 := n2_; have GE191 := n3_; clear n0_ n1_ n2_ n3_; clear hb hbox hg; have hcz13_0 : w12.cell? ⟨gb191, 0, none⟩ = some (.int .i64 a0_0) := (blk_cell BK191.out 0).trans rfl; have hcz13_1 : w12.cell? ⟨gb191, 1, none⟩ = some (.int .i64 a0_1) := (blk_cell BK191.out 1).trans rfl; have hcz13_2 : w12.cell? ⟨gb191, 2, none⟩ = some (.int .i64 a0_2) := (blk_cell BK191.out 2).trans rfl; have hcz13_3 : w12.cell? ⟨gb191, 3, none⟩ = some (.string a0_3) := (blk_cell BK191.out 3).trans rfl; have hcz13_4 : w12.cell? ⟨gb191, 4, none⟩ = some (.string a0_4) := (blk_cell BK191.out 4).trans rfl; have hcz13_5 : w12.cell? ⟨gb191, 5, none⟩ = some (.slice A0_5 l0_5.length c0_5) := (blk_cell BK191.out 5).trans rfl; have hcz13_6 : w12.cell? ⟨gb191, 6, none⟩ = some (.slice A0_6 l0_6.length c0_6) := (blk_cell BK191.out 6).trans rfl; have hfz13_0 := blk_frozen BK191.out 0; have hfz13_1 := blk_frozen BK191.out 1; have hfz13_2 := blk_frozen BK191.out 2; have hfz13_3 := blk_frozen BK191.out 3; have hfz13_4 := blk_frozen BK191.out 4; have hfz13_5 := blk_frozen BK191.out 5; have hfz13_6 := blk_frozen BK191.out 6))
      go_ret
      exact ⟨by first | rfl | (simp [errW_none, errW_some] <;> rfl) | (simp [*, errW_none, errW_some] <;> rfl), by repeat (first | (with_reducible first | exact HB.out | apply below_alloc | apply pw_below_drewN | apply below_drew1 | refine below_set ?_ GE191.out) | exact HB.out)⟩

/-! ### dovecoteref20_blank: function 30 -/
-- NOT PRINTED: function 27 (slices_Clone_string_string)

-- NOT PRINTED: function 28 (api_Slot)

end Go.Proofs.YtjmgkjjcdnaapaaDoor.PMailA
namespace Go.Proofs.YtjmgkjjcdnaapaaDoor
open Go.RowKit Go.Proofs.YtjmgkjjcdnaapaaDoor.PMailA Go.Proofs.YtjmgkjjcdnaapaaDoorW.PrintWords Go.Proofs.YtjmgkjjcdnaapaaDoorW.PrintLast Go.Proofs.YtjmgkjjcdnaapaaDoorW.PrintMore
set_option linter.unusedSimpArgs false
set_option linter.unusedVariables false
set_option maxRecDepth 20000
def ad5.T : Bool × List (List Nat × List Nat) := (true, [([], []), ([0], [0]), ([1], [1]), ([2], [2]), ([3, 2], [2, 3]), ([4, 2], [2, 4]), ([5, 2], [2, 5]), ([6, 2], [2, 6]), ([2], [2]), ([8, 2], [2, 8]), ([7, 9, 2, 2], [2, 7, 9]), ([2], [2]), ([11, 2], [2, 11]), ([10, 12, 10, 2], [2, 10, 12]), ([13, 2], [2, 13]), ([2, 14], [2, 14]), ([15, 13], [15])])
def ad5.B : List Nat := [0, 1, 3, 7, 15, 31, 63, 127, 7, 263, 1023, 7, 2055, 8191, 16383, 32767, 65535]
theorem ad5.tab : rtab .any (opsOf Tryd.f17 5) = ad5.T := by kernel_rfl
theorem ad5.bits : waitsOk ad5.T.2 ad5.B = true := by kernel_rfl
def gateL : List UInt8 := [103, 97, 116, 101]
/-- what Admit answers. -/
def admE (l : List Sg) (s : List UInt8) (e : Int) (tag : List UInt8) (q : Int) : Option Nat → Int
  | none => if e ≠ 0 ∨ tag.length ≠ 32 then 110 else 200
  | some j => if e ≠ 0 ∨ tag.length ≠ 32 then 110 else if tagL (l.getD j ⟨0, [], 0⟩).k (gateL ++ s) ≠ tag then 200 else if q ≤ (l.getD j ⟨0, [], 0⟩).q then 170 else 0
structure MsA (w : World) (A5 : Option Addr) (c5 : Nat) (l5 : List S68) (A6 : Option Addr) (c6 : Nat) (l6 : List ByteArray) : Prop where
  s5 : Kd.C k68 w A5 l5.length l5
  h5 : l5.length ≤ c5
  s6 : Kd.C Kd.string w A6 l6.length l6
  h6 : l6.length ≤ c6
theorem MsA.below {w w' : World} {A5 : Option Addr} {c5 : Nat} {l5 : List S68} {A6 : Option Addr} {c6 : Nat} {l6 : List ByteArray} (h : MsA w A5 c5 l5 A6 c6 l6) (hb : Below w.heap.size w w') : MsA w' A5 c5 l5 A6 c6 l6 :=
  ⟨Kd.C_below h.s5 hb, h.h5, Kd.C_below h.s6 hb, h.h6⟩
structure AdH (w0 w : World) (B g : Nat) (v : Value) (gs : List Nat) (l : List Sg) (b : Nat) (cs : Array Value) : Prop where
  b0 : Below w0.heap.size w0 w
  h : GtA B w g v gs l
  m : Blk w b 25 cs
theorem AdH.below {w0 w w' : World} {B g : Nat} {v : Value} {gs : List Nat} {l : List Sg} {b : Nat} {cs : Array Value} (h : AdH w0 w B g v gs l b cs) (hb : Below w.heap.size w w') : AdH w0 w' B g v gs l b cs :=
  ⟨h.b0.trans (hb.mono h.b0.size), h.h.below hb, h.m.below hb h.m.lt⟩
def AdOut (w0 : World) (gs : List Nat) (q r : Int) (o : Option Nat) (e : Ending) (w' : World) : Prop :=
  e = .returned (.int .i64 r) ∧ ∃ w1, Below w0.heap.size w0 w1 ∧ w' = if r = 0 then w1.setCell ⟨gs.getD (o.getD 0) 0, 2, none⟩ (.int .i64 q) else w1
theorem AdOut.no {w0 w' : World} {gs : List Nat} {q r : Int} {o : Option Nat} (h : r ≠ 0) (hb : Below w0.heap.size w0 w') : AdOut w0 gs q r o (.returned (.int .i64 r)) w' := ⟨rfl, w', hb, (if_neg h).symm⟩
theorem AdOut.yes {w0 w1 : World} {gs : List Nat} {q : Int} {j x : Nat} (hb : Below w0.heap.size w0 w1) (hx : gs.getD j 0 = x) : AdOut w0 gs q 0 (some j) (.returned (.int .i64 0)) (w1.setCell ⟨x, 2, none⟩ (.int .i64 q)) := ⟨rfl, w1, hb, by rw [if_pos rfl]; subst hx; rfl⟩
set_option maxHeartbeats 3200000 in
theorem admit_any (kE g B : Nat) (v : Value) (gs : List Nat) (l : List Sg) (kd u q : Int) (text : ByteArray) (tag : List UInt8) (A5 : Option Addr) (c5 : Nat) (l5 : List S68) (A6 : Option Addr) (c6 : Nat) (l6 : List ByteArray) (s : List UInt8) (e0 : Int) (w : World)
    (h : GtA B w g v gs l) (hm : MsA w A5 c5 l5 A6 c6 l6) (hp : gate_plain.f kE kd u q text ⟨tag.toArray⟩ l5 l6 = some (⟨s.toArray⟩, e0)) (o : Option Nat) (ho : fN l u = o)
    (hk : KsAt w) (hks : 0 < w.heap.size) (hkl : ∀ x ∈ l, x.k.length ≤ 1000000) (hsl : s.length ≤ 1000000) (htl : tag.length ≤ 140737488355328) :
    Calls Tryd.prog 17 #[.pointer (some ⟨g, 0, none⟩), .agg #[.int .i64 kd, .int .i64 u, .int .i64 q, .string text, .string ⟨tag.toArray⟩, .slice A5 l5.length c5, .slice A6 l6.length c6]] w fun e w' => AdOut w gs q (admE l s e0 tag q o) o e w' := by
  have H := Lib.hid h
  have HM := Lib.hid hm
  have HP := Lib.hid hp
  have HO := Lib.hid ho
  have HK := Lib.hid hk
  have HKS := Lib.hid hks
  have HKL := Lib.hid hkl
  have HSL := Lib.hid hsl
  have HTL := Lib.hid htl
  have nbw : ∀ (W : World) n, Below W.heap.size W (W.drewN n) := fun W n => Go.Proofs.YtjmgkjjcdnaapaaDoor.below_drewN (Below.refl _ _) n
  obtain ⟨tb, TB⟩ : ∃ t : ByteArray, Hid (⟨tag.toArray⟩ = t) := ⟨_, Lib.hid rfl⟩
  have htb : (tb.size : Int) = (tag.length : Int) := by rw [← TB.out]; simp [ByteArray.size]
  rw [TB.out] at hp ⊢
  have HP := Lib.hid hp
  clear h hm hp ho hk hks hkl hsl htl
  go_enter Tryd.func17, Tryd.ntmps17
  go_upto_region 1 with fail
  refine gworld (fun W => Hid (Blk W w.heap.size 25 #[.int .i64 kd, .int .i64 u, .int .i64 q, .string text, .string tb, .slice A5 l5.length c5, .slice A6 l6.length c6]) ∧ Hid (Below w.heap.size w W)) ⟨Lib.hid (Blk.new w _ _), Lib.hid ((Below.refl _ _).alloc (Nat.le_refl _) _)⟩ ?_
  rintro w1 ⟨HB1, HW1⟩
  obtain ⟨b, hb⟩ : ∃ b, Hid (w.heap.size = b) := ⟨_, Lib.hid rfl⟩
  have D1 := Lib.hid (AdH.mk (w0 := w) HW1.out (H.out.below HW1.out) HB1.out)
  have M1 := Lib.hid (HM.out.below HW1.out)
  rw [hb.out]
  have D1 := Lib.hid (show AdH w w1 B g v gs l b #[.int .i64 kd, .int .i64 u, .int .i64 q, .string text, .string tb, .slice A5 l5.length c5, .slice A6 l6.length c6] by rw [← hb.out]; exact D1.out)
  clear HB1 HW1 hb H HM
  have m0 : w1.cell? ⟨b, 0, none⟩ = some (.int .i64 kd) := D1.out.m.cell 0
  have m1 : w1.cell? ⟨b, 1, none⟩ = some (.int .i64 u) := D1.out.m.cell 1
  have m2 : w1.cell? ⟨b, 2, none⟩ = some (.int .i64 q) := D1.out.m.cell 2
  have m3 : w1.cell? ⟨b, 3, none⟩ = some (.string text) := D1.out.m.cell 3
  have m4 : w1.cell? ⟨b, 4, none⟩ = some (.string tb) := D1.out.m.cell 4
  have m5 : w1.cell? ⟨b, 5, none⟩ = some (.slice A5 l5.length c5) := D1.out.m.cell 5
  have m6 : w1.cell? ⟨b, 6, none⟩ = some (.slice A6 l6.length c6) := D1.out.m.cell 6
  go_wp2_with fail
  refine (gate_plain.calls kE kd u q text tb A5 c5 l5 A6 c6 l6 _ e0 _ M1.out.s5 M1.out.h5 M1.out.s6 M1.out.h6 HP.out).mono ?_
  rintro e w2 ⟨rfl, b2⟩
  have D2 := Lib.hid (D1.out.below b2)
  clear m0 m1 m2 m3 m4 m5 m6 b2 D1 M1
  have m4 : w2.cell? ⟨b, 4, none⟩ = some (.string tb) := D2.out.m.cell 4
  have m1 : w2.cell? ⟨b, 1, none⟩ = some (.int .i64 u) := D2.out.m.cell 1
  by_cases hbad : e0 ≠ 0 ∨ tag.length ≠ 32
  · have HA := Lib.hid (show admE l s e0 tag q o = 110 by cases o <;> exact if_pos hbad)
    rcases Classical.em (e0 = 0) with he | he
    · have ht : ((tb.size : Int) != 32) = true := bne_iff_ne.mpr (by rw [htb]; rcases hbad with h | h <;> omega)
      subst he
      clear hbad htb
      go_wp2_with fail
      go_ret
      rw [HA.out]
      exact AdOut.no (by decide) D2.out.b0
    · have ht : (e0 != 0) = true := bne_iff_ne.mpr he
      clear hbad htb he
      go_wp2_with fail
      go_ret
      rw [HA.out]
      exact AdOut.no (by decide) D2.out.b0
  · have he : (e0 != 0) = false := bne_eq_false_iff_eq.mpr (by omega)
    have ht : ((tb.size : Int) != 32) = false := bne_eq_false_iff_eq.mpr (by rw [htb]; omega)
    have HBAD := Lib.hid hbad
    clear hbad htb
    go_wp2_with fail
    refine (find_any g B v gs l u w2 D2.out.h o HO.out).mono ?_
    rintro e w3 ⟨rfl, b3⟩
    have D3 := Lib.hid (D2.out.below b3)
    clear m1 m4 b3
    cases o with
    | none =>
      have HA := Lib.hid (show admE l s e0 tag q none = 200 from if_neg HBAD.out)
      have e1 : fndV gs none = .pointer none := rfl
      rw [e1]
      go_wp2_with fail
      go_quiet (fail)
      go_wp2_with fail
      go_ret
      rw [HA.out]
      exact AdOut.no (by decide) (D3.out.b0.trans ((nbw _ _).mono D3.out.b0.size))
    | some j =>
      obtain ⟨hj, hju⟩ := fN_some HO.out
      obtain ⟨A', c', b', x, e', e'', hx, hc, hBx, hsx⟩ := D3.out.h.at_ j hj
      have HX := Lib.hid (show gs.getD j 0 = x by rw [List.getD_eq_getElem?_getD, hx]; rfl)
      have HJ := Lib.hid (show l.getD j ⟨0, [], 0⟩ = l[j] by rw [List.getD_eq_getElem?_getD, List.getElem?_eq_getElem hj]; rfl)
      have e1 : fndV gs (some j) = .pointer (some ⟨x, 0, none⟩) := by show Value.pointer (some ⟨gs.getD j 0, 0, none⟩) = _; rw [HX.out]
      rw [e1]
      obtain ⟨k, K⟩ : ∃ k, Hid (l[j].k = k) := ⟨_, Lib.hid rfl⟩
      obtain ⟨L, HL⟩ : ∃ L, Hid (l[j].q = L) := ⟨_, Lib.hid rfl⟩
      obtain ⟨ju, HU⟩ : ∃ L, Hid (l[j].u = L) := ⟨_, Lib.hid rfl⟩
      have BX := Lib.hid (show Blk w3 x 80 #[.int .i64 ju, .string ⟨k.toArray⟩, .int .i64 L] by rw [← K.out, ← HL.out, ← HU.out]; exact hsx)
      have hkx := Lib.hid (show k.length ≤ 1000000 by rw [← K.out]; exact HKL.out _ (List.getElem_mem hj))
      obtain ⟨T, HT⟩ : ∃ T, Hid (tagL k ([[103, 97, 116, 101], s] : List (List UInt8)).flatten = T) := ⟨_, Lib.hid rfl⟩
      have HTL2 := Lib.hid (show T.length ≤ 140737488355328 by rw [← HT.out, tagL_length]; decide)
      have HTAG := Lib.hid (show ∀ (W : World) (A : Option Addr), Strs W A 2 [[103, 97, 116, 101], s] → KsAt W → 0 < W.heap.size → Calls Tryd.prog 25 #[.string ⟨k.toArray⟩, .slice A 2 2] W fun e w' => e = .returned (.string ⟨T.toArray⟩) ∧ Below W.heap.size W w' from fun W A hS hk hg => by
        have := tag_any k A 2 2 [[103, 97, 116, 101], s] W hS (by have := hkx.out; omega) (by
          intro y hy
          have hs := HSL.out
          rcases List.mem_cons.1 hy with h | h
          · rw [h]; decide
          · rw [List.mem_singleton.1 h]; omega) (by decide) hk hg
        rw [HT.out] at this
        exact this)
      obtain ⟨sm, SM⟩ : ∃ b : Bool, Hid ((T == tag) = b) := ⟨_, Lib.hid rfl⟩
      have HSAME := Lib.hid (show ∀ W : World, Calls Tryd.prog 37 #[.string ⟨T.toArray⟩, .string tb] W fun e w' => e = .returned (.bool sm) ∧ Below W.heap.size W w' from fun W => by
        have := same_any T tag W HTL2.out HTL.out
        rw [SM.out, TB.out] at this
        exact this)
      have HA := Lib.hid (show admE l s e0 tag q (some j) = if sm = false then 200 else if q ≤ L then 170 else 0 by
        show (if e0 ≠ 0 ∨ tag.length ≠ 32 then (110 : Int) else if tagL (l.getD j ⟨0, [], 0⟩).k (gateL ++ s) ≠ tag then 200 else if q ≤ (l.getD j ⟨0, [], 0⟩).q then 170 else 0) = _
        rw [if_neg HBAD.out, HJ.out, K.out, HL.out]
        have : tagL k (gateL ++ s) = T := by rw [← HT.out]; simp [gateL]
        rw [this, ← SM.out]
        by_cases h : T = tag
        · rw [if_neg (show ¬ (T ≠ tag) from fun hn => hn h), show (T == tag) = true from beq_iff_eq.mpr h, if_neg (show ¬ (true = false) by decide)]
        · rw [if_pos h, show (T == tag) = false from beq_eq_false_iff_ne.mpr h, if_pos rfl])
      clear hx hc hBx hsx e' e'' HJ K HL HU hju hj
      have BD := Lib.hid (show ∀ o, Below w3.heap.size w3 (w3.drew.alloc o) from fun o => (show Below w3.heap.size w3 w3.drew from nbw w3 1).alloc (Nat.le_refl _) o)
      have BX1 := Lib.hid BX.out.drew
      have BM1 := Lib.hid D3.out.m.drew
      have HKW := Lib.hid (HK.out.below HKS.out D3.out.b0)
      have HKSW := Lib.hid (Nat.lt_of_lt_of_le HKS.out D3.out.b0.size)
      have kx : w3.drew.cell? ⟨x, 1, none⟩ = some (.string ⟨k.toArray⟩) := BX1.out.cell 1
      have mb : w3.drew.cell? ⟨b, 4, none⟩ = some (.string tb) := BM1.out.cell 4
      go_upto_region 5 with fail
      refine start_ (n := 17) (S := fun w' => w'.cell? ⟨x, 1, none⟩ = some (.string ⟨k.toArray⟩) ∧ w'.cell? ⟨b, 4, none⟩ = some (.string tb)) (ds := []) #[false, false, false, false, false, false, false, false, false, false, false, false, false, false, false, false, false] (by kernel_rfl) rfl rfl ⟨kx, mb⟩ (fun hHeld => ?_)
      refine with_tabW ad5.tab ad5.bits (fun HT_ HW_ => ?_)
      refine pure_ (i := 0) (N := some 26) (v := ?_) (a' := ?_) #[true, false, false, false, false, false, false, false, false, false, false, false, false, false, false, false, false] rfl rfl (any_of HT_.out (by kernel_rfl)) (fun _ _ _ h => h) (Or.inl ⟨by rfl, ?_⟩) ?_ ?_
      rotate_left
      · intro w'
        go_simp
        try with_reducible rfl
      rotate_left
      · simp only [Act.put, List.setIfInBounds_toArray, List.set_cons_zero, List.set_cons_succ]
        rfl
      refine pure_ (i := 1) (N := some 27) (v := ?_) (a' := ?_) #[true, true, false, false, false, false, false, false, false, false, false, false, false, false, false, false, false] rfl rfl (any_of HT_.out (by kernel_rfl)) (fun _ _ _ h => h) (Or.inl ⟨by rfl, ?_⟩) ?_ ?_
      rotate_left
      · intro w'
        go_simp
        try with_reducible rfl
      rotate_left
      · simp only [Act.put, List.setIfInBounds_toArray, List.set_cons_zero, List.set_cons_succ]
        rfl
      refine pure_ (i := 2) (N := some 28) (v := ?_) (a' := ?_) #[true, true, true, false, false, false, false, false, false, false, false, false, false, false, false, false, false] rfl rfl (any_of HT_.out (by kernel_rfl)) (fun _ _ _ h => h) (Or.inl ⟨by rfl, ?_⟩) ?_ ?_
      rotate_left
      · intro w'
        go_simp
        try with_reducible rfl
      rotate_left
      · simp only [Act.put, List.setIfInBounds_toArray, List.set_cons_zero, List.set_cons_succ]
        rfl
      refine pure_ (i := 3) (N := some 29) (v := ?_) (a' := ?_) #[true, true, true, true, false, false, false, false, false, false, false, false, false, false, false, false, false] rfl rfl (any_of HT_.out (by kernel_rfl)) (fun _ _ _ h => h) (Or.inl ⟨by rfl, ?_⟩) ?_ ?_
      rotate_left
      · intro w'
        go_simp
        try with_reducible rfl
      rotate_left
      · simp only [Act.put, List.setIfInBounds_toArray, List.set_cons_zero, List.set_cons_succ]
        rfl
      refine pure_ (i := 4) (N := some 30) (v := ?_) (a' := ?_) #[true, true, true, true, true, false, false, false, false, false, false, false, false, false, false, false, false] rfl rfl (any_of HT_.out (by kernel_rfl)) (fun _ _ _ h => h) (Or.inl ⟨by rfl, ?_⟩) ?_ ?_
      rotate_left
      · intro w'
        go_simp
        try with_reducible rfl
      rotate_left
      · simp only [Act.put, List.setIfInBounds_toArray, List.set_cons_zero, List.set_cons_succ]
        rfl
      refine pure_ (i := 5) (N := some 31) (v := ?_) (a' := ?_) #[true, true, true, true, true, true, false, false, false, false, false, false, false, false, false, false, false] rfl rfl (any_of HT_.out (by kernel_rfl)) (fun _ _ _ h => h) (Or.inl ⟨by rfl, ?_⟩) ?_ ?_
      rotate_left
      · intro w'
        go_simp
        try with_reducible rfl
      rotate_left
      · simp only [Act.put, List.setIfInBounds_toArray, List.set_cons_zero, List.set_cons_succ]
        rfl
      refine pure_ (i := 6) (N := some 32) (v := ?_) (a' := ?_) #[true, true, true, true, true, true, true, false, false, false, false, false, false, false, false, false, false] rfl rfl (any_of HT_.out (by kernel_rfl)) (fun _ _ _ h => h) (Or.inl ⟨by rfl, ?_⟩) ?_ ?_
      rotate_left
      · intro w'
        go_simp
        try with_reducible rfl
      rotate_left
      · simp only [Act.put, List.setIfInBounds_toArray, List.set_cons_zero, List.set_cons_succ]
        rfl
      refine pure_ (i := 8) (N := some 34) (v := ?_) (a' := ?_) #[true, true, true, true, true, true, true, false, true, false, false, false, false, false, false, false, false] rfl rfl (any_of HT_.out (by kernel_rfl)) (fun _ _ _ h => h) (Or.inl ⟨by rfl, ?_⟩) ?_ ?_
      rotate_left
      · intro w'
        go_simp
        try with_reducible rfl
      rotate_left
      · simp only [Act.put, List.setIfInBounds_toArray, List.set_cons_zero, List.set_cons_succ]
        rfl
      refine pure_ (i := 11) (N := some 37) (v := ?_) (a' := ?_) #[true, true, true, true, true, true, true, false, true, false, false, true, false, false, false, false, false] rfl rfl (any_of HT_.out (by kernel_rfl)) (fun _ _ _ h => h) (Or.inl ⟨by rfl, ?_⟩) ?_ ?_
      rotate_left
      · intro w'
        go_simp
        try with_reducible rfl
      rotate_left
      · simp only [Act.put, List.setIfInBounds_toArray, List.set_cons_zero, List.set_cons_succ]
        rfl
      refine take_ (i := 7) (N := some 33) (v := ?_) (a' := ?_) #[true, true, true, true, true, true, true, true, true, false, false, true, false, false, false, false, false] rfl rfl (take_ofW HT_.out HW_.out (by kernel_rfl)) (fun _ _ _ h => h) (Or.inl ⟨by rfl, ?_⟩) hHeld ?_ ?_
      rotate_left
      · rintro w' ⟨s0, s1⟩
        go_simp
        try with_reducible rfl
      rotate_left
      · simp only [Act.put, List.setIfInBounds_toArray, List.set_cons_zero, List.set_cons_succ]
        rfl
      refine take_ (i := 12) (N := some 38) (v := ?_) (a' := ?_) #[true, true, true, true, true, true, true, true, true, false, false, true, true, false, false, false, false] rfl rfl (take_ofW HT_.out HW_.out (by kernel_rfl)) (fun _ _ _ h => h) (Or.inl ⟨by rfl, ?_⟩) hHeld ?_ ?_
      rotate_left
      · rintro w' ⟨s0, s1⟩
        go_simp
        try with_reducible rfl
      rotate_left
      · simp only [Act.put, List.setIfInBounds_toArray, List.set_cons_zero, List.set_cons_succ]
        rfl
      refine one_ (i := 9) (N := some 35) #[true, true, true, true, true, true, true, true, true, true, false, true, true, false, false, false, false] rfl rfl (one_of HT_.out (by kernel_rfl)) (by decide) (fun K hK => ?_)
      refine value_ (w1 := ?_) (v := ?_) (by rfl) rfl ?_ ?_
      rotate_left 2
      · go_simp
        constructor
        · rfl
        · rfl
      refine hK.out _ _ ⟨(BX1.out.alloc _).cell 1, (BM1.out.alloc _).cell 4⟩ (fun hHeld => ?_)
      clear hK K
      refine norm_ (a' := ?_) ?_ ?_
      rotate_left
      · show Act.put _ (some 35) _ = _
        simp only [Act.put, List.setIfInBounds_toArray, List.set_cons_zero, List.set_cons_succ]
        rfl
      refine one_ (i := 10) (N := some 36) #[true, true, true, true, true, true, true, true, true, true, true, true, true, false, false, false, false] rfl rfl (one_of HT_.out (by kernel_rfl)) (by decide) (fun K hK => ?_)
      refine goes_ Tryd.func25 (by kernel_rfl) rfl #[.string ⟨k.toArray⟩, .slice (some ⟨w3.drew.heap.size, 0, none⟩) 2 2] (by rfl) rfl rfl (by first | done | rfl | (simp only [List.map_toArray, List.map_cons, List.map_nil]; done) | (simp only [List.map_toArray, List.map_cons, List.map_nil]; rfl)) ?_
      refine (HTAG.out _ _ (strs_two w3.drew 9 [103, 97, 116, 101] s) (HKW.out.below HKSW.out (BD.out _)) (Nat.lt_of_lt_of_le HKSW.out (BD.out _).size)).mono ?_
      rintro e' w4 ⟨rfl, b4⟩
      refine ⟨_, rfl, ?_⟩
      refine hK.out _ _ ⟨((BX1.out.alloc _).below b4 (BX1.out.alloc _).lt).cell 1, ((BM1.out.alloc _).below b4 (BM1.out.alloc _).lt).cell 4⟩ (fun hHeld => ?_)
      clear hK K
      refine norm_ (a' := ?_) ?_ ?_
      rotate_left
      · show Act.put _ (some 36) _ = _
        simp only [Act.put, List.setIfInBounds_toArray, List.set_cons_zero, List.set_cons_succ]
        rfl
      refine one_ (i := 13) (N := some 39) #[true, true, true, true, true, true, true, true, true, true, true, true, true, true, false, false, false] rfl rfl (one_of HT_.out (by kernel_rfl)) (by decide) (fun K hK => ?_)
      refine goes_ Tryd.func37 (by kernel_rfl) rfl #[.string ⟨T.toArray⟩, .string tb] (by rfl) rfl rfl (by first | done | rfl | (simp only [List.map_toArray, List.map_cons, List.map_nil]; done) | (simp only [List.map_toArray, List.map_cons, List.map_nil]; rfl)) ?_
      refine (HSAME.out _).mono ?_
      rintro e' w5 ⟨rfl, b5⟩
      refine ⟨_, rfl, ?_⟩
      refine hK.out _ _ ⟨(((BX1.out.alloc _).below b4 (BX1.out.alloc _).lt).below b5 ((BX1.out.alloc _).below b4 (BX1.out.alloc _).lt).lt).cell 1, (((BM1.out.alloc _).below b4 (BM1.out.alloc _).lt).below b5 ((BM1.out.alloc _).below b4 (BM1.out.alloc _).lt).lt).cell 4⟩ (fun hHeld => ?_)
      clear hK K
      refine norm_ (a' := ?_) ?_ ?_
      rotate_left
      · show Act.put _ (some 39) _ = _
        simp only [Act.put, List.setIfInBounds_toArray, List.set_cons_zero, List.set_cons_succ]
        rfl
      refine pure_ (i := 14) (N := some 40) (v := ?_) (a' := ?_) #[true, true, true, true, true, true, true, true, true, true, true, true, true, true, true, false, false] rfl rfl (any_of HT_.out (by kernel_rfl)) (fun _ _ _ h => h) (Or.inl ⟨by rfl, ?_⟩) ?_ ?_
      rotate_left
      · intro w'
        go_simp
        try with_reducible rfl
      rotate_left
      · simp only [Act.put, List.setIfInBounds_toArray, List.set_cons_zero, List.set_cons_succ]
        rfl
      refine pure_ (i := 15) (N := some 41) (v := ?_) (a' := ?_) #[true, true, true, true, true, true, true, true, true, true, true, true, true, true, true, true, false] rfl rfl (any_of HT_.out (by kernel_rfl)) (fun _ _ _ h => h) (Or.inl ⟨by rfl, ?_⟩) ?_ ?_
      rotate_left
      · intro w'
        go_simp
        try with_reducible rfl
      rotate_left
      · simp only [Act.put, List.setIfInBounds_toArray, List.set_cons_zero, List.set_cons_succ]
        rfl
      refine pure_ (i := 16) (N := some 25) (v := ?_) (a' := ?_) #[true, true, true, true, true, true, true, true, true, true, true, true, true, true, true, true, true] rfl rfl (any_of HT_.out (by kernel_rfl)) (fun _ _ _ h => h) (Or.inl ⟨by rfl, ?_⟩) ?_ ?_
      rotate_left
      · intro w'
        go_simp
        try with_reducible rfl
      rotate_left
      · simp only [Act.put, List.setIfInBounds_toArray, List.set_cons_zero, List.set_cons_succ]
        rfl
      refine done_ (done_of HT_.out (by kernel_rfl)) ?_
      clear HT_ HW_
      have D5 := Lib.hid (((D3.out.below (BD.out _)).below b4).below b5)
      have BX5 := Lib.hid (((BX1.out.alloc _).below b4 (BX1.out.alloc _).lt).below b5 ((BX1.out.alloc _).below b4 (BX1.out.alloc _).lt).lt)
      have HXX := Lib.hid HX.out
      clear kx mb b4 b5 BD BX1 BM1 BX D3 HKW HKSW HX
      have k2 : w5.cell? ⟨x, 2, none⟩ = some (.int .i64 L) := BX5.out.cell 2
      have m2 : w5.cell? ⟨b, 2, none⟩ = some (.int .i64 q) := D5.out.m.cell 2
      cases sm with
      | false =>
        have HA2 := Lib.hid (show admE l s e0 tag q (some j) = 200 by rw [HA.out, if_pos rfl])
        simp only [Bool.not_false]
        go_wp2_with fail
        go_ret
        rw [HA2.out]
        exact AdOut.no (by decide) D5.out.b0
      | true =>
        simp only [Bool.not_true]
        by_cases hq : q ≤ L
        · have hq1 : decide (q ≤ L) = true := decide_eq_true hq
          have HA2 := Lib.hid (show admE l s e0 tag q (some j) = 170 by rw [HA.out, if_neg (by decide), if_pos hq])
          clear hq
          go_wp2_with fail
          go_quiet (fail)
          go_wp2_with fail
          go_ret
          rw [HA2.out]
          exact AdOut.no (by decide) (D5.out.b0.trans ((nbw _ _).mono D5.out.b0.size))
        · have hq1 : decide (q ≤ L) = false := decide_eq_false hq
          have HA2 := Lib.hid (show admE l s e0 tag q (some j) = 0 by rw [HA.out, if_neg (by decide), if_neg hq])
          clear hq
          go_wp2_with fail
          go_quiet (fail)
          have f2 := BX5.out.frozen 2
          go_wp2_with fail
          go_ret
          rw [HA2.out]
          exact AdOut.yes (D5.out.b0.trans ((nbw _ _).mono D5.out.b0.size)) HXX.out
end Go.Proofs.YtjmgkjjcdnaapaaDoor
namespace Go.Proofs.YtjmgkjjcdnaapaaDoor
open Go.RowKit Go.Proofs.YtjmgkjjcdnaapaaDoor.PMailA Go.Proofs.YtjmgkjjcdnaapaaDoorW.PrintWords Go.Proofs.YtjmgkjjcdnaapaaDoorW.PrintLast Go.Proofs.YtjmgkjjcdnaapaaDoorW.PrintMore
set_option linter.unusedSimpArgs false
set_option linter.unusedVariables false
set_option maxRecDepth 20000
/-- a slice that is none, or one that lies somewhere. -/
def Cp {α : Type} (k : Kd α) (w : World) (A : Option Addr) (c : Nat) (l : List α) : Prop := (A = none ∧ c = 0 ∧ l = []) ∨ ((∃ a, A = some a) ∧ k.C w A l.length l ∧ l.length ≤ c ∧ l.length * k.sz < 8796093022208)
section
variable {α : Type} {k : Kd α} {w w' : World} {A : Option Addr} {c : Nat} {l : List α}
theorem Cp.C (h : Cp k w A c l) : k.C w A l.length l := by
  rcases h with ⟨rfl, _, rfl⟩ | h
  · exact Kd.C_nil k w
  · exact h.2.1
theorem Cp.le (h : Cp k w A c l) : l.length ≤ c := by
  rcases h with ⟨_, _, rfl⟩ | h
  · exact Nat.zero_le _
  · exact h.2.2.1
theorem Cp.below (h : Cp k w A c l) (hb : Below w.heap.size w w') : Cp k w' A c l := by
  rcases h with h | ⟨h1, h2, h3⟩
  · exact .inl h
  · exact .inr ⟨h1, Kd.C_below h2 hb, h3⟩
theorem Cp.nil (k : Kd α) (w : World) : Cp k w none 0 [] := .inl ⟨rfl, rfl, rfl⟩
end
/-- a slice that a clone gave. -/
structure Cq {α : Type} (k : Kd α) (e : Nat) (w : World) (base : Nat) (v : Value) (l : List α) : Prop where
  r : k.R e w base (fun _ => True) v l
  s : v = .slice none 0 0 ∨ ∃ a n c, v = .slice (some a) n c
  few : l.length * k.sz < 8796093022208
section
variable {α : Type} {k : Kd α} {e base : Nat} {w w' : World} {v : Value} {l : List α}
theorem Cq.cp (h : Cq k e w base v l) : ∃ A c, v = .slice A l.length c ∧ Cp k w A c l := by
  obtain ⟨A, c, e1, hc, hC⟩ := Kd.R_reads h.r
  refine ⟨A, c, e1, ?_⟩
  rcases h.s with h0 | ⟨a, n, c', h0⟩
  · rw [h0] at e1
    injection e1 with e1 e2 e3
    exact .inl ⟨e1.symm, e3.symm, List.eq_nil_of_length_eq_zero e2.symm⟩
  · rw [h0] at e1
    injection e1 with e1 e2 e3
    exact .inr ⟨⟨a, e1.symm⟩, hC, hc, h.few⟩
theorem Cq.below (h : Cq k e w base v l) (hb : Below w.heap.size w w') : Cq k e w' base v l := ⟨Kd.R_below h.r hb, h.s, h.few⟩
theorem Cq.put (h : Cq k e w base v l) {g i t : Nat} {cs : Array Value} (hk : Blk w g t cs) (ht : ∀ q, q ∈ e :: k.E → q ≠ t) (u : Value) : Cq k e (w.setCell ⟨g, i, none⟩ u) base v l :=
  ⟨Kd.R_mono (Kd.R_far (p := ⟨g, i, none⟩) (Kd.R_types h.r hk ht) (fun _ hk => hk.2) u) (fun _ h => h.1), h.s, h.few⟩
theorem Cq.row (h : Cq k e w base v l) {g t : Nat} {cs cs' : Array Value} (hk : Blk w g t cs) (ht : ∀ q, q ∈ e :: k.E → q ≠ t) : Cq k e (w.setRow g cs') base v l :=
  ⟨Kd.R_mono (Kd.R_move (Kd.R_types h.r hk ht) (fun j hj => heap_setRow_other w g cs' j hj.2)) (fun _ h => h.1), h.s, h.few⟩
end
set_option maxHeartbeats 800000 in
theorem cloneT_any (A : Option Addr) (c : Nat) (l : List ByteArray) (w : World) (h : Cp Kd.string w A c l) :
    Calls Tryd.prog 27 #[.slice A l.length c] w fun e w' => ∃ v, e = .returned v ∧ Cq Kd.string 9 w' w.heap.size v l ∧ Below w.heap.size w w' := by
  rcases h with ⟨rfl, rfl, rfl⟩ | ⟨⟨a, rfl⟩, h2, h3, h4⟩
  · have heq : ∀ W : World, (binOp .eql 23 (.slice none 0 0) (.slice none 0 0)).run Tryd.prog W = .ok (.bool true) W := fun W => Lib.run_eql_slice_nil W 23 9 none 0 0 0 0 Tryd.underlying23
    go_enter Tryd.func27, Tryd.ntmps27
    go_wp2_with fail
    go_ret
    exact ⟨_, rfl, ⟨Kd.R_nil _ _ _ _ _, .inl rfl, by decide⟩, Below.refl _ _⟩
  · have H2 := Lib.hid h2
    have H3 := Lib.hid h3
    have H4 := Lib.hid h4
    clear h2 h3 h4
    have heq : ∀ W : World, (binOp .eql 23 (.slice (some a) l.length c) (.slice none 0 0)).run Tryd.prog W = .ok (.bool false) W := fun W => Lib.run_eql_slice_nil W 23 9 (some a) l.length c 0 0 Tryd.underlying23
    go_enter Tryd.func27, Tryd.ntmps27
    go_wp2_with (first
      | ((with_reducible refine gate_dst (N := 5) rfl ?_); refine Kd.R_lit Kd.string (w0 := w) w.heap.size 9 ?hg (N := 5) ?hd (xs := ([] : List ByteArray)) (inner := []) (ok := fun _ => True) (okp := fun _ => True) ?hr ?hp (fun _ hk => hk) trivial (Below.refl _ _) (Nat.le_refl _) (by simp) ?_; (case hd => rfl); (case hg => rfl); (case hr => first | (go_simp; done) | (go_simp; rfl)); (case hp => exact (Reps.none _ _)); intro v5 w1 ho hb hg_ hnew_; have HO := Lib.hid ho; have HB := Lib.hid hb; have HN := Lib.hid hnew_; clear ho hb hg_ hnew_)
      | ((with_reducible refine gate_builtin (b := .append) (xs := #[.tmp 5, .tmp 6]) rfl ?_); at_builtin; refine Kd.R_append_rows Kd.string (w0 := w) w.heap.size rfl (.tmp 5) (.tmp 6) 23 9 (.string ⟨#[]⟩) 16 rfl Tryd.underlying23 (by kernel_rfl) rfl (by decide) (by omega) v5 [] l _ _ _ (fun _ => True) (fun _ => False) rfl rfl ?aO ?aR (fun _ _ h => h) (fun _ h => h.elim) ?aF ?aB ?aS ?aL ?_; (case aR => exact Kd.C_below H2.out HB.out); (case aB => exact HB.out); (case aF => exact (fun _ _ => trivial)); (case aO => exact HO.out); (case aS => exact HB.out.size); (case aL => have h4_ : l.length * 1 < 8796093022208 := H4.out; simp; omega); intro v7 w2 ho hb hg hat; have HO2 := Lib.hid ho; have HB2 := Lib.hid hb; have HA2 := Lib.hid hat; clear ho hb hg hat))
    go_ret
    refine ⟨_, rfl, ⟨HO2.out, .inr ?_, H4.out⟩, HB2.out⟩
    obtain ⟨A', c', e⟩ := Kd.R_slice HO2.out
    obtain ⟨b0, h0, _⟩ := HN.out
    cases A' with
    | some a' => exact ⟨a', _, c', e⟩
    | none =>
      subst e
      rcases HA2.out with h | ⟨b, h, _⟩
      · rw [h0] at h; cases h
      · cases h
set_option maxHeartbeats 800000 in
theorem cloneS_any (A : Option Addr) (c : Nat) (l : List S68) (w : World) (h : Cp k68 w A c l) :
    Calls Tryd.prog 28 #[.slice A l.length c] w fun e w' => ∃ v, e = .returned v ∧ Cq k68 68 w' w.heap.size v l ∧ Below w.heap.size w w' := by
  rcases h with ⟨rfl, rfl, rfl⟩ | ⟨⟨a, rfl⟩, h2, h3, h4⟩
  · have heq : ∀ W : World, (binOp .eql 22 (.slice none 0 0) (.slice none 0 0)).run Tryd.prog W = .ok (.bool true) W := fun W => Lib.run_eql_slice_nil W 22 68 none 0 0 0 0 Tryd.underlying22
    go_enter Tryd.func28, Tryd.ntmps28
    go_wp2_with fail
    go_ret
    exact ⟨_, rfl, ⟨Kd.R_nil _ _ _ _ _, .inl rfl, by decide⟩, Below.refl _ _⟩
  · have H2 := Lib.hid h2
    have H3 := Lib.hid h3
    have H4 := Lib.hid h4
    clear h2 h3 h4
    have heq : ∀ W : World, (binOp .eql 22 (.slice (some a) l.length c) (.slice none 0 0)).run Tryd.prog W = .ok (.bool false) W := fun W => Lib.run_eql_slice_nil W 22 68 (some a) l.length c 0 0 Tryd.underlying22
    go_enter Tryd.func28, Tryd.ntmps28
    go_wp2_with (first
      | ((with_reducible refine gate_dst (N := 5) rfl ?_); refine Kd.R_lit k68 (w0 := w) w.heap.size 68 ?hg (N := 5) ?hd (xs := ([] : List S68)) (inner := []) (ok := fun _ => True) (okp := fun _ => True) ?hr ?hp (fun _ hk => hk) trivial (Below.refl _ _) (Nat.le_refl _) (by simp) ?_; (case hd => rfl); (case hg => rfl); (case hr => first | (go_simp; done) | (go_simp; rfl)); (case hp => exact (Reps.none _ _)); intro v5 w1 ho hb hg_ hnew_; have HO := Lib.hid ho; have HB := Lib.hid hb; have HN := Lib.hid hnew_; clear ho hb hg_ hnew_)
      | ((with_reducible refine gate_builtin (b := .append) (xs := #[.tmp 5, .tmp 6]) rfl ?_); at_builtin; refine Kd.R_append_rows k68 (w0 := w) w.heap.size rfl (.tmp 5) (.tmp 6) 22 68 (.agg #[.string ⟨#[]⟩, .string ⟨#[]⟩]) 32 rfl Tryd.underlying22 (by kernel_rfl) rfl (by decide) (by omega) v5 [] l _ _ _ (fun _ => True) (fun _ => False) rfl rfl ?aO ?aR (fun _ _ h => h) (fun _ h => h.elim) ?aF ?aB ?aS ?aL ?_; (case aR => exact Kd.C_below H2.out HB.out); (case aB => exact HB.out); (case aF => exact (fun _ _ => trivial)); (case aO => exact HO.out); (case aS => exact HB.out.size); (case aL => have h4_ : l.length * 2 < 8796093022208 := H4.out; simp; omega); intro v7 w2 ho hb hg hat; have HO2 := Lib.hid ho; have HB2 := Lib.hid hb; have HA2 := Lib.hid hat; clear ho hb hg hat))
    go_ret
    refine ⟨_, rfl, ⟨HO2.out, .inr ?_, H4.out⟩, HB2.out⟩
    obtain ⟨A', c', e⟩ := Kd.R_slice HO2.out
    obtain ⟨b0, h0, _⟩ := HN.out
    cases A' with
    | some a' => exact ⟨a', _, c', e⟩
    | none =>
      subst e
      rcases HA2.out with h | ⟨b, h, _⟩
      · rw [h0] at h; cases h
      · cases h
end Go.Proofs.YtjmgkjjcdnaapaaDoor
namespace Go.Proofs.YtjmgkjjcdnaapaaDoor
open Go.RowKit Go.Proofs.YtjmgkjjcdnaapaaDoor.PMailA Go.Proofs.YtjmgkjjcdnaapaaDoorW.PrintWords Go.Proofs.YtjmgkjjcdnaapaaDoorW.PrintLast Go.Proofs.YtjmgkjjcdnaapaaDoorW.PrintMore
set_option linter.unusedSimpArgs false
set_option linter.unusedVariables false
set_option maxRecDepth 20000
abbrev zMl : Array Value := #[.int .i64 0, .int .i64 0, .int .i64 0, .string ⟨#[]⟩, .string ⟨#[]⟩, .slice none 0 0, .slice none 0 0]
theorem size_mail : (Tryd.prog.info? 25).map (·.size) = some 7 := by kernel_rfl
theorem one_mail (kd u q : Int) (text tag : ByteArray) (A5 : Option Addr) (n5 c5 : Nat) (A6 : Option Addr) (n6 c6 : Nat) : (#[.int .i64 kd, .int .i64 u, .int .i64 q, .string text, .string tag, .slice A5 n5 c5, .slice A6 n6 c6] : Array Value).all (·.oneCell') = true := by
  refine all_oneCell_toArray (cs := [.int .i64 kd, .int .i64 u, .int .i64 q, .string text, .string tag, .slice A5 n5 c5, .slice A6 n6 c6]) fun u hu => ?_
  simp only [List.mem_cons, List.not_mem_nil, or_false] at hu
  rcases hu with rfl | rfl | rfl | rfl | rfl | rfl | rfl <;> rfl
structure SgH (w0 w : World) (b r : Nat) (cs rs : Array Value) : Prop where
  b0 : Below w0.heap.size w0 w
  m : Blk w b 25 cs
  z : Blk w r 25 rs
  ne : b ≠ r
  nb : w0.heap.size ≤ b
  nr : w0.heap.size ≤ r
section
variable {w0 w w' : World} {b r : Nat} {cs rs : Array Value}
theorem SgH.below (h : SgH w0 w b r cs rs) (hb : Below w.heap.size w w') : SgH w0 w' b r cs rs := ⟨h.b0.trans (hb.mono h.b0.size), h.m.below hb h.m.lt, h.z.below hb h.z.lt, h.ne, h.nb, h.nr⟩
theorem SgH.put (h : SgH w0 w b r cs rs) (i : Nat) (u : Value) : SgH w0 (w.setCell ⟨b, i, none⟩ u) b r (cs.setIfInBounds i u) rs := ⟨h.b0.setCell h.nb u, h.m.set_ i u, h.z.far (fun e => h.ne e.symm) u, h.ne, h.nb, h.nr⟩
theorem SgH.row (h : SgH w0 w b r cs rs) (cs' : Array Value) : SgH w0 (w.setRow r cs') b r cs cs' :=
  ⟨below_of_only h.b0 (only_setRow (only_refl _ _) _) h.nr h.b0.size, by have := heap_setRow_other w r cs' b h.ne; unfold Blk; rw [this]; exact h.m, h.z.setRow _, h.ne, h.nb, h.nr⟩
theorem SgH.start (w : World) (cs rs : Array Value) : SgH w ((w.alloc (.cells cs 25)).alloc (.cells rs 25)) w.heap.size (w.heap.size + 1) cs rs :=
  ⟨((Below.refl _ _).alloc (Nat.le_refl _) _).alloc (by simp) _, (Blk.new w _ _).alloc _, (by have := Blk.new (w.alloc (.cells cs 25)) 25 rs; simpa using this), by simp, Nat.le_refl _, by simp⟩
end
/-- what Sign gives. -/
def SgOut (w w' : World) (kd u q : Int) (text T : ByteArray) (l5 : List S68) (l6 : List ByteArray) (er : Int) (e : Ending) : Prop :=
  Below w.heap.size w w' ∧ ∃ v, e = .returned (.tuple #[v, .int .i64 er]) ∧ (er ≠ 0 → v = .agg zMl) ∧ (er = 0 → ∃ A5 c5 A6 c6, v = .agg #[.int .i64 kd, .int .i64 u, .int .i64 q, .string text, .string T, .slice A5 l5.length c5, .slice A6 l6.length c6] ∧ Cp k68 w' A5 c5 l5 ∧ Cp Kd.string w' A6 c6 l6)
def sgE (key : List UInt8) (e0 : Int) : Int := if key.length ≠ 32 then 3 else e0
set_option maxHeartbeats 3200000 in
theorem sign_any (kE : Nat) (key : List UInt8) (kd u q : Int) (text tag : ByteArray) (A5 : Option Addr) (c5 : Nat) (l5 : List S68) (A6 : Option Addr) (c6 : Nat) (l6 : List ByteArray) (s : List UInt8) (e0 : Int) (w : World)
    (h5 : Cp k68 w A5 c5 l5) (h6 : Cp Kd.string w A6 c6 l6) (hp : gate_plain.f kE kd u q text tag l5 l6 = some (⟨s.toArray⟩, e0))
    (hk : KsAt w) (hks : 0 < w.heap.size) (hsl : s.length ≤ 1000000) :
    Calls Tryd.prog 9 #[.string ⟨key.toArray⟩, .agg #[.int .i64 kd, .int .i64 u, .int .i64 q, .string text, .string tag, .slice A5 l5.length c5, .slice A6 l6.length c6]] w fun e w' => SgOut w w' kd u q text ⟨(tagL key (gateL ++ s)).toArray⟩ l5 l6 (sgE key e0) e := by
  have H5 := Lib.hid h5
  have H6 := Lib.hid h6
  have HP := Lib.hid hp
  have HK := Lib.hid hk
  have HKS := Lib.hid hks
  have HSL := Lib.hid hsl
  obtain ⟨kb, KB⟩ : ∃ t : ByteArray, Hid (⟨key.toArray⟩ = t) := ⟨_, Lib.hid rfl⟩
  have hkb : (kb.size : Int) = (key.length : Int) := by rw [← KB.out]; simp [ByteArray.size]
  rw [KB.out]
  clear h5 h6 hp hk hks hsl
  go_enter Tryd.func9, Tryd.ntmps9
  go_upto_region 1 with fail
  refine gworld (fun W => Hid (SgH w W w.heap.size (w.heap.size + 1) #[.int .i64 kd, .int .i64 u, .int .i64 q, .string text, .string tag, .slice A5 l5.length c5, .slice A6 l6.length c6] zMl)) (Lib.hid (SgH.start _ _ _)) ?_
  intro w1 D0
  obtain ⟨b, hb⟩ : ∃ b, b = w.heap.size := ⟨_, rfl⟩
  obtain ⟨r, hr⟩ : ∃ r, r = (w.heap.size + 1) := ⟨_, rfl⟩
  rw [← hr, ← hb] at D0
  rw [← hr, ← hb]
  clear hb hr
  by_cases hkey : key.length = 32
  · have ht : ((kb.size : Int) != 32) = false := bne_eq_false_iff_eq.mpr (by rw [hkb]; omega)
    have HE := Lib.hid (show sgE key e0 = e0 from if_neg (fun h => h hkey))
    have HKEY := Lib.hid hkey
    clear hkb hkey
    have m0 : w1.cell? ⟨b, 0, none⟩ = some (.int .i64 kd) := D0.out.m.cell 0
    have m1 : w1.cell? ⟨b, 1, none⟩ = some (.int .i64 u) := D0.out.m.cell 1
    have m2 : w1.cell? ⟨b, 2, none⟩ = some (.int .i64 q) := D0.out.m.cell 2
    have m3 : w1.cell? ⟨b, 3, none⟩ = some (.string text) := D0.out.m.cell 3
    have m4 : w1.cell? ⟨b, 4, none⟩ = some (.string tag) := D0.out.m.cell 4
    have m5 : w1.cell? ⟨b, 5, none⟩ = some (.slice A5 l5.length c5) := D0.out.m.cell 5
    have m6 : w1.cell? ⟨b, 6, none⟩ = some (.slice A6 l6.length c6) := D0.out.m.cell 6
    go_wp2_with fail
    refine (gate_plain.calls kE kd u q text tag A5 c5 l5 A6 c6 l6 _ e0 _ (H5.out.below D0.out.b0).C H5.out.le (H6.out.below D0.out.b0).C H6.out.le HP.out).mono ?_
    rintro e w2 ⟨rfl, b2⟩
    have D2 := Lib.hid (D0.out.below b2)
    clear m0 m1 m2 m3 m4 m5 m6 b2 D0
    by_cases he0 : e0 = 0
    · subst he0
      go_upto_region 6 with fail
      have HT := Lib.hid (show ∀ (W : World) (A : Option Addr), Strs W A 2 [[103, 97, 116, 101], s] → KsAt W → 0 < W.heap.size → Calls Tryd.prog 25 #[.string kb, .slice A 2 2] W fun e w' => e = .returned (.string ⟨(tagL key (gateL ++ s)).toArray⟩) ∧ Below W.heap.size W w' from fun W A hS hk hg => by
        have := tag_any key A 2 2 [[103, 97, 116, 101], s] W hS (by have := HKEY.out; omega) (by
          intro y hy
          have hs := HSL.out
          rcases List.mem_cons.1 hy with h | h
          · rw [h]; decide
          · rw [List.mem_singleton.1 h]; omega) (by decide) hk hg
        rw [KB.out] at this
        have e : ([[103, 97, 116, 101], s] : List (List UInt8)).flatten = gateL ++ s := by simp [gateL]
        rw [e] at this
        exact this)
      obtain ⟨T, ET⟩ : ∃ T : ByteArray, Hid (⟨(tagL key (gateL ++ s)).toArray⟩ = T) := ⟨_, Lib.hid rfl⟩
      rw [ET.out] at HT
      have HK2 := Lib.hid (HK.out.below HKS.out D2.out.b0)
      have HKS2 := Lib.hid (Nat.lt_of_lt_of_le HKS.out D2.out.b0.size)
      go_wp2_with fail
      refine (HT.out _ _ (strs_two w2 9 [103, 97, 116, 101] s) (HK2.out.below HKS2.out ((Below.refl _ _).alloc (Nat.le_refl _) _)) (Nat.lt_of_lt_of_le HKS2.out (by simp))).mono ?_
      rintro e w3 ⟨rfl, b3⟩
      have D3 := Lib.hid ((D2.out.below ((Below.refl _ _).alloc (Nat.le_refl _) _)).below b3)
      clear b3 D2 HT HK2 HKS2
      have f4 := D3.out.m.frozen 4
      have m4 : w3.cell? ⟨b, 4, none⟩ = some (.string tag) := D3.out.m.cell 4
      go_upto_region 7 with fail
      refine gworld (fun W => Hid (SgH w W b r #[.int .i64 kd, .int .i64 u, .int .i64 q, .string text, .string T, .slice A5 l5.length c5, .slice A6 l6.length c6] zMl)) (Lib.hid (D3.out.put 4 _)) ?_
      clear f4 m4 D3
      intro w4 D4
      have m6 : w4.cell? ⟨b, 6, none⟩ = some (.slice A6 l6.length c6) := D4.out.m.cell 6
      have H64 := Lib.hid (H6.out.below D4.out.b0)
      go_wp2_with fail
      refine (cloneT_any A6 c6 l6 w4 H64.out).mono ?_
      rintro e w5 ⟨v6, rfl, hc6, b5⟩
      have D5 := Lib.hid (D4.out.below b5)
      have C6 := Lib.hid hc6
      clear hc6 b5 D4 m6 H64
      obtain ⟨B6, d6, e6, _⟩ := C6.out.cp
      subst e6
      have f6 := D5.out.m.frozen 6
      have m6 : w5.cell? ⟨b, 6, none⟩ = some (.slice A6 l6.length c6) := D5.out.m.cell 6
      go_upto_region 8 with fail
      refine gworld (fun W => Hid (SgH w W b r #[.int .i64 kd, .int .i64 u, .int .i64 q, .string text, .string T, .slice A5 l5.length c5, .slice B6 l6.length d6] zMl) ∧ Hid (Cq Kd.string 9 W w4.heap.size (.slice B6 l6.length d6) l6)) ⟨Lib.hid (D5.out.put 6 _), Lib.hid (C6.out.put D5.out.m (by decide) _)⟩ ?_
      clear f6 m6 D5 C6
      rintro w6 ⟨D6, C6⟩
      have m5 : w6.cell? ⟨b, 5, none⟩ = some (.slice A5 l5.length c5) := D6.out.m.cell 5
      have H56 := Lib.hid (H5.out.below D6.out.b0)
      go_wp2_with fail
      refine (cloneS_any A5 c5 l5 w6 H56.out).mono ?_
      rintro e w7 ⟨v5, rfl, hc5, b7⟩
      have D7 := Lib.hid (D6.out.below b7)
      have C7 := Lib.hid (C6.out.below b7)
      have C5 := Lib.hid hc5
      clear hc5 b7 D6 m5 H56 C6
      obtain ⟨B5, d5, e5, _⟩ := C5.out.cp
      subst e5
      have f5 := D7.out.m.frozen 5
      have m5 : w7.cell? ⟨b, 5, none⟩ = some (.slice A5 l5.length c5) := D7.out.m.cell 5
      go_upto_region 9 with fail
      refine gworld (fun W => Hid (SgH w W b r #[.int .i64 kd, .int .i64 u, .int .i64 q, .string text, .string T, .slice B5 l5.length d5, .slice B6 l6.length d6] zMl) ∧ Hid (Cq Kd.string 9 W w4.heap.size (.slice B6 l6.length d6) l6) ∧ Hid (Cq k68 68 W w6.heap.size (.slice B5 l5.length d5) l5)) ⟨Lib.hid (D7.out.put 5 _), Lib.hid (C7.out.put D7.out.m (by decide) _), Lib.hid (C5.out.put D7.out.m (by decide) _)⟩ ?_
      clear f5 m5 D7 C7 C5
      rintro w8 ⟨D8, C6, C5⟩
      have m0 : w8.cell? ⟨b, 0, none⟩ = some (.int .i64 kd) := D8.out.m.cell 0
      have m1 : w8.cell? ⟨b, 1, none⟩ = some (.int .i64 u) := D8.out.m.cell 1
      have m2 : w8.cell? ⟨b, 2, none⟩ = some (.int .i64 q) := D8.out.m.cell 2
      have m3 : w8.cell? ⟨b, 3, none⟩ = some (.string text) := D8.out.m.cell 3
      have m4 : w8.cell? ⟨b, 4, none⟩ = some (.string T) := D8.out.m.cell 4
      have m5 : w8.cell? ⟨b, 5, none⟩ = some (.slice B5 l5.length d5) := D8.out.m.cell 5
      have m6 : w8.cell? ⟨b, 6, none⟩ = some (.slice B6 l6.length d6) := D8.out.m.cell 6
      have HZ := Lib.hid D8.out.z
      go_wp2_with (first
        | ((with_reducible refine gate_store (t := 25) (p := 4) (v := .tmp 34) rfl ?_); refine wpList_store_row rfl 25 (.tmp 4) (.tmp 34) rfl r #[.int .i64 kd, .int .i64 u, .int .i64 q, .string text, .string T, .slice B5 l5.length d5, .slice B6 l6.length d6] rfl rfl 25 zMl HZ.out size_mail rfl (one_mail _ _ _ _ _ _ _ _ _ _ _) ?_))
      have D9 := Lib.hid (D8.out.row #[.int .i64 kd, .int .i64 u, .int .i64 q, .string text, .string T, .slice B5 l5.length d5, .slice B6 l6.length d6])
      refine bodyPost_ret (results_ct rfl _ _ r 25 _ (0, 0) _ rfl D9.out.z Tryd.underlying25 rfl rfl) rfl ?_
      refine ⟨D9.out.b0, _, by rw [HE.out]; rfl, fun h => absurd HE.out h, fun _ => ?_⟩
      obtain ⟨B5', d5', e5', p5⟩ := (C5.out.row (cs' := #[.int .i64 kd, .int .i64 u, .int .i64 q, .string text, .string T, .slice B5 l5.length d5, .slice B6 l6.length d6]) D8.out.z (by decide)).cp
      obtain ⟨B6', d6', e6', p6⟩ := (C6.out.row (cs' := #[.int .i64 kd, .int .i64 u, .int .i64 q, .string text, .string T, .slice B5 l5.length d5, .slice B6 l6.length d6]) D8.out.z (by decide)).cp
      exact ⟨B5', d5', B6', d6', by rw [← e5', ← e6', ET.out], p5, p6⟩
    · have ht2 : (e0 != 0) = true := bne_iff_ne.mpr he0
      have HZ := Lib.hid D2.out.z
      have HE0 := Lib.hid he0
      clear he0
      go_wp2_with (first
        | ((with_reducible refine gate_store (t := 25) (p := 4) (v := .tmp 19) rfl ?_); refine wpList_store_row rfl 25 (.tmp 4) (.tmp 19) rfl r zMl rfl rfl 25 zMl HZ.out size_mail rfl (one_mail _ _ _ _ _ _ _ _ _ _ _) ?_))
      have D9 := Lib.hid (D2.out.row zMl)
      refine bodyPost_ret (results_ct rfl _ _ r 25 _ (0, 0) _ rfl D9.out.z Tryd.underlying25 rfl rfl) rfl ?_
      exact ⟨D9.out.b0, _, by rw [HE.out]; rfl, fun _ => rfl, fun h => absurd (HE.out.symm.trans h) HE0.out⟩
  · have ht : ((kb.size : Int) != 32) = true := bne_iff_ne.mpr (by rw [hkb]; omega)
    have HE := Lib.hid (show sgE key e0 = 3 from if_pos hkey)
    clear hkb hkey
    have HZ := Lib.hid D0.out.z
    go_wp2_with (first
      | ((with_reducible refine gate_store (t := 25) (p := 4) (v := .tmp 11) rfl ?_); refine wpList_store_row rfl 25 (.tmp 4) (.tmp 11) rfl r zMl rfl rfl 25 zMl HZ.out size_mail rfl (one_mail _ _ _ _ _ _ _ _ _ _ _) ?_))
    have D9 := Lib.hid (D0.out.row zMl)
    refine bodyPost_ret (results_ct rfl _ _ r 25 _ (0, 0) _ rfl D9.out.z Tryd.underlying25 rfl rfl) rfl ?_
    exact ⟨D9.out.b0, _, by rw [HE.out]; rfl, fun _ => rfl, fun h => by rw [HE.out] at h; cases h⟩
end Go.Proofs.YtjmgkjjcdnaapaaDoor
namespace Go.Proofs.YtjmgkjjcdnaapaaDoor
set_option linter.unusedSimpArgs false
set_option linter.unusedVariables false
/-- a text of bytes. -/
def tx (l : List UInt8) : ByteArray := ⟨l.toArray⟩
theorem tx_size (l : List UInt8) : (tx l).size = l.length := by simp [tx, ByteArray.size]
theorem tx_ext {a : ByteArray} {l : List UInt8} (h : a.data.toList = l) : a = tx l := by
  subst h; cases a; simp [tx]
theorem tx_list (l : List UInt8) : (tx l).data.toList = l := by simp [tx]
theorem tx_of (a : ByteArray) : a = tx a.data.toList := tx_ext rfl
end Go.Proofs.YtjmgkjjcdnaapaaDoor
namespace Go.Proofs.YtjmgkjjcdnaapaaDoor
open Go.RowKit Go.Proofs.YtjmgkjjcdnaapaaDoor.PMailA Go.Proofs.YtjmgkjjcdnaapaaDoorW.PrintWords Go.Proofs.YtjmgkjjcdnaapaaDoorW.PrintLast
set_option linter.unusedSimpArgs false
set_option linter.unusedVariables false
/-- a message that may be. -/
def Good (kd u q : Int) (text tag : ByteArray) (ls : List S68) (li : List ByteArray) : Prop :=
  (kd = 1 ∧ u = 0 ∧ q = 0 ∧ text.size = 504 ∧ tag.toList = [] ∧ ls = [] ∧ li = []) ∨
  ((0 ≤ u ∧ u < 64 ∧ 1 ≤ q ∧ q ≤ 2147483647) ∧ text.toList = [] ∧
    ((kd = 2 ∧ tag.size = 32 ∧ ls = [] ∧ li = []) ∨ (kd = 3 ∧ tag.toList = [] ∧ filledB ls = true ∧ li = []) ∨ (kd = 4 ∧ tag.size = 32 ∧ ls = [] ∧ li.length ≤ 4 ∧ (li.any fun a => !idB a) = false)))
theorem chk_f (kd u q : Int) (text tag : ByteArray) (ls : List S68) (li : List ByteArray) :
    mail_Check.f 2 kd u q text tag ls li = mail_Check.j0 2 (decide (0 ≤ u ∧ u < 64 ∧ 1 ≤ q ∧ q ≤ 2147483647)) kd u q text tag ls li := by
  unfold mail_Check.f
  by_cases h1 : 0 ≤ u
  · by_cases h2 : u < 64
    · by_cases h3 : 1 ≤ q
      · simp [h1, h2, h3]
      · simp [h1, h2, h3]
    · simp [h1, h2]
  · simp [h1]
theorem chk_j (b : Bool) (kd u q : Int) (text tag : ByteArray) (ls : List S68) (li : List ByteArray) :
    mail_Check.j0 2 b kd u q text tag ls li = mail_Check.j1 1 b (decide (u = 0 ∧ q = 0)) kd u q text tag ls li := by
  rw [mail_Check.j0]
  by_cases h1 : u = 0
  · by_cases h2 : q = 0
    · simp [h1, h2]
    · have h3 : (q == 0) = false := by simpa using h2
      simp [h1, h2, h3]
  · simp [h1]
theorem chk (kd u q : Int) (text tag : ByteArray) (ls : List S68) (li : List ByteArray) :
    (mail_Check.f 2 kd u q text tag ls li = some 0 ∧ Good kd u q text tag ls li) ∨ mail_Check.f 2 kd u q text tag ls li = some 110 := by
  rw [chk_f, chk_j, mail_Check.j1]
  unfold mail_filled.f mail_stranger.f
  simp only [Option.bind_some]
  repeat' split
  all_goals first | exact Or.inr rfl | skip
  all_goals
    refine Or.inl ⟨rfl, ?_⟩
    unfold Good
    simp_all
    try omega
theorem chk_ev {kd u q : Int} {text tag : ByteArray} {ls : List S68} {li : List ByteArray} :
    (Ev (fun k => mail_Check.f k kd u q text tag ls li) 0 ∧ Good kd u q text tag ls li) ∨ Ev (fun k => mail_Check.f k kd u q text tag ls li) 110 := by
  rcases chk kd u q text tag ls li with ⟨h, g⟩ | h
  · exact Or.inl ⟨Ev.of (fun k => mail_Check.mono _ _ _ _ _ _ _ k) h, g⟩
  · exact Or.inr (Ev.of (fun k => mail_Check.mono _ _ _ _ _ _ _ k) h)
theorem size_nil {a : ByteArray} (h : a.data.toList = []) : a.size = 0 := by
  have e : a.data.toList.length = a.size := Array.length_toList
  rw [h] at e
  exact e.symm
theorem filled_small (l : List S68) : ((l.drop (leadN l)).any someB) = false → ∀ a ∈ l, a.f0.size ≤ 16 ∧ a.f1.size ≤ 222 := by
  induction l with
  | nil => intro _ a ha; cases ha
  | cons b l ih =>
    intro h a ha
    unfold leadN at h ih
    have none_small : ∀ c : S68, someB c = false → c.f0.size ≤ 16 ∧ c.f1.size ≤ 222 := by
      intro c hc
      obtain ⟨h0, h1⟩ := someB_no hc
      rw [ByteArray.toList_eq] at h0 h1
      have e0 := size_nil h0
      have e1 := size_nil h1
      omega
    by_cases hb : entryB b = true
    · rw [List.takeWhile_cons_of_pos hb, List.length_cons, List.drop_succ_cons] at h
      rcases List.mem_cons.1 ha with rfl | ha
      · unfold entryB idB at hb
        simp only [Bool.and_eq_true, beq_iff_eq, decide_eq_true_eq] at hb
        omega
      · exact ih h a ha
    · rw [List.takeWhile_cons_of_neg hb, List.length_nil, List.drop_zero] at h
      have := List.any_eq_false.1 h a ha
      exact none_small a (by simpa using this)
def b8 (x : Int) : UInt8 := UInt8.ofNat (x % 256).toNat
theorem n8_b8 (x : Int) : n8 (b8 x) = x % 256 := by
  unfold n8 b8
  rw [UInt8.toNat_ofNat']
  omega
def slotL (a : S68) : List UInt8 := a.f0.data.toList ++ List.replicate (16 - a.f0.size) 0 ++ [b8 (a.f1.size : Int)] ++ (a.f1.data.toList ++ List.replicate (222 - a.f1.size) 0)
theorem slotL_len (a : S68) (h : a.f0.size ≤ 16 ∧ a.f1.size ≤ 222) : (slotL a).length = 239 := by
  have e0 : a.f0.data.toList.length = a.f0.size := Array.length_toList
  have e1 : a.f1.data.toList.length = a.f1.size := Array.length_toList
  unfold slotL
  simp only [List.length_append, List.length_replicate, List.length_singleton]
  omega
theorem join_eq (ls : List (List UInt8)) (h : ls.length ≤ 100000) (h2 : ls.flatten.length ≤ 100000) : mail_join.f (ls.map tx) = some (tx ls.flatten) := by
  have e : Lib.join ((ls.map tx).map (·.data.toList)) [] = ls.flatten := by
    rw [List.map_map, show ((·.data.toList) ∘ tx) = id from funext fun l => tx_list l, List.map_id]
    unfold Lib.join
    induction ls with
    | nil => rfl
    | cons a l ih =>
      cases l with
      | nil => simp [List.intercalate]
      | cons b l => 
        have := ih (by simp at h ⊢; omega) (by simp at h2 ⊢; omega)
        simp only [List.intercalate, List.intersperse, List.flatten_cons, List.nil_append] at this ⊢
        rw [this]
  unfold mail_join.f
  rw [e, if_pos ⟨by rw [List.length_map]; omega, by omega⟩]
  rfl
theorem pad_eq (l : List UInt8) (n : Nat) (h : l.length ≤ n) (hn : n ≤ 100000) : mail_pad.f (tx l) (n : Int) = some (tx (l ++ List.replicate (n - l.length) 0)) := by
  unfold mail_pad.f strings_Repeat.f
  have e : wrap64 ((n : Int) - ((tx l).size : Int)) = ((n - l.length : Nat) : Int) := by rw [tx_size]; unfold wrap64; omega
  rw [e, if_pos ⟨by omega, by omega, by simp [ByteArray.size]; omega⟩]
  simp only [Option.bind_some, Int.toNat_natCast]
  rw [repeat_zero20]
  have e2 : (⟨(List.replicate (n - l.length) (0 : UInt8)).toArray⟩ : ByteArray) = tx (List.replicate (n - l.length) 0) := rfl
  rw [e2, if_pos (by rw [tx_size, tx_size, List.length_replicate]; omega)]
  exact congrArg some (tx_ext (by rw [ByteArray.data_append, Array.toList_append, tx_list, tx_list]))
theorem strs_b8 (l : List Int) : strOfNums (l.map (· % 256)) = tx (l.map b8) := by
  have e : l.map (· % 256) = (l.map b8).map n8 := by
    rw [List.map_map]
    exact List.map_congr_left fun x _ => (n8_b8 x).symm
  rw [e, strOfNums_n8]
  rfl
def whoL (u q : Int) : List UInt8 := [b8 u, b8 (q / 16777216), b8 (q / 65536), b8 (q / 256), b8 q]
def restL (n : Nat) (y : List UInt8) (li : List ByteArray) : List UInt8 := y ++ (li.map (·.data.toList)).flatten ++ List.replicate (n - (y.length + (li.map (·.data.toList)).flatten.length)) 0
theorem tx_map (li : List ByteArray) : (li.map (·.data.toList)).map tx = li := by
  rw [List.map_map]
  conv => rhs; rw [← List.map_id li]
  exact List.map_congr_left fun a _ => (tx_of a).symm
theorem rd_get (ls : List S68) (i : Nat) (h : i < ls.length) : rd_T68 ls (i : Int) = ls[i] := by
  unfold rd_T68
  rw [Int.toNat_natCast, List.getD_eq_getElem?_getD, List.getElem?_eq_getElem h]
  rfl
theorem l0_ev (ls ls0 : List S68) (li : List ByteArray) (kd u q : Int) (text tag : ByteArray) (n : Nat) (hn : mail_Long.f kd = some (n : Int)) (hn2 : n ≤ 1000) (hs : ∀ a ∈ ls, a.f0.size ≤ 16 ∧ a.f1.size ≤ 222) (hl : li.length ≤ 4) (hls : ls.length ≤ 4) (d : Nat) :
    ∀ (i : Nat) (x : List UInt8), i + d = ls.length → (x ++ ((ls.drop i).map slotL).flatten).length + (li.map (·.data.toList)).flatten.length ≤ n →
      Ev (fun k => mail_Encode.l0 k (tx x) ls (ls.length : Int) (i : Int) kd u q text tag ls0 li) (tx (restL n (x ++ ((ls.drop i).map slotL).flatten) li), 0) := by
  induction d with
  | zero =>
    intro i x hi hb
    obtain rfl : i = ls.length := by omega
    rw [List.drop_length, List.map_nil, List.flatten_nil, List.append_nil] at hb ⊢
    refine Ev.step (f := fun _ => some (tx (restL n x li), 0)) (fun k => ?_) (Ev.now _)
    simp only [mail_Encode.l0]
    have j1 : mail_join.f li = some (tx (li.map (·.data.toList)).flatten) := by
      conv => lhs; rw [← tx_map li]
      exact join_eq _ (by rw [List.length_map]; omega) (by omega)
    have j2 : mail_join.f [tx x, tx (li.map (·.data.toList)).flatten] = some (tx (x ++ (li.map (·.data.toList)).flatten)) := by
      have := join_eq [x, (li.map (·.data.toList)).flatten] (by simp) (by simp only [List.flatten_cons, List.flatten_nil, List.append_nil, List.length_append]; omega)
      simpa using this
    rw [if_neg (by omega), j1]
    simp only [Option.bind_some]
    rw [j2]
    simp only [Option.bind_some]
    rw [hn]
    simp only [Option.bind_some]
    rw [pad_eq _ n (by rw [List.length_append]; exact hb) (by omega)]
    simp only [Option.bind_some]
    rw [List.length_append]
    rfl
  | succ d ih =>
    intro i x hi hb
    have hlt : i < ls.length := by omega
    have hdrop : ls.drop i = ls[i] :: ls.drop (i + 1) := List.drop_eq_getElem_cons hlt
    have hsz := hs ls[i] (List.getElem_mem hlt)
    have e : x ++ ((ls.drop i).map slotL).flatten = (x ++ slotL ls[i]) ++ ((ls.drop (i + 1)).map slotL).flatten := by
      rw [hdrop, List.map_cons, List.flatten_cons, List.append_assoc]
    rw [e] at hb ⊢
    refine Ev.step (f := fun k => mail_Encode.l0 k (tx (x ++ slotL ls[i])) ls (ls.length : Int) ((i + 1 : Nat) : Int) kd u q text tag ls0 li) (fun k => ?_) (ih (i + 1) _ (by omega) hb)
    simp only [mail_Encode.l0]
    rw [if_pos (by omega), if_pos (by omega), if_pos (by omega), rd_get ls i hlt]
    have e0 : ls[i].f0.data.toList.length = ls[i].f0.size := Array.length_toList
    have e1 : ls[i].f1.data.toList.length = ls[i].f1.size := Array.length_toList
    have p0 := pad_eq ls[i].f0.data.toList 16 (by omega) (by omega)
    have p1 := pad_eq ls[i].f1.data.toList 222 (by omega) (by omega)
    rw [← tx_of, e0] at p0
    rw [← tx_of, e1] at p1
    have b := strs_b8 [((ls[i].f1).size : Int)]
    simp only [List.map_cons, List.map_nil] at b
    have hb1 : (x ++ slotL ls[i]).length ≤ 1000 := by rw [List.length_append] at hb; omega
    have j := join_eq [x, ls[i].f0.data.toList ++ List.replicate (16 - ls[i].f0.size) 0, [b8 (ls[i].f1.size : Int)], ls[i].f1.data.toList ++ List.replicate (222 - ls[i].f1.size) 0] (by simp) (by
      have e5 : [x, ls[i].f0.data.toList ++ List.replicate (16 - ls[i].f0.size) 0, [b8 (ls[i].f1.size : Int)], ls[i].f1.data.toList ++ List.replicate (222 - ls[i].f1.size) 0].flatten = x ++ slotL ls[i] := by simp [slotL]
      rw [e5]; omega)
    have e5 : [x, ls[i].f0.data.toList ++ List.replicate (16 - ls[i].f0.size) 0, [b8 (ls[i].f1.size : Int)], ls[i].f1.data.toList ++ List.replicate (222 - ls[i].f1.size) 0].flatten = x ++ slotL ls[i] := by simp [slotL]
    rw [e5] at j
    simp only [List.map_cons, List.map_nil] at j
    have p0' : mail_pad.f ls[i].f0 16 = some (tx (ls[i].f0.data.toList ++ List.replicate (16 - ls[i].f0.size) 0)) := p0
    have p1' : mail_pad.f ls[i].f1 222 = some (tx (ls[i].f1.data.toList ++ List.replicate (222 - ls[i].f1.size) 0)) := p1
    rw [p0']
    simp only [Option.bind_some]
    rw [p1']
    simp only [Option.bind_some]
    rw [b, j]
    simp only [Option.bind_some]
    rw [show wrap64 ((i : Int) + 1) = ((i + 1 : Nat) : Int) by unfold wrap64; omega]
/-- the text of a message that may be. -/
def headL (kd u q : Int) (tag : ByteArray) (ls : List S68) : List UInt8 := b8 kd :: (whoL u q ++ tag.data.toList) ++ (ls.map slotL).flatten
def longN (kd : Int) : Nat := if kd = 2 then 38 else if kd = 3 then 962 else 102
def encL (kd u q : Int) (text tag : ByteArray) (ls : List S68) (li : List ByteArray) : List UInt8 :=
  if kd = 1 then b8 kd :: text.data.toList else restL (longN kd) (headL kd u q tag ls) li
theorem slots_len (ls : List S68) (h : ∀ a ∈ ls, a.f0.size ≤ 16 ∧ a.f1.size ≤ 222) : ((ls.map slotL).flatten).length = 239 * ls.length := by
  induction ls with
  | nil => rfl
  | cons a l ih =>
    rw [List.map_cons, List.flatten_cons, List.length_append, slotL_len a (h a (List.mem_cons_self ..)), ih (fun b hb => h b (List.mem_cons_of_mem _ hb)), List.length_cons]
    omega
theorem ids_len (li : List ByteArray) (h : ∀ a ∈ li, a.size = 16) : ((li.map (·.data.toList)).flatten).length = 16 * li.length := by
  induction li with
  | nil => rfl
  | cons a l ih =>
    have e : a.data.toList.length = a.size := Array.length_toList
    rw [List.map_cons, List.flatten_cons, List.length_append, e, h a (List.mem_cons_self ..), ih (fun b hb => h b (List.mem_cons_of_mem _ hb)), List.length_cons]
    omega
theorem ids_16 {li : List ByteArray} (h : (li.any fun a => !idB a) = false) : ∀ a ∈ li, a.size = 16 := by
  intro a ha
  have := List.any_eq_false.1 h a ha
  simp only [Bool.not_eq_true, Bool.not_eq_false'] at this
  unfold idB at this
  simp only [Bool.and_eq_true, beq_iff_eq] at this
  exact this.1
theorem headL_len (kd u q : Int) (tag : ByteArray) (ls : List S68) (h : ∀ a ∈ ls, a.f0.size ≤ 16 ∧ a.f1.size ≤ 222) : (headL kd u q tag ls).length = 6 + tag.size + 239 * ls.length := by
  have e : tag.data.toList.length = tag.size := Array.length_toList
  unfold headL whoL
  rw [List.length_append, slots_len ls h]
  simp only [List.length_cons, List.length_append, List.length_nil, e]
  omega
theorem restL_len (n : Nat) (y : List UInt8) (li : List ByteArray) (h : y.length + ((li.map (·.data.toList)).flatten).length ≤ n) : (restL n y li).length = n := by
  unfold restL
  simp only [List.length_append, List.length_replicate]
  omega
/-- what a message that may be, of no packet's kind, tells. -/
theorem Good.sizes {kd u q : Int} {text tag : ByteArray} {ls : List S68} {li : List ByteArray} (g : Good kd u q text tag ls li) (h1 : ¬ kd = 1) :
    mail_Long.f kd = some (longN kd : Int) ∧ longN kd ≤ 1000 ∧ (∀ a ∈ ls, a.f0.size ≤ 16 ∧ a.f1.size ≤ 222) ∧ li.length ≤ 4 ∧ ls.length ≤ 4 ∧ tag.size ≤ 32 ∧ (headL kd u q tag ls).length + ((li.map (·.data.toList)).flatten).length ≤ longN kd := by
  rcases g with g | ⟨_, _, ⟨rfl, ht, rfl, rfl⟩ | ⟨rfl, ht, hf, rfl⟩ | ⟨rfl, ht, rfl, h4, hi⟩⟩
  · exact absurd g.1 h1
  · refine ⟨rfl, by decide, fun a ha => (by cases ha), by simp, by simp, by omega, ?_⟩
    rw [headL_len _ _ _ _ _ (fun a ha => (by cases ha)), ht]
    decide
  · have hf2 : ls.length = 4 ∧ ((ls.drop (leadN ls)).any someB) = false := by
      unfold filledB at hf
      simpa using hf
    have hs := filled_small ls hf2.2
    rw [ByteArray.toList_eq] at ht
    have h0 := size_nil ht
    refine ⟨rfl, by decide, hs, by simp, by omega, by omega, ?_⟩
    rw [headL_len _ _ _ _ _ hs, hf2.1, h0]
    decide
  · have h16 := ids_16 hi
    refine ⟨rfl, by decide, fun a ha => (by cases ha), h4, by simp, by omega, ?_⟩
    rw [headL_len _ _ _ _ _ (fun a ha => (by cases ha)), ht, ids_len li h16]
    have e : longN 4 = 102 := rfl
    rw [e, List.length_nil]
    omega
theorem enc_good {kd u q : Int} {text tag : ByteArray} {ls : List S68} {li : List ByteArray} (hc : Ev (fun k => mail_Check.f k kd u q text tag ls li) 0) (g : Good kd u q text tag ls li) :
    Ev (fun k => mail_Encode.f k kd u q text tag ls li) (tx (encL kd u q text tag ls li), 0) := by
  unfold mail_Encode.f
  refine Ev.bind hc ?_
  have b := strs_b8 [kd]
  simp only [List.map_cons, List.map_nil] at b
  by_cases h1 : kd = 1
  · refine Ev.congr (f := fun _ => some (tx (encL kd u q text tag ls li), 0)) (fun k => ?_) (Ev.now _)
    have ht : text.size = 504 := by
      rcases g with g | ⟨_, _, ⟨h, _⟩ | ⟨h, _⟩ | ⟨h, _⟩⟩
      · exact g.2.2.2.1
      all_goals omega
    have e : text.data.toList.length = text.size := Array.length_toList
    have j := join_eq [[b8 kd], text.data.toList] (by simp) (by simp only [List.flatten_cons, List.flatten_nil, List.append_nil, List.length_append, List.length_singleton]; omega)
    simp only [List.map_cons, List.map_nil, List.flatten_cons, List.flatten_nil, List.append_nil] at j
    rw [← tx_of] at j
    rw [if_pos rfl]
    simp only [Option.bind_some]
    rw [if_pos h1, b, j]
    simp only [Option.bind_some]
    rw [encL, if_pos h1]
    rfl
  · obtain ⟨hn, hn2, hs, hl, hls, htg, hsum⟩ := g.sizes h1
    have e : tag.data.toList.length = tag.size := Array.length_toList
    have w5 := strs_b8 [u, q / 16777216, q / 65536, q / 256, q]
    simp only [List.map_cons, List.map_nil] at w5
    have j := join_eq [[b8 kd], whoL u q, tag.data.toList] (by simp) (by simp only [whoL, List.flatten_cons, List.flatten_nil, List.append_nil, List.length_append, List.length_singleton, List.length_cons, List.length_nil]; omega)
    simp only [List.map_cons, List.map_nil, List.flatten_cons, List.flatten_nil, List.append_nil] at j
    rw [← tx_of] at j
    have l := l0_ev ls ls li kd u q text tag (longN kd) hn hn2 hs hl hls ls.length 0 ([b8 kd] ++ (whoL u q ++ tag.data.toList)) (by omega) hsum
    refine Ev.congr (fun k => ?_) (by rw [encL, if_neg h1]; exact l)
    rw [if_pos rfl]
    simp only [Option.bind_some]
    rw [if_neg h1, b, w5]
    show (mail_join.f [tx [b8 kd], tx (whoL u q), tag]).bind _ = _
    rw [j]
    rfl
/-- what Encode gives. -/
theorem enc_any (kd u q : Int) (text tag : ByteArray) (ls : List S68) (li : List ByteArray) :
    (Ev (fun k => mail_Encode.f k kd u q text tag ls li) (tx (encL kd u q text tag ls li), 0) ∧ Good kd u q text tag ls li) ∨ Ev (fun k => mail_Encode.f k kd u q text tag ls li) (⟨#[]⟩, 110) := by
  rcases chk_ev (kd := kd) (u := u) (q := q) (text := text) (tag := tag) (ls := ls) (li := li) with ⟨h, g⟩ | h
  · exact Or.inl ⟨enc_good h g, g⟩
  · refine Or.inr ?_
    unfold mail_Encode.f
    refine Ev.bind h (Ev.congr (f := fun _ => some (⟨#[]⟩, 110)) (fun k => ?_) (Ev.now _))
    rw [if_neg (by decide)]
theorem Good.long {kd u q : Int} {text tag : ByteArray} {ls : List S68} {li : List ByteArray} (g : Good kd u q text tag ls li) :
    mail_Long.f kd = some ((encL kd u q text tag ls li).length : Int) := by
  by_cases h1 : kd = 1
  · have ht : text.size = 504 := by
      rcases g with g | ⟨_, _, ⟨h, _⟩ | ⟨h, _⟩ | ⟨h, _⟩⟩
      · exact g.2.2.2.1
      all_goals omega
    have e : text.data.toList.length = text.size := Array.length_toList
    rw [encL, if_pos h1, List.length_cons, e, ht, h1]
    rfl
  · obtain ⟨hn, _, _, _, _, _, hsum⟩ := g.sizes h1
    rw [encL, if_neg h1, restL_len _ _ _ hsum]
    exact hn
end Go.Proofs.YtjmgkjjcdnaapaaDoor
namespace Go.Proofs.YtjmgkjjcdnaapaaDoor
open Go.RowKit Go.Proofs.YtjmgkjjcdnaapaaDoor.PMailA Go.Proofs.YtjmgkjjcdnaapaaDoorW.PrintWords Go.Proofs.YtjmgkjjcdnaapaaDoorW.PrintLast Go.Proofs.YtjmgkjjcdnaapaaDoorW.PrintMore
set_option linter.unusedSimpArgs false
set_option linter.unusedVariables false
set_option maxRecDepth 20000
/-- a pull's bytes without its tag. -/
def sP (u q : Int) : List UInt8 := b8 2 :: whoL u q ++ List.replicate 32 0
theorem sP_length (u q : Int) : (sP u q).length = 38 := by simp [sP, whoL]
theorem rep0 : strings_Repeat.f (⟨#[0]⟩ : ByteArray) 32 = some (tx (List.replicate 32 0)) := by decide +kernel
theorem chk_pull (u q : Int) (tag : ByteArray) (hu : 0 ≤ u ∧ u < 64) (hq : 1 ≤ q ∧ q ≤ 2147483647) (ht : tag.size = 32) : mail_Check.f 2 2 u q ⟨#[]⟩ tag [] [] = some 0 := by
  rw [chk_f, chk_j, mail_Check.j1]
  simp [hu, hq, ht]
theorem good_pull (u q : Int) (tag : ByteArray) (hu : 0 ≤ u ∧ u < 64) (hq : 1 ≤ q ∧ q ≤ 2147483647) (ht : tag.size = 32) : Good 2 u q ⟨#[]⟩ tag [] [] :=
  .inr ⟨⟨hu.1, hu.2, hq.1, hq.2⟩, by decide +kernel, .inl ⟨rfl, ht, rfl, rfl⟩⟩
theorem enc_pull (u q : Int) (tag : List UInt8) (hu : 0 ≤ u ∧ u < 64) (hq : 1 ≤ q ∧ q ≤ 2147483647) (ht : tag.length = 32) : Ev (fun k => mail_Encode.f k 2 u q ⟨#[]⟩ (tx tag) [] []) (tx (b8 2 :: whoL u q ++ tag), 0) := by
  have hs : (tx tag).size = 32 := by rw [tx_size]; exact ht
  have h := enc_good (Ev.of (fun k => mail_Check.mono _ _ _ _ _ _ _ k) (chk_pull u q _ hu hq hs)) (good_pull u q _ hu hq hs)
  have e : encL 2 u q ⟨#[]⟩ (tx tag) [] [] = b8 2 :: whoL u q ++ tag := by
    simp [encL, headL, restL, longN, tx_list, whoL, ht]
  rw [e] at h
  exact h
theorem plain_pull (u q : Int) (tag : ByteArray) (hu : 0 ≤ u ∧ u < 64) (hq : 1 ≤ q ∧ q ≤ 2147483647) : ∃ k, gate_plain.f k 2 u q ⟨#[]⟩ tag [] [] = some (tx (sP u q), 0) := by
  obtain ⟨k, hk⟩ := (enc_pull u q (List.replicate 32 0) hu hq (by simp)).rounds
  refine ⟨k, ?_⟩
  unfold gate_plain.f
  rw [rep0]
  simp only [Option.bind_some, if_true]
  rw [hk]
  rfl
theorem Cp.empty {α : Type} {k : Kd α} {w w' : World} {A : Option Addr} {c : Nat} (h : Cp k w A c []) : Cp k w' A c [] := by
  rcases h with h | ⟨h1, h2, h3⟩
  · exact .inl h
  · exact .inr ⟨h1, ⟨rfl, h2.2.1, fun h => absurd h (Nat.lt_irrefl 0)⟩, h3⟩
/-- a pulled message: its slices are empty. -/
def Pm (w : World) (v : Value) (u q : Int) (T : List UInt8) : Prop := ∃ A5 c5 A6 c6, v = .agg #[.int .i64 2, .int .i64 u, .int .i64 q, .string ⟨#[]⟩, .string ⟨T.toArray⟩, .slice A5 ([] : List S68).length c5, .slice A6 ([] : List ByteArray).length c6] ∧ Cp k68 w A5 c5 [] ∧ Cp Kd.string w A6 c6 []
theorem Pm.below {w w' : World} {v : Value} {u q : Int} {T : List UInt8} (h : Pm w v u q T) (hb : Below w.heap.size w w') : Pm w' v u q T := by
  obtain ⟨A5, c5, A6, c6, e, h5, h6⟩ := h
  exact ⟨A5, c5, A6, c6, e, h5.below hb, h6.below hb⟩
/-- the tag of a pull. -/
def tgP (key : List UInt8) (u q : Int) : List UInt8 := tagL key (gateL ++ sP u q)
theorem tgP_length (key : List UInt8) (u q : Int) : (tgP key u q).length = 32 := tagL_length _ _
theorem signP_any (key : List UInt8) (u q : Int) (w : World) (hk32 : key.length = 32) (hu : 0 ≤ u ∧ u < 64) (hq : 1 ≤ q ∧ q ≤ 2147483647) (hk : KsAt w) (hks : 0 < w.heap.size) :
    Calls Tryd.prog 9 #[.string ⟨key.toArray⟩, .agg #[.int .i64 2, .int .i64 u, .int .i64 q, .string ⟨#[]⟩, .string ⟨#[]⟩, .slice none 0 0, .slice none 0 0]] w fun e w' => ∃ v, e = .returned (.tuple #[v, .int .i64 0]) ∧ Pm w' v u q (tgP key u q) ∧ Below w.heap.size w w' := by
  obtain ⟨k, hp⟩ := plain_pull u q ⟨#[]⟩ hu hq
  refine (sign_any k key 2 u q ⟨#[]⟩ ⟨#[]⟩ none 0 [] none 0 [] (sP u q) 0 w (Cp.nil _ _) (Cp.nil _ _) hp hk hks (by rw [sP_length]; decide)).mono ?_
  rintro e w' ⟨hb, v, he, _, h0⟩
  have hE : sgE key 0 = 0 := if_neg (fun h => h hk32)
  rw [hE] at he h0
  obtain ⟨A5, c5, A6, c6, ev, h5, h6⟩ := h0 rfl
  exact ⟨v, he, ⟨A5, c5, A6, c6, ev, h5, h6⟩, hb⟩
set_option maxHeartbeats 800000 in
theorem pull_any (key : List UInt8) (q : Int) (w : World) (hk32 : key.length = 32) (hq : 1 ≤ q ∧ q ≤ 2147483647) (hk : KsAt w) (hks : 0 < w.heap.size) :
    Calls Tryd.prog 22 #[.string ⟨key.toArray⟩, .int .i64 q] w fun e w' => ∃ v, e = .returned v ∧ Pm w' v 3 q (tgP key 3 q) ∧ Below w.heap.size w w' := by
  have HS := Lib.hid (fun W => signP_any key 3 q W hk32 (by decide) hq)
  have HK := Lib.hid hk
  have HKS := Lib.hid hks
  obtain ⟨kb, KB⟩ : ∃ t : ByteArray, Hid (⟨key.toArray⟩ = t) := ⟨_, Lib.hid rfl⟩
  rw [KB.out] at HS ⊢
  clear hk hks hq hk32
  go_enter Tryd.func22, Tryd.ntmps22
  go_upto_region 1 with fail
  obtain ⟨r, hr⟩ : ∃ r, Hid (w.heap.size = r) := ⟨_, Lib.hid rfl⟩
  refine gworld (fun W => Hid (Blk W r 25 zMl) ∧ Hid (Below w.heap.size w W)) ⟨Lib.hid (by rw [← hr.out]; exact Blk.new _ _ _), Lib.hid ((Below.refl _ _).alloc (Nat.le_refl _) _)⟩ ?_
  rintro w1 ⟨HZ, HW⟩
  rw [hr.out]
  have HK1 := Lib.hid (HK.out.below HKS.out HW.out)
  have HKS1 := Lib.hid (Nat.lt_of_lt_of_le HKS.out HW.out.size)
  go_wp2_with fail
  refine (HS.out w1 HK1.out HKS1.out).mono ?_
  rintro e w2 ⟨v, rfl, hP, b2⟩
  obtain ⟨A5, c5, A6, c6, ev, h5, h6⟩ := hP
  subst ev
  have H5 := Lib.hid h5
  have H6 := Lib.hid h6
  have HW2 := Lib.hid (HW.out.trans (b2.mono HW.out.size))
  have HZ2 := Lib.hid (HZ.out.below b2 HZ.out.lt)
  clear h5 h6 b2 HK1 HKS1 HW HZ HS
  obtain ⟨T, ET⟩ : ∃ T : ByteArray, Hid (⟨(tgP key 3 q).toArray⟩ = T) := ⟨_, Lib.hid rfl⟩
  rw [ET.out]
  go_upto_region 2 with fail
  refine gworld (fun W => Hid (Blk W w2.heap.size 25 #[.int .i64 2, .int .i64 3, .int .i64 q, .string ⟨#[]⟩, .string T, .slice A5 ([] : List S68).length c5, .slice A6 ([] : List ByteArray).length c6]) ∧ Hid (Below w2.heap.size w2 W)) ⟨Lib.hid (Blk.new _ _ _), Lib.hid ((Below.refl _ _).alloc (Nat.le_refl _) _)⟩ ?_
  obtain ⟨b, hb⟩ : ∃ b, Hid (w2.heap.size = b) := ⟨_, Lib.hid rfl⟩
  rintro w3 ⟨HM, HB3⟩
  have HM := Lib.hid (show Blk w3 b 25 #[.int .i64 2, .int .i64 3, .int .i64 q, .string ⟨#[]⟩, .string T, .slice A5 ([] : List S68).length c5, .slice A6 ([] : List ByteArray).length c6] by rw [← hb.out]; exact HM.out)
  rw [hb.out]
  have m0 : w3.cell? ⟨b, 0, none⟩ = some (.int .i64 2) := HM.out.cell 0
  have m1 : w3.cell? ⟨b, 1, none⟩ = some (.int .i64 3) := HM.out.cell 1
  have m2 : w3.cell? ⟨b, 2, none⟩ = some (.int .i64 q) := HM.out.cell 2
  have m3 : w3.cell? ⟨b, 3, none⟩ = some (.string ⟨#[]⟩) := HM.out.cell 3
  have m4 : w3.cell? ⟨b, 4, none⟩ = some (.string T) := HM.out.cell 4
  have m5 : w3.cell? ⟨b, 5, none⟩ = some (.slice A5 ([] : List S68).length c5) := HM.out.cell 5
  have m6 : w3.cell? ⟨b, 6, none⟩ = some (.slice A6 ([] : List ByteArray).length c6) := HM.out.cell 6
  have HZ3 := Lib.hid (HZ2.out.below HB3.out HZ2.out.lt)
  go_wp2_with (first
    | ((with_reducible refine gate_store (t := 25) (p := 4) (v := .tmp 14) rfl ?_); refine wpList_store_row rfl 25 (.tmp 4) (.tmp 14) rfl r #[.int .i64 2, .int .i64 3, .int .i64 q, .string ⟨#[]⟩, .string T, .slice A5 ([] : List S68).length c5, .slice A6 ([] : List ByteArray).length c6] rfl rfl 25 zMl HZ3.out size_mail rfl (one_mail _ _ _ _ _ _ _ _ _ _ _) ?_))
  have HB4 := Lib.hid (show Below w.heap.size w (w3.setRow r #[.int .i64 2, .int .i64 3, .int .i64 q, .string ⟨#[]⟩, .string T, .slice A5 ([] : List S68).length c5, .slice A6 ([] : List ByteArray).length c6]) from
    below_of_only (HW2.out.trans (HB3.out.mono HW2.out.size)) (only_setRow (only_refl _ _) _) (by rw [hr.out]; exact Nat.le_refl _) (Nat.le_trans HW2.out.size HB3.out.size))
  have HR := Lib.hid (HZ3.out.setRow #[.int .i64 2, .int .i64 3, .int .i64 q, .string ⟨#[]⟩, .string T, .slice A5 ([] : List S68).length c5, .slice A6 ([] : List ByteArray).length c6])
  refine bodyPost_ret (results_cell_row rfl _ _ r 25 _ (0, 0) _ rfl HR.out Tryd.underlying25 rfl rfl) rfl ?_
  exact ⟨_, rfl, ⟨A5, c5, A6, c6, by rw [ET.out], H5.out.empty, H6.out.empty⟩, HB4.out⟩
/-- what Admit does with a signed pull. -/
def adP (l : List Sg) (u q : Int) (T : List UInt8) : Int × List Sg :=
  match fN l u with
  | none => (200, l)
  | some j => if tgP (l.getD j ⟨0, [], 0⟩).k u q ≠ T then (200, l) else if q ≤ (l.getD j ⟨0, [], 0⟩).q then (170, l) else (0, l.set j { l.getD j ⟨0, [], 0⟩ with q := q })
/-- what a gate's Admit turns. -/
def Ad1 (w w' : World) (gs : List Nat) : Prop := ∃ w1, Below w.heap.size w w1 ∧ (w' = w1 ∨ ∃ x ∈ gs, ∃ u, w' = w1.setCell ⟨x, 2, none⟩ u)
theorem GtA.typed {B g : Nat} {w : World} {v : Value} {gs : List Nat} {l : List Sg} (h : GtA B w g v gs l) : ∀ x ∈ gs, B ≤ x ∧ ∃ cs, Blk w x 80 cs := fun x hx => by
  obtain ⟨j, hj, rfl⟩ := List.mem_iff_getElem.1 hx
  have := h.sg j gs[j] (l[j]'(by rw [← h.len]; exact hj)) (List.getElem?_eq_getElem hj) (List.getElem?_eq_getElem _)
  exact ⟨this.1, _, this.2⟩
theorem GtA.set_ {B g j x : Nat} {w : World} {v : Value} {gs : List Nat} {l : List Sg} (h : GtA B w g v gs l) (hx : gs[j]? = some x) (q : Int) : GtA B (w.setCell ⟨x, 2, none⟩ (.int .i64 q)) g v gs (l.set j { l.getD j ⟨0, [], 0⟩ with q := q }) := by
  obtain ⟨hj, ex⟩ := List.getElem?_eq_some_iff.1 hx
  have hjl : j < l.length := by rw [← h.len]; exact hj
  have hX := h.sg j x (l[j]) hx (List.getElem?_eq_getElem hjl)
  refine ⟨h.hg.far (gt_apart h.hg hX.2 (by decide)) _, h.bg, Own.setFar h.vo (fun e => ?_) _, by simpa using h.len, ?_, h.nd, by simpa using h.few⟩
  · obtain ⟨cs, hc⟩ := gt_typed h.vo _ e
    exact absurd (gt_type hX.2 hc) (by decide)
  · intro i y s h1 h2
    by_cases hij : i = j
    · subst hij
      rw [hx] at h1
      obtain rfl := Option.some.inj h1
      rw [List.getElem?_set_self hjl] at h2
      obtain rfl := Option.some.inj h2
      refine ⟨hX.1, ?_⟩
      have := hX.2.set_ 2 (.int .i64 q)
      have e : l.getD i ⟨0, [], 0⟩ = l[i] := by rw [List.getD_eq_getElem?_getD, List.getElem?_eq_getElem hjl]; rfl
      rw [e]
      exact this
    · rw [List.getElem?_set_ne (fun e => hij e.symm)] at h2
      obtain ⟨b1, b2⟩ := h.sg i y s h1 h2
      refine ⟨b1, b2.far (fun e => ?_) _⟩
      have e' : y = x := e
      subst e'
      obtain ⟨hi, ey⟩ := List.getElem?_eq_some_iff.1 h1
      exact hij ((List.getElem_inj h.nd).1 (ey.trans ex.symm))
/-- another gate stays. -/
theorem GtA.other {B g : Nat} {w w' : World} {v : Value} {gs gs' : List Nat} {l : List Sg} (h : GtA B w g v gs l) (ha : Ad1 w w' gs') (ht : ∀ x ∈ gs', ∃ cs, Blk w x 80 cs) (hd : ∀ x ∈ gs', x ∉ gs) : GtA B w' g v gs l := by
  obtain ⟨w1, hb, rfl | ⟨x, hx, u, rfl⟩⟩ := ha
  · exact h.below hb
  · have h1 := h.below hb
    obtain ⟨cs, hc⟩ := ht x hx
    have hc1 := hc.below hb hc.lt
    refine ⟨h1.hg.far (gt_apart h1.hg hc1 (by decide)) _, h1.bg, Own.setFar h1.vo (fun e => ?_) _, h1.len, ?_, h1.nd, h1.few⟩
    · obtain ⟨cs', hc'⟩ := gt_typed h1.vo _ e
      exact absurd (gt_type hc1 hc') (by decide)
    · intro i y s h2 h3
      obtain ⟨b1, b2⟩ := h1.sg i y s h2 h3
      refine ⟨b1, b2.far (fun e => ?_) _⟩
      have e' : y = x := e
      subst e'
      exact hd _ hx (List.mem_of_getElem? h2)
theorem Ad1.blk {w w' : World} {gs : List Nat} (ha : Ad1 w w' gs) (ht : ∀ x ∈ gs, ∃ cs, Blk w x 80 cs) {b : Nat} {t : TypeId} {cs : Array Value} (hb : Blk w b t cs) (hne : t ≠ 80) : Blk w' b t cs := by
  obtain ⟨w1, hw, rfl | ⟨x, hx, u, rfl⟩⟩ := ha
  · exact hb.below hw hb.lt
  · obtain ⟨cs', hc⟩ := ht x hx
    exact (hb.below hw hb.lt).far (gt_apart hb hc hne) u
theorem Ad1.below {B : Nat} {w w' : World} {gs : List Nat} (ha : Ad1 w w' gs) (hB : ∀ x ∈ gs, B ≤ x) (hw : B ≤ w.heap.size) : Below B w w' := by
  obtain ⟨w1, hb, rfl | ⟨x, hx, u, rfl⟩⟩ := ha
  · exact hb.mono hw
  · exact (hb.mono hw).setCell (hB x hx) u
theorem admitP_any (g B : Nat) (v : Value) (gs : List Nat) (l : List Sg) (u q : Int) (T : List UInt8) (m : Value) (w : World) (h : GtA B w g v gs l) (hm : Pm w m u q T) (hT : T.length = 32) (hu : 0 ≤ u ∧ u < 64) (hq : 1 ≤ q ∧ q ≤ 2147483647)
    (hk : KsAt w) (hks : 0 < w.heap.size) (hkl : ∀ x ∈ l, x.k.length ≤ 1000000) :
    Calls Tryd.prog 17 #[.pointer (some ⟨g, 0, none⟩), m] w fun e w' => e = .returned (.int .i64 (adP l u q T).1) ∧ GtA B w' g v gs (adP l u q T).2 ∧ Ad1 w w' gs := by
  obtain ⟨A5, c5, A6, c6, rfl, h5, h6⟩ := hm
  obtain ⟨k, hp⟩ := plain_pull u q (tx T) hu hq
  obtain ⟨o, ho⟩ : ∃ o, fN l u = o := ⟨_, rfl⟩
  refine (admit_any k g B v gs l 2 u q ⟨#[]⟩ T A5 c5 [] A6 c6 [] (sP u q) 0 w h ⟨h5.C, h5.le, h6.C, h6.le⟩ hp o ho hk hks hkl (by rw [sP_length]; decide) (by rw [hT]; decide)).mono ?_
  rintro e w' ⟨he, w1, hb, hw⟩
  have h32 : ¬ ((0 : Int) ≠ 0 ∨ T.length ≠ 32) := by omega
  cases o with
  | none =>
    have ea : admE l (sP u q) 0 T q none = 200 := if_neg h32
    have ep : adP l u q T = (200, l) := by unfold adP; rw [ho]
    rw [ea] at he hw
    rw [if_neg (by decide)] at hw
    subst hw
    rw [ep]
    exact ⟨he, h.below hb, _, hb, .inl rfl⟩
  | some j =>
    obtain ⟨hj, _⟩ := fN_some ho
    have ex : gs[j]? = some (gs[j]'(by rw [h.len]; exact hj)) := List.getElem?_eq_getElem _
    have egd : gs.getD j 0 = gs[j]'(by rw [h.len]; exact hj) := by rw [List.getD_eq_getElem?_getD, ex]; rfl
    have ea : admE l (sP u q) 0 T q (some j) = if tgP (l.getD j ⟨0, [], 0⟩).k u q ≠ T then 200 else if q ≤ (l.getD j ⟨0, [], 0⟩).q then 170 else 0 := if_neg h32
    have ep : adP l u q T = if tgP (l.getD j ⟨0, [], 0⟩).k u q ≠ T then (200, l) else if q ≤ (l.getD j ⟨0, [], 0⟩).q then (170, l) else (0, l.set j { l.getD j ⟨0, [], 0⟩ with q := q }) := by unfold adP; rw [ho]
    rw [ea] at he hw
    rw [ep]
    split at he
    · rename_i hc
      rw [if_pos hc, if_neg (by decide)] at hw
      subst hw
      rw [if_pos hc]
      exact ⟨he, h.below hb, _, hb, .inl rfl⟩
    · rename_i hc
      rw [if_neg hc] at hw
      rw [if_neg hc]
      split at he
      · rename_i hq
        rw [if_pos hq, if_neg (by decide)] at hw
        subst hw
        rw [if_pos hq]
        exact ⟨he, h.below hb, _, hb, .inl rfl⟩
      · rename_i hq
        rw [if_neg hq, if_pos rfl] at hw
        subst hw
        rw [if_neg hq]
        show _ ∧ GtA B (w1.setCell ⟨gs.getD j 0, 2, none⟩ (.int .i64 q)) g v gs _ ∧ Ad1 w (w1.setCell ⟨gs.getD j 0, 2, none⟩ (.int .i64 q)) gs
        rw [egd]
        exact ⟨he, (h.below hb).set_ ex q, _, hb, .inr ⟨_, List.getElem_mem _, _, rfl⟩⟩
end Go.Proofs.YtjmgkjjcdnaapaaDoor
namespace Go.Proofs.YtjmgkjjcdnaapaaDoor
open Go.RowKit Go.Proofs.YtjmgkjjcdnaapaaDoor.PMailA Go.Proofs.YtjmgkjjcdnaapaaDoorW.PrintWords Go.Proofs.YtjmgkjjcdnaapaaDoorW.PrintLast Go.Proofs.YtjmgkjjcdnaapaaDoorW.PrintMore
set_option linter.unusedSimpArgs false
set_option linter.unusedVariables false
set_option maxRecDepth 20000
def kyL : List UInt8 := [116, 104, 105, 114, 116, 121, 45, 116, 119, 111, 32, 98, 121, 116, 101, 115, 32, 97, 114, 101, 32, 106, 117, 115, 116, 32, 97, 32, 107, 101, 121, 46]
theorem kyL_length : kyL.length = 32 := by decide
def one3 (q : Int) : List Sg := [⟨3, kyL, q⟩]
theorem adP_some {l : List Sg} {u q : Int} {T : List UInt8} {j : Nat} {s : Sg} (ho : fN l u = some j) (hs : l.getD j ⟨0, [], 0⟩ = s) : adP l u q T = if tgP s.k u q ≠ T then (200, l) else if q ≤ s.q then (170, l) else (0, l.set j { s with q := q }) := by
  unfold adP; rw [ho]; subst hs; rfl
theorem adP_one (p q : Int) : adP (one3 p) 3 q (tgP kyL 3 q) = if q ≤ p then (170, one3 p) else (0, one3 q) := by
  have hf : fN (one3 p) 3 = some 0 := by simp [fN, one3]
  unfold adP
  rw [hf]
  show (if tgP kyL 3 q ≠ tgP kyL 3 q then _ else if q ≤ p then _ else _) = _
  rw [if_neg (fun h => h rfl)]
  rfl
theorem one_key (q : Int) : ∀ x ∈ one3 q, x.k.length ≤ 1000000 := fun x hx => by
  rw [List.mem_singleton.1 hx]; show kyL.length ≤ _; rw [kyL_length]; decide
theorem acc_lit (w : World) (l : List Ac) (h : l.length ≤ 1000) : Accs (w.alloc (.cells (l.flatMap fun a => [Value.int .i64 a.u, .string ⟨a.k.toArray⟩]).toArray 44)) (some ⟨w.heap.size, 0, none⟩) l.length l.length l := by
  refine ⟨rfl, Nat.le_refl _, by omega, fun hn => ⟨w.heap.size, 0, rfl, by simp, fun i x hx => ?_⟩⟩
  have key : ∀ (l : List Ac) (i : Nat) (x : Ac), l[i]? = some x → (l.flatMap fun a => [Value.int .i64 a.u, .string ⟨a.k.toArray⟩])[i * 2]? = some (.int .i64 x.u) ∧ (l.flatMap fun a => [Value.int .i64 a.u, .string ⟨a.k.toArray⟩])[i * 2 + 1]? = some (.string ⟨x.k.toArray⟩) := by
    intro l
    induction l with
    | nil => intro i x hx; simp at hx
    | cons a l ih =>
      intro i x hx
      cases i with
      | zero => simp at hx; subst hx; exact ⟨rfl, rfl⟩
      | succ i =>
        have := ih i x (by simpa using hx)
        simp only [List.flatMap_cons]
        rw [show (i + 1) * 2 = 2 + i * 2 by omega, show 2 + i * 2 + 1 = 2 + (i * 2 + 1) by omega]
        exact ⟨by rw [List.getElem?_append_right (by simp)]; simpa using this.1, by rw [List.getElem?_append_right (by simp)]; simpa using this.2⟩
  obtain ⟨h1, h2⟩ := key l i x hx
  exact ⟨by rw [Nat.zero_add]; exact new_cells w _ _ _ _ h1, by rw [Nat.zero_add]; exact new_cells w _ _ _ _ h2⟩
theorem tag_zero : tgP kyL 3 9 ≠ List.replicate 32 0 := by decide +kernel
def lsW (k : Nat) : Int := [0, 1, 1, 5, 5, 6].getD k 0
/-- what is held beside a gate: all below the start as it was, and hash's table. -/
structure GW (w0 w : World) (g : Nat) (v : Value) (gs : List Nat) (l : List Sg) : Prop where
  b : Below w0.heap.size w0 w
  g : GtA w0.heap.size w g v gs l
  k : KsAt w
  ks : 0 < w.heap.size
theorem GW.below {w0 w w' : World} {g : Nat} {v : Value} {gs : List Nat} {l : List Sg} (h : GW w0 w g v gs l) (hb : Below w.heap.size w w') : GW w0 w' g v gs l :=
  ⟨h.b.trans (hb.mono h.b.size), h.g.below hb, h.k.below h.ks hb, Nat.lt_of_lt_of_le h.ks hb.size⟩
theorem GW.ad {w0 w w' : World} {g : Nat} {v : Value} {gs : List Nat} {l l' : List Sg} (h : GW w0 w g v gs l) (hg : GtA w0.heap.size w' g v gs l') (ha : Ad1 w w' gs) (hk0 : KsAt w0) (hks0 : 0 < w0.heap.size) : GW w0 w' g v gs l' := by
  have hb : Below w0.heap.size w w' := ha.below (fun x hx => (h.g.typed x hx).1) h.b.size
  have hb0 := h.b.trans hb
  exact ⟨hb0, hg, hk0.below hks0 hb0, Nat.lt_of_lt_of_le hks0 hb0.size⟩
theorem GtA.lower {B B' g : Nat} {w : World} {v : Value} {gs : List Nat} {l : List Sg} (h : GtA B w g v gs l) (hb : B' ≤ B) : GtA B' w g v gs l :=
  ⟨h.hg, Nat.le_trans hb h.bg, own_weaken h.vo hb, h.len, fun j x s h1 h2 => ⟨Nat.le_trans hb (h.sg j x s h1 h2).1, (h.sg j x s h1 h2).2⟩, h.nd, h.few⟩
theorem GW.start {w w1 w2 : World} {g : Nat} {v : Value} {gs : List Nat} {l : List Sg} (hk : KsAt w) (hks : 0 < w.heap.size) (hb : Below w.heap.size w w1) (h : GtA w1.heap.size w2 g v gs l) (hb2 : Below w1.heap.size w1 w2) : GW w w2 g v gs l := by
  have hb' := hb.trans (hb2.mono hb.size)
  exact ⟨hb', h.lower hb.size, hk.below hks hb', Nat.lt_of_lt_of_le hks hb'.size⟩
set_option maxHeartbeats 3200000 in
theorem works20_any (w : World) (hk : KsAt w) (hks : 0 < w.heap.size) :
    Calls Tryd.prog 12 #[] w fun e w' => e = .returned (.bool true) ∧ Below w.heap.size w w' := by
  have HK := Lib.hid hk
  have HKS := Lib.hid hks
  clear hk hks
  have hb1 : ∀ s : List UInt8, Tryd.prog.built 44 [(0, Value.int .i64 3), (1, Value.string ⟨s.toArray⟩)] = some #[.int .i64 3, .string ⟨s.toArray⟩] := fun s => by kernel_rfl
  go_enter Tryd.func12, Tryd.ntmps12
  go_wp2_with fail
  refine (new_any _ 1 1 [⟨3, kyL⟩] _ (acc_lit w [⟨3, kyL⟩] (by decide)) (by decide)).mono ?_
  rintro e w1 ⟨g, v, gs, rfl, G1, b1⟩
  have D1 := Lib.hid (show GW w w1 g v gs (one3 0) from GW.start HK.out HKS.out ((Below.refl _ _).alloc (Nat.le_refl _) _) G1 b1)
  clear G1 b1
  go_upto_region 5 with fail
  obtain ⟨gi, hgi⟩ : ∃ b, Hid (w1.heap.size = b) := ⟨_, Lib.hid rfl⟩
  refine gworld (fun W => Hid (GW w W g v gs (one3 (lsW 0))) ∧ Hid (Blk W gi 3 #[.int .i64 1, .int .i64 1, .int .i64 5, .int .i64 4, .int .i64 6])) ⟨Lib.hid (D1.out.below ((Below.refl _ _).alloc (Nat.le_refl _) _)), Lib.hid (by rw [← hgi.out]; exact Blk.new _ _ _)⟩ ?_
  clear D1
  rintro w2 ⟨D2, I2⟩
  rw [hgi.out]
  go_wp2_with fail
  go_loopg [20] 6 (fun kq v' wr => ∃ k : Nat, k + kq = 6 ∧ k ≤ 5 ∧ v' = .int .i64 k ∧ Hid (GW w wr g v gs (one3 (lsW k))) ∧ Hid (Blk wr gi 3 #[.int .i64 1, .int .i64 1, .int .i64 5, .int .i64 4, .int .i64 6]))
  case atStart => exact ⟨0, by omega, by omega, rfl, D2, I2⟩
  case round =>
    clear D2 I2
    obtain ⟨k, hk, hk2, rfl, D, I⟩ := hrel
    by_cases hlt : k < 5
    · rcases (show k = 0 ∨ k = 1 ∨ k = 2 ∨ k = 3 ∨ k = 4 by omega) with rfl | rfl | rfl | rfl | rfl
      · have hc : wr.cell? ⟨gi, 0, none⟩ = some (.int .i64 1) := I.out.cell 0
        have HA := Lib.hid (show adP (one3 (lsW 0)) 3 1 (tgP kyL 3 1) = (0, one3 (lsW 1)) by rw [adP_one]; rfl)
        obtain rfl : gk = 6 := by omega
        clear hk hk2 hlt
        go_wp2_with fail
        refine (pull_any kyL 1 wr kyL_length (by decide) D.out.k D.out.ks).mono ?_
        rintro e w3 ⟨m, rfl, hP, b3⟩
        have P3 := Lib.hid hP
        have D3 := Lib.hid (D.out.below b3)
        have I3 := Lib.hid (I.out.below b3 I.out.lt)
        clear hP b3 D I hc
        go_wp2_with fail
        refine (admitP_any g _ v gs _ 3 1 _ m w3 D3.out.g P3.out (tgP_length _ _ _) (by decide) (by decide) D3.out.k D3.out.ks (one_key _)).mono ?_
        rintro e w4 ⟨rfl, G4, A4⟩
        rw [HA.out] at G4 ⊢
        have D4 := Lib.hid (D3.out.ad G4 A4 HK.out HKS.out)
        have I4 := Lib.hid (A4.blk (fun x hx => (D3.out.g.typed x hx).2) I3.out (by decide))
        clear G4 A4 P3 D3 I3
        go_wp2_with fail
        go_roundg 5
        case measure => decide
        case rel => exact ⟨1, rfl, by decide, rfl, D4, I4⟩
      · have hc : wr.cell? ⟨gi, 1, none⟩ = some (.int .i64 1) := I.out.cell 1
        have HA := Lib.hid (show adP (one3 (lsW 1)) 3 1 (tgP kyL 3 1) = (170, one3 (lsW 2)) by rw [adP_one]; rfl)
        obtain rfl : gk = 5 := by omega
        clear hk hk2 hlt
        go_wp2_with fail
        refine (pull_any kyL 1 wr kyL_length (by decide) D.out.k D.out.ks).mono ?_
        rintro e w3 ⟨m, rfl, hP, b3⟩
        have P3 := Lib.hid hP
        have D3 := Lib.hid (D.out.below b3)
        have I3 := Lib.hid (I.out.below b3 I.out.lt)
        clear hP b3 D I hc
        go_wp2_with fail
        refine (admitP_any g _ v gs _ 3 1 _ m w3 D3.out.g P3.out (tgP_length _ _ _) (by decide) (by decide) D3.out.k D3.out.ks (one_key _)).mono ?_
        rintro e w4 ⟨rfl, G4, A4⟩
        rw [HA.out] at G4 ⊢
        have D4 := Lib.hid (D3.out.ad G4 A4 HK.out HKS.out)
        have I4 := Lib.hid (A4.blk (fun x hx => (D3.out.g.typed x hx).2) I3.out (by decide))
        clear G4 A4 P3 D3 I3
        go_wp2_with fail
        go_roundg 4
        case measure => decide
        case rel => exact ⟨2, rfl, by decide, rfl, D4, I4⟩
      · have hc : wr.cell? ⟨gi, 2, none⟩ = some (.int .i64 5) := I.out.cell 2
        have HA := Lib.hid (show adP (one3 (lsW 2)) 3 5 (tgP kyL 3 5) = (0, one3 (lsW 3)) by rw [adP_one]; rfl)
        obtain rfl : gk = 4 := by omega
        clear hk hk2 hlt
        go_wp2_with fail
        refine (pull_any kyL 5 wr kyL_length (by decide) D.out.k D.out.ks).mono ?_
        rintro e w3 ⟨m, rfl, hP, b3⟩
        have P3 := Lib.hid hP
        have D3 := Lib.hid (D.out.below b3)
        have I3 := Lib.hid (I.out.below b3 I.out.lt)
        clear hP b3 D I hc
        go_wp2_with fail
        refine (admitP_any g _ v gs _ 3 5 _ m w3 D3.out.g P3.out (tgP_length _ _ _) (by decide) (by decide) D3.out.k D3.out.ks (one_key _)).mono ?_
        rintro e w4 ⟨rfl, G4, A4⟩
        rw [HA.out] at G4 ⊢
        have D4 := Lib.hid (D3.out.ad G4 A4 HK.out HKS.out)
        have I4 := Lib.hid (A4.blk (fun x hx => (D3.out.g.typed x hx).2) I3.out (by decide))
        clear G4 A4 P3 D3 I3
        go_wp2_with fail
        go_roundg 3
        case measure => decide
        case rel => exact ⟨3, rfl, by decide, rfl, D4, I4⟩
      · have hc : wr.cell? ⟨gi, 3, none⟩ = some (.int .i64 4) := I.out.cell 3
        have HA := Lib.hid (show adP (one3 (lsW 3)) 3 4 (tgP kyL 3 4) = (170, one3 (lsW 4)) by rw [adP_one]; rfl)
        obtain rfl : gk = 3 := by omega
        clear hk hk2 hlt
        go_wp2_with fail
        refine (pull_any kyL 4 wr kyL_length (by decide) D.out.k D.out.ks).mono ?_
        rintro e w3 ⟨m, rfl, hP, b3⟩
        have P3 := Lib.hid hP
        have D3 := Lib.hid (D.out.below b3)
        have I3 := Lib.hid (I.out.below b3 I.out.lt)
        clear hP b3 D I hc
        go_wp2_with fail
        refine (admitP_any g _ v gs _ 3 4 _ m w3 D3.out.g P3.out (tgP_length _ _ _) (by decide) (by decide) D3.out.k D3.out.ks (one_key _)).mono ?_
        rintro e w4 ⟨rfl, G4, A4⟩
        rw [HA.out] at G4 ⊢
        have D4 := Lib.hid (D3.out.ad G4 A4 HK.out HKS.out)
        have I4 := Lib.hid (A4.blk (fun x hx => (D3.out.g.typed x hx).2) I3.out (by decide))
        clear G4 A4 P3 D3 I3
        go_wp2_with fail
        go_roundg 2
        case measure => decide
        case rel => exact ⟨4, rfl, by decide, rfl, D4, I4⟩
      · have hc : wr.cell? ⟨gi, 4, none⟩ = some (.int .i64 6) := I.out.cell 4
        have HA := Lib.hid (show adP (one3 (lsW 4)) 3 6 (tgP kyL 3 6) = (0, one3 (lsW 5)) by rw [adP_one]; rfl)
        obtain rfl : gk = 2 := by omega
        clear hk hk2 hlt
        go_wp2_with fail
        refine (pull_any kyL 6 wr kyL_length (by decide) D.out.k D.out.ks).mono ?_
        rintro e w3 ⟨m, rfl, hP, b3⟩
        have P3 := Lib.hid hP
        have D3 := Lib.hid (D.out.below b3)
        have I3 := Lib.hid (I.out.below b3 I.out.lt)
        clear hP b3 D I hc
        go_wp2_with fail
        refine (admitP_any g _ v gs _ 3 6 _ m w3 D3.out.g P3.out (tgP_length _ _ _) (by decide) (by decide) D3.out.k D3.out.ks (one_key _)).mono ?_
        rintro e w4 ⟨rfl, G4, A4⟩
        rw [HA.out] at G4 ⊢
        have D4 := Lib.hid (D3.out.ad G4 A4 HK.out HKS.out)
        have I4 := Lib.hid (A4.blk (fun x hx => (D3.out.g.typed x hx).2) I3.out (by decide))
        clear G4 A4 P3 D3 I3
        go_wp2_with fail
        go_roundg 1
        case measure => decide
        case rel => exact ⟨5, rfl, by decide, rfl, D4, I4⟩
    · obtain rfl : k = 5 := by omega
      have hq : gk = 1 := by omega
      subst hq
      have D := Lib.hid (show GW w wr g v gs (one3 6) from D.out)
      clear hlt hk2 hk I
      have hf3 : fN (one3 6) 3 = some 0 := by decide
      have hf4 : fN (one3 6) 4 = none := by decide
      go_wp2_with fail
      refine (has_any g _ v gs _ 3 wr D.out.g _ hf3).mono ?_
      rintro e w3 ⟨rfl, b3⟩
      have D3 := Lib.hid (D.out.below b3)
      clear b3 D
      go_wp2_with fail
      refine (has_any g _ v gs _ 4 w3 D3.out.g _ hf4).mono ?_
      rintro e w4 ⟨rfl, b4⟩
      have D4 := Lib.hid (D3.out.below b4)
      clear b4 D3
      obtain ⟨w5, hmk0, hown, hgr⟩ := own_make (B := w4.heap.size) (t := 61) elemU8 w4 .i64 .i64 32 (by decide) (by decide) (Nat.le_refl _)
      have hmk : (Instr.makeSlice 61 (.int .i64 32) (.int .i64 32)).run Tryd.prog w4 = .ok (.slice (some ⟨w4.heap.size, 0, none⟩) 32 32) w5 := hmk0
      have hown' : Own 5 w5 w4.heap.size (.slice (some ⟨w4.heap.size, 0, none⟩) 32 32) (cb (List.replicate 32 0)) := hown
      have hcv : (convert 61 9 (.slice (some ⟨w4.heap.size, 0, none⟩) 32 32)).run Tryd.prog w5 = .ok (.string ⟨(List.replicate 32 (0 : UInt8)).toArray⟩) w5 := my_own_string Tryd.underlying61 Tryd.underlying5 Tryd.underlying9 hown'
      have D5 := Lib.hid (D4.out.below ((Below.refl _ _).grown hgr (Nat.le_refl _) (fun k hk => by cases hk)))
      obtain ⟨z, hz⟩ : ∃ z : ByteArray, Hid (⟨(List.replicate 32 (0 : UInt8)).toArray⟩ = z) := ⟨_, Lib.hid rfl⟩
      rw [hz.out] at hcv
      clear hmk0 hown hgr hown' D4 hf3 hf4
      go_wp2_with fail
      have HA := Lib.hid (show adP (one3 6) 3 9 (List.replicate 32 0) = (200, one3 6) by
        have hf3 : fN (one3 6) 3 = some 0 := by decide
        rw [adP_some hf3 (s := ⟨3, kyL, 6⟩) rfl, if_pos tag_zero])
      refine (admitP_any g _ v gs (one3 6) 3 9 (List.replicate 32 0) _ w5 D5.out.g ⟨none, 0, none, 0, by rw [hz.out]; rfl, Cp.nil _ _, Cp.nil _ _⟩ (by decide) (by decide) (by decide) D5.out.k D5.out.ks (one_key _)).mono ?_
      rintro e w6 ⟨rfl, G6, A6⟩
      rw [HA.out]
      have D6 := Lib.hid (D5.out.ad G6 A6 HK.out HKS.out)
      clear G6 A6
      go_wp2_with fail
      go_ret
      exact ⟨rfl, D6.out.b⟩
end Go.Proofs.YtjmgkjjcdnaapaaDoor
namespace Go.Proofs.YtjmgkjjcdnaapaaDoor
open Go.ChangeShapes Go.WideShapes Go.ChangeAt Go.RowKit Go.Joins Go.Deep Go.WideElems Go.Maps Go.Proofs.YtjmgkjjcdnaapaaDoorW.PrintWords
open Go.ChangeMaps (open_string shut_string)
set_option linter.unusedSimpArgs false
set_option linter.unusedVariables false
set_option maxRecDepth 100000
section
variable {H : Type} {enc : TypeId × Value → H} {P : Program} {w : World} {base : Nat} {sp : Nat → Bool} {held : Bool}
theorem open_agg7 {r : Reach} {b0 : Nat} {t : TypeId} {f0 f1 f2 f3 f4 f5 f6 : Field} {v : Value} {d : DataW H} {p : List MemPlace} (hs : P.underlying t = some (.struct #[f0, f1, f2, f3, f4, f5, f6])) (hone : oneCellFields P #[f0, f1, f2, f3, f4, f5, f6] = true) (hC : P.cellsOf t = 7)
    (hv : Value.okWide P w r b0 t v) (h : DataW.Trod enc P w base sp held t v d p) :
    ∃ (v0 v1 v2 v3 v4 v5 v6 : Value) (y0 y1 y2 y3 y4 y5 y6 : DataW H × List MemPlace) (n : Nat), v = .agg #[v0, v1, v2, v3, v4, v5, v6] ∧ d = .agg [y0.1, y1.1, y2.1, y3.1, y4.1, y5.1, y6.1] ∧ DataW.trod enc P w base sp held n f0.type [v0] = some y0 ∧ DataW.trod enc P w base sp held n f1.type [v1] = some y1 ∧ DataW.trod enc P w base sp held n f2.type [v2] = some y2 ∧ DataW.trod enc P w base sp held n f3.type [v3] = some y3 ∧ DataW.trod enc P w base sp held n f4.type [v4] = some y4 ∧ DataW.trod enc P w base sp held n f5.type [v5] = some y5 ∧ DataW.trod enc P w base sp held n f6.type [v6] = some y6 := by
  obtain ⟨cs, rfl, hsz⟩ := okWide_struct hs hv
  obtain ⟨l⟩ := cs
  match l, hsz.trans hC with
  | [c0, c1, c2, c3, c4, c5, c6], _ =>
    obtain ⟨fuel, hf⟩ := h
    obtain ⟨xs, n, _, hx, _, hlen, hg⟩ := DataW.trod_struct hs hf
    obtain ⟨o0, k0⟩ := hone_of hone 0 f0 rfl
    obtain ⟨o1, k1⟩ := hone_of hone 1 f1 rfl
    obtain ⟨o2, k2⟩ := hone_of hone 2 f2 rfl
    obtain ⟨o3, k3⟩ := hone_of hone 3 f3 rfl
    obtain ⟨o4, k4⟩ := hone_of hone 4 f4 rfl
    obtain ⟨o5, k5⟩ := hone_of hone 5 f5 rfl
    obtain ⟨o6, k6⟩ := hone_of hone 6 f6 rfl
    match xs, hlen with
    | [y0, y1, y2, y3, y4, y5, y6], _ =>
      simp only [Prod.mk.injEq] at hx
      exact ⟨c0, c1, c2, c3, c4, c5, c6, y0, y1, y2, y3, y4, y5, y6, n, rfl, by simpa using hx.1, by simpa [Value.cells, o0, k0] using hg 0 f0 rfl, by simpa [Value.cells, o1, k1] using hg 1 f1 rfl, by simpa [Value.cells, o2, k2] using hg 2 f2 rfl, by simpa [Value.cells, o3, k3] using hg 3 f3 rfl, by simpa [Value.cells, o4, k4] using hg 4 f4 rfl, by simpa [Value.cells, o5, k5] using hg 5 f5 rfl, by simpa [Value.cells, o6, k6] using hg 6 f6 rfl⟩
theorem open_slice_fields {t e : TypeId} {fs : Array Field} {fuel : Nat} {cs : List Value} {x : DataW H × List MemPlace} (ht : P.underlying t = some (.slice e)) (he : P.underlying e = some (.struct fs))
    (hone : oneCellFields P fs = true) (hC : P.cellsOf e = fs.size) (h : DataW.trod enc P w base sp held fuel t cs = some x) :
    (cs = [.slice none 0 0] ∧ x = (.nil, [])) ∨
    ∃ (a : Addr) (len cap m : Nat) (D : Nat → DataW H) (Pl : Nat → List MemPlace), cs = [.slice (some a) len cap] ∧ base ≤ a.block ∧ len ≤ cap ∧ cap ≤ maxLen ∧ m = (if sp a.block then cap else len) ∧
      x = (.slice ((List.range len).map D) ((List.range (m - len)).map fun j => D (len + j)), MemPlace.row a (m * fs.size) ++ (List.range m).flatMap Pl) ∧
      ∀ i, i < m → ∃ (ys : List (DataW H × List MemPlace)) (n : Nat), D i = .agg (ys.map (·.1)) ∧ Pl i = ys.flatMap (·.2) ∧ ys.length = fs.size ∧
        ∀ (j : Nat) (f : Field), fs[j]? = some f → ∃ (v : Value) (y : DataW H × List MemPlace), w.cell? (a.add (i * fs.size + j)) = some v ∧ ys[j]? = some y ∧ DataW.trod enc P w base sp held n f.type [v] = some y := by
  rcases open_slice ht h with h0 | ⟨a, len, cap, m, n, D, Pl, hcs, hb, hl, hm, hmm, hx, hi⟩
  · exact .inl h0
  · refine .inr ⟨a, len, cap, m, D, Pl, hcs, hb, hl, hm, hmm, by rw [hC] at hx; exact hx, fun i him => ?_⟩
    obtain ⟨cs', hc, ht'⟩ := hi i him
    rw [hC] at hc
    obtain ⟨ys, n', hn', hy, hlen, hyl, hf⟩ := DataW.trod_struct he ht'
    obtain ⟨_, hcl, hat⟩ := World.cells?_some hc
    simp only [Prod.mk.injEq] at hy
    refine ⟨ys, n', hy.1, hy.2, hyl, fun j f hj => ?_⟩
    obtain ⟨ho, hk⟩ := hone_of hone j f hj
    have hjl : j < fs.size := (Array.getElem?_eq_some_iff.1 hj).1
    have hcell := hat j hjl
    have hv : cs'[j]? = some (cs'[j]'(by omega)) := List.getElem?_eq_getElem (by omega)
    have h1 := hf j f hj
    rw [ho, hk] at h1
    have hone' : (cs'.drop j).take 1 = [cs'[j]'(by omega)] := by
      rw [List.drop_eq_getElem_cons (by omega)]
      rfl
    rw [hone'] at h1
    have hys : ys[j]? = some (ys[j]'(by omega)) := List.getElem?_eq_getElem (by omega)
    refine ⟨_, _, ?_, hys, h1.trans hys⟩
    rw [← Go.Deep.add_add, hcell, hv]
/-- as many as there are, each so. -/
theorem list_of {α : Type} {p : Nat → α → Prop} (n : Nat) (h : ∀ i, i < n → ∃ x, p i x) : ∃ l : List α, l.length = n ∧ ∀ i x, l[i]? = some x → p i x := by
  induction n with
  | zero => exact ⟨[], rfl, fun i x hx => by simp at hx⟩
  | succ n ih =>
    obtain ⟨l, hl, hp⟩ := ih (fun i hi => h i (by omega))
    obtain ⟨x, hx⟩ := h n (by omega)
    refine ⟨l ++ [x], by simp [hl], fun i y hy => ?_⟩
    by_cases hi : i < l.length
    · rw [List.getElem?_append_left hi] at hy; exact hp i y hy
    · rw [List.getElem?_append_right (by omega)] at hy
      have : i - l.length = 0 := by
        cases hk : i - l.length with
        | zero => rfl
        | succ k => rw [hk] at hy; simp at hy
      rw [this] at hy
      simp at hy
      obtain rfl : i = n := by omega
      rw [← hy]; exact hx
theorem trod_txt {n : Nat} {t : TypeId} {v : Value} {y : DataW H × List MemPlace} (ht : P.underlying t = some .string) (h : DataW.trod enc P w base sp held n t [v] = some y) : ∃ a : ByteArray, v = .string a := by
  obtain ⟨s, hs, rfl, _⟩ := DataW.trod_string ht h
  injection hs with hs
  exact ⟨s, hs⟩
theorem trod_i64 {n : Nat} {t : TypeId} {v : Value} {y : DataW H × List MemPlace} (ht : P.underlying t = some (.int .i64)) (h : DataW.trod enc P w base sp held n t [v] = some y) : ∃ a : Int, v = .int .i64 a := by
  obtain ⟨s, hs, _⟩ := DataW.trod_int ht h
  injection hs with hs
  exact ⟨s, hs⟩
end
end Go.Proofs.YtjmgkjjcdnaapaaDoor
namespace Go.Proofs.YtjmgkjjcdnaapaaDoor
open Go.ChangeShapes Go.WideShapes Go.ChangeAt Go.RowKit Go.Joins Go.Deep Go.WideElems Go.Maps Go.Proofs.YtjmgkjjcdnaapaaDoorW.PrintWords
open Go.ChangeMaps (open_string shut_string)
set_option linter.unusedSimpArgs false
set_option linter.unusedVariables false
set_option maxRecDepth 100000
/-- a slice's datum of n elements. -/
def Held {H : Type} (d : DataW H) (n : Nat) : Prop := (d = .nil ∧ n = 0) ∨ ∃ es sp, d = .slice es sp ∧ es.length = n
section
variable {H : Type} {enc : TypeId × Value → H} {P : Program} {w : World} {base : Nat} {sp : Nat → Bool} {held : Bool}
theorem trod_slots2 {n : Nat} {t e : TypeId} {f0 f1 : Field} {v : Value} {y : DataW H × List MemPlace} (ht : P.underlying t = some (.slice e)) (he : P.underlying e = some (.struct #[f0, f1])) (hone : oneCellFields P #[f0, f1] = true) (hC : P.cellsOf e = 2)
    (h0 : P.underlying f0.type = some .string) (h1 : P.underlying f1.type = some .string) (h : DataW.trod enc P w base sp held n t [v] = some y) :
    ∃ (A : Option Addr) (c : Nat) (l : List S68), v = .slice A l.length c ∧ Kd.C k68 w A l.length l ∧ l.length ≤ c ∧ Held y.1 l.length ∧ (A = none → c = 0) := by
  rcases open_slice_fields ht he hone hC h with ⟨hcs, hx0⟩ | ⟨a, len, cap, m, D, Pl, hcs, hb, hl, hm, hmm, hx, hi⟩
  · injection hcs with hcs
    exact ⟨none, 0, [], hcs, ⟨rfl, by simp, fun h => absurd h (by simp)⟩, by simp, .inl ⟨by simp_all, rfl⟩, fun _ => rfl⟩
  · injection hcs with hcs
    have hlm : len ≤ m := by rw [hmm]; split <;> omega
    obtain ⟨l, hlen, hp⟩ := list_of (p := fun i (x : S68) => w.cell? (a.add (i * 2)) = some (.string x.f0) ∧ w.cell? (a.add (i * 2 + 1)) = some (.string x.f1)) len (fun i hi' => by
      obtain ⟨ys, n', _, _, _, hf⟩ := hi i (by omega)
      obtain ⟨v0, y0, c0, _, t0⟩ := hf 0 f0 rfl
      obtain ⟨v1, y1, c1, _, t1⟩ := hf 1 f1 rfl
      obtain ⟨x0, rfl⟩ := trod_txt h0 t0
      obtain ⟨x1, rfl⟩ := trod_txt h1 t1
      exact ⟨⟨x0, x1⟩, c0, c1⟩)
    refine ⟨some a, cap, l, by rw [hlen]; exact hcs, ⟨rfl, by have : maxLen ≤ 9223372036854775807 := (by decide); omega, fun _ => ⟨a, rfl, fun j p hj => ?_⟩⟩, by omega, .inr ⟨_, _, by rw [hx], by simp; omega⟩, fun h => by cases h⟩
    obtain ⟨c0, c1⟩ := hp j p hj
    refine ⟨[.string p.f0, .string p.f1], rfl, k68_mk _ _, fun i u hu => ?_⟩
    match i, hu with
    | 0, hu => injection hu with hu; subst hu; exact c0
    | 1, hu => injection hu with hu; subst hu; exact c1
theorem trod_texts2 {n : Nat} {t e : TypeId} {v : Value} {y : DataW H × List MemPlace} (ht : P.underlying t = some (.slice e)) (he : P.underlying e = some .string) (hc : P.cellsOf e = 1) (h : DataW.trod enc P w base sp held n t [v] = some y) :
    ∃ (A : Option Addr) (c : Nat) (l : List ByteArray), v = .slice A l.length c ∧ Kd.C Kd.string w A l.length l ∧ l.length ≤ c ∧ Held y.1 l.length ∧ (A = none → c = 0) := by
  rcases open_strings ht he hc h with ⟨hcs, hx0⟩ | ⟨a, len, cap, ss, hcs, _, hl, hm, hz, hx, hcell, hsz⟩
  · injection hcs with hcs
    exact ⟨none, 0, [], hcs, ⟨rfl, by simp, fun h => absurd h (by simp)⟩, by simp, .inl ⟨by simp_all, rfl⟩, fun _ => rfl⟩
  · injection hcs with hcs
    have hlen : len ≤ ss.length := by rw [hz]; split <;> omega
    obtain ⟨l, hll, hp⟩ := list_of (p := fun i (x : ByteArray) => w.cell? (a.add i) = some (.string x)) len (fun i hi' => ⟨_, hcell i (by omega)⟩)
    refine ⟨some a, cap, l, by rw [hll]; exact hcs, ⟨rfl, by have : maxLen ≤ 9223372036854775807 := (by decide); omega, fun _ => ⟨a, rfl, fun j p hj => ?_⟩⟩, by omega, .inr ⟨_, _, by rw [hx], by unfold strs; rw [List.length_map, List.length_take]; omega⟩, fun h => by cases h⟩
    have c0 := hp j p hj
    refine ⟨[.string p], rfl, rfl, fun i u hu => ?_⟩
    match i, hu with
    | 0, hu => injection hu with hu; subst hu; simpa [Kd.string, Kd.scalar] using c0
end
theorem open_mail2 {H : Type} {enc : TypeId × Value → H} {w : World} {base : Nat} {sp : Nat → Bool} {held : Bool} {r : Reach} {b0 : Nat} {v : Value} {d : DataW H} {ps : List MemPlace}
    (hval : Value.okWide Tryd.prog w r b0 25 v) (hd : DataW.Trod enc Tryd.prog w base sp held 25 v d ps) :
    ∃ (a0 a1 a2 : Int) (a3 a4 : ByteArray) (A5 : Option Addr) (c5 : Nat) (l5 : List S68) (A6 : Option Addr) (c6 : Nat) (l6 : List ByteArray), v = .agg #[.int .i64 a0, .int .i64 a1, .int .i64 a2, .string a3, .string a4, .slice A5 l5.length c5, .slice A6 l6.length c6] ∧
      Kd.C k68 w A5 l5.length l5 ∧ l5.length ≤ c5 ∧ Kd.C Kd.string w A6 l6.length l6 ∧ l6.length ≤ c6 ∧
      ∃ y0 y1 y2 y3 y4 y5 y6 : DataW H, d = .agg [y0, y1, y2, y3, y4, y5, y6] ∧ Held y5 l5.length ∧ Held y6 l6.length ∧ (A5 = none → c5 = 0) ∧ (A6 = none → c6 = 0) := by
  obtain ⟨v0, v1, v2, v3, v4, v5, v6, y0, y1, y2, y3, y4, y5, y6, n, rfl, rfl, t0, t1, t2, t3, t4, t5, t6⟩ := open_agg7 Tryd.underlying25 (by kernel_rfl) (by kernel_rfl) hval hd
  obtain ⟨a0, rfl⟩ := trod_i64 Tryd.underlying3 t0
  obtain ⟨a1, rfl⟩ := trod_i64 Tryd.underlying3 t1
  obtain ⟨a2, rfl⟩ := trod_i64 Tryd.underlying3 t2
  obtain ⟨a3, rfl⟩ := trod_txt Tryd.underlying9 t3
  obtain ⟨a4, rfl⟩ := trod_txt Tryd.underlying9 t4
  obtain ⟨A5, c5, l5, rfl, h5, g5, s5, z5⟩ := trod_slots2 Tryd.underlying22 Tryd.underlying68 (by kernel_rfl) (by kernel_rfl) Tryd.underlying9 Tryd.underlying9 t5
  obtain ⟨A6, c6, l6, rfl, h6, g6, s6, z6⟩ := trod_texts2 Tryd.underlying23 Tryd.underlying9 (by kernel_rfl) t6
  exact ⟨a0, a1, a2, a3, a4, A5, c5, l5, A6, c6, l6, rfl, h5, g5, h6, g6, _, _, _, _, _, _, _, rfl, s5, s6, z5, z6⟩
theorem Held.weight {H : Type} {P : Program} {t e : TypeId} {d : DataW H} {n : Nat} (h : Held d n) (hu : P.underlying t = some (.slice e)) (hw : ∀ x ∈ d.weights P t, x ≤ reachBytes) : n * P.bytesOf e ≤ reachBytes := by
  rcases h with ⟨rfl, rfl⟩ | ⟨es, sp, rfl, rfl⟩
  · simp
  · have := hw ((es.length + sp.length) * P.bytesOf e) (by simp [DataW.weights, hu])
    exact Nat.le_trans (Nat.mul_le_mul_right _ (Nat.le_add_right _ _)) this
theorem sized_mail {H : Type} {ts : List TypeId} {ds : List (DataW H)} (h : (DataW.weightsEach Tryd.prog ts ds).all (· ≤ reachBytes) = true) {j n5 n6 : Nat} {y0 y1 y2 y3 y4 y5 y6 : DataW H}
    (ht : ts[j]? = some 25) (hd : ds[j]? = some (.agg [y0, y1, y2, y3, y4, y5, y6])) (h5 : Held y5 n5) (h6 : Held y6 n6) : n5 < 4398046511104 ∧ n6 < 8796093022208 := by
  have hw : ∀ x ∈ (DataW.agg [y0, y1, y2, y3, y4, y5, y6]).weights Tryd.prog 25, x ≤ reachBytes := fun x hx => of_decide_eq_true (List.all_eq_true.1 h _ (DataW.weights_mem_each ht hd _ hx))
  simp only [DataW.weights, Tryd.underlying25, List.map_cons, List.map_nil, DataW.weightsEach, List.append_nil] at hw
  have w5 := h5.weight (t := 22) Tryd.underlying22 (fun x hx => hw x (by simp [hx]))
  have w6 := h6.weight (t := 23) Tryd.underlying23 (fun x hx => hw x (by simp [hx]))
  rw [show Tryd.prog.bytesOf 68 = 32 by kernel_rfl] at w5
  rw [show Tryd.prog.bytesOf 9 = 16 by kernel_rfl] at w6
  have : reachBytes = 140737488351232 := by decide
  omega
end Go.Proofs.YtjmgkjjcdnaapaaDoor
namespace Go.Proofs.YtjmgkjjcdnaapaaDoor
open Go.RowKit Go.Proofs.YtjmgkjjcdnaapaaDoor.PMailA Go.Proofs.YtjmgkjjcdnaapaaDoorW.PrintWords Go.Proofs.YtjmgkjjcdnaapaaDoorW.PrintLast
set_option linter.unusedSimpArgs false
set_option linter.unusedVariables false
theorem slotsOk_true (l : List S68) : slotsOk true l = !(l.any someB) := by
  induction l with
  | nil => rfl
  | cons a l ih =>
    rw [slotsOk, List.any_cons]
    cases h : someB a with
    | true => simp
    | false =>
      have : slotsOk (!false) l = !(l.any someB) := ih
      rw [this]; simp
theorem entry_some {a : S68} (h : entryB a = true) : someB a = true := by
  unfold entryB idB at h
  simp only [Bool.and_eq_true, beq_iff_eq] at h
  cases hs : someB a with
  | true => rfl
  | false =>
    obtain ⟨h0, _⟩ := someB_no hs
    rw [ByteArray.toList_eq] at h0
    have := size_nil h0
    omega
theorem slotsOk_lead (l : List S68) : slotsOk false l = !((l.drop (leadN l)).any someB) := by
  induction l with
  | nil => rfl
  | cons a l ih =>
    unfold leadN at ih ⊢
    rw [slotsOk]
    by_cases he : entryB a = true
    · rw [List.takeWhile_cons_of_pos he, List.length_cons, List.drop_succ_cons, entry_some he, he, ← ih]
      rfl
    · rw [List.takeWhile_cons_of_neg he, List.length_nil, List.drop_zero, List.any_cons]
      have he2 : entryB a = false := by simpa using he
      rw [he2]
      cases h : someB a with
      | true => simp
      | false =>
        have := slotsOk_true l
        show (_ && slotsOk true l) = _
        rw [this]; simp
theorem slots_filled (l : List S68) : ((l.length == 4) && slotsOk false l) = filledB l := by
  unfold filledB
  rw [slotsOk_lead]
theorem refId_eq (a : ByteArray) : dovecoteref11_id.f a = some (idB a) := by
  have e : strOfNums (List.replicate 16 (0 : Int)) = tx noIdL := by
    have := strOfNums_n8 noIdL
    rw [← show strOfNums (noIdL.map n8) = tx noIdL from this]
    rfl
  unfold dovecoteref11_id.f idB
  rw [e, ByteArray.toList_eq (tx noIdL), tx_list]
  by_cases h : a.size = 16
  · rw [if_pos (by omega), if_pos (by decide), h]; rfl
  · rw [if_neg (by omega)]
    rw [show (a.size == 16) = false by simpa using h]; rfl
theorem ids_ev (l : List ByteArray) (hl : l.length ≤ 9223372036854775807) (d : Nat) : ∀ i, i + d = l.length → Ev (fun k => dovecoteref11_ids.l0 k l (i : Int)) ((l.drop i).all idB && decide (l.length ≤ 4)) := by
  induction d with
  | zero =>
    intro i hi
    obtain rfl : i = l.length := by omega
    refine Ev.step (f := fun _ => some _) (fun k => ?_) (Ev.now _)
    simp only [dovecoteref11_ids.l0]
    rw [if_neg (by omega), List.drop_length]
    simp
    omega
  | succ d ih =>
    intro i hi
    have hlt : i < l.length := by omega
    have hd : l.drop i = l[i] :: l.drop (i + 1) := List.drop_eq_getElem_cons hlt
    have hr : rdOf ByteArray.empty l (i : Int) = l[i] := by
      unfold rdOf
      rw [Int.toNat_natCast, List.getD_eq_getElem?_getD, List.getElem?_eq_getElem hlt]
      rfl
    cases hb : idB l[i] with
    | true =>
      rw [hd, List.all_cons, hb, Bool.true_and]
      refine Ev.step (f := fun k => dovecoteref11_ids.l0 k l ((i + 1 : Nat) : Int)) (fun k => ?_) (ih (i + 1) (by omega))
      simp only [dovecoteref11_ids.l0]
      rw [if_pos (by omega), if_pos (by omega), hr, refId_eq, hb]
      simp only [Option.bind_some, if_true]
      rw [show wrap64 ((i : Int) + 1) = ((i + 1 : Nat) : Int) by unfold wrap64; omega]
    | false =>
      rw [hd, List.all_cons, hb, Bool.false_and, Bool.false_and]
      refine Ev.step (f := fun _ => some false) (fun k => ?_) (Ev.now _)
      simp only [dovecoteref11_ids.l0]
      rw [if_pos (by omega), if_pos (by omega), hr, refId_eq, hb]
      simp
theorem any_all (l : List ByteArray) : (l.any fun a => !idB a) = !(l.all idB) := by
  induction l with
  | nil => rfl
  | cons a l ih => rw [List.any_cons, List.all_cons, ih, Bool.not_and]
theorem chk_good {kd u q : Int} {text tag : ByteArray} {ls : List S68} {li : List ByteArray} (g : Good kd u q text tag ls li) : mail_Check.f 2 kd u q text tag ls li = some 0 := by
  rw [chk_f, chk_j, mail_Check.j1]
  unfold mail_filled.f mail_stranger.f
  simp only [Option.bind_some]
  rcases g with ⟨rfl, rfl, rfl, h1, h2, rfl, rfl⟩ | ⟨⟨r1, r2, r3, r4⟩, ht, ⟨rfl, h1, rfl, rfl⟩ | ⟨rfl, h1, h2, rfl⟩ | ⟨rfl, h1, rfl, h2, h3⟩⟩
  · simp [h1, h2]
  · simp [h1, ht, r1, r2, r3, r4]
  · simp [h1, ht, r1, r2, r3, r4, h2]
  · simp [h1, ht, r1, r2, r3, r4, h3]
    omega
theorem ref_f (k : Nat) (kd u q : Int) (text tag : ByteArray) (ls : List S68) (li : List ByteArray) :
    dovecoteref11_Check.f k kd u q text tag ls li = dovecoteref11_Check.j0 k (decide ((0 ≤ u ∧ u < 64 ∧ 1 ≤ q ∧ q ≤ 2147483647) ∧ text.toList = [])) kd u q text tag ls li := by
  unfold dovecoteref11_Check.f
  by_cases h1 : 0 ≤ u
  · by_cases h2 : u < 64
    · by_cases h3 : 1 ≤ q
      · by_cases h4 : q ≤ 2147483647
        · by_cases h5 : text.toList = []
          · simp [h1, h2, h3, h4, h5]
          · have h6 : (text.toList == []) = false := beq_eq_false_iff_ne.mpr h5
            rw [if_pos h1, if_pos h2, if_pos h3, if_pos h4, h6]
            simp [h5]
        · simp [h1, h2, h3, h4]
      · simp [h1, h2, h3]
    · simp [h1, h2]
  · simp [h1]
/-- the reference lets pass what may be, and no more. -/
theorem refchk (kd u q : Int) (text tag : ByteArray) (ls : List S68) (li : List ByteArray) (hl : li.length ≤ 9223372036854775807) :
    (Ev (fun k => dovecoteref11_Check.f k kd u q text tag ls li) 0 ∧ Good kd u q text tag ls li) ∨ (Ev (fun k => dovecoteref11_Check.f k kd u q text tag ls li) 110 ∧ ¬ Good kd u q text tag ls li) := by
  have hids : Ev (fun k => dovecoteref11_ids.f k li) (li.all idB && decide (li.length ≤ 4)) := by
    unfold dovecoteref11_ids.f
    have := ids_ev li hl li.length 0 (by omega)
    simpa using this
  obtain ⟨K, hK⟩ := hids
  have hs : ∀ l, dovecoteref11_slots.f l = some (filledB l) := fun l => by unfold dovecoteref11_slots.f; rw [slots_filled]
  by_cases g : Good kd u q text tag ls li
  · refine Or.inl ⟨⟨K + 1, fun k hk => ?_⟩, g⟩
    obtain ⟨k', rfl⟩ : ∃ k', k = k' + 1 := ⟨k - 1, by omega⟩
    have hk' : dovecoteref11_ids.f k' li = some (li.all idB && decide (li.length ≤ 4)) := hK k' (by omega)
    show dovecoteref11_Check.f (k' + 1) kd u q text tag ls li = some 0
    rw [ref_f, dovecoteref11_Check.j0, hs, hk']
    rcases g with ⟨rfl, rfl, rfl, h1, h2, rfl, rfl⟩ | ⟨⟨r1, r2, r3, r4⟩, ht, ⟨rfl, h1, rfl, rfl⟩ | ⟨rfl, h1, h2, rfl⟩ | ⟨rfl, h1, rfl, h2, h3⟩⟩
    · simp [h1, h2]
    · simp [h1, ht, r1, r2, r3, r4]
    · simp [h1, ht, r1, r2, r3, r4, h2]
    · rw [any_all] at h3
      have h4 : li.all idB = true := by simpa using h3
      simp [h1, ht, r1, r2, r3, r4, h2, h4]
  · refine Or.inr ⟨⟨K + 1, fun k hk => ?_⟩, g⟩
    obtain ⟨k', rfl⟩ : ∃ k', k = k' + 1 := ⟨k - 1, by omega⟩
    have hk' : dovecoteref11_ids.f k' li = some (li.all idB && decide (li.length ≤ 4)) := hK k' (by omega)
    show dovecoteref11_Check.f (k' + 1) kd u q text tag ls li = some 110
    rw [ref_f, dovecoteref11_Check.j0, hs, hk']
    simp only [Option.bind_some]
    unfold Good at g
    rw [any_all] at g
    repeat' split
    all_goals first | rfl | skip
    all_goals
      exfalso
      apply g
      simp_all
      try omega
end Go.Proofs.YtjmgkjjcdnaapaaDoor
namespace Go.Proofs.YtjmgkjjcdnaapaaDoor.PMailA
open Go.RowKit Go.Proofs.YtjmgkjjcdnaapaaDoorW.PrintWords Go.Proofs.YtjmgkjjcdnaapaaDoorW.PrintLast Go.Proofs.YtjmgkjjcdnaapaaDoorW.PrintMore
attribute [local go_sem] max2_int min2_int max_two min_two max_three min_three max_four min_four   -- for this text's walks alone
set_option linter.unusedVariables false
set_option linter.unusedSimpArgs false

/-! ### dovecoteref11_padded: function 67 -/
def dovecoteref11_padded.f (a0 : ByteArray) (a1 : Int) : Option (ByteArray) := if 0 ≤ (wrap64 (a1 - (a0.size : Int))) then (if (wrap64 (a1 - (a0.size : Int)) : Int).toNat ≤ 281474976710656 then ((some (List.replicate (wrap64 (a1 - (a0.size : Int)) : Int).toNat 0 : List Int)).bind fun y147 => (if a0.size + (strOfNums y147).size ≤ 9223372036854775807 then (some (a0 ++ (strOfNums y147))) else (none))) else (none)) else (none)
set_option maxHeartbeats 8000000 in
set_option maxRecDepth 100000 in
theorem dovecoteref11_padded.calls (a0 : ByteArray) (a1 : Int) (r : ByteArray) (w : World) (h : dovecoteref11_padded.f a0 a1 = some r) :
    Calls Tryd.prog 67 #[.string a0, .int .i64 a1] w fun e w' => e = .returned (.string r) ∧ Below w.heap.size w w' := by
  have HB := Aside0.mk (Below.refl w.heap.size w)
  have H : (if 0 ≤ (wrap64 (a1 - (a0.size : Int))) then (if (wrap64 (a1 - (a0.size : Int)) : Int).toNat ≤ 281474976710656 then ((some (List.replicate (wrap64 (a1 - (a0.size : Int)) : Int).toNat 0 : List Int)).bind fun y147 => (if a0.size + (strOfNums y147).size ≤ 9223372036854775807 then (some (a0 ++ (strOfNums y147))) else (none))) else (none)) else (none)) = some r := h
  clear h
  obtain ⟨ji3, hji3⟩ : ∃ j_ : Int, (wrap64 (a1 - (a0.size : Int))) = j_ := ⟨_, rfl⟩
  replace H : (if 0 ≤ (ji3) then (if (ji3 : Int).toNat ≤ 281474976710656 then ((some (List.replicate (ji3 : Int).toNat 0 : List Int)).bind fun y147 => (if a0.size + (strOfNums y147).size ≤ 9223372036854775807 then (some (a0 ++ (strOfNums y147))) else (none))) else (none)) else (none)) = some r := by first | (rw [hji3] at H; exact H) | (simp only [hji3] at H ⊢; exact H)
  have hji3w : (IntKind.i64.wrap (a1 - (a0.size : Int))) = ji3 := (i64_w _).trans hji3
  by_cases c4 : 0 ≤ (ji3)
  · rw [if_pos c4] at H
    have c4b0 := eq_true c4
    have c4b1 : decide (0 ≤ (ji3)) = true := decide_eq_true c4
    clear c4
    by_cases c5 : (ji3 : Int).toNat ≤ 281474976710656
    · rw [if_pos c5] at H
      have c5b0 := eq_true c5
      have c5b1 : decide ((ji3 : Int).toNat ≤ 281474976710656) = true := decide_eq_true c5
      clear c5
      obtain ⟨y147, hy147⟩ : ∃ y_ : List Int, y_ = (List.replicate (ji3 : Int).toNat 0) := ⟨_, rfl⟩
      replace H : (if a0.size + (strOfNums y147).size ≤ 9223372036854775807 then (some (a0 ++ (strOfNums y147))) else (none)) = some r := by first | (rw [hy147]; with_reducible exact H) | (have H2_ := (Option.bind_some _ _).symm.trans H; rw [hy147]; with_reducible exact H2_) | (have H2_ := (Option.bind_some _ _).symm.trans H; with_reducible exact H2_) | with_reducible exact H | (rw [hy147]; exact H) | exact H
      have Ny147 := Aside0.mk hy147
      clear hy147
      by_cases c6 : a0.size + (strOfNums y147).size ≤ 9223372036854775807
      · rw [if_pos c6] at H
        have c6b0 := eq_true c6
        have c6b1 : decide (a0.size + (strOfNums y147).size ≤ 9223372036854775807) = true := decide_eq_true c6
        try have c6b2 : (9223372036854775807 < a0.size + (strOfNums y147).size) = False := eq_false (Nat.not_lt.2 c6)
        obtain rfl := Option.some.inj H
        go_enter Tryd.func67, Tryd.ntmps67
        go_wp2_with (first | ((with_reducible refine gate_dst (N := 10) rfl ?_); refine Kd.R_make (Kd.int .u8) _ 5 rfl (N := 10) rfl 61 _ _ rfl ji3 rfl rfl Tryd.underlying61 (.int .u8 0) 1 info5 rfl (by decide) (by omega) 0 (ok := fun _ => True) (okp := fun _ => True) rfl (fun _ hk => hk) trivial (of_decide_eq_true (by first | (with_reducible assumption) | assumption)) (Nat.le_trans (Nat.mul_le_mul_right _ (of_decide_eq_true (by first | (with_reducible assumption) | assumption) : ji3.toNat ≤ 281474976710656)) (by omega)) (Below.refl _ _) (Nat.le_refl _) ?_; intro v148 w7 ho8 hb hg_ hnew_; clear hg_ hnew_; (first | rw [← Ny147.out] at ho8 | (simp only [Int.reduceToNat] at ho8; rw [← Ny147.out] at ho8)); have n0_ := Aside0.mk (Kd.R_lower ho8 (below_size (by repeat (first | (with_reducible first | exact HB.out | apply below_alloc | apply pw_below_drewN | apply below_drew1) | exact HB.out)))); have n1_ := Aside0.mk (below_step (by repeat (first | (with_reducible first | exact HB.out | apply below_alloc | apply pw_below_drewN | apply below_drew1) | exact HB.out)) hb); clear HB; have HO149 := n0_; have HB := n1_; clear n0_ n1_; clear hb ho8; have hcv9 := own_string (P := Tryd.prog) Tryd.underlying61 Tryd.underlying5 Tryd.underlying9 (Kd.own_of_R HO149.out)))
        go_ret
        exact ⟨by first | rfl | (simp [errW_none, errW_some] <;> rfl) | (simp only [← hji3]; first | rfl | (simp [errW_none, errW_some] <;> rfl)) | (simp [*, errW_none, errW_some] <;> rfl), by repeat (first | (with_reducible first | exact HB.out | apply below_alloc | apply pw_below_drewN | apply below_drew1) | exact HB.out)⟩
      · rw [if_neg c6] at H
        exact absurd H (by simp)
    · rw [if_neg c5] at H
      exact absurd H (by simp)
  · rw [if_neg c4] at H
    exact absurd H (by simp)

end Go.Proofs.YtjmgkjjcdnaapaaDoor.PMailA

/- Printed by a program of this session (hook.py, by way of the kit's print): the functions as Lean functions, each with the proof that the Go code comes to its answers; conditions: as each theorem states. The reference's Encode is Encode, plainly. The reference's SHA-256 (whole text, sixty-four words, turn by a sum) is the hasher's: plain laws, no program in sight. The walks of the reference's turn, ks, grown. The walk of the reference's grown: the sixty-four words of a block. The walk of the reference's mixed: eight words, with a block. The walks of the reference's whole and Digest. The walk of the reference's Digest; Sum, Bind, Short with it. The walk of the reference's Tag. The reference's blank, tag, Sign; what a message's plain text is. The law MailWrites: the walk and the plain law, joined. The law GateSigns: what is signed is as the document has it. -/
import Derived.Test.YtjmgkjjcdnaapaaDoorZ1a9914c9
import Derived.Test.YtjmgkjjcdnaapaaDoorZ17126210
import Derived.Test.YtjmgkjjcdnaapaaDoorZ9a867bbf
import Derived.RegionTactic
import Derived.BigRegion
import Derived.Deep.RegionLaw
import Derived.Deep.RegionHeldLaw
import Derived.Deep.RegionHeld3
import Derived.WalkLawsBesides
import Derived.Deep.RegionWith
namespace Go.Proofs.YtjmgkjjcdnaapaaDoor.PMailA
open Go.RowKit Go.Proofs.YtjmgkjjcdnaapaaDoorW.PrintWords Go.Proofs.YtjmgkjjcdnaapaaDoorW.PrintLast Go.Proofs.YtjmgkjjcdnaapaaDoorW.PrintMore
attribute [local go_sem] max2_int min2_int max_two min_two max_three min_three max_four min_four   -- for this text's walks alone
set_option linter.unusedVariables false
set_option linter.unusedSimpArgs false

/-! ### dovecoteref11_Text: function 48 -/
mutual
def dovecoteref11_Text.l0 : Nat → ByteArray → Int → Int → Int → Int → ByteArray → ByteArray → List (S68) → List ByteArray → Option (ByteArray)
  | 0, _, _, _, _, _, _, _, _, _ => none
  | k + 1, x3, x4, x151000, x151001, x151002, x151003, x151004, x151005, x151006 => if x4 < 4 then (dovecoteref11_Text.j1 k x3 x4 (x151000 == 4) x151000 x151001 x151002 x151003 x151004 x151005 x151006) else (dovecoteref11_Text.j1 k x3 x4 false x151000 x151001 x151002 x151003 x151004 x151005 x151006)
def dovecoteref11_Text.j1 : Nat → ByteArray → Int → Bool → Int → Int → Int → ByteArray → ByteArray → List (S68) → List ByteArray → Option (ByteArray)
  | 0, _, _, _, _, _, _, _, _, _, _ => none
  | k + 1, x3, x4, x45, x151000, x151001, x151002, x151003, x151004, x151005, x151006 => if x45 = true then (if x4 < (x151006.length : Int) then (if 0 ≤ x4 then (if x3.size + (rdOf ByteArray.empty x151006 x4).size ≤ 9223372036854775807 then (dovecoteref11_Text.l0 k (x3 ++ (rdOf ByteArray.empty x151006 x4)) (wrap64 (x4 + 1)) x151000 x151001 x151002 x151003 x151004 x151005 x151006) else (none)) else (none)) else ((dovecoteref11_padded.f (⟨#[]⟩ : ByteArray) 16).bind fun t155 => (if x3.size + t155.size ≤ 9223372036854775807 then (dovecoteref11_Text.l0 k (x3 ++ t155) (wrap64 (x4 + 1)) x151000 x151001 x151002 x151003 x151004 x151005 x151006) else (none)))) else (dovecoteref11_Text.l1 k x3 0 x151000 x151001 x151002 x151003 x151004 x151005 x151006)
def dovecoteref11_Text.l1 : Nat → ByteArray → Int → Int → Int → Int → ByteArray → ByteArray → List (S68) → List ByteArray → Option (ByteArray)
  | 0, _, _, _, _, _, _, _, _, _ => none
  | k + 1, x3, x5, x151000, x151001, x151002, x151003, x151004, x151005, x151006 => if x5 < (x151005.length : Int) then (if 0 ≤ x5 then ((dovecoteref11_padded.f ((rd_T68 x151005 x5).f0) 16).bind fun t158 => ((some (([((((rd_T68 x151005 x5).f1).size : Int)) % 256] : List Int) : List Int)).bind fun y159 => (if t158.size + (strOfNums y159).size ≤ 9223372036854775807 then ((dovecoteref11_padded.f ((rd_T68 x151005 x5).f1) 222).bind fun t162 => (if (t158 ++ (strOfNums y159)).size + t162.size ≤ 9223372036854775807 then (if x3.size + ((t158 ++ (strOfNums y159)) ++ t162).size ≤ 9223372036854775807 then (dovecoteref11_Text.l1 k (x3 ++ ((t158 ++ (strOfNums y159)) ++ t162)) (wrap64 (x5 + 1)) x151000 x151001 x151002 x151003 x151004 x151005 x151006) else (none)) else (none))) else (none)))) else (none)) else (some x3)
end
def dovecoteref11_Text.f (k : Nat) (a0_0 : Int) (a0_1 : Int) (a0_2 : Int) (a0_3 : ByteArray) (a0_4 : ByteArray) (l0_5 : List (S68)) (l0_6 : List ByteArray) : Option (ByteArray) := if a0_0 = 1 then (if 1 + a0_3.size ≤ 9223372036854775807 then (some ((⟨#[1]⟩ : ByteArray) ++ a0_3)) else (none)) else ((some (([(a0_0) % 256, (a0_1) % 256, (a0_2 / 16777216) % 256, (a0_2 / 65536) % 256, (a0_2 / 256) % 256, (a0_2) % 256] : List Int) : List Int)).bind fun y151 => (if (strOfNums y151).size + a0_4.size ≤ 9223372036854775807 then (dovecoteref11_Text.l0 k ((strOfNums y151) ++ a0_4) 0 a0_0 a0_1 a0_2 a0_3 a0_4 l0_5 l0_6) else (none)))
def dovecoteref11_Text.T14 : Bool × List (List Nat × List Nat) := (true, [([], []), ([], []), ([1], [1]), ([2], [2]), ([], []), ([4], [4]), ([5], [5]), ([6], [6]), ([7], [7]), ([8], [8]), ([3, 9], [3, 9]), ([], []), ([11], [11]), ([12, 3], [12]), ([10, 13], [10, 13]), ([0, 14], [0, 14]), ([15, 13, 0, 1, 2, 3, 4, 5, 6, 7, 8, 9, 10, 11, 12, 13, 14, 15], [0, 15])])
def dovecoteref11_Text.B14 : List Nat := [0, 0, 2, 6, 0, 16, 48, 112, 240, 496, 1022, 0, 2048, 6158, 16382, 32767, 65535]
theorem dovecoteref11_Text.tab14 : rtab .any (opsOf Tryd.f48 14) = dovecoteref11_Text.T14 := by kernel_rfl
theorem dovecoteref11_Text.bits14 : waitsOk dovecoteref11_Text.T14.2 dovecoteref11_Text.B14 = true := by kernel_rfl
set_option maxHeartbeats 8000000 in
set_option maxRecDepth 100000 in
theorem dovecoteref11_Text.calls (k : Nat) (a0_0 : Int) (a0_1 : Int) (a0_2 : Int) (a0_3 : ByteArray) (a0_4 : ByteArray) (A0_5 : Option Addr) (c0_5 : Nat) (l0_5 : List (S68)) (A0_6 : Option Addr) (c0_6 : Nat) (l0_6 : List ByteArray) (r : ByteArray) (w : World) (hr0_5 : Kd.C k68 w A0_5 l0_5.length l0_5) (hc0_5 : l0_5.length ≤ c0_5) (hr0_6 : Kd.C Kd.string w A0_6 l0_6.length l0_6) (hc0_6 : l0_6.length ≤ c0_6) (h : dovecoteref11_Text.f k a0_0 a0_1 a0_2 a0_3 a0_4 l0_5 l0_6 = some r) :
    Calls Tryd.prog 48 #[.agg #[.int .i64 a0_0, .int .i64 a0_1, .int .i64 a0_2, .string a0_3, .string a0_4, .slice A0_5 l0_5.length c0_5, .slice A0_6 l0_6.length c0_6]] w fun e w' => e = .returned (.string r) ∧ Below w.heap.size w w' := by
  have hu25 := Tryd.underlying25
  have hu68 := Tryd.underlying68
  have HR0_5 := Aside0.mk hr0_5
  have HC0_5 := Aside0.mk hc0_5
  clear hr0_5 hc0_5
  have HR0_6 := Aside0.mk hr0_6
  have HC0_6 := Aside0.mk hc0_6
  clear hr0_6 hc0_6
  have HB := Aside0.mk (Below.refl w.heap.size w)
  have H : (if a0_0 = 1 then (if 1 + a0_3.size ≤ 9223372036854775807 then (some ((⟨#[1]⟩ : ByteArray) ++ a0_3)) else (none)) else ((some (([(a0_0) % 256, (a0_1) % 256, (a0_2 / 16777216) % 256, (a0_2 / 65536) % 256, (a0_2 / 256) % 256, (a0_2) % 256] : List Int) : List Int)).bind fun y151 => (if (strOfNums y151).size + a0_4.size ≤ 9223372036854775807 then (dovecoteref11_Text.l0 k ((strOfNums y151) ++ a0_4) 0 a0_0 a0_1 a0_2 a0_3 a0_4 l0_5 l0_6) else (none)))) = some r := h
  clear h
  by_cases c2 : a0_0 = 1
  · rw [if_pos c2] at H
    have c2b0 : (a0_0 == 1) = true := beq_iff_eq.mpr c2
    have c2b1 : (a0_0 != 1) = false := bne_eq_false_iff_eq.mpr c2
    clear c2
    by_cases c3 : 1 + a0_3.size ≤ 9223372036854775807
    · rw [if_pos c3] at H
      have c3b0 := eq_true c3
      have c3b1 : decide (1 + a0_3.size ≤ 9223372036854775807) = true := decide_eq_true c3
      try have c3b2 : (9223372036854775807 < 1 + a0_3.size) = False := eq_false (Nat.not_lt.2 c3)
      obtain rfl := Option.some.inj H
      go_enter Tryd.func48, Tryd.ntmps48
      go_wp2_with (first | ((with_reducible refine gate_dst (N := 1) rfl ?_); refine box_event ?hg (N := 1) ?hd (cs := #[.int .i64 a0_0, .int .i64 a0_1, .int .i64 a0_2, .string a0_3, .string a0_4, .slice A0_5 l0_5.length c0_5, .slice A0_6 l0_6.length c0_6]) (t := 25) ?hr ?_; (case hd => rfl); (case hg => rfl); (case hr => first | (go_simp; done) | (go_simp; rfl)); intro gb150 hg w4 hbox hb; have n0_ := Aside0.mk (below_step (by repeat (first | (with_reducible first | exact HB.out | apply below_alloc | apply pw_below_drewN | apply below_drew1) | exact HB.out)) hb); have n1_ := Aside0.mk (hbox); have n2_ := Aside0.mk ((by rw [hg]; exact (below_size (by repeat (first | (with_reducible first | exact HB.out | apply below_alloc | apply pw_below_drewN | apply below_drew1) | exact HB.out))) : w.heap.size ≤ gb150)); have n3_ := Aside0.mk ((by rw [hg]; exact (below_size (by repeat (first | (with_reducible first | exact HB.out | apply below_alloc | apply pw_below_drewN | apply below_drew1) | exact HB.out))) : w.heap.size ≤ gb150)); clear HB; have HB := n0_; have BK150 := n1_; have GW150 := n2_; have GE150 := n3_; clear n0_ n1_ n2_ n3_; clear hb hbox hg; have hcz5_0 : w4.cell? ⟨gb150, 0, none⟩ = some (.int .i64 a0_0) := (blk_cell BK150.out 0).trans rfl; have hcz5_1 : w4.cell? ⟨gb150, 1, none⟩ = some (.int .i64 a0_1) := (blk_cell BK150.out 1).trans rfl; have hcz5_2 : w4.cell? ⟨gb150, 2, none⟩ = some (.int .i64 a0_2) := (blk_cell BK150.out 2).trans rfl; have hcz5_3 : w4.cell? ⟨gb150, 3, none⟩ = some (.string a0_3) := (blk_cell BK150.out 3).trans rfl; have hcz5_4 : w4.cell? ⟨gb150, 4, none⟩ = some (.string a0_4) := (blk_cell BK150.out 4).trans rfl; have hcz5_5 : w4.cell? ⟨gb150, 5, none⟩ = some (.slice A0_5 l0_5.length c0_5) := (blk_cell BK150.out 5).trans rfl; have hcz5_6 : w4.cell? ⟨gb150, 6, none⟩ = some (.slice A0_6 l0_6.length c0_6) := (blk_cell BK150.out 6).trans rfl; have hfz5_0 := blk_frozen BK150.out 0; have hfz5_1 := blk_frozen BK150.out 1; have hfz5_2 := blk_frozen BK150.out 2; have hfz5_3 := blk_frozen BK150.out 3; have hfz5_4 := blk_frozen BK150.out 4; have hfz5_5 := blk_frozen BK150.out 5; have hfz5_6 := blk_frozen BK150.out 6))
      go_ret
      exact ⟨by first | rfl | (simp [errW_none, errW_some] <;> rfl) | (simp [*, errW_none, errW_some] <;> rfl), by repeat (first | (with_reducible first | exact HB.out | apply below_alloc | apply pw_below_drewN | apply below_drew1 | refine below_set ?_ GE150.out) | exact HB.out)⟩
    · rw [if_neg c3] at H
      exact absurd H (by simp)
  · rw [if_neg c2] at H
    have c2b0 : (a0_0 == 1) = false := beq_eq_false_iff_ne.mpr c2
    have c2b1 : (a0_0 != 1) = true := bne_iff_ne.mpr c2
    obtain ⟨y151, hy151⟩ : ∃ y_ : List Int, y_ = (([(a0_0) % 256, (a0_1) % 256, (a0_2 / 16777216) % 256, (a0_2 / 65536) % 256, (a0_2 / 256) % 256, (a0_2) % 256] : List Int)) := ⟨_, rfl⟩
    replace H : (if (strOfNums y151).size + a0_4.size ≤ 9223372036854775807 then (dovecoteref11_Text.l0 k ((strOfNums y151) ++ a0_4) 0 a0_0 a0_1 a0_2 a0_3 a0_4 l0_5 l0_6) else (none)) = some r := by first | (rw [hy151]; with_reducible exact H) | (have H2_ := (Option.bind_some _ _).symm.trans H; rw [hy151]; with_reducible exact H2_) | (have H2_ := (Option.bind_some _ _).symm.trans H; with_reducible exact H2_) | with_reducible exact H | (rw [hy151]; exact H) | exact H
    have Ny151 := Aside0.mk hy151
    clear hy151
    by_cases c6 : (strOfNums y151).size + a0_4.size ≤ 9223372036854775807
    · rw [if_pos c6] at H
      have c6b0 := eq_true c6
      have c6b1 : decide ((strOfNums y151).size + a0_4.size ≤ 9223372036854775807) = true := decide_eq_true c6
      try have c6b2 : (9223372036854775807 < (strOfNums y151).size + a0_4.size) = False := eq_false (Nat.not_lt.2 c6)
      have H' := Aside0.mk H
      clear H
      go_enter Tryd.func48, Tryd.ntmps48
      go_wp2_with (first | ((with_reducible refine gate_dst (N := 1) rfl ?_); refine box_event ?hg (N := 1) ?hd (cs := #[.int .i64 a0_0, .int .i64 a0_1, .int .i64 a0_2, .string a0_3, .string a0_4, .slice A0_5 l0_5.length c0_5, .slice A0_6 l0_6.length c0_6]) (t := 25) ?hr ?_; (case hd => rfl); (case hg => rfl); (case hr => first | (go_simp; done) | (go_simp; rfl)); intro gb150 hg w7 hbox hb; have n0_ := Aside0.mk (below_step (by repeat (first | (with_reducible first | exact HB.out | apply below_alloc | apply pw_below_drewN | apply below_drew1) | exact HB.out)) hb); have n1_ := Aside0.mk (hbox); have n2_ := Aside0.mk ((by rw [hg]; exact (below_size (by repeat (first | (with_reducible first | exact HB.out | apply below_alloc | apply pw_below_drewN | apply below_drew1) | exact HB.out))) : w.heap.size ≤ gb150)); have n3_ := Aside0.mk ((by rw [hg]; exact (below_size (by repeat (first | (with_reducible first | exact HB.out | apply below_alloc | apply pw_below_drewN | apply below_drew1) | exact HB.out))) : w.heap.size ≤ gb150)); clear HB; have HB := n0_; have BK150 := n1_; have GW150 := n2_; have GE150 := n3_; clear n0_ n1_ n2_ n3_; clear hb hbox hg; have hcz8_0 : w7.cell? ⟨gb150, 0, none⟩ = some (.int .i64 a0_0) := (blk_cell BK150.out 0).trans rfl; have hcz8_1 : w7.cell? ⟨gb150, 1, none⟩ = some (.int .i64 a0_1) := (blk_cell BK150.out 1).trans rfl; have hcz8_2 : w7.cell? ⟨gb150, 2, none⟩ = some (.int .i64 a0_2) := (blk_cell BK150.out 2).trans rfl; have hcz8_3 : w7.cell? ⟨gb150, 3, none⟩ = some (.string a0_3) := (blk_cell BK150.out 3).trans rfl; have hcz8_4 : w7.cell? ⟨gb150, 4, none⟩ = some (.string a0_4) := (blk_cell BK150.out 4).trans rfl; have hcz8_5 : w7.cell? ⟨gb150, 5, none⟩ = some (.slice A0_5 l0_5.length c0_5) := (blk_cell BK150.out 5).trans rfl; have hcz8_6 : w7.cell? ⟨gb150, 6, none⟩ = some (.slice A0_6 l0_6.length c0_6) := (blk_cell BK150.out 6).trans rfl; have hfz8_0 := blk_frozen BK150.out 0; have hfz8_1 := blk_frozen BK150.out 1; have hfz8_2 := blk_frozen BK150.out 2; have hfz8_3 := blk_frozen BK150.out 3; have hfz8_4 := blk_frozen BK150.out 4; have hfz8_5 := blk_frozen BK150.out 5; have hfz8_6 := blk_frozen BK150.out 6) | ((with_reducible refine gate_dst (N := 34) rfl ?_); refine Kd.R_lit (Kd.int .u8) _ 5 ?hg (N := 34) ?hd (xs := ([(a0_0) % 256, (a0_1) % 256, (a0_2 / 16777216) % 256, (a0_2 / 65536) % 256, (a0_2 / 256) % 256, (a0_2) % 256] : List Int)) (inner := [.int .u8 ((a0_0) % 256), .int .u8 ((a0_1) % 256), .int .u8 ((a0_2 / 16777216) % 256), .int .u8 ((a0_2 / 65536) % 256), .int .u8 ((a0_2 / 256) % 256), .int .u8 ((a0_2) % 256)]) (ok := fun _ => True) (okp := fun _ => True) ?hr ?hp (fun _ hk => hk) trivial (Below.refl _ _) (Nat.le_refl _) (by simp) ?_; (case hd => rfl); (case hg => rfl); (case hr => first | (go_simp; done) | (go_simp; rfl)); (case hp => exact (Reps.one (show Kd.M (Kd.int .u8) _ _ _ ((a0_0) % 256) [.int .u8 ((a0_0) % 256)] from rfl) (Reps.one (show Kd.M (Kd.int .u8) _ _ _ ((a0_1) % 256) [.int .u8 ((a0_1) % 256)] from rfl) (Reps.one (show Kd.M (Kd.int .u8) _ _ _ ((a0_2 / 16777216) % 256) [.int .u8 ((a0_2 / 16777216) % 256)] from rfl) (Reps.one (show Kd.M (Kd.int .u8) _ _ _ ((a0_2 / 65536) % 256) [.int .u8 ((a0_2 / 65536) % 256)] from rfl) (Reps.one (show Kd.M (Kd.int .u8) _ _ _ ((a0_2 / 256) % 256) [.int .u8 ((a0_2 / 256) % 256)] from rfl) (Reps.one (show Kd.M (Kd.int .u8) _ _ _ ((a0_2) % 256) [.int .u8 ((a0_2) % 256)] from rfl) (Reps.none _ _)))))))); intro v152 w9 ho10 hb hg_ hnew_; clear hg_ hnew_; (first | rw [← Ny151.out] at ho10 | (simp only [Int.reduceToNat] at ho10; rw [← Ny151.out] at ho10)); have n0_ := Aside0.mk (Kd.R_lower ho10 (below_size (by repeat (first | (with_reducible first | exact HB.out | apply below_alloc | apply pw_below_drewN | apply below_drew1 | refine below_set ?_ GE150.out) | exact HB.out)))); have n1_ := Aside0.mk (blk_below (g := gb150) (o := .cells #[.int .i64 a0_0, .int .i64 a0_1, .int .i64 a0_2, .string a0_3, .string a0_4, .slice A0_5 l0_5.length c0_5, .slice A0_6 l0_6.length c0_6] 25 (0, 0)) (by (with_reducible repeat (first | refine blk_drewN ?_ _ | refine blk_drew ?_ | refine blk_alloc ?_ _)); exact BK150.out) hb); have n2_ := Aside0.mk (below_step (by repeat (first | (with_reducible first | exact HB.out | apply below_alloc | apply pw_below_drewN | apply below_drew1 | refine below_set ?_ GE150.out) | exact HB.out)) hb); clear BK150; clear HB; have HO153 := n0_; have BK150 := n1_; have HB := n2_; clear n0_ n1_ n2_; clear hb ho10; have hcv11 := own_string (P := Tryd.prog) Tryd.underlying61 Tryd.underlying5 Tryd.underlying9 (Kd.own_of_R HO153.out); have hcz12_0 : w9.cell? ⟨gb150, 0, none⟩ = some (.int .i64 a0_0) := (blk_cell BK150.out 0).trans rfl; have hcz12_1 : w9.cell? ⟨gb150, 1, none⟩ = some (.int .i64 a0_1) := (blk_cell BK150.out 1).trans rfl; have hcz12_2 : w9.cell? ⟨gb150, 2, none⟩ = some (.int .i64 a0_2) := (blk_cell BK150.out 2).trans rfl; have hcz12_3 : w9.cell? ⟨gb150, 3, none⟩ = some (.string a0_3) := (blk_cell BK150.out 3).trans rfl; have hcz12_4 : w9.cell? ⟨gb150, 4, none⟩ = some (.string a0_4) := (blk_cell BK150.out 4).trans rfl; have hcz12_5 : w9.cell? ⟨gb150, 5, none⟩ = some (.slice A0_5 l0_5.length c0_5) := (blk_cell BK150.out 5).trans rfl; have hcz12_6 : w9.cell? ⟨gb150, 6, none⟩ = some (.slice A0_6 l0_6.length c0_6) := (blk_cell BK150.out 6).trans rfl; have hfz12_0 := blk_frozen BK150.out 0; have hfz12_1 := blk_frozen BK150.out 1; have hfz12_2 := blk_frozen BK150.out 2; have hfz12_3 := blk_frozen BK150.out 3; have hfz12_4 := blk_frozen BK150.out 4; have hfz12_5 := blk_frozen BK150.out 5; have hfz12_6 := blk_frozen BK150.out 6))
      go_loopg [3, 4] k (fun kq v3 v4 w' => ∃ (x3_1 : ByteArray) (x4_1 : Int), v3 = .string x3_1 ∧ v4 = .int .i64 x4_1 ∧ Aside0 (dovecoteref11_Text.l0 kq x3_1 x4_1 a0_0 a0_1 a0_2 a0_3 a0_4 l0_5 l0_6 = some r) ∧ Aside0 (kq ≤ k) ∧ Aside0 (w'.heap[gb150]? = some (.cells #[.int .i64 a0_0, .int .i64 a0_1, .int .i64 a0_2, .string a0_3, .string a0_4, (.slice A0_5 l0_5.length c0_5), (.slice A0_6 l0_6.length c0_6)] 25 (0, 0))) ∧ Aside0 (Below w.heap.size w w'))
      case atStart => exact ⟨((strOfNums y151) ++ a0_4), (0), (by first | rfl | (simp; done) | (simp [*]; done)), (by first | rfl | (simp; done) | (simp [*]; done)), H', ⟨Nat.le_refl _⟩, ⟨by (with_reducible repeat (first | refine blk_drewN ?_ _ | refine blk_drew ?_ | refine blk_alloc ?_ _)); exact BK150.out⟩, ⟨by repeat (first | (with_reducible first | exact HB.out | apply below_alloc | apply pw_below_drewN | apply below_drew1 | refine below_set ?_ GE150.out) | exact HB.out)⟩⟩
      case round =>
        clear H'
        try clear hcv1
        try clear c2
        try clear c2b0
        try clear c2b1
        try clear p2
        try clear c3
        try clear c3b0
        try clear c3b1
        try clear c3b2
        try clear c4
        try clear c6
        try clear c6b0
        try clear c6b1
        try clear c6b2
        try clear hcv11
        try clear hcz12_0
        try clear hcz12_1
        try clear hcz12_2
        try clear hcz12_3
        try clear hcz12_4
        try clear hcz12_5
        try clear hcz12_6
        try clear hcz5_0
        try clear hcz5_1
        try clear hcz5_2
        try clear hcz5_3
        try clear hcz5_4
        try clear hcz5_5
        try clear hcz5_6
        try clear hcz8_0
        try clear hcz8_1
        try clear hcz8_2
        try clear hcz8_3
        try clear hcz8_4
        try clear hcz8_5
        try clear hcz8_6
        try clear hfz12_0
        try clear hfz12_1
        try clear hfz12_2
        try clear hfz12_3
        try clear hfz12_4
        try clear hfz12_5
        try clear hfz12_6
        try clear hfz5_0
        try clear hfz5_1
        try clear hfz5_2
        try clear hfz5_3
        try clear hfz5_4
        try clear hfz5_5
        try clear hfz5_6
        try clear hfz8_0
        try clear hfz8_1
        try clear hfz8_2
        try clear hfz8_3
        try clear hfz8_4
        try clear hfz8_5
        try clear hfz8_6
        obtain ⟨x3_1, x4_1, rfl, rfl, HA, HK1, BK150, HB⟩ := hrel
        cases gk with
        | zero => exact absurd HA.out (by simp [dovecoteref11_Text.l0])
        | succ k1 =>
          have H := HA.out
          clear HA
          simp only [dovecoteref11_Text.l0] at H
          have HC13 := Aside0.mk H
          clear H
          go_upto_region 5 with (fail)
          go_cut [45] (fun v45 wc => ∃ (kq : Nat) (x45_12 : Bool), v45 = .bool x45_12 ∧ Aside0 (dovecoteref11_Text.j1 kq x3_1 x4_1 x45_12 a0_0 a0_1 a0_2 a0_3 a0_4 l0_5 l0_6 = some r) ∧ Aside0 (kq ≤ k1) ∧ Aside0 (wc.heap[gb150]? = some (.cells #[.int .i64 a0_0, .int .i64 a0_1, .int .i64 a0_2, .string a0_3, .string a0_4, (.slice A0_5 l0_5.length c0_5), (.slice A0_6 l0_6.length c0_6)] 25 (0, 0))) ∧ Aside0 (Below w.heap.size w wc))
          case first =>
            have H := HC13.out
            clear HC13
            by_cases c14 : x4_1 < 4
            · rw [if_pos c14] at H
              have c14b0 : decide (x4_1 < 4) = true := decide_eq_true c14
              clear c14
              (first | rw [c14b0] | (simp only [i64_w, i32_w]; rw [c14b0]) | skip)
              have H' := Aside0.mk H
              clear H
              have hcz15_0 : wr.cell? ⟨gb150, 0, none⟩ = some (.int .i64 a0_0) := (blk_cell BK150.out 0).trans rfl
              have hcz15_1 : wr.cell? ⟨gb150, 1, none⟩ = some (.int .i64 a0_1) := (blk_cell BK150.out 1).trans rfl
              have hcz15_2 : wr.cell? ⟨gb150, 2, none⟩ = some (.int .i64 a0_2) := (blk_cell BK150.out 2).trans rfl
              have hcz15_3 : wr.cell? ⟨gb150, 3, none⟩ = some (.string a0_3) := (blk_cell BK150.out 3).trans rfl
              have hcz15_4 : wr.cell? ⟨gb150, 4, none⟩ = some (.string a0_4) := (blk_cell BK150.out 4).trans rfl
              have hcz15_5 : wr.cell? ⟨gb150, 5, none⟩ = some (.slice A0_5 l0_5.length c0_5) := (blk_cell BK150.out 5).trans rfl
              have hcz15_6 : wr.cell? ⟨gb150, 6, none⟩ = some (.slice A0_6 l0_6.length c0_6) := (blk_cell BK150.out 6).trans rfl
              have hfz15_0 := blk_frozen BK150.out 0
              have hfz15_1 := blk_frozen BK150.out 1
              have hfz15_2 := blk_frozen BK150.out 2
              have hfz15_3 := blk_frozen BK150.out 3
              have hfz15_4 := blk_frozen BK150.out 4
              have hfz15_5 := blk_frozen BK150.out 5
              have hfz15_6 := blk_frozen BK150.out 6
              go_wp2
              go_meet
              case rel => exact ⟨_, ((a0_0 == 4)), (by first | rfl | (simp; done) | (simp [*]; done)), H', ⟨by have := HK1.out; first | omega | exact Nat.le_refl _⟩, ⟨by (with_reducible repeat (first | refine blk_drewN ?_ _ | refine blk_drew ?_ | refine blk_alloc ?_ _)); exact BK150.out⟩, ⟨by repeat (first | (with_reducible first | exact HB.out | apply below_alloc | apply pw_below_drewN | apply below_drew1 | refine below_set ?_ GE150.out) | exact HB.out)⟩⟩
            · rw [if_neg c14] at H
              have c14b0 : decide (x4_1 < 4) = false := decide_eq_false c14
              clear c14
              (first | rw [c14b0] | (simp only [i64_w, i32_w]; rw [c14b0]) | skip)
              have H' := Aside0.mk H
              clear H
              go_wp2
              go_meet
              case rel => exact ⟨_, (false), (by first | rfl | (simp; done) | (simp [*]; done)), H', ⟨by have := HK1.out; first | omega | exact Nat.le_refl _⟩, ⟨by (with_reducible repeat (first | refine blk_drewN ?_ _ | refine blk_drew ?_ | refine blk_alloc ?_ _)); exact BK150.out⟩, ⟨by repeat (first | (with_reducible first | exact HB.out | apply below_alloc | apply pw_below_drewN | apply below_drew1 | refine below_set ?_ GE150.out) | exact HB.out)⟩⟩
          case rest =>
            clear HC13
            try clear c1
            try clear hcv1
            try clear c2
            try clear c2b0
            try clear c2b1
            try clear p2
            try clear c3
            try clear c3b0
            try clear c3b1
            try clear c3b2
            try clear c4
            try clear c6
            try clear c6b0
            try clear c6b1
            try clear c6b2
            try clear hcv11
            try clear c14
            try clear c14b0
            try clear hcz12_0
            try clear hcz12_1
            try clear hcz12_2
            try clear hcz12_3
            try clear hcz12_4
            try clear hcz12_5
            try clear hcz12_6
            try clear hcz15_0
            try clear hcz15_1
            try clear hcz15_2
            try clear hcz15_3
            try clear hcz15_4
            try clear hcz15_5
            try clear hcz15_6
            try clear hcz5_0
            try clear hcz5_1
            try clear hcz5_2
            try clear hcz5_3
            try clear hcz5_4
            try clear hcz5_5
            try clear hcz5_6
            try clear hcz8_0
            try clear hcz8_1
            try clear hcz8_2
            try clear hcz8_3
            try clear hcz8_4
            try clear hcz8_5
            try clear hcz8_6
            try clear hfz12_0
            try clear hfz12_1
            try clear hfz12_2
            try clear hfz12_3
            try clear hfz12_4
            try clear hfz12_5
            try clear hfz12_6
            try clear hfz15_0
            try clear hfz15_1
            try clear hfz15_2
            try clear hfz15_3
            try clear hfz15_4
            try clear hfz15_5
            try clear hfz15_6
            try clear hfz5_0
            try clear hfz5_1
            try clear hfz5_2
            try clear hfz5_3
            try clear hfz5_4
            try clear hfz5_5
            try clear hfz5_6
            try clear hfz8_0
            try clear hfz8_1
            try clear hfz8_2
            try clear hfz8_3
            try clear hfz8_4
            try clear hfz8_5
            try clear hfz8_6
            try clear p2
            obtain ⟨kq, x45_12, rfl, HA, HJ12, BK150, HB⟩ := hcut
            cases kq with
            | zero => exact absurd HA.out (by simp [dovecoteref11_Text.j1])
            | succ kj12 =>
              have H := HA.out
              clear HA
              simp only [dovecoteref11_Text.j1] at H
              by_cases c16 : x45_12 = true
              · subst c16
                have H1 : (if x4_1 < (l0_6.length : Int) then (if 0 ≤ x4_1 then (if x3_1.size + (rdOf ByteArray.empty l0_6 x4_1).size ≤ 9223372036854775807 then (dovecoteref11_Text.l0 kj12 (x3_1 ++ (rdOf ByteArray.empty l0_6 x4_1)) (wrap64 (x4_1 + 1)) a0_0 a0_1 a0_2 a0_3 a0_4 l0_5 l0_6) else (none)) else (none)) else ((dovecoteref11_padded.f (⟨#[]⟩ : ByteArray) 16).bind fun t155 => (if x3_1.size + t155.size ≤ 9223372036854775807 then (dovecoteref11_Text.l0 kj12 (x3_1 ++ t155) (wrap64 (x4_1 + 1)) a0_0 a0_1 a0_2 a0_3 a0_4 l0_5 l0_6) else (none)))) = some r := by rw [if_pos rfl] at H; exact H
                clear H
                have H := H1
                clear H1
                by_cases c17 : x4_1 < (l0_6.length : Int)
                · rw [if_pos c17] at H
                  have c17b0 : decide (x4_1 < (l0_6.length : Int)) = true := decide_eq_true c17
                  clear c17
                  by_cases c18 : 0 ≤ x4_1
                  · rw [if_pos c18] at H
                    have c18b0 : decide (0 ≤ x4_1) = true := decide_eq_true c18
                    clear c18
                    by_cases c19 : x3_1.size + (rdOf ByteArray.empty l0_6 x4_1).size ≤ 9223372036854775807
                    · rw [if_pos c19] at H
                      have c19b0 := eq_true c19
                      have c19b1 : decide (x3_1.size + (rdOf ByteArray.empty l0_6 x4_1).size ≤ 9223372036854775807) = true := decide_eq_true c19
                      try have c19b2 : (9223372036854775807 < x3_1.size + (rdOf ByteArray.empty l0_6 x4_1).size) = False := eq_false (Nat.not_lt.2 c19)
                      have H' := Aside0.mk H
                      clear H
                      have hcz20_0 : wc.cell? ⟨gb150, 0, none⟩ = some (.int .i64 a0_0) := (blk_cell BK150.out 0).trans rfl
                      have hcz20_1 : wc.cell? ⟨gb150, 1, none⟩ = some (.int .i64 a0_1) := (blk_cell BK150.out 1).trans rfl
                      have hcz20_2 : wc.cell? ⟨gb150, 2, none⟩ = some (.int .i64 a0_2) := (blk_cell BK150.out 2).trans rfl
                      have hcz20_3 : wc.cell? ⟨gb150, 3, none⟩ = some (.string a0_3) := (blk_cell BK150.out 3).trans rfl
                      have hcz20_4 : wc.cell? ⟨gb150, 4, none⟩ = some (.string a0_4) := (blk_cell BK150.out 4).trans rfl
                      have hcz20_5 : wc.cell? ⟨gb150, 5, none⟩ = some (.slice A0_5 l0_5.length c0_5) := (blk_cell BK150.out 5).trans rfl
                      have hcz20_6 : wc.cell? ⟨gb150, 6, none⟩ = some (.slice A0_6 l0_6.length c0_6) := (blk_cell BK150.out 6).trans rfl
                      have hfz20_0 := blk_frozen BK150.out 0
                      have hfz20_1 := blk_frozen BK150.out 1
                      have hfz20_2 := blk_frozen BK150.out 2
                      have hfz20_3 := blk_frozen BK150.out 3
                      have hfz20_4 := blk_frozen BK150.out 4
                      have hfz20_5 := blk_frozen BK150.out 5
                      have hfz20_6 := blk_frozen BK150.out 6
                      have p154 : 0 ≤ (x4_1 : Int) := of_decide_eq_true (by first | (with_reducible assumption) | assumption)
                      have q154 : x4_1 < (l0_6.length : Int) := of_decide_eq_true (by first | (with_reducible assumption) | assumption)
                      obtain ⟨ad154, e154, hx154_0⟩ := Kd.at_string HR0_6.out x4_1 p154 q154
                      cases e154
                      replace hx154_0 := (HB.out.cell (World.block_lt_of_cell? w _ hx154_0)).trans hx154_0
                      replace p154 := eq_true p154
                      replace q154 := eq_true q154
                      go_wp2
                      go_roundg kj12
                      case measure => have := HK1.out; have := HJ12.out; omega
                      case rel => exact ⟨(x3_1 ++ (rdOf ByteArray.empty l0_6 x4_1)), (wrap64 (x4_1 + 1)), (by first | rfl | (simp; done) | (simp [*]; done)), (by first | rfl | (simp; done) | (simp [*]; done)), H', ⟨by have := HK1.out; have := HJ12.out; omega⟩, ⟨by (with_reducible repeat (first | refine blk_drewN ?_ _ | refine blk_drew ?_ | refine blk_alloc ?_ _)); exact BK150.out⟩, ⟨by repeat (first | (with_reducible first | exact HB.out | apply below_alloc | apply pw_below_drewN | apply below_drew1 | refine below_set ?_ GE150.out) | exact HB.out)⟩⟩
                    · rw [if_neg c19] at H
                      exact absurd H (by simp)
                  · rw [if_neg c18] at H
                    exact absurd H (by simp)
                · rw [if_neg c17] at H
                  have c17b0 : decide (x4_1 < (l0_6.length : Int)) = false := decide_eq_false c17
                  clear c17
                  replace H := Option.bind_eq_some_iff.mp H
                  obtain ⟨t155, A210, H⟩ := H
                  replace H : (if x3_1.size + t155.size ≤ 9223372036854775807 then (dovecoteref11_Text.l0 kj12 (x3_1 ++ t155) (wrap64 (x4_1 + 1)) a0_0 a0_1 a0_2 a0_3 a0_4 l0_5 l0_6) else (none)) = some r := H
                  have A21 := Aside0.mk A210
                  clear A210
                  by_cases c22 : x3_1.size + t155.size ≤ 9223372036854775807
                  · rw [if_pos c22] at H
                    have c22b0 := eq_true c22
                    have c22b1 : decide (x3_1.size + t155.size ≤ 9223372036854775807) = true := decide_eq_true c22
                    try have c22b2 : (9223372036854775807 < x3_1.size + t155.size) = False := eq_false (Nat.not_lt.2 c22)
                    have H' := Aside0.mk H
                    clear H
                    have hcz23_0 : wc.cell? ⟨gb150, 0, none⟩ = some (.int .i64 a0_0) := (blk_cell BK150.out 0).trans rfl
                    have hcz23_1 : wc.cell? ⟨gb150, 1, none⟩ = some (.int .i64 a0_1) := (blk_cell BK150.out 1).trans rfl
                    have hcz23_2 : wc.cell? ⟨gb150, 2, none⟩ = some (.int .i64 a0_2) := (blk_cell BK150.out 2).trans rfl
                    have hcz23_3 : wc.cell? ⟨gb150, 3, none⟩ = some (.string a0_3) := (blk_cell BK150.out 3).trans rfl
                    have hcz23_4 : wc.cell? ⟨gb150, 4, none⟩ = some (.string a0_4) := (blk_cell BK150.out 4).trans rfl
                    have hcz23_5 : wc.cell? ⟨gb150, 5, none⟩ = some (.slice A0_5 l0_5.length c0_5) := (blk_cell BK150.out 5).trans rfl
                    have hcz23_6 : wc.cell? ⟨gb150, 6, none⟩ = some (.slice A0_6 l0_6.length c0_6) := (blk_cell BK150.out 6).trans rfl
                    have hfz23_0 := blk_frozen BK150.out 0
                    have hfz23_1 := blk_frozen BK150.out 1
                    have hfz23_2 := blk_frozen BK150.out 2
                    have hfz23_3 := blk_frozen BK150.out 3
                    have hfz23_4 := blk_frozen BK150.out 4
                    have hfz23_5 := blk_frozen BK150.out 5
                    have hfz23_6 := blk_frozen BK150.out 6
                    go_wp2_with (first | ((with_reducible refine gate_callee (f := 67) rfl ?_); refine goesL_ (some 61) rfl rfl Tryd.func67 (by kernel_rfl) rfl #[.string (⟨#[]⟩ : ByteArray), .int .i64 16] rfl (by (try simp only [List.map_toArray, List.map_cons, List.map_nil]); first | done | rfl | (simp only [List.length_drop, List.length_take]; rfl)) ?_; (with_reducible refine (dovecoteref11_padded.calls (⟨#[]⟩ : ByteArray) 16 t155 _ A21.out).mono ?_); rintro e w24 ⟨rfl, hb⟩; refine ⟨_, rfl, ?_⟩; have n0_ := Aside0.mk (blk_below (g := gb150) (o := .cells #[.int .i64 a0_0, .int .i64 a0_1, .int .i64 a0_2, .string a0_3, .string a0_4, .slice A0_5 l0_5.length c0_5, .slice A0_6 l0_6.length c0_6] 25 (0, 0)) (by (with_reducible repeat (first | refine blk_drewN ?_ _ | refine blk_drew ?_ | refine blk_alloc ?_ _)); exact BK150.out) hb); have n1_ := Aside0.mk (below_step (by repeat (first | (with_reducible first | exact HB.out | apply below_alloc | apply pw_below_drewN | apply below_drew1 | refine below_set ?_ GE150.out) | exact HB.out)) hb); clear BK150; clear HB; have BK150 := n0_; have HB := n1_; clear n0_ n1_; (try clear hb); (try clear hb2); (try clear hk); (try clear hi)))
                    go_roundg kj12
                    case measure => have := HK1.out; have := HJ12.out; omega
                    case rel => exact ⟨(x3_1 ++ t155), (wrap64 (x4_1 + 1)), (by first | rfl | (simp; done) | (simp [*]; done)), (by first | rfl | (simp; done) | (simp [*]; done)), H', ⟨by have := HK1.out; have := HJ12.out; omega⟩, ⟨by (with_reducible repeat (first | refine blk_drewN ?_ _ | refine blk_drew ?_ | refine blk_alloc ?_ _)); exact BK150.out⟩, ⟨by repeat (first | (with_reducible first | exact HB.out | apply below_alloc | apply pw_below_drewN | apply below_drew1 | refine below_set ?_ GE150.out) | exact HB.out)⟩⟩
                  · rw [if_neg c22] at H
                    exact absurd H (by simp)
              · replace c16 := Bool.eq_false_iff.mpr c16
                subst c16
                have H1 : (dovecoteref11_Text.l1 kj12 x3_1 0 a0_0 a0_1 a0_2 a0_3 a0_4 l0_5 l0_6) = some r := by rw [if_neg (show ¬ (false = true) by decide)] at H; exact H
                clear H
                have H := H1
                clear H1
                have H' := Aside0.mk H
                clear H
                go_wp2
                go_loopg [3, 5] kj12 (fun kq v3 v5 w' => ∃ (x3_3 : ByteArray) (x5_3 : Int), v3 = .string x3_3 ∧ v5 = .int .i64 x5_3 ∧ Aside0 (dovecoteref11_Text.l1 kq x3_3 x5_3 a0_0 a0_1 a0_2 a0_3 a0_4 l0_5 l0_6 = some r) ∧ Aside0 (kq ≤ kj12) ∧ Aside0 (w'.heap[gb150]? = some (.cells #[.int .i64 a0_0, .int .i64 a0_1, .int .i64 a0_2, .string a0_3, .string a0_4, (.slice A0_5 l0_5.length c0_5), (.slice A0_6 l0_6.length c0_6)] 25 (0, 0))) ∧ Aside0 (Below w.heap.size w w'))
                case atStart => exact ⟨(x3_1), (0), (by first | rfl | (simp; done) | (simp [*]; done)), (by first | rfl | (simp; done) | (simp [*]; done)), H', ⟨Nat.le_refl _⟩, ⟨by (with_reducible repeat (first | refine blk_drewN ?_ _ | refine blk_drew ?_ | refine blk_alloc ?_ _)); exact BK150.out⟩, ⟨by repeat (first | (with_reducible first | exact HB.out | apply below_alloc | apply pw_below_drewN | apply below_drew1 | refine below_set ?_ GE150.out) | exact HB.out)⟩⟩
                case round =>
                  clear H'
                  try clear c1
                  try clear p1
                  try clear q1
                  try clear hx1
                  try clear hcv1
                  try clear c2
                  try clear c2b0
                  try clear c2b1
                  try clear p2
                  try clear c3
                  try clear c3b0
                  try clear c3b1
                  try clear c3b2
                  try clear c4
                  try clear c6
                  try clear c6b0
                  try clear c6b1
                  try clear c6b2
                  try clear p6
                  try clear hcv11
                  try clear c14
                  try clear c14b0
                  try clear p15
                  try clear q15
                  try clear hx15
                  try clear c16
                  try clear c17
                  try clear c17b0
                  try clear c18
                  try clear c18b0
                  try clear c19
                  try clear c19b0
                  try clear c19b1
                  try clear c19b2
                  try clear c22
                  try clear c22b0
                  try clear c22b1
                  try clear c22b2
                  try clear hcz12_0
                  try clear hcz12_1
                  try clear hcz12_2
                  try clear hcz12_3
                  try clear hcz12_4
                  try clear hcz12_5
                  try clear hcz12_6
                  try clear hcz15_0
                  try clear hcz15_1
                  try clear hcz15_2
                  try clear hcz15_3
                  try clear hcz15_4
                  try clear hcz15_5
                  try clear hcz15_6
                  try clear hcz20_0
                  try clear hcz20_1
                  try clear hcz20_2
                  try clear hcz20_3
                  try clear hcz20_4
                  try clear hcz20_5
                  try clear hcz20_6
                  try clear hcz23_0
                  try clear hcz23_1
                  try clear hcz23_2
                  try clear hcz23_3
                  try clear hcz23_4
                  try clear hcz23_5
                  try clear hcz23_6
                  try clear hcz5_0
                  try clear hcz5_1
                  try clear hcz5_2
                  try clear hcz5_3
                  try clear hcz5_4
                  try clear hcz5_5
                  try clear hcz5_6
                  try clear hcz8_0
                  try clear hcz8_1
                  try clear hcz8_2
                  try clear hcz8_3
                  try clear hcz8_4
                  try clear hcz8_5
                  try clear hcz8_6
                  try clear hfz12_0
                  try clear hfz12_1
                  try clear hfz12_2
                  try clear hfz12_3
                  try clear hfz12_4
                  try clear hfz12_5
                  try clear hfz12_6
                  try clear hfz15_0
                  try clear hfz15_1
                  try clear hfz15_2
                  try clear hfz15_3
                  try clear hfz15_4
                  try clear hfz15_5
                  try clear hfz15_6
                  try clear hfz20_0
                  try clear hfz20_1
                  try clear hfz20_2
                  try clear hfz20_3
                  try clear hfz20_4
                  try clear hfz20_5
                  try clear hfz20_6
                  try clear hfz23_0
                  try clear hfz23_1
                  try clear hfz23_2
                  try clear hfz23_3
                  try clear hfz23_4
                  try clear hfz23_5
                  try clear hfz23_6
                  try clear hfz5_0
                  try clear hfz5_1
                  try clear hfz5_2
                  try clear hfz5_3
                  try clear hfz5_4
                  try clear hfz5_5
                  try clear hfz5_6
                  try clear hfz8_0
                  try clear hfz8_1
                  try clear hfz8_2
                  try clear hfz8_3
                  try clear hfz8_4
                  try clear hfz8_5
                  try clear hfz8_6
                  try clear hx154_0
                  try clear p154
                  try clear p2
                  try clear q154
                  obtain ⟨x3_3, x5_3, rfl, rfl, HA, HK3, BK150, HB⟩ := hrel
                  cases gk with
                  | zero => exact absurd HA.out (by simp [dovecoteref11_Text.l1])
                  | succ k3 =>
                    have H := HA.out
                    clear HA
                    simp only [dovecoteref11_Text.l1] at H
                    by_cases c25 : x5_3 < (l0_5.length : Int)
                    · rw [if_pos c25] at H
                      have c25b0 : decide (x5_3 < (l0_5.length : Int)) = true := decide_eq_true c25
                      clear c25
                      by_cases c26 : 0 ≤ x5_3
                      · rw [if_pos c26] at H
                        have c26b0 : decide (0 ≤ x5_3) = true := decide_eq_true c26
                        clear c26
                        replace H := Option.bind_eq_some_iff.mp H
                        obtain ⟨t158, A270, H⟩ := H
                        replace H : ((some (([((((rd_T68 l0_5 x5_3).f1).size : Int)) % 256] : List Int) : List Int)).bind fun y159 => (if t158.size + (strOfNums y159).size ≤ 9223372036854775807 then ((dovecoteref11_padded.f ((rd_T68 l0_5 x5_3).f1) 222).bind fun t162 => (if (t158 ++ (strOfNums y159)).size + t162.size ≤ 9223372036854775807 then (if x3_3.size + ((t158 ++ (strOfNums y159)) ++ t162).size ≤ 9223372036854775807 then (dovecoteref11_Text.l1 k3 (x3_3 ++ ((t158 ++ (strOfNums y159)) ++ t162)) (wrap64 (x5_3 + 1)) a0_0 a0_1 a0_2 a0_3 a0_4 l0_5 l0_6) else (none)) else (none))) else (none))) = some r := H
                        have A27 := Aside0.mk A270
                        clear A270
                        obtain ⟨y159, hy159⟩ : ∃ y_ : List Int, y_ = (([((((rd_T68 l0_5 x5_3).f1).size : Int)) % 256] : List Int)) := ⟨_, rfl⟩
                        replace H : (if t158.size + (strOfNums y159).size ≤ 9223372036854775807 then ((dovecoteref11_padded.f ((rd_T68 l0_5 x5_3).f1) 222).bind fun t162 => (if (t158 ++ (strOfNums y159)).size + t162.size ≤ 9223372036854775807 then (if x3_3.size + ((t158 ++ (strOfNums y159)) ++ t162).size ≤ 9223372036854775807 then (dovecoteref11_Text.l1 k3 (x3_3 ++ ((t158 ++ (strOfNums y159)) ++ t162)) (wrap64 (x5_3 + 1)) a0_0 a0_1 a0_2 a0_3 a0_4 l0_5 l0_6) else (none)) else (none))) else (none)) = some r := by first | (rw [hy159]; with_reducible exact H) | (have H2_ := (Option.bind_some _ _).symm.trans H; rw [hy159]; with_reducible exact H2_) | (have H2_ := (Option.bind_some _ _).symm.trans H; with_reducible exact H2_) | with_reducible exact H | (rw [hy159]; exact H) | exact H
                        have Ny159 := Aside0.mk hy159
                        clear hy159
                        by_cases c28 : t158.size + (strOfNums y159).size ≤ 9223372036854775807
                        · rw [if_pos c28] at H
                          have c28b0 := eq_true c28
                          have c28b1 : decide (t158.size + (strOfNums y159).size ≤ 9223372036854775807) = true := decide_eq_true c28
                          try have c28b2 : (9223372036854775807 < t158.size + (strOfNums y159).size) = False := eq_false (Nat.not_lt.2 c28)
                          replace H := Option.bind_eq_some_iff.mp H
                          obtain ⟨t162, A290, H⟩ := H
                          replace H : (if (t158 ++ (strOfNums y159)).size + t162.size ≤ 9223372036854775807 then (if x3_3.size + ((t158 ++ (strOfNums y159)) ++ t162).size ≤ 9223372036854775807 then (dovecoteref11_Text.l1 k3 (x3_3 ++ ((t158 ++ (strOfNums y159)) ++ t162)) (wrap64 (x5_3 + 1)) a0_0 a0_1 a0_2 a0_3 a0_4 l0_5 l0_6) else (none)) else (none)) = some r := H
                          have A29 := Aside0.mk A290
                          clear A290
                          by_cases c30 : (t158 ++ (strOfNums y159)).size + t162.size ≤ 9223372036854775807
                          · rw [if_pos c30] at H
                            have c30b0 := eq_true c30
                            have c30b1 : decide ((t158 ++ (strOfNums y159)).size + t162.size ≤ 9223372036854775807) = true := decide_eq_true c30
                            try have c30b2 : (9223372036854775807 < (t158 ++ (strOfNums y159)).size + t162.size) = False := eq_false (Nat.not_lt.2 c30)
                            try have c30b3 := c30b2
                            (try simp only [ByteArray.size_append] at c30b3)
                            by_cases c31 : x3_3.size + ((t158 ++ (strOfNums y159)) ++ t162).size ≤ 9223372036854775807
                            · rw [if_pos c31] at H
                              have c31b0 := eq_true c31
                              have c31b1 : decide (x3_3.size + ((t158 ++ (strOfNums y159)) ++ t162).size ≤ 9223372036854775807) = true := decide_eq_true c31
                              try have c31b2 : (9223372036854775807 < x3_3.size + ((t158 ++ (strOfNums y159)) ++ t162).size) = False := eq_false (Nat.not_lt.2 c31)
                              try have c31b3 := c31b2
                              (try simp only [ByteArray.size_append] at c31b3)
                              have H' := Aside0.mk H
                              clear H
                              have hcz32_0 : wr.cell? ⟨gb150, 0, none⟩ = some (.int .i64 a0_0) := (blk_cell BK150.out 0).trans rfl
                              have hcz32_1 : wr.cell? ⟨gb150, 1, none⟩ = some (.int .i64 a0_1) := (blk_cell BK150.out 1).trans rfl
                              have hcz32_2 : wr.cell? ⟨gb150, 2, none⟩ = some (.int .i64 a0_2) := (blk_cell BK150.out 2).trans rfl
                              have hcz32_3 : wr.cell? ⟨gb150, 3, none⟩ = some (.string a0_3) := (blk_cell BK150.out 3).trans rfl
                              have hcz32_4 : wr.cell? ⟨gb150, 4, none⟩ = some (.string a0_4) := (blk_cell BK150.out 4).trans rfl
                              have hcz32_5 : wr.cell? ⟨gb150, 5, none⟩ = some (.slice A0_5 l0_5.length c0_5) := (blk_cell BK150.out 5).trans rfl
                              have hcz32_6 : wr.cell? ⟨gb150, 6, none⟩ = some (.slice A0_6 l0_6.length c0_6) := (blk_cell BK150.out 6).trans rfl
                              have hfz32_0 := blk_frozen BK150.out 0
                              have hfz32_1 := blk_frozen BK150.out 1
                              have hfz32_2 := blk_frozen BK150.out 2
                              have hfz32_3 := blk_frozen BK150.out 3
                              have hfz32_4 := blk_frozen BK150.out 4
                              have hfz32_5 := blk_frozen BK150.out 5
                              have hfz32_6 := blk_frozen BK150.out 6
                              have p156 : 0 ≤ (x5_3 : Int) := of_decide_eq_true (by first | (with_reducible assumption) | assumption)
                              have q156 : x5_3 < (l0_5.length : Int) := of_decide_eq_true (by first | (with_reducible assumption) | assumption)
                              obtain ⟨ad156, e156, hx156_0, hx156_1⟩ := at_T68 HR0_5.out x5_3 p156 q156
                              cases e156
                              replace hx156_0 := (HB.out.cell (World.block_lt_of_cell? w _ hx156_0)).trans hx156_0
                              replace hx156_1 := (HB.out.cell (World.block_lt_of_cell? w _ hx156_1)).trans hx156_1
                              replace p156 := eq_true p156
                              replace q156 := eq_true q156
                              try go_wp2_with (first | ((with_reducible refine gate_dst (N := 6) rfl ?_); refine box_event ?hg (N := 6) ?hd (cs := #[.string (⟨#[]⟩ : ByteArray), .string (⟨#[]⟩ : ByteArray)]) (t := 68) ?hr ?_; (case hd => rfl); (case hg => rfl); (case hr => first | (go_simp; done) | (go_simp; rfl)); intro gb157 hg w33 hbox hb; have n0_ := Aside0.mk (blk_below (g := gb150) (o := .cells #[.int .i64 a0_0, .int .i64 a0_1, .int .i64 a0_2, .string a0_3, .string a0_4, .slice (some ad156) l0_5.length c0_5, .slice A0_6 l0_6.length c0_6] 25 (0, 0)) (by (with_reducible repeat (first | refine blk_drewN ?_ _ | refine blk_drew ?_ | refine blk_alloc ?_ _)); exact BK150.out) hb); have n1_ := Aside0.mk (below_step (by repeat (first | (with_reducible first | exact HB.out | apply below_alloc | apply pw_below_drewN | apply below_drew1 | refine below_set ?_ GE150.out) | exact HB.out)) hb); have n2_ := Aside0.mk (hbox); have n3_ := Aside0.mk ((by rw [hg]; exact (below_size (by repeat (first | (with_reducible first | exact HB.out | apply below_alloc | apply pw_below_drewN | apply below_drew1 | refine below_set ?_ GE150.out) | exact HB.out))) : w.heap.size ≤ gb157)); have n4_ := Aside0.mk ((by rw [hg]; exact (below_size (by repeat (first | (with_reducible first | exact HB.out | apply below_alloc | apply pw_below_drewN | apply below_drew1 | refine below_set ?_ GE150.out) | exact HB.out))) : w.heap.size ≤ gb157)); have n5_ := Aside0.mk ((by rw [hg]; exact Nat.ne_of_lt (blk_lt (g := gb150) (o := .cells #[.int .i64 a0_0, .int .i64 a0_1, .int .i64 a0_2, .string a0_3, .string a0_4, .slice (some ad156) l0_5.length c0_5, .slice A0_6 l0_6.length c0_6] 25 (0, 0)) (by (with_reducible repeat (first | refine blk_drewN ?_ _ | refine blk_drew ?_ | refine blk_alloc ?_ _)); exact BK150.out)) : gb150 ≠ gb157)); have n6_ := Aside0.mk ((by rw [hg]; exact Nat.ne_of_gt (blk_lt (g := gb150) (o := .cells #[.int .i64 a0_0, .int .i64 a0_1, .int .i64 a0_2, .string a0_3, .string a0_4, .slice (some ad156) l0_5.length c0_5, .slice A0_6 l0_6.length c0_6] 25 (0, 0)) (by (with_reducible repeat (first | refine blk_drewN ?_ _ | refine blk_drew ?_ | refine blk_alloc ?_ _)); exact BK150.out)) : gb157 ≠ gb150)); clear BK150; clear HB; have BK150 := n0_; have HB := n1_; have BK157 := n2_; have GW157 := n3_; have GE157 := n4_; have NB150_157 := n5_; have NB157_150 := n6_; clear n0_ n1_ n2_ n3_ n4_ n5_ n6_; clear hb hbox hg; have hnb34 := NB157_150.out; have hnc34 := NB150_157.out; have hcz35_0 : w33.cell? ⟨gb157, 0, none⟩ = some (.string (⟨#[]⟩ : ByteArray)) := (blk_cell BK157.out 0).trans rfl; have hcz35_1 : w33.cell? ⟨gb157, 1, none⟩ = some (.string (⟨#[]⟩ : ByteArray)) := (blk_cell BK157.out 1).trans rfl; have hfz35_0 := blk_frozen BK157.out 0; have hfz35_1 := blk_frozen BK157.out 1))
                              have n0_ : Aside0 (((w33.setCell ⟨gb157, 0, none⟩ (.string ((rd_T68 l0_5 x5_3).f0))).setCell ⟨gb157, 1, none⟩ (.string ((rd_T68 l0_5 x5_3).f1))).heap[gb150]? = some (.cells #[.int .i64 a0_0, .int .i64 a0_1, .int .i64 a0_2, .string a0_3, .string a0_4, .slice (some ad156) l0_5.length c0_5, .slice A0_6 l0_6.length c0_6] 25 (0, 0))) := ⟨by (with_reducible repeat (first | refine blk_drewN ?_ _ | refine blk_drew ?_ | refine blk_alloc ?_ _)); refine blk_far ?_ NB150_157.out _; (with_reducible repeat (first | refine blk_drewN ?_ _ | refine blk_drew ?_ | refine blk_alloc ?_ _)); refine blk_far ?_ NB150_157.out _; (with_reducible repeat (first | refine blk_drewN ?_ _ | refine blk_drew ?_ | refine blk_alloc ?_ _)); exact BK150.out⟩
                              have n1_ : Aside0 (((w33.setCell ⟨gb157, 0, none⟩ (.string ((rd_T68 l0_5 x5_3).f0))).setCell ⟨gb157, 1, none⟩ (.string ((rd_T68 l0_5 x5_3).f1))).heap[gb157]? = some (.cells #[.string ((rd_T68 l0_5 x5_3).f0), .string ((rd_T68 l0_5 x5_3).f1)] 68 (0, 0))) := ⟨by (with_reducible repeat (first | refine blk_drewN ?_ _ | refine blk_drew ?_ | refine blk_alloc ?_ _)); refine blk_put (cs := #[.string ((rd_T68 l0_5 x5_3).f0), .string (⟨#[]⟩ : ByteArray)]) ?_ 1 _ rfl; (with_reducible repeat (first | refine blk_drewN ?_ _ | refine blk_drew ?_ | refine blk_alloc ?_ _)); refine blk_put (cs := #[.string (⟨#[]⟩ : ByteArray), .string (⟨#[]⟩ : ByteArray)]) ?_ 0 _ rfl; (with_reducible repeat (first | refine blk_drewN ?_ _ | refine blk_drew ?_ | refine blk_alloc ?_ _)); exact BK157.out⟩
                              have n2_ : Aside0 (Below w.heap.size w ((w33.setCell ⟨gb157, 0, none⟩ (.string ((rd_T68 l0_5 x5_3).f0))).setCell ⟨gb157, 1, none⟩ (.string ((rd_T68 l0_5 x5_3).f1)))) := ⟨by repeat (first | (with_reducible first | exact HB.out | apply below_alloc | apply pw_below_drewN | apply below_drew1 | refine below_set ?_ GE150.out | refine below_set ?_ GE157.out) | exact HB.out)⟩
                              (try clear BK150)
                              (try clear BK157)
                              (try clear HB)
                              generalize ((w33.setCell ⟨gb157, 0, none⟩ (.string ((rd_T68 l0_5 x5_3).f0))).setCell ⟨gb157, 1, none⟩ (.string ((rd_T68 l0_5 x5_3).f1))) = w36 at n0_ n1_ n2_ ⊢
                              have BK150 := n0_
                              have BK157 := n1_
                              have HB := n2_
                              clear n0_ n1_ n2_
                              have n0_ := Aside0.mk (blk_drew BK150.out)
                              have n1_ := Aside0.mk (blk_drew BK157.out)
                              have n2_ := Aside0.mk (below_drew1 HB.out)
                              clear BK150
                              clear BK157
                              clear HB
                              have BK150 := n0_
                              have BK157 := n1_
                              have HB := n2_
                              clear n0_ n1_ n2_
                              refine start_ (n := 17) (S := fun w' => w'.cell? ⟨gb157, 0, none⟩ = some (.string ((rd_T68 l0_5 x5_3).f0)) ∧ w'.cell? ⟨gb157, 1, none⟩ = some (.string ((rd_T68 l0_5 x5_3).f1))) (ds := []) #[false, false, false, false, false, false, false, false, false, false, false, false, false, false, false, false, false] (by kernel_rfl) rfl rfl ⟨(blk_cell BK157.out 0).trans rfl, (blk_cell BK157.out 1).trans rfl⟩ (fun hHeld => ?_); refine with_tabW dovecoteref11_Text.tab14 dovecoteref11_Text.bits14 (fun HT_ HW_ => ?_)
                              generalize w36.drew = w37 at BK150 BK157 HB hHeld ⊢
                              refine pure_ (i := 0) (N := some 75) (v := ?_) (a' := ?_) #[true, false, false, false, false, false, false, false, false, false, false, false, false, false, false, false, false] rfl rfl (any_of HT_.out (by kernel_rfl)) (fun _ _ _ h => h) (Or.inl ⟨by rfl, ?_⟩) ?_ ?_
                              rotate_left
                              · intro w'
                                go_simp
                                with_reducible rfl
                              rotate_left
                              · simp only [Act.put, List.setIfInBounds_toArray, List.set_cons_zero, List.set_cons_succ, i64_w, i32_w]
                                rfl
                              refine pure_ (i := 1) (N := some 76) (v := ?_) (a' := ?_) #[true, true, false, false, false, false, false, false, false, false, false, false, false, false, false, false, false] rfl rfl (any_of HT_.out (by kernel_rfl)) (fun _ _ _ h => h) (Or.inl ⟨by rfl, ?_⟩) ?_ ?_
                              rotate_left
                              · intro w'
                                go_simp
                                with_reducible rfl
                              rotate_left
                              · simp only [Act.put, List.setIfInBounds_toArray, List.set_cons_zero, List.set_cons_succ, i64_w, i32_w]
                                rfl
                              refine pure_ (i := 4) (N := some 79) (v := ?_) (a' := ?_) #[true, true, false, false, true, false, false, false, false, false, false, false, false, false, false, false, false] rfl rfl (any_of HT_.out (by kernel_rfl)) (fun _ _ _ h => h) (Or.inl ⟨by rfl, ?_⟩) ?_ ?_
                              rotate_left
                              · intro w'
                                go_simp
                                with_reducible rfl
                              rotate_left
                              · simp only [Act.put, List.setIfInBounds_toArray, List.set_cons_zero, List.set_cons_succ, i64_w, i32_w]
                                rfl
                              refine pure_ (i := 11) (N := some 86) (v := ?_) (a' := ?_) #[true, true, false, false, true, false, false, false, false, false, false, true, false, false, false, false, false] rfl rfl (any_of HT_.out (by kernel_rfl)) (fun _ _ _ h => h) (Or.inl ⟨by rfl, ?_⟩) ?_ ?_
                              rotate_left
                              · intro w'
                                go_simp
                                with_reducible rfl
                              rotate_left
                              · simp only [Act.put, List.setIfInBounds_toArray, List.set_cons_zero, List.set_cons_succ, i64_w, i32_w]
                                rfl
                              refine take_ (i := 2) (N := some 77) (v := ?_) (a' := ?_) #[true, true, true, false, true, false, false, false, false, false, false, true, false, false, false, false, false] rfl rfl (take_ofW HT_.out HW_.out (by kernel_rfl)) (fun _ _ _ h => h) (Or.inl ⟨by rfl, ?_⟩) hHeld ?_ ?_
                              rotate_left
                              · rintro w' ⟨s0, s1⟩
                                go_simp
                                with_reducible rfl
                              rotate_left
                              · simp only [Act.put, List.setIfInBounds_toArray, List.set_cons_zero, List.set_cons_succ, i64_w, i32_w]
                                rfl
                              refine take_ (i := 5) (N := some 80) (v := ?_) (a' := ?_) #[true, true, true, false, true, true, false, false, false, false, false, true, false, false, false, false, false] rfl rfl (take_ofW HT_.out HW_.out (by kernel_rfl)) (fun _ _ _ h => h) (Or.inl ⟨by rfl, ?_⟩) hHeld ?_ ?_
                              rotate_left
                              · rintro w' ⟨s0, s1⟩
                                go_simp
                                with_reducible rfl
                              rotate_left
                              · simp only [Act.put, List.setIfInBounds_toArray, List.set_cons_zero, List.set_cons_succ, i64_w, i32_w]
                                rfl
                              refine pure_ (i := 6) (N := some 81) (v := ?_) (a' := ?_) #[true, true, true, false, true, true, true, false, false, false, false, true, false, false, false, false, false] rfl rfl (any_of HT_.out (by kernel_rfl)) (fun _ _ _ h => h) (Or.inl ⟨by rfl, ?_⟩) ?_ ?_
                              rotate_left
                              · intro w'
                                go_simp
                                with_reducible rfl
                              rotate_left
                              · simp only [Act.put, List.setIfInBounds_toArray, List.set_cons_zero, List.set_cons_succ, i64_w, i32_w]
                                rfl
                              refine pure_ (i := 7) (N := some 82) (v := ?_) (a' := ?_) #[true, true, true, false, true, true, true, true, false, false, false, true, false, false, false, false, false] rfl rfl (any_of HT_.out (by kernel_rfl)) (fun _ _ _ h => h) (Or.inl ⟨by rfl, ?_⟩) ?_ ?_
                              rotate_left
                              · intro w'
                                go_simp
                                with_reducible rfl
                              rotate_left
                              · simp only [Act.put, List.setIfInBounds_toArray, List.set_cons_zero, List.set_cons_succ, i64_w, i32_w]
                                rfl
                              refine take_ (i := 12) (N := some 87) (v := ?_) (a' := ?_) #[true, true, true, false, true, true, true, true, false, false, false, true, true, false, false, false, false] rfl rfl (take_ofW HT_.out HW_.out (by kernel_rfl)) (fun _ _ _ h => h) (Or.inl ⟨by rfl, ?_⟩) hHeld ?_ ?_
                              rotate_left
                              · rintro w' ⟨s0, s1⟩
                                go_simp
                                with_reducible rfl
                              rotate_left
                              · simp only [Act.put, List.setIfInBounds_toArray, List.set_cons_zero, List.set_cons_succ, i64_w, i32_w]
                                rfl
                              refine join_ (σ := Value) 3 #[true, true, true, true, true, true, true, true, true, true, true, true, true, true, false, false, false] (fun s_ => [(78, .string t158), (83, s_), (84, .string (strOfNums y159)), (88, .string t162), (85, .string (t158 ++ (strOfNums y159)))]) (fun s_ w' => (w'.cell? ⟨gb157, 0, none⟩ = some (.string ((rd_T68 l0_5 x5_3).f0)) ∧ w'.cell? ⟨gb157, 1, none⟩ = some (.string ((rd_T68 l0_5 x5_3).f1))) ∧ (Kd.R (Kd.int .u8) 5 w' w.heap.size (fun _ => True) s_ y159) ∧ (w'.heap[gb150]? = some (.cells #[.int .i64 a0_0, .int .i64 a0_1, .int .i64 a0_2, .string a0_3, .string a0_4, .slice (some ad156) l0_5.length c0_5, .slice A0_6 l0_6.length c0_6] 25 (0, 0))) ∧ (w'.heap[gb157]? = some (.cells #[.string ((rd_T68 l0_5 x5_3).f0), .string ((rd_T68 l0_5 x5_3).f1)] 68 (0, 0))) ∧ (Below w.heap.size w w')) ?_ ?_
                              rotate_left
                              · intro hJ3_8_9_13
                                refine join_ (σ := Value) 4 #[true, true, true, true, true, true, true, true, true, true, true, true, true, false, false, false, false] (fun s_ => [(78, .string t158), (83, s_), (84, .string (strOfNums y159)), (85, .string (t158 ++ (strOfNums y159)))]) (fun s_ w' => (w'.cell? ⟨gb157, 0, none⟩ = some (.string ((rd_T68 l0_5 x5_3).f0)) ∧ w'.cell? ⟨gb157, 1, none⟩ = some (.string ((rd_T68 l0_5 x5_3).f1))) ∧ (Kd.R (Kd.int .u8) 5 w' w.heap.size (fun _ => True) s_ y159) ∧ (w'.heap[gb150]? = some (.cells #[.int .i64 a0_0, .int .i64 a0_1, .int .i64 a0_2, .string a0_3, .string a0_4, .slice (some ad156) l0_5.length c0_5, .slice A0_6 l0_6.length c0_6] 25 (0, 0))) ∧ (w'.heap[gb157]? = some (.cells #[.string ((rd_T68 l0_5 x5_3).f0), .string ((rd_T68 l0_5 x5_3).f1)] 68 (0, 0))) ∧ (Below w.heap.size w w')) ?_ ?_
                                rotate_left
                                · intro hJ3_8_9
                                  refine join_ (σ := Value) 5 #[true, true, true, true, true, true, true, true, true, false, false, true, true, true, false, false, false] (fun s_ => [(78, .string t158), (83, s_), (88, .string t162)]) (fun s_ w' => (w'.cell? ⟨gb157, 0, none⟩ = some (.string ((rd_T68 l0_5 x5_3).f0)) ∧ w'.cell? ⟨gb157, 1, none⟩ = some (.string ((rd_T68 l0_5 x5_3).f1))) ∧ (Kd.R (Kd.int .u8) 5 w' w.heap.size (fun _ => True) s_ y159) ∧ (w'.heap[gb150]? = some (.cells #[.int .i64 a0_0, .int .i64 a0_1, .int .i64 a0_2, .string a0_3, .string a0_4, .slice (some ad156) l0_5.length c0_5, .slice A0_6 l0_6.length c0_6] 25 (0, 0))) ∧ (w'.heap[gb157]? = some (.cells #[.string ((rd_T68 l0_5 x5_3).f0), .string ((rd_T68 l0_5 x5_3).f1)] 68 (0, 0))) ∧ (Below w.heap.size w w')) ?_ ?_
                                  rotate_left
                                  · intro hJ3_8_13
                                    refine join_ (σ := Value) 6 #[true, true, true, true, true, true, true, true, true, false, false, true, true, false, false, false, false] (fun s_ => [(78, .string t158), (83, s_)]) (fun s_ w' => (w'.cell? ⟨gb157, 0, none⟩ = some (.string ((rd_T68 l0_5 x5_3).f0)) ∧ w'.cell? ⟨gb157, 1, none⟩ = some (.string ((rd_T68 l0_5 x5_3).f1))) ∧ (Kd.R (Kd.int .u8) 5 w' w.heap.size (fun _ => True) s_ y159) ∧ (w'.heap[gb150]? = some (.cells #[.int .i64 a0_0, .int .i64 a0_1, .int .i64 a0_2, .string a0_3, .string a0_4, .slice (some ad156) l0_5.length c0_5, .slice A0_6 l0_6.length c0_6] 25 (0, 0))) ∧ (w'.heap[gb157]? = some (.cells #[.string ((rd_T68 l0_5 x5_3).f0), .string ((rd_T68 l0_5 x5_3).f1)] 68 (0, 0))) ∧ (Below w.heap.size w w')) ?_ ?_
                                    rotate_left
                                    · intro hJ3_8
                                      refine join_ (σ := Unit) 6 #[true, true, true, true, true, true, true, true, false, false, false, true, true, true, false, false, false] (fun s_ => [(78, .string t158), (88, .string t162)]) (fun s_ w' => (w'.cell? ⟨gb157, 0, none⟩ = some (.string ((rd_T68 l0_5 x5_3).f0)) ∧ w'.cell? ⟨gb157, 1, none⟩ = some (.string ((rd_T68 l0_5 x5_3).f1))) ∧ (w'.heap[gb150]? = some (.cells #[.int .i64 a0_0, .int .i64 a0_1, .int .i64 a0_2, .string a0_3, .string a0_4, .slice (some ad156) l0_5.length c0_5, .slice A0_6 l0_6.length c0_6] 25 (0, 0))) ∧ (w'.heap[gb157]? = some (.cells #[.string ((rd_T68 l0_5 x5_3).f0), .string ((rd_T68 l0_5 x5_3).f1)] 68 (0, 0))) ∧ (Below w.heap.size w w')) ?_ ?_
                                      rotate_left
                                      · intro hJ3_13
                                        refine join_ (σ := Value) 6 #[true, true, true, false, true, true, true, true, true, true, false, true, true, false, false, false, false] (fun s_ => [(83, s_), (84, .string (strOfNums y159))]) (fun s_ w' => (w'.cell? ⟨gb157, 0, none⟩ = some (.string ((rd_T68 l0_5 x5_3).f0)) ∧ w'.cell? ⟨gb157, 1, none⟩ = some (.string ((rd_T68 l0_5 x5_3).f1))) ∧ (Kd.R (Kd.int .u8) 5 w' w.heap.size (fun _ => True) s_ y159) ∧ (w'.heap[gb150]? = some (.cells #[.int .i64 a0_0, .int .i64 a0_1, .int .i64 a0_2, .string a0_3, .string a0_4, .slice (some ad156) l0_5.length c0_5, .slice A0_6 l0_6.length c0_6] 25 (0, 0))) ∧ (w'.heap[gb157]? = some (.cells #[.string ((rd_T68 l0_5 x5_3).f0), .string ((rd_T68 l0_5 x5_3).f1)] 68 (0, 0))) ∧ (Below w.heap.size w w')) ?_ ?_
                                        rotate_left
                                        · intro hJ8_9
                                          refine join_ (σ := Unit) 7 #[true, true, true, true, true, true, true, true, false, false, false, true, true, false, false, false, false] (fun s_ => [(78, .string t158)]) (fun s_ w' => (w'.cell? ⟨gb157, 0, none⟩ = some (.string ((rd_T68 l0_5 x5_3).f0)) ∧ w'.cell? ⟨gb157, 1, none⟩ = some (.string ((rd_T68 l0_5 x5_3).f1))) ∧ (w'.heap[gb150]? = some (.cells #[.int .i64 a0_0, .int .i64 a0_1, .int .i64 a0_2, .string a0_3, .string a0_4, .slice (some ad156) l0_5.length c0_5, .slice A0_6 l0_6.length c0_6] 25 (0, 0))) ∧ (w'.heap[gb157]? = some (.cells #[.string ((rd_T68 l0_5 x5_3).f0), .string ((rd_T68 l0_5 x5_3).f1)] 68 (0, 0))) ∧ (Below w.heap.size w w')) ?_ ?_
                                          rotate_left
                                          · intro hJ3
                                            refine join_ (σ := Value) 7 #[true, true, true, false, true, true, true, true, true, false, false, true, true, false, false, false, false] (fun s_ => [(83, s_)]) (fun s_ w' => (w'.cell? ⟨gb157, 0, none⟩ = some (.string ((rd_T68 l0_5 x5_3).f0)) ∧ w'.cell? ⟨gb157, 1, none⟩ = some (.string ((rd_T68 l0_5 x5_3).f1))) ∧ (Kd.R (Kd.int .u8) 5 w' w.heap.size (fun _ => True) s_ y159) ∧ (w'.heap[gb150]? = some (.cells #[.int .i64 a0_0, .int .i64 a0_1, .int .i64 a0_2, .string a0_3, .string a0_4, .slice (some ad156) l0_5.length c0_5, .slice A0_6 l0_6.length c0_6] 25 (0, 0))) ∧ (w'.heap[gb157]? = some (.cells #[.string ((rd_T68 l0_5 x5_3).f0), .string ((rd_T68 l0_5 x5_3).f1)] 68 (0, 0))) ∧ (Below w.heap.size w w')) ?_ ?_
                                            rotate_left
                                            · intro hJ8
                                              refine two_ (i := 3) (j := 8) (Ni := some 78) (Nj := some 83) #[true, true, true, true, true, true, true, true, false, false, false, true, true, false, false, false, false] #[true, true, true, false, true, true, true, true, true, false, false, true, true, false, false, false, false] rfl rfl rfl rfl (two_of HT_.out (by kernel_rfl)) (by decide) (by decide) (fun K hK => ?_) (fun K hK => ?_)
                                              · skip
                                                refine goes_ Tryd.func67 (by kernel_rfl) rfl #[.string ((rd_T68 l0_5 x5_3).f0), .int .i64 16] (by rfl) rfl rfl (by (try simp only [List.map_toArray, List.map_cons, List.map_nil]); first | done | rfl | (simp only [List.length_drop, List.length_take]; rfl)) ?_
                                                with_reducible refine (dovecoteref11_padded.calls ((rd_T68 l0_5 x5_3).f0) 16 t158 _ A27.out).mono ?_
                                                rintro e w38 ⟨rfl, hb⟩
                                                refine ⟨_, rfl, ?_⟩
                                                have n0_ := Aside0.mk (blk_below (g := gb150) (o := .cells #[.int .i64 a0_0, .int .i64 a0_1, .int .i64 a0_2, .string a0_3, .string a0_4, .slice (some ad156) l0_5.length c0_5, .slice A0_6 l0_6.length c0_6] 25 (0, 0)) (by (with_reducible repeat (first | refine blk_drewN ?_ _ | refine blk_drew ?_ | refine blk_alloc ?_ _)); exact BK150.out) hb)
                                                have n1_ := Aside0.mk (blk_below (g := gb157) (o := .cells #[.string ((rd_T68 l0_5 x5_3).f0), .string ((rd_T68 l0_5 x5_3).f1)] 68 (0, 0)) (by (with_reducible repeat (first | refine blk_drewN ?_ _ | refine blk_drew ?_ | refine blk_alloc ?_ _)); exact BK157.out) hb)
                                                have n2_ := Aside0.mk (below_step (by repeat (first | (with_reducible first | exact HB.out | apply below_alloc | apply pw_below_drewN | apply below_drew1 | refine below_set ?_ GE150.out | refine below_set ?_ GE157.out) | exact HB.out)) hb)
                                                clear BK150
                                                clear BK157
                                                clear HB
                                                have BK150 := n0_
                                                have BK157 := n1_
                                                have HB := n2_
                                                clear n0_ n1_ n2_
                                                (try clear hb)
                                                (try clear hb2)
                                                (try clear hk)
                                                (try clear hi)
                                                refine hK.out _ _ ⟨(blk_cell BK157.out 0).trans rfl, (blk_cell BK157.out 1).trans rfl⟩ (fun hHeld => ?_)
                                                clear hK K
                                                refine norm_ (a' := ?_) ?_ ?_
                                                rotate_left
                                                · show Act.put _ (some 78) _ = _
                                                  simp only [Act.put, List.setIfInBounds_toArray, List.set_cons_zero, List.set_cons_succ, i64_w, i32_w]
                                                  rfl
                                                exact norm_ (by first | (simp only [putAll, Act.put, List.setIfInBounds_toArray, List.set_cons_zero, List.set_cons_succ]; done) | (simp only [putAll, Act.put, List.setIfInBounds_toArray, List.set_cons_zero, List.set_cons_succ]; rfl)) (hJ3 () _ ⟨hHeld, (by (with_reducible repeat (first | refine blk_drewN ?_ _ | refine blk_drew ?_ | refine blk_alloc ?_ _)); exact BK150.out), (by (with_reducible repeat (first | refine blk_drewN ?_ _ | refine blk_drew ?_ | refine blk_alloc ?_ _)); exact BK157.out), (by repeat (first | (with_reducible first | exact HB.out | apply below_alloc | apply pw_below_drewN | apply below_drew1 | refine below_set ?_ GE150.out | refine below_set ?_ GE157.out) | exact HB.out))⟩)
                                              · skip
                                                refine Kd.R_lit_step (Kd.int .u8) _ 5 ?hg (N := 83) ?hd (xs := ([((((rd_T68 l0_5 x5_3).f1).size : Int)) % 256] : List Int)) (inner := [.int .u8 (((((rd_T68 l0_5 x5_3).f1).size : Int)) % 256)]) (ok := fun _ => True) (okp := fun _ => True) ?hr ?hp (fun _ hk => hk) trivial (Below.refl _ _) (Nat.le_refl _) (by simp) ?_; (case hd => rfl); (case hg => rfl); (case hr => first | (go_simp; done) | (go_simp; rfl)); (case hp => exact (Reps.one (show Kd.M (Kd.int .u8) _ _ _ (((((rd_T68 l0_5 x5_3).f1).size : Int)) % 256) [.int .u8 (((((rd_T68 l0_5 x5_3).f1).size : Int)) % 256)] from rfl) (Reps.none _ _)))
                                                intro v160 w38 ho39 hb hg_ hnew_
                                                clear hg_ hnew_
                                                (first | rw [← Ny159.out] at ho39 | (simp only [Int.reduceToNat] at ho39; rw [← Ny159.out] at ho39))
                                                have n0_ := Aside0.mk (Kd.R_lower ho39 (below_size (by repeat (first | (with_reducible first | exact HB.out | apply below_alloc | apply pw_below_drewN | apply below_drew1 | refine below_set ?_ GE150.out | refine below_set ?_ GE157.out) | exact HB.out))))
                                                have n1_ := Aside0.mk (blk_below (g := gb150) (o := .cells #[.int .i64 a0_0, .int .i64 a0_1, .int .i64 a0_2, .string a0_3, .string a0_4, .slice (some ad156) l0_5.length c0_5, .slice A0_6 l0_6.length c0_6] 25 (0, 0)) (by (with_reducible repeat (first | refine blk_drewN ?_ _ | refine blk_drew ?_ | refine blk_alloc ?_ _)); exact BK150.out) hb)
                                                have n2_ := Aside0.mk (blk_below (g := gb157) (o := .cells #[.string ((rd_T68 l0_5 x5_3).f0), .string ((rd_T68 l0_5 x5_3).f1)] 68 (0, 0)) (by (with_reducible repeat (first | refine blk_drewN ?_ _ | refine blk_drew ?_ | refine blk_alloc ?_ _)); exact BK157.out) hb)
                                                have n3_ := Aside0.mk (below_step (by repeat (first | (with_reducible first | exact HB.out | apply below_alloc | apply pw_below_drewN | apply below_drew1 | refine below_set ?_ GE150.out | refine below_set ?_ GE157.out) | exact HB.out)) hb)
                                                clear BK150
                                                clear BK157
                                                clear HB
                                                have HO161 := n0_
                                                have BK150 := n1_
                                                have BK157 := n2_
                                                have HB := n3_
                                                clear n0_ n1_ n2_ n3_
                                                clear hb ho39
                                                refine hK.out _ _ ⟨(blk_cell BK157.out 0).trans rfl, (blk_cell BK157.out 1).trans rfl⟩ (fun hHeld => ?_)
                                                clear hK K
                                                refine norm_ (a' := ?_) ?_ ?_
                                                rotate_left
                                                · show Act.put _ (some 83) _ = _
                                                  simp only [Act.put, List.setIfInBounds_toArray, List.set_cons_zero, List.set_cons_succ, i64_w, i32_w]
                                                  rfl
                                                exact norm_ (by first | (simp only [putAll, Act.put, List.setIfInBounds_toArray, List.set_cons_zero, List.set_cons_succ]; done) | (simp only [putAll, Act.put, List.setIfInBounds_toArray, List.set_cons_zero, List.set_cons_succ]; rfl)) (hJ8 (v160) _ ⟨hHeld, (by (with_reducible repeat (first | apply Kd.R_alloc | apply Kd.R_drewN | apply Kd.R_drew)); exact HO161.out), (by (with_reducible repeat (first | refine blk_drewN ?_ _ | refine blk_drew ?_ | refine blk_alloc ?_ _)); exact BK150.out), (by (with_reducible repeat (first | refine blk_drewN ?_ _ | refine blk_drew ?_ | refine blk_alloc ?_ _)); exact BK157.out), (by repeat (first | (with_reducible first | exact HB.out | apply below_alloc | apply pw_below_drewN | apply below_drew1 | refine below_set ?_ GE150.out | refine below_set ?_ GE157.out) | exact HB.out))⟩)
                                            · skip
                                              rintro v160 w40 ⟨hS_, h0_, h1_, h2_, h3_⟩
                                              have n0_ : Aside0 (Kd.R (Kd.int .u8) 5 w40 w.heap.size (fun _ => True) v160 y159) := ⟨h0_⟩
                                              have n1_ : Aside0 (w40.heap[gb150]? = some (.cells #[.int .i64 a0_0, .int .i64 a0_1, .int .i64 a0_2, .string a0_3, .string a0_4, .slice (some ad156) l0_5.length c0_5, .slice A0_6 l0_6.length c0_6] 25 (0, 0))) := ⟨h1_⟩
                                              have n2_ : Aside0 (w40.heap[gb157]? = some (.cells #[.string ((rd_T68 l0_5 x5_3).f0), .string ((rd_T68 l0_5 x5_3).f1)] 68 (0, 0))) := ⟨h2_⟩
                                              have n3_ : Aside0 (Below w.heap.size w w40) := ⟨h3_⟩
                                              clear BK150
                                              clear BK157
                                              clear HB
                                              clear h0_ h1_ h2_ h3_
                                              have HO161 := n0_
                                              have BK150 := n1_
                                              have BK157 := n2_
                                              have HB := n3_
                                              clear n0_ n1_ n2_ n3_
                                              have hHeld : w40.cell? ⟨gb157, 0, none⟩ = some (.string ((rd_T68 l0_5 x5_3).f0)) ∧ w40.cell? ⟨gb157, 1, none⟩ = some (.string ((rd_T68 l0_5 x5_3).f1)) := hS_
                                              refine norm_ (a' := ?_) ?_ ?_
                                              rotate_left
                                              · simp only [putAll, Act.put, List.setIfInBounds_toArray, List.set_cons_zero, List.set_cons_succ]
                                                rfl
                                              refine two_ (i := 3) (j := 9) (Ni := some 78) (Nj := some 84) #[true, true, true, true, true, true, true, true, true, false, false, true, true, false, false, false, false] #[true, true, true, false, true, true, true, true, true, true, false, true, true, false, false, false, false] rfl rfl rfl rfl (two_of HT_.out (by kernel_rfl)) (by decide) (by decide) (fun K hK => ?_) (fun K hK => ?_)
                                              · skip
                                                refine goes_ Tryd.func67 (by kernel_rfl) rfl #[.string ((rd_T68 l0_5 x5_3).f0), .int .i64 16] (by rfl) rfl rfl (by (try simp only [List.map_toArray, List.map_cons, List.map_nil]); first | done | rfl | (simp only [List.length_drop, List.length_take]; rfl)) ?_
                                                with_reducible refine (dovecoteref11_padded.calls ((rd_T68 l0_5 x5_3).f0) 16 t158 _ A27.out).mono ?_
                                                rintro e w41 ⟨rfl, hb⟩
                                                refine ⟨_, rfl, ?_⟩
                                                have n0_ := Aside0.mk (Kd.R_below (by (with_reducible repeat (first | apply Kd.R_alloc | apply Kd.R_drewN | apply Kd.R_drew)); exact HO161.out) hb)
                                                have n1_ := Aside0.mk (blk_below (g := gb150) (o := .cells #[.int .i64 a0_0, .int .i64 a0_1, .int .i64 a0_2, .string a0_3, .string a0_4, .slice (some ad156) l0_5.length c0_5, .slice A0_6 l0_6.length c0_6] 25 (0, 0)) (by (with_reducible repeat (first | refine blk_drewN ?_ _ | refine blk_drew ?_ | refine blk_alloc ?_ _)); exact BK150.out) hb)
                                                have n2_ := Aside0.mk (blk_below (g := gb157) (o := .cells #[.string ((rd_T68 l0_5 x5_3).f0), .string ((rd_T68 l0_5 x5_3).f1)] 68 (0, 0)) (by (with_reducible repeat (first | refine blk_drewN ?_ _ | refine blk_drew ?_ | refine blk_alloc ?_ _)); exact BK157.out) hb)
                                                have n3_ := Aside0.mk (below_step (by repeat (first | (with_reducible first | exact HB.out | apply below_alloc | apply pw_below_drewN | apply below_drew1 | refine below_set ?_ GE150.out | refine below_set ?_ GE157.out) | exact HB.out)) hb)
                                                clear HO161
                                                clear BK150
                                                clear BK157
                                                clear HB
                                                have HO161 := n0_
                                                have BK150 := n1_
                                                have BK157 := n2_
                                                have HB := n3_
                                                clear n0_ n1_ n2_ n3_
                                                (try clear hb)
                                                (try clear hb2)
                                                (try clear hk)
                                                (try clear hi)
                                                refine hK.out _ _ ⟨(blk_cell BK157.out 0).trans rfl, (blk_cell BK157.out 1).trans rfl⟩ (fun hHeld => ?_)
                                                clear hK K
                                                refine norm_ (a' := ?_) ?_ ?_
                                                rotate_left
                                                · show Act.put _ (some 78) _ = _
                                                  simp only [Act.put, List.setIfInBounds_toArray, List.set_cons_zero, List.set_cons_succ, i64_w, i32_w]
                                                  rfl
                                                exact norm_ (by first | (simp only [putAll, Act.put, List.setIfInBounds_toArray, List.set_cons_zero, List.set_cons_succ]; done) | (simp only [putAll, Act.put, List.setIfInBounds_toArray, List.set_cons_zero, List.set_cons_succ]; rfl)) (hJ3_8 (v160) _ ⟨hHeld, (by (with_reducible repeat (first | apply Kd.R_alloc | apply Kd.R_drewN | apply Kd.R_drew)); exact HO161.out), (by (with_reducible repeat (first | refine blk_drewN ?_ _ | refine blk_drew ?_ | refine blk_alloc ?_ _)); exact BK150.out), (by (with_reducible repeat (first | refine blk_drewN ?_ _ | refine blk_drew ?_ | refine blk_alloc ?_ _)); exact BK157.out), (by repeat (first | (with_reducible first | exact HB.out | apply below_alloc | apply pw_below_drewN | apply below_drew1 | refine below_set ?_ GE150.out | refine below_set ?_ GE157.out) | exact HB.out))⟩)
                                              · skip
                                                have hcv41 := own_string (P := Tryd.prog) Tryd.underlying61 Tryd.underlying5 Tryd.underlying9 (Kd.own_of_R HO161.out)
                                                refine value_ (w1 := ?_) (v := ?_) (by rfl) rfl ?_ ?_
                                                rotate_left 2
                                                · go_simp
                                                  constructor
                                                  · rfl
                                                  · rfl
                                                clear hcv41
                                                refine hK.out _ _ ⟨(blk_cell BK157.out 0).trans rfl, (blk_cell BK157.out 1).trans rfl⟩ (fun hHeld => ?_)
                                                clear hK K
                                                refine norm_ (a' := ?_) ?_ ?_
                                                rotate_left
                                                · show Act.put _ (some 84) _ = _
                                                  simp only [Act.put, List.setIfInBounds_toArray, List.set_cons_zero, List.set_cons_succ, i64_w, i32_w]
                                                  rfl
                                                exact norm_ (by first | (simp only [putAll, Act.put, List.setIfInBounds_toArray, List.set_cons_zero, List.set_cons_succ]; done) | (simp only [putAll, Act.put, List.setIfInBounds_toArray, List.set_cons_zero, List.set_cons_succ]; rfl)) (hJ8_9 (v160) _ ⟨hHeld, (by (with_reducible repeat (first | apply Kd.R_alloc | apply Kd.R_drewN | apply Kd.R_drew)); exact HO161.out), (by (with_reducible repeat (first | refine blk_drewN ?_ _ | refine blk_drew ?_ | refine blk_alloc ?_ _)); exact BK150.out), (by (with_reducible repeat (first | refine blk_drewN ?_ _ | refine blk_drew ?_ | refine blk_alloc ?_ _)); exact BK157.out), (by repeat (first | (with_reducible first | exact HB.out | apply below_alloc | apply pw_below_drewN | apply below_drew1 | refine below_set ?_ GE150.out | refine below_set ?_ GE157.out) | exact HB.out))⟩)
                                          · skip
                                            rintro _ w39 ⟨hS_, h0_, h1_, h2_⟩
                                            have n0_ : Aside0 (w39.heap[gb150]? = some (.cells #[.int .i64 a0_0, .int .i64 a0_1, .int .i64 a0_2, .string a0_3, .string a0_4, .slice (some ad156) l0_5.length c0_5, .slice A0_6 l0_6.length c0_6] 25 (0, 0))) := ⟨h0_⟩
                                            have n1_ : Aside0 (w39.heap[gb157]? = some (.cells #[.string ((rd_T68 l0_5 x5_3).f0), .string ((rd_T68 l0_5 x5_3).f1)] 68 (0, 0))) := ⟨h1_⟩
                                            have n2_ : Aside0 (Below w.heap.size w w39) := ⟨h2_⟩
                                            clear BK150
                                            clear BK157
                                            clear HB
                                            clear h0_ h1_ h2_
                                            have BK150 := n0_
                                            have BK157 := n1_
                                            have HB := n2_
                                            clear n0_ n1_ n2_
                                            have hHeld : w39.cell? ⟨gb157, 0, none⟩ = some (.string ((rd_T68 l0_5 x5_3).f0)) ∧ w39.cell? ⟨gb157, 1, none⟩ = some (.string ((rd_T68 l0_5 x5_3).f1)) := hS_
                                            refine norm_ (a' := ?_) ?_ ?_
                                            rotate_left
                                            · simp only [putAll, Act.put, List.setIfInBounds_toArray, List.set_cons_zero, List.set_cons_succ]
                                              rfl
                                            refine two_ (i := 8) (j := 13) (Ni := some 83) (Nj := some 88) #[true, true, true, true, true, true, true, true, true, false, false, true, true, false, false, false, false] #[true, true, true, true, true, true, true, true, false, false, false, true, true, true, false, false, false] rfl rfl rfl rfl (two_of HT_.out (by kernel_rfl)) (by decide) (by decide) (fun K hK => ?_) (fun K hK => ?_)
                                            · skip
                                              refine Kd.R_lit_step (Kd.int .u8) _ 5 ?hg (N := 83) ?hd (xs := ([((((rd_T68 l0_5 x5_3).f1).size : Int)) % 256] : List Int)) (inner := [.int .u8 (((((rd_T68 l0_5 x5_3).f1).size : Int)) % 256)]) (ok := fun _ => True) (okp := fun _ => True) ?hr ?hp (fun _ hk => hk) trivial (Below.refl _ _) (Nat.le_refl _) (by simp) ?_; (case hd => rfl); (case hg => rfl); (case hr => first | (go_simp; done) | (go_simp; rfl)); (case hp => exact (Reps.one (show Kd.M (Kd.int .u8) _ _ _ (((((rd_T68 l0_5 x5_3).f1).size : Int)) % 256) [.int .u8 (((((rd_T68 l0_5 x5_3).f1).size : Int)) % 256)] from rfl) (Reps.none _ _)))
                                              intro v160 w40 ho41 hb hg_ hnew_
                                              clear hg_ hnew_
                                              (first | rw [← Ny159.out] at ho41 | (simp only [Int.reduceToNat] at ho41; rw [← Ny159.out] at ho41))
                                              have n0_ := Aside0.mk (Kd.R_lower ho41 (below_size (by repeat (first | (with_reducible first | exact HB.out | apply below_alloc | apply pw_below_drewN | apply below_drew1 | refine below_set ?_ GE150.out | refine below_set ?_ GE157.out) | exact HB.out))))
                                              have n1_ := Aside0.mk (blk_below (g := gb150) (o := .cells #[.int .i64 a0_0, .int .i64 a0_1, .int .i64 a0_2, .string a0_3, .string a0_4, .slice (some ad156) l0_5.length c0_5, .slice A0_6 l0_6.length c0_6] 25 (0, 0)) (by (with_reducible repeat (first | refine blk_drewN ?_ _ | refine blk_drew ?_ | refine blk_alloc ?_ _)); exact BK150.out) hb)
                                              have n2_ := Aside0.mk (blk_below (g := gb157) (o := .cells #[.string ((rd_T68 l0_5 x5_3).f0), .string ((rd_T68 l0_5 x5_3).f1)] 68 (0, 0)) (by (with_reducible repeat (first | refine blk_drewN ?_ _ | refine blk_drew ?_ | refine blk_alloc ?_ _)); exact BK157.out) hb)
                                              have n3_ := Aside0.mk (below_step (by repeat (first | (with_reducible first | exact HB.out | apply below_alloc | apply pw_below_drewN | apply below_drew1 | refine below_set ?_ GE150.out | refine below_set ?_ GE157.out) | exact HB.out)) hb)
                                              clear BK150
                                              clear BK157
                                              clear HB
                                              have HO161 := n0_
                                              have BK150 := n1_
                                              have BK157 := n2_
                                              have HB := n3_
                                              clear n0_ n1_ n2_ n3_
                                              clear hb ho41
                                              refine hK.out _ _ ⟨(blk_cell BK157.out 0).trans rfl, (blk_cell BK157.out 1).trans rfl⟩ (fun hHeld => ?_)
                                              clear hK K
                                              refine norm_ (a' := ?_) ?_ ?_
                                              rotate_left
                                              · show Act.put _ (some 83) _ = _
                                                simp only [Act.put, List.setIfInBounds_toArray, List.set_cons_zero, List.set_cons_succ, i64_w, i32_w]
                                                rfl
                                              exact norm_ (by first | (simp only [putAll, Act.put, List.setIfInBounds_toArray, List.set_cons_zero, List.set_cons_succ]; done) | (simp only [putAll, Act.put, List.setIfInBounds_toArray, List.set_cons_zero, List.set_cons_succ]; rfl)) (hJ3_8 (v160) _ ⟨hHeld, (by (with_reducible repeat (first | apply Kd.R_alloc | apply Kd.R_drewN | apply Kd.R_drew)); exact HO161.out), (by (with_reducible repeat (first | refine blk_drewN ?_ _ | refine blk_drew ?_ | refine blk_alloc ?_ _)); exact BK150.out), (by (with_reducible repeat (first | refine blk_drewN ?_ _ | refine blk_drew ?_ | refine blk_alloc ?_ _)); exact BK157.out), (by repeat (first | (with_reducible first | exact HB.out | apply below_alloc | apply pw_below_drewN | apply below_drew1 | refine below_set ?_ GE150.out | refine below_set ?_ GE157.out) | exact HB.out))⟩)
                                            · skip
                                              refine goes_ Tryd.func67 (by kernel_rfl) rfl #[.string ((rd_T68 l0_5 x5_3).f1), .int .i64 222] (by rfl) rfl rfl (by (try simp only [List.map_toArray, List.map_cons, List.map_nil]); first | done | rfl | (simp only [List.length_drop, List.length_take]; rfl)) ?_
                                              with_reducible refine (dovecoteref11_padded.calls ((rd_T68 l0_5 x5_3).f1) 222 t162 _ A29.out).mono ?_
                                              rintro e w40 ⟨rfl, hb⟩
                                              refine ⟨_, rfl, ?_⟩
                                              have n0_ := Aside0.mk (blk_below (g := gb150) (o := .cells #[.int .i64 a0_0, .int .i64 a0_1, .int .i64 a0_2, .string a0_3, .string a0_4, .slice (some ad156) l0_5.length c0_5, .slice A0_6 l0_6.length c0_6] 25 (0, 0)) (by (with_reducible repeat (first | refine blk_drewN ?_ _ | refine blk_drew ?_ | refine blk_alloc ?_ _)); exact BK150.out) hb)
                                              have n1_ := Aside0.mk (blk_below (g := gb157) (o := .cells #[.string ((rd_T68 l0_5 x5_3).f0), .string ((rd_T68 l0_5 x5_3).f1)] 68 (0, 0)) (by (with_reducible repeat (first | refine blk_drewN ?_ _ | refine blk_drew ?_ | refine blk_alloc ?_ _)); exact BK157.out) hb)
                                              have n2_ := Aside0.mk (below_step (by repeat (first | (with_reducible first | exact HB.out | apply below_alloc | apply pw_below_drewN | apply below_drew1 | refine below_set ?_ GE150.out | refine below_set ?_ GE157.out) | exact HB.out)) hb)
                                              clear BK150
                                              clear BK157
                                              clear HB
                                              have BK150 := n0_
                                              have BK157 := n1_
                                              have HB := n2_
                                              clear n0_ n1_ n2_
                                              (try clear hb)
                                              (try clear hb2)
                                              (try clear hk)
                                              (try clear hi)
                                              refine hK.out _ _ ⟨(blk_cell BK157.out 0).trans rfl, (blk_cell BK157.out 1).trans rfl⟩ (fun hHeld => ?_)
                                              clear hK K
                                              refine norm_ (a' := ?_) ?_ ?_
                                              rotate_left
                                              · show Act.put _ (some 88) _ = _
                                                simp only [Act.put, List.setIfInBounds_toArray, List.set_cons_zero, List.set_cons_succ, i64_w, i32_w]
                                                rfl
                                              exact norm_ (by first | (simp only [putAll, Act.put, List.setIfInBounds_toArray, List.set_cons_zero, List.set_cons_succ]; done) | (simp only [putAll, Act.put, List.setIfInBounds_toArray, List.set_cons_zero, List.set_cons_succ]; rfl)) (hJ3_13 () _ ⟨hHeld, (by (with_reducible repeat (first | refine blk_drewN ?_ _ | refine blk_drew ?_ | refine blk_alloc ?_ _)); exact BK150.out), (by (with_reducible repeat (first | refine blk_drewN ?_ _ | refine blk_drew ?_ | refine blk_alloc ?_ _)); exact BK157.out), (by repeat (first | (with_reducible first | exact HB.out | apply below_alloc | apply pw_below_drewN | apply below_drew1 | refine below_set ?_ GE150.out | refine below_set ?_ GE157.out) | exact HB.out))⟩)
                                        · skip
                                          rintro v160 w41 ⟨hS_, h0_, h1_, h2_, h3_⟩
                                          have n0_ : Aside0 (Kd.R (Kd.int .u8) 5 w41 w.heap.size (fun _ => True) v160 y159) := ⟨h0_⟩
                                          have n1_ : Aside0 (w41.heap[gb150]? = some (.cells #[.int .i64 a0_0, .int .i64 a0_1, .int .i64 a0_2, .string a0_3, .string a0_4, .slice (some ad156) l0_5.length c0_5, .slice A0_6 l0_6.length c0_6] 25 (0, 0))) := ⟨h1_⟩
                                          have n2_ : Aside0 (w41.heap[gb157]? = some (.cells #[.string ((rd_T68 l0_5 x5_3).f0), .string ((rd_T68 l0_5 x5_3).f1)] 68 (0, 0))) := ⟨h2_⟩
                                          have n3_ : Aside0 (Below w.heap.size w w41) := ⟨h3_⟩
                                          clear BK150
                                          clear BK157
                                          clear HB
                                          clear h0_ h1_ h2_ h3_
                                          have HO161 := n0_
                                          have BK150 := n1_
                                          have BK157 := n2_
                                          have HB := n3_
                                          clear n0_ n1_ n2_ n3_
                                          have hHeld : w41.cell? ⟨gb157, 0, none⟩ = some (.string ((rd_T68 l0_5 x5_3).f0)) ∧ w41.cell? ⟨gb157, 1, none⟩ = some (.string ((rd_T68 l0_5 x5_3).f1)) := hS_
                                          refine norm_ (a' := ?_) ?_ ?_
                                          rotate_left
                                          · simp only [putAll, Act.put, List.setIfInBounds_toArray, List.set_cons_zero, List.set_cons_succ]
                                            rfl
                                          refine one_ (i := 3) (N := some 78) #[true, true, true, true, true, true, true, true, true, true, false, true, true, false, false, false, false] rfl rfl (one_of HT_.out (by kernel_rfl)) (by decide) (fun K hK => ?_)
                                          refine goes_ Tryd.func67 (by kernel_rfl) rfl #[.string ((rd_T68 l0_5 x5_3).f0), .int .i64 16] (by rfl) rfl rfl (by (try simp only [List.map_toArray, List.map_cons, List.map_nil]); first | done | rfl | (simp only [List.length_drop, List.length_take]; rfl)) ?_
                                          with_reducible refine (dovecoteref11_padded.calls ((rd_T68 l0_5 x5_3).f0) 16 t158 _ A27.out).mono ?_
                                          rintro e w42 ⟨rfl, hb⟩
                                          refine ⟨_, rfl, ?_⟩
                                          have n0_ := Aside0.mk (Kd.R_below (by (with_reducible repeat (first | apply Kd.R_alloc | apply Kd.R_drewN | apply Kd.R_drew)); exact HO161.out) hb)
                                          have n1_ := Aside0.mk (blk_below (g := gb150) (o := .cells #[.int .i64 a0_0, .int .i64 a0_1, .int .i64 a0_2, .string a0_3, .string a0_4, .slice (some ad156) l0_5.length c0_5, .slice A0_6 l0_6.length c0_6] 25 (0, 0)) (by (with_reducible repeat (first | refine blk_drewN ?_ _ | refine blk_drew ?_ | refine blk_alloc ?_ _)); exact BK150.out) hb)
                                          have n2_ := Aside0.mk (blk_below (g := gb157) (o := .cells #[.string ((rd_T68 l0_5 x5_3).f0), .string ((rd_T68 l0_5 x5_3).f1)] 68 (0, 0)) (by (with_reducible repeat (first | refine blk_drewN ?_ _ | refine blk_drew ?_ | refine blk_alloc ?_ _)); exact BK157.out) hb)
                                          have n3_ := Aside0.mk (below_step (by repeat (first | (with_reducible first | exact HB.out | apply below_alloc | apply pw_below_drewN | apply below_drew1 | refine below_set ?_ GE150.out | refine below_set ?_ GE157.out) | exact HB.out)) hb)
                                          clear HO161
                                          clear BK150
                                          clear BK157
                                          clear HB
                                          have HO161 := n0_
                                          have BK150 := n1_
                                          have BK157 := n2_
                                          have HB := n3_
                                          clear n0_ n1_ n2_ n3_
                                          (try clear hb)
                                          (try clear hb2)
                                          (try clear hk)
                                          (try clear hi)
                                          refine hK.out _ _ ⟨(blk_cell BK157.out 0).trans rfl, (blk_cell BK157.out 1).trans rfl⟩ (fun hHeld => ?_)
                                          clear hK K
                                          refine norm_ (a' := ?_) ?_ ?_
                                          rotate_left
                                          · show Act.put _ (some 78) _ = _
                                            simp only [Act.put, List.setIfInBounds_toArray, List.set_cons_zero, List.set_cons_succ, i64_w, i32_w]
                                            rfl
                                          refine pure_ (i := 10) (N := some 85) (v := ?_) (a' := ?_) #[true, true, true, true, true, true, true, true, true, true, true, true, true, false, false, false, false] rfl rfl (any_of HT_.out (by kernel_rfl)) (fun _ _ _ h => h) (Or.inl ⟨by rfl, ?_⟩) ?_ ?_
                                          rotate_left
                                          · intro w'
                                            go_simp
                                            with_reducible rfl
                                          rotate_left
                                          · simp only [Act.put, List.setIfInBounds_toArray, List.set_cons_zero, List.set_cons_succ, i64_w, i32_w]
                                            rfl
                                          exact norm_ (by first | (simp only [putAll, Act.put, List.setIfInBounds_toArray, List.set_cons_zero, List.set_cons_succ]; done) | (simp only [putAll, Act.put, List.setIfInBounds_toArray, List.set_cons_zero, List.set_cons_succ]; rfl)) (hJ3_8_9 (v160) _ ⟨hHeld, (by (with_reducible repeat (first | apply Kd.R_alloc | apply Kd.R_drewN | apply Kd.R_drew)); exact HO161.out), (by (with_reducible repeat (first | refine blk_drewN ?_ _ | refine blk_drew ?_ | refine blk_alloc ?_ _)); exact BK150.out), (by (with_reducible repeat (first | refine blk_drewN ?_ _ | refine blk_drew ?_ | refine blk_alloc ?_ _)); exact BK157.out), (by repeat (first | (with_reducible first | exact HB.out | apply below_alloc | apply pw_below_drewN | apply below_drew1 | refine below_set ?_ GE150.out | refine below_set ?_ GE157.out) | exact HB.out))⟩)
                                      · skip
                                        rintro _ w40 ⟨hS_, h0_, h1_, h2_⟩
                                        have n0_ : Aside0 (w40.heap[gb150]? = some (.cells #[.int .i64 a0_0, .int .i64 a0_1, .int .i64 a0_2, .string a0_3, .string a0_4, .slice (some ad156) l0_5.length c0_5, .slice A0_6 l0_6.length c0_6] 25 (0, 0))) := ⟨h0_⟩
                                        have n1_ : Aside0 (w40.heap[gb157]? = some (.cells #[.string ((rd_T68 l0_5 x5_3).f0), .string ((rd_T68 l0_5 x5_3).f1)] 68 (0, 0))) := ⟨h1_⟩
                                        have n2_ : Aside0 (Below w.heap.size w w40) := ⟨h2_⟩
                                        clear BK150
                                        clear BK157
                                        clear HB
                                        clear h0_ h1_ h2_
                                        have BK150 := n0_
                                        have BK157 := n1_
                                        have HB := n2_
                                        clear n0_ n1_ n2_
                                        have hHeld : w40.cell? ⟨gb157, 0, none⟩ = some (.string ((rd_T68 l0_5 x5_3).f0)) ∧ w40.cell? ⟨gb157, 1, none⟩ = some (.string ((rd_T68 l0_5 x5_3).f1)) := hS_
                                        refine norm_ (a' := ?_) ?_ ?_
                                        rotate_left
                                        · simp only [putAll, Act.put, List.setIfInBounds_toArray, List.set_cons_zero, List.set_cons_succ]
                                          rfl
                                        refine one_ (i := 8) (N := some 83) #[true, true, true, true, true, true, true, true, true, false, false, true, true, true, false, false, false] rfl rfl (one_of HT_.out (by kernel_rfl)) (by decide) (fun K hK => ?_)
                                        refine Kd.R_lit_step (Kd.int .u8) _ 5 ?hg (N := 83) ?hd (xs := ([((((rd_T68 l0_5 x5_3).f1).size : Int)) % 256] : List Int)) (inner := [.int .u8 (((((rd_T68 l0_5 x5_3).f1).size : Int)) % 256)]) (ok := fun _ => True) (okp := fun _ => True) ?hr ?hp (fun _ hk => hk) trivial (Below.refl _ _) (Nat.le_refl _) (by simp) ?_; (case hd => rfl); (case hg => rfl); (case hr => first | (go_simp; done) | (go_simp; rfl)); (case hp => exact (Reps.one (show Kd.M (Kd.int .u8) _ _ _ (((((rd_T68 l0_5 x5_3).f1).size : Int)) % 256) [.int .u8 (((((rd_T68 l0_5 x5_3).f1).size : Int)) % 256)] from rfl) (Reps.none _ _)))
                                        intro v160 w41 ho42 hb hg_ hnew_
                                        clear hg_ hnew_
                                        (first | rw [← Ny159.out] at ho42 | (simp only [Int.reduceToNat] at ho42; rw [← Ny159.out] at ho42))
                                        have n0_ := Aside0.mk (Kd.R_lower ho42 (below_size (by repeat (first | (with_reducible first | exact HB.out | apply below_alloc | apply pw_below_drewN | apply below_drew1 | refine below_set ?_ GE150.out | refine below_set ?_ GE157.out) | exact HB.out))))
                                        have n1_ := Aside0.mk (blk_below (g := gb150) (o := .cells #[.int .i64 a0_0, .int .i64 a0_1, .int .i64 a0_2, .string a0_3, .string a0_4, .slice (some ad156) l0_5.length c0_5, .slice A0_6 l0_6.length c0_6] 25 (0, 0)) (by (with_reducible repeat (first | refine blk_drewN ?_ _ | refine blk_drew ?_ | refine blk_alloc ?_ _)); exact BK150.out) hb)
                                        have n2_ := Aside0.mk (blk_below (g := gb157) (o := .cells #[.string ((rd_T68 l0_5 x5_3).f0), .string ((rd_T68 l0_5 x5_3).f1)] 68 (0, 0)) (by (with_reducible repeat (first | refine blk_drewN ?_ _ | refine blk_drew ?_ | refine blk_alloc ?_ _)); exact BK157.out) hb)
                                        have n3_ := Aside0.mk (below_step (by repeat (first | (with_reducible first | exact HB.out | apply below_alloc | apply pw_below_drewN | apply below_drew1 | refine below_set ?_ GE150.out | refine below_set ?_ GE157.out) | exact HB.out)) hb)
                                        clear BK150
                                        clear BK157
                                        clear HB
                                        have HO161 := n0_
                                        have BK150 := n1_
                                        have BK157 := n2_
                                        have HB := n3_
                                        clear n0_ n1_ n2_ n3_
                                        clear hb ho42
                                        refine hK.out _ _ ⟨(blk_cell BK157.out 0).trans rfl, (blk_cell BK157.out 1).trans rfl⟩ (fun hHeld => ?_)
                                        clear hK K
                                        refine norm_ (a' := ?_) ?_ ?_
                                        rotate_left
                                        · show Act.put _ (some 83) _ = _
                                          simp only [Act.put, List.setIfInBounds_toArray, List.set_cons_zero, List.set_cons_succ, i64_w, i32_w]
                                          rfl
                                        exact norm_ (by first | (simp only [putAll, Act.put, List.setIfInBounds_toArray, List.set_cons_zero, List.set_cons_succ]; done) | (simp only [putAll, Act.put, List.setIfInBounds_toArray, List.set_cons_zero, List.set_cons_succ]; rfl)) (hJ3_8_13 (v160) _ ⟨hHeld, (by (with_reducible repeat (first | apply Kd.R_alloc | apply Kd.R_drewN | apply Kd.R_drew)); exact HO161.out), (by (with_reducible repeat (first | refine blk_drewN ?_ _ | refine blk_drew ?_ | refine blk_alloc ?_ _)); exact BK150.out), (by (with_reducible repeat (first | refine blk_drewN ?_ _ | refine blk_drew ?_ | refine blk_alloc ?_ _)); exact BK157.out), (by repeat (first | (with_reducible first | exact HB.out | apply below_alloc | apply pw_below_drewN | apply below_drew1 | refine below_set ?_ GE150.out | refine below_set ?_ GE157.out) | exact HB.out))⟩)
                                    · skip
                                      rintro v160 w41 ⟨hS_, h0_, h1_, h2_, h3_⟩
                                      have n0_ : Aside0 (Kd.R (Kd.int .u8) 5 w41 w.heap.size (fun _ => True) v160 y159) := ⟨h0_⟩
                                      have n1_ : Aside0 (w41.heap[gb150]? = some (.cells #[.int .i64 a0_0, .int .i64 a0_1, .int .i64 a0_2, .string a0_3, .string a0_4, .slice (some ad156) l0_5.length c0_5, .slice A0_6 l0_6.length c0_6] 25 (0, 0))) := ⟨h1_⟩
                                      have n2_ : Aside0 (w41.heap[gb157]? = some (.cells #[.string ((rd_T68 l0_5 x5_3).f0), .string ((rd_T68 l0_5 x5_3).f1)] 68 (0, 0))) := ⟨h2_⟩
                                      have n3_ : Aside0 (Below w.heap.size w w41) := ⟨h3_⟩
                                      clear BK150
                                      clear BK157
                                      clear HB
                                      clear h0_ h1_ h2_ h3_
                                      have HO161 := n0_
                                      have BK150 := n1_
                                      have BK157 := n2_
                                      have HB := n3_
                                      clear n0_ n1_ n2_ n3_
                                      have hHeld : w41.cell? ⟨gb157, 0, none⟩ = some (.string ((rd_T68 l0_5 x5_3).f0)) ∧ w41.cell? ⟨gb157, 1, none⟩ = some (.string ((rd_T68 l0_5 x5_3).f1)) := hS_
                                      refine norm_ (a' := ?_) ?_ ?_
                                      rotate_left
                                      · simp only [putAll, Act.put, List.setIfInBounds_toArray, List.set_cons_zero, List.set_cons_succ]
                                        rfl
                                      refine two_ (i := 9) (j := 13) (Ni := some 84) (Nj := some 88) #[true, true, true, true, true, true, true, true, true, true, false, true, true, false, false, false, false] #[true, true, true, true, true, true, true, true, true, false, false, true, true, true, false, false, false] rfl rfl rfl rfl (two_of HT_.out (by kernel_rfl)) (by decide) (by decide) (fun K hK => ?_) (fun K hK => ?_)
                                      · skip
                                        have hcv42 := own_string (P := Tryd.prog) Tryd.underlying61 Tryd.underlying5 Tryd.underlying9 (Kd.own_of_R HO161.out)
                                        refine value_ (w1 := ?_) (v := ?_) (by rfl) rfl ?_ ?_
                                        rotate_left 2
                                        · go_simp
                                          constructor
                                          · rfl
                                          · rfl
                                        clear hcv42
                                        refine hK.out _ _ ⟨(blk_cell BK157.out 0).trans rfl, (blk_cell BK157.out 1).trans rfl⟩ (fun hHeld => ?_)
                                        clear hK K
                                        refine norm_ (a' := ?_) ?_ ?_
                                        rotate_left
                                        · show Act.put _ (some 84) _ = _
                                          simp only [Act.put, List.setIfInBounds_toArray, List.set_cons_zero, List.set_cons_succ, i64_w, i32_w]
                                          rfl
                                        refine pure_ (i := 10) (N := some 85) (v := ?_) (a' := ?_) #[true, true, true, true, true, true, true, true, true, true, true, true, true, false, false, false, false] rfl rfl (any_of HT_.out (by kernel_rfl)) (fun _ _ _ h => h) (Or.inl ⟨by rfl, ?_⟩) ?_ ?_
                                        rotate_left
                                        · intro w'
                                          go_simp
                                          with_reducible rfl
                                        rotate_left
                                        · simp only [Act.put, List.setIfInBounds_toArray, List.set_cons_zero, List.set_cons_succ, i64_w, i32_w]
                                          rfl
                                        exact norm_ (by first | (simp only [putAll, Act.put, List.setIfInBounds_toArray, List.set_cons_zero, List.set_cons_succ]; done) | (simp only [putAll, Act.put, List.setIfInBounds_toArray, List.set_cons_zero, List.set_cons_succ]; rfl)) (hJ3_8_9 (v160) _ ⟨hHeld, (by (with_reducible repeat (first | apply Kd.R_alloc | apply Kd.R_drewN | apply Kd.R_drew)); exact HO161.out), (by (with_reducible repeat (first | refine blk_drewN ?_ _ | refine blk_drew ?_ | refine blk_alloc ?_ _)); exact BK150.out), (by (with_reducible repeat (first | refine blk_drewN ?_ _ | refine blk_drew ?_ | refine blk_alloc ?_ _)); exact BK157.out), (by repeat (first | (with_reducible first | exact HB.out | apply below_alloc | apply pw_below_drewN | apply below_drew1 | refine below_set ?_ GE150.out | refine below_set ?_ GE157.out) | exact HB.out))⟩)
                                      · skip
                                        refine goes_ Tryd.func67 (by kernel_rfl) rfl #[.string ((rd_T68 l0_5 x5_3).f1), .int .i64 222] (by rfl) rfl rfl (by (try simp only [List.map_toArray, List.map_cons, List.map_nil]); first | done | rfl | (simp only [List.length_drop, List.length_take]; rfl)) ?_
                                        with_reducible refine (dovecoteref11_padded.calls ((rd_T68 l0_5 x5_3).f1) 222 t162 _ A29.out).mono ?_
                                        rintro e w42 ⟨rfl, hb⟩
                                        refine ⟨_, rfl, ?_⟩
                                        have n0_ := Aside0.mk (Kd.R_below (by (with_reducible repeat (first | apply Kd.R_alloc | apply Kd.R_drewN | apply Kd.R_drew)); exact HO161.out) hb)
                                        have n1_ := Aside0.mk (blk_below (g := gb150) (o := .cells #[.int .i64 a0_0, .int .i64 a0_1, .int .i64 a0_2, .string a0_3, .string a0_4, .slice (some ad156) l0_5.length c0_5, .slice A0_6 l0_6.length c0_6] 25 (0, 0)) (by (with_reducible repeat (first | refine blk_drewN ?_ _ | refine blk_drew ?_ | refine blk_alloc ?_ _)); exact BK150.out) hb)
                                        have n2_ := Aside0.mk (blk_below (g := gb157) (o := .cells #[.string ((rd_T68 l0_5 x5_3).f0), .string ((rd_T68 l0_5 x5_3).f1)] 68 (0, 0)) (by (with_reducible repeat (first | refine blk_drewN ?_ _ | refine blk_drew ?_ | refine blk_alloc ?_ _)); exact BK157.out) hb)
                                        have n3_ := Aside0.mk (below_step (by repeat (first | (with_reducible first | exact HB.out | apply below_alloc | apply pw_below_drewN | apply below_drew1 | refine below_set ?_ GE150.out | refine below_set ?_ GE157.out) | exact HB.out)) hb)
                                        clear HO161
                                        clear BK150
                                        clear BK157
                                        clear HB
                                        have HO161 := n0_
                                        have BK150 := n1_
                                        have BK157 := n2_
                                        have HB := n3_
                                        clear n0_ n1_ n2_ n3_
                                        (try clear hb)
                                        (try clear hb2)
                                        (try clear hk)
                                        (try clear hi)
                                        refine hK.out _ _ ⟨(blk_cell BK157.out 0).trans rfl, (blk_cell BK157.out 1).trans rfl⟩ (fun hHeld => ?_)
                                        clear hK K
                                        refine norm_ (a' := ?_) ?_ ?_
                                        rotate_left
                                        · show Act.put _ (some 88) _ = _
                                          simp only [Act.put, List.setIfInBounds_toArray, List.set_cons_zero, List.set_cons_succ, i64_w, i32_w]
                                          rfl
                                        exact norm_ (by first | (simp only [putAll, Act.put, List.setIfInBounds_toArray, List.set_cons_zero, List.set_cons_succ]; done) | (simp only [putAll, Act.put, List.setIfInBounds_toArray, List.set_cons_zero, List.set_cons_succ]; rfl)) (hJ3_8_13 (v160) _ ⟨hHeld, (by (with_reducible repeat (first | apply Kd.R_alloc | apply Kd.R_drewN | apply Kd.R_drew)); exact HO161.out), (by (with_reducible repeat (first | refine blk_drewN ?_ _ | refine blk_drew ?_ | refine blk_alloc ?_ _)); exact BK150.out), (by (with_reducible repeat (first | refine blk_drewN ?_ _ | refine blk_drew ?_ | refine blk_alloc ?_ _)); exact BK157.out), (by repeat (first | (with_reducible first | exact HB.out | apply below_alloc | apply pw_below_drewN | apply below_drew1 | refine below_set ?_ GE150.out | refine below_set ?_ GE157.out) | exact HB.out))⟩)
                                  · skip
                                    rintro v160 w42 ⟨hS_, h0_, h1_, h2_, h3_⟩
                                    have n0_ : Aside0 (Kd.R (Kd.int .u8) 5 w42 w.heap.size (fun _ => True) v160 y159) := ⟨h0_⟩
                                    have n1_ : Aside0 (w42.heap[gb150]? = some (.cells #[.int .i64 a0_0, .int .i64 a0_1, .int .i64 a0_2, .string a0_3, .string a0_4, .slice (some ad156) l0_5.length c0_5, .slice A0_6 l0_6.length c0_6] 25 (0, 0))) := ⟨h1_⟩
                                    have n2_ : Aside0 (w42.heap[gb157]? = some (.cells #[.string ((rd_T68 l0_5 x5_3).f0), .string ((rd_T68 l0_5 x5_3).f1)] 68 (0, 0))) := ⟨h2_⟩
                                    have n3_ : Aside0 (Below w.heap.size w w42) := ⟨h3_⟩
                                    clear BK150
                                    clear BK157
                                    clear HB
                                    clear h0_ h1_ h2_ h3_
                                    have HO161 := n0_
                                    have BK150 := n1_
                                    have BK157 := n2_
                                    have HB := n3_
                                    clear n0_ n1_ n2_ n3_
                                    have hHeld : w42.cell? ⟨gb157, 0, none⟩ = some (.string ((rd_T68 l0_5 x5_3).f0)) ∧ w42.cell? ⟨gb157, 1, none⟩ = some (.string ((rd_T68 l0_5 x5_3).f1)) := hS_
                                    refine norm_ (a' := ?_) ?_ ?_
                                    rotate_left
                                    · simp only [putAll, Act.put, List.setIfInBounds_toArray, List.set_cons_zero, List.set_cons_succ]
                                      rfl
                                    refine one_ (i := 9) (N := some 84) #[true, true, true, true, true, true, true, true, true, true, false, true, true, true, false, false, false] rfl rfl (one_of HT_.out (by kernel_rfl)) (by decide) (fun K hK => ?_)
                                    have hcv43 := own_string (P := Tryd.prog) Tryd.underlying61 Tryd.underlying5 Tryd.underlying9 (Kd.own_of_R HO161.out)
                                    refine value_ (w1 := ?_) (v := ?_) (by rfl) rfl ?_ ?_
                                    rotate_left 2
                                    · go_simp
                                      constructor
                                      · rfl
                                      · rfl
                                    clear hcv43
                                    refine hK.out _ _ ⟨(blk_cell BK157.out 0).trans rfl, (blk_cell BK157.out 1).trans rfl⟩ (fun hHeld => ?_)
                                    clear hK K
                                    refine norm_ (a' := ?_) ?_ ?_
                                    rotate_left
                                    · show Act.put _ (some 84) _ = _
                                      simp only [Act.put, List.setIfInBounds_toArray, List.set_cons_zero, List.set_cons_succ, i64_w, i32_w]
                                      rfl
                                    refine pure_ (i := 10) (N := some 85) (v := ?_) (a' := ?_) #[true, true, true, true, true, true, true, true, true, true, true, true, true, true, false, false, false] rfl rfl (any_of HT_.out (by kernel_rfl)) (fun _ _ _ h => h) (Or.inl ⟨by rfl, ?_⟩) ?_ ?_
                                    rotate_left
                                    · intro w'
                                      go_simp
                                      with_reducible rfl
                                    rotate_left
                                    · simp only [Act.put, List.setIfInBounds_toArray, List.set_cons_zero, List.set_cons_succ, i64_w, i32_w]
                                      rfl
                                    exact norm_ (by first | (simp only [putAll, Act.put, List.setIfInBounds_toArray, List.set_cons_zero, List.set_cons_succ]; done) | (simp only [putAll, Act.put, List.setIfInBounds_toArray, List.set_cons_zero, List.set_cons_succ]; rfl)) (hJ3_8_9_13 (v160) _ ⟨hHeld, (by (with_reducible repeat (first | apply Kd.R_alloc | apply Kd.R_drewN | apply Kd.R_drew)); exact HO161.out), (by (with_reducible repeat (first | refine blk_drewN ?_ _ | refine blk_drew ?_ | refine blk_alloc ?_ _)); exact BK150.out), (by (with_reducible repeat (first | refine blk_drewN ?_ _ | refine blk_drew ?_ | refine blk_alloc ?_ _)); exact BK157.out), (by repeat (first | (with_reducible first | exact HB.out | apply below_alloc | apply pw_below_drewN | apply below_drew1 | refine below_set ?_ GE150.out | refine below_set ?_ GE157.out) | exact HB.out))⟩)
                                · skip
                                  rintro v160 w42 ⟨hS_, h0_, h1_, h2_, h3_⟩
                                  have n0_ : Aside0 (Kd.R (Kd.int .u8) 5 w42 w.heap.size (fun _ => True) v160 y159) := ⟨h0_⟩
                                  have n1_ : Aside0 (w42.heap[gb150]? = some (.cells #[.int .i64 a0_0, .int .i64 a0_1, .int .i64 a0_2, .string a0_3, .string a0_4, .slice (some ad156) l0_5.length c0_5, .slice A0_6 l0_6.length c0_6] 25 (0, 0))) := ⟨h1_⟩
                                  have n2_ : Aside0 (w42.heap[gb157]? = some (.cells #[.string ((rd_T68 l0_5 x5_3).f0), .string ((rd_T68 l0_5 x5_3).f1)] 68 (0, 0))) := ⟨h2_⟩
                                  have n3_ : Aside0 (Below w.heap.size w w42) := ⟨h3_⟩
                                  clear BK150
                                  clear BK157
                                  clear HB
                                  clear h0_ h1_ h2_ h3_
                                  have HO161 := n0_
                                  have BK150 := n1_
                                  have BK157 := n2_
                                  have HB := n3_
                                  clear n0_ n1_ n2_ n3_
                                  have hHeld : w42.cell? ⟨gb157, 0, none⟩ = some (.string ((rd_T68 l0_5 x5_3).f0)) ∧ w42.cell? ⟨gb157, 1, none⟩ = some (.string ((rd_T68 l0_5 x5_3).f1)) := hS_
                                  refine norm_ (a' := ?_) ?_ ?_
                                  rotate_left
                                  · simp only [putAll, Act.put, List.setIfInBounds_toArray, List.set_cons_zero, List.set_cons_succ]
                                    rfl
                                  refine one_ (i := 13) (N := some 88) #[true, true, true, true, true, true, true, true, true, true, true, true, true, true, false, false, false] rfl rfl (one_of HT_.out (by kernel_rfl)) (by decide) (fun K hK => ?_)
                                  refine goes_ Tryd.func67 (by kernel_rfl) rfl #[.string ((rd_T68 l0_5 x5_3).f1), .int .i64 222] (by rfl) rfl rfl (by (try simp only [List.map_toArray, List.map_cons, List.map_nil]); first | done | rfl | (simp only [List.length_drop, List.length_take]; rfl)) ?_
                                  with_reducible refine (dovecoteref11_padded.calls ((rd_T68 l0_5 x5_3).f1) 222 t162 _ A29.out).mono ?_
                                  rintro e w43 ⟨rfl, hb⟩
                                  refine ⟨_, rfl, ?_⟩
                                  have n0_ := Aside0.mk (Kd.R_below (by (with_reducible repeat (first | apply Kd.R_alloc | apply Kd.R_drewN | apply Kd.R_drew)); exact HO161.out) hb)
                                  have n1_ := Aside0.mk (blk_below (g := gb150) (o := .cells #[.int .i64 a0_0, .int .i64 a0_1, .int .i64 a0_2, .string a0_3, .string a0_4, .slice (some ad156) l0_5.length c0_5, .slice A0_6 l0_6.length c0_6] 25 (0, 0)) (by (with_reducible repeat (first | refine blk_drewN ?_ _ | refine blk_drew ?_ | refine blk_alloc ?_ _)); exact BK150.out) hb)
                                  have n2_ := Aside0.mk (blk_below (g := gb157) (o := .cells #[.string ((rd_T68 l0_5 x5_3).f0), .string ((rd_T68 l0_5 x5_3).f1)] 68 (0, 0)) (by (with_reducible repeat (first | refine blk_drewN ?_ _ | refine blk_drew ?_ | refine blk_alloc ?_ _)); exact BK157.out) hb)
                                  have n3_ := Aside0.mk (below_step (by repeat (first | (with_reducible first | exact HB.out | apply below_alloc | apply pw_below_drewN | apply below_drew1 | refine below_set ?_ GE150.out | refine below_set ?_ GE157.out) | exact HB.out)) hb)
                                  clear HO161
                                  clear BK150
                                  clear BK157
                                  clear HB
                                  have HO161 := n0_
                                  have BK150 := n1_
                                  have BK157 := n2_
                                  have HB := n3_
                                  clear n0_ n1_ n2_ n3_
                                  (try clear hb)
                                  (try clear hb2)
                                  (try clear hk)
                                  (try clear hi)
                                  refine hK.out _ _ ⟨(blk_cell BK157.out 0).trans rfl, (blk_cell BK157.out 1).trans rfl⟩ (fun hHeld => ?_)
                                  clear hK K
                                  refine norm_ (a' := ?_) ?_ ?_
                                  rotate_left
                                  · show Act.put _ (some 88) _ = _
                                    simp only [Act.put, List.setIfInBounds_toArray, List.set_cons_zero, List.set_cons_succ, i64_w, i32_w]
                                    rfl
                                  exact norm_ (by first | (simp only [putAll, Act.put, List.setIfInBounds_toArray, List.set_cons_zero, List.set_cons_succ]; done) | (simp only [putAll, Act.put, List.setIfInBounds_toArray, List.set_cons_zero, List.set_cons_succ]; rfl)) (hJ3_8_9_13 (v160) _ ⟨hHeld, (by (with_reducible repeat (first | apply Kd.R_alloc | apply Kd.R_drewN | apply Kd.R_drew)); exact HO161.out), (by (with_reducible repeat (first | refine blk_drewN ?_ _ | refine blk_drew ?_ | refine blk_alloc ?_ _)); exact BK150.out), (by (with_reducible repeat (first | refine blk_drewN ?_ _ | refine blk_drew ?_ | refine blk_alloc ?_ _)); exact BK157.out), (by repeat (first | (with_reducible first | exact HB.out | apply below_alloc | apply pw_below_drewN | apply below_drew1 | refine below_set ?_ GE150.out | refine below_set ?_ GE157.out) | exact HB.out))⟩)
                              rintro v160 w43 ⟨hS_, h0_, h1_, h2_, h3_⟩
                              have n0_ : Aside0 (Kd.R (Kd.int .u8) 5 w43 w.heap.size (fun _ => True) v160 y159) := ⟨h0_⟩
                              have n1_ : Aside0 (w43.heap[gb150]? = some (.cells #[.int .i64 a0_0, .int .i64 a0_1, .int .i64 a0_2, .string a0_3, .string a0_4, .slice (some ad156) l0_5.length c0_5, .slice A0_6 l0_6.length c0_6] 25 (0, 0))) := ⟨h1_⟩
                              have n2_ : Aside0 (w43.heap[gb157]? = some (.cells #[.string ((rd_T68 l0_5 x5_3).f0), .string ((rd_T68 l0_5 x5_3).f1)] 68 (0, 0))) := ⟨h2_⟩
                              have n3_ : Aside0 (Below w.heap.size w w43) := ⟨h3_⟩
                              clear BK150
                              clear BK157
                              clear HB
                              clear h0_ h1_ h2_ h3_
                              have HO161 := n0_
                              have BK150 := n1_
                              have BK157 := n2_
                              have HB := n3_
                              clear n0_ n1_ n2_ n3_
                              have hHeld : w43.cell? ⟨gb157, 0, none⟩ = some (.string ((rd_T68 l0_5 x5_3).f0)) ∧ w43.cell? ⟨gb157, 1, none⟩ = some (.string ((rd_T68 l0_5 x5_3).f1)) := hS_
                              refine norm_ (a' := ?_) ?_ ?_
                              rotate_left
                              · simp only [putAll, Act.put, List.setIfInBounds_toArray, List.set_cons_zero, List.set_cons_succ]
                                rfl
                              refine pure_ (i := 14) (N := some 89) (v := ?_) (a' := ?_) #[true, true, true, true, true, true, true, true, true, true, true, true, true, true, true, false, false] rfl rfl (any_of HT_.out (by kernel_rfl)) (fun _ _ _ h => h) (Or.inl ⟨by rfl, ?_⟩) ?_ ?_
                              rotate_left
                              · intro w'
                                go_simp
                                with_reducible rfl
                              rotate_left
                              · simp only [Act.put, List.setIfInBounds_toArray, List.set_cons_zero, List.set_cons_succ, i64_w, i32_w]
                                rfl
                              refine pure_ (i := 15) (N := some 90) (v := ?_) (a' := ?_) #[true, true, true, true, true, true, true, true, true, true, true, true, true, true, true, true, false] rfl rfl (any_of HT_.out (by kernel_rfl)) (fun _ _ _ h => h) (Or.inl ⟨by rfl, ?_⟩) ?_ ?_
                              rotate_left
                              · intro w'
                                go_simp
                                with_reducible rfl
                              rotate_left
                              · simp only [Act.put, List.setIfInBounds_toArray, List.set_cons_zero, List.set_cons_succ, i64_w, i32_w]
                                rfl
                              refine pure_ (i := 16) (N := some 3) (v := ?_) (a' := ?_) #[true, true, true, true, true, true, true, true, true, true, true, true, true, true, true, true, true] rfl rfl (any_of HT_.out (by kernel_rfl)) (fun _ _ _ h => h) (Or.inl ⟨by rfl, ?_⟩) ?_ ?_
                              rotate_left
                              · intro w'
                                go_simp
                                with_reducible rfl
                              rotate_left
                              · simp only [Act.put, List.setIfInBounds_toArray, List.set_cons_zero, List.set_cons_succ, i64_w, i32_w]
                                rfl
                              refine done_ (done_of HT_.out (by kernel_rfl)) ?_
                              try go_wp2
                              go_roundg k3
                              case measure => have := HK1.out; have := HJ12.out; have := HK3.out; omega
                              case rel => exact ⟨(x3_3 ++ ((t158 ++ (strOfNums y159)) ++ t162)), (wrap64 (x5_3 + 1)), (by first | rfl | (simp; done) | (simp [*]; done)), (by first | rfl | (simp; done) | (simp [*]; done)), H', ⟨by have := HK1.out; have := HJ12.out; have := HK3.out; omega⟩, ⟨by (with_reducible repeat (first | refine blk_drewN ?_ _ | refine blk_drew ?_ | refine blk_alloc ?_ _)); exact BK150.out⟩, ⟨by repeat (first | (with_reducible first | exact HB.out | apply below_alloc | apply pw_below_drewN | apply below_drew1 | refine below_set ?_ GE150.out | refine below_set ?_ GE157.out) | exact HB.out)⟩⟩
                            · rw [if_neg c31] at H
                              exact absurd H (by simp)
                          · rw [if_neg c30] at H
                            exact absurd H (by simp)
                        · rw [if_neg c28] at H
                          exact absurd H (by simp)
                      · rw [if_neg c26] at H
                        exact absurd H (by simp)
                    · rw [if_neg c25] at H
                      have c25b0 : decide (x5_3 < (l0_5.length : Int)) = false := decide_eq_false c25
                      clear c25
                      obtain rfl := Option.some.inj H
                      have hcz44_0 : wr.cell? ⟨gb150, 0, none⟩ = some (.int .i64 a0_0) := (blk_cell BK150.out 0).trans rfl
                      have hcz44_1 : wr.cell? ⟨gb150, 1, none⟩ = some (.int .i64 a0_1) := (blk_cell BK150.out 1).trans rfl
                      have hcz44_2 : wr.cell? ⟨gb150, 2, none⟩ = some (.int .i64 a0_2) := (blk_cell BK150.out 2).trans rfl
                      have hcz44_3 : wr.cell? ⟨gb150, 3, none⟩ = some (.string a0_3) := (blk_cell BK150.out 3).trans rfl
                      have hcz44_4 : wr.cell? ⟨gb150, 4, none⟩ = some (.string a0_4) := (blk_cell BK150.out 4).trans rfl
                      have hcz44_5 : wr.cell? ⟨gb150, 5, none⟩ = some (.slice A0_5 l0_5.length c0_5) := (blk_cell BK150.out 5).trans rfl
                      have hcz44_6 : wr.cell? ⟨gb150, 6, none⟩ = some (.slice A0_6 l0_6.length c0_6) := (blk_cell BK150.out 6).trans rfl
                      have hfz44_0 := blk_frozen BK150.out 0
                      have hfz44_1 := blk_frozen BK150.out 1
                      have hfz44_2 := blk_frozen BK150.out 2
                      have hfz44_3 := blk_frozen BK150.out 3
                      have hfz44_4 := blk_frozen BK150.out 4
                      have hfz44_5 := blk_frozen BK150.out 5
                      have hfz44_6 := blk_frozen BK150.out 6
                      go_wp2
                      go_ret
                      exact ⟨by first | rfl | (simp [errW_none, errW_some] <;> rfl) | (simp [*, errW_none, errW_some] <;> rfl), by repeat (first | (with_reducible first | exact HB.out | apply below_alloc | apply pw_below_drewN | apply below_drew1 | refine below_set ?_ GE150.out) | exact HB.out)⟩
    · rw [if_neg c6] at H
      exact absurd H (by simp)

end Go.Proofs.YtjmgkjjcdnaapaaDoor.PMailA
namespace Go.Proofs.YtjmgkjjcdnaapaaDoor
open Go.RowKit Go.Proofs.YtjmgkjjcdnaapaaDoor.PMailA Go.Proofs.YtjmgkjjcdnaapaaDoorW.PrintWords Go.Proofs.YtjmgkjjcdnaapaaDoorW.PrintLast
set_option linter.unusedSimpArgs false
set_option linter.unusedVariables false
theorem tx_app (a b : List UInt8) : tx a ++ tx b = tx (a ++ b) := tx_ext (by rw [ByteArray.data_append, Array.toList_append, tx_list, tx_list])
theorem strs_zero (n : Nat) : strOfNums (List.replicate n (0 : Int)) = tx (List.replicate n 0) := by
  have := strs_b8 (List.replicate n (0 : Int))
  rw [List.map_replicate, List.map_replicate] at this
  exact this
theorem padded_eq (l : List UInt8) (n : Nat) (h : l.length ≤ n) (hn : n ≤ 100000) : dovecoteref11_padded.f (tx l) (n : Int) = some (tx (l ++ List.replicate (n - l.length) 0)) := by
  unfold dovecoteref11_padded.f
  have e : wrap64 ((n : Int) - ((tx l).size : Int)) = ((n - l.length : Nat) : Int) := by rw [tx_size]; unfold wrap64; omega
  rw [e, if_pos (by omega), if_pos (by omega)]
  simp only [Option.bind_some, Int.toNat_natCast]
  rw [strs_zero, if_pos (by rw [tx_size, tx_size, List.length_replicate]; omega), tx_app]
theorem l1_ev (ls : List S68) (li : List ByteArray) (kd u q : Int) (text tag : ByteArray) (hs : ∀ a ∈ ls, a.f0.size ≤ 16 ∧ a.f1.size ≤ 222) (hls : ls.length ≤ 4) (d : Nat) :
    ∀ (i : Nat) (x : List UInt8), i + d = ls.length → x.length + 239 * d ≤ 10000 →
      Ev (fun k => dovecoteref11_Text.l1 k (tx x) (i : Int) kd u q text tag ls li) (tx (x ++ ((ls.drop i).map slotL).flatten)) := by
  induction d with
  | zero =>
    intro i x hi hb
    obtain rfl : i = ls.length := by omega
    refine Ev.step (f := fun _ => some (tx x)) (fun k => ?_) (by rw [List.drop_length]; simpa using Ev.now (tx x))
    simp only [dovecoteref11_Text.l1]
    rw [if_neg (by omega)]
  | succ d ih =>
    intro i x hi hb
    have hlt : i < ls.length := by omega
    have hdrop : ls.drop i = ls[i] :: ls.drop (i + 1) := List.drop_eq_getElem_cons hlt
    have hsz := hs ls[i] (List.getElem_mem hlt)
    have hsl := slotL_len ls[i] hsz
    have e : x ++ ((ls.drop i).map slotL).flatten = (x ++ slotL ls[i]) ++ ((ls.drop (i + 1)).map slotL).flatten := by
      rw [hdrop, List.map_cons, List.flatten_cons, List.append_assoc]
    rw [e]
    refine Ev.step (f := fun k => dovecoteref11_Text.l1 k (tx (x ++ slotL ls[i])) ((i + 1 : Nat) : Int) kd u q text tag ls li) (fun k => ?_) (ih (i + 1) (x ++ slotL ls[i]) (by omega) (by rw [List.length_append, hsl]; omega))
    simp only [dovecoteref11_Text.l1]
    rw [if_pos (by omega), if_pos (by omega), rd_get ls i hlt]
    have e0 : ls[i].f0.data.toList.length = ls[i].f0.size := Array.length_toList
    have e1 : ls[i].f1.data.toList.length = ls[i].f1.size := Array.length_toList
    have p0 := padded_eq ls[i].f0.data.toList 16 (by omega) (by omega)
    have p1 := padded_eq ls[i].f1.data.toList 222 (by omega) (by omega)
    rw [← tx_of, e0] at p0
    rw [← tx_of, e1] at p1
    have p0' : dovecoteref11_padded.f ls[i].f0 16 = some (tx (ls[i].f0.data.toList ++ List.replicate (16 - ls[i].f0.size) 0)) := p0
    have p1' : dovecoteref11_padded.f ls[i].f1 222 = some (tx (ls[i].f1.data.toList ++ List.replicate (222 - ls[i].f1.size) 0)) := p1
    have b := strs_b8 [((ls[i].f1).size : Int)]
    simp only [List.map_cons, List.map_nil] at b
    have es : (ls[i].f0.data.toList ++ List.replicate (16 - ls[i].f0.size) 0 ++ [b8 (ls[i].f1.size : Int)]) ++ (ls[i].f1.data.toList ++ List.replicate (222 - ls[i].f1.size) 0) = slotL ls[i] := rfl
    rw [p0']
    simp only [Option.bind_some]
    rw [b, p1']
    simp only [Option.bind_some]
    rw [tx_app, tx_app, tx_app, es, tx_size, tx_size, tx_size, tx_size, tx_size]
    rw [if_pos (by simp only [List.length_append, List.length_replicate, List.length_singleton]; omega), if_pos (by simp only [List.length_append, List.length_replicate, List.length_singleton]; omega), if_pos (by rw [tx_size, hsl]; omega)]
    rw [show wrap64 ((i : Int) + 1) = ((i + 1 : Nat) : Int) by unfold wrap64; omega]
def idsFrom (li : List ByteArray) (i : Nat) : List UInt8 := ((li.drop i).map (·.data.toList)).flatten ++ List.replicate (16 * (4 - max i li.length)) 0
theorem ids_loop (li : List ByteArray) (u q : Int) (text tag : ByteArray) (hl : li.length ≤ 4) (h16 : ∀ a ∈ li, a.size = 16) (d : Nat) :
    ∀ (i : Nat) (x : List UInt8), i + d = 4 → x.length + 16 * d ≤ 10000 → Ev (fun k => dovecoteref11_Text.l0 k (tx x) (i : Int) 4 u q text tag [] li) (tx (x ++ idsFrom li i)) := by
  induction d with
  | zero =>
    intro i x hi hb
    obtain rfl : i = 4 := by omega
    have e : idsFrom li 4 = [] := by
      unfold idsFrom
      rw [List.drop_eq_nil_of_le (by omega), show 4 - max 4 li.length = 0 by omega]
      rfl
    rw [e, List.append_nil]
    refine Ev.step (fun k => by simp only [dovecoteref11_Text.l0]; rw [if_neg (by decide)]) ?_
    refine Ev.step (fun k => by simp only [dovecoteref11_Text.j1]; rw [if_neg (by decide)]) ?_
    have := l1_ev [] li 4 u q text tag (fun a ha => (by cases ha)) (by simp) 0 0 x (by simp) (by omega)
    simpa using this
  | succ d ih =>
    intro i x hi hb
    refine Ev.step (fun k => by simp only [dovecoteref11_Text.l0]; rw [if_pos (by omega)]) ?_
    by_cases hlt : i < li.length
    · have hr : rdOf ByteArray.empty li (i : Int) = li[i] := by
        unfold rdOf
        rw [Int.toNat_natCast, List.getD_eq_getElem?_getD, List.getElem?_eq_getElem hlt]
        rfl
      have e0 : li[i].data.toList.length = li[i].size := Array.length_toList
      have hz := h16 li[i] (List.getElem_mem hlt)
      have hd : li.drop i = li[i] :: li.drop (i + 1) := List.drop_eq_getElem_cons hlt
      have e : x ++ idsFrom li i = (x ++ li[i].data.toList) ++ idsFrom li (i + 1) := by
        unfold idsFrom
        rw [hd, List.map_cons, List.flatten_cons, show max i li.length = max (i + 1) li.length by omega]
        simp only [List.append_assoc]
      rw [e]
      refine Ev.step (f := fun k => dovecoteref11_Text.l0 k (tx (x ++ li[i].data.toList)) ((i + 1 : Nat) : Int) 4 u q text tag [] li) (fun k => ?_) (ih (i + 1) (x ++ li[i].data.toList) (by omega) (by rw [List.length_append, e0, hz]; omega))
      simp only [dovecoteref11_Text.j1]
      rw [if_pos (by decide), if_pos (by omega), if_pos (by omega), hr, if_pos (by rw [tx_size, hz]; omega), show wrap64 ((i : Int) + 1) = ((i + 1 : Nat) : Int) by unfold wrap64; omega]
      conv => lhs; rw [tx_of li[i], tx_app]
    · have e : x ++ idsFrom li i = (x ++ List.replicate 16 0) ++ idsFrom li (i + 1) := by
        unfold idsFrom
        rw [List.drop_eq_nil_of_le (by omega), List.drop_eq_nil_of_le (by omega)]
        simp only [List.map_nil, List.flatten_nil, List.nil_append, List.append_assoc, List.replicate_append_replicate]
        rw [show 16 * (4 - max i li.length) = 16 + 16 * (4 - max (i + 1) li.length) by omega]
      rw [e]
      refine Ev.step (f := fun k => dovecoteref11_Text.l0 k (tx (x ++ List.replicate 16 0)) ((i + 1 : Nat) : Int) 4 u q text tag [] li) (fun k => ?_) (ih (i + 1) (x ++ List.replicate 16 0) (by omega) (by rw [List.length_append, List.length_replicate]; omega))
      simp only [dovecoteref11_Text.j1]
      have p : dovecoteref11_padded.f (⟨#[]⟩ : ByteArray) 16 = some (tx (List.replicate 16 0)) := padded_eq [] 16 (by simp) (by omega)
      rw [if_pos (by decide), if_neg (by omega), p]
      simp only [Option.bind_some]
      rw [if_pos (by rw [tx_size, tx_size, List.length_replicate]; omega), tx_app, show wrap64 ((i : Int) + 1) = ((i + 1 : Nat) : Int) by unfold wrap64; omega]
theorem text_ev {kd u q : Int} {text tag : ByteArray} {ls : List S68} {li : List ByteArray} (g : Good kd u q text tag ls li) :
    Ev (fun k => dovecoteref11_Text.f k kd u q text tag ls li) (tx (encL kd u q text tag ls li)) := by
  unfold dovecoteref11_Text.f
  by_cases h1 : kd = 1
  · have ht : text.size = 504 := by
      rcases g with g | ⟨_, _, ⟨h, _⟩ | ⟨h, _⟩ | ⟨h, _⟩⟩
      · exact g.2.2.2.1
      all_goals omega
    refine Ev.congr (f := fun _ => some _) (fun k => ?_) (Ev.now _)
    rw [if_pos h1, if_pos (by omega), encL, if_pos h1, h1]
    have e : (⟨#[1]⟩ : ByteArray) = tx [1] := rfl
    conv => lhs; rw [e, tx_of text, tx_app]
    rfl
  · obtain ⟨_, _, hs, hl4, hls4, htg, hsum⟩ := g.sizes h1
    have htl : tag.data.toList.length = tag.size := Array.length_toList
    have b := strs_b8 [kd, u, q / 16777216, q / 65536, q / 256, q]
    simp only [List.map_cons, List.map_nil] at b
    have eh : tx [b8 kd, b8 u, b8 (q / 16777216), b8 (q / 65536), b8 (q / 256), b8 q] ++ tag = tx (b8 kd :: (whoL u q ++ tag.data.toList)) := by
      conv => lhs; rw [tx_of tag, tx_app]
      rfl
    refine Ev.congr (f := fun k => dovecoteref11_Text.l0 k (tx (b8 kd :: (whoL u q ++ tag.data.toList))) ((0 : Nat) : Int) kd u q text tag ls li) (fun k => ?_) ?_
    · rw [if_neg h1]
      simp only [Option.bind_some]
      rw [b, if_pos (by rw [tx_size]; simp only [List.length_cons, List.length_nil]; omega), eh]
      rfl
    have hlen : (b8 kd :: (whoL u q ++ tag.data.toList)).length = 6 + tag.size := by
      unfold whoL
      simp only [List.length_cons, List.length_append, List.length_nil, htl]
      omega
    by_cases h4 : kd = 4
    · rcases g with g | ⟨_, _, ⟨h, _⟩ | ⟨h, _⟩ | ⟨_, ht, rfl, hn, hi⟩⟩
      · exact absurd g.1 h1
      · omega
      · omega
      · subst h4
        have h16 := ids_16 hi
        have r := ids_loop li u q text tag hn h16 4 0 (b8 4 :: (whoL u q ++ tag.data.toList)) rfl (by rw [hlen]; omega)
        have e : encL 4 u q text tag [] li = (b8 4 :: (whoL u q ++ tag.data.toList)) ++ idsFrom li 0 := by
          rw [encL, if_neg h1, restL, headL_len _ _ _ _ _ (fun a ha => (by cases ha)), ids_len li h16, ht]
          unfold idsFrom headL
          rw [show longN 4 - (6 + 32 + 239 * ([] : List S68).length + 16 * li.length) = 16 * (4 - max 0 li.length) by rw [show longN 4 = 102 from rfl, List.length_nil]; omega, List.drop_zero]
          simp
        rw [e]
        exact r
    · have hli : li = [] := by
        rcases g with g | ⟨_, _, ⟨_, _, _, h⟩ | ⟨_, _, _, h⟩ | ⟨h, _⟩⟩
        · exact absurd g.1 h1
        · exact h
        · exact h
        · exact absurd h h4
      subst hli
      have e : encL kd u q text tag ls [] = (b8 kd :: (whoL u q ++ tag.data.toList)) ++ ((ls.drop 0).map slotL).flatten := by
        have hz : longN kd - ((headL kd u q tag ls).length + ((([] : List ByteArray).map (·.data.toList)).flatten).length) = 0 := by
          rw [headL_len _ _ _ _ _ hs]
          rcases g with g | ⟨_, _, ⟨rfl, ht, rfl, _⟩ | ⟨rfl, ht, hf, _⟩ | ⟨h, _⟩⟩
          · exact absurd g.1 h1
          · rw [ht]; decide
          · have hf2 : ls.length = 4 := by
              unfold filledB at hf
              simp only [Bool.and_eq_true, beq_iff_eq] at hf
              exact hf.1
            rw [hf2, show longN 3 = 962 from rfl]; omega
          · exact absurd h h4
        rw [encL, if_neg h1, restL, hz]
        simp [headL]
      rw [e]
      refine Ev.step (fun k => by simp only [dovecoteref11_Text.l0]; rw [if_pos (by decide)]) ?_
      refine Ev.step (fun k => by simp only [dovecoteref11_Text.j1]; rw [if_neg (by simpa using h4)]) ?_
      exact l1_ev ls [] kd u q text tag hs hls4 ls.length 0 _ (by omega) (by rw [hlen]; omega)
end Go.Proofs.YtjmgkjjcdnaapaaDoor
namespace Go.Proofs.YtjmgkjjcdnaapaaDoor
set_option linter.unusedSimpArgs false
set_option linter.unusedVariables false

theorem and_shl8 (x : BitVec 32) (b : UInt8) : x <<< 8 &&& u8w b = 0#32 := by
  apply BitVec.eq_of_getLsbD_eq
  intro i hi
  rw [BitVec.getLsbD_and, BitVec.getLsbD_shiftLeft]
  by_cases h : i < 8
  · simp [h]
  · have h1 : (u8w b).getLsbD i = false := by
      unfold u8w
      rw [BitVec.getLsbD_ofNat]
      have h2 : b.toNat < 2 ^ i := Nat.lt_of_lt_of_le b.toNat_lt (Nat.pow_le_pow_right (by decide) (by omega))
      rw [Nat.testBit_lt_two_pow h2]
      simp
    rw [h1]
    simp
theorem shl8_or (x : BitVec 32) (b : UInt8) : x <<< 8 ||| u8w b = x <<< 8 + u8w b := (BitVec.add_eq_or_of_and_eq_zero _ _ (and_shl8 x b)).symm
theorem rr_add (x : BitVec 32) (n : Nat) (h1 : n ≤ 32) : x >>> n + x <<< (32 - n) = rr x n := by
  have hz : x >>> n &&& x <<< (32 - n) = 0#32 := by
    apply BitVec.eq_of_getLsbD_eq
    intro i hi
    rw [BitVec.getLsbD_and, BitVec.getLsbD_shiftLeft, BitVec.getLsbD_ushiftRight]
    by_cases h : i < 32 - n
    · simp [h]
    · rw [BitVec.getLsbD_of_ge x (n + i) (by omega)]
      simp
  rw [BitVec.add_eq_or_of_and_eq_zero _ _ hz, BitVec.or_comm]
  rfl
theorem ch_eq (e f g : BitVec 32) : (e &&& f) ^^^ (~~~e &&& g) = g ^^^ e &&& (f ^^^ g) := by
  apply BitVec.eq_of_getLsbD_eq
  intro i hi
  simp only [BitVec.getLsbD_xor, BitVec.getLsbD_and, BitVec.getLsbD_not, hi, decide_true, Bool.true_and]
  cases e.getLsbD i <;> cases f.getLsbD i <;> cases g.getLsbD i <;> rfl
theorem maj_eq (a b c : BitVec 32) : (a &&& b) ^^^ (a &&& c) ^^^ (b &&& c) = a &&& b ||| c &&& (a ||| b) := by
  apply BitVec.eq_of_getLsbD_eq
  intro i hi
  simp only [BitVec.getLsbD_xor, BitVec.getLsbD_and, BitVec.getLsbD_or]
  cases a.getLsbD i <;> cases b.getLsbD i <;> cases c.getLsbD i <;> rfl

/-- so many bytes as one word. -/
def accW (r : List UInt8) (i : Nat) : Nat → BitVec 32
  | 0 => 0
  | k + 1 => accW r i k <<< 8 + u8w (bd r (i + k))
def firstW (r : List UInt8) : Nat → List (BitVec 32)
  | 0 => []
  | k + 1 => firstW r k ++ [accW r (4 * k) 4]
def grL (L : List (BitVec 32)) : Nat → List (BitVec 32)
  | 0 => L
  | k + 1 => grL L k ++ [wd (grL L k) k + sig0 (wd (grL L k) (k + 1)) + wd (grL L k) (k + 9) + sig1 (wd (grL L k) (k + 14))]
def w64 (r : List UInt8) : List (BitVec 32) := grL (firstW r 16) 48
theorem firstW_length (r : List UInt8) (k : Nat) : (firstW r k).length = k := by
  induction k with
  | zero => rfl
  | succ k ih => simp [firstW, ih]
theorem grL_length (L : List (BitVec 32)) (k : Nat) : (grL L k).length = L.length + k := by
  induction k with
  | zero => rfl
  | succ k ih => simp [grL, ih]; omega
theorem w64_length (r : List UInt8) : (w64 r).length = 64 := by rw [w64, grL_length, firstW_length]
theorem wd_append_left (L M : List (BitVec 32)) (t : Nat) (h : t < L.length) : wd (L ++ M) t = wd L t := by
  simp [wd, List.getD, List.getElem?_append_left h]
theorem wd_append_last (L : List (BitVec 32)) (x : BitVec 32) : wd (L ++ [x]) L.length = x := by
  simp [wd, List.getD]
theorem wd_set_eq (L : List (BitVec 32)) (i : Nat) (x : BitVec 32) (h : i < L.length) : wd (L.set i x) i = x := by
  simp [wd, List.getD, List.getElem?_set, h]
theorem wd_set_ne (L : List (BitVec 32)) (i j : Nat) (x : BitVec 32) (h : i ≠ j) : wd (L.set i x) j = wd L j := by
  simp [wd, List.getD, List.getElem?_set, h]
theorem firstW_wd (r : List UInt8) (n t : Nat) (h : t < n) : wd (firstW r n) t = accW r (4 * t) 4 := by
  induction n with
  | zero => omega
  | succ n ih =>
    by_cases ht : t < n
    · rw [firstW, wd_append_left _ _ _ (by rw [firstW_length]; exact ht), ih ht]
    · obtain rfl : t = n := by omega
      have := wd_append_last (firstW r t) (accW r (4 * t) 4)
      rw [firstW_length] at this
      rw [firstW, this]
theorem grL_wd (L : List (BitVec 32)) (k m t : Nat) (h : t < L.length + k) (hkm : k ≤ m) : wd (grL L m) t = wd (grL L k) t := by
  induction m with
  | zero => obtain rfl : k = 0 := by omega
            rfl
  | succ m ih =>
    by_cases hk : k ≤ m
    · rw [grL, wd_append_left _ _ _ (by rw [grL_length]; omega), ih hk]
    · obtain rfl : k = m + 1 := by omega
      rfl
theorem w64_old (r : List UInt8) (t : Nat) (h : t < 16) : wd (w64 r) t = accW r (4 * t) 4 := by
  rw [w64, grL_wd _ 0 48 t (by rw [firstW_length]; omega) (by omega), grL, firstW_wd r 16 t h]
theorem w64_new (r : List UInt8) (t : Nat) (h : 16 ≤ t) (h2 : t < 64) :
    wd (w64 r) t = wd (w64 r) (t - 16) + sig0 (wd (w64 r) (t - 15)) + wd (w64 r) (t - 7) + sig1 (wd (w64 r) (t - 2)) := by
  obtain ⟨k, rfl⟩ : ∃ k, t = 16 + k := ⟨t - 16, by omega⟩
  have e : ∀ u, u < 16 + k → wd (w64 r) u = wd (grL (firstW r 16) k) u := fun u hu => by
    rw [w64, grL_wd _ k 48 u (by rw [firstW_length]; omega) (by omega)]
  have e0 : wd (w64 r) (16 + k) = wd (grL (firstW r 16) (k + 1)) (16 + k) := by
    rw [w64, grL_wd _ (k + 1) 48 (16 + k) (by rw [firstW_length]; omega) (by omega)]
  have hl : (grL (firstW r 16) k).length = 16 + k := by rw [grL_length, firstW_length]
  have := wd_append_last (grL (firstW r 16) k) (wd (grL (firstW r 16) k) k + sig0 (wd (grL (firstW r 16) k) (k + 1)) + wd (grL (firstW r 16) k) (k + 9) + sig1 (wd (grL (firstW r 16) k) (k + 14)))
  rw [hl] at this
  rw [e0, grL, this, e _ (by omega), e _ (by omega), e _ (by omega), e _ (by omega)]
  rw [show 16 + k - 16 = k by omega, show 16 + k - 15 = k + 1 by omega, show 16 + k - 7 = k + 9 by omega, show 16 + k - 2 = k + 14 by omega]
theorem loadW_wd (r : List UInt8) (k j : Nat) (hj : j < 16) (hk : k ≤ 64) : wd (loadW r k) j = accW r (4 * j) (min 4 (k - 4 * j)) := by
  induction k with
  | zero =>
    rw [show min 4 (0 - 4 * j) = 0 by omega]
    exact (by decide : ∀ j < 16, wd (List.replicate 16 (0 : BitVec 32)) j = 0) j hj
  | succ k ih =>
    have ih := ih (by omega)
    rw [loadW]
    by_cases h : k / 4 = j
    · rw [h, wd_set_eq _ _ _ (by rw [loadW_length]; exact hj), shl8_or, ih, show min 4 (k + 1 - 4 * j) = k - 4 * j + 1 by omega, accW, show min 4 (k - 4 * j) = k - 4 * j by omega, show 4 * j + (k - 4 * j) = k by omega]
    · rw [wd_set_ne _ _ _ _ h, ih]
      congr 1
      omega
/-- the ring holds the last sixteen words. -/
theorem ring_wd (s : R8) (r : List UInt8) (i : Nat) (hi : i ≤ 64) : ∀ t, t < 64 → t < max i 16 → i ≤ t + 16 → wd (rounds s (loadW r 64) i).2 (t % 16) = wd (w64 r) t := by
  induction i with
  | zero =>
    intro t _ ht _
    have ht : t < 16 := by omega
    rw [rounds_zero, Nat.mod_eq_of_lt ht, loadW_wd r 64 t ht (by omega), w64_old r t ht, show min 4 (64 - 4 * t) = 4 by omega]
  | succ i ih =>
    intro t h64 ht hit
    have ih := ih (by omega)
    rw [rounds_succ]
    show wd (atRound (rounds s (loadW r 64) i).2 i) (t % 16) = _
    have hl : (rounds s (loadW r 64) i).2.length = 16 := by rw [rounds_length, loadW_length]
    by_cases h16 : 16 ≤ i
    · rw [atRound, if_pos h16, growW]
      by_cases hti : t = i
      · subst hti
        rw [wd_set_eq _ _ _ (by rw [hl]; omega), w64_new r t h16 h64]
        have a1 := ih (t - 16) (by omega) (by omega) (by omega)
        have a2 := ih (t - 15) (by omega) (by omega) (by omega)
        have a3 := ih (t - 7) (by omega) (by omega) (by omega)
        have a4 := ih (t - 2) (by omega) (by omega) (by omega)
        rw [show (t - 16) % 16 = t % 16 by omega] at a1
        rw [a1, a2, a3, a4]
        generalize wd (w64 r) (t - 16) = x1
        generalize sig0 (wd (w64 r) (t - 15)) = x2
        generalize wd (w64 r) (t - 7) = x3
        generalize sig1 (wd (w64 r) (t - 2)) = x4
        rw [BitVec.add_assoc x1 x2 x3, BitVec.add_assoc x1 (x2 + x3) x4]
      · rw [wd_set_ne _ _ _ _ (by omega)]
        exact ih t h64 (by omega) (by omega)
    · rw [atRound, if_neg h16]
      exact ih t h64 (by omega) (by omega)
def rnds (s : R8) (W : List (BitVec 32)) : Nat → R8
  | 0 => s
  | i + 1 => rnd (rnds s W i) (rndT (rnds s W i) (wd ksL i) (wd W i)) (rndU (rnds s W i))
theorem rnds_eq (s : R8) (r : List UInt8) (i : Nat) (hi : i ≤ 64) : rnds s (w64 r) i = (rounds s (loadW r 64) i).1 := by
  induction i with
  | zero => rfl
  | succ i ih =>
    have h := ring_wd s r (i + 1) hi i (by omega) (by omega) (by omega)
    rw [rounds_succ] at h ⊢
    rw [rnds, ih (by omega), ← h]
theorem mixv_eq (v : List (BitVec 32)) (r : List UInt8) : mixv v r = addTo v (rnds (R8.of v) (w64 r) 64).list 8 := by
  rw [mixv, rnds_eq _ _ _ (Nat.le_refl _)]

/-- a text, and what stands behind it. -/
def padN (l : List UInt8) : Nat := (119 - l.length % 64) % 64
def wholeL (l : List UInt8) : List UInt8 := l ++ (128 :: (List.replicate (padN l) 0 ++ eightL (l.length * 8 % 18446744073709551616)))
theorem wholeL_length (l : List UInt8) : (wholeL l).length = l.length + padN l + 9 ∧ (wholeL l).length % 64 = 0 := by
  have h : (wholeL l).length = l.length + padN l + 9 := by simp [wholeL, eightL_length]; omega
  refine ⟨h, ?_⟩
  rw [h, padN]
  omega
theorem push_nm (s : St) (h : s.ok) (b : UInt8) : (push s b).n = (s.n + 1) % 64 := by
  have := h.2.2
  unfold push
  split
  · simp; omega
  · simp; omega
theorem pushes_nmod (l : List UInt8) : ∀ s : St, s.ok → (pushes s l).n = (s.n + l.length) % 64 := by
  induction l with
  | nil => intro s h; have := h.2.2; simp [pushes]; omega
  | cons b l ih =>
    intro s h
    have := ih (push s b) (push_ok h b)
    rw [push_nm s h b] at this
    show (pushes (push s b) l).n = _
    rw [this, List.length_cons]
    omega
theorem pushes_cons (s : St) (b : UInt8) (l : List UInt8) : pushes s (b :: l) = pushes (push s b) l := rfl
theorem sha_whole (l : List UInt8) : sha l = outL (pushes st0 (wholeL l)).v := by
  have h1 : (push (pushes st0 l) 128).n = (l.length + 1) % 64 := by
    rw [push_nm _ (pushes_ok st0_ok l), pushes_nmod _ _ st0_ok]
    show ((0 + l.length) % 64 + 1) % 64 = _
    omega
  unfold sha finish padZ
  rw [h1, show (120 - (l.length + 1) % 64) % 64 = padN l by rw [padN]; omega, ← pushes_append, wholeL, pushes_append st0 l, pushes_cons]
/-- the eight words behind so many blocks. -/
def vAt (all : List UInt8) (k : Nat) : List (BitVec 32) := (pushes st0 (all.take (64 * k))).v
theorem vAt_zero (all : List UInt8) : vAt all 0 = iv := by simp [vAt, pushes, st0]
theorem vAt_length (all : List UInt8) (k : Nat) : (vAt all k).length = 8 := (pushes_ok st0_ok _).1
theorem vAt_succ (all : List UInt8) (k : Nat) (h : 64 * (k + 1) ≤ all.length) : vAt all (k + 1) = mixv (vAt all k) ((all.drop (64 * k)).take 64) := by
  have e : all.take (64 * (k + 1)) = all.take (64 * k) ++ (all.drop (64 * k)).take 64 := by
    rw [show 64 * (k + 1) = 64 * k + 64 by omega, List.take_add]
  have hn : (pushes st0 (all.take (64 * k))).n = 0 := by
    rw [pushes_nmod _ _ st0_ok, List.length_take, Nat.min_eq_left (by omega)]
    show (0 + 64 * k) % 64 = 0
    omega
  have hl : ((all.drop (64 * k)).take 64).length = 64 := by rw [List.length_take, List.length_drop]; omega
  have hok := pushes_ok st0_ok (all.take (64 * k))
  unfold vAt
  rw [e, pushes_append, pushes_full _ _ hok (by rw [hn, hl])]
  have hr := hok.2.1
  have e2 : (pushes st0 (all.take (64 * k))).r.drop 64 = [] := List.drop_of_length_le (by omega)
  rw [hn, hl]
  show mixv (pushes st0 (all.take (64 * k))).v (List.take 0 _ ++ _ ++ List.drop (0 + 64) _) = _
  rw [List.take_zero, List.nil_append, Nat.zero_add, e2, List.append_nil]
theorem sha_vAt (l : List UInt8) : sha l = outL (vAt (wholeL l) ((wholeL l).length / 64)) := by
  rw [sha_whole, vAt]
  have := (wholeL_length l).2
  rw [show 64 * ((wholeL l).length / 64) = (wholeL l).length by omega, List.take_length]
end Go.Proofs.YtjmgkjjcdnaapaaDoor
namespace Go.Proofs.YtjmgkjjcdnaapaaDoor
open Go.RowKit
set_option linter.unusedSimpArgs false
set_option linter.unusedVariables false
set_option maxHeartbeats 400000 in
theorem turn_any (x : BitVec 32) (c : Int) (k : Nat) (hc : c = k) (hk : k ≤ 32) (w : World) :
    Calls Tryd.prog 93 #[.int .u32 (n32 x), .int .i64 c] w fun e w' => e = .returned (.int .u32 (n32 (rr x k))) ∧ w' = w.drew := by
  have h0 : 0 ≤ c := by omega
  have h1 : 0 ≤ 32 - c := by omega
  have h2 : IntKind.i64.wrap (32 - c) = 32 - c := by rw [IntKind.wrap_i64]; omega
  have E1 := v32_shr_var x c k hc hk
  have E2 := v32_shl_var x (32 - c) (32 - k) (by omega) (by omega)
  have E3 := rr_add x k hk
  have hm1 : min c.toNat 32 = c.toNat := by omega
  have hm2 : min (32 - c).toNat 32 = (32 - c).toNat := by omega
  rw [hm1] at E1
  rw [hm2] at E2
  have H3 := Lib.hid E1
  have H4 := Lib.hid E2
  have H5 := Lib.hid E3
  clear E1 E2 E3 hc hk hm1 hm2
  go_enter Tryd.func93, Tryd.ntmps93
  go_wp2_with fail
  go_region
  go_wp2_with fail
  go_ret
  refine ⟨?_, rfl⟩
  rw [← H5.out, ← v32_add, ← H3.out, ← H4.out]
  rfl
theorem ks_any (w : World) :
    Calls Tryd.prog 92 #[] w fun e w' => e = .returned (.slice (some ⟨w.heap.size, 0, none⟩) 64 64) ∧ w' = w.alloc (.cells (wc ksL) 117) := by
  go_enter Tryd.func92, Tryd.ntmps92
  go_wp2_with fail
  go_ret
  exact ⟨rfl, rfl⟩
theorem elemU32 : Elem Tryd.prog 142 117 (.int .u32 0) 4 := ⟨Tryd.underlying142, by kernel_rfl, rfl⟩
theorem cw_length (l : List (BitVec 32)) : (cw l).length = l.length := by simp [cw]
theorem cw_append (a b : List (BitVec 32)) : cw (a ++ b) = cw a ++ cw b := by simp [cw]
theorem cw_get (l : List (BitVec 32)) (i : Nat) (h : i < l.length) : (cw l)[i]? = some (.int .u32 (n32 (wd l i))) := by
  simp [cw, wd, List.getElem?_eq_getElem h]
end Go.Proofs.YtjmgkjjcdnaapaaDoor
namespace Go.Proofs.YtjmgkjjcdnaapaaDoor
open Go.RowKit
set_option linter.unusedSimpArgs false
set_option linter.unusedVariables false
def lenOfS : Value → Nat
  | .slice _ n _ => n
  | _ => 0
/-- worlds behind W0 in which two cells of a block hold what they held. -/
def GS (W0 : World) (g i1 i2 : Nat) (x1 x2 : Value) (w' : World) : Prop := Below W0.heap.size W0 w' ∧ w'.cell? ⟨g, i1, none⟩ = some x1 ∧ w'.cell? ⟨g, i2, none⟩ = some x2
theorem GS.drew {W0 w' : World} {g i1 i2 : Nat} {x1 x2 : Value} (h : GS W0 g i1 i2 x1 x2 w') : GS W0 g i1 i2 x1 x2 w'.drew := ⟨h.1.drew, h.2.1, h.2.2⟩
theorem GS.alloc {W0 w' : World} {g i1 i2 : Nat} {x1 x2 : Value} (h : GS W0 g i1 i2 x1 x2 w') (o : Obj) : GS W0 g i1 i2 x1 x2 (w'.alloc o) :=
  ⟨h.1.alloc h.1.size o, (World.cell?_alloc_lt _ _ _ (block_lt_of_cell h.2.1)).trans h.2.1, (World.cell?_alloc_lt _ _ _ (block_lt_of_cell h.2.2)).trans h.2.2⟩
theorem v32_addw (x y : BitVec 32) : IntKind.u32.wrap (n32 x + n32 y) = n32 (x + y) := by rw [← v32_add]; simp [IntKind.wrap, IntKind.bits, IntKind.signed]
theorem turn_lit (x : BitVec 32) (c : Int) (h : 0 ≤ c ∧ c ≤ 32) (w : World) :
    Calls Tryd.prog 93 #[.int .u32 (n32 x), .int .i64 c] w fun e w' => e = .returned (.int .u32 (n32 (rr x c.toNat))) ∧ w' = w.drew := turn_any x c c.toNat (by omega) (by omega) w
def GrRel (w : World) (r : List UInt8) (v3 : Value) (wr : World) : Prop :=
  ∃ (n g c : Nat), 16 ≤ n ∧ n ≤ 64 ∧ v3 = .slice (some ⟨g, 0, none⟩) n c ∧ Own 117 wr w.heap.size v3 (cw (grL (firstW r 16) (n - 16))) ∧ Below w.heap.size w wr
theorem GrRel.mk {w wr : World} {r : List UInt8} {v3 : Value} (h : ∃ (n g c : Nat), 16 ≤ n ∧ n ≤ 64 ∧ v3 = .slice (some ⟨g, 0, none⟩) n c ∧ Own 117 wr w.heap.size v3 (cw (grL (firstW r 16) (n - 16))) ∧ Below w.heap.size w wr) : GrRel w r v3 wr := h
theorem GrRel.out {w wr : World} {r : List UInt8} {v3 : Value} (h : GrRel w r v3 wr) : ∃ (n g c : Nat), 16 ≤ n ∧ n ≤ 64 ∧ v3 = .slice (some ⟨g, 0, none⟩) n c ∧ Own 117 wr w.heap.size v3 (cw (grL (firstW r 16) (n - 16))) ∧ Below w.heap.size w wr := h
section
attribute [local go_sem] v32_add v32_xor v32_and v32_or v32_shr3 v32_shr10 v32_shl8
set_option maxHeartbeats 1600000 in
set_option maxRecDepth 100000 in
theorem grown_any (r : List UInt8) (hr : r.length = 64) (w : World) :
    Calls Tryd.prog 91 #[.string ⟨r.toArray⟩] w fun e w' => (∃ g c, e = .returned (.slice (some ⟨g, 0, none⟩) 64 c) ∧ Own 117 w' w.heap.size (.slice (some ⟨g, 0, none⟩) 64 c) (cw (w64 r))) ∧ Below w.heap.size w w' := by
  have hsz : (⟨r.toArray⟩ : ByteArray).size = 64 := by simp [ByteArray.size, hr]
  go_enter Tryd.func91, Tryd.ntmps91
  go_wp2_with fail
  go_loopw [3, 4, 5, 6] (fun v3 v4 v5 v6 wr => ∃ j : Nat, j ≤ 16 ∧ v4 = .int .i64 (4 * j) ∧ Own 117 wr w.heap.size v3 (cw (firstW r j)) ∧ Below w.heap.size w wr) (fun _ v _ _ _ => 64 - (intOf v).toNat)
  case atStart => exact ⟨0, by omega, rfl, my_own_nil _ _ _, Below.refl _ _⟩
  case round =>
    obtain ⟨j, hj, rfl, hB, hG⟩ := hrel
    have HB := Lib.hid hB
    have HG := Lib.hid hG
    clear hB hG
    by_cases hlt : j < 16
    · have e3 : 0 ≤ 4 * (j : Int) ∧ 4 * (j : Int) < 64 := by omega
      go_wp2_with fail
      go_loopw [5, 6] (fun v5 v6 wx => ∃ k : Nat, k ≤ 4 ∧ v6 = .int .i64 k ∧ v5 = .int .u32 (n32 (accW r (4 * j) k)) ∧ Own 117 wx w.heap.size u3 (cw (firstW r j)) ∧ Below w.heap.size w wx) (fun _ v _ => 4 - (intOf v).toNat)
      case atStart => exact ⟨0, by omega, rfl, rfl, HB.out, HG.out⟩
      case round =>
        obtain ⟨k, hk, rfl, rfl, hB2, hG2⟩ := hrel
        have HB2 := Lib.hid hB2
        have HG2 := Lib.hid hG2
        clear hB2 hG2
        by_cases hlt2 : k < 4
        · obtain ⟨b, hb⟩ : ∃ b, Hid (b = bd r (4 * j + k)) := ⟨_, rfl⟩
          have hbl : ∀ h, (⟨r.toArray⟩ : ByteArray)[4 * j + k]'h = b := fun h => by
            rw [hb.out]
            simp [bd, List.getD, List.getElem?_eq_getElem (show 4 * j + k < r.length by omega)]
            rfl
          have e4 : (4 * (j : Int) + (k : Int)).toNat = 4 * j + k := by omega
          go_wp2_with fail
          go_roundw
          case rel =>
            refine ⟨k + 1, by omega, by go_num, ?_, HB2.out, HG2.out⟩
            rw [accW, ← hb.out, ← v32_add, u8w_n32]
            have h8 : (b.toNat : Int) % 4294967296 = n8 b := by have := b.toNat_lt; show _ = (b.toNat : Int); omega
            simp only [h8]
          case measure => simp [intOf]; omega
        · obtain rfl : k = 4 := by omega
          obtain ⟨x, hx⟩ : ∃ x, Hid (x = accW r (4 * j) 4) := ⟨_, rfl⟩
          rw [← hx.out]
          obtain ⟨A', c', w', hrun, hown, hgr⟩ := own_append (ty := 142) elemU32 (HB2.out.alloc (.cells #[.int .u32 (n32 x)] 117)) wr.heap.size 1 1 [.int .u32 (n32 x)] rfl (fun j u h => new_cells wr _ _ j u h) (by intro u hu; simp at hu; subst hu; rfl) (by rw [cw_length, firstW_length]; omega) (by rw [cw_length, firstW_length]; omega) (by have := HG2.out.size; simp; omega)
          have hfin : Own 117 w' w.heap.size (.slice A' ((cw (firstW r j)).length + 1) c') (cw (firstW r (j + 1))) ∧ Below w.heap.size w w' := by
            rw [firstW, ← hx.out, cw_append _ [x]]
            exact ⟨hown, (HB2.out.alloc _).below_grown (HG2.out.alloc HG2.out.size _) (by have := HG2.out.size; simp; omega) hgr⟩
          have HF := Lib.hid hfin
          have HR := Lib.hid hrun
          clear hown hgr hfin hrun
          go_wp2_with (at_builtin; refine wpList_append_run rfl _ _ _ _ rfl rfl rfl HR.out ?_)
          exact ⟨⟨j + 1, by omega, by rw [show (4 : Int) * (j : Int) + 4 = 4 * ((j + 1 : Nat) : Int) by omega], HF.out.1, HF.out.2⟩, by simp [intOf]; omega⟩
    · obtain rfl : j = 16 := by omega
      rw [show (4 : Int) * ((16 : Nat) : Int) = 64 from rfl]
      go_wp2_with fail
      go_loopw [3, 7, 8, 9] (fun v3 v7 v8 v9 wr => GrRel w r v3 wr) (fun v _ _ _ _ => 64 - lenOfS v)
      case atStart =>
        obtain ⟨A, c, hv⟩ := HB.out.form
        rw [cw_length, firstW_length] at hv
        have hB := HB.out
        rw [hv] at hB
        obtain ⟨g, rfl, _⟩ := hB.at_ (by rw [cw_length, firstW_length]; omega)
        exact GrRel.mk ⟨16, g, c, by omega, by omega, hv, HB.out, HG.out⟩
      case round =>
        obtain ⟨n, g, c, hn1, hn2, rfl, hB3, hG3⟩ := hrel.out
        have hl : (grL (firstW r 16) (n - 16)).length = n := by rw [grL_length, firstW_length]; omega
        by_cases hlt3 : n < 64
        · obtain ⟨M, hM⟩ : ∃ M, Hid (M = grL (firstW r 16) (n - 16)) := ⟨_, rfl⟩
          rw [← hM.out] at hB3 hl
          have c1 := (hB3.cell (n - 15) (by rw [cw_length]; omega)).trans (cw_get M (n - 15) (by omega))
          have c2 := (hB3.cell (n - 2) (by rw [cw_length]; omega)).trans (cw_get M (n - 2) (by omega))
          have c3 := (hB3.cell (n - 16) (by rw [cw_length]; omega)).trans (cw_get M (n - 16) (by omega))
          have c4 := (hB3.cell (n - 7) (by rw [cw_length]; omega)).trans (cw_get M (n - 7) (by omega))
          have HB3 := Lib.hid hB3
          have HG3 := Lib.hid hG3
          have HL := Lib.hid hl
          have e1 : IntKind.i64.wrap ((n : Int) - 15) = ((n - 15 : Nat) : Int) := (IntWalk.i64_in _ (by omega)).trans (by omega)
          have e2 : IntKind.i64.wrap ((n : Int) - 2) = ((n - 2 : Nat) : Int) := (IntWalk.i64_in _ (by omega)).trans (by omega)
          have e3 : IntKind.i64.wrap ((n : Int) - 7) = ((n - 7 : Nat) : Int) := (IntWalk.i64_in _ (by omega)).trans (by omega)
          have e4 : IntKind.i64.wrap ((n : Int) - 16) = ((n - 16 : Nat) : Int) := (IntWalk.i64_in _ (by omega)).trans (by omega)
          have e5 : (0 : Int) ≤ ((n - 16 : Nat) : Int) ∧ ((n - 16 : Nat) : Int) < (n : Int) := by omega
          have e6 : (0 : Int) ≤ ((n - 7 : Nat) : Int) ∧ ((n - 7 : Nat) : Int) < (n : Int) := by omega
          have e7 : n - 16 < n := by omega
          have e8 : n - 7 < n := by omega
          have hgb : w.heap.size ≤ g := (hB3.lt g rfl).1
          clear hB3 hG3 hl
          go_wp2_with fail
          go_quiet (fail)
          go_wp2_with fail
          have G0 : GS w g (n - 16) (n - 7) (.int .u32 (n32 (wd M (n - 16)))) (.int .u32 (n32 (wd M (n - 7)))) (wr.drewN nq) := ⟨below_drewN HG3.out _, c3, c4⟩
          have HG0 := Lib.hid G0
          have hM1 : grL (firstW r 16) (n + 1 - 16) = M ++ [wd M (n - 16) + sig0 (wd M (n - 15)) + wd M (n - 7) + sig1 (wd M (n - 2))] := by
            rw [show n + 1 - 16 = (n - 16) + 1 by omega, grL, ← hM.out, show n - 16 + 1 = n - 15 by omega, show n - 16 + 9 = n - 7 by omega, show n - 16 + 14 = n - 2 by omega]
          have HM1 := Lib.hid hM1
          clear G0 c1 c2 c3 c4 hM1
          go_region_held_law (fun w' => Below w.heap.size w w' ∧ w'.cell? ⟨g, n - 16, none⟩ = some (.int .u32 (n32 (wd M (n - 16)))) ∧ w'.cell? ⟨g, n - 7, none⟩ = some (.int .u32 (n32 (wd M (n - 7)))))
            (first | exact HG0.out.drew | exact GS.drew ‹_› | exact GS.alloc ‹_› _ | exact ⟨hbw, (hcl _ (by rw [cw_length, HL.out]; omega)).trans (cw_get M _ (by rw [HL.out]; omega)), (hcl _ (by rw [cw_length, HL.out]; omega)).trans (cw_get M _ (by rw [HL.out]; omega))⟩)
            (first
              | (go_at_call 93; refine (turn_lit _ _ (by decide) _).mono ?_; rintro e w' ⟨rfl, rfl⟩)
              | (refine step_append_own (e := 117) rfl (.tmp 46) (.tmp 76) 142 rfl elemU32 rfl (Own.alloc (show Own 117 _ w.heap.size _ (cw M) from HB3.out) _) _ 1 1 [_] rfl rfl (fun j u h => new_cells _ _ _ j u h) ?h1 ?hl ?hl2 ?hB ?hK
                 case h1 => (intro u hu; simp at hu; subst hu; rfl)
                 case hl => (rw [cw_length, HL.out]; omega)
                 case hl2 => (rw [cw_length, HL.out]; omega)
                 case hB => (have := HG3.out.size; simp; omega)
                 intro A' c' wz hown hgr hcl
                 have hbw : Below w.heap.size w wz := by
                   refine below_of_only ?_ hgr hgb ?_
                   · apply And.left; assumption
                   · have := HG3.out.size; simp; omega))
          simp only [v32_addw] at hown
          have hfin : Own 117 wz w.heap.size (.slice A' (n + 1) c') (cw (grL (firstW r 16) (n + 1 - 16))) := by
            rw [HM1.out, cw_append M]
            rw [cw_length, HL.out] at hown
            exact hown
          obtain ⟨g', rfl, _⟩ := hfin.at_ (by rw [cw_length, HM1.out, List.length_append, HL.out]; simp)
          rw [cw_length, HL.out]
          have HF := Lib.hid hfin
          have HBW := Lib.hid hbw
          clear hown hfin hbw hcl hgr
          simp only [List.getElem_toArray, List.getElem_cons_succ, List.getElem_cons_zero, Act.put, List.setIfInBounds_toArray, List.set_cons_zero, List.set_cons_succ]
          go_wp2_with fail
          go_roundw
          case rel => exact GrRel.mk ⟨n + 1, g', c', by omega, by omega, rfl, HF.out, HBW.out⟩
          case measure => simp [lenOfS]; omega
        · obtain rfl : n = 64 := by omega
          go_wp2_with fail
          go_ret
          exact ⟨⟨g, c, rfl, hB3⟩, hG3⟩
end
end Go.Proofs.YtjmgkjjcdnaapaaDoor
namespace Go.Proofs.YtjmgkjjcdnaapaaDoor
open Go.RowKit
set_option linter.unusedSimpArgs false
set_option linter.unusedVariables false
def agg8 (v : List (BitVec 32)) : Value := .agg #[.int .u32 (n32 (wd v 0)), .int .u32 (n32 (wd v 1)), .int .u32 (n32 (wd v 2)), .int .u32 (n32 (wd v 3)), .int .u32 (n32 (wd v 4)), .int .u32 (n32 (wd v 5)), .int .u32 (n32 (wd v 6)), .int .u32 (n32 (wd v 7))]
theorem wc8 (v : List (BitVec 32)) (h : v.length = 8) : wc v = #[.int .u32 (n32 (wd v 0)), .int .u32 (n32 (wd v 1)), .int .u32 (n32 (wd v 2)), .int .u32 (n32 (wd v 3)), .int .u32 (n32 (wd v 4)), .int .u32 (n32 (wd v 5)), .int .u32 (n32 (wd v 6)), .int .u32 (n32 (wd v 7))] := by
  match v, h with
  | [a, b, c, d, e, f, g, k], _ => rfl
theorem Blk.set8 {w : World} {g : Nat} {t : TypeId} {R : R8} (h : Blk w g t (wc R.list)) (x0 x1 x2 x3 x4 x5 x6 x7 : BitVec 32) :
    Blk ((((((((w.setCell ⟨g, 0, none⟩ (.int .u32 (n32 x0))).setCell ⟨g, 1, none⟩ (.int .u32 (n32 x1))).setCell ⟨g, 2, none⟩ (.int .u32 (n32 x2))).setCell ⟨g, 3, none⟩ (.int .u32 (n32 x3))).setCell ⟨g, 4, none⟩ (.int .u32 (n32 x4))).setCell ⟨g, 5, none⟩ (.int .u32 (n32 x5))).setCell ⟨g, 6, none⟩ (.int .u32 (n32 x6))).setCell ⟨g, 7, none⟩ (.int .u32 (n32 x7))) g t (wc (R8.list ⟨x0, x1, x2, x3, x4, x5, x6, x7⟩)) := by
  have h8 := (((((((h.set_ 0 (.int .u32 (n32 x0))).set_ 1 (.int .u32 (n32 x1))).set_ 2 (.int .u32 (n32 x2))).set_ 3 (.int .u32 (n32 x3))).set_ 4 (.int .u32 (n32 x4))).set_ 5 (.int .u32 (n32 x5))).set_ 6 (.int .u32 (n32 x6))).set_ 7 (.int .u32 (n32 x7))
  simp only [wc_set] at h8
  exact h8
theorem only_set8 {a w : World} {g : Nat} (h : a.grownBy w (some g)) (x0 x1 x2 x3 x4 x5 x6 x7 : Value) :
    a.grownBy ((((((((w.setCell ⟨g, 0, none⟩ x0).setCell ⟨g, 1, none⟩ x1).setCell ⟨g, 2, none⟩ x2).setCell ⟨g, 3, none⟩ x3).setCell ⟨g, 4, none⟩ x4).setCell ⟨g, 5, none⟩ x5).setCell ⟨g, 6, none⟩ x6).setCell ⟨g, 7, none⟩ x7) (some g) :=
  only_set (only_set (only_set (only_set (only_set (only_set (only_set (only_set h (.inl rfl) _) (.inl rfl) _) (.inl rfl) _) (.inl rfl) _) (.inl rfl) _) (.inl rfl) _) (.inl rfl) _) (.inl rfl) _
theorem quiet_turn {w : World} {n : Nat} (x : BitVec 32) (c : Int) (h : 0 ≤ c ∧ c ≤ 32) :
    Calls Tryd.prog 93 #[.int .u32 (n32 x), .int .i64 c] (w.drewN n) fun e w'' => e = .returned (.int .u32 (n32 (rr x c.toNat))) ∧ ∃ m, w'' = w.drewN m :=
  (turn_lit x c h (w.drewN n)).mono fun _ _ ⟨he, hw⟩ => ⟨he, n + 1, hw⟩
theorem quiet_turn_add {w : World} {a n : Nat} (x : BitVec 32) (c : Int) (h : 0 ≤ c ∧ c ≤ 32) :
    Calls Tryd.prog 93 #[.int .u32 (n32 x), .int .i64 c] (w.drewN (a + n)) fun e w'' => e = .returned (.int .u32 (n32 (rr x c.toNat))) ∧ ∃ m, w'' = w.drewN (a + m) :=
  (turn_lit x c h (w.drewN (a + n))).mono fun _ _ ⟨he, hw⟩ => ⟨he, n + 1, hw⟩
theorem v32_not (x : BitVec 32) : bits BinOp.xor IntKind.u32 (if IntKind.u32.signed = true then -1 else IntKind.u32.max) (n32 x) = n32 (~~~x) := by
  have h : (if IntKind.u32.signed = true then -1 else IntKind.u32.max) = n32 (BitVec.allOnes 32) := by decide
  rw [h, v32_xor, BitVec.allOnes_xor]
theorem z45 : ∀ w, (zeroValue 118).run Tryd.prog w = .ok (.agg #[.int .u32 0, .int .u32 0, .int .u32 0, .int .u32 0, .int .u32 0, .int .u32 0, .int .u32 0, .int .u32 0]) w := fun _ => by kernel_rfl
section
attribute [local go_sem] v32_add v32_xor v32_and v32_or v32_shr3 v32_shr10 v32_shl8 v32_not v32_addw
set_option maxHeartbeats 1600000 in
set_option maxRecDepth 100000 in
theorem mixed_any (v : List (BitVec 32)) (hv : v.length = 8) (r : List UInt8) (hr : r.length = 64) (w : World) :
    Calls Tryd.prog 83 #[agg8 v, .string ⟨r.toArray⟩] w fun e w' => e = .returned (agg8 (mixv v r)) ∧ Below w.heap.size w w' := by
  have Z := z45
  have hw8 := wc8 v hv
  unfold agg8
  go_enter Tryd.func83, Tryd.ntmps83
  go_wp2_with fail
  rw [← hw8]
  have V0 : Blk ((w.alloc (.cells (wc v) 118)).alloc (.cells #[.int .u32 0, .int .u32 0, .int .u32 0, .int .u32 0, .int .u32 0, .int .u32 0, .int .u32 0, .int .u32 0] 118)) w.heap.size 118 (wc v) := (Blk.new w _ _).alloc _
  have Z0 : Blk ((w.alloc (.cells (wc v) 118)).alloc (.cells #[.int .u32 0, .int .u32 0, .int .u32 0, .int .u32 0, .int .u32 0, .int .u32 0, .int .u32 0, .int .u32 0] 118)) (w.heap.size + 1) 118 #[.int .u32 0, .int .u32 0, .int .u32 0, .int .u32 0, .int .u32 0, .int .u32 0, .int .u32 0, .int .u32 0] := by
    have := Blk.new (w.alloc (.cells (wc v) 118)) 118 #[.int .u32 0, .int .u32 0, .int .u32 0, .int .u32 0, .int .u32 0, .int .u32 0, .int .u32 0, .int .u32 0]
    simpa using this
  have G0 : Below w.heap.size w ((w.alloc (.cells (wc v) 118)).alloc (.cells #[.int .u32 0, .int .u32 0, .int .u32 0, .int .u32 0, .int .u32 0, .int .u32 0, .int .u32 0, .int .u32 0] 118)) := ((Below.refl w.heap.size w).alloc (Nat.le_refl _) _).alloc (by simp) _
  obtain ⟨wa, hwa⟩ : ∃ wa, wa = (w.alloc (.cells (wc v) 118)).alloc (.cells #[.int .u32 0, .int .u32 0, .int .u32 0, .int .u32 0, .int .u32 0, .int .u32 0, .int .u32 0, .int .u32 0] 118) := ⟨_, rfl⟩
  rw [← hwa] at V0 Z0 G0 ⊢
  have hwas : wa.heap.size = w.heap.size + 2 := by rw [hwa]; simp
  clear hwa
  refine (grown_any r hr wa).mono ?_
  rintro e w1 ⟨⟨g, c, rfl, ho⟩, b1⟩
  have V1 := V0.below b1 (by omega)
  have Z1 := Z0.below b1 (by omega)
  have G1 := G0.trans (b1.mono (by omega))
  have hgb : wa.heap.size ≤ g ∧ g < w1.heap.size := ho.lt g rfl
  have hw1 := b1.size
  clear b1 V0 Z0 G0 hw8
  obtain ⟨W, hW⟩ : ∃ W, Hid (W = w64 r) := ⟨_, rfl⟩
  have hWl : W.length = 64 := by rw [hW.out]; exact w64_length r
  rw [← hW.out] at ho
  have HV1 := Lib.hid V1
  have HZ1 := Lib.hid Z1
  have HG1 := Lib.hid G1
  have HO := Lib.hid ho
  clear V1 Z1 G1 ho
  go_wp2_with fail
  refine (ks_any _).mono ?_
  rintro e w2 ⟨rfl, rfl⟩
  have HK2 := Lib.hid (Blk.new w1 117 (wc ksL))
  have HV2 := Lib.hid (HV1.out.alloc (.cells (wc ksL) 117))
  have HZ2 := Lib.hid (HZ1.out.alloc (.cells (wc ksL) 117))
  have HG2 := Lib.hid (HG1.out.alloc HG1.out.size (.cells (wc ksL) 117))
  have HO2 := Lib.hid (HO.out.alloc (.cells (wc ksL) 117))
  obtain ⟨w2, hw2⟩ : ∃ w2, w2 = w1.alloc (.cells (wc ksL) 117) := ⟨_, rfl⟩
  have hs2 : w2.heap.size = w1.heap.size + 1 := by rw [hw2]; simp
  rw [← hw2] at HK2 HV2 HZ2 HG2 HO2 ⊢
  have d0 := (HV2.out.cell 0).trans (wc_get v 0 (by omega))
  have d1 := (HV2.out.cell 1).trans (wc_get v 1 (by omega))
  have d2 := (HV2.out.cell 2).trans (wc_get v 2 (by omega))
  have d3 := (HV2.out.cell 3).trans (wc_get v 3 (by omega))
  have d4 := (HV2.out.cell 4).trans (wc_get v 4 (by omega))
  have d5 := (HV2.out.cell 5).trans (wc_get v 5 (by omega))
  have d6 := (HV2.out.cell 6).trans (wc_get v 6 (by omega))
  have d7 := (HV2.out.cell 7).trans (wc_get v 7 (by omega))
  clear hw2 HV1 HZ1 HG1 HO
  go_wp2_with fail
  clear d0 d1 d2 d3 d4 d5 d6 d7
  have HP0 := Lib.hid (show Blk (w2.alloc (.cells #[.int .u32 (n32 (wd v 0)), .int .u32 (n32 (wd v 1)), .int .u32 (n32 (wd v 2)), .int .u32 (n32 (wd v 3)), .int .u32 (n32 (wd v 4)), .int .u32 (n32 (wd v 5)), .int .u32 (n32 (wd v 6)), .int .u32 (n32 (wd v 7))] 118)) (w1.heap.size + 1) 118 (wc (rnds (R8.of v) W 0).list) by
    have := Blk.new w2 118 (wc (rnds (R8.of v) W 0).list)
    rw [hs2] at this
    exact this)
  have HK3 := Lib.hid (HK2.out.alloc (.cells #[.int .u32 (n32 (wd v 0)), .int .u32 (n32 (wd v 1)), .int .u32 (n32 (wd v 2)), .int .u32 (n32 (wd v 3)), .int .u32 (n32 (wd v 4)), .int .u32 (n32 (wd v 5)), .int .u32 (n32 (wd v 6)), .int .u32 (n32 (wd v 7))] 118))
  have HV3 := Lib.hid (HV2.out.alloc (.cells #[.int .u32 (n32 (wd v 0)), .int .u32 (n32 (wd v 1)), .int .u32 (n32 (wd v 2)), .int .u32 (n32 (wd v 3)), .int .u32 (n32 (wd v 4)), .int .u32 (n32 (wd v 5)), .int .u32 (n32 (wd v 6)), .int .u32 (n32 (wd v 7))] 118))
  have HZ3 := Lib.hid (HZ2.out.alloc (.cells #[.int .u32 (n32 (wd v 0)), .int .u32 (n32 (wd v 1)), .int .u32 (n32 (wd v 2)), .int .u32 (n32 (wd v 3)), .int .u32 (n32 (wd v 4)), .int .u32 (n32 (wd v 5)), .int .u32 (n32 (wd v 6)), .int .u32 (n32 (wd v 7))] 118))
  have HG3 := Lib.hid (HG2.out.alloc HG2.out.size (.cells #[.int .u32 (n32 (wd v 0)), .int .u32 (n32 (wd v 1)), .int .u32 (n32 (wd v 2)), .int .u32 (n32 (wd v 3)), .int .u32 (n32 (wd v 4)), .int .u32 (n32 (wd v 5)), .int .u32 (n32 (wd v 6)), .int .u32 (n32 (wd v 7))] 118))
  have HO3 := Lib.hid (HO2.out.alloc (.cells #[.int .u32 (n32 (wd v 0)), .int .u32 (n32 (wd v 1)), .int .u32 (n32 (wd v 2)), .int .u32 (n32 (wd v 3)), .int .u32 (n32 (wd v 4)), .int .u32 (n32 (wd v 5)), .int .u32 (n32 (wd v 6)), .int .u32 (n32 (wd v 7))] 118))
  obtain ⟨P, HP⟩ : ∃ P, Hid (P = rnds (R8.of v) W) := ⟨_, rfl⟩
  rw [← HP.out] at HP0
  obtain ⟨w3, hw3⟩ : ∃ w3, w3 = (w2.alloc (.cells #[.int .u32 (n32 (wd v 0)), .int .u32 (n32 (wd v 1)), .int .u32 (n32 (wd v 2)), .int .u32 (n32 (wd v 3)), .int .u32 (n32 (wd v 4)), .int .u32 (n32 (wd v 5)), .int .u32 (n32 (wd v 6)), .int .u32 (n32 (wd v 7))] 118)) := ⟨_, rfl⟩
  rw [← hw3] at HP0 HK3 HV3 HZ3 HG3 HO3 ⊢
  clear hw3 HK2 HV2 HZ2 HG2 HO2
  go_loopw [8, 9, 10, 11, 12, 13, 14, 15, 16] (fun v8 v9 v10 v11 v12 v13 v14 v15 v16 wx => ∃ i : Nat, i ≤ 64 ∧ v8 = .int .i64 i ∧ Blk wx (w1.heap.size + 1) 118 (wc (P i).list) ∧ w3.grownBy wx (some (w1.heap.size + 1))) (fun v8 _ _ _ _ _ _ _ _ _ => 64 - (intOf v8).toNat)
  case atStart => exact ⟨0, by omega, rfl, HP0.out, only_refl _ _⟩
  case round =>
    obtain ⟨i, hi, rfl, hB, hG⟩ := hrel
    have HB := Lib.hid hB
    have HG := Lib.hid hG
    clear hB hG
    by_cases hlt : i < 64
    · have d0 : wr.cell? ⟨w1.heap.size + 1, 0, none⟩ = some (.int .u32 (n32 (P i).a)) := HB.out.cell 0
      have d1 : wr.cell? ⟨w1.heap.size + 1, 1, none⟩ = some (.int .u32 (n32 (P i).b)) := HB.out.cell 1
      have d2 : wr.cell? ⟨w1.heap.size + 1, 2, none⟩ = some (.int .u32 (n32 (P i).c)) := HB.out.cell 2
      have d3 : wr.cell? ⟨w1.heap.size + 1, 3, none⟩ = some (.int .u32 (n32 (P i).d)) := HB.out.cell 3
      have d4 : wr.cell? ⟨w1.heap.size + 1, 4, none⟩ = some (.int .u32 (n32 (P i).e)) := HB.out.cell 4
      have d5 : wr.cell? ⟨w1.heap.size + 1, 5, none⟩ = some (.int .u32 (n32 (P i).f)) := HB.out.cell 5
      have d6 : wr.cell? ⟨w1.heap.size + 1, 6, none⟩ = some (.int .u32 (n32 (P i).g)) := HB.out.cell 6
      have d7 : wr.cell? ⟨w1.heap.size + 1, 7, none⟩ = some (.int .u32 (n32 (P i).k)) := HB.out.cell 7
      have f0 := HB.out.frozen 0
      have f1 := HB.out.frozen 1
      have f2 := HB.out.frozen 2
      have f3 := HB.out.frozen 3
      have f4 := HB.out.frozen 4
      have f5 := HB.out.frozen 5
      have f6 := HB.out.frozen 6
      have f7 := HB.out.frozen 7
      have c1 : wr.cell? ⟨w1.heap.size, i, none⟩ = some (.int .u32 (n32 (wd ksL i))) := HG.out.cell ((HK3.out.cell i).trans (wc_get ksL i (show i < 64 from hlt))) (by simp)
      have c2 : wr.cell? ⟨g, i, none⟩ = some (.int .u32 (n32 (wd W i))) := HG.out.cell ((HO3.out.cell i (by rw [cw_length]; omega)).trans (cw_get W i (by omega))) (by simp; omega)
      have e3 : 0 ≤ (i : Int) ∧ (i : Int) < 64 := by omega
      obtain ⟨R, hR⟩ : ∃ R, Hid (R = P i) := ⟨_, rfl⟩
      rw [← hR.out] at d0 d1 d2 d3 d4 d5 d6 d7
      go_wp2_with fail
      go_quiet (fail)
      go_wp2_with fail
      go_quiet ((first | (go_at_call 93; exact quiet_turn _ _ (by decide)) | (go_at_call 93; exact quiet_turn_add _ _ (by decide))))
      go_wp2_with (go_at_call 93; refine (turn_lit _ _ (by decide) _).mono ?_; rintro e w' ⟨rfl, rfl⟩)
      have hP1 : (P (i + 1)) = rnd R (rndT R (wd ksL i) (wd W i)) (rndU R) := by rw [hR.out, HP.out]; rfl
      have HP1 := Lib.hid hP1
      clear hP1
      go_roundw
      case rel =>
        refine ⟨i + 1, by omega, by go_num, ?_, ?_⟩
        · rw [HP1.out]
          simp only [v32_add, ch_eq, maj_eq]
          have hb := HB.out
          rw [← hR.out] at hb
          exact Blk.set8 (hb.drewN _) _ _ _ _ _ _ _ _
        · exact only_set8 (only_drewN HG.out _) _ _ _ _ _ _ _ _
      case measure => simp [intOf]; omega
    · obtain rfl : i = 64 := by omega
      rw [show ((64 : Nat) : Int) = 64 from rfl]
      obtain ⟨R, hR⟩ : ∃ R, Hid (R = P 64) := ⟨_, rfl⟩
      rw [← hR.out] at HB
      have hM : mixv v r = addTo v R.list 8 := by rw [mixv_eq, hR.out, HP.out, hW.out]
      have HM := Lib.hid hM
      have HV4 := Lib.hid (HV3.out.grown HG.out (by simp; omega))
      have HZ4 := Lib.hid (HZ3.out.grown HG.out (by simp; omega))
      have HG4 := Lib.hid (below_of_only HG3.out HG.out (by omega) (by have := HG3.out.size; omega))
      clear hM
      go_wp2_with fail
      obtain ⟨w4, rfl⟩ : ∃ w4, w4 = wr := ⟨_, rfl⟩
      go_loopw [17] (fun v17 wx => ∃ j : Nat, j ≤ 8 ∧ v17 = .int .i64 j ∧ Blk wx w.heap.size 118 (wc (addTo v R.list j)) ∧ w4.grownBy wx (some w.heap.size)) (fun v _ => 8 - (intOf v).toNat)
      case atStart => exact ⟨0, by omega, rfl, HV4.out, only_refl _ _⟩
      case round =>
        obtain ⟨j, hj, rfl, hB2, hG2⟩ := hrel
        have HB2 := Lib.hid hB2
        have HG2 := Lib.hid hG2
        clear hB2 hG2
        have hal : (addTo v R.list j).length = 8 := by rw [addTo_length]; exact hv
        by_cases hlt2 : j < 8
        · have c1 := (HB2.out.cell j).trans (wc_get _ j (by omega))
          have f1 := HB2.out.frozen j
          have c2 : wr.cell? ⟨w1.heap.size + 1, j, none⟩ = some (.int .u32 (n32 (wd R.list j))) := HG2.out.cell ((HB.out.cell j).trans (wc_get R.list j (show j < 8 from hlt2))) (by simp; omega)
          have e3 : 0 ≤ (j : Int) ∧ (j : Int) < 8 := by omega
          have hfin : Blk ((wr.drew).setCell ⟨w.heap.size, j, none⟩ (.int .u32 (n32 (wd (addTo v R.list j) j + wd R.list j)))) w.heap.size 118 (wc (addTo v R.list (j + 1))) ∧ w4.grownBy ((wr.drew).setCell ⟨w.heap.size, j, none⟩ (.int .u32 (n32 (wd (addTo v R.list j) j + wd R.list j)))) (some w.heap.size) := by
            have := HB2.out.drew.set_ j (.int .u32 (n32 (wd (addTo v R.list j) j + wd R.list j)))
            rw [wc_set] at this
            exact ⟨this, only_set (only_drew HG2.out) (.inl rfl) _⟩
          have HF := Lib.hid hfin
          clear hfin
          go_wp2_with fail
          refine still_tail 8 (by kernel_rfl) (by kernel_rfl) ?_
          simp only [List.take_succ_cons, List.take_zero, List.drop_succ_cons, List.drop_zero]
          repeat still_step
          refine wpStill_nil ?_
          go_wp2
          go_roundw
          case rel =>
            refine ⟨j + 1, by omega, by go_num, ?_⟩
            try simp only [v32_add]
            exact HF.out
          case measure => simp [intOf]; omega
        · obtain rfl : j = 8 := by omega
          rw [← HM.out] at hal HB2
          have d0 := (HB2.out.cell 0).trans (wc_get _ 0 (by omega))
          have d1 := (HB2.out.cell 1).trans (wc_get _ 1 (by omega))
          have d2 := (HB2.out.cell 2).trans (wc_get _ 2 (by omega))
          have d3 := (HB2.out.cell 3).trans (wc_get _ 3 (by omega))
          have d4 := (HB2.out.cell 4).trans (wc_get _ 4 (by omega))
          have d5 := (HB2.out.cell 5).trans (wc_get _ 5 (by omega))
          have d6 := (HB2.out.cell 6).trans (wc_get _ 6 (by omega))
          have d7 := (HB2.out.cell 7).trans (wc_get _ 7 (by omega))
          have hz := HZ4.out.grown HG2.out (by simp)
          have z0 := hz.cell 0
          have z1 := hz.cell 1
          have z2 := hz.cell 2
          have z3 := hz.cell 3
          have z4 := hz.cell 4
          have z5 := hz.cell 5
          have z6 := hz.cell 6
          have z7 := hz.cell 7
          have g0 := hz.frozen 0
          have g1 := hz.frozen 1
          have g2 := hz.frozen 2
          have g3 := hz.frozen 3
          have g4 := hz.frozen 4
          have g5 := hz.frozen 5
          have g6 := hz.frozen 6
          have g7 := hz.frozen 7
          simp at z0 z1 z2 z3 z4 z5 z6 z7
          clear hz
          have hgz := Lib.hid (below_of_only (g := w.heap.size + 1) (below_of_only HG4.out HG2.out (by omega) (by have := HG4.out.size; omega)) (only_set8 (only_refl wr (some (w.heap.size + 1))) (.int .u32 (n32 (wd (mixv v r) 0))) (.int .u32 (n32 (wd (mixv v r) 1))) (.int .u32 (n32 (wd (mixv v r) 2))) (.int .u32 (n32 (wd (mixv v r) 3))) (.int .u32 (n32 (wd (mixv v r) 4))) (.int .u32 (n32 (wd (mixv v r) 5))) (.int .u32 (n32 (wd (mixv v r) 6))) (.int .u32 (n32 (wd (mixv v r) 7)))) (by omega) (by have := HG4.out.size; have := HG2.out.size; omega))
          have hbz : Blk wr (w.heap.size + 1) 118 (wc (R8.list ⟨0, 0, 0, 0, 0, 0, 0, 0⟩)) := HZ4.out.grown HG2.out (by simp)
          have HBZ := Lib.hid (hbz.set8 (wd (mixv v r) 0) (wd (mixv v r) 1) (wd (mixv v r) 2) (wd (mixv v r) 3) (wd (mixv v r) 4) (wd (mixv v r) 5) (wd (mixv v r) 6) (wd (mixv v r) 7))
          clear hbz
          go_wp2
          exact bodyPost_ret (results_cell_row rfl _ _ (w.heap.size + 1) 118 _ (0, 0) _ rfl HBZ.out Tryd.underlying118 rfl (by kernel_rfl)) rfl ⟨rfl, hgz.out⟩
end
end Go.Proofs.YtjmgkjjcdnaapaaDoor
namespace Go.Proofs.YtjmgkjjcdnaapaaDoor
open Go.RowKit
set_option linter.unusedSimpArgs false
set_option linter.unusedVariables false
theorem eightL_drop (t i : Nat) (h : i < 8) : (eightL t).drop (7 - i) = UInt8.ofNat (t / 2 ^ (8 * i)) :: (eightL t).drop (8 - i) := by
  match i, h with
  | 0, _ => simp [eightL]
  | 1, _ => rfl
  | 2, _ => rfl
  | 3, _ => rfl
  | 4, _ => rfl
  | 5, _ => rfl
  | 6, _ => rfl
  | 7, _ => rfl
  | n + 8, h => exact absurd h (by omega)
/-- what stands behind a text, so much of it written. -/
def endAt (p t i : Nat) : List UInt8 := 128 :: (List.replicate (p + 8 - i) 0 ++ (eightL t).drop (8 - i))
theorem endAt_set (p t i : Nat) (h : i < 8) : (endAt p t i).set (p + 8 - i) (UInt8.ofNat (t / 2 ^ (8 * i))) = endAt p t (i + 1) := by
  unfold endAt
  rw [show p + 8 - i = (p + 7 - i) + 1 by omega, List.set_cons_succ, List.replicate_succ', List.append_assoc, List.set_append_right _ _ (by simp)]
  simp only [List.length_replicate, Nat.sub_self, List.cons_append, List.nil_append, List.set_cons_zero]
  rw [show p + 8 - (i + 1) = p + 7 - i by omega, show 8 - (i + 1) = 7 - i by omega, eightL_drop t i h]
theorem endAt_length (p t i : Nat) (h : i ≤ 8) : (endAt p t i).length = p + 9 := by
  simp [endAt, eightL_length]
  omega
theorem cb_set' (l : List UInt8) (i : Nat) (x : UInt8) : (cb l).set i (.int .u8 (n8 x)) = cb (l.set i x) := by simp [cb, List.map_set]
set_option maxHeartbeats 1000000 in
set_option maxRecDepth 100000 in
theorem whole_any (l : List UInt8) (hl : l.length ≤ 1073741824) (w : World) :
    Calls Tryd.prog 82 #[.string ⟨l.toArray⟩] w fun e w' => e = .returned (.string ⟨(wholeL l).toArray⟩) ∧ Below w.heap.size w w' := by
  have hsz : (⟨l.toArray⟩ : ByteArray).size = l.length := by simp [ByteArray.size]
  obtain ⟨p, hp⟩ : ∃ p, Hid (p = padN l) := ⟨_, rfl⟩
  have hp64 : p < 64 := by rw [hp.out, padN]; omega
  obtain ⟨m, hm⟩ : ∃ m, Hid (m = p + 9) := ⟨_, rfl⟩
  obtain ⟨q, hq⟩ : ∃ q, Hid (q = l.length % 64) := ⟨_, rfl⟩
  have hq64 : q < 64 := by rw [hq.out]; omega
  have e1 : (l.length : Int).tmod 64 = (q : Int) := by rw [hq.out, Int.tmod_eq_emod_of_nonneg (by omega)]; omega
  have e2 : ((119 : Int) - (q : Int)).tmod 64 = (p : Int) := by rw [hp.out, padN, Int.tmod_eq_emod_of_nonneg (by omega), hq.out]; omega
  have e1' : (l.length : Int) % 64 = (q : Int) := by rw [hq.out]; omega
  have e2' : ((119 : Int) - (q : Int)) % 64 = (p : Int) := by rw [hp.out, padN, hq.out]; omega
  have e3 := Lib.hid (show (p : Int) + 9 = (m : Int) by rw [hm.out]; omega)
  obtain ⟨w1, hmk, hown, hgr⟩ := own_make (B := w.heap.size) (t := 61) elemU8 w .i64 .i64 m (by rw [hm.out]; omega) (by rw [hm.out]; omega) (Nat.le_refl _)
  go_enter Tryd.func82, Tryd.ntmps82
  go_wp2_with fail
  have hrep : (List.replicate m (Value.int IntKind.u8 0).cells[0]!) = cb (List.replicate m 0) := by
    have : (Value.int IntKind.u8 0).cells[0]! = .int .u8 (n8 0) := rfl
    rw [this]
    simp [cb, List.map_replicate]
  rw [hrep] at hown
  have c0 := (hown.cell 0 (by rw [cb_length, List.length_replicate, hm.out]; omega)).trans (show _ = some (.int .u8 0) by rw [hm.out]; rfl)
  have f0 := hown.frozen 0
  have hm0 : 0 < m := by rw [hm.out]; omega
  have hset := hown.set_ 0 (.int .u8 (n8 128))
  obtain ⟨T, hT⟩ : ∃ T, Hid (T = l.length * 8 % 18446744073709551616) := ⟨_, rfl⟩
  have hs0 : (cb (List.replicate m 0)).set 0 (.int .u8 (n8 128)) = cb (endAt p T 0) := by
    rw [cb_set', hm.out]
    simp [endAt, List.replicate_succ, eightL]
  rw [hs0] at hset
  have hbel : Below w.heap.size w (w1.setCell ⟨w.heap.size, 0, none⟩ (.int .u8 (n8 128))) := by
    refine below_of_only (w := w1) ⟨hgr.os, hgr.tape, hgr.output, hgr.size, fun i h => hgr.block i h (by simp)⟩ (only_set (only_refl _ (some w.heap.size)) (.inl rfl) _) (Nat.le_refl _) hgr.size
  have HS := Lib.hid hset
  have HB := Lib.hid hbel
  have hglt : w.heap.size < w1.heap.size := (hown.lt _ rfl).2
  clear hset hbel hown hrep hs0
  simp only [e3.out]
  rw [hmk]
  clear hmk
  go_wp2_with fail
  clear c0 f0 hm0 hgr
  go_loopw [5] (fun v5 wx => ∃ i : Nat, i ≤ 8 ∧ v5 = .int .i64 i ∧ Own 5 wx w.heap.size (.slice (some ⟨w.heap.size, 0, none⟩) m m) (cb (endAt p T i)) ∧ Below w.heap.size w wx) (fun v _ => 8 - (intOf v).toNat)
  case atStart => exact ⟨0, by omega, rfl, HS.out, HB.out⟩
  case round =>
    obtain ⟨i, hi, rfl, hB2, hG2⟩ := hrel
    have HB2 := Lib.hid hB2
    have HG2 := Lib.hid hG2
    clear hB2 hG2
    by_cases hlt : i < 8
    · have hm9 : m = p + 9 := hm.out
      have ej : ((p : Int) + 8 - (i : Int)).toNat = p + 8 - i := by omega
      have e5 : 0 ≤ (p : Int) + 8 - (i : Int) ∧ (p : Int) + 8 - (i : Int) < (m : Int) := by omega
      have e6 : 0 ≤ 8 * (i : Int) := by omega
      have e7 : 0 ≤ (i : Int) ∧ (i : Int) < 8 := by omega
      obtain ⟨y, hy⟩ : ∃ y, Hid (y = UInt8.ofNat (T / 2 ^ (8 * i))) := ⟨_, rfl⟩
      have hTl : T = l.length * 8 := by rw [hT.out]; omega
      have e8 : ((l.length : Int) * 8 / 2 ^ (8 * i)) % 256 = n8 y := by
        have := n8_shr T (8 * i)
        rw [← hy.out] at this
        rw [← this, hTl]
        push_cast
        rfl
      have c1 : wr.cell? ⟨w.heap.size, p + 8 - i, none⟩ = some (.int .u8 (n8 (bd (endAt p T i) (p + 8 - i)))) := by
        refine (HB2.out.cell (p + 8 - i) (by rw [cb_length, endAt_length _ _ _ hi]; omega)).trans ?_
        have := cb_get (endAt p T i) (p + 8 - i) (by rw [endAt_length _ _ _ hi]; omega)
        simpa using this
      have f1 : wr.frozen? ⟨w.heap.size, p + 8 - i, none⟩ = false := HB2.out.frozen _
      have hfin : Own 5 (wr.setCell ⟨w.heap.size, p + 8 - i, none⟩ (.int .u8 (n8 y))) w.heap.size (.slice (some ⟨w.heap.size, 0, none⟩) m m) (cb (endAt p T (i + 1))) ∧ Below w.heap.size w (wr.setCell ⟨w.heap.size, p + 8 - i, none⟩ (.int .u8 (n8 y))) := by
        have h1 := HB2.out.set_ (p + 8 - i) (.int .u8 (n8 y))
        rw [cb_set', hy.out, endAt_set p T i hlt, ← hy.out] at h1
        exact ⟨h1, below_of_only HG2.out (only_set (only_refl _ (some w.heap.size)) (.inl rfl) _) (Nat.le_refl _) HG2.out.size⟩
      have HF := Lib.hid hfin
      have EJ := Lib.hid ej
      clear hfin ej hm9 hTl
      go_wp2_with fail
      go_roundw
      case rel =>
        refine ⟨i + 1, by omega, by go_num, ?_⟩
        exact HF.out
      case measure => simp [intOf]; omega
    · obtain rfl : i = 8 := by omega
      have hcv := my_own_string Tryd.underlying61 Tryd.underlying5 Tryd.underlying9 HB2.out
      obtain ⟨x, hx⟩ : ∃ x, Hid (x = endAt p T 8) := ⟨_, rfl⟩
      rw [← hx.out] at hcv
      have hfw : l ++ x = wholeL l := by rw [hx.out, endAt, wholeL, ← hT.out, ← hp.out]; simp
      have HFW := Lib.hid hfw
      have hxl : x.length ≤ 80 := by rw [hx.out, endAt_length _ _ _ (Nat.le_refl _)]; omega
      have hsx : (⟨x.toArray⟩ : ByteArray).size = x.length := by simp [ByteArray.size]
      clear hfw
      go_wp2_with fail
      go_ret
      refine ⟨?_, HG2.out⟩
      rw [← HFW.out, ← cat_eq]
      rfl
end Go.Proofs.YtjmgkjjcdnaapaaDoor
namespace Go.Proofs.YtjmgkjjcdnaapaaDoor
open Go.RowKit
set_option linter.unusedSimpArgs false
set_option linter.unusedVariables false
theorem outL_take (V : List (BitVec 32)) (j : Nat) (h : j < V.length) : outL (V.take (j + 1)) = outL (V.take j) ++ wordL (wd V j) := by
  rw [List.take_succ_eq_append_getElem h, outL, List.flatMap_append]
  simp [outL, wd, List.getD, List.getElem?_eq_getElem h]
theorem wordL_take (x : BitVec 32) (m : Nat) (h : m < 4) : (wordL x).take (m + 1) = (wordL x).take m ++ [w8 (x >>> (8 * (3 - m)))] := by
  match m, h with
  | 0, _ => rfl
  | 1, _ => rfl
  | 2, _ => rfl
  | 3, _ => rfl
  | n + 4, h => exact absurd h (by omega)
theorem cells8 {w : World} {g : Nat} {t : TypeId} {V : List (BitVec 32)} (h : Blk w g t (wc V)) (hl : V.length = 8) : Hid (Blk w g t (wc V)) ∧
    w.frozen? ⟨g, 0, none⟩ = false ∧ w.frozen? ⟨g, 1, none⟩ = false ∧ w.frozen? ⟨g, 2, none⟩ = false ∧ w.frozen? ⟨g, 3, none⟩ = false ∧ w.frozen? ⟨g, 4, none⟩ = false ∧ w.frozen? ⟨g, 5, none⟩ = false ∧ w.frozen? ⟨g, 6, none⟩ = false ∧ w.frozen? ⟨g, 7, none⟩ = false ∧
    w.cell? ⟨g, 0, none⟩ = some (.int .u32 (n32 (wd V 0))) ∧ w.cell? ⟨g, 1, none⟩ = some (.int .u32 (n32 (wd V 1))) ∧ w.cell? ⟨g, 2, none⟩ = some (.int .u32 (n32 (wd V 2))) ∧ w.cell? ⟨g, 3, none⟩ = some (.int .u32 (n32 (wd V 3))) ∧
    w.cell? ⟨g, 4, none⟩ = some (.int .u32 (n32 (wd V 4))) ∧ w.cell? ⟨g, 5, none⟩ = some (.int .u32 (n32 (wd V 5))) ∧ w.cell? ⟨g, 6, none⟩ = some (.int .u32 (n32 (wd V 6))) ∧ w.cell? ⟨g, 7, none⟩ = some (.int .u32 (n32 (wd V 7))) :=
  ⟨Lib.hid h, h.frozen 0, h.frozen 1, h.frozen 2, h.frozen 3, h.frozen 4, h.frozen 5, h.frozen 6, h.frozen 7, (h.cell 0).trans (wc_get V 0 (by omega)), (h.cell 1).trans (wc_get V 1 (by omega)), (h.cell 2).trans (wc_get V 2 (by omega)), (h.cell 3).trans (wc_get V 3 (by omega)),
    (h.cell 4).trans (wc_get V 4 (by omega)), (h.cell 5).trans (wc_get V 5 (by omega)), (h.cell 6).trans (wc_get V 6 (by omega)), (h.cell 7).trans (wc_get V 7 (by omega))⟩
theorem Blk.set8' {w : World} {g : Nat} {t : TypeId} {V U : List (BitVec 32)} (h : Blk w g t (wc V)) (hl : V.length = 8) (hu : U.length = 8) :
    Blk ((((((((w.setCell ⟨g, 0, none⟩ (.int .u32 (n32 (wd U 0)))).setCell ⟨g, 1, none⟩ (.int .u32 (n32 (wd U 1)))).setCell ⟨g, 2, none⟩ (.int .u32 (n32 (wd U 2)))).setCell ⟨g, 3, none⟩ (.int .u32 (n32 (wd U 3)))).setCell ⟨g, 4, none⟩ (.int .u32 (n32 (wd U 4)))).setCell ⟨g, 5, none⟩ (.int .u32 (n32 (wd U 5)))).setCell ⟨g, 6, none⟩ (.int .u32 (n32 (wd U 6)))).setCell ⟨g, 7, none⟩ (.int .u32 (n32 (wd U 7)))) g t (wc U) := by
  rw [wc8 U hu]
  rw [wc8 V hl] at h
  exact Blk.set8 (R := ⟨wd V 0, wd V 1, wd V 2, wd V 3, wd V 4, wd V 5, wd V 6, wd V 7⟩) h _ _ _ _ _ _ _ _
theorem wordL_length (x : BitVec 32) : (wordL x).length = 4 := rfl
set_option maxHeartbeats 1600000 in
set_option maxRecDepth 100000 in
theorem digest_any (l : List UInt8) (hl : l.length ≤ 1073741824) (w : World) :
    Calls Tryd.prog 66 #[.string ⟨l.toArray⟩] w fun e w' => e = .returned (.string ⟨(sha l).toArray⟩) ∧ Below w.heap.size w w' := by
  have Z := z45
  obtain ⟨all, hall⟩ : ∃ all, Hid (all = wholeL l) := ⟨_, rfl⟩
  have hN := wholeL_length l
  rw [← hall.out] at hN
  have hpad : padN l < 64 := by rw [padN]; omega
  obtain ⟨N, hNN⟩ : ∃ N, Hid (N = all.length) := ⟨_, rfl⟩
  have hN1 : N ≤ 1073742000 := by rw [hNN.out]; omega
  have hN2 : N % 64 = 0 := by rw [hNN.out]; exact hN.2
  have hsz : (⟨all.toArray⟩ : ByteArray).size = N := by rw [hNN.out]; simp [ByteArray.size]
  clear hN hpad
  go_enter Tryd.func66, Tryd.ntmps66
  go_wp2_with fail
  have h0 : wc (vAt all 0) = #[.int .u32 1779033703, .int .u32 3144134277, .int .u32 1013904242, .int .u32 2773480762, .int .u32 1359893119, .int .u32 2600822924, .int .u32 528734635, .int .u32 1541459225] := by rw [vAt_zero]; rfl
  rw [← h0]
  have hb0 := Blk.new w 118 (wc (vAt all 0))
  have hg0 := (Below.refl w.heap.size w).alloc (Nat.le_refl _) (.cells (wc (vAt all 0)) 118)
  obtain ⟨wa, hwa⟩ : ∃ wa, wa = w.alloc (.cells (wc (vAt all 0)) 118) := ⟨_, rfl⟩
  rw [← hwa] at hb0 hg0 ⊢
  clear hwa h0
  refine (whole_any l hl wa).mono ?_
  rintro e w1 ⟨rfl, b1⟩
  rw [← hall.out]
  have HB1 := Lib.hid (hb0.below b1 hb0.lt)
  have HG1 := Lib.hid (hg0.trans (b1.mono hg0.size))
  clear b1 hb0 hg0
  go_wp2_with fail
  go_loopw [5] (fun v5 wx => ∃ k : Nat, 64 * k ≤ N ∧ v5 = .int .i64 (64 * k : Nat) ∧ Blk wx w.heap.size 118 (wc (vAt all k)) ∧ Below w.heap.size w wx) (fun v _ => N - (intOf v).toNat)
  case atStart => exact ⟨0, by omega, rfl, HB1.out, HG1.out⟩
  case round =>
    obtain ⟨k, hk, rfl, hB, hG⟩ := hrel
    have HB := Lib.hid hB
    have HG := Lib.hid hG
    clear hB hG
    obtain ⟨i, HI⟩ : ∃ i, Hid (i = 64 * k) := ⟨_, rfl⟩
    rw [← HI.out] at hk ⊢
    have hi64 : i % 64 = 0 := by rw [HI.out]; omega
    by_cases hlt : i < N
    · have hik : i + 64 ≤ N := by omega
      obtain ⟨blk, hblk⟩ : ∃ blk, Hid (blk = (all.drop i).take 64) := ⟨_, rfl⟩
      have hbl : blk.length = 64 := by rw [hblk.out, List.length_take, List.length_drop, ← hNN.out]; omega
      have e2 : (⟨all.toArray⟩ : ByteArray).extract i (i + 64) = ⟨blk.toArray⟩ := by rw [extract_mid, hblk.out, Nat.add_sub_cancel_left]
      have hl8 := vAt_length all k
      have d0 := (HB.out.cell 0).trans (wc_get _ 0 (by omega))
      have d1 := (HB.out.cell 1).trans (wc_get _ 1 (by omega))
      have d2 := (HB.out.cell 2).trans (wc_get _ 2 (by omega))
      have d3 := (HB.out.cell 3).trans (wc_get _ 3 (by omega))
      have d4 := (HB.out.cell 4).trans (wc_get _ 4 (by omega))
      have d5 := (HB.out.cell 5).trans (wc_get _ 5 (by omega))
      have d6 := (HB.out.cell 6).trans (wc_get _ 6 (by omega))
      have d7 := (HB.out.cell 7).trans (wc_get _ 7 (by omega))
      have D0 := mixed_any (vAt all k) hl8 blk hbl wr.drew
      unfold agg8 at D0
      have HM := Lib.hid (show mixv (vAt all k) blk = vAt all (k + 1) by rw [vAt_succ all k (by have := HI.out; rw [← hNN.out]; omega), hblk.out, HI.out])
      rw [HM.out] at D0
      have D := Lib.hid D0
      clear D0
      have hl9 := vAt_length all (k + 1)
      have hikI : (i : Int) + 64 ≤ (N : Int) := by omega
      have hltI : (i : Int) < (N : Int) := by omega
      have hslice : ∀ w, (Instr.slice 9 (.string ⟨all.toArray⟩) (some (.int .i64 (i : Int))) (some (.int .i64 ((i : Int) + 64))) none).run Tryd.prog w = .ok (.string ⟨blk.toArray⟩) w := fun w => by
        rw [run_slice_string _ _ _ _ _ _ _ Tryd.underlying9 (by omega) (by omega) (by rw [hsz]; omega)]
        rw [show ((i : Int)).toNat = i by omega, show ((i : Int) + 64).toNat = i + 64 by omega, e2]
      have hw64 : IntKind.i64.wrap ((i : Int) + 64) = (i : Int) + 64 := by rw [IntKind.wrap_i64]; omega
      go_wp2_with fail
      go_region_with (first | (go_at_call 83; refine D.out.mono ?_; rintro e w9 ⟨rfl, b9⟩; obtain ⟨hb9, f0, f1, f2, f3, f4, f5, f6, f7, d0, d1, d2, d3, d4, d5, d6, d7⟩ := cells8 (HB.out.drew.below b9 HB.out.lt) hl8))
      have HF := Lib.hid (hb9.out.set8' hl8 hl9)
      have HGF := Lib.hid (below_of_only (HG.out.drew.trans (b9.mono HG.out.size)) (only_set8 (only_refl w9 (some w.heap.size)) (.int .u32 (n32 (wd (vAt all (k + 1)) 0))) (.int .u32 (n32 (wd (vAt all (k + 1)) 1))) (.int .u32 (n32 (wd (vAt all (k + 1)) 2))) (.int .u32 (n32 (wd (vAt all (k + 1)) 3))) (.int .u32 (n32 (wd (vAt all (k + 1)) 4))) (.int .u32 (n32 (wd (vAt all (k + 1)) 5))) (.int .u32 (n32 (wd (vAt all (k + 1)) 6))) (.int .u32 (n32 (wd (vAt all (k + 1)) 7)))) (Nat.le_refl _) (by have h1 := HG.out.size; have h2 := b9.size; simp at h2; omega))
      go_wp2_with fail
      go_roundw
      case rel =>
        have h64 := HI.out
        exact ⟨k + 1, by omega, by rw [show (i : Int) + 64 = ((64 * (k + 1) : Nat) : Int) by omega], HF.out, HGF.out⟩
      case measure => simp [intOf]; omega
    · have hkN : k = N / 64 := by have := HI.out; omega
      obtain ⟨V, hV⟩ : ∃ V, Hid (V = vAt all k) := ⟨_, rfl⟩
      have hVl : V.length = 8 := by rw [hV.out]; exact vAt_length all k
      have hsh : sha l = outL V := by rw [sha_vAt, hV.out, hkN, hNN.out, hall.out]
      have HSH := Lib.hid hsh
      rw [← hV.out] at HB
      obtain ⟨w4, rfl⟩ : ∃ w4, w4 = wr := ⟨_, rfl⟩
      clear hsh hkN
      go_wp2_with fail
      clear hN1 hN2 hsz hk hi64 hlt Z
      go_loopw [6, 7, 8] (fun v6 v7 v8 wx => ∃ j : Nat, j ≤ 8 ∧ v7 = .int .i64 j ∧ Own 5 wx (w.heap.size + 1) v6 (cb (outL (V.take j))) ∧ Blk wx w.heap.size 118 (wc V) ∧ Below w.heap.size w wx) (fun _ v _ _ => 8 - (intOf v).toNat)
      case atStart => exact ⟨0, by omega, rfl, my_own_nil _ _ _, HB.out, HG.out⟩
      case round =>
        obtain ⟨j, hj, rfl, hO, hB2, hG2⟩ := hrel
        have HO := Lib.hid hO
        have HB2 := Lib.hid hB2
        have HG2 := Lib.hid hG2
        clear hO hB2 hG2
        by_cases hlt2 : j < 8
        · obtain ⟨pre, hpre⟩ : ∃ pre, Hid (pre = outL (V.take j)) := ⟨_, rfl⟩
          have hpl : pre.length ≤ 32 := by rw [hpre.out, outL_length, List.length_take]; omega
          obtain ⟨x, hx⟩ : ∃ x, Hid (x = wd V j) := ⟨_, rfl⟩
          have hnx := outL_take V j (by omega)
          rw [← hpre.out, ← hx.out] at hnx
          have HNX := Lib.hid hnx
          rw [← hpre.out] at HO
          have hj8 : (0 : Int) ≤ (j : Int) ∧ (j : Int) < 8 := by omega
          clear hnx
          go_wp2_with fail
          go_loopw [6, 8] (fun v6 v8 wx => ∃ m : Nat, m ≤ 4 ∧ v8 = .int .i64 (3 - m) ∧ Own 5 wx (w.heap.size + 1) v6 (cb (pre ++ (wordL x).take m)) ∧ Blk wx w.heap.size 118 (wc V) ∧ Below w.heap.size w wx) (fun _ v _ => (intOf v + 1).toNat)
          case atStart => exact ⟨0, by omega, rfl, by simpa using HO.out, HB2.out, HG2.out⟩
          case round =>
            obtain ⟨m, hm, rfl, hO3, hB3, hG3⟩ := hrel
            have HO3 := Lib.hid hO3
            have HB3 := Lib.hid hB3
            have HG3 := Lib.hid hG3
            clear hO3 hB3 hG3
            by_cases hlt3 : m < 4
            · have c1 : wr.cell? ⟨w.heap.size, j, none⟩ = some (.int .u32 (n32 x)) := by rw [hx.out]; exact (HB3.out.cell j).trans (wc_get V j (by omega))
              have hst := wordL_take x m hlt3
              obtain ⟨y, hy⟩ : ∃ y, Hid (y = w8 (x >>> (8 * (3 - m)))) := ⟨_, rfl⟩
              rw [← hy.out] at hst
              have e1 : (n32 x / 2 ^ (8 * (3 - m))) % 256 = n8 y := by
                rw [hy.out, ← w8_n8, ← v32_shr_nat]
                push_cast
                rfl
              have hge : (0 : Int) ≤ 3 - (m : Int) := by omega
              have hm3 : (m : Int) ≤ 3 := by omega
              have hge2 : (0 : Int) ≤ 8 * (3 - (m : Int)) := by omega
              have hle : (cb (pre ++ (wordL x).take m)).length ≤ 36 := by rw [cb_length, List.length_append, List.length_take, wordL_length]; omega
              have hsz3 := HB3.out.lt
              obtain ⟨A', c', w', hrun, hown, hgr⟩ := own_append (ty := 61) elemU8 (HO3.out.alloc (.cells #[.int .u8 (n8 y)] 5)) wr.heap.size 1 1 [.int .u8 (n8 y)] rfl (fun j u h => new_cells wr _ _ j u h) (by intro u hu; simp at hu; subst hu; rfl) (by omega) (by omega) (by simp; omega)
              have hfin : Own 5 w' (w.heap.size + 1) (.slice A' ((cb (pre ++ (wordL x).take m)).length + 1) c') (cb (pre ++ (wordL x).take (m + 1))) ∧ Blk w' w.heap.size 118 (wc V) ∧ Below w.heap.size w w' := by
                rw [hst, ← List.append_assoc, cb_append _ [y]]
                refine ⟨hown, (HB3.out.alloc _).grown hgr (fun h => ?_), (HG3.out.alloc HG3.out.size _).grown hgr (by simp; omega) (fun k hk => Nat.le_of_succ_le ((HO3.out.alloc (.cells #[.int .u8 (n8 y)] 5)).lt k hk).1)⟩
                have := (HO3.out.lt _ h.symm).1
                omega
              have HF := Lib.hid hfin
              have HR := Lib.hid hrun
              clear hst hown hgr hfin hrun hle
              go_wp2_with (at_builtin; refine wpList_append_run rfl _ _ _ _ rfl rfl rfl HR.out ?_)
              exact ⟨⟨m + 1, by omega, by rw [show (3 : Int) - (m : Int) - 1 = 3 - ((m + 1 : Nat) : Int) by omega], HF.out.1, HF.out.2.1, HF.out.2.2⟩, by simp [intOf]; omega⟩
            · obtain rfl : m = 4 := by omega
              rw [show (wordL x).take 4 = wordL x from rfl, ← HNX.out] at HO3
              go_wp2_with fail
              go_roundw
              case rel => exact ⟨j + 1, by omega, by go_num, HO3.out, HB3.out, HG3.out⟩
              case measure => simp [intOf]; omega
        · obtain rfl : j = 8 := by omega
          rw [List.take_of_length_le (by omega), ← HSH.out] at HO
          obtain ⟨S, hS⟩ : ∃ S, Hid (S = sha l) := ⟨_, rfl⟩
          rw [← hS.out] at HO
          have hcv := my_own_string Tryd.underlying61 Tryd.underlying5 Tryd.underlying9 HO.out
          go_wp2_with fail
          go_ret
          exact ⟨by rw [← hS.out]; rfl, HG2.out⟩
end Go.Proofs.YtjmgkjjcdnaapaaDoor
namespace Go.Proofs.YtjmgkjjcdnaapaaDoor
open Go.RowKit
set_option linter.unusedSimpArgs false
set_option linter.unusedVariables false
/-- so many bytes xor a byte, and bytes 0 up to sixty-four. -/
def zTo (l : List UInt8) (b : UInt8) (i : Nat) : List UInt8 := (l.take i).map (· ^^^ b) ++ List.replicate (64 - i) 0
theorem zTo_zero (l : List UInt8) (b : UInt8) : zTo l b 0 = List.replicate 64 0 := by simp [zTo]
theorem zTo_length (l : List UInt8) (b : UInt8) (i : Nat) (h : i ≤ 64) (hl : l.length = 64) : (zTo l b i).length = 64 := by
  simp [zTo]
  omega
theorem zTo_set (l : List UInt8) (b : UInt8) (i : Nat) (h : i < 64) (hl : l.length = 64) : (zTo l b i).set i (bd l i ^^^ b) = zTo l b (i + 1) := by
  have hl' : ((l.take i).map (· ^^^ b)).length = i := by simp; omega
  unfold zTo
  rw [List.set_append_right _ _ (by omega), hl', Nat.sub_self, show 64 - i = (64 - (i + 1)) + 1 by omega, List.replicate_succ, List.set_cons_zero, List.take_succ_eq_append_getElem (by omega : i < l.length), List.map_append, List.append_assoc]
  simp [bd, List.getD, List.getElem?_eq_getElem (by omega : i < l.length)]
theorem zTo_full (l : List UInt8) (b : UInt8) (hl : l.length = 64) : zTo l b 64 = l.map (· ^^^ b) := by
  rw [zTo, List.take_of_length_le (by omega)]
  simp
theorem zTo_cell {e : TypeId} {w : World} {B g : Nat} {l : List UInt8} {b : UInt8} (i : Nat) {j : Nat} (h : Own e w B (.slice (some ⟨g, 0, none⟩) 64 64) (cb (zTo l b j))) (hi : i < 64) (hl : l.length = 64) (hj : j ≤ 64) : w.cell? ⟨g, i, none⟩ = some (.int .u8 (n8 (bd (zTo l b j) i))) := by
  refine (h.cell i (by rw [cb_length, zTo_length _ _ _ hj hl]; exact hi)).trans ?_
  have := cb_get (zTo l b j) i (by rw [zTo_length _ _ _ hj hl]; exact hi)
  simpa using this
theorem key64_get_lt (k : List UInt8) (i : Nat) (h : i < (keyL k).length) : bd (key64 k) i = bd (keyL k) i := by
  simp [key64, bd, List.getD, List.getElem?_append_left h]
theorem key64_get_ge (k : List UInt8) (i : Nat) (h : (keyL k).length ≤ i) : bd (key64 k) i = 0 := by
  simp only [key64, bd, List.getD]
  rw [List.getElem?_append_right h, List.getElem?_replicate]
  split <;> rfl
theorem zeros64 : List.replicate 64 (Value.int IntKind.u8 0).cells[0]! = cb (List.replicate 64 0) := rfl
/-- worlds behind W0 in which two made rows stand. -/
def TG (W0 : World) (g1 g2 : Nat) (p q : List UInt8) (w' : World) : Prop := Below W0.heap.size W0 w' ∧ Own 5 w' W0.heap.size (.slice (some ⟨g1, 0, none⟩) 64 64) (cb p) ∧ Own 5 w' W0.heap.size (.slice (some ⟨g2, 0, none⟩) 64 64) (cb q)
theorem TG.drew {W0 w' : World} {g1 g2 : Nat} {p q : List UInt8} (h : TG W0 g1 g2 p q w') : TG W0 g1 g2 p q w'.drew := ⟨h.1.drew, h.2.1.drew, h.2.2.drew⟩
theorem TG.below {W0 w' w'' : World} {g1 g2 : Nat} {p q : List UInt8} (h : TG W0 g1 g2 p q w') (hb : Below w'.heap.size w' w'') : TG W0 g1 g2 p q w'' := ⟨h.1.trans (hb.mono h.1.size), h.2.1.below hb, h.2.2.below hb⟩
set_option maxHeartbeats 6000000 in
set_option maxRecDepth 100000 in
theorem refTag_any (k t : List UInt8) (w : World) (hkl : k.length ≤ 1073741824) (htl : t.length ≤ 8000000) :
    Calls Tryd.prog 47 #[.string ⟨k.toArray⟩, .string ⟨t.toArray⟩] w fun e w' => e = .returned (.string ⟨(tagL k t).toArray⟩) ∧ Below w.heap.size w w' := by
  have hszk : (⟨k.toArray⟩ : ByteArray).size = k.length := by simp [ByteArray.size]
  have hszt : (⟨t.toArray⟩ : ByteArray).size = t.length := by simp [ByteArray.size]
  obtain ⟨x, hx⟩ : ∃ x, Hid (x = keyL k) := ⟨_, rfl⟩
  have hxl : x.length ≤ 64 := by rw [hx.out]; exact keyL_le k
  have hszx : (⟨x.toArray⟩ : ByteArray).size = x.length := by simp [ByteArray.size]
  obtain ⟨y, hy⟩ : ∃ y, Hid (y = key64 k) := ⟨_, rfl⟩
  have hyl : y.length = 64 := by rw [hy.out]; exact key64_length k
  obtain ⟨p, hp⟩ : ∃ p, Hid (p = padL k 54) := ⟨_, rfl⟩
  obtain ⟨q, hq⟩ : ∃ q, Hid (q = padL k 92) := ⟨_, rfl⟩
  have hszp : (⟨p.toArray⟩ : ByteArray).size = 64 := by have := padL_length k 54; rw [← hp.out] at this; simp [ByteArray.size, this]
  have hszq : (⟨q.toArray⟩ : ByteArray).size = 64 := by have := padL_length k 92; rw [← hq.out] at this; simp [ByteArray.size, this]
  obtain ⟨pt, hpt⟩ : ∃ pt, Hid (pt = p ++ t) := ⟨_, rfl⟩
  obtain ⟨S, hS⟩ : ∃ S, Hid (S = sha pt) := ⟨_, rfl⟩
  obtain ⟨qs, hqs⟩ : ∃ qs, Hid (qs = q ++ S) := ⟨_, rfl⟩
  obtain ⟨T, hT⟩ : ∃ T, Hid (T = sha qs) := ⟨_, rfl⟩
  have hszS : (⟨S.toArray⟩ : ByteArray).size = 32 := by have := sha_length pt; rw [← hS.out] at this; simp [ByteArray.size, this]
  have ht64 : 64 + t.length ≤ 9223372036854775807 := by omega
  have ht64n : ¬ (9223372036854775807 < 64 + t.length) := by omega
  have htI : (t.length : Int) ≤ 8388608 := by omega
  have hszpt : (⟨pt.toArray⟩ : ByteArray).size = pt.length := by simp [ByteArray.size]
  have hszqs : (⟨qs.toArray⟩ : ByteArray).size = qs.length := by simp [ByteArray.size]
  have hptl : pt.length ≤ 1073741824 := by have := padL_length k 54; rw [← hp.out] at this; rw [hpt.out, List.length_append]; omega
  have hqsl : qs.length ≤ 1073741824 := by have := padL_length k 92; rw [← hq.out] at this; rw [hqs.out, List.length_append, hS.out, sha_length]; omega
  have hcat1 : (⟨p.toArray⟩ : ByteArray) ++ ⟨t.toArray⟩ = ⟨pt.toArray⟩ := by rw [cat_eq, hpt.out]
  have hcat2 : (⟨q.toArray⟩ : ByteArray) ++ ⟨S.toArray⟩ = ⟨qs.toArray⟩ := by rw [cat_eq, hqs.out]
  have H1 : Hid (∀ w', Calls Tryd.prog 66 #[.string ⟨pt.toArray⟩] w' fun e w'' => e = .returned (.string ⟨S.toArray⟩) ∧ Below w'.heap.size w' w'') := Lib.hid (fun w' => by
    have hl : pt.length ≤ 1073741824 := by have := padL_length k 54; rw [← hp.out] at this; rw [hpt.out, List.length_append]; omega
    rw [hS.out]
    exact digest_any pt hl w')
  have H2 : Hid (∀ w', Calls Tryd.prog 66 #[.string ⟨qs.toArray⟩] w' fun e w'' => e = .returned (.string ⟨T.toArray⟩) ∧ Below w'.heap.size w' w'') := Lib.hid (fun w' => by
    have hl : qs.length ≤ 1073741824 := by have := padL_length k 92; rw [← hq.out] at this; rw [hqs.out, List.length_append, hS.out, sha_length]; omega
    rw [hT.out]
    exact digest_any qs hl w')
  go_enter Tryd.func47, Tryd.ntmps47
  by_cases h64 : 64 < k.length
  · have h64i : (64 : Int) < (k.length : Int) := by omega
    have HX : Hid (sha k = x) := Lib.hid (by rw [hx.out, keyL, if_pos h64])
    go_wp2_with fail
    refine (digest_any k hkl w).mono ?_
    rintro e w1 ⟨rfl, b1⟩
    rw [HX.out]
    have B1 := Lib.hid b1
    clear b1 h64i
    obtain ⟨w2, hmk1, hown1, hgr1⟩ := own_make (B := w.heap.size) (t := 61) elemU8 w1.drew .i64 .i64 64 (by omega) (by omega) B1.out.size
    have G2 : Below w.heap.size w w2 := B1.out.drew.grown hgr1 B1.out.size (fun k hk => by cases hk)
    obtain ⟨w3, hmk2, hown2, hgr2⟩ := own_make (B := w.heap.size) (t := 61) elemU8 w2 .i64 .i64 64 (by omega) (by omega) G2.size
    have G3 := Lib.hid (G2.grown hgr2 G2.size (fun k hk => by cases hk))
    obtain ⟨g1, hg1⟩ : ∃ g1, Hid (g1 = w1.heap.size) := ⟨_, rfl⟩
    obtain ⟨g2, hg2⟩ : ∃ g2, Hid (g2 = w2.heap.size) := ⟨_, rfl⟩
    have hne : g1 < g2 := by rw [hg1.out, hg2.out]; simpa using (hown1.lt _ rfl).2
    have hB1 : w.heap.size ≤ g1 := by rw [hg1.out]; exact B1.out.size
    have hmk1 : (Instr.makeSlice 61 (.int .i64 64) (.int .i64 64)).run Tryd.prog w1.drew = .ok (.slice (some ⟨g1, 0, none⟩) 64 64) w2 := by rw [hg1.out]; exact hmk1
    have hmk2 : (Instr.makeSlice 61 (.int .i64 64) (.int .i64 64)).run Tryd.prog w2 = .ok (.slice (some ⟨g2, 0, none⟩) 64 64) w3 := by rw [hg2.out]; exact hmk2
    have ho1 := hown1.grown hgr2 (.inr (by simp [Value.ownBlock]))
    rw [zeros64] at ho1 hown2
    have HO1 : Hid (Own 5 w3 w.heap.size (.slice (some ⟨g1, 0, none⟩) 64 64) (cb (List.replicate 64 0))) := Lib.hid (by rw [hg1.out]; exact ho1)
    have HO2 : Hid (Own 5 w3 w.heap.size (.slice (some ⟨g2, 0, none⟩) 64 64) (cb (List.replicate 64 0))) := Lib.hid (by rw [hg2.out]; exact hown2)
    clear hown1 hgr1 G2 hgr2 ho1 hown2
    go_wp2_with fail
    go_region
    · clear hmk1 hmk2
      go_wp2_with fail
      go_loopw [7, 8] (fun v7 v8 wx => ∃ i : Nat, i ≤ 64 ∧ v7 = .int .i64 i ∧ Own 5 wx w.heap.size (.slice (some ⟨g1, 0, none⟩) 64 64) (cb (zTo y 54 i)) ∧ Own 5 wx w.heap.size (.slice (some ⟨g2, 0, none⟩) 64 64) (cb (zTo y 92 i)) ∧ Below w.heap.size w wx) (fun v _ _ => 64 - (intOf v).toNat)
      case atStart => exact ⟨0, by omega, rfl, by rw [zTo_zero]; exact HO1.out, by rw [zTo_zero]; exact HO2.out, G3.out⟩
      case round =>
        obtain ⟨i, hi, rfl, hI, hO, hG⟩ := hrel
        have HI := Lib.hid hI
        have HO := Lib.hid hO
        have HG := Lib.hid hG
        clear hI hO hG
        by_cases hlt : i < 64
        · obtain ⟨z, hz⟩ : ∃ z, Hid (z = bd y i) := ⟨_, rfl⟩
          have hx1 : bits .xor .u8 (z.toNat : Int) 54 = n8 (z ^^^ 54) := n8_xor z 54
          have hx2 : bits .xor .u8 (z.toNat : Int) 92 = n8 (z ^^^ 92) := n8_xor z 92
          have c1 := zTo_cell i HI.out hlt hyl hi
          have f1 := HI.out.frozen i
          have hI1 := HI.out.set_ i (.int .u8 (n8 (z ^^^ 54)))
          have hO1 := HO.out.setFar (p := ⟨g1, i, none⟩) (by simp [Value.ownBlock]; omega) (.int .u8 (n8 (z ^^^ 54)))
          have c2 := zTo_cell i hO1 hlt hyl hi
          have f2 := hO1.frozen i
          have hI2 := hI1.setFar (p := ⟨g2, i, none⟩) (by simp [Value.ownBlock]; omega) (.int .u8 (n8 (z ^^^ 92)))
          have hO2 := hO1.set_ i (.int .u8 (n8 (z ^^^ 92)))
          rw [cb_set', hz.out, zTo_set y 54 i hlt hyl, ← hz.out] at hI2
          rw [cb_set', hz.out, zTo_set y 92 i hlt hyl, ← hz.out] at hO2
          have hgf : Below w.heap.size w ((wr.setCell ⟨g1, i, none⟩ (.int .u8 (n8 (z ^^^ 54)))).setCell ⟨g2, i, none⟩ (.int .u8 (n8 (z ^^^ 92)))) :=
            below_of_only (below_of_only HG.out (only_set (only_refl _ (some g1)) (.inl rfl) _) (by omega) HG.out.size) (only_set (only_refl _ (some g2)) (.inl rfl) _) (by omega) (by simpa using HG.out.size)
          have HI2 := Lib.hid hI2
          have HO2' := Lib.hid hO2
          have HGF := Lib.hid hgf
          have hiI : (0 : Int) ≤ (i : Int) ∧ (i : Int) < 64 := by omega
          clear hI1 hO1 hI2 hO2 hgf
          by_cases hix : i < x.length
          · have hbl : ∀ h, (⟨x.toArray⟩ : ByteArray)[i]'h = z := fun h => by
              rw [hz.out, hy.out, key64_get_lt k i (by rw [← hx.out]; exact hix), ← hx.out]
              simp [bd, List.getD, List.getElem?_eq_getElem hix]
              rfl
            have hixI : (i : Int) < (x.length : Int) := by omega
            go_wp2_with fail
            go_roundw
            case rel => exact ⟨i + 1, by omega, by go_num, HI2.out, HO2'.out, HGF.out⟩
            case measure => simp [intOf]; omega
          · have hz0 : z = 0 := by rw [hz.out, hy.out, key64_get_ge k i (by rw [← hx.out]; omega)]
            have hixI : decide ((i : Int) < (x.length : Int)) = false := by simp; omega
            have hixN : decide (i < x.length) = false := by simp; omega
            have hxi : x.length ≤ i := by omega
            have hxiI : (x.length : Int) ≤ (i : Int) := by omega
            clear hix
            have hx3 : bits .xor .u8 0 54 = n8 (z ^^^ 54) := by rw [← hx1, hz0]; rfl
            have hx4 : bits .xor .u8 0 92 = n8 (z ^^^ 92) := by rw [← hx2, hz0]; rfl
            clear hx1 hx2 hz0
            go_wp2_with fail
            go_roundw
            case rel => exact ⟨i + 1, by omega, by go_num, HI2.out, HO2'.out, HGF.out⟩
            case measure => simp [intOf]; omega
        · obtain rfl : i = 64 := by omega
          rw [zTo_full y 54 hyl, hy.out, ← padL, ← hp.out] at HI
          rw [zTo_full y 92 hyl, hy.out, ← padL, ← hq.out] at HO
          have cI0 := my_own_string Tryd.underlying61 Tryd.underlying5 Tryd.underlying9 HI.out.drew
          have cO0 := my_own_string Tryd.underlying61 Tryd.underlying5 Tryd.underlying9 HO.out.drew
          clear hlt hi
          go_wp2_with fail
          go_region_with (first
            | (go_at_call_of 66 pt; refine (H1.out _).mono ?_; rintro e w9 ⟨rfl, b9⟩; have cO9 := my_own_string Tryd.underlying61 Tryd.underlying5 Tryd.underlying9 (HO.out.drew.below b9))
            | (go_at_call_of 66 qs; refine (H2.out _).mono ?_; rintro e w10 ⟨rfl, b10⟩))
          all_goals (go_wp2_with fail; go_ret; exact ⟨by rw [tagL, ← hp.out, ← hpt.out, ← hS.out, ← hq.out, ← hqs.out, ← hT.out]; rfl, (HG.out.drew.trans (b9.mono HG.out.size)).trans (b10.mono (HG.out.drew.trans (b9.mono HG.out.size)).size)⟩)
    · clear hmk1 hmk2
      go_wp2_with fail
      go_loopw [7, 8] (fun v7 v8 wx => ∃ i : Nat, i ≤ 64 ∧ v7 = .int .i64 i ∧ Own 5 wx w.heap.size (.slice (some ⟨g2, 0, none⟩) 64 64) (cb (zTo y 54 i)) ∧ Own 5 wx w.heap.size (.slice (some ⟨g1, 0, none⟩) 64 64) (cb (zTo y 92 i)) ∧ Below w.heap.size w wx) (fun v _ _ => 64 - (intOf v).toNat)
      case atStart => exact ⟨0, by omega, rfl, by rw [zTo_zero]; exact HO2.out, by rw [zTo_zero]; exact HO1.out, G3.out⟩
      case round =>
        obtain ⟨i, hi, rfl, hI, hO, hG⟩ := hrel
        have HI := Lib.hid hI
        have HO := Lib.hid hO
        have HG := Lib.hid hG
        clear hI hO hG
        by_cases hlt : i < 64
        · obtain ⟨z, hz⟩ : ∃ z, Hid (z = bd y i) := ⟨_, rfl⟩
          have hx1 : bits .xor .u8 (z.toNat : Int) 54 = n8 (z ^^^ 54) := n8_xor z 54
          have hx2 : bits .xor .u8 (z.toNat : Int) 92 = n8 (z ^^^ 92) := n8_xor z 92
          have c1 := zTo_cell i HI.out hlt hyl hi
          have f1 := HI.out.frozen i
          have hI1 := HI.out.set_ i (.int .u8 (n8 (z ^^^ 54)))
          have hO1 := HO.out.setFar (p := ⟨g2, i, none⟩) (by simp [Value.ownBlock]; omega) (.int .u8 (n8 (z ^^^ 54)))
          have c2 := zTo_cell i hO1 hlt hyl hi
          have f2 := hO1.frozen i
          have hI2 := hI1.setFar (p := ⟨g1, i, none⟩) (by simp [Value.ownBlock]; omega) (.int .u8 (n8 (z ^^^ 92)))
          have hO2 := hO1.set_ i (.int .u8 (n8 (z ^^^ 92)))
          rw [cb_set', hz.out, zTo_set y 54 i hlt hyl, ← hz.out] at hI2
          rw [cb_set', hz.out, zTo_set y 92 i hlt hyl, ← hz.out] at hO2
          have hgf : Below w.heap.size w ((wr.setCell ⟨g2, i, none⟩ (.int .u8 (n8 (z ^^^ 54)))).setCell ⟨g1, i, none⟩ (.int .u8 (n8 (z ^^^ 92)))) :=
            below_of_only (below_of_only HG.out (only_set (only_refl _ (some g2)) (.inl rfl) _) (by omega) HG.out.size) (only_set (only_refl _ (some g1)) (.inl rfl) _) (by omega) (by simpa using HG.out.size)
          have HI2 := Lib.hid hI2
          have HO2' := Lib.hid hO2
          have HGF := Lib.hid hgf
          have hiI : (0 : Int) ≤ (i : Int) ∧ (i : Int) < 64 := by omega
          clear hI1 hO1 hI2 hO2 hgf
          by_cases hix : i < x.length
          · have hbl : ∀ h, (⟨x.toArray⟩ : ByteArray)[i]'h = z := fun h => by
              rw [hz.out, hy.out, key64_get_lt k i (by rw [← hx.out]; exact hix), ← hx.out]
              simp [bd, List.getD, List.getElem?_eq_getElem hix]
              rfl
            have hixI : (i : Int) < (x.length : Int) := by omega
            go_wp2_with fail
            go_roundw
            case rel => exact ⟨i + 1, by omega, by go_num, HI2.out, HO2'.out, HGF.out⟩
            case measure => simp [intOf]; omega
          · have hz0 : z = 0 := by rw [hz.out, hy.out, key64_get_ge k i (by rw [← hx.out]; omega)]
            have hixI : decide ((i : Int) < (x.length : Int)) = false := by simp; omega
            have hixN : decide (i < x.length) = false := by simp; omega
            have hxi : x.length ≤ i := by omega
            have hxiI : (x.length : Int) ≤ (i : Int) := by omega
            clear hix
            have hx3 : bits .xor .u8 0 54 = n8 (z ^^^ 54) := by rw [← hx1, hz0]; rfl
            have hx4 : bits .xor .u8 0 92 = n8 (z ^^^ 92) := by rw [← hx2, hz0]; rfl
            clear hx1 hx2 hz0
            go_wp2_with fail
            go_roundw
            case rel => exact ⟨i + 1, by omega, by go_num, HI2.out, HO2'.out, HGF.out⟩
            case measure => simp [intOf]; omega
        · obtain rfl : i = 64 := by omega
          rw [zTo_full y 54 hyl, hy.out, ← padL, ← hp.out] at HI
          rw [zTo_full y 92 hyl, hy.out, ← padL, ← hq.out] at HO
          have cI0 := my_own_string Tryd.underlying61 Tryd.underlying5 Tryd.underlying9 HI.out.drew
          have cO0 := my_own_string Tryd.underlying61 Tryd.underlying5 Tryd.underlying9 HO.out.drew
          clear hlt hi
          go_wp2_with fail
          go_region_with (first
            | (go_at_call_of 66 pt; refine (H1.out _).mono ?_; rintro e w9 ⟨rfl, b9⟩; have cO9 := my_own_string Tryd.underlying61 Tryd.underlying5 Tryd.underlying9 (HO.out.drew.below b9))
            | (go_at_call_of 66 qs; refine (H2.out _).mono ?_; rintro e w10 ⟨rfl, b10⟩))
          all_goals (go_wp2_with fail; go_ret; exact ⟨by rw [tagL, ← hp.out, ← hpt.out, ← hS.out, ← hq.out, ← hqs.out, ← hT.out]; rfl, (HG.out.drew.trans (b9.mono HG.out.size)).trans (b10.mono (HG.out.drew.trans (b9.mono HG.out.size)).size)⟩)
  · have h64i : decide ((64 : Int) < (k.length : Int)) = false := by simp; omega
    have hxk : x = k := by rw [hx.out, keyL, if_neg h64]
    subst hxk
    have B1 := Lib.hid (Below.refl w.heap.size w)
    obtain ⟨w2, hmk1, hown1, hgr1⟩ := own_make (B := w.heap.size) (t := 61) elemU8 w.drew .i64 .i64 64 (by omega) (by omega) B1.out.size
    have G2 : Below w.heap.size w w2 := B1.out.drew.grown hgr1 B1.out.size (fun k hk => by cases hk)
    obtain ⟨w3, hmk2, hown2, hgr2⟩ := own_make (B := w.heap.size) (t := 61) elemU8 w2 .i64 .i64 64 (by omega) (by omega) G2.size
    have G3 := Lib.hid (G2.grown hgr2 G2.size (fun k hk => by cases hk))
    obtain ⟨g1, hg1⟩ : ∃ g1, Hid (g1 = w.heap.size) := ⟨_, rfl⟩
    obtain ⟨g2, hg2⟩ : ∃ g2, Hid (g2 = w2.heap.size) := ⟨_, rfl⟩
    have hne : g1 < g2 := by rw [hg1.out, hg2.out]; simpa using (hown1.lt _ rfl).2
    have hB1 : w.heap.size ≤ g1 := by rw [hg1.out]; exact B1.out.size
    have hmk1 : (Instr.makeSlice 61 (.int .i64 64) (.int .i64 64)).run Tryd.prog w.drew = .ok (.slice (some ⟨g1, 0, none⟩) 64 64) w2 := by rw [hg1.out]; exact hmk1
    have hmk2 : (Instr.makeSlice 61 (.int .i64 64) (.int .i64 64)).run Tryd.prog w2 = .ok (.slice (some ⟨g2, 0, none⟩) 64 64) w3 := by rw [hg2.out]; exact hmk2
    have ho1 := hown1.grown hgr2 (.inr (by simp [Value.ownBlock]))
    rw [zeros64] at ho1 hown2
    have HO1 : Hid (Own 5 w3 w.heap.size (.slice (some ⟨g1, 0, none⟩) 64 64) (cb (List.replicate 64 0))) := Lib.hid (by rw [hg1.out]; exact ho1)
    have HO2 : Hid (Own 5 w3 w.heap.size (.slice (some ⟨g2, 0, none⟩) 64 64) (cb (List.replicate 64 0))) := Lib.hid (by rw [hg2.out]; exact hown2)
    clear hown1 hgr1 G2 hgr2 ho1 hown2
    go_wp2_with fail
    go_region
    · clear hmk1 hmk2
      go_wp2_with fail
      go_loopw [7, 8] (fun v7 v8 wx => ∃ i : Nat, i ≤ 64 ∧ v7 = .int .i64 i ∧ Own 5 wx w.heap.size (.slice (some ⟨g1, 0, none⟩) 64 64) (cb (zTo y 54 i)) ∧ Own 5 wx w.heap.size (.slice (some ⟨g2, 0, none⟩) 64 64) (cb (zTo y 92 i)) ∧ Below w.heap.size w wx) (fun v _ _ => 64 - (intOf v).toNat)
      case atStart => exact ⟨0, by omega, rfl, by rw [zTo_zero]; exact HO1.out, by rw [zTo_zero]; exact HO2.out, G3.out⟩
      case round =>
        obtain ⟨i, hi, rfl, hI, hO, hG⟩ := hrel
        have HI := Lib.hid hI
        have HO := Lib.hid hO
        have HG := Lib.hid hG
        clear hI hO hG
        by_cases hlt : i < 64
        · obtain ⟨z, hz⟩ : ∃ z, Hid (z = bd y i) := ⟨_, rfl⟩
          have hx1 : bits .xor .u8 (z.toNat : Int) 54 = n8 (z ^^^ 54) := n8_xor z 54
          have hx2 : bits .xor .u8 (z.toNat : Int) 92 = n8 (z ^^^ 92) := n8_xor z 92
          have c1 := zTo_cell i HI.out hlt hyl hi
          have f1 := HI.out.frozen i
          have hI1 := HI.out.set_ i (.int .u8 (n8 (z ^^^ 54)))
          have hO1 := HO.out.setFar (p := ⟨g1, i, none⟩) (by simp [Value.ownBlock]; omega) (.int .u8 (n8 (z ^^^ 54)))
          have c2 := zTo_cell i hO1 hlt hyl hi
          have f2 := hO1.frozen i
          have hI2 := hI1.setFar (p := ⟨g2, i, none⟩) (by simp [Value.ownBlock]; omega) (.int .u8 (n8 (z ^^^ 92)))
          have hO2 := hO1.set_ i (.int .u8 (n8 (z ^^^ 92)))
          rw [cb_set', hz.out, zTo_set y 54 i hlt hyl, ← hz.out] at hI2
          rw [cb_set', hz.out, zTo_set y 92 i hlt hyl, ← hz.out] at hO2
          have hgf : Below w.heap.size w ((wr.setCell ⟨g1, i, none⟩ (.int .u8 (n8 (z ^^^ 54)))).setCell ⟨g2, i, none⟩ (.int .u8 (n8 (z ^^^ 92)))) :=
            below_of_only (below_of_only HG.out (only_set (only_refl _ (some g1)) (.inl rfl) _) (by omega) HG.out.size) (only_set (only_refl _ (some g2)) (.inl rfl) _) (by omega) (by simpa using HG.out.size)
          have HI2 := Lib.hid hI2
          have HO2' := Lib.hid hO2
          have HGF := Lib.hid hgf
          have hiI : (0 : Int) ≤ (i : Int) ∧ (i : Int) < 64 := by omega
          clear hI1 hO1 hI2 hO2 hgf
          by_cases hix : i < x.length
          · have hbl : ∀ h, (⟨x.toArray⟩ : ByteArray)[i]'h = z := fun h => by
              rw [hz.out, hy.out, key64_get_lt x i (by rw [← hx.out]; exact hix), ← hx.out]
              simp [bd, List.getD, List.getElem?_eq_getElem hix]
              rfl
            have hixI : (i : Int) < (x.length : Int) := by omega
            go_wp2_with fail
            go_roundw
            case rel => exact ⟨i + 1, by omega, by go_num, HI2.out, HO2'.out, HGF.out⟩
            case measure => simp [intOf]; omega
          · have hz0 : z = 0 := by rw [hz.out, hy.out, key64_get_ge x i (by rw [← hx.out]; omega)]
            have hixI : decide ((i : Int) < (x.length : Int)) = false := by simp; omega
            have hixN : decide (i < x.length) = false := by simp; omega
            have hxi : x.length ≤ i := by omega
            have hxiI : (x.length : Int) ≤ (i : Int) := by omega
            clear hix
            have hx3 : bits .xor .u8 0 54 = n8 (z ^^^ 54) := by rw [← hx1, hz0]; rfl
            have hx4 : bits .xor .u8 0 92 = n8 (z ^^^ 92) := by rw [← hx2, hz0]; rfl
            clear hx1 hx2 hz0
            go_wp2_with fail
            go_roundw
            case rel => exact ⟨i + 1, by omega, by go_num, HI2.out, HO2'.out, HGF.out⟩
            case measure => simp [intOf]; omega
        · obtain rfl : i = 64 := by omega
          rw [zTo_full y 54 hyl, hy.out, ← padL, ← hp.out] at HI
          rw [zTo_full y 92 hyl, hy.out, ← padL, ← hq.out] at HO
          have cI0 := my_own_string Tryd.underlying61 Tryd.underlying5 Tryd.underlying9 HI.out.drew
          have cO0 := my_own_string Tryd.underlying61 Tryd.underlying5 Tryd.underlying9 HO.out.drew
          clear hlt hi
          go_wp2_with fail
          go_region_with (first
            | (go_at_call_of 66 pt; refine (H1.out _).mono ?_; rintro e w9 ⟨rfl, b9⟩; have cO9 := my_own_string Tryd.underlying61 Tryd.underlying5 Tryd.underlying9 (HO.out.drew.below b9))
            | (go_at_call_of 66 qs; refine (H2.out _).mono ?_; rintro e w10 ⟨rfl, b10⟩))
          all_goals (go_wp2_with fail; go_ret; exact ⟨by rw [tagL, ← hp.out, ← hpt.out, ← hS.out, ← hq.out, ← hqs.out, ← hT.out]; rfl, (HG.out.drew.trans (b9.mono HG.out.size)).trans (b10.mono (HG.out.drew.trans (b9.mono HG.out.size)).size)⟩)
    · clear hmk1 hmk2
      go_wp2_with fail
      go_loopw [7, 8] (fun v7 v8 wx => ∃ i : Nat, i ≤ 64 ∧ v7 = .int .i64 i ∧ Own 5 wx w.heap.size (.slice (some ⟨g2, 0, none⟩) 64 64) (cb (zTo y 54 i)) ∧ Own 5 wx w.heap.size (.slice (some ⟨g1, 0, none⟩) 64 64) (cb (zTo y 92 i)) ∧ Below w.heap.size w wx) (fun v _ _ => 64 - (intOf v).toNat)
      case atStart => exact ⟨0, by omega, rfl, by rw [zTo_zero]; exact HO2.out, by rw [zTo_zero]; exact HO1.out, G3.out⟩
      case round =>
        obtain ⟨i, hi, rfl, hI, hO, hG⟩ := hrel
        have HI := Lib.hid hI
        have HO := Lib.hid hO
        have HG := Lib.hid hG
        clear hI hO hG
        by_cases hlt : i < 64
        · obtain ⟨z, hz⟩ : ∃ z, Hid (z = bd y i) := ⟨_, rfl⟩
          have hx1 : bits .xor .u8 (z.toNat : Int) 54 = n8 (z ^^^ 54) := n8_xor z 54
          have hx2 : bits .xor .u8 (z.toNat : Int) 92 = n8 (z ^^^ 92) := n8_xor z 92
          have c1 := zTo_cell i HI.out hlt hyl hi
          have f1 := HI.out.frozen i
          have hI1 := HI.out.set_ i (.int .u8 (n8 (z ^^^ 54)))
          have hO1 := HO.out.setFar (p := ⟨g2, i, none⟩) (by simp [Value.ownBlock]; omega) (.int .u8 (n8 (z ^^^ 54)))
          have c2 := zTo_cell i hO1 hlt hyl hi
          have f2 := hO1.frozen i
          have hI2 := hI1.setFar (p := ⟨g1, i, none⟩) (by simp [Value.ownBlock]; omega) (.int .u8 (n8 (z ^^^ 92)))
          have hO2 := hO1.set_ i (.int .u8 (n8 (z ^^^ 92)))
          rw [cb_set', hz.out, zTo_set y 54 i hlt hyl, ← hz.out] at hI2
          rw [cb_set', hz.out, zTo_set y 92 i hlt hyl, ← hz.out] at hO2
          have hgf : Below w.heap.size w ((wr.setCell ⟨g2, i, none⟩ (.int .u8 (n8 (z ^^^ 54)))).setCell ⟨g1, i, none⟩ (.int .u8 (n8 (z ^^^ 92)))) :=
            below_of_only (below_of_only HG.out (only_set (only_refl _ (some g2)) (.inl rfl) _) (by omega) HG.out.size) (only_set (only_refl _ (some g1)) (.inl rfl) _) (by omega) (by simpa using HG.out.size)
          have HI2 := Lib.hid hI2
          have HO2' := Lib.hid hO2
          have HGF := Lib.hid hgf
          have hiI : (0 : Int) ≤ (i : Int) ∧ (i : Int) < 64 := by omega
          clear hI1 hO1 hI2 hO2 hgf
          by_cases hix : i < x.length
          · have hbl : ∀ h, (⟨x.toArray⟩ : ByteArray)[i]'h = z := fun h => by
              rw [hz.out, hy.out, key64_get_lt x i (by rw [← hx.out]; exact hix), ← hx.out]
              simp [bd, List.getD, List.getElem?_eq_getElem hix]
              rfl
            have hixI : (i : Int) < (x.length : Int) := by omega
            go_wp2_with fail
            go_roundw
            case rel => exact ⟨i + 1, by omega, by go_num, HI2.out, HO2'.out, HGF.out⟩
            case measure => simp [intOf]; omega
          · have hz0 : z = 0 := by rw [hz.out, hy.out, key64_get_ge x i (by rw [← hx.out]; omega)]
            have hixI : decide ((i : Int) < (x.length : Int)) = false := by simp; omega
            have hixN : decide (i < x.length) = false := by simp; omega
            have hxi : x.length ≤ i := by omega
            have hxiI : (x.length : Int) ≤ (i : Int) := by omega
            clear hix
            have hx3 : bits .xor .u8 0 54 = n8 (z ^^^ 54) := by rw [← hx1, hz0]; rfl
            have hx4 : bits .xor .u8 0 92 = n8 (z ^^^ 92) := by rw [← hx2, hz0]; rfl
            clear hx1 hx2 hz0
            go_wp2_with fail
            go_roundw
            case rel => exact ⟨i + 1, by omega, by go_num, HI2.out, HO2'.out, HGF.out⟩
            case measure => simp [intOf]; omega
        · obtain rfl : i = 64 := by omega
          rw [zTo_full y 54 hyl, hy.out, ← padL, ← hp.out] at HI
          rw [zTo_full y 92 hyl, hy.out, ← padL, ← hq.out] at HO
          have cI0 := my_own_string Tryd.underlying61 Tryd.underlying5 Tryd.underlying9 HI.out.drew
          have cO0 := my_own_string Tryd.underlying61 Tryd.underlying5 Tryd.underlying9 HO.out.drew
          clear hlt hi
          go_wp2_with fail
          go_region_with (first
            | (go_at_call_of 66 pt; refine (H1.out _).mono ?_; rintro e w9 ⟨rfl, b9⟩; have cO9 := my_own_string Tryd.underlying61 Tryd.underlying5 Tryd.underlying9 (HO.out.drew.below b9))
            | (go_at_call_of 66 qs; refine (H2.out _).mono ?_; rintro e w10 ⟨rfl, b10⟩))
          all_goals (go_wp2_with fail; go_ret; exact ⟨by rw [tagL, ← hp.out, ← hpt.out, ← hS.out, ← hq.out, ← hqs.out, ← hT.out]; rfl, (HG.out.drew.trans (b9.mono HG.out.size)).trans (b10.mono (HG.out.drew.trans (b9.mono HG.out.size)).size)⟩)
end Go.Proofs.YtjmgkjjcdnaapaaDoor
namespace Go.Proofs.YtjmgkjjcdnaapaaDoor
open Go.RowKit Go.Proofs.YtjmgkjjcdnaapaaDoor.PMailA Go.Proofs.YtjmgkjjcdnaapaaDoorW.PrintWords Go.Proofs.YtjmgkjjcdnaapaaDoorW.PrintLast Go.Proofs.YtjmgkjjcdnaapaaDoorW.PrintMore
set_option linter.unusedSimpArgs false
set_option linter.unusedVariables false
set_option maxRecDepth 20000
def z32 : List UInt8 := List.replicate 32 0
/-- a pull or an ack that may be. -/
def May (kd u q : Int) (text tag : ByteArray) (ls : List S68) (li : List ByteArray) : Prop := (kd = 2 ∨ kd = 4) ∧ Good kd u q text tag ls li
theorem Ev.same {α : Type} {g : Nat → Option α} {a b : α} (h : Ev g a) (k : Ev g b) : a = b := by
  obtain ⟨K, h⟩ := h
  obtain ⟨L, k⟩ := k
  have h1 := h (max K L) (Nat.le_max_left _ _)
  rw [k (max K L) (Nat.le_max_right _ _)] at h1
  exact (Option.some.inj h1).symm
theorem rep0' : strings_Repeat.f (⟨#[0]⟩ : ByteArray) 32 = some (tx z32) := by decide +kernel
theorem plain_gen (kd u q : Int) (text tag : ByteArray) (ls : List S68) (li : List ByteArray) :
    ∃ k s e, gate_plain.f k kd u q text tag ls li = some (tx s, e) ∧ ((e = 0 ∧ May kd u q text (tx z32) ls li ∧ s = encL kd u q text (tx z32) ls li) ∨ (e = 110 ∧ ¬ May kd u q text (tx z32) ls li ∧ s = [])) := by
  by_cases hk : kd = 2 ∨ kd = 4
  · rcases enc_any kd u q text (tx z32) ls li with ⟨h, g⟩ | h
    · obtain ⟨k, hk'⟩ := h.rounds
      refine ⟨k, _, 0, ?_, .inl ⟨rfl, ⟨hk, g⟩, rfl⟩⟩
      unfold gate_plain.f
      rw [rep0']
      simp only [Option.bind_some]
      rcases hk with rfl | rfl
      · rw [if_pos rfl, hk']; rfl
      · rw [if_neg (by decide), if_pos rfl, hk']; rfl
    · obtain ⟨k, hk'⟩ := h.rounds
      refine ⟨k, [], 110, ?_, .inr ⟨rfl, fun ⟨_, g⟩ => ?_, rfl⟩⟩
      · unfold gate_plain.f
        rw [rep0']
        simp only [Option.bind_some]
        rcases hk with rfl | rfl
        · rw [if_pos rfl, hk']; rfl
        · rw [if_neg (by decide), if_pos rfl, hk']; rfl
      · have h2 := enc_good (Ev.of (fun k => mail_Check.mono _ _ _ _ _ _ _ k) (chk_good g)) g
        have := Ev.same h h2
        simp only [Prod.mk.injEq] at this
        exact absurd this.2 (by decide)
  · refine ⟨0, [], 110, ?_, .inr ⟨rfl, fun h => hk h.1, rfl⟩⟩
    unfold gate_plain.f
    rw [rep0']
    simp only [Option.bind_some]
    rw [if_neg (fun h => hk (.inl h)), if_neg (fun h => hk (.inr h))]
    rfl
theorem may_gen (kd u q : Int) (text tag : ByteArray) (ls : List S68) (li : List ByteArray) (hl : li.length ≤ 9223372036854775807) :
    (May kd u q text tag ls li ∧ ∃ k, dovecoteref20_may.f k kd u q text tag ls li = some true) ∨ (¬ May kd u q text tag ls li ∧ ∃ k, dovecoteref20_may.f k kd u q text tag ls li = some false) := by
  by_cases hk : kd = 2 ∨ kd = 4
  · rcases refchk kd u q text tag ls li hl with ⟨h, g⟩ | ⟨h, g⟩
    · obtain ⟨k, hk'⟩ := h.rounds
      refine .inl ⟨⟨hk, g⟩, k, ?_⟩
      unfold dovecoteref20_may.f
      rcases hk with rfl | rfl
      · rw [if_pos rfl, hk']; rfl
      · rw [if_neg (by decide), if_pos rfl, hk']; rfl
    · obtain ⟨k, hk'⟩ := h.rounds
      refine .inr ⟨fun h => g h.2, k, ?_⟩
      unfold dovecoteref20_may.f
      rcases hk with rfl | rfl
      · rw [if_pos rfl, hk']; rfl
      · rw [if_neg (by decide), if_pos rfl, hk']; rfl
  · refine .inr ⟨fun h => hk h.1, 0, ?_⟩
    unfold dovecoteref20_may.f
    rw [if_neg (fun h => hk (.inl h)), if_neg (fun h => hk (.inr h))]
theorem May.length {kd u q : Int} {text tag : ByteArray} {ls : List S68} {li : List ByteArray} (h : May kd u q text tag ls li) : (encL kd u q text tag ls li).length ≤ 102 := by
  have hl := h.2.long
  rcases h.1 with rfl | rfl
  · have : mail_Long.f 2 = some 38 := by decide
    rw [this] at hl
    simp only [Option.some.injEq] at hl
    omega
  · have : mail_Long.f 4 = some 102 := by decide
    rw [this] at hl
    simp only [Option.some.injEq] at hl
    omega
set_option maxHeartbeats 800000 in
theorem blank_any (kd u q : Int) (text tag : ByteArray) (A5 : Option Addr) (n5 c5 : Nat) (A6 : Option Addr) (n6 c6 : Nat) (w : World) :
    Calls Tryd.prog 30 #[.agg #[.int .i64 kd, .int .i64 u, .int .i64 q, .string text, .string tag, .slice A5 n5 c5, .slice A6 n6 c6]] w fun e w' => e = .returned (.agg #[.int .i64 kd, .int .i64 u, .int .i64 q, .string text, .string (tx z32), .slice A5 n5 c5, .slice A6 n6 c6]) ∧ Below w.heap.size w w' := by
  go_enter Tryd.func30, Tryd.ntmps30
  go_upto_region 1 with fail
  obtain ⟨b, hb⟩ : ∃ b, Hid (w.heap.size = b) := ⟨_, Lib.hid rfl⟩
  obtain ⟨r, hr⟩ : ∃ b, Hid (w.heap.size + 1 = b) := ⟨_, Lib.hid rfl⟩
  refine gworld (fun W => Hid (SgH w W b r #[.int .i64 kd, .int .i64 u, .int .i64 q, .string text, .string tag, .slice A5 n5 c5, .slice A6 n6 c6] zMl)) (Lib.hid (by rw [← hb.out, ← hr.out]; exact SgH.start _ _ _)) ?_
  rw [hr.out, hb.out]
  intro w1 D1
  obtain ⟨w2, hmk0, hown, hgr⟩ := own_make (B := w1.heap.size) (t := 61) elemU8 w1 .i64 .i64 32 (by decide) (by decide) (Nat.le_refl _)
  have hmk : (Instr.makeSlice 61 (.int .i64 32) (.int .i64 32)).run Tryd.prog w1 = .ok (.slice (some ⟨w1.heap.size, 0, none⟩) 32 32) w2 := hmk0
  have hown' : Own 5 w2 w1.heap.size (.slice (some ⟨w1.heap.size, 0, none⟩) 32 32) (cb (List.replicate 32 0)) := hown
  have hcv : (convert 61 9 (.slice (some ⟨w1.heap.size, 0, none⟩) 32 32)).run Tryd.prog w2 = .ok (.string (tx z32)) w2 := my_own_string Tryd.underlying61 Tryd.underlying5 Tryd.underlying9 hown'
  have D2 := Lib.hid (D1.out.below ((Below.refl _ _).grown hgr (Nat.le_refl _) (fun k hk => by cases hk)))
  obtain ⟨z, hz⟩ : ∃ z : ByteArray, Hid (tx z32 = z) := ⟨_, Lib.hid rfl⟩
  rw [hz.out] at hcv
  have f4 := D2.out.m.frozen 4
  have m4 : w2.cell? ⟨b, 4, none⟩ = some (.string tag) := D2.out.m.cell 4
  clear hmk0 hown hgr hown' D1
  go_upto_region 2 with fail
  refine gworld (fun W => Hid (SgH w W b r #[.int .i64 kd, .int .i64 u, .int .i64 q, .string text, .string z, .slice A5 n5 c5, .slice A6 n6 c6] zMl)) (Lib.hid (D2.out.put 4 _)) ?_
  clear hcv hmk f4 m4 D2
  intro w3 D3
  have m0 : w3.cell? ⟨b, 0, none⟩ = some (.int .i64 kd) := D3.out.m.cell 0
  have m1 : w3.cell? ⟨b, 1, none⟩ = some (.int .i64 u) := D3.out.m.cell 1
  have m2 : w3.cell? ⟨b, 2, none⟩ = some (.int .i64 q) := D3.out.m.cell 2
  have m3 : w3.cell? ⟨b, 3, none⟩ = some (.string text) := D3.out.m.cell 3
  have m4 : w3.cell? ⟨b, 4, none⟩ = some (.string z) := D3.out.m.cell 4
  have m5 : w3.cell? ⟨b, 5, none⟩ = some (.slice A5 n5 c5) := D3.out.m.cell 5
  have m6 : w3.cell? ⟨b, 6, none⟩ = some (.slice A6 n6 c6) := D3.out.m.cell 6
  have HZ := Lib.hid D3.out.z
  go_wp2_with (first
    | ((with_reducible refine gate_store (t := 25) (p := 2) (v := .tmp 6) rfl ?_); refine wpList_store_row rfl 25 (.tmp 2) (.tmp 6) rfl r #[.int .i64 kd, .int .i64 u, .int .i64 q, .string text, .string z, .slice A5 n5 c5, .slice A6 n6 c6] rfl rfl 25 zMl HZ.out size_mail rfl (one_mail _ _ _ _ _ _ _ _ _ _ _) ?_))
  have D9 := Lib.hid (D3.out.row #[.int .i64 kd, .int .i64 u, .int .i64 q, .string text, .string z, .slice A5 n5 c5, .slice A6 n6 c6])
  refine bodyPost_ret (results_cell_row rfl _ _ r 25 _ (0, 0) _ rfl D9.out.z Tryd.underlying25 rfl rfl) rfl ?_
  exact ⟨by rw [hz.out], D9.out.b0⟩
set_option maxHeartbeats 800000 in
theorem rtag_any (key : List UInt8) (kd u q : Int) (text tag : ByteArray) (A5 : Option Addr) (c5 : Nat) (l5 : List S68) (A6 : Option Addr) (c6 : Nat) (l6 : List ByteArray) (w : World) (h5 : Cp k68 w A5 c5 l5) (h6 : Cp Kd.string w A6 c6 l6)
    (g : May kd u q text (tx z32) l5 l6) (hkl : key.length ≤ 1000000) :
    Calls Tryd.prog 31 #[.string ⟨key.toArray⟩, .agg #[.int .i64 kd, .int .i64 u, .int .i64 q, .string text, .string tag, .slice A5 l5.length c5, .slice A6 l6.length c6]] w fun e w' => e = .returned (.string ⟨(tagL key (gateL ++ encL kd u q text (tx z32) l5 l6)).toArray⟩) ∧ Below w.heap.size w w' := by
  obtain ⟨k, hk⟩ := (text_ev g.2).rounds
  obtain ⟨E, hE⟩ : ∃ E, Hid (encL kd u q text (tx z32) l5 l6 = E) := ⟨_, Lib.hid rfl⟩
  have HEL := Lib.hid (show E.length ≤ 102 by rw [← hE.out]; exact g.length)
  rw [hE.out] at hk ⊢
  have HT := Lib.hid hk
  have HTAG := Lib.hid (fun W => refTag_any key (gateL ++ E) W (by omega) (by have := HEL.out; simp [gateL]; omega))
  obtain ⟨kb, KB⟩ : ∃ t : ByteArray, Hid (⟨key.toArray⟩ = t) := ⟨_, Lib.hid rfl⟩
  obtain ⟨R, HR⟩ : ∃ R : ByteArray, Hid (⟨(tagL key (gateL ++ E)).toArray⟩ = R) := ⟨_, Lib.hid rfl⟩
  rw [KB.out, HR.out] at HTAG
  rw [KB.out, HR.out]
  have H5 := Lib.hid h5
  have H6 := Lib.hid h6
  clear h5 h6 g hkl hk
  go_enter Tryd.func31, Tryd.ntmps31
  go_upto_region 1 with fail
  obtain ⟨b, hb⟩ : ∃ b, Hid (w.heap.size = b) := ⟨_, Lib.hid rfl⟩
  refine gworld (fun W => Hid (Blk W b 25 #[.int .i64 kd, .int .i64 u, .int .i64 q, .string text, .string tag, .slice A5 l5.length c5, .slice A6 l6.length c6]) ∧ Hid (Below w.heap.size w W)) ⟨Lib.hid (by rw [← hb.out]; exact Blk.new _ _ _), Lib.hid ((Below.refl _ _).alloc (Nat.le_refl _) _)⟩ ?_
  rintro w1 ⟨M1, B1⟩
  rw [hb.out]
  have m0 : w1.cell? ⟨b, 0, none⟩ = some (.int .i64 kd) := M1.out.cell 0
  have m1 : w1.cell? ⟨b, 1, none⟩ = some (.int .i64 u) := M1.out.cell 1
  have m2 : w1.cell? ⟨b, 2, none⟩ = some (.int .i64 q) := M1.out.cell 2
  have m3 : w1.cell? ⟨b, 3, none⟩ = some (.string text) := M1.out.cell 3
  have m4 : w1.cell? ⟨b, 4, none⟩ = some (.string tag) := M1.out.cell 4
  have m5 : w1.cell? ⟨b, 5, none⟩ = some (.slice A5 l5.length c5) := M1.out.cell 5
  have m6 : w1.cell? ⟨b, 6, none⟩ = some (.slice A6 l6.length c6) := M1.out.cell 6
  go_wp2_with fail
  refine (blank_any kd u q text tag A5 l5.length c5 A6 l6.length c6 w1).mono ?_
  rintro e w2 ⟨rfl, b2⟩
  have B2 := Lib.hid (B1.out.trans (b2.mono B1.out.size))
  have H52 := Lib.hid (H5.out.below B2.out)
  have H62 := Lib.hid (H6.out.below B2.out)
  clear b2 m0 m1 m2 m3 m4 m5 m6 B1 M1
  obtain ⟨z, HZ⟩ : ∃ z, Hid (tx z32 = z) := ⟨_, Lib.hid rfl⟩
  rw [HZ.out] at HT ⊢
  go_wp2_with fail
  refine (dovecoteref11_Text.calls k kd u q text z A5 c5 l5 A6 c6 l6 _ w2 H52.out.C H52.out.le H62.out.C H62.out.le HT.out).mono ?_
  rintro e w3 ⟨rfl, b3⟩
  have B3 := Lib.hid (B2.out.trans (b3.mono B2.out.size))
  have hcat : (⟨#[103, 97, 116, 101]⟩ : ByteArray) ++ tx E = ⟨(gateL ++ E).toArray⟩ := cat_eq gateL E
  have hsz : ¬ (9223372036854775807 < 4 + E.length) := by have := HEL.out; omega
  have hsz2 : (tx E).size = E.length := tx_size E
  clear b3 B2 H52 H62
  go_wp2_with fail
  refine (HTAG.out w3).mono ?_
  rintro e w4 ⟨rfl, b4⟩
  have B4 := Lib.hid (B3.out.trans (b4.mono B3.out.size))
  clear b4 B3 hcat hsz hsz2
  go_wp2_with fail
  go_ret
  exact ⟨rfl, B4.out⟩
set_option maxHeartbeats 3200000 in
theorem rsign_any (key : List UInt8) (kd u q : Int) (text tag : ByteArray) (A5 : Option Addr) (c5 : Nat) (l5 : List S68) (A6 : Option Addr) (c6 : Nat) (l6 : List ByteArray) (er : Int) (w : World) (h5 : Cp k68 w A5 c5 l5) (h6 : Cp Kd.string w A6 c6 l6)
    (her : (key.length ≠ 32 ∧ er = 3) ∨ (key.length = 32 ∧ ¬ May kd u q text (tx z32) l5 l6 ∧ er = 110) ∨ (key.length = 32 ∧ May kd u q text (tx z32) l5 l6 ∧ er = 0)) :
    Calls Tryd.prog 10 #[.string ⟨key.toArray⟩, .agg #[.int .i64 kd, .int .i64 u, .int .i64 q, .string text, .string tag, .slice A5 l5.length c5, .slice A6 l6.length c6]] w fun e w' => SgOut w w' kd u q text ⟨(tagL key (gateL ++ encL kd u q text (tx z32) l5 l6)).toArray⟩ l5 l6 er e := by
  have H5 := Lib.hid h5
  have H6 := Lib.hid h6
  have HER := Lib.hid her
  have HL6 := Lib.hid h6.C.2.1
  obtain ⟨kb, KB⟩ : ∃ t : ByteArray, Hid (⟨key.toArray⟩ = t) := ⟨_, Lib.hid rfl⟩
  have hkb : (kb.size : Int) = (key.length : Int) := by rw [← KB.out]; simp [ByteArray.size]
  rw [KB.out]
  clear h5 h6 her
  go_enter Tryd.func10, Tryd.ntmps10
  go_upto_region 1 with fail
  obtain ⟨b, hb⟩ : ∃ b, Hid (w.heap.size = b) := ⟨_, Lib.hid rfl⟩
  obtain ⟨r, hr⟩ : ∃ b, Hid (w.heap.size + 1 = b) := ⟨_, Lib.hid rfl⟩
  refine gworld (fun W => Hid (SgH w W b r #[.int .i64 kd, .int .i64 u, .int .i64 q, .string text, .string tag, .slice A5 l5.length c5, .slice A6 l6.length c6] zMl)) (Lib.hid (by rw [← hb.out, ← hr.out]; exact SgH.start _ _ _)) ?_
  rw [hr.out, hb.out]
  intro w1 D1
  by_cases hkey : key.length = 32
  · have ht : ((kb.size : Int) != 32) = false := bne_eq_false_iff_eq.mpr (by rw [hkb]; omega)
    have HKEY := Lib.hid hkey
    clear hkb hkey
    have m0 : w1.cell? ⟨b, 0, none⟩ = some (.int .i64 kd) := D1.out.m.cell 0
    have m1 : w1.cell? ⟨b, 1, none⟩ = some (.int .i64 u) := D1.out.m.cell 1
    have m2 : w1.cell? ⟨b, 2, none⟩ = some (.int .i64 q) := D1.out.m.cell 2
    have m3 : w1.cell? ⟨b, 3, none⟩ = some (.string text) := D1.out.m.cell 3
    have m4 : w1.cell? ⟨b, 4, none⟩ = some (.string tag) := D1.out.m.cell 4
    have m5 : w1.cell? ⟨b, 5, none⟩ = some (.slice A5 l5.length c5) := D1.out.m.cell 5
    have m6 : w1.cell? ⟨b, 6, none⟩ = some (.slice A6 l6.length c6) := D1.out.m.cell 6
    go_wp2_with fail
    refine (blank_any kd u q text tag A5 l5.length c5 A6 l6.length c6 w1).mono ?_
    rintro e w2 ⟨rfl, b2⟩
    have D2 := Lib.hid (D1.out.below b2)
    have H52 := Lib.hid (H5.out.below D2.out.b0)
    have H62 := Lib.hid (H6.out.below D2.out.b0)
    clear b2 m0 m1 m2 m3 m4 m5 m6 D1
    obtain ⟨z, HZ⟩ : ∃ z, Hid (tx z32 = z) := ⟨_, Lib.hid rfl⟩
    rw [HZ.out]
    go_wp2_with fail
    rcases may_gen kd u q text (tx z32) l5 l6 HL6.out with ⟨hm, k, hk⟩ | ⟨hm, k, hk⟩
    · have HM := Lib.hid hm
      have HE := Lib.hid (show er = 0 by rcases HER.out with h | h | h; exact absurd HKEY.out h.1; exact absurd HM.out h.2.1; exact h.2.2)
      rw [HZ.out] at hk
      have HKM := Lib.hid hk
      clear hm hk
      refine (dovecoteref20_may.calls k kd u q text z A5 c5 l5 A6 c6 l6 true w2 H52.out.C H52.out.le H62.out.C H62.out.le HKM.out).mono ?_
      rintro e w3 ⟨rfl, b3⟩
      have D3 := Lib.hid (D2.out.below b3)
      have H53 := Lib.hid (H52.out.below b3)
      have H63 := Lib.hid (H62.out.below b3)
      clear b3 D2 H52 H62
      try simp only [Bool.not_true]
      have m0 : w3.cell? ⟨b, 0, none⟩ = some (.int .i64 kd) := D3.out.m.cell 0
      have m1 : w3.cell? ⟨b, 1, none⟩ = some (.int .i64 u) := D3.out.m.cell 1
      have m2 : w3.cell? ⟨b, 2, none⟩ = some (.int .i64 q) := D3.out.m.cell 2
      have m3 : w3.cell? ⟨b, 3, none⟩ = some (.string text) := D3.out.m.cell 3
      have m4 : w3.cell? ⟨b, 4, none⟩ = some (.string tag) := D3.out.m.cell 4
      have m5 : w3.cell? ⟨b, 5, none⟩ = some (.slice A5 l5.length c5) := D3.out.m.cell 5
      have m6 : w3.cell? ⟨b, 6, none⟩ = some (.slice A6 l6.length c6) := D3.out.m.cell 6
      have HTG := Lib.hid (fun W h5 h6 => rtag_any key kd u q text tag A5 c5 l5 A6 c6 l6 W h5 h6 HM.out (by have := HKEY.out; omega))
      obtain ⟨T, ET⟩ : ∃ T : ByteArray, Hid (⟨(tagL key (gateL ++ encL kd u q text (tx z32) l5 l6)).toArray⟩ = T) := ⟨_, Lib.hid rfl⟩
      rw [KB.out, ET.out] at HTG
      go_wp2_with fail
      refine (HTG.out w3 H53.out H63.out).mono ?_
      rintro e w4 ⟨rfl, b4⟩
      have D4 := Lib.hid (D3.out.below b4)
      have H54 := Lib.hid (H53.out.below b4)
      have H64 := Lib.hid (H63.out.below b4)
      clear b4 D3 H53 H63 m0 m1 m2 m3 m4 m5 m6 HTG
      have f4 := D4.out.m.frozen 4
      have m4 : w4.cell? ⟨b, 4, none⟩ = some (.string tag) := D4.out.m.cell 4
      go_upto_region 6 with fail
      refine gworld (fun W => Hid (SgH w W b r #[.int .i64 kd, .int .i64 u, .int .i64 q, .string text, .string T, .slice A5 l5.length c5, .slice A6 l6.length c6] zMl)) (Lib.hid (D4.out.put 4 _)) ?_
      clear f4 m4 D4
      intro w5 D5
      have m0 : w5.cell? ⟨b, 0, none⟩ = some (.int .i64 kd) := D5.out.m.cell 0
      have m1 : w5.cell? ⟨b, 1, none⟩ = some (.int .i64 u) := D5.out.m.cell 1
      have m2 : w5.cell? ⟨b, 2, none⟩ = some (.int .i64 q) := D5.out.m.cell 2
      have m3 : w5.cell? ⟨b, 3, none⟩ = some (.string text) := D5.out.m.cell 3
      have m4 : w5.cell? ⟨b, 4, none⟩ = some (.string T) := D5.out.m.cell 4
      have m5 : w5.cell? ⟨b, 5, none⟩ = some (.slice A5 l5.length c5) := D5.out.m.cell 5
      have m6 : w5.cell? ⟨b, 6, none⟩ = some (.slice A6 l6.length c6) := D5.out.m.cell 6
      have HZZ := Lib.hid D5.out.z
      go_wp2_with (first
        | ((with_reducible refine gate_store (t := 25) (p := 4) (v := .tmp 19) rfl ?_); refine wpList_store_row rfl 25 (.tmp 4) (.tmp 19) rfl r #[.int .i64 kd, .int .i64 u, .int .i64 q, .string text, .string T, .slice A5 l5.length c5, .slice A6 l6.length c6] rfl rfl 25 zMl HZZ.out size_mail rfl (one_mail _ _ _ _ _ _ _ _ _ _ _) ?_))
      have D9 := Lib.hid (D5.out.row #[.int .i64 kd, .int .i64 u, .int .i64 q, .string text, .string T, .slice A5 l5.length c5, .slice A6 l6.length c6])
      refine bodyPost_ret (results_ct rfl _ _ r 25 _ (0, 0) _ rfl D9.out.z Tryd.underlying25 rfl rfl) rfl ?_
      refine ⟨D9.out.b0, _, by rw [HE.out]; rfl, fun h => absurd HE.out h, fun _ => ⟨A5, c5, A6, c6, by rw [ET.out], H5.out.below D9.out.b0, H6.out.below D9.out.b0⟩⟩
    · have HM := Lib.hid hm
      have HE := Lib.hid (show er = 110 by rcases HER.out with h | h | h; exact absurd HKEY.out h.1; exact h.2.2; exact absurd h.2.1 HM.out)
      rw [HZ.out] at hk
      have HKM := Lib.hid hk
      clear hm hk
      refine (dovecoteref20_may.calls k kd u q text z A5 c5 l5 A6 c6 l6 false w2 H52.out.C H52.out.le H62.out.C H62.out.le HKM.out).mono ?_
      rintro e w3 ⟨rfl, b3⟩
      have D3 := Lib.hid (D2.out.below b3)
      clear b3 D2 H52 H62
      try simp only [Bool.not_false]
      have HZZ := Lib.hid D3.out.z
      go_wp2_with (first
        | ((with_reducible refine gate_store (t := 25) (p := 4) (v := .tmp 14) rfl ?_); refine wpList_store_row rfl 25 (.tmp 4) (.tmp 14) rfl r zMl rfl rfl 25 zMl HZZ.out size_mail rfl (one_mail _ _ _ _ _ _ _ _ _ _ _) ?_))
      have D9 := Lib.hid (D3.out.row zMl)
      refine bodyPost_ret (results_ct rfl _ _ r 25 _ (0, 0) _ rfl D9.out.z Tryd.underlying25 rfl rfl) rfl ?_
      exact ⟨D9.out.b0, _, by rw [HE.out]; rfl, fun _ => rfl, fun h => by rw [HE.out] at h; cases h⟩
  · have ht : ((kb.size : Int) != 32) = true := bne_iff_ne.mpr (by rw [hkb]; omega)
    have HE := Lib.hid (show er = 3 by rcases HER.out with h | h | h; exact h.2; exact absurd h.1 hkey; exact absurd h.1 hkey)
    clear hkb hkey
    have HZZ := Lib.hid D1.out.z
    go_wp2_with (first
      | ((with_reducible refine gate_store (t := 25) (p := 4) (v := .tmp 9) rfl ?_); refine wpList_store_row rfl 25 (.tmp 4) (.tmp 9) rfl r zMl rfl rfl 25 zMl HZZ.out size_mail rfl (one_mail _ _ _ _ _ _ _ _ _ _ _) ?_))
    have D9 := Lib.hid (D1.out.row zMl)
    refine bodyPost_ret (results_ct rfl _ _ r 25 _ (0, 0) _ rfl D9.out.z Tryd.underlying25 rfl rfl) rfl ?_
    exact ⟨D9.out.b0, _, by rw [HE.out]; rfl, fun _ => rfl, fun h => by rw [HE.out] at h; cases h⟩
end Go.Proofs.YtjmgkjjcdnaapaaDoor
namespace Go.Proofs.YtjmgkjjcdnaapaaDoor
open Go.RowKit Go.Proofs.YtjmgkjjcdnaapaaDoor.PMailA Go.Proofs.YtjmgkjjcdnaapaaDoorW.PrintWords Go.Proofs.YtjmgkjjcdnaapaaDoorW.PrintLast Go.Proofs.YtjmgkjjcdnaapaaDoorW.PrintMore
set_option linter.unusedSimpArgs false
set_option linter.unusedVariables false
theorem slots_same2 (l : List S68) (hl : l.length ≤ 9000000000000000) (d : Nat) : ∀ i, i + d = l.length → Ev (fun k => dovecotebook_SameSlots.l0 k l l (i : Int)) true := by
  induction d with
  | zero =>
    intro i hi
    refine Ev.step (f := fun _ => some true) (fun k => ?_) (Ev.now _)
    simp only [dovecotebook_SameSlots.l0]
    rw [if_neg (by omega)]
  | succ d ih =>
    intro i hi
    refine Ev.step (f := fun k => dovecotebook_SameSlots.l0 k l l ((i + 1 : Nat) : Int)) (fun k => ?_) (ih (i + 1) (by omega))
    simp only [dovecotebook_SameSlots.l0]
    rw [if_pos (by omega), if_pos (by omega), if_pos (by omega), if_neg (by simp), show wrap64 ((i : Int) + 1) = ((i + 1 : Nat) : Int) by unfold wrap64; omega]
theorem texts_same2 (l : List ByteArray) (hl : l.length ≤ 9000000000000000) (d : Nat) : ∀ i, i + d = l.length → Ev (fun k => dovecotebook_SameTexts.l0 k l l (i : Int)) true := by
  induction d with
  | zero =>
    intro i hi
    refine Ev.step (f := fun _ => some true) (fun k => ?_) (Ev.now _)
    simp only [dovecotebook_SameTexts.l0]
    rw [if_neg (by omega)]
  | succ d ih =>
    intro i hi
    refine Ev.step (f := fun k => dovecotebook_SameTexts.l0 k l l ((i + 1 : Nat) : Int)) (fun k => ?_) (ih (i + 1) (by omega))
    simp only [dovecotebook_SameTexts.l0]
    rw [if_pos (by omega), if_pos (by omega), if_pos (by omega), if_pos trivial, show wrap64 ((i : Int) + 1) = ((i + 1 : Nat) : Int) by unfold wrap64; omega]
theorem same_ev2 (a0 a1 a2 : Int) (a3 a4 : ByteArray) (l5 : List S68) (l6 : List ByteArray) (h5 : l5.length ≤ 9000000000000000) (h6 : l6.length ≤ 9000000000000000) : Ev (fun k => dovecotebook_SameMail.f k a0 a1 a2 a3 a4 l5 l6 a0 a1 a2 a3 a4 l5 l6) true := by
  unfold dovecotebook_SameMail.f
  refine Ev.congr (fun k => by rw [if_pos rfl, if_pos rfl, if_pos rfl, if_pos rfl, if_pos rfl]) ?_
  refine Ev.bind (a := true) ?_ (Ev.congr (fun k => if_pos rfl) (Ev.bind (a := true) ?_ (Ev.now _)))
  · unfold dovecotebook_SameSlots.f
    exact Ev.congr (fun k => if_pos rfl) (slots_same2 l5 h5 l5.length 0 (by omega))
  · unfold dovecotebook_SameTexts.f
    exact Ev.congr (fun k => if_pos rfl) (texts_same2 l6 h6 l6.length 0 (by omega))
end Go.Proofs.YtjmgkjjcdnaapaaDoor
namespace Go.Proofs.YtjmgkjjcdnaapaaDoor
open Go.RowKit Go.Proofs.YtjmgkjjcdnaapaaDoor.PMailA Go.Proofs.YtjmgkjjcdnaapaaDoorW.PrintWords Go.Proofs.YtjmgkjjcdnaapaaDoorW.PrintLast Go.Proofs.YtjmgkjjcdnaapaaDoorW.PrintMore
set_option linter.unusedSimpArgs false
set_option linter.unusedVariables false
set_option maxRecDepth 20000
theorem R_cp {α : Type} {d : Kd α} {e base : Nat} {ok : Nat → Prop} {w : World} {v : Value} {xs : List α} (h : d.R e w base ok v xs) (hf : xs.length * d.sz < 8796093022208) : ∃ A c, v = .slice A xs.length c ∧ Cp d w A c xs := by
  obtain ⟨A, c, e1, hc, hC⟩ := Kd.R_reads h
  refine ⟨A, c, e1, ?_⟩
  cases A with
  | some a => exact .inr ⟨⟨a, rfl⟩, hC, hc, hf⟩
  | none =>
    obtain ⟨inner, ho, _⟩ := h.2
    rcases ho.2 with ⟨h0, _⟩ | ⟨g, cap, cur, h0, _⟩
    · rw [h0] at e1
      injection e1 with _ e2 e3
      exact .inl ⟨rfl, e3.symm, List.eq_nil_of_length_eq_zero e2.symm⟩
    · rw [h0] at e1
      injection e1 with e1
      cases e1
theorem C_cp {α : Type} {d : Kd α} {w : World} {A : Option Addr} {c : Nat} {l : List α} (h : d.C w A l.length l) (hc : l.length ≤ c) (hz : A = none → c = 0) (hf : l.length * d.sz < 8796093022208) : Cp d w A c l := by
  cases A with
  | some a => exact .inr ⟨⟨a, rfl⟩, h, hc, hf⟩
  | none =>
    have := hz rfl
    exact .inl ⟨rfl, this, List.eq_nil_of_length_eq_zero (by omega)⟩
theorem Cp.few {α : Type} {k : Kd α} {w : World} {A : Option Addr} {c : Nat} {l : List α} (h : Cp k w A c l) (hs : 0 < k.sz) : l.length ≤ 9000000000000000 := by
  rcases h with ⟨_, _, rfl⟩ | ⟨_, _, _, h⟩
  · exact Nat.zero_le _
  · have : l.length * 1 ≤ l.length * k.sz := Nat.mul_le_mul_left _ hs
    omega
/-- a message, whatever its slices' places. -/
structure MlX where
  kd : Int
  u : Int
  q : Int
  text : ByteArray
  tag : ByteArray
  l5 : List S68
  l6 : List ByteArray
def MV (w : World) (v : Value) (x : MlX) : Prop := ∃ A5 c5 A6 c6, v = .agg #[.int .i64 x.kd, .int .i64 x.u, .int .i64 x.q, .string x.text, .string x.tag, .slice A5 x.l5.length c5, .slice A6 x.l6.length c6] ∧ Cp k68 w A5 c5 x.l5 ∧ Cp Kd.string w A6 c6 x.l6
theorem MV.below {w w' : World} {v : Value} {x : MlX} (h : MV w v x) (hb : Below w.heap.size w w') : MV w' v x := by
  obtain ⟨A5, c5, A6, c6, e, h5, h6⟩ := h
  exact ⟨A5, c5, A6, c6, e, h5.below hb, h6.below hb⟩
theorem SgOut.mv {w w' : World} {kd u q : Int} {text T : ByteArray} {l5 : List S68} {l6 : List ByteArray} {er : Int} {e : Ending} (h : SgOut w w' kd u q text T l5 l6 er e) :
    ∃ v, e = .returned (.tuple #[v, .int .i64 er]) ∧ MV w' v (if er = 0 then ⟨kd, u, q, text, T, l5, l6⟩ else ⟨0, 0, 0, ⟨#[]⟩, ⟨#[]⟩, [], []⟩) ∧ Below w.heap.size w w' := by
  obtain ⟨hb, v, he, h1, h0⟩ := h
  refine ⟨v, he, ?_, hb⟩
  by_cases hr : er = 0
  · obtain ⟨A5, c5, A6, c6, ev, p5, p6⟩ := h0 hr
    rw [if_pos hr]
    exact ⟨A5, c5, A6, c6, ev, p5, p6⟩
  · rw [if_neg hr]
    exact ⟨none, 0, none, 0, h1 hr, Cp.nil _ _, Cp.nil _ _⟩
theorem same_any20 (w : World) (v v' : Value) (x : MlX) (h : MV w v x) (h' : MV w v' x) :
    Calls Tryd.prog 11 #[v, v'] w fun e w' => e = .returned (.bool true) ∧ Below w.heap.size w w' := by
  obtain ⟨A5, c5, A6, c6, rfl, h5, h6⟩ := h
  obtain ⟨B5, d5, B6, d6, rfl, g5, g6⟩ := h'
  obtain ⟨k, hk⟩ := (same_ev2 x.kd x.u x.q x.text x.tag x.l5 x.l6 (h5.few (by decide)) (h6.few (by decide))).rounds
  exact dovecotebook_SameMail.calls k _ _ _ _ _ A5 c5 x.l5 A6 c6 x.l6 _ _ _ _ _ B5 d5 x.l5 B6 d6 x.l6 true w h5.C h5.le h6.C h6.le g5.C g5.le g6.C g6.le hk
theorem copy_f20 (a0 a1 a2 : Int) (a3 a4 : ByteArray) (l5 : List S68) (l6 : List ByteArray) (h5 : l5.length < 4398046511104) (h6 : l6.length < 8796093022208) : dovecotebook_CopyMail.f a0 a1 a2 a3 a4 l5 l6 = some (a0, a1, a2, a3, a4, l5, l6) := by
  unfold dovecotebook_CopyMail.f
  simp only [Option.bind_some, List.length_nil, Nat.zero_add]
  rw [if_pos h5, if_pos h6]
  rfl
set_option maxHeartbeats 3200000 in
theorem law_GateSigns (key : List UInt8) (kd u q : Int) (text tag : ByteArray) (A5 : Option Addr) (c5 : Nat) (l5 : List S68) (A6 : Option Addr) (c6 : Nat) (l6 : List ByteArray) (w : World)
    (hkl : key.length ≤ 140737488351232) (h5 : Cp k68 w A5 c5 l5) (h6 : Cp Kd.string w A6 c6 l6) (n5 : l5.length < 4398046511104) (n6 : l6.length < 8796093022208) (hk : KsAt w) (hks : 0 < w.heap.size) :
    Calls Tryd.prog 3 #[.string ⟨key.toArray⟩, .agg #[.int .i64 kd, .int .i64 u, .int .i64 q, .string text, .string tag, .slice A5 l5.length c5, .slice A6 l6.length c6]] w fun e w' => e = .returned (.bool true) ∧ Below w.heap.size w w' := by
  have HK := Lib.hid hk
  have HKS := Lib.hid hks
  have H5 := Lib.hid h5
  have H6 := Lib.hid h6
  have N5 := Lib.hid n5
  have N6 := Lib.hid n6
  -- what both give
  obtain ⟨er, X, HGS, HRS⟩ : ∃ (er : Int) (X : MlX), Hid (∀ (W : World) (B5 : Option Addr) (d5 : Nat) (B6 : Option Addr) (d6 : Nat), Cp k68 W B5 d5 l5 → Cp Kd.string W B6 d6 l6 → KsAt W → 0 < W.heap.size →
      Calls Tryd.prog 9 #[.string ⟨key.toArray⟩, .agg #[.int .i64 kd, .int .i64 u, .int .i64 q, .string text, .string tag, .slice B5 l5.length d5, .slice B6 l6.length d6]] W fun e W' => ∃ v, e = .returned (.tuple #[v, .int .i64 er]) ∧ MV W' v X ∧ Below W.heap.size W W') ∧
    Hid (∀ (W : World) (B5 : Option Addr) (d5 : Nat) (B6 : Option Addr) (d6 : Nat), Cp k68 W B5 d5 l5 → Cp Kd.string W B6 d6 l6 →
      Calls Tryd.prog 10 #[.string ⟨key.toArray⟩, .agg #[.int .i64 kd, .int .i64 u, .int .i64 q, .string text, .string tag, .slice B5 l5.length d5, .slice B6 l6.length d6]] W fun e W' => ∃ v, e = .returned (.tuple #[v, .int .i64 er]) ∧ MV W' v X ∧ Below W.heap.size W W') := by
    obtain ⟨k, s, e0, hp, hcase⟩ := plain_gen kd u q text tag l5 l6
    have hs : s.length ≤ 1000000 := by
      rcases hcase with ⟨_, hm, rfl⟩ | ⟨_, _, rfl⟩
      · have := hm.length; omega
      · decide
    refine ⟨sgE key e0, if sgE key e0 = 0 then ⟨kd, u, q, text, ⟨(tagL key (gateL ++ s)).toArray⟩, l5, l6⟩ else ⟨0, 0, 0, ⟨#[]⟩, ⟨#[]⟩, [], []⟩, Lib.hid fun W B5 d5 B6 d6 p5 p6 hk hks => (sign_any k key kd u q text tag B5 d5 l5 B6 d6 l6 s e0 W p5 p6 hp hk hks hs).mono fun e W' h => h.mv, Lib.hid fun W B5 d5 B6 d6 p5 p6 => ?_⟩
    have hT : sgE key e0 = 0 → s = encL kd u q text (tx z32) l5 l6 := by
      intro h0
      unfold sgE at h0
      split at h0
      · exact absurd h0 (by decide)
      · rcases hcase with ⟨_, _, h⟩ | ⟨h, _⟩
        · exact h
        · rw [h] at h0; exact absurd h0 (by decide)
    refine (rsign_any key kd u q text tag B5 d5 l5 B6 d6 l6 (sgE key e0) W p5 p6 ?_).mono fun e W' h => ?_
    · by_cases hk : key.length = 32
      · have he : sgE key e0 = e0 := if_neg (fun h => h hk)
        rcases hcase with ⟨h1, h2, _⟩ | ⟨h1, h2, _⟩
        · exact .inr (.inr ⟨hk, h2, by rw [he, h1]⟩)
        · exact .inr (.inl ⟨hk, h2, by rw [he, h1]⟩)
      · exact .inl ⟨hk, if_pos hk⟩
    · obtain ⟨v, h1, h2, h3⟩ := h.mv
      refine ⟨v, h1, ?_, h3⟩
      by_cases h0 : sgE key e0 = 0
      · rw [if_pos h0] at h2 ⊢
        rw [hT h0]
        exact h2
      · rw [if_neg h0] at h2 ⊢
        exact h2
  obtain ⟨kb, KB⟩ : ∃ t : ByteArray, Hid (⟨key.toArray⟩ = t) := ⟨_, Lib.hid rfl⟩
  rw [KB.out] at HGS HRS ⊢
  have HCP := Lib.hid (copy_f20 kd u q text tag l5 l6 n5 n6)
  clear hk hks h5 h6 n5 n6
  go_enter Tryd.func3, Tryd.ntmps3
  go_upto_region 1 with fail
  obtain ⟨b3, hb3⟩ : ∃ b, Hid (w.heap.size = b) := ⟨_, Lib.hid rfl⟩
  refine gworld (fun W => Hid (Blk W b3 25 #[.int .i64 kd, .int .i64 u, .int .i64 q, .string text, .string tag, .slice A5 l5.length c5, .slice A6 l6.length c6]) ∧ Hid (Below w.heap.size w W)) ⟨Lib.hid (by rw [← hb3.out]; exact Blk.new _ _ _), Lib.hid ((Below.refl _ _).alloc (Nat.le_refl _) _)⟩ ?_
  rintro w1 ⟨M1, B1⟩
  rw [hb3.out]
  have P51 := Lib.hid (H5.out.below B1.out)
  have P61 := Lib.hid (H6.out.below B1.out)
  have m0 : w1.cell? ⟨b3, 0, none⟩ = some (.int .i64 kd) := M1.out.cell 0
  have m1 : w1.cell? ⟨b3, 1, none⟩ = some (.int .i64 u) := M1.out.cell 1
  have m2 : w1.cell? ⟨b3, 2, none⟩ = some (.int .i64 q) := M1.out.cell 2
  have m3 : w1.cell? ⟨b3, 3, none⟩ = some (.string text) := M1.out.cell 3
  have m4 : w1.cell? ⟨b3, 4, none⟩ = some (.string tag) := M1.out.cell 4
  have m5 : w1.cell? ⟨b3, 5, none⟩ = some (.slice A5 l5.length c5) := M1.out.cell 5
  have m6 : w1.cell? ⟨b3, 6, none⟩ = some (.slice A6 l6.length c6) := M1.out.cell 6
  go_wp2_with fail
  refine (dovecotebook_CopyMail.calls kd u q text tag A5 c5 l5 A6 c6 l6 kd u q text tag l5 l6 w1 P51.out.C P51.out.le P61.out.C P61.out.le HCP.out).mono ?_
  rintro e w2 ⟨v5, v6, rfl, r5, r6, b2⟩
  obtain ⟨B5, d5, e5, p5⟩ := R_cp r5 (show l5.length * 2 < 8796093022208 by have := N5.out; omega)
  obtain ⟨B6, d6, e6, p6⟩ := R_cp r6 (show l6.length * 1 < 8796093022208 by have := N6.out; omega)
  subst e5
  subst e6
  have P52 := Lib.hid p5
  have P62 := Lib.hid p6
  have M2 := Lib.hid (M1.out.below b2 M1.out.lt)
  have B2 := Lib.hid (B1.out.trans (b2.mono B1.out.size))
  clear r5 r6 b2 p5 p6 m0 m1 m2 m3 m4 m5 m6 M1 B1 P51 P61
  go_upto_region 2 with fail
  obtain ⟨b5, hb5⟩ : ∃ b, Hid (w2.heap.size = b) := ⟨_, Lib.hid rfl⟩
  refine gworld (fun W => Hid (Blk W b5 25 #[.int .i64 kd, .int .i64 u, .int .i64 q, .string text, .string tag, .slice B5 l5.length d5, .slice B6 l6.length d6]) ∧ Hid (Below w2.heap.size w2 W)) ⟨Lib.hid (by rw [← hb5.out]; exact Blk.new _ _ _), Lib.hid ((Below.refl _ _).alloc (Nat.le_refl _) _)⟩ ?_
  rintro w3 ⟨O3, B3⟩
  rw [hb5.out]
  have M3 := Lib.hid (M2.out.below B3.out M2.out.lt)
  have P53 := Lib.hid (P52.out.below B3.out)
  have P63 := Lib.hid (P62.out.below B3.out)
  have B3 := Lib.hid (B2.out.trans (B3.out.mono B2.out.size))
  clear M2 P52 P62 B2
  have m0 : w3.cell? ⟨b5, 0, none⟩ = some (.int .i64 kd) := O3.out.cell 0
  have m1 : w3.cell? ⟨b5, 1, none⟩ = some (.int .i64 u) := O3.out.cell 1
  have m2 : w3.cell? ⟨b5, 2, none⟩ = some (.int .i64 q) := O3.out.cell 2
  have m3 : w3.cell? ⟨b5, 3, none⟩ = some (.string text) := O3.out.cell 3
  have m4 : w3.cell? ⟨b5, 4, none⟩ = some (.string tag) := O3.out.cell 4
  have m5 : w3.cell? ⟨b5, 5, none⟩ = some (.slice B5 l5.length d5) := O3.out.cell 5
  have m6 : w3.cell? ⟨b5, 6, none⟩ = some (.slice B6 l6.length d6) := O3.out.cell 6
  go_wp2_with fail
  refine (HGS.out w3 B5 d5 B6 d6 P53.out P63.out (HK.out.below HKS.out B3.out) (Nat.lt_of_lt_of_le HKS.out B3.out.size)).mono ?_
  rintro e w4 ⟨v, rfl, hv, b4⟩
  obtain ⟨E5, f5, E6, f6, ev, q5, q6⟩ := hv
  subst ev
  have Q5 := Lib.hid q5
  have Q6 := Lib.hid q6
  have M4 := Lib.hid (M3.out.below b4 M3.out.lt)
  have O4 := Lib.hid (O3.out.below b4 O3.out.lt)
  have P54 := Lib.hid (P53.out.below b4)
  have P64 := Lib.hid (P63.out.below b4)
  have B4 := Lib.hid (B3.out.trans (b4.mono B3.out.size))
  clear q5 q6 b4 M3 O3 P53 P63 B3 m0 m1 m2 m3 m4 m5 m6
  go_upto_region 3 with fail
  obtain ⟨b6, hb6⟩ : ∃ b, Hid (w4.heap.size = b) := ⟨_, Lib.hid rfl⟩
  refine gworld (fun W => Hid (Blk W b6 25 #[.int .i64 X.kd, .int .i64 X.u, .int .i64 X.q, .string X.text, .string X.tag, .slice E5 X.l5.length f5, .slice E6 X.l6.length f6]) ∧ Hid (Below w4.heap.size w4 W)) ⟨Lib.hid (by rw [← hb6.out]; exact Blk.new _ _ _), Lib.hid ((Below.refl _ _).alloc (Nat.le_refl _) _)⟩ ?_
  rintro w5 ⟨S5, B5'⟩
  rw [hb6.out]
  have M5 := Lib.hid (M4.out.below B5'.out M4.out.lt)
  have O5 := Lib.hid (O4.out.below B5'.out O4.out.lt)
  have P55 := Lib.hid (P54.out.below B5'.out)
  have P65 := Lib.hid (P64.out.below B5'.out)
  have Q55 := Lib.hid (Q5.out.below B5'.out)
  have Q65 := Lib.hid (Q6.out.below B5'.out)
  have BB5 := Lib.hid (B4.out.trans (B5'.out.mono B4.out.size))
  clear M4 O4 P54 P64 Q5 Q6 B4 B5'
  have R5 := Lib.hid (H5.out.below BB5.out)
  have R6 := Lib.hid (H6.out.below BB5.out)
  have m0 : w5.cell? ⟨b3, 0, none⟩ = some (.int .i64 kd) := M5.out.cell 0
  have m1 : w5.cell? ⟨b3, 1, none⟩ = some (.int .i64 u) := M5.out.cell 1
  have m2 : w5.cell? ⟨b3, 2, none⟩ = some (.int .i64 q) := M5.out.cell 2
  have m3 : w5.cell? ⟨b3, 3, none⟩ = some (.string text) := M5.out.cell 3
  have m4 : w5.cell? ⟨b3, 4, none⟩ = some (.string tag) := M5.out.cell 4
  have m5 : w5.cell? ⟨b3, 5, none⟩ = some (.slice A5 l5.length c5) := M5.out.cell 5
  have m6 : w5.cell? ⟨b3, 6, none⟩ = some (.slice A6 l6.length c6) := M5.out.cell 6
  go_wp2_with fail
  refine (HRS.out w5 A5 c5 A6 c6 R5.out R6.out).mono ?_
  rintro e w6 ⟨v, rfl, hv, b6'⟩
  obtain ⟨G5, i5, G6, i6, ev, q5, q6⟩ := hv
  subst ev
  have T5 := Lib.hid q5
  have T6 := Lib.hid q6
  have M6 := Lib.hid (M5.out.below b6' M5.out.lt)
  have O6 := Lib.hid (O5.out.below b6' O5.out.lt)
  have S6 := Lib.hid (S5.out.below b6' S5.out.lt)
  have P56 := Lib.hid (P55.out.below b6')
  have P66 := Lib.hid (P65.out.below b6')
  have Q56 := Lib.hid (Q55.out.below b6')
  have Q66 := Lib.hid (Q65.out.below b6')
  have B6' := Lib.hid (BB5.out.trans (b6'.mono BB5.out.size))
  clear q5 q6 b6' M5 O5 S5 P55 P65 Q55 Q65 BB5 R5 R6 m0 m1 m2 m3 m4 m5 m6
  go_upto_region 4 with fail
  obtain ⟨b8, hb8⟩ : ∃ b, Hid (w6.heap.size = b) := ⟨_, Lib.hid rfl⟩
  refine gworld (fun W => Hid (Blk W b8 25 #[.int .i64 X.kd, .int .i64 X.u, .int .i64 X.q, .string X.text, .string X.tag, .slice G5 X.l5.length i5, .slice G6 X.l6.length i6]) ∧ Hid (Below w6.heap.size w6 W)) ⟨Lib.hid (by rw [← hb8.out]; exact Blk.new _ _ _), Lib.hid ((Below.refl _ _).alloc (Nat.le_refl _) _)⟩ ?_
  rintro w7 ⟨U7, B7'⟩
  rw [hb8.out]
  have M7 := Lib.hid (M6.out.below B7'.out M6.out.lt)
  have O7 := Lib.hid (O6.out.below B7'.out O6.out.lt)
  have S7 := Lib.hid (S6.out.below B7'.out S6.out.lt)
  have P57 := Lib.hid (P56.out.below B7'.out)
  have P67 := Lib.hid (P66.out.below B7'.out)
  have V1 := Lib.hid (show MV w7 (.agg #[.int .i64 X.kd, .int .i64 X.u, .int .i64 X.q, .string X.text, .string X.tag, .slice E5 X.l5.length f5, .slice E6 X.l6.length f6]) X from ⟨E5, f5, E6, f6, rfl, Q56.out.below B7'.out, Q66.out.below B7'.out⟩)
  have V2 := Lib.hid (show MV w7 (.agg #[.int .i64 X.kd, .int .i64 X.u, .int .i64 X.q, .string X.text, .string X.tag, .slice G5 X.l5.length i5, .slice G6 X.l6.length i6]) X from ⟨G5, i5, G6, i6, rfl, T5.out.below B7'.out, T6.out.below B7'.out⟩)
  have B7 := Lib.hid (B6'.out.trans (B7'.out.mono B6'.out.size))
  clear M6 O6 S6 P56 P66 Q56 Q66 T5 T6 B6' B7'
  have m0 : w7.cell? ⟨b6, 0, none⟩ = some (.int .i64 X.kd) := S7.out.cell 0
  have m1 : w7.cell? ⟨b6, 1, none⟩ = some (.int .i64 X.u) := S7.out.cell 1
  have m2 : w7.cell? ⟨b6, 2, none⟩ = some (.int .i64 X.q) := S7.out.cell 2
  have m3 : w7.cell? ⟨b6, 3, none⟩ = some (.string X.text) := S7.out.cell 3
  have m4 : w7.cell? ⟨b6, 4, none⟩ = some (.string X.tag) := S7.out.cell 4
  have m5 : w7.cell? ⟨b6, 5, none⟩ = some (.slice E5 X.l5.length f5) := S7.out.cell 5
  have m6 : w7.cell? ⟨b6, 6, none⟩ = some (.slice E6 X.l6.length f6) := S7.out.cell 6
  have n0 : w7.cell? ⟨b8, 0, none⟩ = some (.int .i64 X.kd) := U7.out.cell 0
  have n1 : w7.cell? ⟨b8, 1, none⟩ = some (.int .i64 X.u) := U7.out.cell 1
  have n2 : w7.cell? ⟨b8, 2, none⟩ = some (.int .i64 X.q) := U7.out.cell 2
  have n3 : w7.cell? ⟨b8, 3, none⟩ = some (.string X.text) := U7.out.cell 3
  have n4 : w7.cell? ⟨b8, 4, none⟩ = some (.string X.tag) := U7.out.cell 4
  have n5 : w7.cell? ⟨b8, 5, none⟩ = some (.slice G5 X.l5.length i5) := U7.out.cell 5
  have n6 : w7.cell? ⟨b8, 6, none⟩ = some (.slice G6 X.l6.length i6) := U7.out.cell 6
  go_wp2_with fail
  refine (same_any20 w7 _ _ X V1.out V2.out).mono ?_
  rintro e w8 ⟨rfl, b8'⟩
  have B8 := Lib.hid (B7.out.trans (b8'.mono B7.out.size))
  have M8 := Lib.hid (M7.out.below b8' M7.out.lt)
  have O8 := Lib.hid (O7.out.below b8' O7.out.lt)
  have V3 := Lib.hid (show MV w8 (.agg #[.int .i64 kd, .int .i64 u, .int .i64 q, .string text, .string tag, .slice B5 l5.length d5, .slice B6 l6.length d6]) ⟨kd, u, q, text, tag, l5, l6⟩ from ⟨B5, d5, B6, d6, rfl, P57.out.below b8', P67.out.below b8'⟩)
  have V4 := Lib.hid (show MV w8 (.agg #[.int .i64 kd, .int .i64 u, .int .i64 q, .string text, .string tag, .slice A5 l5.length c5, .slice A6 l6.length c6]) ⟨kd, u, q, text, tag, l5, l6⟩ from ⟨A5, c5, A6, c6, rfl, H5.out.below B8.out, H6.out.below B8.out⟩)
  clear b8' B7 M7 O7 P57 P67 V1 V2 S7 U7 m0 m1 m2 m3 m4 m5 m6 n0 n1 n2 n3 n4 n5 n6
  have m0 : w8.cell? ⟨b5, 0, none⟩ = some (.int .i64 kd) := O8.out.cell 0
  have m1 : w8.cell? ⟨b5, 1, none⟩ = some (.int .i64 u) := O8.out.cell 1
  have m2 : w8.cell? ⟨b5, 2, none⟩ = some (.int .i64 q) := O8.out.cell 2
  have m3 : w8.cell? ⟨b5, 3, none⟩ = some (.string text) := O8.out.cell 3
  have m4 : w8.cell? ⟨b5, 4, none⟩ = some (.string tag) := O8.out.cell 4
  have m5 : w8.cell? ⟨b5, 5, none⟩ = some (.slice B5 l5.length d5) := O8.out.cell 5
  have m6 : w8.cell? ⟨b5, 6, none⟩ = some (.slice B6 l6.length d6) := O8.out.cell 6
  have n0 : w8.cell? ⟨b3, 0, none⟩ = some (.int .i64 kd) := M8.out.cell 0
  have n1 : w8.cell? ⟨b3, 1, none⟩ = some (.int .i64 u) := M8.out.cell 1
  have n2 : w8.cell? ⟨b3, 2, none⟩ = some (.int .i64 q) := M8.out.cell 2
  have n3 : w8.cell? ⟨b3, 3, none⟩ = some (.string text) := M8.out.cell 3
  have n4 : w8.cell? ⟨b3, 4, none⟩ = some (.string tag) := M8.out.cell 4
  have n5 : w8.cell? ⟨b3, 5, none⟩ = some (.slice A5 l5.length c5) := M8.out.cell 5
  have n6 : w8.cell? ⟨b3, 6, none⟩ = some (.slice A6 l6.length c6) := M8.out.cell 6
  go_wp2_with fail
  refine (same_any20 w8 _ _ _ V3.out V4.out).mono ?_
  rintro e w9 ⟨rfl, b9⟩
  have B9 := Lib.hid (B8.out.trans (b9.mono B8.out.size))
  clear b9 B8 M8 O8 V3 V4 m0 m1 m2 m3 m4 m5 m6 n0 n1 n2 n3 n4 n5 n6
  go_wp2_with fail
  refine (works20_any w9 (HK.out.below HKS.out B9.out) (Nat.lt_of_lt_of_le HKS.out B9.out.size)).mono ?_
  rintro e w10 ⟨rfl, b10⟩
  have B10 := Lib.hid (B9.out.trans (b10.mono B9.out.size))
  clear b10
  go_wp2_with fail
  go_ret
  exact ⟨rfl, B10.out⟩
end Go.Proofs.YtjmgkjjcdnaapaaDoor

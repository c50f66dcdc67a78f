/- (Joiner).Take, further. Take, whole. parts.New, as the laws call it. A message's parts, plainly. parts.Cut. 'copy(b, s)', b a row that the call made, s a text; texts made so long. The walk of a law package's 'fit' (a text made so long); stated of whatever function has that body is not possible: printed for this seat's. Parts of a message that come to a joiner, plainly. A joiner, as the laws hold it: taking a text, how many wait. The chapter's example: works. The law PartsFit. A word for byte rows, where the reference's Joined is not in the program. The reference's SHA-256 (whole text, sixty-four words, turn by a sum) is the hasher's: plain laws, no program in sight. The walks of the reference's turn, ks, grown. The walk of the reference's grown: the sixty-four words of a block. -/
import Derived.Test.YtlogcgeinbefjaaDoorZa8fe5c2f
import Derived.Test.YtlogcgeinbefjaaDoorZ0deb1ec8
import Derived.Test.YtlogcgeinbefjaaDoorProg
import Derived.Outline
import Derived.RegionTactic
import Derived.BigRegion
import Derived.Deep.RegionLaw
import Derived.Deep.RegionHeldLaw
namespace Go.Proofs.YtlogcgeinbefjaaDoor
open Go.RowKit Go.Proofs.YtlogcgeinbefjaaDoorW.PrintWords Go.Proofs.YtlogcgeinbefjaaDoorW.PrintLast
set_option linter.unusedSimpArgs false
set_option linter.unusedVariables false
set_option maxRecDepth 20000

set_option maxHeartbeats 1600000 in
theorem take_old_put (B j : Nat) (vS vN : Value) (T : List Pl) (J : Jn) (s : List UInt8) (w : World) (h : JnA B w j vS vN T J) (hs : s.length ≤ 140737488355328) (ho : okP s = true) (hd : J.done.any (fun x => x == (ptOf s).id) = false) (i : Nat) (hi : i < J.some.length) (hF : fstI (fun m : Ms => m.id == (ptOf s).id) J.some = (i : Nat)) (hB : B ≤ w.heap.size) (hk : KsAt w) (hks : 1 < B) (hok : ∀ m ∈ J.some, 1 ≤ m.left) (hm0 : ∀ m, J.some[i]? = some m → (m.sum = (ptOf s).sum ∧ m.pcs.length = (ptOf s).many) ∧ m.came[(ptOf s).at_]? = some false) :
    Calls Tryd.prog 15 #[.pointer (some ⟨j, 0, none⟩), .string ⟨s.toArray⟩] w fun e w' => TkOut B j vS vN T (takeF J s).1 (takeF J s).2 w w' e := by
  have HTF := Lib.hid (show takeF J s = putIn J i (J.some[i]'hi) (ptOf s) by
    unfold takeF
    rw [ho, hd, hF]
    simp only [Int.toNat_natCast, List.getElem?_eq_getElem hi]
    rw [if_pos trivial, if_neg (by simp), if_neg (by omega)]
    unfold oldIn
    rw [if_pos (hm0 _ (List.getElem?_eq_getElem hi)).1, if_neg (by rw [(hm0 _ (List.getElem?_eq_getElem hi)).2]; simp)])
  have hp0 := hd
  have hF0 := hF
  have HR := Lib.hid (fun W => read_any s W hs)
  have HO := Lib.hid ho
  obtain ⟨sb, SB⟩ : ∃ t : ByteArray, Hid (⟨s.toArray⟩ = t) := ⟨_, Lib.hid rfl⟩
  rw [SB.out] at HR ⊢
  have HJ := Lib.hid h
  obtain ⟨p, hp⟩ : ∃ p, Hid (ptOf s = p) := ⟨_, Lib.hid rfl⟩
  rw [hp.out] at hp0
  obtain ⟨ib, IB⟩ : ∃ t : ByteArray, Hid (⟨p.id.toArray⟩ = t) := ⟨_, Lib.hid rfl⟩
  obtain ⟨sm, SM⟩ : ∃ t : ByteArray, Hid (⟨p.sum.toArray⟩ = t) := ⟨_, Lib.hid rfl⟩
  obtain ⟨tb, TB⟩ : ∃ t : ByteArray, Hid (⟨p.text.toArray⟩ = t) := ⟨_, Lib.hid rfl⟩
  obtain ⟨A, hA⟩ : ∃ n, Hid (p.at_ = n) := ⟨_, Lib.hid rfl⟩
  obtain ⟨N, hN⟩ : ∃ n, Hid (p.many = n) := ⟨_, Lib.hid rfl⟩
  have HPC := Lib.hid (show ptC p = #[.string ib, .string sm, .string tb, .int .i64 (A : Nat), .int .i64 (N : Nat)] by unfold ptC; rw [IB.out, SM.out, TB.out, hA.out, hN.out])
  have HCON : Hid (∀ W, Win 9 W B vN (cstr J.done) → Calls Tryd.prog 22 #[vN, .string ib] W fun e w' => e = .returned (.bool false) ∧ w' = W) := Lib.hid (fun W hW => by
    have := containsT_any B vN J.done p.id W hW (by have := h.bd; omega)
    rw [IB.out, hp0] at this; exact this)
  have HIX : Hid (∀ (W : World) (g : Nat), JnA B W j vS vN T J → Blk W g 65 #[.string ib, .string sm, .string tb, .int .i64 (A : Nat), .int .i64 (N : Nat)] → Calls Tryd.prog 23 #[vS, .func (Fn.func 24) #[] #[.pointer (some ⟨g, 0, none⟩)]] W fun e w' => e = .returned (.int .i64 (i : Nat)) ∧ Below W.heap.size W w') := Lib.hid (fun W g hW hg => by
    have := indexM_any B j vS vN T J g p.id _ W hW hg (by rw [← IB.out]; rfl)
    rw [← hp.out, hF] at this; exact this)
  rw [hp.out] at hm0
  have HI := Lib.hid hi
  have HB := Lib.hid hB
  have HK := Lib.hid hk
  have HKS := Lib.hid hks
  clear h hs ho hd hp0 hF hF0 hB hk hks
  go_enter Tryd.func15, Tryd.ntmps15
  go_upto_region 1 with fail
  obtain ⟨gt, hgt⟩ : ∃ g, Hid (w.heap.size = g) := ⟨_, Lib.hid rfl⟩
  refine gworld (fun W => Hid (Blk W gt 36 zTold) ∧ Hid (Below w.heap.size w W)) ⟨Lib.hid (by rw [← hgt.out]; exact Blk.new _ _ _), Lib.hid ((Below.refl _ _).alloc (Nat.le_refl _) _)⟩ ?_
  rintro w0 ⟨M0, B0⟩
  rw [hgt.out]
  go_wp2_with fail
  refine (HR.out w0).mono ?_
  rintro e w1 ⟨b1, cs, hcs, hone, rfl, hcp⟩
  have hcp2 := hcp HO.out
  rw [hp.out, HPC.out] at hcp2
  subst hcp2
  clear hcp
  have HONE := Lib.hid hone
  have B1 := Lib.hid (B0.out.trans (b1.mono B0.out.size))
  have M1 := Lib.hid (M0.out.below b1 M0.out.lt)
  rw [HO.out]
  clear hcs hone b1
  go_upto_region 2 with (first
    | ((with_reducible refine gate_store (t := 65) (p := 7) (v := .tmp 15) rfl ?_); refine wpList_store_row rfl 65 (.tmp 7) (.tmp 15) rfl w1.heap.size #[.string ib, .string sm, .string tb, .int .i64 (A : Nat), .int .i64 (N : Nat)] rfl rfl 65 zPt (Blk.new w1 65 zPt) size_part rfl HONE.out ?_))
  obtain ⟨gp, hgp⟩ : ∃ g, Hid (w1.heap.size = g) := ⟨_, Lib.hid rfl⟩
  refine gworld (fun W => Hid (Blk W gt 36 zTold) ∧ Hid (Blk W gp 65 #[.string ib, .string sm, .string tb, .int .i64 (A : Nat), .int .i64 (N : Nat)]) ∧ Hid (Below w.heap.size w W)) ⟨Lib.hid ((M1.out.alloc (.cells zPt 65)).grown (row := some w1.heap.size) (only_setRow (only_refl _ _) _) (by have := M1.out.lt; intro h; cases h; omega)), Lib.hid (by rw [← hgp.out]; exact (Blk.new w1 65 zPt).setRow _), Lib.hid (below_of_only (B1.out.alloc B1.out.size _) (only_setRow (only_refl _ _) _) B1.out.size (by simp; exact Nat.le_succ_of_le B1.out.size))⟩ ?_
  rintro w2 ⟨M2, P2, B2⟩
  rw [hgp.out]
  have SG := Lib.hid (show w.heap.size ≤ gt ∧ w.heap.size ≤ gp from ⟨by rw [← hgt.out]; exact Nat.le_refl _, by rw [← hgp.out]; exact B1.out.size⟩)
  clear M1 B1 M0 B0 HONE
  have J2 := Lib.hid (HJ.out.below B2.out)
  have n3 : w2.drew.cell? ⟨j, 3, none⟩ = some vN := J2.out.hj.cell 3
  have p0 : w2.drew.cell? ⟨gp, 0, none⟩ = some (.string ib) := P2.out.cell 0
  go_upto_region 4 with fail
  refine start_ (n := 8) (S := fun w' => w'.cell? ⟨j, 3, none⟩ = some vN ∧ w'.cell? ⟨gp, 0, none⟩ = some (.string ib)) (ds := []) #[false, false, false, false, false, false, false, false] (by kernel_rfl) rfl rfl ⟨n3, p0⟩ (fun hHeld => ?_)
  refine with_tabW tk4.tab tk4.bits (fun HT_ HW_ => ?_)
  refine pure_ (i := 0) (N := some 20) (v := ?_) (a' := ?_) #[true, false, false, false, false, false, false, false] rfl rfl (any_of HT_.out (by kernel_rfl)) (fun _ _ _ h => h) (Or.inl ⟨by rfl, ?_⟩) ?_ ?_
  rotate_left
  · intro w'
    go_simp
    try with_reducible rfl
  rotate_left
  · simp only [Act.put, List.setIfInBounds_toArray, List.set_cons_zero, List.set_cons_succ]
    rfl
  refine pure_ (i := 1) (N := some 21) (v := ?_) (a' := ?_) #[true, true, false, false, false, false, false, false] rfl rfl (any_of HT_.out (by kernel_rfl)) (fun _ _ _ h => h) (Or.inl ⟨by rfl, ?_⟩) ?_ ?_
  rotate_left
  · intro w'
    go_simp
    try with_reducible rfl
  rotate_left
  · simp only [Act.put, List.setIfInBounds_toArray, List.set_cons_zero, List.set_cons_succ]
    rfl
  refine pure_ (i := 2) (N := some 22) (v := ?_) (a' := ?_) #[true, true, true, false, false, false, false, false] rfl rfl (any_of HT_.out (by kernel_rfl)) (fun _ _ _ h => h) (Or.inl ⟨by rfl, ?_⟩) ?_ ?_
  rotate_left
  · intro w'
    go_simp
    try with_reducible rfl
  rotate_left
  · simp only [Act.put, List.setIfInBounds_toArray, List.set_cons_zero, List.set_cons_succ]
    rfl
  refine pure_ (i := 3) (N := some 23) (v := ?_) (a' := ?_) #[true, true, true, true, false, false, false, false] rfl rfl (any_of HT_.out (by kernel_rfl)) (fun _ _ _ h => h) (Or.inl ⟨by rfl, ?_⟩) ?_ ?_
  rotate_left
  · intro w'
    go_simp
    try with_reducible rfl
  rotate_left
  · simp only [Act.put, List.setIfInBounds_toArray, List.set_cons_zero, List.set_cons_succ]
    rfl
  refine pure_ (i := 5) (N := some 25) (v := ?_) (a' := ?_) #[true, true, true, true, false, true, false, false] rfl rfl (any_of HT_.out (by kernel_rfl)) (fun _ _ _ h => h) (Or.inl ⟨by rfl, ?_⟩) ?_ ?_
  rotate_left
  · intro w'
    go_simp
    try with_reducible rfl
  rotate_left
  · simp only [Act.put, List.setIfInBounds_toArray, List.set_cons_zero, List.set_cons_succ]
    rfl
  refine take_ (i := 4) (N := some 24) (v := ?_) (a' := ?_) #[true, true, true, true, true, true, false, false] rfl rfl (take_ofW HT_.out HW_.out (by kernel_rfl)) (fun _ _ _ h => h) (Or.inl ⟨by rfl, ?_⟩) hHeld ?_ ?_
  rotate_left
  · rintro w' ⟨s0, s1⟩
    go_simp
    try with_reducible rfl
  rotate_left
  · simp only [Act.put, List.setIfInBounds_toArray, List.set_cons_zero, List.set_cons_succ]
    rfl
  refine take_ (i := 6) (N := some 26) (v := ?_) (a' := ?_) #[true, true, true, true, true, true, true, false] rfl rfl (take_ofW HT_.out HW_.out (by kernel_rfl)) (fun _ _ _ h => h) (Or.inl ⟨by rfl, ?_⟩) hHeld ?_ ?_
  rotate_left
  · rintro w' ⟨s0, s1⟩
    go_simp
    try with_reducible rfl
  rotate_left
  · simp only [Act.put, List.setIfInBounds_toArray, List.set_cons_zero, List.set_cons_succ]
    rfl
  refine one_ (i := 7) (N := some 27) #[true, true, true, true, true, true, true, true] rfl rfl (one_of HT_.out (by kernel_rfl)) (by decide) (fun K hK => ?_)
  refine goes_ Tryd.func22 (by kernel_rfl) rfl #[vN, .string ib] (by rfl) rfl rfl (by first | done | rfl | (simp only [List.map_toArray, List.map_cons, List.map_nil]; done) | (simp only [List.map_toArray, List.map_cons, List.map_nil]; rfl)) ?_
  refine (HCON.out w2.drew (J2.out.n.below (below_drewN (Below.refl _ _) 1))).mono ?_
  rintro e' w4 ⟨rfl, rfl⟩
  refine ⟨_, rfl, ?_⟩
  refine hK.out _ _ (⟨n3, p0⟩) (fun hHeld => ?_)
  clear hK K
  refine norm_ (a' := ?_) ?_ ?_
  rotate_left
  · show Act.put _ (some 27) _ = _
    simp only [Act.put, List.setIfInBounds_toArray, List.set_cons_zero, List.set_cons_succ]
    rfl
  refine done_ (done_of HT_.out (by kernel_rfl)) ?_
  clear HT_ HW_
  have M3 := Lib.hid M2.out.drew
  have P3 := Lib.hid P2.out.drew
  have B3 := Lib.hid (show Below w.heap.size w w2.drew from below_drewN B2.out 1)
  have J3 := Lib.hid (HJ.out.below B3.out)
  have s1 : w2.drew.cell? ⟨j, 1, none⟩ = some vS := J3.out.hj.cell 1
  clear n3 p0
  go_upto_region 6 with fail
  go_wp2_with fail
  refine (HIX.out w2.drew gp J3.out P3.out).mono ?_
  rintro e w4 ⟨rfl, b4⟩
  have B4 := Lib.hid (B3.out.trans (b4.mono B3.out.size))
  have M4 := Lib.hid (M3.out.below b4 M3.out.lt)
  have P4 := Lib.hid (P3.out.below b4 P3.out.lt)
  have J4 := Lib.hid (HJ.out.below B4.out)
  clear b4 s1 J3 B3 P3 M3 J2 B2 P2 M2 HIX HCON HR
  obtain ⟨t, b, off, cap, hT, hv, hcell, hm⟩ := J4.out.at_ i HI.out
  have s1 : w4.cell? ⟨j, 1, none⟩ = some vS := J4.out.hj.cell 1
  rw [hv] at s1
  obtain ⟨n, hn⟩ : ∃ n, Hid (J.some.length = n) := ⟨_, Lib.hid rfl⟩
  rw [hn.out] at s1
  have e1 : 0 ≤ (i : Int) ∧ (i : Int) < (n : Int) := by have := HI.out; have := hn.out; omega
  have HM := Lib.hid hm
  have HT := Lib.hid hT
  obtain ⟨m, hme⟩ : ∃ m, Hid (J.some[i]'HI.out = m) := ⟨_, Lib.hid rfl⟩
  rw [hme.out] at HM
  have HMI : Hid (J.some[i]? = some m) := Lib.hid (by rw [List.getElem?_eq_getElem HI.out, hme.out])
  obtain ⟨mb, MB⟩ : ∃ t : ByteArray, Hid (⟨m.sum.toArray⟩ = t) := ⟨_, Lib.hid rfl⟩
  obtain ⟨L, hL⟩ : ∃ n, Hid (m.pcs.length = n) := ⟨_, Lib.hid rfl⟩
  have xc : ∀ W, Blk W t.x 72 (msC t m) → Blk W t.x 72 #[.string ⟨m.id.toArray⟩, .string mb, .slice (some ⟨t.p, 0, none⟩) L L, .slice (some ⟨t.c, 0, none⟩) L L, .int .i64 m.left] := fun W hW => by rw [← MB.out, ← hL.out]; exact hW
  have X4 := Lib.hid (xc _ HM.out.x)
  clear hT hm hv xc
  go_upto_region 11 with fail
  clear s1 hcell
  have x1 : w4.drew.cell? ⟨t.x, 1, none⟩ = some (.string mb) := X4.out.cell 1
  have x2 : w4.drew.cell? ⟨t.x, 2, none⟩ = some (.slice (some ⟨t.p, 0, none⟩) L L) := X4.out.cell 2
  have p1 : w4.drew.cell? ⟨gp, 1, none⟩ = some (.string sm) := P4.out.cell 1
  have p4 : w4.drew.cell? ⟨gp, 4, none⟩ = some (.int .i64 (N : Nat)) := P4.out.cell 4
  have hm1 := (hm0 m HMI.out).1
  rw [hL.out, hN.out] at hm1
  have he : (mb.toList == sm.toList) = true := by rw [← MB.out, ← SM.out, ByteArray.toList_eq, ByteArray.toList_eq]; exact beq_iff_eq.mpr hm1.1
  have hl : ((L : Int) != (N : Int)) = false := by have := hm1.2; (rw [bne_eq_false_iff_eq]; omega)
  have HM1 := Lib.hid hm1
  clear hm1
  refine start_ (n := 18) (S := fun w' => w'.cell? ⟨t.x, 1, none⟩ = some (.string mb) ∧ w'.cell? ⟨t.x, 2, none⟩ = some (.slice (some ⟨t.p, 0, none⟩) L L) ∧ w'.cell? ⟨gp, 1, none⟩ = some (.string sm) ∧ w'.cell? ⟨gp, 4, none⟩ = some (.int .i64 (N : Nat))) (ds := []) #[false, false, false, false, false, false, false, false, false, false, false, false, false, false, false, false, false, false] (by kernel_rfl) rfl rfl ⟨x1, x2, p1, p4⟩ (fun hHeld => ?_)
  refine with_tabW tk11.tab tk11.bits (fun HT_ HW_ => ?_)
  refine pure_ (i := 0) (N := some 72) (v := ?_) (a' := ?_) #[true, false, false, false, false, false, false, false, false, false, false, false, false, false, false, false, false, false] rfl rfl (any_of HT_.out (by kernel_rfl)) (fun _ _ _ h => h) (Or.inl ⟨by rfl, ?_⟩) ?_ ?_
  rotate_left
  · intro w'
    go_simp
    try with_reducible rfl
  rotate_left
  · simp only [Act.put, List.setIfInBounds_toArray, List.set_cons_zero, List.set_cons_succ]
    rfl
  refine pure_ (i := 1) (N := some 73) (v := ?_) (a' := ?_) #[true, true, false, false, false, false, false, false, false, false, false, false, false, false, false, false, false, false] rfl rfl (any_of HT_.out (by kernel_rfl)) (fun _ _ _ h => h) (Or.inl ⟨by rfl, ?_⟩) ?_ ?_
  rotate_left
  · intro w'
    go_simp
    try with_reducible rfl
  rotate_left
  · simp only [Act.put, List.setIfInBounds_toArray, List.set_cons_zero, List.set_cons_succ]
    rfl
  refine pure_ (i := 2) (N := some 74) (v := ?_) (a' := ?_) #[true, true, true, false, false, false, false, false, false, false, false, false, false, false, false, false, false, false] rfl rfl (any_of HT_.out (by kernel_rfl)) (fun _ _ _ h => h) (Or.inl ⟨by rfl, ?_⟩) ?_ ?_
  rotate_left
  · intro w'
    go_simp
    try with_reducible rfl
  rotate_left
  · simp only [Act.put, List.setIfInBounds_toArray, List.set_cons_zero, List.set_cons_succ]
    rfl
  refine pure_ (i := 4) (N := some 76) (v := ?_) (a' := ?_) #[true, true, true, false, true, false, false, false, false, false, false, false, false, false, false, false, false, false] rfl rfl (any_of HT_.out (by kernel_rfl)) (fun _ _ _ h => h) (Or.inl ⟨by rfl, ?_⟩) ?_ ?_
  rotate_left
  · intro w'
    go_simp
    try with_reducible rfl
  rotate_left
  · simp only [Act.put, List.setIfInBounds_toArray, List.set_cons_zero, List.set_cons_succ]
    rfl
  refine take_ (i := 3) (N := some 75) (v := ?_) (a' := ?_) #[true, true, true, true, true, false, false, false, false, false, false, false, false, false, false, false, false, false] rfl rfl (take_ofW HT_.out HW_.out (by kernel_rfl)) (fun _ _ _ h => h) (Or.inl ⟨by rfl, ?_⟩) hHeld ?_ ?_
  rotate_left
  · rintro w' ⟨s0, s1, s2, s3⟩
    go_simp
    try with_reducible rfl
  rotate_left
  · simp only [Act.put, List.setIfInBounds_toArray, List.set_cons_zero, List.set_cons_succ]
    rfl
  refine take_ (i := 5) (N := some 77) (v := ?_) (a' := ?_) #[true, true, true, true, true, true, false, false, false, false, false, false, false, false, false, false, false, false] rfl rfl (take_ofW HT_.out HW_.out (by kernel_rfl)) (fun _ _ _ h => h) (Or.inl ⟨by rfl, ?_⟩) hHeld ?_ ?_
  rotate_left
  · rintro w' ⟨s0, s1, s2, s3⟩
    go_simp
    try with_reducible rfl
  rotate_left
  · simp only [Act.put, List.setIfInBounds_toArray, List.set_cons_zero, List.set_cons_succ]
    rfl
  refine pure_ (i := 6) (N := some 78) (v := ?_) (a' := ?_) #[true, true, true, true, true, true, true, false, false, false, false, false, false, false, false, false, false, false] rfl rfl (any_of HT_.out (by kernel_rfl)) (fun _ _ _ h => h) (Or.inl ⟨by rfl, ?_⟩) ?_ ?_
  rotate_left
  · intro w'
    go_simp
    try with_reducible rfl
  rotate_left
  · simp only [Act.put, List.setIfInBounds_toArray, List.set_cons_zero, List.set_cons_succ]
    rfl
  refine pure_ (i := 7) (N := some 79) (v := ?_) (a' := ?_) #[true, true, true, true, true, true, true, true, false, false, false, false, false, false, false, false, false, false] rfl rfl (any_of HT_.out (by kernel_rfl)) (fun _ _ _ h => h) (Or.inl ⟨by rfl, ?_⟩) ?_ ?_
  rotate_left
  · intro w'
    go_simp
    try with_reducible rfl
  rotate_left
  · simp only [Act.put, List.setIfInBounds_toArray, List.set_cons_zero, List.set_cons_succ]
    rfl
  refine pure_ (i := 8) (N := some 80) (v := ?_) (a' := ?_) #[true, true, true, true, true, true, true, true, true, false, false, false, false, false, false, false, false, false] rfl rfl (any_of HT_.out (by kernel_rfl)) (fun _ _ _ h => h) (Or.inl ⟨by rfl, ?_⟩) ?_ ?_
  rotate_left
  · intro w'
    go_simp
    try with_reducible rfl
  rotate_left
  · simp only [Act.put, List.setIfInBounds_toArray, List.set_cons_zero, List.set_cons_succ]
    rfl
  refine pure_ (i := 9) (N := some 81) (v := ?_) (a' := ?_) #[true, true, true, true, true, true, true, true, true, true, false, false, false, false, false, false, false, false] rfl rfl (any_of HT_.out (by kernel_rfl)) (fun _ _ _ h => h) (Or.inl ⟨by rfl, ?_⟩) ?_ ?_
  rotate_left
  · intro w'
    go_simp
    try with_reducible rfl
  rotate_left
  · simp only [Act.put, List.setIfInBounds_toArray, List.set_cons_zero, List.set_cons_succ]
    rfl
  refine pure_ (i := 10) (N := some 82) (v := ?_) (a' := ?_) #[true, true, true, true, true, true, true, true, true, true, true, false, false, false, false, false, false, false] rfl rfl (any_of HT_.out (by kernel_rfl)) (fun _ _ _ h => h) (Or.inl ⟨by rfl, ?_⟩) ?_ ?_
  rotate_left
  · intro w'
    go_simp
    try with_reducible rfl
  rotate_left
  · simp only [Act.put, List.setIfInBounds_toArray, List.set_cons_zero, List.set_cons_succ]
    rfl
  refine pure_ (i := 13) (N := some 85) (v := ?_) (a' := ?_) #[true, true, true, true, true, true, true, true, true, true, true, false, false, true, false, false, false, false] rfl rfl (any_of HT_.out (by kernel_rfl)) (fun _ _ _ h => h) (Or.inl ⟨by rfl, ?_⟩) ?_ ?_
  rotate_left
  · intro w'
    go_simp
    try with_reducible rfl
  rotate_left
  · simp only [Act.put, List.setIfInBounds_toArray, List.set_cons_zero, List.set_cons_succ]
    rfl
  refine take_ (i := 11) (N := some 83) (v := ?_) (a' := ?_) #[true, true, true, true, true, true, true, true, true, true, true, true, false, true, false, false, false, false] rfl rfl (take_ofW HT_.out HW_.out (by kernel_rfl)) (fun _ _ _ h => h) (Or.inl ⟨by rfl, ?_⟩) hHeld ?_ ?_
  rotate_left
  · rintro w' ⟨s0, s1, s2, s3⟩
    go_simp
    try with_reducible rfl
  rotate_left
  · simp only [Act.put, List.setIfInBounds_toArray, List.set_cons_zero, List.set_cons_succ]
    rfl
  refine pure_ (i := 12) (N := some 84) (v := ?_) (a' := ?_) #[true, true, true, true, true, true, true, true, true, true, true, true, true, true, false, false, false, false] rfl rfl (any_of HT_.out (by kernel_rfl)) (fun _ _ _ h => h) (Or.inl ⟨by rfl, ?_⟩) ?_ ?_
  rotate_left
  · intro w'
    go_simp
    try with_reducible rfl
  rotate_left
  · simp only [Act.put, List.setIfInBounds_toArray, List.set_cons_zero, List.set_cons_succ]
    rfl
  refine take_ (i := 14) (N := some 86) (v := ?_) (a' := ?_) #[true, true, true, true, true, true, true, true, true, true, true, true, true, true, true, false, false, false] rfl rfl (take_ofW HT_.out HW_.out (by kernel_rfl)) (fun _ _ _ h => h) (Or.inl ⟨by rfl, ?_⟩) hHeld ?_ ?_
  rotate_left
  · rintro w' ⟨s0, s1, s2, s3⟩
    go_simp
    try with_reducible rfl
  rotate_left
  · simp only [Act.put, List.setIfInBounds_toArray, List.set_cons_zero, List.set_cons_succ]
    rfl
  refine pure_ (i := 15) (N := some 87) (v := ?_) (a' := ?_) #[true, true, true, true, true, true, true, true, true, true, true, true, true, true, true, true, false, false] rfl rfl (any_of HT_.out (by kernel_rfl)) (fun _ _ _ h => h) (Or.inl ⟨by rfl, ?_⟩) ?_ ?_
  rotate_left
  · intro w'
    go_simp
    try with_reducible rfl
  rotate_left
  · simp only [Act.put, List.setIfInBounds_toArray, List.set_cons_zero, List.set_cons_succ]
    rfl
  refine pure_ (i := 16) (N := some 88) (v := ?_) (a' := ?_) #[true, true, true, true, true, true, true, true, true, true, true, true, true, true, true, true, true, false] rfl rfl (any_of HT_.out (by kernel_rfl)) (fun _ _ _ h => h) (Or.inl ⟨by rfl, ?_⟩) ?_ ?_
  rotate_left
  · intro w'
    go_simp
    try with_reducible rfl
  rotate_left
  · simp only [Act.put, List.setIfInBounds_toArray, List.set_cons_zero, List.set_cons_succ]
    rfl
  refine pure_ (i := 17) (N := some 71) (v := ?_) (a' := ?_) #[true, true, true, true, true, true, true, true, true, true, true, true, true, true, true, true, true, true] rfl rfl (any_of HT_.out (by kernel_rfl)) (fun _ _ _ h => h) (Or.inl ⟨by rfl, ?_⟩) ?_ ?_
  rotate_left
  · intro w'
    go_simp
    try with_reducible rfl
  rotate_left
  · simp only [Act.put, List.setIfInBounds_toArray, List.set_cons_zero, List.set_cons_succ]
    rfl
  refine done_ (done_of HT_.out (by kernel_rfl)) ?_
  clear HT_ HW_
  try simp only [hl, Bool.not_false, Bool.not_true]
  have M5 := Lib.hid M4.out.drew
  have P5 := Lib.hid P4.out.drew
  have X5 := Lib.hid X4.out.drew
  have B5 := Lib.hid (show Below w.heap.size w w4.drew from below_drewN B4.out 1)
  clear x1 x2 p1 p4 he hl
  obtain ⟨c5, c5'⟩ : w4.drew.cell? ⟨t.c, A, none⟩ = some (.bool false) ∧ A < L := by
    have hc := hm0 m HMI.out
    obtain ⟨⟨_, hc2⟩, hc3⟩ := hc
    rw [hA.out] at hc3
    have := (HM.out.c.drew.cell A)
    refine ⟨this.trans ?_, ?_⟩
    · simp [bls, hc3]
    · have := (List.getElem?_eq_some_iff.1 hc3).1; have := HM.out.l; have := hL.out; omega
  have x3 : w4.drew.cell? ⟨t.x, 3, none⟩ = some (.slice (some ⟨t.c, 0, none⟩) L L) := X5.out.cell 3
  have p3 : w4.drew.cell? ⟨gp, 3, none⟩ = some (.int .i64 (A : Nat)) := P5.out.cell 3
  have e3 : 0 ≤ (A : Int) ∧ (A : Int) < (L : Int) := by omega
  go_upto_region 13 with fail
  refine start_ (n := 9) (S := fun w' => w'.cell? ⟨t.x, 3, none⟩ = some (.slice (some ⟨t.c, 0, none⟩) L L) ∧ w'.cell? ⟨gp, 3, none⟩ = some (.int .i64 (A : Nat)) ∧ w'.cell? ⟨t.c, A, none⟩ = some (.bool false)) (ds := []) #[false, false, false, false, false, false, false, false, false] (by kernel_rfl) rfl rfl ⟨x3, p3, c5⟩ (fun hHeld => ?_)
  refine with_tabW tk13.tab tk13.bits (fun HT_ HW_ => ?_)
  refine pure_ (i := 0) (N := some 91) (v := ?_) (a' := ?_) #[true, false, false, false, false, false, false, false, false] rfl rfl (any_of HT_.out (by kernel_rfl)) (fun _ _ _ h => h) (Or.inl ⟨by rfl, ?_⟩) ?_ ?_
  rotate_left
  · intro w'
    go_simp
    try with_reducible rfl
  rotate_left
  · simp only [Act.put, List.setIfInBounds_toArray, List.set_cons_zero, List.set_cons_succ]
    rfl
  refine pure_ (i := 1) (N := some 92) (v := ?_) (a' := ?_) #[true, true, false, false, false, false, false, false, false] rfl rfl (any_of HT_.out (by kernel_rfl)) (fun _ _ _ h => h) (Or.inl ⟨by rfl, ?_⟩) ?_ ?_
  rotate_left
  · intro w'
    go_simp
    try with_reducible rfl
  rotate_left
  · simp only [Act.put, List.setIfInBounds_toArray, List.set_cons_zero, List.set_cons_succ]
    rfl
  refine pure_ (i := 2) (N := some 93) (v := ?_) (a' := ?_) #[true, true, true, false, false, false, false, false, false] rfl rfl (any_of HT_.out (by kernel_rfl)) (fun _ _ _ h => h) (Or.inl ⟨by rfl, ?_⟩) ?_ ?_
  rotate_left
  · intro w'
    go_simp
    try with_reducible rfl
  rotate_left
  · simp only [Act.put, List.setIfInBounds_toArray, List.set_cons_zero, List.set_cons_succ]
    rfl
  refine pure_ (i := 4) (N := some 95) (v := ?_) (a' := ?_) #[true, true, true, false, true, false, false, false, false] rfl rfl (any_of HT_.out (by kernel_rfl)) (fun _ _ _ h => h) (Or.inl ⟨by rfl, ?_⟩) ?_ ?_
  rotate_left
  · intro w'
    go_simp
    try with_reducible rfl
  rotate_left
  · simp only [Act.put, List.setIfInBounds_toArray, List.set_cons_zero, List.set_cons_succ]
    rfl
  refine take_ (i := 3) (N := some 94) (v := ?_) (a' := ?_) #[true, true, true, true, true, false, false, false, false] rfl rfl (take_ofW HT_.out HW_.out (by kernel_rfl)) (fun _ _ _ h => h) (Or.inl ⟨by rfl, ?_⟩) hHeld ?_ ?_
  rotate_left
  · rintro w' ⟨s0, s1, s2⟩
    go_simp
    try with_reducible rfl
  rotate_left
  · simp only [Act.put, List.setIfInBounds_toArray, List.set_cons_zero, List.set_cons_succ]
    rfl
  refine take_ (i := 5) (N := some 96) (v := ?_) (a' := ?_) #[true, true, true, true, true, true, false, false, false] rfl rfl (take_ofW HT_.out HW_.out (by kernel_rfl)) (fun _ _ _ h => h) (Or.inl ⟨by rfl, ?_⟩) hHeld ?_ ?_
  rotate_left
  · rintro w' ⟨s0, s1, s2⟩
    go_simp
    try with_reducible rfl
  rotate_left
  · simp only [Act.put, List.setIfInBounds_toArray, List.set_cons_zero, List.set_cons_succ]
    rfl
  refine pure_ (i := 6) (N := some 97) (v := ?_) (a' := ?_) #[true, true, true, true, true, true, true, false, false] rfl rfl (any_of HT_.out (by kernel_rfl)) (fun _ _ _ h => h) (Or.inl ⟨by rfl, ?_⟩) ?_ ?_
  rotate_left
  · intro w'
    go_simp
    try with_reducible rfl
  rotate_left
  · simp only [Act.put, List.setIfInBounds_toArray, List.set_cons_zero, List.set_cons_succ]
    rfl
  refine take_ (i := 7) (N := some 98) (v := ?_) (a' := ?_) #[true, true, true, true, true, true, true, true, false] rfl rfl (take_ofW HT_.out HW_.out (by kernel_rfl)) (fun _ _ _ h => h) (Or.inl ⟨by rfl, ?_⟩) hHeld ?_ ?_
  rotate_left
  · rintro w' ⟨s0, s1, s2⟩
    go_simp
    try with_reducible rfl
  rotate_left
  · simp only [Act.put, List.setIfInBounds_toArray, List.set_cons_zero, List.set_cons_succ]
    rfl
  refine pure_ (i := 8) (N := some 90) (v := ?_) (a' := ?_) #[true, true, true, true, true, true, true, true, true] rfl rfl (any_of HT_.out (by kernel_rfl)) (fun _ _ _ h => h) (Or.inl ⟨by rfl, ?_⟩) ?_ ?_
  rotate_left
  · intro w'
    go_simp
    try with_reducible rfl
  rotate_left
  · simp only [Act.put, List.setIfInBounds_toArray, List.set_cons_zero, List.set_cons_succ]
    rfl
  refine done_ (done_of HT_.out (by kernel_rfl)) ?_
  clear HT_ HW_
  have M6 := Lib.hid M5.out.drew
  have P6 := Lib.hid P5.out.drew
  have X6 := Lib.hid X5.out.drew
  have B6 := Lib.hid (show Below w.heap.size w w4.drew.drew from below_drewN B5.out 1)
  have J4' := Lib.hid (HJ.out.below B6.out)
  have hmm := hm0 m HMI.out
  have CAME := Lib.hid (show (bls m.came).toArray[A]? = some (Value.bool false) by have := hmm.2; rw [hA.out] at this; simp [bls, this])
  have ALT := Lib.hid c5'
  have XC : Hid (∀ W, Blk W t.x 72 (msC t m) → Blk W t.x 72 #[.string ⟨m.id.toArray⟩, .string mb, .slice (some ⟨t.p, 0, none⟩) L L, .slice (some ⟨t.c, 0, none⟩) L L, .int .i64 m.left]) := Lib.hid (fun W hW => by rw [← MB.out, ← hL.out]; exact hW)
  have J6 := J4'
  have K6 := Lib.hid (show Kp (JS j vS vN T) w w4.drew.drew from Kp.of_below B6.out)
  have LEFT := Lib.hid (show 1 ≤ m.left from hok m (List.mem_of_getElem? HMI.out))
  have TXT := Lib.hid (show p.text.length ≤ 200 by rw [← hp.out]; exact okP_text s HO.out)
  have KTR : Hid (∀ W W', Kp (JS j vS vN T) w W → Kp (fun i => i = t.x ∨ i = t.p ∨ i = t.c) W W' → Kp (JS j vS vN T) w W') := Lib.hid (fun W W' k1 k2 => k1.trans (k2.mono (fun i hi e => .inr (.inr (.inr ⟨t, List.mem_of_getElem? HT.out, e⟩)))))
  clear hmm c5 c5' x3 p3 e3 X4 X5 X6
  go_upto_region 15 with fail
  refine gworld (fun W => Hid (Blk W gt 36 zTold) ∧ Hid (Blk W gp 65 #[.string ib, .string sm, .string tb, .int .i64 (A : Nat), .int .i64 (N : Nat)]) ∧ Hid (JnA B W j vS vN T J) ∧ Hid (Kp (JS j vS vN T) w W)) ⟨M6, P6, J6, K6⟩ ?_
  rintro w7 ⟨M7, P7, J7, K7⟩
  have HM7 := Lib.hid (J7.out.ms i t m HT.out HMI.out)
  have X7 := Lib.hid (XC.out _ HM7.out.x)
  have x2 : w7.drew.cell? ⟨t.x, 2, none⟩ = some (.slice (some ⟨t.p, 0, none⟩) L L) := X7.out.cell 2
  have x3 : w7.drew.cell? ⟨t.x, 3, none⟩ = some (.slice (some ⟨t.c, 0, none⟩) L L) := X7.out.cell 3
  have p2 : w7.drew.cell? ⟨gp, 2, none⟩ = some (.string tb) := P7.out.cell 2
  have p3 : w7.drew.cell? ⟨gp, 3, none⟩ = some (.int .i64 (A : Nat)) := P7.out.cell 3
  have c5 : w7.cell? ⟨t.c, A, none⟩ = some (.bool false) := (HM7.out.c.cell A).trans CAME.out
  obtain ⟨ob, ho5⟩ : ∃ ob, w7.cell? ⟨t.p, A, none⟩ = some (.string ob) := by
    have hlt : A < m.pcs.length := by rw [hL.out]; exact ALT.out
    exact ⟨_, (HM7.out.p.cell A).trans (by simp [cstr, List.getElem?_eq_getElem hlt]; rfl)⟩
  have f5 : w7.frozen? ⟨t.p, A, none⟩ = false := HM7.out.p.frozen A
  have f6 : w7.frozen? ⟨t.c, A, none⟩ = false := HM7.out.c.frozen A
  have hpc : t.p ≠ t.c := fun e => absurd ((e ▸ HM7.out.p : Blk w7 t.c _ _).ty HM7.out.c).1 (by decide)
  have e3 : 0 ≤ (A : Int) ∧ (A : Int) < (L : Int) := by have := ALT.out; omega
  have e4 : A < L := ALT.out
  have S15 : (w7.setCell ⟨t.p, A, none⟩ (.string tb)).drew.cell? ⟨t.x, 2, none⟩ = some (.slice (some ⟨t.p, 0, none⟩) L L) ∧ (w7.setCell ⟨t.p, A, none⟩ (.string tb)).drew.cell? ⟨t.x, 3, none⟩ = some (.slice (some ⟨t.c, 0, none⟩) L L) ∧ (w7.setCell ⟨t.p, A, none⟩ (.string tb)).drew.cell? ⟨gp, 2, none⟩ = some (.string tb) ∧ (w7.setCell ⟨t.p, A, none⟩ (.string tb)).drew.cell? ⟨gp, 3, none⟩ = some (.int .i64 (A : Nat)) := by
    have q1 := X7.out.far (p := ⟨t.p, A, none⟩) (fun e => absurd ((e ▸ HM7.out.x : Blk w7 t.p _ _).ty HM7.out.p).1 (by decide)) (.string tb)
    have q2 := P7.out.far (p := ⟨t.p, A, none⟩) (fun e => absurd ((e ▸ P7.out : Blk w7 t.p _ _).ty HM7.out.p).1 (by decide)) (.string tb)
    exact ⟨q1.cell 2, q1.cell 3, q2.cell 2, q2.cell 3⟩
  refine start_ (n := 18) (S := fun w' => w'.cell? ⟨t.x, 2, none⟩ = some (.slice (some ⟨t.p, 0, none⟩) L L) ∧ w'.cell? ⟨t.x, 3, none⟩ = some (.slice (some ⟨t.c, 0, none⟩) L L) ∧ w'.cell? ⟨gp, 2, none⟩ = some (.string tb) ∧ w'.cell? ⟨gp, 3, none⟩ = some (.int .i64 (A : Nat))) (ds := [17]) #[false, false, false, false, false, false, false, false, false, false, false, false, false, false, false, false, false, false] (by kernel_rfl) rfl rfl ⟨x2, x3, p2, p3⟩ (fun hHeld => ?_)
  refine with_tabW tk15.tab tk15.bits (fun HT_ HW_ => ?_)
  refine pure_ (i := 0) (N := some 100) (v := ?_) (a' := ?_) #[true, false, false, false, false, false, false, false, false, false, false, false, false, false, false, false, false, false] rfl rfl (any_of HT_.out (by kernel_rfl)) (fun _ _ _ h => h) (Or.inl ⟨by rfl, ?_⟩) ?_ ?_
  rotate_left
  · intro w'
    go_simp
    try with_reducible rfl
  rotate_left
  · simp only [Act.put, List.setIfInBounds_toArray, List.set_cons_zero, List.set_cons_succ]
    rfl
  refine pure_ (i := 1) (N := some 101) (v := ?_) (a' := ?_) #[true, true, false, false, false, false, false, false, false, false, false, false, false, false, false, false, false, false] rfl rfl (any_of HT_.out (by kernel_rfl)) (fun _ _ _ h => h) (Or.inl ⟨by rfl, ?_⟩) ?_ ?_
  rotate_left
  · intro w'
    go_simp
    try with_reducible rfl
  rotate_left
  · simp only [Act.put, List.setIfInBounds_toArray, List.set_cons_zero, List.set_cons_succ]
    rfl
  refine pure_ (i := 2) (N := some 102) (v := ?_) (a' := ?_) #[true, true, true, false, false, false, false, false, false, false, false, false, false, false, false, false, false, false] rfl rfl (any_of HT_.out (by kernel_rfl)) (fun _ _ _ h => h) (Or.inl ⟨by rfl, ?_⟩) ?_ ?_
  rotate_left
  · intro w'
    go_simp
    try with_reducible rfl
  rotate_left
  · simp only [Act.put, List.setIfInBounds_toArray, List.set_cons_zero, List.set_cons_succ]
    rfl
  refine pure_ (i := 4) (N := some 104) (v := ?_) (a' := ?_) #[true, true, true, false, true, false, false, false, false, false, false, false, false, false, false, false, false, false] rfl rfl (any_of HT_.out (by kernel_rfl)) (fun _ _ _ h => h) (Or.inl ⟨by rfl, ?_⟩) ?_ ?_
  rotate_left
  · intro w'
    go_simp
    try with_reducible rfl
  rotate_left
  · simp only [Act.put, List.setIfInBounds_toArray, List.set_cons_zero, List.set_cons_succ]
    rfl
  refine pure_ (i := 6) (N := some 106) (v := ?_) (a' := ?_) #[true, true, true, false, true, false, true, false, false, false, false, false, false, false, false, false, false, false] rfl rfl (any_of HT_.out (by kernel_rfl)) (fun _ _ _ h => h) (Or.inl ⟨by rfl, ?_⟩) ?_ ?_
  rotate_left
  · intro w'
    go_simp
    try with_reducible rfl
  rotate_left
  · simp only [Act.put, List.setIfInBounds_toArray, List.set_cons_zero, List.set_cons_succ]
    rfl
  refine pure_ (i := 7) (N := some 107) (v := ?_) (a' := ?_) #[true, true, true, false, true, false, true, true, false, false, false, false, false, false, false, false, false, false] rfl rfl (any_of HT_.out (by kernel_rfl)) (fun _ _ _ h => h) (Or.inl ⟨by rfl, ?_⟩) ?_ ?_
  rotate_left
  · intro w'
    go_simp
    try with_reducible rfl
  rotate_left
  · simp only [Act.put, List.setIfInBounds_toArray, List.set_cons_zero, List.set_cons_succ]
    rfl
  refine pure_ (i := 8) (N := some 108) (v := ?_) (a' := ?_) #[true, true, true, false, true, false, true, true, true, false, false, false, false, false, false, false, false, false] rfl rfl (any_of HT_.out (by kernel_rfl)) (fun _ _ _ h => h) (Or.inl ⟨by rfl, ?_⟩) ?_ ?_
  rotate_left
  · intro w'
    go_simp
    try with_reducible rfl
  rotate_left
  · simp only [Act.put, List.setIfInBounds_toArray, List.set_cons_zero, List.set_cons_succ]
    rfl
  refine pure_ (i := 10) (N := some 110) (v := ?_) (a' := ?_) #[true, true, true, false, true, false, true, true, true, false, true, false, false, false, false, false, false, false] rfl rfl (any_of HT_.out (by kernel_rfl)) (fun _ _ _ h => h) (Or.inl ⟨by rfl, ?_⟩) ?_ ?_
  rotate_left
  · intro w'
    go_simp
    try with_reducible rfl
  rotate_left
  · simp only [Act.put, List.setIfInBounds_toArray, List.set_cons_zero, List.set_cons_succ]
    rfl
  refine pure_ (i := 12) (N := some 112) (v := ?_) (a' := ?_) #[true, true, true, false, true, false, true, true, true, false, true, false, true, false, false, false, false, false] rfl rfl (any_of HT_.out (by kernel_rfl)) (fun _ _ _ h => h) (Or.inl ⟨by rfl, ?_⟩) ?_ ?_
  rotate_left
  · intro w'
    go_simp
    try with_reducible rfl
  rotate_left
  · simp only [Act.put, List.setIfInBounds_toArray, List.set_cons_zero, List.set_cons_succ]
    rfl
  refine take_ (i := 3) (N := some 103) (v := ?_) (a' := ?_) #[true, true, true, true, true, false, true, true, true, false, true, false, true, false, false, false, false, false] rfl rfl (take_ofW HT_.out HW_.out (by kernel_rfl)) (fun _ _ _ h => h) (Or.inl ⟨by rfl, ?_⟩) hHeld ?_ ?_
  rotate_left
  · rintro w' ⟨s0, s1, s2, s3⟩
    go_simp
    try with_reducible rfl
  rotate_left
  · simp only [Act.put, List.setIfInBounds_toArray, List.set_cons_zero, List.set_cons_succ]
    rfl
  refine take_ (i := 5) (N := some 105) (v := ?_) (a' := ?_) #[true, true, true, true, true, true, true, true, true, false, true, false, true, false, false, false, false, false] rfl rfl (take_ofW HT_.out HW_.out (by kernel_rfl)) (fun _ _ _ h => h) (Or.inl ⟨by rfl, ?_⟩) hHeld ?_ ?_
  rotate_left
  · rintro w' ⟨s0, s1, s2, s3⟩
    go_simp
    try with_reducible rfl
  rotate_left
  · simp only [Act.put, List.setIfInBounds_toArray, List.set_cons_zero, List.set_cons_succ]
    rfl
  refine take_ (i := 9) (N := some 109) (v := ?_) (a' := ?_) #[true, true, true, true, true, true, true, true, true, true, true, false, true, false, false, false, false, false] rfl rfl (take_ofW HT_.out HW_.out (by kernel_rfl)) (fun _ _ _ h => h) (Or.inl ⟨by rfl, ?_⟩) hHeld ?_ ?_
  rotate_left
  · rintro w' ⟨s0, s1, s2, s3⟩
    go_simp
    try with_reducible rfl
  rotate_left
  · simp only [Act.put, List.setIfInBounds_toArray, List.set_cons_zero, List.set_cons_succ]
    rfl
  refine take_ (i := 11) (N := some 111) (v := ?_) (a' := ?_) #[true, true, true, true, true, true, true, true, true, true, true, true, true, false, false, false, false, false] rfl rfl (take_ofW HT_.out HW_.out (by kernel_rfl)) (fun _ _ _ h => h) (Or.inl ⟨by rfl, ?_⟩) hHeld ?_ ?_
  rotate_left
  · rintro w' ⟨s0, s1, s2, s3⟩
    go_simp
    try with_reducible rfl
  rotate_left
  · simp only [Act.put, List.setIfInBounds_toArray, List.set_cons_zero, List.set_cons_succ]
    rfl
  refine take_ (i := 13) (N := some 113) (v := ?_) (a' := ?_) #[true, true, true, true, true, true, true, true, true, true, true, true, true, true, false, false, false, false] rfl rfl (take_ofW HT_.out HW_.out (by kernel_rfl)) (fun _ _ _ h => h) (Or.inl ⟨by rfl, ?_⟩) hHeld ?_ ?_
  rotate_left
  · rintro w' ⟨s0, s1, s2, s3⟩
    go_simp
    try with_reducible rfl
  rotate_left
  · simp only [Act.put, List.setIfInBounds_toArray, List.set_cons_zero, List.set_cons_succ]
    rfl
  refine pure_ (i := 14) (N := some 114) (v := ?_) (a' := ?_) #[true, true, true, true, true, true, true, true, true, true, true, true, true, true, true, false, false, false] rfl rfl (any_of HT_.out (by kernel_rfl)) (fun _ _ _ h => h) (Or.inl ⟨by rfl, ?_⟩) ?_ ?_
  rotate_left
  · intro w'
    go_simp
    try with_reducible rfl
  rotate_left
  · simp only [Act.put, List.setIfInBounds_toArray, List.set_cons_zero, List.set_cons_succ]
    rfl
  refine one_ (i := 15) (N := none) #[true, true, true, true, true, true, true, true, true, true, true, true, true, true, true, true, false, false] rfl rfl (one_of HT_.out (by kernel_rfl)) (by decide) (fun K hK => ?_)
  refine skip_ (w1 := ?_) (by rfl) rfl ?_ ?_
  rotate_left
  · go_simp
    try rfl
  refine hK.out _ _ (S15) (fun hHeld => ?_)
  clear hK K
  refine pure_ (i := 16) (N := some 115) (v := ?_) (a' := ?_) #[true, true, true, true, true, true, true, true, true, true, true, true, true, true, true, true, true, false] rfl rfl (any_of HT_.out (by kernel_rfl)) (fun _ _ _ h => h) (Or.inl ⟨by rfl, ?_⟩) ?_ ?_
  rotate_left
  · intro w'
    go_simp
    try with_reducible rfl
  rotate_left
  · simp only [Act.put, List.setIfInBounds_toArray, List.set_cons_zero, List.set_cons_succ]
    rfl
  refine last_ (i := 17) (N := none) #[true, true, true, true, true, true, true, true, true, true, true, true, true, true, true, true, true, true] rfl rfl (one_of HT_.out (by kernel_rfl)) (by decide) (fun K hK => ?_)
  refine skip_ (w1 := ?_) (by rfl) rfl ?_ ?_
  rotate_left
  · go_simp
    try rfl
  refine hK.out _ _ ?_
  clear hK K
  refine done_ (done_of HT_.out (by kernel_rfl)) ?_
  clear HT_ HW_
  go_upto_region 16 with fail
  refine gworld (fun W => Hid (W = ((w7.setCell ⟨t.p, A, none⟩ (.string tb)).setCell ⟨t.c, A, none⟩ (.bool true)).drew)) (Lib.hid rfl) ?_
  rintro w8 HW8
  obtain ⟨l, hl⟩ : ∃ l, Hid (m.left = l) := ⟨_, Lib.hid rfl⟩
  have x4 : w8.cell? ⟨t.x, 4, none⟩ = some (.int .i64 l) := by
    rw [HW8.out, ← hl.out]
    exact (((X7.out.far (p := ⟨t.p, A, none⟩) (fun e => absurd ((e ▸ HM7.out.x : Blk w7 t.p _ _).ty HM7.out.p).1 (by decide)) (.string tb)).far (p := ⟨t.c, A, none⟩) (fun e => absurd ((e ▸ HM7.out.x : Blk w7 t.c _ _).ty HM7.out.c).1 (by decide)) (.bool true)).drew).cell 4
  have f4 : w8.frozen? ⟨t.x, 4, none⟩ = false := by
    rw [HW8.out]
    exact (((X7.out.far (p := ⟨t.p, A, none⟩) (fun e => absurd ((e ▸ HM7.out.x : Blk w7 t.p _ _).ty HM7.out.p).1 (by decide)) (.string tb)).far (p := ⟨t.c, A, none⟩) (fun e => absurd ((e ▸ HM7.out.x : Blk w7 t.c _ _).ty HM7.out.c).1 (by decide)) (.bool true)).drew).frozen 4
  have hl1 : 1 ≤ l ∧ l ≤ 11 := ⟨by rw [← hl.out]; exact LEFT.out, by rw [← hl.out]; exact HM7.out.lf.2⟩
  have hw : wrap64 (l - 1) = l - 1 := by unfold wrap64; omega
  have J9 : Hid (JnA B (w8.setCell ⟨t.x, 4, none⟩ (.int .i64 (l - 1))) j vS vN T { J with some := (J).some.set i (m.put p.at_ p.text) }) := by
    have h9 := (J7.out.piece HT.out HMI.out A p.text TXT.out LEFT.out).below (below_drewN (Below.refl _ _) 1)
    unfold putW at h9
    rw [TB.out, hl.out] at h9
    rw [← hA.out] at h9
    rw [HW8.out, ← hA.out]
    exact Lib.hid h9
  have K9 : Hid (Kp (JS j vS vN T) w (w8.setCell ⟨t.x, 4, none⟩ (.int .i64 (l - 1)))) := by
    rw [HW8.out]
    have k9 := (putW_kp w7 t A p.text (l - 1)).trans (Kp.of_below (below_drewN (Below.refl _ _) 1))
    unfold putW at k9
    rw [TB.out] at k9
    exact Lib.hid (KTR.out _ _ K7.out k9)
  have G9 : Hid (∀ g cs u, Blk w7 g u cs → u ∉ [9, 72, 4] → Blk (w8.setCell ⟨t.x, 4, none⟩ (.int .i64 (l - 1))) g u cs) := Lib.hid (fun g cs u hg hu => by
    rw [HW8.out]
    have k9 := (putW_kp w7 t A p.text (l - 1)).trans (Kp.of_below (below_drewN (Below.refl _ _) 1))
    unfold putW at k9
    rw [TB.out] at k9
    refine hg.kp k9 ?_
    rintro (e | e | e)
    · subst e; exact hu (by rw [(hg.ty HM7.out.x).1]; decide)
    · subst e; exact hu (by rw [(hg.ty HM7.out.p).1]; decide)
    · subst e; exact hu (by rw [(hg.ty HM7.out.c).1]; decide))
  have M9 := Lib.hid (G9.out _ _ _ M7.out (by decide))
  have P9 := Lib.hid (G9.out _ _ _ P7.out (by decide))
  clear HW8 G9 x2 x3 p2 p3 c5 ho5 f5 f6 hpc e3 e4 X7 M7 P7 J7 K7 HM7 hHeld
  by_cases hlast : 1 < l
  · have d1 : decide (0 < l - 1) = true := decide_eq_true (by omega)
    have e5 : 0 < l - 1 := by omega
    have HLAST := Lib.hid hlast
    clear hlast hl1
    go_upto_region 18 with fail
    clear x4 f4 hw d1 e5
    refine gworld (fun W => Hid (W = w8.setCell ⟨t.x, 4, none⟩ (.int .i64 (l - 1)))) (Lib.hid rfl) ?_
    rintro w9 HW9
    rw [← HW9.out] at J9 K9 M9 P9
    go_wp2_with (first
      | ((with_reducible refine gate_store (t := 36) (p := 4) (v := .tmp 128) rfl ?_); refine wpList_store_row rfl 36 (.tmp 4) (.tmp 128) rfl gt zTold rfl rfl 36 zTold M9.out size_told rfl one_ztold ?_))
    have MF := Lib.hid (M9.out.setRow zTold)
    refine bodyPost_ret (results_ctt rfl _ _ gt 36 _ (0, 0) _ rfl MF.out Tryd.underlying36 rfl rfl) rfl ?_
    rw [HTF.out]
    rw [show putIn J i (J.some[i]'hi) (ptOf s) = ({ J with some := J.some.set i (m.put p.at_ p.text) }, noTk 0) by
      rw [hme.out, hp.out]; unfold putIn; rw [if_pos (by rw [hl.out]; have := HLAST.out; omega)]]
    exact ⟨rfl, vS, vN, T, J9.out.kp (Kp.rowAt (S := fun i => i = gt) rfl zTold) (fun i hi e => J9.out.notIn M9.out (by decide) (e ▸ hi)), K9.out.row SG.out.1 zTold, fun i h => .inl h⟩
  · obtain rfl : l = 1 := by omega
    clear hlast hl1 hw
    go_upto_region 19 with fail
    clear x4 f4
    refine gworld (fun W => Hid (W = w8.setCell ⟨t.x, 4, none⟩ (.int .i64 (1 - 1)))) (Lib.hid rfl) ?_
    rintro w9 HW9
    rw [← HW9.out] at J9 K9 M9 P9
    obtain ⟨m2, hm2⟩ : ∃ m2, Hid (m.put p.at_ p.text = m2) := ⟨_, Lib.hid rfl⟩
    rw [hm2.out] at J9
    obtain ⟨J1, hJ1⟩ : ∃ J1, Hid (({ J with some := J.some.set i m2 } : Jn) = J1) := ⟨_, Lib.hid rfl⟩
    rw [hJ1.out] at J9
    have HI1 := Lib.hid (show i < J1.some.length by rw [← hJ1.out]; show i < (J.some.set i m2).length; rw [List.length_set]; exact HI.out)
    have HMI1 := Lib.hid (show J1.some[i]? = some m2 by rw [← hJ1.out]; show (J.some.set i m2)[i]? = _; rw [List.getElem?_set_self HI.out])
    have HSZ9 := Lib.hid (K9.out.size)
    have HCUT := Lib.hid (cutM_any B j (J1.noted : Nat) vN vS J1.most (T.map (·.x)) i w9 J9.out.hj (Nat.le_trans HB.out HSZ9.out) (by rw [← ptrX_eq]; exact J9.out.s) (by rw [List.length_map, J9.out.len]; exact HI1.out) (by rw [List.length_map, J9.out.len]; have := J9.out.bd; omega))
    go_wp2_with fail
    refine HCUT.out.mono ?_
    rintro e w10 ⟨rfl, v', hjb, hwin, hk10, hfr⟩
    have J10 := Lib.hid (J9.out.cut i HI1.out hjb hwin hk10)
    have HM9 := J9.out.ms i t m2 HT.out HMI1.out
    have HM10 := Lib.hid (HM9.kp hk10 (fun e => absurd ((e ▸ HM9.x : Blk w9 j _ _).ty J9.out.hj).1 (by decide)) (fun e => absurd ((e ▸ HM9.p : Blk w9 j _ _).ty J9.out.hj).1 (by decide)) (fun e => absurd ((e ▸ HM9.c : Blk w9 j _ _).ty J9.out.hj).1 (by decide)))
    have M10 := Lib.hid (M9.out.kp hk10 (fun e => absurd ((e ▸ M9.out : Blk w9 j _ _).ty J9.out.hj).1 (by decide)))
    have P10 := Lib.hid (P9.out.kp hk10 (fun e => absurd ((e ▸ P9.out : Blk w9 j _ _).ty J9.out.hj).1 (by decide)))
    have K10 := Lib.hid (K9.out.trans (hk10.mono (S' := JS j vS vN T) (fun i hi e => .inl e)))
    have FR := Lib.hid (show ∀ b, v'.ownBlock = some b → w.heap.size ≤ b from fun b hb => Nat.le_trans HSZ9.out (hfr b hb))
    have HL2 := Lib.hid (show m2.pcs.length = L by rw [← hm2.out, ← hL.out]; exact List.length_set)
    have HJO := Lib.hid (joined HM10.out)
    have x2 : w10.cell? ⟨t.x, 2, none⟩ = some (.slice (some ⟨t.p, 0, none⟩) m2.pcs.length m2.pcs.length) := HM10.out.x.cell 2
    rw [HL2.out] at HJO x2
    obtain ⟨bb, BB⟩ : ∃ x : ByteArray, Hid (⟨m2.pcs.flatten.toArray⟩ = x) := ⟨_, Lib.hid rfl⟩
    rw [BB.out] at HJO
    have HFL := Lib.hid (flatten_le m2.pcs HM10.out.sz)
    have HN2 := Lib.hid HM10.out.n
    have CUTS := Lib.hid (show ∀ k, JS j v' vN (T.eraseIdx i) k → JS j vS vN T k ∨ w.heap.size ≤ k from fun k hk => by
      rcases hk with e | e | e | ⟨u, hu, e⟩
      · exact .inl (.inl e)
      · exact .inr (FR.out k e)
      · exact .inl (.inr (.inr (.inl e)))
      · exact .inl (.inr (.inr (.inr ⟨u, (List.eraseIdx_sublist T i).subset hu, e⟩))))
    clear hjb hwin hk10 hfr HM9 M9 P9 K9 J9 HCUT HW9
    go_upto_region 20 with fail
    go_wp2_with fail
    refine HJO.out.mono ?_
    rintro e w11 ⟨rfl, b11⟩
    have J11 := Lib.hid ((J10.out.below b11).below (below_drewN (Below.refl _ _) 1))
    have M11 := Lib.hid (M10.out.below b11 M10.out.lt).drew
    have P11 := Lib.hid (P10.out.below b11 P10.out.lt).drew
    have K11 := Lib.hid (show Kp (JS j vS vN T) w w11.drew from K10.out.trans ((Kp.of_below b11).trans (Kp.of_below (below_drewN (Below.refl _ _) 1))))
    obtain ⟨dg, DG⟩ : ∃ x, Hid (digL p.id m2.pcs.flatten = x) := ⟨_, Lib.hid rfl⟩
    obtain ⟨rb, RB⟩ : ∃ x : ByteArray, Hid (⟨dg.toArray⟩ = x) := ⟨_, Lib.hid rfl⟩
    have HBB := Lib.hid (show Below B w w11.drew from K11.out.below (fun i hi => (HJ.out.lt hi).1) HB.out)
    have HDG := Lib.hid (digest_any p.id m2.pcs.flatten w11.drew (by rw [← hp.out]; exact ptOf_id s) (by have := HFL.out; have := HN2.out; omega) (HK.out.belowB HKS.out HBB.out) (Nat.lt_of_lt_of_le HKS.out (Nat.le_trans HB.out K11.out.size)))
    rw [DG.out, IB.out, BB.out, RB.out] at HDG
    have p0 : w11.drew.cell? ⟨gp, 0, none⟩ = some (.string ib) := P11.out.cell 0
    have p1 : w11.drew.cell? ⟨gp, 1, none⟩ = some (.string sm) := P11.out.cell 1
    have HE := Lib.hid (show (rb.toList == sm.toList) = decide (dg = p.sum) by rw [← RB.out, ← SM.out, ByteArray.toList_eq, ByteArray.toList_eq]; exact beq_dec dg p.sum)
    clear b11 J10 M10 P10 K10 x2 HJO HBB
    go_upto_region 21 with fail
    refine start_ (n := 7) (S := fun w' => w'.cell? ⟨gp, 0, none⟩ = some (.string ib) ∧ w'.cell? ⟨gp, 1, none⟩ = some (.string sm)) (ds := []) #[false, false, false, false, false, false, false] (by kernel_rfl) rfl rfl ⟨p0, p1⟩ (fun hHeld => ?_)
    refine with_tabW tk21.tab tk21.bits (fun HT_ HW_ => ?_)
    refine pure_ (i := 0) (N := some 139) (v := ?_) (a' := ?_) #[true, false, false, false, false, false, false] rfl rfl (any_of HT_.out (by kernel_rfl)) (fun _ _ _ h => h) (Or.inl ⟨by rfl, ?_⟩) ?_ ?_
    rotate_left
    · intro w'
      go_simp
      try with_reducible rfl
    rotate_left
    · simp only [Act.put, List.setIfInBounds_toArray, List.set_cons_zero, List.set_cons_succ]
      rfl
    refine pure_ (i := 2) (N := some 141) (v := ?_) (a' := ?_) #[true, false, true, false, false, false, false] rfl rfl (any_of HT_.out (by kernel_rfl)) (fun _ _ _ h => h) (Or.inl ⟨by rfl, ?_⟩) ?_ ?_
    rotate_left
    · intro w'
      go_simp
      try with_reducible rfl
    rotate_left
    · simp only [Act.put, List.setIfInBounds_toArray, List.set_cons_zero, List.set_cons_succ]
      rfl
    refine pure_ (i := 4) (N := some 143) (v := ?_) (a' := ?_) #[true, false, true, false, true, false, false] rfl rfl (any_of HT_.out (by kernel_rfl)) (fun _ _ _ h => h) (Or.inl ⟨by rfl, ?_⟩) ?_ ?_
    rotate_left
    · intro w'
      go_simp
      try with_reducible rfl
    rotate_left
    · simp only [Act.put, List.setIfInBounds_toArray, List.set_cons_zero, List.set_cons_succ]
      rfl
    refine take_ (i := 1) (N := some 140) (v := ?_) (a' := ?_) #[true, true, true, false, true, false, false] rfl rfl (take_ofW HT_.out HW_.out (by kernel_rfl)) (fun _ _ _ h => h) (Or.inl ⟨by rfl, ?_⟩) hHeld ?_ ?_
    rotate_left
    · rintro w' ⟨s0, s1⟩
      go_simp
      try with_reducible rfl
    rotate_left
    · simp only [Act.put, List.setIfInBounds_toArray, List.set_cons_zero, List.set_cons_succ]
      rfl
    refine take_ (i := 5) (N := some 144) (v := ?_) (a' := ?_) #[true, true, true, false, true, true, false] rfl rfl (take_ofW HT_.out HW_.out (by kernel_rfl)) (fun _ _ _ h => h) (Or.inl ⟨by rfl, ?_⟩) hHeld ?_ ?_
    rotate_left
    · rintro w' ⟨s0, s1⟩
      go_simp
      try with_reducible rfl
    rotate_left
    · simp only [Act.put, List.setIfInBounds_toArray, List.set_cons_zero, List.set_cons_succ]
      rfl
    refine one_ (i := 3) (N := some 142) #[true, true, true, true, true, true, false] rfl rfl (one_of HT_.out (by kernel_rfl)) (by decide) (fun K hK => ?_)
    refine goes_ Tryd.func19 (by kernel_rfl) rfl #[.string ib, .string bb] (by rfl) rfl rfl (by first | done | rfl | (simp only [List.map_toArray, List.map_cons, List.map_nil]; done) | (simp only [List.map_toArray, List.map_cons, List.map_nil]; rfl)) ?_
    refine (HDG.out).mono ?_
    rintro e' w12 ⟨rfl, b12⟩
    refine ⟨_, rfl, ?_⟩
    refine hK.out _ _ (⟨(P11.out.below b12 P11.out.lt).cell 0, (P11.out.below b12 P11.out.lt).cell 1⟩) (fun hHeld => ?_)
    clear hK K
    refine norm_ (a' := ?_) ?_ ?_
    rotate_left
    · show Act.put _ (some 142) _ = _
      simp only [Act.put, List.setIfInBounds_toArray, List.set_cons_zero, List.set_cons_succ]
      rfl
    refine pure_ (i := 6) (N := some 145) (v := ?_) (a' := ?_) #[true, true, true, true, true, true, true] rfl rfl (any_of HT_.out (by kernel_rfl)) (fun _ _ _ h => h) (Or.inl ⟨by rfl, ?_⟩) ?_ ?_
    rotate_left
    · intro w'
      go_simp
      try with_reducible rfl
    rotate_left
    · simp only [Act.put, List.setIfInBounds_toArray, List.set_cons_zero, List.set_cons_succ]
      rfl
    refine done_ (done_of HT_.out (by kernel_rfl)) ?_
    clear HT_ HW_
    have J12 := Lib.hid (J11.out.below b12)
    have M12 := Lib.hid (M11.out.below b12 M11.out.lt)
    have P12 := Lib.hid (P11.out.below b12 P11.out.lt)
    have K12 := Lib.hid (K11.out.trans (Kp.of_below b12))
    clear b12 J11 M11 P11 K11 p0 p1 HDG hHeld
    have he := HE.out
    by_cases hd : dg = p.sum
    · have HD := Lib.hid hd
      rw [decide_eq_true hd] at he
      clear hd
      try simp only [he, Bool.not_false, Bool.not_true]
      go_upto_region 23 with fail
      have J12d := Lib.hid (J12.out.below (below_drewN (Below.refl _ _) 1))
      have HPUT := Lib.hid (putT_any B j (J1.most : Nat) v' vN J1.noted J1.done p.id w12.drew J12d.out.hj (Nat.le_trans HB.out K12.out.size) J12d.out.n J12d.out.bd.2.1 J12d.out.bd.2.2.2)
      rw [IB.out] at HPUT
      have NGP := Lib.hid (show ¬ (gp = j ∨ vN.ownBlock = some gp) from fun e => J12.out.notIn P12.out (by decide) (e.elim .inl (fun e => .inr (.inr (.inl e)))))
      have p0 : w12.drew.cell? ⟨gp, 0, none⟩ = some (.string ib) := P12.out.cell 0
      refine start_ (n := 6) (S := fun w' => w'.cell? ⟨gp, 0, none⟩ = some (.string ib)) (ds := []) #[false, false, false, false, false, false] (by kernel_rfl) rfl rfl p0 (fun hHeld => ?_)
      refine with_tabW tk23.tab tk23.bits (fun HT_ HW_ => ?_)
      refine pure_ (i := 0) (N := some 147) (v := ?_) (a' := ?_) #[true, false, false, false, false, false] rfl rfl (any_of HT_.out (by kernel_rfl)) (fun _ _ _ h => h) (Or.inl ⟨by rfl, ?_⟩) ?_ ?_
      rotate_left
      · intro w'
        go_simp
        try with_reducible rfl
      rotate_left
      · simp only [Act.put, List.setIfInBounds_toArray, List.set_cons_zero, List.set_cons_succ]
        rfl
      refine pure_ (i := 1) (N := some 148) (v := ?_) (a' := ?_) #[true, true, false, false, false, false] rfl rfl (any_of HT_.out (by kernel_rfl)) (fun _ _ _ h => h) (Or.inl ⟨by rfl, ?_⟩) ?_ ?_
      rotate_left
      · intro w'
        go_simp
        try with_reducible rfl
      rotate_left
      · simp only [Act.put, List.setIfInBounds_toArray, List.set_cons_zero, List.set_cons_succ]
        rfl
      refine pure_ (i := 2) (N := some 149) (v := ?_) (a' := ?_) #[true, true, true, false, false, false] rfl rfl (any_of HT_.out (by kernel_rfl)) (fun _ _ _ h => h) (Or.inl ⟨by rfl, ?_⟩) ?_ ?_
      rotate_left
      · intro w'
        go_simp
        try with_reducible rfl
      rotate_left
      · simp only [Act.put, List.setIfInBounds_toArray, List.set_cons_zero, List.set_cons_succ]
        rfl
      refine pure_ (i := 3) (N := some 150) (v := ?_) (a' := ?_) #[true, true, true, true, false, false] rfl rfl (any_of HT_.out (by kernel_rfl)) (fun _ _ _ h => h) (Or.inl ⟨by rfl, ?_⟩) ?_ ?_
      rotate_left
      · intro w'
        go_simp
        try with_reducible rfl
      rotate_left
      · simp only [Act.put, List.setIfInBounds_toArray, List.set_cons_zero, List.set_cons_succ]
        rfl
      refine take_ (i := 4) (N := some 151) (v := ?_) (a' := ?_) #[true, true, true, true, true, false] rfl rfl (take_ofW HT_.out HW_.out (by kernel_rfl)) (fun _ _ _ h => h) (Or.inl ⟨by rfl, ?_⟩) hHeld ?_ ?_
      rotate_left
      · rintro w' s0
        go_simp
        try with_reducible rfl
      rotate_left
      · simp only [Act.put, List.setIfInBounds_toArray, List.set_cons_zero, List.set_cons_succ]
        rfl
      refine one_ (i := 5) (N := some 152) #[true, true, true, true, true, true] rfl rfl (one_of HT_.out (by kernel_rfl)) (by decide) (fun K hK => ?_)
      refine goes_ Tryd.func28 (by kernel_rfl) rfl #[.pointer (some ⟨j, 2, none⟩), .string ib] (by rfl) rfl rfl (by first | done | rfl | (simp only [List.map_toArray, List.map_cons, List.map_nil]; done) | (simp only [List.map_toArray, List.map_cons, List.map_nil]; rfl)) ?_
      refine (HPUT.out).mono ?_
      rintro e' w13 ⟨rfl, v2, hj13, hw13, hk13, hv13⟩
      refine ⟨_, rfl, ?_⟩
      refine hK.out _ _ ((P12.out.drew.kp hk13 NGP.out).cell 0) (fun hHeld => ?_)
      clear hK K
      refine norm_ (a' := ?_) ?_ ?_
      rotate_left
      · show Act.put _ (some 152) _ = _
        simp only [Act.put, List.setIfInBounds_toArray, List.set_cons_zero, List.set_cons_succ]
        rfl
      refine done_ (done_of HT_.out (by kernel_rfl)) ?_
      clear HT_ HW_
      have J13 := Lib.hid (J12d.out.noted p.id hj13 hw13 hk13 hv13)
      have M13 := Lib.hid (M12.out.drew.kp hk13 (fun e => J12.out.notIn M12.out (by decide) (e.elim .inl (fun e => .inr (.inr (.inl e))))))
      have P13 := Lib.hid (P12.out.drew.kp hk13 NGP.out)
      have K13 := Lib.hid (K12.out.drewR.trans (hk13.mono (S' := JS j vS vN T) (fun i hi e => e.elim .inl (fun e => .inr (.inr (.inl e))))))
      have CUT2 := Lib.hid (show ∀ k, JS j v' v2 (T.eraseIdx i) k → JS j vS vN T k ∨ w.heap.size ≤ k from fun k hk => by
        rcases hk with e | e | e | e
        · exact CUTS.out k (.inl e)
        · exact CUTS.out k (.inr (.inl e))
        · rcases hv13 with h | ⟨b, h, hb⟩
          · exact CUTS.out k (.inr (.inr (.inl (h ▸ e))))
          · rw [h] at e; cases e; exact .inr (Nat.le_trans K12.out.size hb)
        · exact CUTS.out k (.inr (.inr (.inr e))))
      have q0 : w13.cell? ⟨gp, 0, none⟩ = some (.string ib) := P13.out.cell 0
      clear hj13 hw13 hk13 hv13 hHeld p0 HPUT
      go_wp2_with (first
        | ((with_reducible refine gate_store (t := 36) (p := 4) (v := .tmp 156) rfl ?_); refine wpList_store_row rfl 36 (.tmp 4) (.tmp 156) rfl gt #[.string ib, .string bb] rfl rfl 36 zTold M13.out size_told rfl (one_told2 _ _) ?_))
      have MF := Lib.hid (M13.out.setRow #[.string ib, .string bb])
      refine bodyPost_ret (results_ctt rfl _ _ gt 36 _ (0, 0) _ rfl MF.out Tryd.underlying36 rfl rfl) rfl ?_
      rw [HTF.out]
      rw [show putIn J i (J.some[i]'hi) (ptOf s) = ({ J1 with some := J1.some.eraseIdx i, done := pushQ J1.noted J1.done p.id }, ⟨p.id, m2.pcs.flatten, true, 0⟩) by
        rw [hme.out, hp.out]; unfold putIn lastIn; rw [if_neg (by rw [hl.out]; omega), hm2.out, DG.out, if_pos HD.out, hJ1.out]]
      exact ⟨by show _ = Ending.returned (.tuple #[.agg #[.string ⟨p.id.toArray⟩, .string ⟨m2.pcs.flatten.toArray⟩], .bool true, .int .i64 0]); rw [IB.out, BB.out]; rfl, v', v2, T.eraseIdx i, J13.out.kp (Kp.rowAt (S := fun i => i = gt) rfl _) (fun i hi e => J13.out.notIn M13.out (by decide) (e ▸ hi)), K13.out.row SG.out.1 _, CUT2.out⟩
    · have HD := Lib.hid hd
      rw [decide_eq_false hd] at he
      clear hd
      try simp only [he, Bool.not_false, Bool.not_true]
      go_wp2_with (first
        | ((with_reducible refine gate_store (t := 36) (p := 4) (v := .tmp 146) rfl ?_); refine wpList_store_row rfl 36 (.tmp 4) (.tmp 146) rfl gt zTold rfl rfl 36 zTold M12.out size_told rfl one_ztold ?_))
      have MF := Lib.hid (M12.out.setRow zTold)
      refine bodyPost_ret (results_ctt rfl _ _ gt 36 _ (0, 0) _ rfl MF.out Tryd.underlying36 rfl rfl) rfl ?_
      rw [HTF.out]
      rw [show putIn J i (J.some[i]'hi) (ptOf s) = ({ J1 with some := J1.some.eraseIdx i }, noTk 220) by
        rw [hme.out, hp.out]; unfold putIn lastIn; rw [if_neg (by rw [hl.out]; omega), hm2.out, DG.out, if_neg HD.out, hJ1.out]]
      exact ⟨rfl, v', vN, T.eraseIdx i, J12.out.kp (Kp.rowAt (S := fun i => i = gt) rfl zTold) (fun i hi e => J12.out.notIn M12.out (by decide) (e ▸ hi)), K12.out.row SG.out.1 zTold, CUTS.out⟩
end Go.Proofs.YtlogcgeinbefjaaDoor
namespace Go.Proofs.YtlogcgeinbefjaaDoor
open Go.RowKit Go.Proofs.YtlogcgeinbefjaaDoorW.PrintWords Go.Proofs.YtlogcgeinbefjaaDoorW.PrintLast
set_option linter.unusedSimpArgs false
set_option linter.unusedVariables false
set_option maxRecDepth 20000

theorem Kp.trans2 {S S' : Nat → Prop} {w w' w'' : World} (h : Kp S w w') (k : Kp S' w' w'') (hs : ∀ i, i < w.heap.size → S' i → S i) : Kp S w w'' :=
  ⟨k.os.trans h.os, k.tape.trans h.tape, k.output.trans h.output, Nat.le_trans h.size k.size, fun i hi hn => (k.block i (Nat.lt_of_lt_of_le hi h.size) (fun e => hn (hs i hi e))).trans (h.block i hi hn)⟩
theorem Blk.newAt (w : World) (t : TypeId) (cs : Array Value) (g : Nat) (h : g = w.heap.size) : Blk (w.alloc (.cells cs t)) g t cs := h ▸ Blk.new w t cs
theorem pushQ_last {α : Type} (m : Nat) (xs : List α) (x : α) : (pushQ m xs x)[(pushQ m xs x).length - 1]? = some x := by
  unfold pushQ
  rw [List.length_append, List.length_singleton, Nat.add_sub_cancel, List.getElem?_append_right (Nat.le_refl _), Nat.sub_self]
  rfl
theorem step_make_run {P : Program} {w w' : World} {ops : Array Oper} {o : Oper} {a : Act} {K : Act → World → Prop} {Q : Exit → Act → World → Prop} {E : Prop} {v sv xv : Value} (hgd : o.guard = none) (s x : Operand) (t : TypeId)
    (ho : o.op = .makeSlice t s x) (hs : a.eval s = sv) (hx : a.eval x = xv) (hrun : (Instr.makeSlice t sv xv).run P w = .ok v w') (h : K (a.put o.dst v) w') : if Region.wanted o (yielded ops a.tmps) = true then Oper.wp P o a w K Q else E := by
  have hw : Region.wanted o (yielded ops a.tmps) = true := by simp [Region.wanted, hgd]
  rw [if_pos hw]
  unfold Oper.wp execOp
  simp only [ho, Sem.run_bind, Sem.run_pure, Result.andThen_ok, hs, hx, hrun]
  exact h
theorem elemBo : Elem Tryd.prog 30 4 (.bool false) 1 := ⟨Tryd.underlying30, by kernel_rfl, by rfl⟩
theorem make_exact {P : Program} {t e : TypeId} {z : Value} {by_ : Nat} (he : Elem P t e z by_) (n : Nat) (hn : by_ * n ≤ 281474976710656) (hl : n ≤ 9223372036854775807) (W : World) (cs : Array Value) (hcs : (madeCells z.cells n) = cs) :
    (Instr.makeSlice t (.int .i64 (n : Nat)) (.int .i64 (n : Nat))).run P W = .ok (.slice (some ⟨W.heap.size, 0, none⟩) n n) (W.alloc (.cells cs e)) := by
  obtain ⟨i, hi, hz, hs, hby⟩ := info_parts he.2.1
  have := run_make (P := P) W t e i z he.1 hi hz .i64 .i64 (n : Int) (n : Int) (by omega) (by omega) (by rw [hby, ← Int.natCast_mul]; omega) (by omega)
  rw [Int.toNat_natCast, hs, Nat.mul_one, hcs] at this
  exact this
theorem mk_str (N : Nat) (hN : N ≤ 11) (W : World) : (Instr.makeSlice 22 (.int .i64 (N : Nat)) (.int .i64 (N : Nat))).run Tryd.prog W = .ok (.slice (some ⟨W.heap.size, 0, none⟩) N N) (W.alloc (.cells (cstr (List.replicate N [])).toArray 9)) :=
  make_exact elemTx N (by omega) (by omega) W _ (by
    apply Array.toList_inj.1
    have := toList_madeCells_one (.string ⟨#[]⟩) N
    rw [show (Value.string ⟨#[]⟩).cells = #[Value.string ⟨#[]⟩] from rfl]
    simpa [cstr] using this)
theorem mk_bool (N : Nat) (hN : N ≤ 11) (W : World) : (Instr.makeSlice 30 (.int .i64 (N : Nat)) (.int .i64 (N : Nat))).run Tryd.prog W = .ok (.slice (some ⟨W.heap.size, 0, none⟩) N N) (W.alloc (.cells (bls (List.replicate N false)).toArray 4)) :=
  make_exact elemBo N (by omega) (by omega) W _ (by
    apply Array.toList_inj.1
    have := toList_madeCells_one (.bool false) N
    rw [show (Value.bool false).cells = #[Value.bool false] from rfl]
    simpa [bls] using this)
theorem okP_many (s : List UInt8) (h : okP s = true) : 1 ≤ (ptOf s).many ∧ (ptOf s).many ≤ 11 ∧ (ptOf s).at_ < (ptOf s).many := by
  unfold okP at h
  simp only [Bool.and_eq_true, decide_eq_true_eq] at h
  exact h.1.2
set_option maxHeartbeats 1600000 in
theorem take_new (B j : Nat) (vS0 vN : Value) (T0 : List Pl) (J0 : Jn) (s : List UInt8) (w : World) (h : JnA B w j vS0 vN T0 J0) (hs : s.length ≤ 140737488355328) (ho : okP s = true) (hd : J0.done.any (fun x => x == (ptOf s).id) = false) (hF : fstI (fun m : Ms => m.id == (ptOf s).id) J0.some = -1) (hB : B ≤ w.heap.size) (hk : KsAt w) (hks : 1 < B) :
    Calls Tryd.prog 15 #[.pointer (some ⟨j, 0, none⟩), .string ⟨s.toArray⟩] w fun e w' => TkOut B j vS0 vN T0 (takeF J0 s).1 (takeF J0 s).2 w w' e := by
  have hp0 := hd
  have hF0 := hF
  have HR := Lib.hid (fun W => read_any s W hs)
  have HO := Lib.hid ho
  obtain ⟨sb, SB⟩ : ∃ t : ByteArray, Hid (⟨s.toArray⟩ = t) := ⟨_, Lib.hid rfl⟩
  rw [SB.out] at HR ⊢
  have HJ := Lib.hid h
  obtain ⟨p, hp⟩ : ∃ p, Hid (ptOf s = p) := ⟨_, Lib.hid rfl⟩
  rw [hp.out] at hp0
  obtain ⟨ib, IB⟩ : ∃ t : ByteArray, Hid (⟨p.id.toArray⟩ = t) := ⟨_, Lib.hid rfl⟩
  obtain ⟨sm, SM⟩ : ∃ t : ByteArray, Hid (⟨p.sum.toArray⟩ = t) := ⟨_, Lib.hid rfl⟩
  obtain ⟨tb, TB⟩ : ∃ t : ByteArray, Hid (⟨p.text.toArray⟩ = t) := ⟨_, Lib.hid rfl⟩
  obtain ⟨A, hA⟩ : ∃ n, Hid (p.at_ = n) := ⟨_, Lib.hid rfl⟩
  obtain ⟨N, hN⟩ : ∃ n, Hid (p.many = n) := ⟨_, Lib.hid rfl⟩
  have HPC := Lib.hid (show ptC p = #[.string ib, .string sm, .string tb, .int .i64 (A : Nat), .int .i64 (N : Nat)] by unfold ptC; rw [IB.out, SM.out, TB.out, hA.out, hN.out])
  have HCON : Hid (∀ W, Win 9 W B vN (cstr J0.done) → Calls Tryd.prog 22 #[vN, .string ib] W fun e w' => e = .returned (.bool false) ∧ w' = W) := Lib.hid (fun W hW => by
    have := containsT_any B vN J0.done p.id W hW (by have := h.bd; omega)
    rw [IB.out, hp0] at this; exact this)
  have HIX : Hid (∀ (W : World) (g : Nat), JnA B W j vS0 vN T0 J0 → Blk W g 65 #[.string ib, .string sm, .string tb, .int .i64 (A : Nat), .int .i64 (N : Nat)] → Calls Tryd.prog 23 #[vS0, .func (Fn.func 24) #[] #[.pointer (some ⟨g, 0, none⟩)]] W fun e w' => e = .returned (.int .i64 (-1)) ∧ Below W.heap.size W w') := Lib.hid (fun W g hW hg => by
    have := indexM_any B j vS0 vN T0 J0 g p.id _ W hW hg (by rw [← IB.out]; rfl)
    rw [← hp.out, hF] at this; exact this)
  have HB := Lib.hid hB
  have HK := Lib.hid hk
  have HKS := Lib.hid hks
  have HTF0 := Lib.hid (show takeF J0 s = putIn { J0 with some := pushQ J0.most J0.some (freshM p) } ((pushQ J0.most J0.some (freshM p)).length - 1) (freshM p) p by
    unfold takeF
    rw [ho, hd, hF, hp.out]
    rw [if_pos rfl, if_neg (by simp)]
    split <;> simp)
  have HNN := Lib.hid (show 1 ≤ N ∧ N ≤ 11 by rw [← hN.out, ← hp.out]; exact ⟨(okP_many s ho).1, (okP_many s ho).2.1⟩)
  have ALN := Lib.hid (show A < N by rw [← hN.out, ← hA.out, ← hp.out]; exact (okP_many s ho).2.2)
  clear h hs ho hd hp0 hF hF0 hB hk hks
  go_enter Tryd.func15, Tryd.ntmps15
  go_upto_region 1 with fail
  obtain ⟨gt, hgt⟩ : ∃ g, Hid (w.heap.size = g) := ⟨_, Lib.hid rfl⟩
  refine gworld (fun W => Hid (Blk W gt 36 zTold) ∧ Hid (Below w.heap.size w W)) ⟨Lib.hid (by rw [← hgt.out]; exact Blk.new _ _ _), Lib.hid ((Below.refl _ _).alloc (Nat.le_refl _) _)⟩ ?_
  rintro w0 ⟨M0, B0⟩
  rw [hgt.out]
  go_wp2_with fail
  refine (HR.out w0).mono ?_
  rintro e w1 ⟨b1, cs, hcs, hone, rfl, hcp⟩
  have hcp2 := hcp HO.out
  rw [hp.out, HPC.out] at hcp2
  subst hcp2
  clear hcp
  have HONE := Lib.hid hone
  have B1 := Lib.hid (B0.out.trans (b1.mono B0.out.size))
  have M1 := Lib.hid (M0.out.below b1 M0.out.lt)
  rw [HO.out]
  clear hcs hone b1
  go_upto_region 2 with (first
    | ((with_reducible refine gate_store (t := 65) (p := 7) (v := .tmp 15) rfl ?_); refine wpList_store_row rfl 65 (.tmp 7) (.tmp 15) rfl w1.heap.size #[.string ib, .string sm, .string tb, .int .i64 (A : Nat), .int .i64 (N : Nat)] rfl rfl 65 zPt (Blk.new w1 65 zPt) size_part rfl HONE.out ?_))
  obtain ⟨gp, hgp⟩ : ∃ g, Hid (w1.heap.size = g) := ⟨_, Lib.hid rfl⟩
  refine gworld (fun W => Hid (Blk W gt 36 zTold) ∧ Hid (Blk W gp 65 #[.string ib, .string sm, .string tb, .int .i64 (A : Nat), .int .i64 (N : Nat)]) ∧ Hid (Below w.heap.size w W)) ⟨Lib.hid ((M1.out.alloc (.cells zPt 65)).grown (row := some w1.heap.size) (only_setRow (only_refl _ _) _) (by have := M1.out.lt; intro h; cases h; omega)), Lib.hid (by rw [← hgp.out]; exact (Blk.new w1 65 zPt).setRow _), Lib.hid (below_of_only (B1.out.alloc B1.out.size _) (only_setRow (only_refl _ _) _) B1.out.size (by simp; exact Nat.le_succ_of_le B1.out.size))⟩ ?_
  rintro w2 ⟨M2, P2, B2⟩
  rw [hgp.out]
  have SG := Lib.hid (show w.heap.size ≤ gt ∧ w.heap.size ≤ gp from ⟨by rw [← hgt.out]; exact Nat.le_refl _, by rw [← hgp.out]; exact B1.out.size⟩)
  clear M1 B1 M0 B0 HONE
  have J2 := Lib.hid (HJ.out.below B2.out)
  have n3 : w2.drew.cell? ⟨j, 3, none⟩ = some vN := J2.out.hj.cell 3
  have p0 : w2.drew.cell? ⟨gp, 0, none⟩ = some (.string ib) := P2.out.cell 0
  go_upto_region 4 with fail
  refine start_ (n := 8) (S := fun w' => w'.cell? ⟨j, 3, none⟩ = some vN ∧ w'.cell? ⟨gp, 0, none⟩ = some (.string ib)) (ds := []) #[false, false, false, false, false, false, false, false] (by kernel_rfl) rfl rfl ⟨n3, p0⟩ (fun hHeld => ?_)
  refine with_tabW tk4.tab tk4.bits (fun HT_ HW_ => ?_)
  refine pure_ (i := 0) (N := some 20) (v := ?_) (a' := ?_) #[true, false, false, false, false, false, false, false] rfl rfl (any_of HT_.out (by kernel_rfl)) (fun _ _ _ h => h) (Or.inl ⟨by rfl, ?_⟩) ?_ ?_
  rotate_left
  · intro w'
    go_simp
    try with_reducible rfl
  rotate_left
  · simp only [Act.put, List.setIfInBounds_toArray, List.set_cons_zero, List.set_cons_succ]
    rfl
  refine pure_ (i := 1) (N := some 21) (v := ?_) (a' := ?_) #[true, true, false, false, false, false, false, false] rfl rfl (any_of HT_.out (by kernel_rfl)) (fun _ _ _ h => h) (Or.inl ⟨by rfl, ?_⟩) ?_ ?_
  rotate_left
  · intro w'
    go_simp
    try with_reducible rfl
  rotate_left
  · simp only [Act.put, List.setIfInBounds_toArray, List.set_cons_zero, List.set_cons_succ]
    rfl
  refine pure_ (i := 2) (N := some 22) (v := ?_) (a' := ?_) #[true, true, true, false, false, false, false, false] rfl rfl (any_of HT_.out (by kernel_rfl)) (fun _ _ _ h => h) (Or.inl ⟨by rfl, ?_⟩) ?_ ?_
  rotate_left
  · intro w'
    go_simp
    try with_reducible rfl
  rotate_left
  · simp only [Act.put, List.setIfInBounds_toArray, List.set_cons_zero, List.set_cons_succ]
    rfl
  refine pure_ (i := 3) (N := some 23) (v := ?_) (a' := ?_) #[true, true, true, true, false, false, false, false] rfl rfl (any_of HT_.out (by kernel_rfl)) (fun _ _ _ h => h) (Or.inl ⟨by rfl, ?_⟩) ?_ ?_
  rotate_left
  · intro w'
    go_simp
    try with_reducible rfl
  rotate_left
  · simp only [Act.put, List.setIfInBounds_toArray, List.set_cons_zero, List.set_cons_succ]
    rfl
  refine pure_ (i := 5) (N := some 25) (v := ?_) (a' := ?_) #[true, true, true, true, false, true, false, false] rfl rfl (any_of HT_.out (by kernel_rfl)) (fun _ _ _ h => h) (Or.inl ⟨by rfl, ?_⟩) ?_ ?_
  rotate_left
  · intro w'
    go_simp
    try with_reducible rfl
  rotate_left
  · simp only [Act.put, List.setIfInBounds_toArray, List.set_cons_zero, List.set_cons_succ]
    rfl
  refine take_ (i := 4) (N := some 24) (v := ?_) (a' := ?_) #[true, true, true, true, true, true, false, false] rfl rfl (take_ofW HT_.out HW_.out (by kernel_rfl)) (fun _ _ _ h => h) (Or.inl ⟨by rfl, ?_⟩) hHeld ?_ ?_
  rotate_left
  · rintro w' ⟨s0, s1⟩
    go_simp
    try with_reducible rfl
  rotate_left
  · simp only [Act.put, List.setIfInBounds_toArray, List.set_cons_zero, List.set_cons_succ]
    rfl
  refine take_ (i := 6) (N := some 26) (v := ?_) (a' := ?_) #[true, true, true, true, true, true, true, false] rfl rfl (take_ofW HT_.out HW_.out (by kernel_rfl)) (fun _ _ _ h => h) (Or.inl ⟨by rfl, ?_⟩) hHeld ?_ ?_
  rotate_left
  · rintro w' ⟨s0, s1⟩
    go_simp
    try with_reducible rfl
  rotate_left
  · simp only [Act.put, List.setIfInBounds_toArray, List.set_cons_zero, List.set_cons_succ]
    rfl
  refine one_ (i := 7) (N := some 27) #[true, true, true, true, true, true, true, true] rfl rfl (one_of HT_.out (by kernel_rfl)) (by decide) (fun K hK => ?_)
  refine goes_ Tryd.func22 (by kernel_rfl) rfl #[vN, .string ib] (by rfl) rfl rfl (by first | done | rfl | (simp only [List.map_toArray, List.map_cons, List.map_nil]; done) | (simp only [List.map_toArray, List.map_cons, List.map_nil]; rfl)) ?_
  refine (HCON.out w2.drew (J2.out.n.below (below_drewN (Below.refl _ _) 1))).mono ?_
  rintro e' w4 ⟨rfl, rfl⟩
  refine ⟨_, rfl, ?_⟩
  refine hK.out _ _ (⟨n3, p0⟩) (fun hHeld => ?_)
  clear hK K
  refine norm_ (a' := ?_) ?_ ?_
  rotate_left
  · show Act.put _ (some 27) _ = _
    simp only [Act.put, List.setIfInBounds_toArray, List.set_cons_zero, List.set_cons_succ]
    rfl
  refine done_ (done_of HT_.out (by kernel_rfl)) ?_
  clear HT_ HW_
  have M3 := Lib.hid M2.out.drew
  have P3 := Lib.hid P2.out.drew
  have B3 := Lib.hid (show Below w.heap.size w w2.drew from below_drewN B2.out 1)
  have J3 := Lib.hid (HJ.out.below B3.out)
  have s1 : w2.drew.cell? ⟨j, 1, none⟩ = some vS0 := J3.out.hj.cell 1
  clear n3 p0
  go_upto_region 6 with fail
  go_wp2_with fail
  refine (HIX.out w2.drew gp J3.out P3.out).mono ?_
  rintro e w4 ⟨rfl, b4⟩
  have B4 := Lib.hid (B3.out.trans (b4.mono B3.out.size))
  have M4 := Lib.hid (M3.out.below b4 M3.out.lt)
  have P4 := Lib.hid (P3.out.below b4 P3.out.lt)
  have J4 := Lib.hid (HJ.out.below B4.out)
  clear b4 s1 J3 B3 P3 M3 J2 B2 P2 M2 HIX HCON HR
  have MS := Lib.hid (mk_str N HNN.out.2)
  have MB := Lib.hid (mk_bool N HNN.out.2)
  have HPUT : Hid (∀ (X : World) (g : Nat), Below w4.heap.size w4 X → Calls Tryd.prog 25 #[.pointer (some ⟨j, 0, none⟩), .pointer (some ⟨g, 0, none⟩)] X fun e w' => PutM B j (J0.noted : Nat) vN J0.most vS0 (pushQ J0.most (T0.map (·.x)) g) X w' e) := Lib.hid (fun X g hX => by
    have J8 := J4.out.below hX
    exact putM_any B j (J0.noted : Nat) vN vS0 J0.most (T0.map (·.x)) g X J8.hj (Nat.le_trans HB.out (Nat.le_trans B4.out.size hX.size)) (by rw [← ptrX_eq]; exact J8.s) J8.bd.1 (by rw [List.length_map, J8.len]; exact J8.bd.2.2.1))
  have NGP := Lib.hid (show ¬ (gp = j ∨ vS0.ownBlock = some gp) from fun e => J4.out.notIn P4.out (by decide) (e.elim .inl (fun e => .inr (.inl e))))
  go_upto_region 8 with fail
  have q0 : w4.drew.cell? ⟨gp, 0, none⟩ = some (.string ib) := P4.out.cell 0
  have q1 : w4.drew.cell? ⟨gp, 1, none⟩ = some (.string sm) := P4.out.cell 1
  have q4 : w4.drew.cell? ⟨gp, 4, none⟩ = some (.int .i64 (N : Nat)) := P4.out.cell 4
  refine start_ (n := 18) (S := fun w' => w'.cell? ⟨gp, 0, none⟩ = some (.string ib) ∧ w'.cell? ⟨gp, 1, none⟩ = some (.string sm) ∧ w'.cell? ⟨gp, 4, none⟩ = some (.int .i64 (N : Nat))) (ds := []) #[false, false, false, false, false, false, false, false, false, false, false, false, false, false, false, false, false, false] (by kernel_rfl) rfl rfl ⟨q0, q1, q4⟩ (fun hHeld => ?_)
  refine with_tabW tk8.tab tk8.bits (fun HT_ HW_ => ?_)
  refine pure_ (i := 0) (N := some 38) (v := ?_) (a' := ?_) #[true, false, false, false, false, false, false, false, false, false, false, false, false, false, false, false, false, false] rfl rfl (any_of HT_.out (by kernel_rfl)) (fun _ _ _ h => h) (Or.inl ⟨by rfl, ?_⟩) ?_ ?_
  rotate_left
  · intro w'
    go_simp
    try with_reducible rfl
  rotate_left
  · simp only [Act.put, List.setIfInBounds_toArray, List.set_cons_zero, List.set_cons_succ]
    rfl
  refine pure_ (i := 1) (N := some 39) (v := ?_) (a' := ?_) #[true, true, false, false, false, false, false, false, false, false, false, false, false, false, false, false, false, false] rfl rfl (any_of HT_.out (by kernel_rfl)) (fun _ _ _ h => h) (Or.inl ⟨by rfl, ?_⟩) ?_ ?_
  rotate_left
  · intro w'
    go_simp
    try with_reducible rfl
  rotate_left
  · simp only [Act.put, List.setIfInBounds_toArray, List.set_cons_zero, List.set_cons_succ]
    rfl
  refine pure_ (i := 2) (N := some 40) (v := ?_) (a' := ?_) #[true, true, true, false, false, false, false, false, false, false, false, false, false, false, false, false, false, false] rfl rfl (any_of HT_.out (by kernel_rfl)) (fun _ _ _ h => h) (Or.inl ⟨by rfl, ?_⟩) ?_ ?_
  rotate_left
  · intro w'
    go_simp
    try with_reducible rfl
  rotate_left
  · simp only [Act.put, List.setIfInBounds_toArray, List.set_cons_zero, List.set_cons_succ]
    rfl
  refine pure_ (i := 3) (N := some 41) (v := ?_) (a' := ?_) #[true, true, true, true, false, false, false, false, false, false, false, false, false, false, false, false, false, false] rfl rfl (any_of HT_.out (by kernel_rfl)) (fun _ _ _ h => h) (Or.inl ⟨by rfl, ?_⟩) ?_ ?_
  rotate_left
  · intro w'
    go_simp
    try with_reducible rfl
  rotate_left
  · simp only [Act.put, List.setIfInBounds_toArray, List.set_cons_zero, List.set_cons_succ]
    rfl
  refine pure_ (i := 5) (N := some 43) (v := ?_) (a' := ?_) #[true, true, true, true, false, true, false, false, false, false, false, false, false, false, false, false, false, false] rfl rfl (any_of HT_.out (by kernel_rfl)) (fun _ _ _ h => h) (Or.inl ⟨by rfl, ?_⟩) ?_ ?_
  rotate_left
  · intro w'
    go_simp
    try with_reducible rfl
  rotate_left
  · simp only [Act.put, List.setIfInBounds_toArray, List.set_cons_zero, List.set_cons_succ]
    rfl
  refine pure_ (i := 7) (N := some 45) (v := ?_) (a' := ?_) #[true, true, true, true, false, true, false, true, false, false, false, false, false, false, false, false, false, false] rfl rfl (any_of HT_.out (by kernel_rfl)) (fun _ _ _ h => h) (Or.inl ⟨by rfl, ?_⟩) ?_ ?_
  rotate_left
  · intro w'
    go_simp
    try with_reducible rfl
  rotate_left
  · simp only [Act.put, List.setIfInBounds_toArray, List.set_cons_zero, List.set_cons_succ]
    rfl
  refine pure_ (i := 10) (N := some 48) (v := ?_) (a' := ?_) #[true, true, true, true, false, true, false, true, false, false, true, false, false, false, false, false, false, false] rfl rfl (any_of HT_.out (by kernel_rfl)) (fun _ _ _ h => h) (Or.inl ⟨by rfl, ?_⟩) ?_ ?_
  rotate_left
  · intro w'
    go_simp
    try with_reducible rfl
  rotate_left
  · simp only [Act.put, List.setIfInBounds_toArray, List.set_cons_zero, List.set_cons_succ]
    rfl
  refine pure_ (i := 13) (N := some 51) (v := ?_) (a' := ?_) #[true, true, true, true, false, true, false, true, false, false, true, false, false, true, false, false, false, false] rfl rfl (any_of HT_.out (by kernel_rfl)) (fun _ _ _ h => h) (Or.inl ⟨by rfl, ?_⟩) ?_ ?_
  rotate_left
  · intro w'
    go_simp
    try with_reducible rfl
  rotate_left
  · simp only [Act.put, List.setIfInBounds_toArray, List.set_cons_zero, List.set_cons_succ]
    rfl
  refine take_ (i := 4) (N := some 42) (v := ?_) (a' := ?_) #[true, true, true, true, true, true, false, true, false, false, true, false, false, true, false, false, false, false] rfl rfl (take_ofW HT_.out HW_.out (by kernel_rfl)) (fun _ _ _ h => h) (Or.inl ⟨by rfl, ?_⟩) hHeld ?_ ?_
  rotate_left
  · rintro w' ⟨s0, s1, s2⟩
    go_simp
    try with_reducible rfl
  rotate_left
  · simp only [Act.put, List.setIfInBounds_toArray, List.set_cons_zero, List.set_cons_succ]
    rfl
  refine take_ (i := 6) (N := some 44) (v := ?_) (a' := ?_) #[true, true, true, true, true, true, true, true, false, false, true, false, false, true, false, false, false, false] rfl rfl (take_ofW HT_.out HW_.out (by kernel_rfl)) (fun _ _ _ h => h) (Or.inl ⟨by rfl, ?_⟩) hHeld ?_ ?_
  rotate_left
  · rintro w' ⟨s0, s1, s2⟩
    go_simp
    try with_reducible rfl
  rotate_left
  · simp only [Act.put, List.setIfInBounds_toArray, List.set_cons_zero, List.set_cons_succ]
    rfl
  refine take_ (i := 8) (N := some 46) (v := ?_) (a' := ?_) #[true, true, true, true, true, true, true, true, true, false, true, false, false, true, false, false, false, false] rfl rfl (take_ofW HT_.out HW_.out (by kernel_rfl)) (fun _ _ _ h => h) (Or.inl ⟨by rfl, ?_⟩) hHeld ?_ ?_
  rotate_left
  · rintro w' ⟨s0, s1, s2⟩
    go_simp
    try with_reducible rfl
  rotate_left
  · simp only [Act.put, List.setIfInBounds_toArray, List.set_cons_zero, List.set_cons_succ]
    rfl
  refine take_ (i := 11) (N := some 49) (v := ?_) (a' := ?_) #[true, true, true, true, true, true, true, true, true, false, true, true, false, true, false, false, false, false] rfl rfl (take_ofW HT_.out HW_.out (by kernel_rfl)) (fun _ _ _ h => h) (Or.inl ⟨by rfl, ?_⟩) hHeld ?_ ?_
  rotate_left
  · rintro w' ⟨s0, s1, s2⟩
    go_simp
    try with_reducible rfl
  rotate_left
  · simp only [Act.put, List.setIfInBounds_toArray, List.set_cons_zero, List.set_cons_succ]
    rfl
  refine take_ (i := 14) (N := some 52) (v := ?_) (a' := ?_) #[true, true, true, true, true, true, true, true, true, false, true, true, false, true, true, false, false, false] rfl rfl (take_ofW HT_.out HW_.out (by kernel_rfl)) (fun _ _ _ h => h) (Or.inl ⟨by rfl, ?_⟩) hHeld ?_ ?_
  rotate_left
  · rintro w' ⟨s0, s1, s2⟩
    go_simp
    try with_reducible rfl
  rotate_left
  · simp only [Act.put, List.setIfInBounds_toArray, List.set_cons_zero, List.set_cons_succ]
    rfl
  refine two_ (i := 9) (j := 12) (Ni := some 47) (Nj := some 50) #[true, true, true, true, true, true, true, true, true, true, true, true, false, true, true, false, false, false] #[true, true, true, true, true, true, true, true, true, false, true, true, true, true, true, false, false, false] rfl rfl rfl rfl (two_of HT_.out (by kernel_rfl)) (by decide) (by decide) (fun K hK => ?_) (fun K hK => ?_)
  · refine step_make_run (by rfl) (.tmp 46) (.tmp 46) 22 rfl rfl rfl (MS.out _) ?_
    refine hK.out _ _ (⟨(P4.out.drew.alloc _).cell 0, (P4.out.drew.alloc _).cell 1, (P4.out.drew.alloc _).cell 4⟩) (fun hHeld => ?_)
    clear hK K
    refine norm_ (a' := ?_) ?_ ?_
    rotate_left
    · show Act.put _ (some 47) _ = _
      simp only [Act.put, List.setIfInBounds_toArray, List.set_cons_zero, List.set_cons_succ]
      rfl
    refine one_ (i := 12) (N := some 50) #[true, true, true, true, true, true, true, true, true, true, true, true, true, true, true, false, false, false] rfl rfl (one_of HT_.out (by kernel_rfl)) (by decide) (fun K hK => ?_)
    refine step_make_run (by rfl) (.tmp 49) (.tmp 49) 30 rfl rfl rfl (MB.out _) ?_
    refine hK.out _ _ (⟨((P4.out.drew.alloc _).alloc _).cell 0, ((P4.out.drew.alloc _).alloc _).cell 1, ((P4.out.drew.alloc _).alloc _).cell 4⟩) (fun hHeld => ?_)
    clear hK K
    refine norm_ (a' := ?_) ?_ ?_
    rotate_left
    · show Act.put _ (some 50) _ = _
      simp only [Act.put, List.setIfInBounds_toArray, List.set_cons_zero, List.set_cons_succ]
      rfl
    refine pure_ (i := 15) (N := some 53) (v := ?_) (a' := ?_) #[true, true, true, true, true, true, true, true, true, true, true, true, true, true, true, true, false, false] rfl rfl (any_of HT_.out (by kernel_rfl)) (fun _ _ _ h => h) (Or.inl ⟨by rfl, ?_⟩) ?_ ?_
    rotate_left
    · intro w'
      go_simp
      try with_reducible rfl
    rotate_left
    · simp only [Act.put, List.setIfInBounds_toArray, List.set_cons_zero, List.set_cons_succ]
      rfl
    refine one_ (i := 16) (N := some 54) #[true, true, true, true, true, true, true, true, true, true, true, true, true, true, true, true, true, false] rfl rfl (one_of HT_.out (by kernel_rfl)) (by decide) (fun K hK => ?_)
    refine value_ (w1 := ?_) (v := ?_) (by rfl) rfl ?_ ?_
    rotate_left 2
    · go_simp
      constructor <;> rfl
    refine hK.out _ _ (⟨(((P4.out.drew.alloc _).alloc _).alloc _).cell 0, (((P4.out.drew.alloc _).alloc _).alloc _).cell 1, (((P4.out.drew.alloc _).alloc _).alloc _).cell 4⟩) (fun hHeld => ?_)
    clear hK K
    refine norm_ (a' := ?_) ?_ ?_
    rotate_left
    · show Act.put _ (some 54) _ = _
      simp only [Act.put, List.setIfInBounds_toArray, List.set_cons_zero, List.set_cons_succ]
      rfl
    refine one_ (i := 17) (N := some 55) #[true, true, true, true, true, true, true, true, true, true, true, true, true, true, true, true, true, true] rfl rfl (one_of HT_.out (by kernel_rfl)) (by decide) (fun K hK => ?_)
    refine goes_ Tryd.func25 (by kernel_rfl) rfl #[.pointer (some ⟨j, 0, none⟩), .pointer (some ⟨w4.heap.size + 1 + 1, 0, none⟩)] (by rfl) rfl rfl (by first | done | rfl | (simp only [List.map_toArray, List.map_cons, List.map_nil]; done) | (simp only [List.map_toArray, List.map_cons, List.map_nil]; rfl)) ?_
    refine (HPUT.out ((((w4.alloc (.cells (cstr (List.replicate N [])).toArray 9)).alloc (.cells (bls (List.replicate N false)).toArray 4)).alloc (.cells #[.string ib, .string sm, .slice (some ⟨w4.heap.size, 0, none⟩) N N, .slice (some ⟨w4.heap.size + 1, 0, none⟩) N N, .int .i64 (N : Nat)] 72)).drew) (w4.heap.size + 1 + 1) (below_drewN ((((Below.refl w4.heap.size w4).alloc (Nat.le_refl _) _).alloc (by simp) _).alloc (by simp; omega) _) 1)).mono ?_
    rintro e' w5 ⟨rfl, vS, hjb, hwin, hk5, hfr⟩
    refine ⟨_, rfl, ?_⟩
    refine hK.out _ _ (⟨((((P4.out.alloc _).alloc _).alloc _).drew.kp hk5 NGP.out).cell 0, ((((P4.out.alloc _).alloc _).alloc _).drew.kp hk5 NGP.out).cell 1, ((((P4.out.alloc _).alloc _).alloc _).drew.kp hk5 NGP.out).cell 4⟩) (fun hHeld => ?_)
    clear hK K
    refine norm_ (a' := ?_) ?_ ?_
    rotate_left
    · show Act.put _ (some 55) _ = _
      simp only [Act.put, List.setIfInBounds_toArray, List.set_cons_zero, List.set_cons_succ]
      rfl
    refine done_ (done_of HT_.out (by kernel_rfl)) ?_
    clear HT_ HW_
    have BX := Lib.hid (show Below w4.heap.size w4 ((((w4.alloc (.cells (cstr (List.replicate N [])).toArray 9)).alloc (.cells (bls (List.replicate N false)).toArray 4)).alloc (.cells #[.string ib, .string sm, .slice (some ⟨w4.heap.size, 0, none⟩) N N, .slice (some ⟨w4.heap.size + 1, 0, none⟩) N N, .int .i64 (N : Nat)] 72)).drew) from below_drewN ((((Below.refl w4.heap.size w4).alloc (Nat.le_refl _) _).alloc (by simp) _).alloc (by simp; omega) _) 1)
    have J8 := Lib.hid (J4.out.below BX.out)
    have HBW := Lib.hid (Nat.le_trans HB.out B4.out.size)
    have HMA : Hid (MsA B ((((w4.alloc (.cells (cstr (List.replicate N [])).toArray 9)).alloc (.cells (bls (List.replicate N false)).toArray 4)).alloc (.cells #[.string ib, .string sm, .slice (some ⟨w4.heap.size, 0, none⟩) N N, .slice (some ⟨w4.heap.size + 1, 0, none⟩) N N, .int .i64 (N : Nat)] 72)).drew) ⟨w4.heap.size + 1 + 1, w4.heap.size, w4.heap.size + 1⟩ (freshM p)) := by
      have e : msC ⟨w4.heap.size + 1 + 1, w4.heap.size, w4.heap.size + 1⟩ (freshM p) = #[.string ib, .string sm, .slice (some ⟨w4.heap.size, 0, none⟩) N N, .slice (some ⟨w4.heap.size + 1, 0, none⟩) N N, .int .i64 (N : Nat)] := by
        unfold msC freshM; rw [IB.out, SM.out, hN.out]; simp
      have hb := HBW.out
      have hn := HNN.out
      refine Lib.hid ⟨?_, ?_, ?_, ?_, ⟨by show B ≤ w4.heap.size + 1 + 1; omega, by show B ≤ w4.heap.size; omega, by show B ≤ w4.heap.size + 1; omega⟩, ?_, ?_, ?_⟩
      · rw [e]; exact (Blk.newAt _ _ _ _ (by simp)).drew
      · show Blk _ _ _ (cstr (List.replicate p.many [])).toArray
        rw [hN.out]; exact ((Blk.newAt _ _ _ _ rfl).alloc _).alloc _
      · show Blk _ _ _ (bls (List.replicate p.many false)).toArray
        rw [hN.out]; exact (Blk.newAt _ _ _ _ (by simp)).alloc _
      · simp [freshM]
      · simp only [freshM, List.length_replicate, hN.out]; exact hn
      · simp only [freshM, hN.out]; omega
      · intro u hu; rw [List.eq_of_mem_replicate hu]; simp
    have J5 := Lib.hid (J8.out.pushed (t := ⟨w4.heap.size + 1 + 1, w4.heap.size, w4.heap.size + 1⟩) HMA.out (fun u hu => by
      have h1 := (J4.out.lt (.inr (.inr (.inr ⟨u, hu, .inl rfl⟩)))).2
      have h2 := (J4.out.lt (.inr (.inr (.inr ⟨u, hu, .inr (.inl rfl)⟩)))).2
      have h3 := (J4.out.lt (.inr (.inr (.inr ⟨u, hu, .inr (.inr rfl)⟩)))).2
      exact ⟨by show u.x ≠ w4.heap.size + 1 + 1; omega, by show u.p ≠ w4.heap.size; omega, by show u.c ≠ w4.heap.size + 1; omega⟩) (fun e => by
      have h1 := (J4.out.lt (.inr (.inr (.inl e)))).2
      have h2 : w4.heap.size < w4.heap.size := h1
      omega) hjb hwin hk5)
    obtain ⟨t, ht⟩ : ∃ t, Hid ((⟨w4.heap.size + 1 + 1, w4.heap.size, w4.heap.size + 1⟩ : Pl) = t) := ⟨_, Lib.hid rfl⟩
    have TW := Lib.hid (show w.heap.size ≤ t.x ∧ w.heap.size ≤ t.p ∧ w.heap.size ≤ t.c by
      have := B4.out.size
      rw [← ht.out]
      exact ⟨by show w.heap.size ≤ w4.heap.size + 1 + 1; omega, by show w.heap.size ≤ w4.heap.size; omega, by show w.heap.size ≤ w4.heap.size + 1; omega⟩)
    rw [ht.out] at J5
    have K5 := Lib.hid (show Kp (JS j vS0 vN T0) w w5 from (Kp.of_below (B4.out.trans (BX.out.mono B4.out.size))).trans (hk5.mono (S' := JS j vS0 vN T0) (fun i hi e => e.elim .inl (fun e => .inr (.inl e)))))
    have M5 := Lib.hid ((M4.out.below BX.out M4.out.lt).kp hk5 (fun e => J4.out.notIn M4.out (by decide) (e.elim .inl (fun e => .inr (.inl e)))))
    have P5 := Lib.hid ((P4.out.below BX.out P4.out.lt).kp hk5 NGP.out)
    have CUT0 := Lib.hid (show ∀ k, JS j vS vN (pushQ J0.most T0 t) k → JS j vS0 vN T0 k ∨ w.heap.size ≤ k from fun k hk => by
      have hw4 := B4.out.size
      have htw := TW.out
      rcases hk with e | e | e | ⟨u, hu, e⟩
      · exact .inl (.inl e)
      · rcases hfr with h | ⟨b, h, hb⟩
        · exact .inl (.inr (.inl (h ▸ e)))
        · rw [h] at e; cases e; exact .inr (Nat.le_trans (Nat.le_trans hw4 BX.out.size) hb)
      · exact .inl (.inr (.inr (.inl e)))
      · rcases pushQ_mem hu with hu | rfl
        · exact .inl (.inr (.inr (.inr ⟨u, hu, e⟩)))
        · rcases e with rfl | rfl | rfl
          · exact .inr htw.1
          · exact .inr htw.2.1
          · exact .inr htw.2.2)
    obtain ⟨m, hfm⟩ : ∃ m, Hid (freshM p = m) := ⟨_, Lib.hid rfl⟩
    obtain ⟨T, hT0⟩ : ∃ x, Hid (pushQ J0.most T0 t = x) := ⟨_, Lib.hid rfl⟩
    obtain ⟨J, hJ0⟩ : ∃ x, Hid (({ J0 with some := pushQ J0.most J0.some (freshM p) } : Jn) = x) := ⟨_, Lib.hid rfl⟩
    obtain ⟨i, hi0⟩ : ∃ x, Hid ((pushQ J0.most J0.some (freshM p)).length - 1 = x) := ⟨_, Lib.hid rfl⟩
    rw [hJ0.out, hT0.out] at J5
    rw [hT0.out] at CUT0
    have HLEN := Lib.hid (show J.some.length = i + 1 by rw [← hJ0.out, ← hi0.out]; show (pushQ J0.most J0.some (freshM p)).length = _; unfold pushQ; simp)
    have HMI := Lib.hid (show J.some[i]? = some m by rw [← hJ0.out, ← hi0.out, ← hfm.out]; show (pushQ J0.most J0.some (freshM p))[_]? = _; exact pushQ_last _ _ _)
    have HT := Lib.hid (show T[i]? = some t by
      have h1 := J5.out.len
      have : i = T.length - 1 := by have := HLEN.out; omega
      rw [this, ← hT0.out]; exact pushQ_last _ _ _)
    have hi : i < J.some.length := by have := HLEN.out; omega
    have HTF := Lib.hid (show takeF J0 s = putIn J i (J.some[i]'hi) (ptOf s) by
      have : J.some[i]'hi = freshM p := by have := HMI.out; rw [List.getElem?_eq_getElem hi] at this; rw [hfm.out]; exact Option.some.inj this
      rw [this, HTF0.out, hp.out, hJ0.out, hi0.out])
    clear hjb hwin hk5 hfr hHeld J8 BX HMA HPUT NGP MS MB
    go_upto_region 9 with fail
    refine gworld (fun W => Hid (Blk W gt 36 zTold) ∧ Hid (Blk W gp 65 #[.string ib, .string sm, .string tb, .int .i64 (A : Nat), .int .i64 (N : Nat)]) ∧ Hid (JnA B W j vS vN T J) ∧ Hid (Kp (JS j vS0 vN T0) w W)) ⟨M5, P5, J5, K5⟩ ?_
    rintro w4 ⟨M4, P4, J4, K4⟩
    obtain ⟨t', b, off, cap, hT, hv, hcell, hm⟩ := J4.out.at_ i hi
    have htt : t = t' := Option.some.inj (HT.out.symm.trans hT)
    subst htt
    have hmm : J.some[i]'hi = m := by have := HMI.out; rw [List.getElem?_eq_getElem hi] at this; exact Option.some.inj this
    rw [hmm] at hm
    have HI := Lib.hid hi
    have HM := Lib.hid hm
    have hme := Lib.hid hmm
    have s1 : w4.cell? ⟨j, 1, none⟩ = some vS := J4.out.hj.cell 1
    rw [hv, HLEN.out] at s1
    have e1 : 0 ≤ (i : Int) ∧ (i : Int) < (i : Int) + 1 := by omega
    have hwi : wrap64 (i : Int) = (i : Int) := by
      have h1 := J4.out.bd
      have h2 := HLEN.out
      unfold wrap64; omega
    obtain ⟨mb, MB⟩ : ∃ t : ByteArray, Hid (⟨m.sum.toArray⟩ = t) := ⟨_, Lib.hid rfl⟩
    obtain ⟨L, hL⟩ : ∃ n, Hid (m.pcs.length = n) := ⟨_, Lib.hid rfl⟩
    have xc : ∀ W, Blk W t.x 72 (msC t m) → Blk W t.x 72 #[.string ⟨m.id.toArray⟩, .string mb, .slice (some ⟨t.p, 0, none⟩) L L, .slice (some ⟨t.c, 0, none⟩) L L, .int .i64 m.left] := fun W hW => by rw [← MB.out, ← hL.out]; exact hW
    have X4 := Lib.hid (xc _ HM.out.x)
    have HM00 := Lib.hid (show ∀ m', J.some[i]? = some m' → (m'.sum = p.sum ∧ m'.pcs.length = p.many) ∧ m'.came[p.at_]? = some false from fun m' h => by
      have : m' = freshM p := Option.some.inj (h.symm.trans (HMI.out.trans (by rw [hfm.out])))
      subst this
      refine ⟨⟨rfl, by simp [freshM]⟩, ?_⟩
      show (List.replicate p.many false)[p.at_]? = some false
      rw [List.getElem?_replicate, if_pos (by rw [hA.out, hN.out]; exact ALN.out)])
    have LEFT := Lib.hid (show 1 ≤ m.left by rw [← hfm.out]; show 1 ≤ ((p.many : Nat) : Int); rw [hN.out]; have := HNN.out; omega)
    clear hT hm hv xc hmm
    go_upto_region 11 with fail
    clear s1 hcell
    have hm0 := HM00.out
    have x1 : w4.drew.cell? ⟨t.x, 1, none⟩ = some (.string mb) := X4.out.cell 1
    have x2 : w4.drew.cell? ⟨t.x, 2, none⟩ = some (.slice (some ⟨t.p, 0, none⟩) L L) := X4.out.cell 2
    have p1 : w4.drew.cell? ⟨gp, 1, none⟩ = some (.string sm) := P4.out.cell 1
    have p4 : w4.drew.cell? ⟨gp, 4, none⟩ = some (.int .i64 (N : Nat)) := P4.out.cell 4
    have hm1 := (hm0 m HMI.out).1
    rw [hL.out, hN.out] at hm1
    have he : (mb.toList == sm.toList) = true := by rw [← MB.out, ← SM.out, ByteArray.toList_eq, ByteArray.toList_eq]; exact beq_iff_eq.mpr hm1.1
    have hl : ((L : Int) != (N : Int)) = false := by have := hm1.2; (rw [bne_eq_false_iff_eq]; omega)
    have HM1 := Lib.hid hm1
    clear hm1
    refine start_ (n := 18) (S := fun w' => w'.cell? ⟨t.x, 1, none⟩ = some (.string mb) ∧ w'.cell? ⟨t.x, 2, none⟩ = some (.slice (some ⟨t.p, 0, none⟩) L L) ∧ w'.cell? ⟨gp, 1, none⟩ = some (.string sm) ∧ w'.cell? ⟨gp, 4, none⟩ = some (.int .i64 (N : Nat))) (ds := []) #[false, false, false, false, false, false, false, false, false, false, false, false, false, false, false, false, false, false] (by kernel_rfl) rfl rfl ⟨x1, x2, p1, p4⟩ (fun hHeld => ?_)
    refine with_tabW tk11.tab tk11.bits (fun HT_ HW_ => ?_)
    refine pure_ (i := 0) (N := some 72) (v := ?_) (a' := ?_) #[true, false, false, false, false, false, false, false, false, false, false, false, false, false, false, false, false, false] rfl rfl (any_of HT_.out (by kernel_rfl)) (fun _ _ _ h => h) (Or.inl ⟨by rfl, ?_⟩) ?_ ?_
    rotate_left
    · intro w'
      go_simp
      try with_reducible rfl
    rotate_left
    · simp only [Act.put, List.setIfInBounds_toArray, List.set_cons_zero, List.set_cons_succ]
      rfl
    refine pure_ (i := 1) (N := some 73) (v := ?_) (a' := ?_) #[true, true, false, false, false, false, false, false, false, false, false, false, false, false, false, false, false, false] rfl rfl (any_of HT_.out (by kernel_rfl)) (fun _ _ _ h => h) (Or.inl ⟨by rfl, ?_⟩) ?_ ?_
    rotate_left
    · intro w'
      go_simp
      try with_reducible rfl
    rotate_left
    · simp only [Act.put, List.setIfInBounds_toArray, List.set_cons_zero, List.set_cons_succ]
      rfl
    refine pure_ (i := 2) (N := some 74) (v := ?_) (a' := ?_) #[true, true, true, false, false, false, false, false, false, false, false, false, false, false, false, false, false, false] rfl rfl (any_of HT_.out (by kernel_rfl)) (fun _ _ _ h => h) (Or.inl ⟨by rfl, ?_⟩) ?_ ?_
    rotate_left
    · intro w'
      go_simp
      try with_reducible rfl
    rotate_left
    · simp only [Act.put, List.setIfInBounds_toArray, List.set_cons_zero, List.set_cons_succ]
      rfl
    refine pure_ (i := 4) (N := some 76) (v := ?_) (a' := ?_) #[true, true, true, false, true, false, false, false, false, false, false, false, false, false, false, false, false, false] rfl rfl (any_of HT_.out (by kernel_rfl)) (fun _ _ _ h => h) (Or.inl ⟨by rfl, ?_⟩) ?_ ?_
    rotate_left
    · intro w'
      go_simp
      try with_reducible rfl
    rotate_left
    · simp only [Act.put, List.setIfInBounds_toArray, List.set_cons_zero, List.set_cons_succ]
      rfl
    refine take_ (i := 3) (N := some 75) (v := ?_) (a' := ?_) #[true, true, true, true, true, false, false, false, false, false, false, false, false, false, false, false, false, false] rfl rfl (take_ofW HT_.out HW_.out (by kernel_rfl)) (fun _ _ _ h => h) (Or.inl ⟨by rfl, ?_⟩) hHeld ?_ ?_
    rotate_left
    · rintro w' ⟨s0, s1, s2, s3⟩
      go_simp
      try with_reducible rfl
    rotate_left
    · simp only [Act.put, List.setIfInBounds_toArray, List.set_cons_zero, List.set_cons_succ]
      rfl
    refine take_ (i := 5) (N := some 77) (v := ?_) (a' := ?_) #[true, true, true, true, true, true, false, false, false, false, false, false, false, false, false, false, false, false] rfl rfl (take_ofW HT_.out HW_.out (by kernel_rfl)) (fun _ _ _ h => h) (Or.inl ⟨by rfl, ?_⟩) hHeld ?_ ?_
    rotate_left
    · rintro w' ⟨s0, s1, s2, s3⟩
      go_simp
      try with_reducible rfl
    rotate_left
    · simp only [Act.put, List.setIfInBounds_toArray, List.set_cons_zero, List.set_cons_succ]
      rfl
    refine pure_ (i := 6) (N := some 78) (v := ?_) (a' := ?_) #[true, true, true, true, true, true, true, false, false, false, false, false, false, false, false, false, false, false] rfl rfl (any_of HT_.out (by kernel_rfl)) (fun _ _ _ h => h) (Or.inl ⟨by rfl, ?_⟩) ?_ ?_
    rotate_left
    · intro w'
      go_simp
      try with_reducible rfl
    rotate_left
    · simp only [Act.put, List.setIfInBounds_toArray, List.set_cons_zero, List.set_cons_succ]
      rfl
    refine pure_ (i := 7) (N := some 79) (v := ?_) (a' := ?_) #[true, true, true, true, true, true, true, true, false, false, false, false, false, false, false, false, false, false] rfl rfl (any_of HT_.out (by kernel_rfl)) (fun _ _ _ h => h) (Or.inl ⟨by rfl, ?_⟩) ?_ ?_
    rotate_left
    · intro w'
      go_simp
      try with_reducible rfl
    rotate_left
    · simp only [Act.put, List.setIfInBounds_toArray, List.set_cons_zero, List.set_cons_succ]
      rfl
    refine pure_ (i := 8) (N := some 80) (v := ?_) (a' := ?_) #[true, true, true, true, true, true, true, true, true, false, false, false, false, false, false, false, false, false] rfl rfl (any_of HT_.out (by kernel_rfl)) (fun _ _ _ h => h) (Or.inl ⟨by rfl, ?_⟩) ?_ ?_
    rotate_left
    · intro w'
      go_simp
      try with_reducible rfl
    rotate_left
    · simp only [Act.put, List.setIfInBounds_toArray, List.set_cons_zero, List.set_cons_succ]
      rfl
    refine pure_ (i := 9) (N := some 81) (v := ?_) (a' := ?_) #[true, true, true, true, true, true, true, true, true, true, false, false, false, false, false, false, false, false] rfl rfl (any_of HT_.out (by kernel_rfl)) (fun _ _ _ h => h) (Or.inl ⟨by rfl, ?_⟩) ?_ ?_
    rotate_left
    · intro w'
      go_simp
      try with_reducible rfl
    rotate_left
    · simp only [Act.put, List.setIfInBounds_toArray, List.set_cons_zero, List.set_cons_succ]
      rfl
    refine pure_ (i := 10) (N := some 82) (v := ?_) (a' := ?_) #[true, true, true, true, true, true, true, true, true, true, true, false, false, false, false, false, false, false] rfl rfl (any_of HT_.out (by kernel_rfl)) (fun _ _ _ h => h) (Or.inl ⟨by rfl, ?_⟩) ?_ ?_
    rotate_left
    · intro w'
      go_simp
      try with_reducible rfl
    rotate_left
    · simp only [Act.put, List.setIfInBounds_toArray, List.set_cons_zero, List.set_cons_succ]
      rfl
    refine pure_ (i := 13) (N := some 85) (v := ?_) (a' := ?_) #[true, true, true, true, true, true, true, true, true, true, true, false, false, true, false, false, false, false] rfl rfl (any_of HT_.out (by kernel_rfl)) (fun _ _ _ h => h) (Or.inl ⟨by rfl, ?_⟩) ?_ ?_
    rotate_left
    · intro w'
      go_simp
      try with_reducible rfl
    rotate_left
    · simp only [Act.put, List.setIfInBounds_toArray, List.set_cons_zero, List.set_cons_succ]
      rfl
    refine take_ (i := 11) (N := some 83) (v := ?_) (a' := ?_) #[true, true, true, true, true, true, true, true, true, true, true, true, false, true, false, false, false, false] rfl rfl (take_ofW HT_.out HW_.out (by kernel_rfl)) (fun _ _ _ h => h) (Or.inl ⟨by rfl, ?_⟩) hHeld ?_ ?_
    rotate_left
    · rintro w' ⟨s0, s1, s2, s3⟩
      go_simp
      try with_reducible rfl
    rotate_left
    · simp only [Act.put, List.setIfInBounds_toArray, List.set_cons_zero, List.set_cons_succ]
      rfl
    refine pure_ (i := 12) (N := some 84) (v := ?_) (a' := ?_) #[true, true, true, true, true, true, true, true, true, true, true, true, true, true, false, false, false, false] rfl rfl (any_of HT_.out (by kernel_rfl)) (fun _ _ _ h => h) (Or.inl ⟨by rfl, ?_⟩) ?_ ?_
    rotate_left
    · intro w'
      go_simp
      try with_reducible rfl
    rotate_left
    · simp only [Act.put, List.setIfInBounds_toArray, List.set_cons_zero, List.set_cons_succ]
      rfl
    refine take_ (i := 14) (N := some 86) (v := ?_) (a' := ?_) #[true, true, true, true, true, true, true, true, true, true, true, true, true, true, true, false, false, false] rfl rfl (take_ofW HT_.out HW_.out (by kernel_rfl)) (fun _ _ _ h => h) (Or.inl ⟨by rfl, ?_⟩) hHeld ?_ ?_
    rotate_left
    · rintro w' ⟨s0, s1, s2, s3⟩
      go_simp
      try with_reducible rfl
    rotate_left
    · simp only [Act.put, List.setIfInBounds_toArray, List.set_cons_zero, List.set_cons_succ]
      rfl
    refine pure_ (i := 15) (N := some 87) (v := ?_) (a' := ?_) #[true, true, true, true, true, true, true, true, true, true, true, true, true, true, true, true, false, false] rfl rfl (any_of HT_.out (by kernel_rfl)) (fun _ _ _ h => h) (Or.inl ⟨by rfl, ?_⟩) ?_ ?_
    rotate_left
    · intro w'
      go_simp
      try with_reducible rfl
    rotate_left
    · simp only [Act.put, List.setIfInBounds_toArray, List.set_cons_zero, List.set_cons_succ]
      rfl
    refine pure_ (i := 16) (N := some 88) (v := ?_) (a' := ?_) #[true, true, true, true, true, true, true, true, true, true, true, true, true, true, true, true, true, false] rfl rfl (any_of HT_.out (by kernel_rfl)) (fun _ _ _ h => h) (Or.inl ⟨by rfl, ?_⟩) ?_ ?_
    rotate_left
    · intro w'
      go_simp
      try with_reducible rfl
    rotate_left
    · simp only [Act.put, List.setIfInBounds_toArray, List.set_cons_zero, List.set_cons_succ]
      rfl
    refine pure_ (i := 17) (N := some 71) (v := ?_) (a' := ?_) #[true, true, true, true, true, true, true, true, true, true, true, true, true, true, true, true, true, true] rfl rfl (any_of HT_.out (by kernel_rfl)) (fun _ _ _ h => h) (Or.inl ⟨by rfl, ?_⟩) ?_ ?_
    rotate_left
    · intro w'
      go_simp
      try with_reducible rfl
    rotate_left
    · simp only [Act.put, List.setIfInBounds_toArray, List.set_cons_zero, List.set_cons_succ]
      rfl
    refine done_ (done_of HT_.out (by kernel_rfl)) ?_
    clear HT_ HW_
    try simp only [hl, Bool.not_false, Bool.not_true]
    have M5 := Lib.hid M4.out.drew
    have P5 := Lib.hid P4.out.drew
    have X5 := Lib.hid X4.out.drew
    clear x1 x2 p1 p4 he hl
    obtain ⟨c5, c5'⟩ : w4.drew.cell? ⟨t.c, A, none⟩ = some (.bool false) ∧ A < L := by
      have hc := hm0 m HMI.out
      obtain ⟨⟨_, hc2⟩, hc3⟩ := hc
      rw [hA.out] at hc3
      have := (HM.out.c.drew.cell A)
      refine ⟨this.trans ?_, ?_⟩
      · simp [bls, hc3]
      · have := (List.getElem?_eq_some_iff.1 hc3).1; have := HM.out.l; have := hL.out; omega
    have x3 : w4.drew.cell? ⟨t.x, 3, none⟩ = some (.slice (some ⟨t.c, 0, none⟩) L L) := X5.out.cell 3
    have p3 : w4.drew.cell? ⟨gp, 3, none⟩ = some (.int .i64 (A : Nat)) := P5.out.cell 3
    have e3 : 0 ≤ (A : Int) ∧ (A : Int) < (L : Int) := by omega
    go_upto_region 13 with fail
    refine start_ (n := 9) (S := fun w' => w'.cell? ⟨t.x, 3, none⟩ = some (.slice (some ⟨t.c, 0, none⟩) L L) ∧ w'.cell? ⟨gp, 3, none⟩ = some (.int .i64 (A : Nat)) ∧ w'.cell? ⟨t.c, A, none⟩ = some (.bool false)) (ds := []) #[false, false, false, false, false, false, false, false, false] (by kernel_rfl) rfl rfl ⟨x3, p3, c5⟩ (fun hHeld => ?_)
    refine with_tabW tk13.tab tk13.bits (fun HT_ HW_ => ?_)
    refine pure_ (i := 0) (N := some 91) (v := ?_) (a' := ?_) #[true, false, false, false, false, false, false, false, false] rfl rfl (any_of HT_.out (by kernel_rfl)) (fun _ _ _ h => h) (Or.inl ⟨by rfl, ?_⟩) ?_ ?_
    rotate_left
    · intro w'
      go_simp
      try with_reducible rfl
    rotate_left
    · simp only [Act.put, List.setIfInBounds_toArray, List.set_cons_zero, List.set_cons_succ]
      rfl
    refine pure_ (i := 1) (N := some 92) (v := ?_) (a' := ?_) #[true, true, false, false, false, false, false, false, false] rfl rfl (any_of HT_.out (by kernel_rfl)) (fun _ _ _ h => h) (Or.inl ⟨by rfl, ?_⟩) ?_ ?_
    rotate_left
    · intro w'
      go_simp
      try with_reducible rfl
    rotate_left
    · simp only [Act.put, List.setIfInBounds_toArray, List.set_cons_zero, List.set_cons_succ]
      rfl
    refine pure_ (i := 2) (N := some 93) (v := ?_) (a' := ?_) #[true, true, true, false, false, false, false, false, false] rfl rfl (any_of HT_.out (by kernel_rfl)) (fun _ _ _ h => h) (Or.inl ⟨by rfl, ?_⟩) ?_ ?_
    rotate_left
    · intro w'
      go_simp
      try with_reducible rfl
    rotate_left
    · simp only [Act.put, List.setIfInBounds_toArray, List.set_cons_zero, List.set_cons_succ]
      rfl
    refine pure_ (i := 4) (N := some 95) (v := ?_) (a' := ?_) #[true, true, true, false, true, false, false, false, false] rfl rfl (any_of HT_.out (by kernel_rfl)) (fun _ _ _ h => h) (Or.inl ⟨by rfl, ?_⟩) ?_ ?_
    rotate_left
    · intro w'
      go_simp
      try with_reducible rfl
    rotate_left
    · simp only [Act.put, List.setIfInBounds_toArray, List.set_cons_zero, List.set_cons_succ]
      rfl
    refine take_ (i := 3) (N := some 94) (v := ?_) (a' := ?_) #[true, true, true, true, true, false, false, false, false] rfl rfl (take_ofW HT_.out HW_.out (by kernel_rfl)) (fun _ _ _ h => h) (Or.inl ⟨by rfl, ?_⟩) hHeld ?_ ?_
    rotate_left
    · rintro w' ⟨s0, s1, s2⟩
      go_simp
      try with_reducible rfl
    rotate_left
    · simp only [Act.put, List.setIfInBounds_toArray, List.set_cons_zero, List.set_cons_succ]
      rfl
    refine take_ (i := 5) (N := some 96) (v := ?_) (a' := ?_) #[true, true, true, true, true, true, false, false, false] rfl rfl (take_ofW HT_.out HW_.out (by kernel_rfl)) (fun _ _ _ h => h) (Or.inl ⟨by rfl, ?_⟩) hHeld ?_ ?_
    rotate_left
    · rintro w' ⟨s0, s1, s2⟩
      go_simp
      try with_reducible rfl
    rotate_left
    · simp only [Act.put, List.setIfInBounds_toArray, List.set_cons_zero, List.set_cons_succ]
      rfl
    refine pure_ (i := 6) (N := some 97) (v := ?_) (a' := ?_) #[true, true, true, true, true, true, true, false, false] rfl rfl (any_of HT_.out (by kernel_rfl)) (fun _ _ _ h => h) (Or.inl ⟨by rfl, ?_⟩) ?_ ?_
    rotate_left
    · intro w'
      go_simp
      try with_reducible rfl
    rotate_left
    · simp only [Act.put, List.setIfInBounds_toArray, List.set_cons_zero, List.set_cons_succ]
      rfl
    refine take_ (i := 7) (N := some 98) (v := ?_) (a' := ?_) #[true, true, true, true, true, true, true, true, false] rfl rfl (take_ofW HT_.out HW_.out (by kernel_rfl)) (fun _ _ _ h => h) (Or.inl ⟨by rfl, ?_⟩) hHeld ?_ ?_
    rotate_left
    · rintro w' ⟨s0, s1, s2⟩
      go_simp
      try with_reducible rfl
    rotate_left
    · simp only [Act.put, List.setIfInBounds_toArray, List.set_cons_zero, List.set_cons_succ]
      rfl
    refine pure_ (i := 8) (N := some 90) (v := ?_) (a' := ?_) #[true, true, true, true, true, true, true, true, true] rfl rfl (any_of HT_.out (by kernel_rfl)) (fun _ _ _ h => h) (Or.inl ⟨by rfl, ?_⟩) ?_ ?_
    rotate_left
    · intro w'
      go_simp
      try with_reducible rfl
    rotate_left
    · simp only [Act.put, List.setIfInBounds_toArray, List.set_cons_zero, List.set_cons_succ]
      rfl
    refine done_ (done_of HT_.out (by kernel_rfl)) ?_
    clear HT_ HW_
    have M6 := Lib.hid M5.out.drew
    have P6 := Lib.hid P5.out.drew
    have X6 := Lib.hid X5.out.drew
    have hmm := hm0 m HMI.out
    have CAME := Lib.hid (show (bls m.came).toArray[A]? = some (Value.bool false) by have := hmm.2; rw [hA.out] at this; simp [bls, this])
    have ALT := Lib.hid c5'
    have XC : Hid (∀ W, Blk W t.x 72 (msC t m) → Blk W t.x 72 #[.string ⟨m.id.toArray⟩, .string mb, .slice (some ⟨t.p, 0, none⟩) L L, .slice (some ⟨t.c, 0, none⟩) L L, .int .i64 m.left]) := Lib.hid (fun W hW => by rw [← MB.out, ← hL.out]; exact hW)
    have J6 := Lib.hid (J4.out.below (below_drewN (Below.refl _ _) 2))
    have K6 := Lib.hid (show Kp (JS j vS0 vN T0) w w4.drew.drew from K4.out.trans (Kp.of_below (below_drewN (Below.refl _ _) 2)))
    have TXT := Lib.hid (show p.text.length ≤ 200 by rw [← hp.out]; exact okP_text s HO.out)
    have KTR : Hid (∀ W W', Kp (JS j vS0 vN T0) w W → Kp (fun i => i = t.x ∨ i = t.p ∨ i = t.c) W W' → Kp (JS j vS0 vN T0) w W') := Lib.hid (fun W W' k1 k2 => k1.trans2 k2 (fun i hi e => by
      have := TW.out
      exfalso
      rcases e with rfl | rfl | rfl <;> omega))
    skip
    clear hmm c5 c5' x3 p3 e3 X4 X5 X6 hm0
    go_upto_region 15 with fail
    refine gworld (fun W => Hid (Blk W gt 36 zTold) ∧ Hid (Blk W gp 65 #[.string ib, .string sm, .string tb, .int .i64 (A : Nat), .int .i64 (N : Nat)]) ∧ Hid (JnA B W j vS vN T J) ∧ Hid (Kp (JS j vS0 vN T0) w W)) ⟨M6, P6, J6, K6⟩ ?_
    rintro w7 ⟨M7, P7, J7, K7⟩
    have HM7 := Lib.hid (J7.out.ms i t m HT.out HMI.out)
    have X7 := Lib.hid (XC.out _ HM7.out.x)
    have x2 : w7.drew.cell? ⟨t.x, 2, none⟩ = some (.slice (some ⟨t.p, 0, none⟩) L L) := X7.out.cell 2
    have x3 : w7.drew.cell? ⟨t.x, 3, none⟩ = some (.slice (some ⟨t.c, 0, none⟩) L L) := X7.out.cell 3
    have p2 : w7.drew.cell? ⟨gp, 2, none⟩ = some (.string tb) := P7.out.cell 2
    have p3 : w7.drew.cell? ⟨gp, 3, none⟩ = some (.int .i64 (A : Nat)) := P7.out.cell 3
    have c5 : w7.cell? ⟨t.c, A, none⟩ = some (.bool false) := (HM7.out.c.cell A).trans CAME.out
    obtain ⟨ob, ho5⟩ : ∃ ob, w7.cell? ⟨t.p, A, none⟩ = some (.string ob) := by
      have hlt : A < m.pcs.length := by rw [hL.out]; exact ALT.out
      exact ⟨_, (HM7.out.p.cell A).trans (by simp [cstr, List.getElem?_eq_getElem hlt]; rfl)⟩
    have f5 : w7.frozen? ⟨t.p, A, none⟩ = false := HM7.out.p.frozen A
    have f6 : w7.frozen? ⟨t.c, A, none⟩ = false := HM7.out.c.frozen A
    have hpc : t.p ≠ t.c := fun e => absurd ((e ▸ HM7.out.p : Blk w7 t.c _ _).ty HM7.out.c).1 (by decide)
    have e3 : 0 ≤ (A : Int) ∧ (A : Int) < (L : Int) := by have := ALT.out; omega
    have e4 : A < L := ALT.out
    have S15 : (w7.setCell ⟨t.p, A, none⟩ (.string tb)).drew.cell? ⟨t.x, 2, none⟩ = some (.slice (some ⟨t.p, 0, none⟩) L L) ∧ (w7.setCell ⟨t.p, A, none⟩ (.string tb)).drew.cell? ⟨t.x, 3, none⟩ = some (.slice (some ⟨t.c, 0, none⟩) L L) ∧ (w7.setCell ⟨t.p, A, none⟩ (.string tb)).drew.cell? ⟨gp, 2, none⟩ = some (.string tb) ∧ (w7.setCell ⟨t.p, A, none⟩ (.string tb)).drew.cell? ⟨gp, 3, none⟩ = some (.int .i64 (A : Nat)) := by
      have q1 := X7.out.far (p := ⟨t.p, A, none⟩) (fun e => absurd ((e ▸ HM7.out.x : Blk w7 t.p _ _).ty HM7.out.p).1 (by decide)) (.string tb)
      have q2 := P7.out.far (p := ⟨t.p, A, none⟩) (fun e => absurd ((e ▸ P7.out : Blk w7 t.p _ _).ty HM7.out.p).1 (by decide)) (.string tb)
      exact ⟨q1.cell 2, q1.cell 3, q2.cell 2, q2.cell 3⟩
    refine start_ (n := 18) (S := fun w' => w'.cell? ⟨t.x, 2, none⟩ = some (.slice (some ⟨t.p, 0, none⟩) L L) ∧ w'.cell? ⟨t.x, 3, none⟩ = some (.slice (some ⟨t.c, 0, none⟩) L L) ∧ w'.cell? ⟨gp, 2, none⟩ = some (.string tb) ∧ w'.cell? ⟨gp, 3, none⟩ = some (.int .i64 (A : Nat))) (ds := [17]) #[false, false, false, false, false, false, false, false, false, false, false, false, false, false, false, false, false, false] (by kernel_rfl) rfl rfl ⟨x2, x3, p2, p3⟩ (fun hHeld => ?_)
    refine with_tabW tk15.tab tk15.bits (fun HT_ HW_ => ?_)
    refine pure_ (i := 0) (N := some 100) (v := ?_) (a' := ?_) #[true, false, false, false, false, false, false, false, false, false, false, false, false, false, false, false, false, false] rfl rfl (any_of HT_.out (by kernel_rfl)) (fun _ _ _ h => h) (Or.inl ⟨by rfl, ?_⟩) ?_ ?_
    rotate_left
    · intro w'
      go_simp
      try with_reducible rfl
    rotate_left
    · simp only [Act.put, List.setIfInBounds_toArray, List.set_cons_zero, List.set_cons_succ]
      rfl
    refine pure_ (i := 1) (N := some 101) (v := ?_) (a' := ?_) #[true, true, false, false, false, false, false, false, false, false, false, false, false, false, false, false, false, false] rfl rfl (any_of HT_.out (by kernel_rfl)) (fun _ _ _ h => h) (Or.inl ⟨by rfl, ?_⟩) ?_ ?_
    rotate_left
    · intro w'
      go_simp
      try with_reducible rfl
    rotate_left
    · simp only [Act.put, List.setIfInBounds_toArray, List.set_cons_zero, List.set_cons_succ]
      rfl
    refine pure_ (i := 2) (N := some 102) (v := ?_) (a' := ?_) #[true, true, true, false, false, false, false, false, false, false, false, false, false, false, false, false, false, false] rfl rfl (any_of HT_.out (by kernel_rfl)) (fun _ _ _ h => h) (Or.inl ⟨by rfl, ?_⟩) ?_ ?_
    rotate_left
    · intro w'
      go_simp
      try with_reducible rfl
    rotate_left
    · simp only [Act.put, List.setIfInBounds_toArray, List.set_cons_zero, List.set_cons_succ]
      rfl
    refine pure_ (i := 4) (N := some 104) (v := ?_) (a' := ?_) #[true, true, true, false, true, false, false, false, false, false, false, false, false, false, false, false, false, false] rfl rfl (any_of HT_.out (by kernel_rfl)) (fun _ _ _ h => h) (Or.inl ⟨by rfl, ?_⟩) ?_ ?_
    rotate_left
    · intro w'
      go_simp
      try with_reducible rfl
    rotate_left
    · simp only [Act.put, List.setIfInBounds_toArray, List.set_cons_zero, List.set_cons_succ]
      rfl
    refine pure_ (i := 6) (N := some 106) (v := ?_) (a' := ?_) #[true, true, true, false, true, false, true, false, false, false, false, false, false, false, false, false, false, false] rfl rfl (any_of HT_.out (by kernel_rfl)) (fun _ _ _ h => h) (Or.inl ⟨by rfl, ?_⟩) ?_ ?_
    rotate_left
    · intro w'
      go_simp
      try with_reducible rfl
    rotate_left
    · simp only [Act.put, List.setIfInBounds_toArray, List.set_cons_zero, List.set_cons_succ]
      rfl
    refine pure_ (i := 7) (N := some 107) (v := ?_) (a' := ?_) #[true, true, true, false, true, false, true, true, false, false, false, false, false, false, false, false, false, false] rfl rfl (any_of HT_.out (by kernel_rfl)) (fun _ _ _ h => h) (Or.inl ⟨by rfl, ?_⟩) ?_ ?_
    rotate_left
    · intro w'
      go_simp
      try with_reducible rfl
    rotate_left
    · simp only [Act.put, List.setIfInBounds_toArray, List.set_cons_zero, List.set_cons_succ]
      rfl
    refine pure_ (i := 8) (N := some 108) (v := ?_) (a' := ?_) #[true, true, true, false, true, false, true, true, true, false, false, false, false, false, false, false, false, false] rfl rfl (any_of HT_.out (by kernel_rfl)) (fun _ _ _ h => h) (Or.inl ⟨by rfl, ?_⟩) ?_ ?_
    rotate_left
    · intro w'
      go_simp
      try with_reducible rfl
    rotate_left
    · simp only [Act.put, List.setIfInBounds_toArray, List.set_cons_zero, List.set_cons_succ]
      rfl
    refine pure_ (i := 10) (N := some 110) (v := ?_) (a' := ?_) #[true, true, true, false, true, false, true, true, true, false, true, false, false, false, false, false, false, false] rfl rfl (any_of HT_.out (by kernel_rfl)) (fun _ _ _ h => h) (Or.inl ⟨by rfl, ?_⟩) ?_ ?_
    rotate_left
    · intro w'
      go_simp
      try with_reducible rfl
    rotate_left
    · simp only [Act.put, List.setIfInBounds_toArray, List.set_cons_zero, List.set_cons_succ]
      rfl
    refine pure_ (i := 12) (N := some 112) (v := ?_) (a' := ?_) #[true, true, true, false, true, false, true, true, true, false, true, false, true, false, false, false, false, false] rfl rfl (any_of HT_.out (by kernel_rfl)) (fun _ _ _ h => h) (Or.inl ⟨by rfl, ?_⟩) ?_ ?_
    rotate_left
    · intro w'
      go_simp
      try with_reducible rfl
    rotate_left
    · simp only [Act.put, List.setIfInBounds_toArray, List.set_cons_zero, List.set_cons_succ]
      rfl
    refine take_ (i := 3) (N := some 103) (v := ?_) (a' := ?_) #[true, true, true, true, true, false, true, true, true, false, true, false, true, false, false, false, false, false] rfl rfl (take_ofW HT_.out HW_.out (by kernel_rfl)) (fun _ _ _ h => h) (Or.inl ⟨by rfl, ?_⟩) hHeld ?_ ?_
    rotate_left
    · rintro w' ⟨s0, s1, s2, s3⟩
      go_simp
      try with_reducible rfl
    rotate_left
    · simp only [Act.put, List.setIfInBounds_toArray, List.set_cons_zero, List.set_cons_succ]
      rfl
    refine take_ (i := 5) (N := some 105) (v := ?_) (a' := ?_) #[true, true, true, true, true, true, true, true, true, false, true, false, true, false, false, false, false, false] rfl rfl (take_ofW HT_.out HW_.out (by kernel_rfl)) (fun _ _ _ h => h) (Or.inl ⟨by rfl, ?_⟩) hHeld ?_ ?_
    rotate_left
    · rintro w' ⟨s0, s1, s2, s3⟩
      go_simp
      try with_reducible rfl
    rotate_left
    · simp only [Act.put, List.setIfInBounds_toArray, List.set_cons_zero, List.set_cons_succ]
      rfl
    refine take_ (i := 9) (N := some 109) (v := ?_) (a' := ?_) #[true, true, true, true, true, true, true, true, true, true, true, false, true, false, false, false, false, false] rfl rfl (take_ofW HT_.out HW_.out (by kernel_rfl)) (fun _ _ _ h => h) (Or.inl ⟨by rfl, ?_⟩) hHeld ?_ ?_
    rotate_left
    · rintro w' ⟨s0, s1, s2, s3⟩
      go_simp
      try with_reducible rfl
    rotate_left
    · simp only [Act.put, List.setIfInBounds_toArray, List.set_cons_zero, List.set_cons_succ]
      rfl
    refine take_ (i := 11) (N := some 111) (v := ?_) (a' := ?_) #[true, true, true, true, true, true, true, true, true, true, true, true, true, false, false, false, false, false] rfl rfl (take_ofW HT_.out HW_.out (by kernel_rfl)) (fun _ _ _ h => h) (Or.inl ⟨by rfl, ?_⟩) hHeld ?_ ?_
    rotate_left
    · rintro w' ⟨s0, s1, s2, s3⟩
      go_simp
      try with_reducible rfl
    rotate_left
    · simp only [Act.put, List.setIfInBounds_toArray, List.set_cons_zero, List.set_cons_succ]
      rfl
    refine take_ (i := 13) (N := some 113) (v := ?_) (a' := ?_) #[true, true, true, true, true, true, true, true, true, true, true, true, true, true, false, false, false, false] rfl rfl (take_ofW HT_.out HW_.out (by kernel_rfl)) (fun _ _ _ h => h) (Or.inl ⟨by rfl, ?_⟩) hHeld ?_ ?_
    rotate_left
    · rintro w' ⟨s0, s1, s2, s3⟩
      go_simp
      try with_reducible rfl
    rotate_left
    · simp only [Act.put, List.setIfInBounds_toArray, List.set_cons_zero, List.set_cons_succ]
      rfl
    refine pure_ (i := 14) (N := some 114) (v := ?_) (a' := ?_) #[true, true, true, true, true, true, true, true, true, true, true, true, true, true, true, false, false, false] rfl rfl (any_of HT_.out (by kernel_rfl)) (fun _ _ _ h => h) (Or.inl ⟨by rfl, ?_⟩) ?_ ?_
    rotate_left
    · intro w'
      go_simp
      try with_reducible rfl
    rotate_left
    · simp only [Act.put, List.setIfInBounds_toArray, List.set_cons_zero, List.set_cons_succ]
      rfl
    refine one_ (i := 15) (N := none) #[true, true, true, true, true, true, true, true, true, true, true, true, true, true, true, true, false, false] rfl rfl (one_of HT_.out (by kernel_rfl)) (by decide) (fun K hK => ?_)
    refine skip_ (w1 := ?_) (by rfl) rfl ?_ ?_
    rotate_left
    · go_simp
      try rfl
    refine hK.out _ _ (S15) (fun hHeld => ?_)
    clear hK K
    refine pure_ (i := 16) (N := some 115) (v := ?_) (a' := ?_) #[true, true, true, true, true, true, true, true, true, true, true, true, true, true, true, true, true, false] rfl rfl (any_of HT_.out (by kernel_rfl)) (fun _ _ _ h => h) (Or.inl ⟨by rfl, ?_⟩) ?_ ?_
    rotate_left
    · intro w'
      go_simp
      try with_reducible rfl
    rotate_left
    · simp only [Act.put, List.setIfInBounds_toArray, List.set_cons_zero, List.set_cons_succ]
      rfl
    refine last_ (i := 17) (N := none) #[true, true, true, true, true, true, true, true, true, true, true, true, true, true, true, true, true, true] rfl rfl (one_of HT_.out (by kernel_rfl)) (by decide) (fun K hK => ?_)
    refine skip_ (w1 := ?_) (by rfl) rfl ?_ ?_
    rotate_left
    · go_simp
      try rfl
    refine hK.out _ _ ?_
    clear hK K
    refine done_ (done_of HT_.out (by kernel_rfl)) ?_
    clear HT_ HW_
    go_upto_region 16 with fail
    refine gworld (fun W => Hid (W = ((w7.setCell ⟨t.p, A, none⟩ (.string tb)).setCell ⟨t.c, A, none⟩ (.bool true)).drew)) (Lib.hid rfl) ?_
    rintro w8 HW8
    obtain ⟨l, hl⟩ : ∃ l, Hid (m.left = l) := ⟨_, Lib.hid rfl⟩
    have x4 : w8.cell? ⟨t.x, 4, none⟩ = some (.int .i64 l) := by
      rw [HW8.out, ← hl.out]
      exact (((X7.out.far (p := ⟨t.p, A, none⟩) (fun e => absurd ((e ▸ HM7.out.x : Blk w7 t.p _ _).ty HM7.out.p).1 (by decide)) (.string tb)).far (p := ⟨t.c, A, none⟩) (fun e => absurd ((e ▸ HM7.out.x : Blk w7 t.c _ _).ty HM7.out.c).1 (by decide)) (.bool true)).drew).cell 4
    have f4 : w8.frozen? ⟨t.x, 4, none⟩ = false := by
      rw [HW8.out]
      exact (((X7.out.far (p := ⟨t.p, A, none⟩) (fun e => absurd ((e ▸ HM7.out.x : Blk w7 t.p _ _).ty HM7.out.p).1 (by decide)) (.string tb)).far (p := ⟨t.c, A, none⟩) (fun e => absurd ((e ▸ HM7.out.x : Blk w7 t.c _ _).ty HM7.out.c).1 (by decide)) (.bool true)).drew).frozen 4
    have hl1 : 1 ≤ l ∧ l ≤ 11 := ⟨by rw [← hl.out]; exact LEFT.out, by rw [← hl.out]; exact HM7.out.lf.2⟩
    have hw : wrap64 (l - 1) = l - 1 := by unfold wrap64; omega
    have J9 : Hid (JnA B (w8.setCell ⟨t.x, 4, none⟩ (.int .i64 (l - 1))) j vS vN T { J with some := (J).some.set i (m.put p.at_ p.text) }) := by
      have h9 := (J7.out.piece HT.out HMI.out A p.text TXT.out LEFT.out).below (below_drewN (Below.refl _ _) 1)
      unfold putW at h9
      rw [TB.out, hl.out] at h9
      rw [← hA.out] at h9
      rw [HW8.out, ← hA.out]
      exact Lib.hid h9
    have K9 : Hid (Kp (JS j vS0 vN T0) w (w8.setCell ⟨t.x, 4, none⟩ (.int .i64 (l - 1)))) := by
      rw [HW8.out]
      have k9 := (putW_kp w7 t A p.text (l - 1)).trans (Kp.of_below (below_drewN (Below.refl _ _) 1))
      unfold putW at k9
      rw [TB.out] at k9
      exact Lib.hid (KTR.out _ _ K7.out k9)
    have G9 : Hid (∀ g cs u, Blk w7 g u cs → u ∉ [9, 72, 4] → Blk (w8.setCell ⟨t.x, 4, none⟩ (.int .i64 (l - 1))) g u cs) := Lib.hid (fun g cs u hg hu => by
      rw [HW8.out]
      have k9 := (putW_kp w7 t A p.text (l - 1)).trans (Kp.of_below (below_drewN (Below.refl _ _) 1))
      unfold putW at k9
      rw [TB.out] at k9
      refine hg.kp k9 ?_
      rintro (e | e | e)
      · subst e; exact hu (by rw [(hg.ty HM7.out.x).1]; decide)
      · subst e; exact hu (by rw [(hg.ty HM7.out.p).1]; decide)
      · subst e; exact hu (by rw [(hg.ty HM7.out.c).1]; decide))
    have M9 := Lib.hid (G9.out _ _ _ M7.out (by decide))
    have P9 := Lib.hid (G9.out _ _ _ P7.out (by decide))
    clear HW8 G9 x2 x3 p2 p3 c5 ho5 f5 f6 hpc e3 e4 X7 M7 P7 J7 K7 HM7 hHeld
    by_cases hlast : 1 < l
    · have d1 : decide (0 < l - 1) = true := decide_eq_true (by omega)
      have e5 : 0 < l - 1 := by omega
      have HLAST := Lib.hid hlast
      clear hlast hl1
      go_upto_region 18 with fail
      clear x4 f4 hw d1 e5
      refine gworld (fun W => Hid (W = w8.setCell ⟨t.x, 4, none⟩ (.int .i64 (l - 1)))) (Lib.hid rfl) ?_
      rintro w9 HW9
      rw [← HW9.out] at J9 K9 M9 P9
      go_wp2_with (first
        | ((with_reducible refine gate_store (t := 36) (p := 4) (v := .tmp 128) rfl ?_); refine wpList_store_row rfl 36 (.tmp 4) (.tmp 128) rfl gt zTold rfl rfl 36 zTold M9.out size_told rfl one_ztold ?_))
      have MF := Lib.hid (M9.out.setRow zTold)
      refine bodyPost_ret (results_ctt rfl _ _ gt 36 _ (0, 0) _ rfl MF.out Tryd.underlying36 rfl rfl) rfl ?_
      rw [HTF.out]
      rw [show putIn J i (J.some[i]'hi) (ptOf s) = ({ J with some := J.some.set i (m.put p.at_ p.text) }, noTk 0) by
        rw [hme.out, hp.out]; unfold putIn; rw [if_pos (by rw [hl.out]; have := HLAST.out; omega)]]
      exact ⟨rfl, vS, vN, T, J9.out.kp (Kp.rowAt (S := fun i => i = gt) rfl zTold) (fun i hi e => J9.out.notIn M9.out (by decide) (e ▸ hi)), K9.out.row SG.out.1 zTold, CUT0.out⟩
    · obtain rfl : l = 1 := by omega
      clear hlast hl1 hw
      go_upto_region 19 with fail
      clear x4 f4
      refine gworld (fun W => Hid (W = w8.setCell ⟨t.x, 4, none⟩ (.int .i64 (1 - 1)))) (Lib.hid rfl) ?_
      rintro w9 HW9
      rw [← HW9.out] at J9 K9 M9 P9
      obtain ⟨m2, hm2⟩ : ∃ m2, Hid (m.put p.at_ p.text = m2) := ⟨_, Lib.hid rfl⟩
      rw [hm2.out] at J9
      obtain ⟨J1, hJ1⟩ : ∃ J1, Hid (({ J with some := J.some.set i m2 } : Jn) = J1) := ⟨_, Lib.hid rfl⟩
      rw [hJ1.out] at J9
      have HI1 := Lib.hid (show i < J1.some.length by rw [← hJ1.out]; show i < (J.some.set i m2).length; rw [List.length_set]; exact HI.out)
      have HMI1 := Lib.hid (show J1.some[i]? = some m2 by rw [← hJ1.out]; show (J.some.set i m2)[i]? = _; rw [List.getElem?_set_self HI.out])
      have HSZ9 := Lib.hid (K9.out.size)
      have HCUT := Lib.hid (cutM_any B j (J1.noted : Nat) vN vS J1.most (T.map (·.x)) i w9 J9.out.hj (Nat.le_trans HB.out HSZ9.out) (by rw [← ptrX_eq]; exact J9.out.s) (by rw [List.length_map, J9.out.len]; exact HI1.out) (by rw [List.length_map, J9.out.len]; have := J9.out.bd; omega))
      go_wp2_with fail
      refine HCUT.out.mono ?_
      rintro e w10 ⟨rfl, v', hjb, hwin, hk10, hfr⟩
      have J10 := Lib.hid (J9.out.cut i HI1.out hjb hwin hk10)
      have HM9 := J9.out.ms i t m2 HT.out HMI1.out
      have HM10 := Lib.hid (HM9.kp hk10 (fun e => absurd ((e ▸ HM9.x : Blk w9 j _ _).ty J9.out.hj).1 (by decide)) (fun e => absurd ((e ▸ HM9.p : Blk w9 j _ _).ty J9.out.hj).1 (by decide)) (fun e => absurd ((e ▸ HM9.c : Blk w9 j _ _).ty J9.out.hj).1 (by decide)))
      have M10 := Lib.hid (M9.out.kp hk10 (fun e => absurd ((e ▸ M9.out : Blk w9 j _ _).ty J9.out.hj).1 (by decide)))
      have P10 := Lib.hid (P9.out.kp hk10 (fun e => absurd ((e ▸ P9.out : Blk w9 j _ _).ty J9.out.hj).1 (by decide)))
      have K10 := Lib.hid (K9.out.trans (hk10.mono (S' := JS j vS0 vN T0) (fun i hi e => .inl e)))
      have FR := Lib.hid (show ∀ b, v'.ownBlock = some b → w.heap.size ≤ b from fun b hb => Nat.le_trans HSZ9.out (hfr b hb))
      have HL2 := Lib.hid (show m2.pcs.length = L by rw [← hm2.out, ← hL.out]; exact List.length_set)
      have HJO := Lib.hid (joined HM10.out)
      have x2 : w10.cell? ⟨t.x, 2, none⟩ = some (.slice (some ⟨t.p, 0, none⟩) m2.pcs.length m2.pcs.length) := HM10.out.x.cell 2
      rw [HL2.out] at HJO x2
      obtain ⟨bb, BB⟩ : ∃ x : ByteArray, Hid (⟨m2.pcs.flatten.toArray⟩ = x) := ⟨_, Lib.hid rfl⟩
      rw [BB.out] at HJO
      have HFL := Lib.hid (flatten_le m2.pcs HM10.out.sz)
      have HN2 := Lib.hid HM10.out.n
      have CUTS := Lib.hid (show ∀ k, JS j v' vN (T.eraseIdx i) k → JS j vS0 vN T0 k ∨ w.heap.size ≤ k from fun k hk => by
        rcases hk with e | e | e | ⟨u, hu, e⟩
        · exact .inl (.inl e)
        · exact .inr (FR.out k e)
        · exact .inl (.inr (.inr (.inl e)))
        · exact CUT0.out k (.inr (.inr (.inr ⟨u, (List.eraseIdx_sublist T i).subset hu, e⟩))))
      clear hjb hwin hk10 hfr HM9 M9 P9 K9 J9 HCUT HW9
      go_upto_region 20 with fail
      go_wp2_with fail
      refine HJO.out.mono ?_
      rintro e w11 ⟨rfl, b11⟩
      have J11 := Lib.hid ((J10.out.below b11).below (below_drewN (Below.refl _ _) 1))
      have M11 := Lib.hid (M10.out.below b11 M10.out.lt).drew
      have P11 := Lib.hid (P10.out.below b11 P10.out.lt).drew
      have K11 := Lib.hid (show Kp (JS j vS0 vN T0) w w11.drew from K10.out.trans ((Kp.of_below b11).trans (Kp.of_below (below_drewN (Below.refl _ _) 1))))
      obtain ⟨dg, DG⟩ : ∃ x, Hid (digL p.id m2.pcs.flatten = x) := ⟨_, Lib.hid rfl⟩
      obtain ⟨rb, RB⟩ : ∃ x : ByteArray, Hid (⟨dg.toArray⟩ = x) := ⟨_, Lib.hid rfl⟩
      have HBB := Lib.hid (show Below B w w11.drew from K11.out.below (fun i hi => (HJ.out.lt hi).1) HB.out)
      have HDG := Lib.hid (digest_any p.id m2.pcs.flatten w11.drew (by rw [← hp.out]; exact ptOf_id s) (by have := HFL.out; have := HN2.out; omega) (HK.out.belowB HKS.out HBB.out) (Nat.lt_of_lt_of_le HKS.out (Nat.le_trans HB.out K11.out.size)))
      rw [DG.out, IB.out, BB.out, RB.out] at HDG
      have p0 : w11.drew.cell? ⟨gp, 0, none⟩ = some (.string ib) := P11.out.cell 0
      have p1 : w11.drew.cell? ⟨gp, 1, none⟩ = some (.string sm) := P11.out.cell 1
      have HE := Lib.hid (show (rb.toList == sm.toList) = decide (dg = p.sum) by rw [← RB.out, ← SM.out, ByteArray.toList_eq, ByteArray.toList_eq]; exact beq_dec dg p.sum)
      clear b11 J10 M10 P10 K10 x2 HJO HBB
      go_upto_region 21 with fail
      refine start_ (n := 7) (S := fun w' => w'.cell? ⟨gp, 0, none⟩ = some (.string ib) ∧ w'.cell? ⟨gp, 1, none⟩ = some (.string sm)) (ds := []) #[false, false, false, false, false, false, false] (by kernel_rfl) rfl rfl ⟨p0, p1⟩ (fun hHeld => ?_)
      refine with_tabW tk21.tab tk21.bits (fun HT_ HW_ => ?_)
      refine pure_ (i := 0) (N := some 139) (v := ?_) (a' := ?_) #[true, false, false, false, false, false, false] rfl rfl (any_of HT_.out (by kernel_rfl)) (fun _ _ _ h => h) (Or.inl ⟨by rfl, ?_⟩) ?_ ?_
      rotate_left
      · intro w'
        go_simp
        try with_reducible rfl
      rotate_left
      · simp only [Act.put, List.setIfInBounds_toArray, List.set_cons_zero, List.set_cons_succ]
        rfl
      refine pure_ (i := 2) (N := some 141) (v := ?_) (a' := ?_) #[true, false, true, false, false, false, false] rfl rfl (any_of HT_.out (by kernel_rfl)) (fun _ _ _ h => h) (Or.inl ⟨by rfl, ?_⟩) ?_ ?_
      rotate_left
      · intro w'
        go_simp
        try with_reducible rfl
      rotate_left
      · simp only [Act.put, List.setIfInBounds_toArray, List.set_cons_zero, List.set_cons_succ]
        rfl
      refine pure_ (i := 4) (N := some 143) (v := ?_) (a' := ?_) #[true, false, true, false, true, false, false] rfl rfl (any_of HT_.out (by kernel_rfl)) (fun _ _ _ h => h) (Or.inl ⟨by rfl, ?_⟩) ?_ ?_
      rotate_left
      · intro w'
        go_simp
        try with_reducible rfl
      rotate_left
      · simp only [Act.put, List.setIfInBounds_toArray, List.set_cons_zero, List.set_cons_succ]
        rfl
      refine take_ (i := 1) (N := some 140) (v := ?_) (a' := ?_) #[true, true, true, false, true, false, false] rfl rfl (take_ofW HT_.out HW_.out (by kernel_rfl)) (fun _ _ _ h => h) (Or.inl ⟨by rfl, ?_⟩) hHeld ?_ ?_
      rotate_left
      · rintro w' ⟨s0, s1⟩
        go_simp
        try with_reducible rfl
      rotate_left
      · simp only [Act.put, List.setIfInBounds_toArray, List.set_cons_zero, List.set_cons_succ]
        rfl
      refine take_ (i := 5) (N := some 144) (v := ?_) (a' := ?_) #[true, true, true, false, true, true, false] rfl rfl (take_ofW HT_.out HW_.out (by kernel_rfl)) (fun _ _ _ h => h) (Or.inl ⟨by rfl, ?_⟩) hHeld ?_ ?_
      rotate_left
      · rintro w' ⟨s0, s1⟩
        go_simp
        try with_reducible rfl
      rotate_left
      · simp only [Act.put, List.setIfInBounds_toArray, List.set_cons_zero, List.set_cons_succ]
        rfl
      refine one_ (i := 3) (N := some 142) #[true, true, true, true, true, true, false] rfl rfl (one_of HT_.out (by kernel_rfl)) (by decide) (fun K hK => ?_)
      refine goes_ Tryd.func19 (by kernel_rfl) rfl #[.string ib, .string bb] (by rfl) rfl rfl (by first | done | rfl | (simp only [List.map_toArray, List.map_cons, List.map_nil]; done) | (simp only [List.map_toArray, List.map_cons, List.map_nil]; rfl)) ?_
      refine (HDG.out).mono ?_
      rintro e' w12 ⟨rfl, b12⟩
      refine ⟨_, rfl, ?_⟩
      refine hK.out _ _ (⟨(P11.out.below b12 P11.out.lt).cell 0, (P11.out.below b12 P11.out.lt).cell 1⟩) (fun hHeld => ?_)
      clear hK K
      refine norm_ (a' := ?_) ?_ ?_
      rotate_left
      · show Act.put _ (some 142) _ = _
        simp only [Act.put, List.setIfInBounds_toArray, List.set_cons_zero, List.set_cons_succ]
        rfl
      refine pure_ (i := 6) (N := some 145) (v := ?_) (a' := ?_) #[true, true, true, true, true, true, true] rfl rfl (any_of HT_.out (by kernel_rfl)) (fun _ _ _ h => h) (Or.inl ⟨by rfl, ?_⟩) ?_ ?_
      rotate_left
      · intro w'
        go_simp
        try with_reducible rfl
      rotate_left
      · simp only [Act.put, List.setIfInBounds_toArray, List.set_cons_zero, List.set_cons_succ]
        rfl
      refine done_ (done_of HT_.out (by kernel_rfl)) ?_
      clear HT_ HW_
      have J12 := Lib.hid (J11.out.below b12)
      have M12 := Lib.hid (M11.out.below b12 M11.out.lt)
      have P12 := Lib.hid (P11.out.below b12 P11.out.lt)
      have K12 := Lib.hid (K11.out.trans (Kp.of_below b12))
      clear b12 J11 M11 P11 K11 p0 p1 HDG hHeld
      have he := HE.out
      by_cases hd : dg = p.sum
      · have HD := Lib.hid hd
        rw [decide_eq_true hd] at he
        clear hd
        try simp only [he, Bool.not_false, Bool.not_true]
        go_upto_region 23 with fail
        have J12d := Lib.hid (J12.out.below (below_drewN (Below.refl _ _) 1))
        have HPUT := Lib.hid (putT_any B j (J1.most : Nat) v' vN J1.noted J1.done p.id w12.drew J12d.out.hj (Nat.le_trans HB.out K12.out.size) J12d.out.n J12d.out.bd.2.1 J12d.out.bd.2.2.2)
        rw [IB.out] at HPUT
        have NGP := Lib.hid (show ¬ (gp = j ∨ vN.ownBlock = some gp) from fun e => J12.out.notIn P12.out (by decide) (e.elim .inl (fun e => .inr (.inr (.inl e)))))
        have p0 : w12.drew.cell? ⟨gp, 0, none⟩ = some (.string ib) := P12.out.cell 0
        refine start_ (n := 6) (S := fun w' => w'.cell? ⟨gp, 0, none⟩ = some (.string ib)) (ds := []) #[false, false, false, false, false, false] (by kernel_rfl) rfl rfl p0 (fun hHeld => ?_)
        refine with_tabW tk23.tab tk23.bits (fun HT_ HW_ => ?_)
        refine pure_ (i := 0) (N := some 147) (v := ?_) (a' := ?_) #[true, false, false, false, false, false] rfl rfl (any_of HT_.out (by kernel_rfl)) (fun _ _ _ h => h) (Or.inl ⟨by rfl, ?_⟩) ?_ ?_
        rotate_left
        · intro w'
          go_simp
          try with_reducible rfl
        rotate_left
        · simp only [Act.put, List.setIfInBounds_toArray, List.set_cons_zero, List.set_cons_succ]
          rfl
        refine pure_ (i := 1) (N := some 148) (v := ?_) (a' := ?_) #[true, true, false, false, false, false] rfl rfl (any_of HT_.out (by kernel_rfl)) (fun _ _ _ h => h) (Or.inl ⟨by rfl, ?_⟩) ?_ ?_
        rotate_left
        · intro w'
          go_simp
          try with_reducible rfl
        rotate_left
        · simp only [Act.put, List.setIfInBounds_toArray, List.set_cons_zero, List.set_cons_succ]
          rfl
        refine pure_ (i := 2) (N := some 149) (v := ?_) (a' := ?_) #[true, true, true, false, false, false] rfl rfl (any_of HT_.out (by kernel_rfl)) (fun _ _ _ h => h) (Or.inl ⟨by rfl, ?_⟩) ?_ ?_
        rotate_left
        · intro w'
          go_simp
          try with_reducible rfl
        rotate_left
        · simp only [Act.put, List.setIfInBounds_toArray, List.set_cons_zero, List.set_cons_succ]
          rfl
        refine pure_ (i := 3) (N := some 150) (v := ?_) (a' := ?_) #[true, true, true, true, false, false] rfl rfl (any_of HT_.out (by kernel_rfl)) (fun _ _ _ h => h) (Or.inl ⟨by rfl, ?_⟩) ?_ ?_
        rotate_left
        · intro w'
          go_simp
          try with_reducible rfl
        rotate_left
        · simp only [Act.put, List.setIfInBounds_toArray, List.set_cons_zero, List.set_cons_succ]
          rfl
        refine take_ (i := 4) (N := some 151) (v := ?_) (a' := ?_) #[true, true, true, true, true, false] rfl rfl (take_ofW HT_.out HW_.out (by kernel_rfl)) (fun _ _ _ h => h) (Or.inl ⟨by rfl, ?_⟩) hHeld ?_ ?_
        rotate_left
        · rintro w' s0
          go_simp
          try with_reducible rfl
        rotate_left
        · simp only [Act.put, List.setIfInBounds_toArray, List.set_cons_zero, List.set_cons_succ]
          rfl
        refine one_ (i := 5) (N := some 152) #[true, true, true, true, true, true] rfl rfl (one_of HT_.out (by kernel_rfl)) (by decide) (fun K hK => ?_)
        refine goes_ Tryd.func28 (by kernel_rfl) rfl #[.pointer (some ⟨j, 2, none⟩), .string ib] (by rfl) rfl rfl (by first | done | rfl | (simp only [List.map_toArray, List.map_cons, List.map_nil]; done) | (simp only [List.map_toArray, List.map_cons, List.map_nil]; rfl)) ?_
        refine (HPUT.out).mono ?_
        rintro e' w13 ⟨rfl, v2, hj13, hw13, hk13, hv13⟩
        refine ⟨_, rfl, ?_⟩
        refine hK.out _ _ ((P12.out.drew.kp hk13 NGP.out).cell 0) (fun hHeld => ?_)
        clear hK K
        refine norm_ (a' := ?_) ?_ ?_
        rotate_left
        · show Act.put _ (some 152) _ = _
          simp only [Act.put, List.setIfInBounds_toArray, List.set_cons_zero, List.set_cons_succ]
          rfl
        refine done_ (done_of HT_.out (by kernel_rfl)) ?_
        clear HT_ HW_
        have J13 := Lib.hid (J12d.out.noted p.id hj13 hw13 hk13 hv13)
        have M13 := Lib.hid (M12.out.drew.kp hk13 (fun e => J12.out.notIn M12.out (by decide) (e.elim .inl (fun e => .inr (.inr (.inl e))))))
        have P13 := Lib.hid (P12.out.drew.kp hk13 NGP.out)
        have K13 := Lib.hid (K12.out.drewR.trans (hk13.mono (S' := JS j vS0 vN T0) (fun i hi e => e.elim .inl (fun e => .inr (.inr (.inl e))))))
        have CUT2 := Lib.hid (show ∀ k, JS j v' v2 (T.eraseIdx i) k → JS j vS0 vN T0 k ∨ w.heap.size ≤ k from fun k hk => by
          rcases hk with e | e | e | e
          · exact CUTS.out k (.inl e)
          · exact CUTS.out k (.inr (.inl e))
          · rcases hv13 with h | ⟨b, h, hb⟩
            · exact CUTS.out k (.inr (.inr (.inl (h ▸ e))))
            · rw [h] at e; cases e; exact .inr (Nat.le_trans K12.out.size hb)
          · exact CUTS.out k (.inr (.inr (.inr e))))
        have q0 : w13.cell? ⟨gp, 0, none⟩ = some (.string ib) := P13.out.cell 0
        clear hj13 hw13 hk13 hv13 hHeld p0 HPUT
        go_wp2_with (first
          | ((with_reducible refine gate_store (t := 36) (p := 4) (v := .tmp 156) rfl ?_); refine wpList_store_row rfl 36 (.tmp 4) (.tmp 156) rfl gt #[.string ib, .string bb] rfl rfl 36 zTold M13.out size_told rfl (one_told2 _ _) ?_))
        have MF := Lib.hid (M13.out.setRow #[.string ib, .string bb])
        refine bodyPost_ret (results_ctt rfl _ _ gt 36 _ (0, 0) _ rfl MF.out Tryd.underlying36 rfl rfl) rfl ?_
        rw [HTF.out]
        rw [show putIn J i (J.some[i]'hi) (ptOf s) = ({ J1 with some := J1.some.eraseIdx i, done := pushQ J1.noted J1.done p.id }, ⟨p.id, m2.pcs.flatten, true, 0⟩) by
          rw [hme.out, hp.out]; unfold putIn lastIn; rw [if_neg (by rw [hl.out]; omega), hm2.out, DG.out, if_pos HD.out, hJ1.out]]
        exact ⟨by show _ = Ending.returned (.tuple #[.agg #[.string ⟨p.id.toArray⟩, .string ⟨m2.pcs.flatten.toArray⟩], .bool true, .int .i64 0]); rw [IB.out, BB.out]; rfl, v', v2, T.eraseIdx i, J13.out.kp (Kp.rowAt (S := fun i => i = gt) rfl _) (fun i hi e => J13.out.notIn M13.out (by decide) (e ▸ hi)), K13.out.row SG.out.1 _, CUT2.out⟩
      · have HD := Lib.hid hd
        rw [decide_eq_false hd] at he
        clear hd
        try simp only [he, Bool.not_false, Bool.not_true]
        go_wp2_with (first
          | ((with_reducible refine gate_store (t := 36) (p := 4) (v := .tmp 146) rfl ?_); refine wpList_store_row rfl 36 (.tmp 4) (.tmp 146) rfl gt zTold rfl rfl 36 zTold M12.out size_told rfl one_ztold ?_))
        have MF := Lib.hid (M12.out.setRow zTold)
        refine bodyPost_ret (results_ctt rfl _ _ gt 36 _ (0, 0) _ rfl MF.out Tryd.underlying36 rfl rfl) rfl ?_
        rw [HTF.out]
        rw [show putIn J i (J.some[i]'hi) (ptOf s) = ({ J1 with some := J1.some.eraseIdx i }, noTk 220) by
          rw [hme.out, hp.out]; unfold putIn lastIn; rw [if_neg (by rw [hl.out]; omega), hm2.out, DG.out, if_neg HD.out, hJ1.out]]
        exact ⟨rfl, v', vN, T.eraseIdx i, J12.out.kp (Kp.rowAt (S := fun i => i = gt) rfl zTold) (fun i hi e => J12.out.notIn M12.out (by decide) (e ▸ hi)), K12.out.row SG.out.1 zTold, CUTS.out⟩
  · refine step_make_run (by rfl) (.tmp 49) (.tmp 49) 30 rfl rfl rfl (MB.out _) ?_
    refine hK.out _ _ (⟨(P4.out.drew.alloc _).cell 0, (P4.out.drew.alloc _).cell 1, (P4.out.drew.alloc _).cell 4⟩) (fun hHeld => ?_)
    clear hK K
    refine norm_ (a' := ?_) ?_ ?_
    rotate_left
    · show Act.put _ (some 50) _ = _
      simp only [Act.put, List.setIfInBounds_toArray, List.set_cons_zero, List.set_cons_succ]
      rfl
    refine one_ (i := 9) (N := some 47) #[true, true, true, true, true, true, true, true, true, true, true, true, true, true, true, false, false, false] rfl rfl (one_of HT_.out (by kernel_rfl)) (by decide) (fun K hK => ?_)
    refine step_make_run (by rfl) (.tmp 46) (.tmp 46) 22 rfl rfl rfl (MS.out _) ?_
    refine hK.out _ _ (⟨((P4.out.drew.alloc _).alloc _).cell 0, ((P4.out.drew.alloc _).alloc _).cell 1, ((P4.out.drew.alloc _).alloc _).cell 4⟩) (fun hHeld => ?_)
    clear hK K
    refine norm_ (a' := ?_) ?_ ?_
    rotate_left
    · show Act.put _ (some 47) _ = _
      simp only [Act.put, List.setIfInBounds_toArray, List.set_cons_zero, List.set_cons_succ]
      rfl
    refine pure_ (i := 15) (N := some 53) (v := ?_) (a' := ?_) #[true, true, true, true, true, true, true, true, true, true, true, true, true, true, true, true, false, false] rfl rfl (any_of HT_.out (by kernel_rfl)) (fun _ _ _ h => h) (Or.inl ⟨by rfl, ?_⟩) ?_ ?_
    rotate_left
    · intro w'
      go_simp
      try with_reducible rfl
    rotate_left
    · simp only [Act.put, List.setIfInBounds_toArray, List.set_cons_zero, List.set_cons_succ]
      rfl
    refine one_ (i := 16) (N := some 54) #[true, true, true, true, true, true, true, true, true, true, true, true, true, true, true, true, true, false] rfl rfl (one_of HT_.out (by kernel_rfl)) (by decide) (fun K hK => ?_)
    refine value_ (w1 := ?_) (v := ?_) (by rfl) rfl ?_ ?_
    rotate_left 2
    · go_simp
      constructor <;> rfl
    refine hK.out _ _ (⟨(((P4.out.drew.alloc _).alloc _).alloc _).cell 0, (((P4.out.drew.alloc _).alloc _).alloc _).cell 1, (((P4.out.drew.alloc _).alloc _).alloc _).cell 4⟩) (fun hHeld => ?_)
    clear hK K
    refine norm_ (a' := ?_) ?_ ?_
    rotate_left
    · show Act.put _ (some 54) _ = _
      simp only [Act.put, List.setIfInBounds_toArray, List.set_cons_zero, List.set_cons_succ]
      rfl
    refine one_ (i := 17) (N := some 55) #[true, true, true, true, true, true, true, true, true, true, true, true, true, true, true, true, true, true] rfl rfl (one_of HT_.out (by kernel_rfl)) (by decide) (fun K hK => ?_)
    refine goes_ Tryd.func25 (by kernel_rfl) rfl #[.pointer (some ⟨j, 0, none⟩), .pointer (some ⟨w4.heap.size + 1 + 1, 0, none⟩)] (by rfl) rfl rfl (by first | done | rfl | (simp only [List.map_toArray, List.map_cons, List.map_nil]; done) | (simp only [List.map_toArray, List.map_cons, List.map_nil]; rfl)) ?_
    refine (HPUT.out ((((w4.alloc (.cells (bls (List.replicate N false)).toArray 4)).alloc (.cells (cstr (List.replicate N [])).toArray 9)).alloc (.cells #[.string ib, .string sm, .slice (some ⟨w4.heap.size + 1, 0, none⟩) N N, .slice (some ⟨w4.heap.size, 0, none⟩) N N, .int .i64 (N : Nat)] 72)).drew) (w4.heap.size + 1 + 1) (below_drewN ((((Below.refl w4.heap.size w4).alloc (Nat.le_refl _) _).alloc (by simp) _).alloc (by simp; omega) _) 1)).mono ?_
    rintro e' w5 ⟨rfl, vS, hjb, hwin, hk5, hfr⟩
    refine ⟨_, rfl, ?_⟩
    refine hK.out _ _ (⟨((((P4.out.alloc _).alloc _).alloc _).drew.kp hk5 NGP.out).cell 0, ((((P4.out.alloc _).alloc _).alloc _).drew.kp hk5 NGP.out).cell 1, ((((P4.out.alloc _).alloc _).alloc _).drew.kp hk5 NGP.out).cell 4⟩) (fun hHeld => ?_)
    clear hK K
    refine norm_ (a' := ?_) ?_ ?_
    rotate_left
    · show Act.put _ (some 55) _ = _
      simp only [Act.put, List.setIfInBounds_toArray, List.set_cons_zero, List.set_cons_succ]
      rfl
    refine done_ (done_of HT_.out (by kernel_rfl)) ?_
    clear HT_ HW_
    have BX := Lib.hid (show Below w4.heap.size w4 ((((w4.alloc (.cells (bls (List.replicate N false)).toArray 4)).alloc (.cells (cstr (List.replicate N [])).toArray 9)).alloc (.cells #[.string ib, .string sm, .slice (some ⟨w4.heap.size + 1, 0, none⟩) N N, .slice (some ⟨w4.heap.size, 0, none⟩) N N, .int .i64 (N : Nat)] 72)).drew) from below_drewN ((((Below.refl w4.heap.size w4).alloc (Nat.le_refl _) _).alloc (by simp) _).alloc (by simp; omega) _) 1)
    have J8 := Lib.hid (J4.out.below BX.out)
    have HBW := Lib.hid (Nat.le_trans HB.out B4.out.size)
    have HMA : Hid (MsA B ((((w4.alloc (.cells (bls (List.replicate N false)).toArray 4)).alloc (.cells (cstr (List.replicate N [])).toArray 9)).alloc (.cells #[.string ib, .string sm, .slice (some ⟨w4.heap.size + 1, 0, none⟩) N N, .slice (some ⟨w4.heap.size, 0, none⟩) N N, .int .i64 (N : Nat)] 72)).drew) ⟨w4.heap.size + 1 + 1, w4.heap.size + 1, w4.heap.size⟩ (freshM p)) := by
      have e : msC ⟨w4.heap.size + 1 + 1, w4.heap.size + 1, w4.heap.size⟩ (freshM p) = #[.string ib, .string sm, .slice (some ⟨w4.heap.size + 1, 0, none⟩) N N, .slice (some ⟨w4.heap.size, 0, none⟩) N N, .int .i64 (N : Nat)] := by
        unfold msC freshM; rw [IB.out, SM.out, hN.out]; simp
      have hb := HBW.out
      have hn := HNN.out
      refine Lib.hid ⟨?_, ?_, ?_, ?_, ⟨by show B ≤ w4.heap.size + 1 + 1; omega, by show B ≤ w4.heap.size + 1; omega, by show B ≤ w4.heap.size; omega⟩, ?_, ?_, ?_⟩
      · rw [e]; exact (Blk.newAt _ _ _ _ (by simp)).drew
      · show Blk _ _ _ (cstr (List.replicate p.many [])).toArray
        rw [hN.out]; exact (Blk.newAt _ _ _ _ (by simp)).alloc _
      · show Blk _ _ _ (bls (List.replicate p.many false)).toArray
        rw [hN.out]; exact ((Blk.newAt _ _ _ _ rfl).alloc _).alloc _
      · simp [freshM]
      · simp only [freshM, List.length_replicate, hN.out]; exact hn
      · simp only [freshM, hN.out]; omega
      · intro u hu; rw [List.eq_of_mem_replicate hu]; simp
    have J5 := Lib.hid (J8.out.pushed (t := ⟨w4.heap.size + 1 + 1, w4.heap.size + 1, w4.heap.size⟩) HMA.out (fun u hu => by
      have h1 := (J4.out.lt (.inr (.inr (.inr ⟨u, hu, .inl rfl⟩)))).2
      have h2 := (J4.out.lt (.inr (.inr (.inr ⟨u, hu, .inr (.inl rfl)⟩)))).2
      have h3 := (J4.out.lt (.inr (.inr (.inr ⟨u, hu, .inr (.inr rfl)⟩)))).2
      exact ⟨by show u.x ≠ w4.heap.size + 1 + 1; omega, by show u.p ≠ w4.heap.size + 1; omega, by show u.c ≠ w4.heap.size; omega⟩) (fun e => by
      have h1 := (J4.out.lt (.inr (.inr (.inl e)))).2
      have h2 : w4.heap.size + 1 < w4.heap.size := h1
      omega) hjb hwin hk5)
    obtain ⟨t, ht⟩ : ∃ t, Hid ((⟨w4.heap.size + 1 + 1, w4.heap.size + 1, w4.heap.size⟩ : Pl) = t) := ⟨_, Lib.hid rfl⟩
    have TW := Lib.hid (show w.heap.size ≤ t.x ∧ w.heap.size ≤ t.p ∧ w.heap.size ≤ t.c by
      have := B4.out.size
      rw [← ht.out]
      exact ⟨by show w.heap.size ≤ w4.heap.size + 1 + 1; omega, by show w.heap.size ≤ w4.heap.size + 1; omega, by show w.heap.size ≤ w4.heap.size; omega⟩)
    rw [ht.out] at J5
    have K5 := Lib.hid (show Kp (JS j vS0 vN T0) w w5 from (Kp.of_below (B4.out.trans (BX.out.mono B4.out.size))).trans (hk5.mono (S' := JS j vS0 vN T0) (fun i hi e => e.elim .inl (fun e => .inr (.inl e)))))
    have M5 := Lib.hid ((M4.out.below BX.out M4.out.lt).kp hk5 (fun e => J4.out.notIn M4.out (by decide) (e.elim .inl (fun e => .inr (.inl e)))))
    have P5 := Lib.hid ((P4.out.below BX.out P4.out.lt).kp hk5 NGP.out)
    have CUT0 := Lib.hid (show ∀ k, JS j vS vN (pushQ J0.most T0 t) k → JS j vS0 vN T0 k ∨ w.heap.size ≤ k from fun k hk => by
      have hw4 := B4.out.size
      have htw := TW.out
      rcases hk with e | e | e | ⟨u, hu, e⟩
      · exact .inl (.inl e)
      · rcases hfr with h | ⟨b, h, hb⟩
        · exact .inl (.inr (.inl (h ▸ e)))
        · rw [h] at e; cases e; exact .inr (Nat.le_trans (Nat.le_trans hw4 BX.out.size) hb)
      · exact .inl (.inr (.inr (.inl e)))
      · rcases pushQ_mem hu with hu | rfl
        · exact .inl (.inr (.inr (.inr ⟨u, hu, e⟩)))
        · rcases e with rfl | rfl | rfl
          · exact .inr htw.1
          · exact .inr htw.2.1
          · exact .inr htw.2.2)
    obtain ⟨m, hfm⟩ : ∃ m, Hid (freshM p = m) := ⟨_, Lib.hid rfl⟩
    obtain ⟨T, hT0⟩ : ∃ x, Hid (pushQ J0.most T0 t = x) := ⟨_, Lib.hid rfl⟩
    obtain ⟨J, hJ0⟩ : ∃ x, Hid (({ J0 with some := pushQ J0.most J0.some (freshM p) } : Jn) = x) := ⟨_, Lib.hid rfl⟩
    obtain ⟨i, hi0⟩ : ∃ x, Hid ((pushQ J0.most J0.some (freshM p)).length - 1 = x) := ⟨_, Lib.hid rfl⟩
    rw [hJ0.out, hT0.out] at J5
    rw [hT0.out] at CUT0
    have HLEN := Lib.hid (show J.some.length = i + 1 by rw [← hJ0.out, ← hi0.out]; show (pushQ J0.most J0.some (freshM p)).length = _; unfold pushQ; simp)
    have HMI := Lib.hid (show J.some[i]? = some m by rw [← hJ0.out, ← hi0.out, ← hfm.out]; show (pushQ J0.most J0.some (freshM p))[_]? = _; exact pushQ_last _ _ _)
    have HT := Lib.hid (show T[i]? = some t by
      have h1 := J5.out.len
      have : i = T.length - 1 := by have := HLEN.out; omega
      rw [this, ← hT0.out]; exact pushQ_last _ _ _)
    have hi : i < J.some.length := by have := HLEN.out; omega
    have HTF := Lib.hid (show takeF J0 s = putIn J i (J.some[i]'hi) (ptOf s) by
      have : J.some[i]'hi = freshM p := by have := HMI.out; rw [List.getElem?_eq_getElem hi] at this; rw [hfm.out]; exact Option.some.inj this
      rw [this, HTF0.out, hp.out, hJ0.out, hi0.out])
    clear hjb hwin hk5 hfr hHeld J8 BX HMA HPUT NGP MS MB
    go_upto_region 9 with fail
    refine gworld (fun W => Hid (Blk W gt 36 zTold) ∧ Hid (Blk W gp 65 #[.string ib, .string sm, .string tb, .int .i64 (A : Nat), .int .i64 (N : Nat)]) ∧ Hid (JnA B W j vS vN T J) ∧ Hid (Kp (JS j vS0 vN T0) w W)) ⟨M5, P5, J5, K5⟩ ?_
    rintro w4 ⟨M4, P4, J4, K4⟩
    obtain ⟨t', b, off, cap, hT, hv, hcell, hm⟩ := J4.out.at_ i hi
    have htt : t = t' := Option.some.inj (HT.out.symm.trans hT)
    subst htt
    have hmm : J.some[i]'hi = m := by have := HMI.out; rw [List.getElem?_eq_getElem hi] at this; exact Option.some.inj this
    rw [hmm] at hm
    have HI := Lib.hid hi
    have HM := Lib.hid hm
    have hme := Lib.hid hmm
    have s1 : w4.cell? ⟨j, 1, none⟩ = some vS := J4.out.hj.cell 1
    rw [hv, HLEN.out] at s1
    have e1 : 0 ≤ (i : Int) ∧ (i : Int) < (i : Int) + 1 := by omega
    have hwi : wrap64 (i : Int) = (i : Int) := by
      have h1 := J4.out.bd
      have h2 := HLEN.out
      unfold wrap64; omega
    obtain ⟨mb, MB⟩ : ∃ t : ByteArray, Hid (⟨m.sum.toArray⟩ = t) := ⟨_, Lib.hid rfl⟩
    obtain ⟨L, hL⟩ : ∃ n, Hid (m.pcs.length = n) := ⟨_, Lib.hid rfl⟩
    have xc : ∀ W, Blk W t.x 72 (msC t m) → Blk W t.x 72 #[.string ⟨m.id.toArray⟩, .string mb, .slice (some ⟨t.p, 0, none⟩) L L, .slice (some ⟨t.c, 0, none⟩) L L, .int .i64 m.left] := fun W hW => by rw [← MB.out, ← hL.out]; exact hW
    have X4 := Lib.hid (xc _ HM.out.x)
    have HM00 := Lib.hid (show ∀ m', J.some[i]? = some m' → (m'.sum = p.sum ∧ m'.pcs.length = p.many) ∧ m'.came[p.at_]? = some false from fun m' h => by
      have : m' = freshM p := Option.some.inj (h.symm.trans (HMI.out.trans (by rw [hfm.out])))
      subst this
      refine ⟨⟨rfl, by simp [freshM]⟩, ?_⟩
      show (List.replicate p.many false)[p.at_]? = some false
      rw [List.getElem?_replicate, if_pos (by rw [hA.out, hN.out]; exact ALN.out)])
    have LEFT := Lib.hid (show 1 ≤ m.left by rw [← hfm.out]; show 1 ≤ ((p.many : Nat) : Int); rw [hN.out]; have := HNN.out; omega)
    clear hT hm hv xc hmm
    go_upto_region 11 with fail
    clear s1 hcell
    have hm0 := HM00.out
    have x1 : w4.drew.cell? ⟨t.x, 1, none⟩ = some (.string mb) := X4.out.cell 1
    have x2 : w4.drew.cell? ⟨t.x, 2, none⟩ = some (.slice (some ⟨t.p, 0, none⟩) L L) := X4.out.cell 2
    have p1 : w4.drew.cell? ⟨gp, 1, none⟩ = some (.string sm) := P4.out.cell 1
    have p4 : w4.drew.cell? ⟨gp, 4, none⟩ = some (.int .i64 (N : Nat)) := P4.out.cell 4
    have hm1 := (hm0 m HMI.out).1
    rw [hL.out, hN.out] at hm1
    have he : (mb.toList == sm.toList) = true := by rw [← MB.out, ← SM.out, ByteArray.toList_eq, ByteArray.toList_eq]; exact beq_iff_eq.mpr hm1.1
    have hl : ((L : Int) != (N : Int)) = false := by have := hm1.2; (rw [bne_eq_false_iff_eq]; omega)
    have HM1 := Lib.hid hm1
    clear hm1
    refine start_ (n := 18) (S := fun w' => w'.cell? ⟨t.x, 1, none⟩ = some (.string mb) ∧ w'.cell? ⟨t.x, 2, none⟩ = some (.slice (some ⟨t.p, 0, none⟩) L L) ∧ w'.cell? ⟨gp, 1, none⟩ = some (.string sm) ∧ w'.cell? ⟨gp, 4, none⟩ = some (.int .i64 (N : Nat))) (ds := []) #[false, false, false, false, false, false, false, false, false, false, false, false, false, false, false, false, false, false] (by kernel_rfl) rfl rfl ⟨x1, x2, p1, p4⟩ (fun hHeld => ?_)
    refine with_tabW tk11.tab tk11.bits (fun HT_ HW_ => ?_)
    refine pure_ (i := 0) (N := some 72) (v := ?_) (a' := ?_) #[true, false, false, false, false, false, false, false, false, false, false, false, false, false, false, false, false, false] rfl rfl (any_of HT_.out (by kernel_rfl)) (fun _ _ _ h => h) (Or.inl ⟨by rfl, ?_⟩) ?_ ?_
    rotate_left
    · intro w'
      go_simp
      try with_reducible rfl
    rotate_left
    · simp only [Act.put, List.setIfInBounds_toArray, List.set_cons_zero, List.set_cons_succ]
      rfl
    refine pure_ (i := 1) (N := some 73) (v := ?_) (a' := ?_) #[true, true, false, false, false, false, false, false, false, false, false, false, false, false, false, false, false, false] rfl rfl (any_of HT_.out (by kernel_rfl)) (fun _ _ _ h => h) (Or.inl ⟨by rfl, ?_⟩) ?_ ?_
    rotate_left
    · intro w'
      go_simp
      try with_reducible rfl
    rotate_left
    · simp only [Act.put, List.setIfInBounds_toArray, List.set_cons_zero, List.set_cons_succ]
      rfl
    refine pure_ (i := 2) (N := some 74) (v := ?_) (a' := ?_) #[true, true, true, false, false, false, false, false, false, false, false, false, false, false, false, false, false, false] rfl rfl (any_of HT_.out (by kernel_rfl)) (fun _ _ _ h => h) (Or.inl ⟨by rfl, ?_⟩) ?_ ?_
    rotate_left
    · intro w'
      go_simp
      try with_reducible rfl
    rotate_left
    · simp only [Act.put, List.setIfInBounds_toArray, List.set_cons_zero, List.set_cons_succ]
      rfl
    refine pure_ (i := 4) (N := some 76) (v := ?_) (a' := ?_) #[true, true, true, false, true, false, false, false, false, false, false, false, false, false, false, false, false, false] rfl rfl (any_of HT_.out (by kernel_rfl)) (fun _ _ _ h => h) (Or.inl ⟨by rfl, ?_⟩) ?_ ?_
    rotate_left
    · intro w'
      go_simp
      try with_reducible rfl
    rotate_left
    · simp only [Act.put, List.setIfInBounds_toArray, List.set_cons_zero, List.set_cons_succ]
      rfl
    refine take_ (i := 3) (N := some 75) (v := ?_) (a' := ?_) #[true, true, true, true, true, false, false, false, false, false, false, false, false, false, false, false, false, false] rfl rfl (take_ofW HT_.out HW_.out (by kernel_rfl)) (fun _ _ _ h => h) (Or.inl ⟨by rfl, ?_⟩) hHeld ?_ ?_
    rotate_left
    · rintro w' ⟨s0, s1, s2, s3⟩
      go_simp
      try with_reducible rfl
    rotate_left
    · simp only [Act.put, List.setIfInBounds_toArray, List.set_cons_zero, List.set_cons_succ]
      rfl
    refine take_ (i := 5) (N := some 77) (v := ?_) (a' := ?_) #[true, true, true, true, true, true, false, false, false, false, false, false, false, false, false, false, false, false] rfl rfl (take_ofW HT_.out HW_.out (by kernel_rfl)) (fun _ _ _ h => h) (Or.inl ⟨by rfl, ?_⟩) hHeld ?_ ?_
    rotate_left
    · rintro w' ⟨s0, s1, s2, s3⟩
      go_simp
      try with_reducible rfl
    rotate_left
    · simp only [Act.put, List.setIfInBounds_toArray, List.set_cons_zero, List.set_cons_succ]
      rfl
    refine pure_ (i := 6) (N := some 78) (v := ?_) (a' := ?_) #[true, true, true, true, true, true, true, false, false, false, false, false, false, false, false, false, false, false] rfl rfl (any_of HT_.out (by kernel_rfl)) (fun _ _ _ h => h) (Or.inl ⟨by rfl, ?_⟩) ?_ ?_
    rotate_left
    · intro w'
      go_simp
      try with_reducible rfl
    rotate_left
    · simp only [Act.put, List.setIfInBounds_toArray, List.set_cons_zero, List.set_cons_succ]
      rfl
    refine pure_ (i := 7) (N := some 79) (v := ?_) (a' := ?_) #[true, true, true, true, true, true, true, true, false, false, false, false, false, false, false, false, false, false] rfl rfl (any_of HT_.out (by kernel_rfl)) (fun _ _ _ h => h) (Or.inl ⟨by rfl, ?_⟩) ?_ ?_
    rotate_left
    · intro w'
      go_simp
      try with_reducible rfl
    rotate_left
    · simp only [Act.put, List.setIfInBounds_toArray, List.set_cons_zero, List.set_cons_succ]
      rfl
    refine pure_ (i := 8) (N := some 80) (v := ?_) (a' := ?_) #[true, true, true, true, true, true, true, true, true, false, false, false, false, false, false, false, false, false] rfl rfl (any_of HT_.out (by kernel_rfl)) (fun _ _ _ h => h) (Or.inl ⟨by rfl, ?_⟩) ?_ ?_
    rotate_left
    · intro w'
      go_simp
      try with_reducible rfl
    rotate_left
    · simp only [Act.put, List.setIfInBounds_toArray, List.set_cons_zero, List.set_cons_succ]
      rfl
    refine pure_ (i := 9) (N := some 81) (v := ?_) (a' := ?_) #[true, true, true, true, true, true, true, true, true, true, false, false, false, false, false, false, false, false] rfl rfl (any_of HT_.out (by kernel_rfl)) (fun _ _ _ h => h) (Or.inl ⟨by rfl, ?_⟩) ?_ ?_
    rotate_left
    · intro w'
      go_simp
      try with_reducible rfl
    rotate_left
    · simp only [Act.put, List.setIfInBounds_toArray, List.set_cons_zero, List.set_cons_succ]
      rfl
    refine pure_ (i := 10) (N := some 82) (v := ?_) (a' := ?_) #[true, true, true, true, true, true, true, true, true, true, true, false, false, false, false, false, false, false] rfl rfl (any_of HT_.out (by kernel_rfl)) (fun _ _ _ h => h) (Or.inl ⟨by rfl, ?_⟩) ?_ ?_
    rotate_left
    · intro w'
      go_simp
      try with_reducible rfl
    rotate_left
    · simp only [Act.put, List.setIfInBounds_toArray, List.set_cons_zero, List.set_cons_succ]
      rfl
    refine pure_ (i := 13) (N := some 85) (v := ?_) (a' := ?_) #[true, true, true, true, true, true, true, true, true, true, true, false, false, true, false, false, false, false] rfl rfl (any_of HT_.out (by kernel_rfl)) (fun _ _ _ h => h) (Or.inl ⟨by rfl, ?_⟩) ?_ ?_
    rotate_left
    · intro w'
      go_simp
      try with_reducible rfl
    rotate_left
    · simp only [Act.put, List.setIfInBounds_toArray, List.set_cons_zero, List.set_cons_succ]
      rfl
    refine take_ (i := 11) (N := some 83) (v := ?_) (a' := ?_) #[true, true, true, true, true, true, true, true, true, true, true, true, false, true, false, false, false, false] rfl rfl (take_ofW HT_.out HW_.out (by kernel_rfl)) (fun _ _ _ h => h) (Or.inl ⟨by rfl, ?_⟩) hHeld ?_ ?_
    rotate_left
    · rintro w' ⟨s0, s1, s2, s3⟩
      go_simp
      try with_reducible rfl
    rotate_left
    · simp only [Act.put, List.setIfInBounds_toArray, List.set_cons_zero, List.set_cons_succ]
      rfl
    refine pure_ (i := 12) (N := some 84) (v := ?_) (a' := ?_) #[true, true, true, true, true, true, true, true, true, true, true, true, true, true, false, false, false, false] rfl rfl (any_of HT_.out (by kernel_rfl)) (fun _ _ _ h => h) (Or.inl ⟨by rfl, ?_⟩) ?_ ?_
    rotate_left
    · intro w'
      go_simp
      try with_reducible rfl
    rotate_left
    · simp only [Act.put, List.setIfInBounds_toArray, List.set_cons_zero, List.set_cons_succ]
      rfl
    refine take_ (i := 14) (N := some 86) (v := ?_) (a' := ?_) #[true, true, true, true, true, true, true, true, true, true, true, true, true, true, true, false, false, false] rfl rfl (take_ofW HT_.out HW_.out (by kernel_rfl)) (fun _ _ _ h => h) (Or.inl ⟨by rfl, ?_⟩) hHeld ?_ ?_
    rotate_left
    · rintro w' ⟨s0, s1, s2, s3⟩
      go_simp
      try with_reducible rfl
    rotate_left
    · simp only [Act.put, List.setIfInBounds_toArray, List.set_cons_zero, List.set_cons_succ]
      rfl
    refine pure_ (i := 15) (N := some 87) (v := ?_) (a' := ?_) #[true, true, true, true, true, true, true, true, true, true, true, true, true, true, true, true, false, false] rfl rfl (any_of HT_.out (by kernel_rfl)) (fun _ _ _ h => h) (Or.inl ⟨by rfl, ?_⟩) ?_ ?_
    rotate_left
    · intro w'
      go_simp
      try with_reducible rfl
    rotate_left
    · simp only [Act.put, List.setIfInBounds_toArray, List.set_cons_zero, List.set_cons_succ]
      rfl
    refine pure_ (i := 16) (N := some 88) (v := ?_) (a' := ?_) #[true, true, true, true, true, true, true, true, true, true, true, true, true, true, true, true, true, false] rfl rfl (any_of HT_.out (by kernel_rfl)) (fun _ _ _ h => h) (Or.inl ⟨by rfl, ?_⟩) ?_ ?_
    rotate_left
    · intro w'
      go_simp
      try with_reducible rfl
    rotate_left
    · simp only [Act.put, List.setIfInBounds_toArray, List.set_cons_zero, List.set_cons_succ]
      rfl
    refine pure_ (i := 17) (N := some 71) (v := ?_) (a' := ?_) #[true, true, true, true, true, true, true, true, true, true, true, true, true, true, true, true, true, true] rfl rfl (any_of HT_.out (by kernel_rfl)) (fun _ _ _ h => h) (Or.inl ⟨by rfl, ?_⟩) ?_ ?_
    rotate_left
    · intro w'
      go_simp
      try with_reducible rfl
    rotate_left
    · simp only [Act.put, List.setIfInBounds_toArray, List.set_cons_zero, List.set_cons_succ]
      rfl
    refine done_ (done_of HT_.out (by kernel_rfl)) ?_
    clear HT_ HW_
    try simp only [hl, Bool.not_false, Bool.not_true]
    have M5 := Lib.hid M4.out.drew
    have P5 := Lib.hid P4.out.drew
    have X5 := Lib.hid X4.out.drew
    clear x1 x2 p1 p4 he hl
    obtain ⟨c5, c5'⟩ : w4.drew.cell? ⟨t.c, A, none⟩ = some (.bool false) ∧ A < L := by
      have hc := hm0 m HMI.out
      obtain ⟨⟨_, hc2⟩, hc3⟩ := hc
      rw [hA.out] at hc3
      have := (HM.out.c.drew.cell A)
      refine ⟨this.trans ?_, ?_⟩
      · simp [bls, hc3]
      · have := (List.getElem?_eq_some_iff.1 hc3).1; have := HM.out.l; have := hL.out; omega
    have x3 : w4.drew.cell? ⟨t.x, 3, none⟩ = some (.slice (some ⟨t.c, 0, none⟩) L L) := X5.out.cell 3
    have p3 : w4.drew.cell? ⟨gp, 3, none⟩ = some (.int .i64 (A : Nat)) := P5.out.cell 3
    have e3 : 0 ≤ (A : Int) ∧ (A : Int) < (L : Int) := by omega
    go_upto_region 13 with fail
    refine start_ (n := 9) (S := fun w' => w'.cell? ⟨t.x, 3, none⟩ = some (.slice (some ⟨t.c, 0, none⟩) L L) ∧ w'.cell? ⟨gp, 3, none⟩ = some (.int .i64 (A : Nat)) ∧ w'.cell? ⟨t.c, A, none⟩ = some (.bool false)) (ds := []) #[false, false, false, false, false, false, false, false, false] (by kernel_rfl) rfl rfl ⟨x3, p3, c5⟩ (fun hHeld => ?_)
    refine with_tabW tk13.tab tk13.bits (fun HT_ HW_ => ?_)
    refine pure_ (i := 0) (N := some 91) (v := ?_) (a' := ?_) #[true, false, false, false, false, false, false, false, false] rfl rfl (any_of HT_.out (by kernel_rfl)) (fun _ _ _ h => h) (Or.inl ⟨by rfl, ?_⟩) ?_ ?_
    rotate_left
    · intro w'
      go_simp
      try with_reducible rfl
    rotate_left
    · simp only [Act.put, List.setIfInBounds_toArray, List.set_cons_zero, List.set_cons_succ]
      rfl
    refine pure_ (i := 1) (N := some 92) (v := ?_) (a' := ?_) #[true, true, false, false, false, false, false, false, false] rfl rfl (any_of HT_.out (by kernel_rfl)) (fun _ _ _ h => h) (Or.inl ⟨by rfl, ?_⟩) ?_ ?_
    rotate_left
    · intro w'
      go_simp
      try with_reducible rfl
    rotate_left
    · simp only [Act.put, List.setIfInBounds_toArray, List.set_cons_zero, List.set_cons_succ]
      rfl
    refine pure_ (i := 2) (N := some 93) (v := ?_) (a' := ?_) #[true, true, true, false, false, false, false, false, false] rfl rfl (any_of HT_.out (by kernel_rfl)) (fun _ _ _ h => h) (Or.inl ⟨by rfl, ?_⟩) ?_ ?_
    rotate_left
    · intro w'
      go_simp
      try with_reducible rfl
    rotate_left
    · simp only [Act.put, List.setIfInBounds_toArray, List.set_cons_zero, List.set_cons_succ]
      rfl
    refine pure_ (i := 4) (N := some 95) (v := ?_) (a' := ?_) #[true, true, true, false, true, false, false, false, false] rfl rfl (any_of HT_.out (by kernel_rfl)) (fun _ _ _ h => h) (Or.inl ⟨by rfl, ?_⟩) ?_ ?_
    rotate_left
    · intro w'
      go_simp
      try with_reducible rfl
    rotate_left
    · simp only [Act.put, List.setIfInBounds_toArray, List.set_cons_zero, List.set_cons_succ]
      rfl
    refine take_ (i := 3) (N := some 94) (v := ?_) (a' := ?_) #[true, true, true, true, true, false, false, false, false] rfl rfl (take_ofW HT_.out HW_.out (by kernel_rfl)) (fun _ _ _ h => h) (Or.inl ⟨by rfl, ?_⟩) hHeld ?_ ?_
    rotate_left
    · rintro w' ⟨s0, s1, s2⟩
      go_simp
      try with_reducible rfl
    rotate_left
    · simp only [Act.put, List.setIfInBounds_toArray, List.set_cons_zero, List.set_cons_succ]
      rfl
    refine take_ (i := 5) (N := some 96) (v := ?_) (a' := ?_) #[true, true, true, true, true, true, false, false, false] rfl rfl (take_ofW HT_.out HW_.out (by kernel_rfl)) (fun _ _ _ h => h) (Or.inl ⟨by rfl, ?_⟩) hHeld ?_ ?_
    rotate_left
    · rintro w' ⟨s0, s1, s2⟩
      go_simp
      try with_reducible rfl
    rotate_left
    · simp only [Act.put, List.setIfInBounds_toArray, List.set_cons_zero, List.set_cons_succ]
      rfl
    refine pure_ (i := 6) (N := some 97) (v := ?_) (a' := ?_) #[true, true, true, true, true, true, true, false, false] rfl rfl (any_of HT_.out (by kernel_rfl)) (fun _ _ _ h => h) (Or.inl ⟨by rfl, ?_⟩) ?_ ?_
    rotate_left
    · intro w'
      go_simp
      try with_reducible rfl
    rotate_left
    · simp only [Act.put, List.setIfInBounds_toArray, List.set_cons_zero, List.set_cons_succ]
      rfl
    refine take_ (i := 7) (N := some 98) (v := ?_) (a' := ?_) #[true, true, true, true, true, true, true, true, false] rfl rfl (take_ofW HT_.out HW_.out (by kernel_rfl)) (fun _ _ _ h => h) (Or.inl ⟨by rfl, ?_⟩) hHeld ?_ ?_
    rotate_left
    · rintro w' ⟨s0, s1, s2⟩
      go_simp
      try with_reducible rfl
    rotate_left
    · simp only [Act.put, List.setIfInBounds_toArray, List.set_cons_zero, List.set_cons_succ]
      rfl
    refine pure_ (i := 8) (N := some 90) (v := ?_) (a' := ?_) #[true, true, true, true, true, true, true, true, true] rfl rfl (any_of HT_.out (by kernel_rfl)) (fun _ _ _ h => h) (Or.inl ⟨by rfl, ?_⟩) ?_ ?_
    rotate_left
    · intro w'
      go_simp
      try with_reducible rfl
    rotate_left
    · simp only [Act.put, List.setIfInBounds_toArray, List.set_cons_zero, List.set_cons_succ]
      rfl
    refine done_ (done_of HT_.out (by kernel_rfl)) ?_
    clear HT_ HW_
    have M6 := Lib.hid M5.out.drew
    have P6 := Lib.hid P5.out.drew
    have X6 := Lib.hid X5.out.drew
    have hmm := hm0 m HMI.out
    have CAME := Lib.hid (show (bls m.came).toArray[A]? = some (Value.bool false) by have := hmm.2; rw [hA.out] at this; simp [bls, this])
    have ALT := Lib.hid c5'
    have XC : Hid (∀ W, Blk W t.x 72 (msC t m) → Blk W t.x 72 #[.string ⟨m.id.toArray⟩, .string mb, .slice (some ⟨t.p, 0, none⟩) L L, .slice (some ⟨t.c, 0, none⟩) L L, .int .i64 m.left]) := Lib.hid (fun W hW => by rw [← MB.out, ← hL.out]; exact hW)
    have J6 := Lib.hid (J4.out.below (below_drewN (Below.refl _ _) 2))
    have K6 := Lib.hid (show Kp (JS j vS0 vN T0) w w4.drew.drew from K4.out.trans (Kp.of_below (below_drewN (Below.refl _ _) 2)))
    have TXT := Lib.hid (show p.text.length ≤ 200 by rw [← hp.out]; exact okP_text s HO.out)
    have KTR : Hid (∀ W W', Kp (JS j vS0 vN T0) w W → Kp (fun i => i = t.x ∨ i = t.p ∨ i = t.c) W W' → Kp (JS j vS0 vN T0) w W') := Lib.hid (fun W W' k1 k2 => k1.trans2 k2 (fun i hi e => by
      have := TW.out
      exfalso
      rcases e with rfl | rfl | rfl <;> omega))
    skip
    clear hmm c5 c5' x3 p3 e3 X4 X5 X6 hm0
    go_upto_region 15 with fail
    refine gworld (fun W => Hid (Blk W gt 36 zTold) ∧ Hid (Blk W gp 65 #[.string ib, .string sm, .string tb, .int .i64 (A : Nat), .int .i64 (N : Nat)]) ∧ Hid (JnA B W j vS vN T J) ∧ Hid (Kp (JS j vS0 vN T0) w W)) ⟨M6, P6, J6, K6⟩ ?_
    rintro w7 ⟨M7, P7, J7, K7⟩
    have HM7 := Lib.hid (J7.out.ms i t m HT.out HMI.out)
    have X7 := Lib.hid (XC.out _ HM7.out.x)
    have x2 : w7.drew.cell? ⟨t.x, 2, none⟩ = some (.slice (some ⟨t.p, 0, none⟩) L L) := X7.out.cell 2
    have x3 : w7.drew.cell? ⟨t.x, 3, none⟩ = some (.slice (some ⟨t.c, 0, none⟩) L L) := X7.out.cell 3
    have p2 : w7.drew.cell? ⟨gp, 2, none⟩ = some (.string tb) := P7.out.cell 2
    have p3 : w7.drew.cell? ⟨gp, 3, none⟩ = some (.int .i64 (A : Nat)) := P7.out.cell 3
    have c5 : w7.cell? ⟨t.c, A, none⟩ = some (.bool false) := (HM7.out.c.cell A).trans CAME.out
    obtain ⟨ob, ho5⟩ : ∃ ob, w7.cell? ⟨t.p, A, none⟩ = some (.string ob) := by
      have hlt : A < m.pcs.length := by rw [hL.out]; exact ALT.out
      exact ⟨_, (HM7.out.p.cell A).trans (by simp [cstr, List.getElem?_eq_getElem hlt]; rfl)⟩
    have f5 : w7.frozen? ⟨t.p, A, none⟩ = false := HM7.out.p.frozen A
    have f6 : w7.frozen? ⟨t.c, A, none⟩ = false := HM7.out.c.frozen A
    have hpc : t.p ≠ t.c := fun e => absurd ((e ▸ HM7.out.p : Blk w7 t.c _ _).ty HM7.out.c).1 (by decide)
    have e3 : 0 ≤ (A : Int) ∧ (A : Int) < (L : Int) := by have := ALT.out; omega
    have e4 : A < L := ALT.out
    have S15 : (w7.setCell ⟨t.p, A, none⟩ (.string tb)).drew.cell? ⟨t.x, 2, none⟩ = some (.slice (some ⟨t.p, 0, none⟩) L L) ∧ (w7.setCell ⟨t.p, A, none⟩ (.string tb)).drew.cell? ⟨t.x, 3, none⟩ = some (.slice (some ⟨t.c, 0, none⟩) L L) ∧ (w7.setCell ⟨t.p, A, none⟩ (.string tb)).drew.cell? ⟨gp, 2, none⟩ = some (.string tb) ∧ (w7.setCell ⟨t.p, A, none⟩ (.string tb)).drew.cell? ⟨gp, 3, none⟩ = some (.int .i64 (A : Nat)) := by
      have q1 := X7.out.far (p := ⟨t.p, A, none⟩) (fun e => absurd ((e ▸ HM7.out.x : Blk w7 t.p _ _).ty HM7.out.p).1 (by decide)) (.string tb)
      have q2 := P7.out.far (p := ⟨t.p, A, none⟩) (fun e => absurd ((e ▸ P7.out : Blk w7 t.p _ _).ty HM7.out.p).1 (by decide)) (.string tb)
      exact ⟨q1.cell 2, q1.cell 3, q2.cell 2, q2.cell 3⟩
    refine start_ (n := 18) (S := fun w' => w'.cell? ⟨t.x, 2, none⟩ = some (.slice (some ⟨t.p, 0, none⟩) L L) ∧ w'.cell? ⟨t.x, 3, none⟩ = some (.slice (some ⟨t.c, 0, none⟩) L L) ∧ w'.cell? ⟨gp, 2, none⟩ = some (.string tb) ∧ w'.cell? ⟨gp, 3, none⟩ = some (.int .i64 (A : Nat))) (ds := [17]) #[false, false, false, false, false, false, false, false, false, false, false, false, false, false, false, false, false, false] (by kernel_rfl) rfl rfl ⟨x2, x3, p2, p3⟩ (fun hHeld => ?_)
    refine with_tabW tk15.tab tk15.bits (fun HT_ HW_ => ?_)
    refine pure_ (i := 0) (N := some 100) (v := ?_) (a' := ?_) #[true, false, false, false, false, false, false, false, false, false, false, false, false, false, false, false, false, false] rfl rfl (any_of HT_.out (by kernel_rfl)) (fun _ _ _ h => h) (Or.inl ⟨by rfl, ?_⟩) ?_ ?_
    rotate_left
    · intro w'
      go_simp
      try with_reducible rfl
    rotate_left
    · simp only [Act.put, List.setIfInBounds_toArray, List.set_cons_zero, List.set_cons_succ]
      rfl
    refine pure_ (i := 1) (N := some 101) (v := ?_) (a' := ?_) #[true, true, false, false, false, false, false, false, false, false, false, false, false, false, false, false, false, false] rfl rfl (any_of HT_.out (by kernel_rfl)) (fun _ _ _ h => h) (Or.inl ⟨by rfl, ?_⟩) ?_ ?_
    rotate_left
    · intro w'
      go_simp
      try with_reducible rfl
    rotate_left
    · simp only [Act.put, List.setIfInBounds_toArray, List.set_cons_zero, List.set_cons_succ]
      rfl
    refine pure_ (i := 2) (N := some 102) (v := ?_) (a' := ?_) #[true, true, true, false, false, false, false, false, false, false, false, false, false, false, false, false, false, false] rfl rfl (any_of HT_.out (by kernel_rfl)) (fun _ _ _ h => h) (Or.inl ⟨by rfl, ?_⟩) ?_ ?_
    rotate_left
    · intro w'
      go_simp
      try with_reducible rfl
    rotate_left
    · simp only [Act.put, List.setIfInBounds_toArray, List.set_cons_zero, List.set_cons_succ]
      rfl
    refine pure_ (i := 4) (N := some 104) (v := ?_) (a' := ?_) #[true, true, true, false, true, false, false, false, false, false, false, false, false, false, false, false, false, false] rfl rfl (any_of HT_.out (by kernel_rfl)) (fun _ _ _ h => h) (Or.inl ⟨by rfl, ?_⟩) ?_ ?_
    rotate_left
    · intro w'
      go_simp
      try with_reducible rfl
    rotate_left
    · simp only [Act.put, List.setIfInBounds_toArray, List.set_cons_zero, List.set_cons_succ]
      rfl
    refine pure_ (i := 6) (N := some 106) (v := ?_) (a' := ?_) #[true, true, true, false, true, false, true, false, false, false, false, false, false, false, false, false, false, false] rfl rfl (any_of HT_.out (by kernel_rfl)) (fun _ _ _ h => h) (Or.inl ⟨by rfl, ?_⟩) ?_ ?_
    rotate_left
    · intro w'
      go_simp
      try with_reducible rfl
    rotate_left
    · simp only [Act.put, List.setIfInBounds_toArray, List.set_cons_zero, List.set_cons_succ]
      rfl
    refine pure_ (i := 7) (N := some 107) (v := ?_) (a' := ?_) #[true, true, true, false, true, false, true, true, false, false, false, false, false, false, false, false, false, false] rfl rfl (any_of HT_.out (by kernel_rfl)) (fun _ _ _ h => h) (Or.inl ⟨by rfl, ?_⟩) ?_ ?_
    rotate_left
    · intro w'
      go_simp
      try with_reducible rfl
    rotate_left
    · simp only [Act.put, List.setIfInBounds_toArray, List.set_cons_zero, List.set_cons_succ]
      rfl
    refine pure_ (i := 8) (N := some 108) (v := ?_) (a' := ?_) #[true, true, true, false, true, false, true, true, true, false, false, false, false, false, false, false, false, false] rfl rfl (any_of HT_.out (by kernel_rfl)) (fun _ _ _ h => h) (Or.inl ⟨by rfl, ?_⟩) ?_ ?_
    rotate_left
    · intro w'
      go_simp
      try with_reducible rfl
    rotate_left
    · simp only [Act.put, List.setIfInBounds_toArray, List.set_cons_zero, List.set_cons_succ]
      rfl
    refine pure_ (i := 10) (N := some 110) (v := ?_) (a' := ?_) #[true, true, true, false, true, false, true, true, true, false, true, false, false, false, false, false, false, false] rfl rfl (any_of HT_.out (by kernel_rfl)) (fun _ _ _ h => h) (Or.inl ⟨by rfl, ?_⟩) ?_ ?_
    rotate_left
    · intro w'
      go_simp
      try with_reducible rfl
    rotate_left
    · simp only [Act.put, List.setIfInBounds_toArray, List.set_cons_zero, List.set_cons_succ]
      rfl
    refine pure_ (i := 12) (N := some 112) (v := ?_) (a' := ?_) #[true, true, true, false, true, false, true, true, true, false, true, false, true, false, false, false, false, false] rfl rfl (any_of HT_.out (by kernel_rfl)) (fun _ _ _ h => h) (Or.inl ⟨by rfl, ?_⟩) ?_ ?_
    rotate_left
    · intro w'
      go_simp
      try with_reducible rfl
    rotate_left
    · simp only [Act.put, List.setIfInBounds_toArray, List.set_cons_zero, List.set_cons_succ]
      rfl
    refine take_ (i := 3) (N := some 103) (v := ?_) (a' := ?_) #[true, true, true, true, true, false, true, true, true, false, true, false, true, false, false, false, false, false] rfl rfl (take_ofW HT_.out HW_.out (by kernel_rfl)) (fun _ _ _ h => h) (Or.inl ⟨by rfl, ?_⟩) hHeld ?_ ?_
    rotate_left
    · rintro w' ⟨s0, s1, s2, s3⟩
      go_simp
      try with_reducible rfl
    rotate_left
    · simp only [Act.put, List.setIfInBounds_toArray, List.set_cons_zero, List.set_cons_succ]
      rfl
    refine take_ (i := 5) (N := some 105) (v := ?_) (a' := ?_) #[true, true, true, true, true, true, true, true, true, false, true, false, true, false, false, false, false, false] rfl rfl (take_ofW HT_.out HW_.out (by kernel_rfl)) (fun _ _ _ h => h) (Or.inl ⟨by rfl, ?_⟩) hHeld ?_ ?_
    rotate_left
    · rintro w' ⟨s0, s1, s2, s3⟩
      go_simp
      try with_reducible rfl
    rotate_left
    · simp only [Act.put, List.setIfInBounds_toArray, List.set_cons_zero, List.set_cons_succ]
      rfl
    refine take_ (i := 9) (N := some 109) (v := ?_) (a' := ?_) #[true, true, true, true, true, true, true, true, true, true, true, false, true, false, false, false, false, false] rfl rfl (take_ofW HT_.out HW_.out (by kernel_rfl)) (fun _ _ _ h => h) (Or.inl ⟨by rfl, ?_⟩) hHeld ?_ ?_
    rotate_left
    · rintro w' ⟨s0, s1, s2, s3⟩
      go_simp
      try with_reducible rfl
    rotate_left
    · simp only [Act.put, List.setIfInBounds_toArray, List.set_cons_zero, List.set_cons_succ]
      rfl
    refine take_ (i := 11) (N := some 111) (v := ?_) (a' := ?_) #[true, true, true, true, true, true, true, true, true, true, true, true, true, false, false, false, false, false] rfl rfl (take_ofW HT_.out HW_.out (by kernel_rfl)) (fun _ _ _ h => h) (Or.inl ⟨by rfl, ?_⟩) hHeld ?_ ?_
    rotate_left
    · rintro w' ⟨s0, s1, s2, s3⟩
      go_simp
      try with_reducible rfl
    rotate_left
    · simp only [Act.put, List.setIfInBounds_toArray, List.set_cons_zero, List.set_cons_succ]
      rfl
    refine take_ (i := 13) (N := some 113) (v := ?_) (a' := ?_) #[true, true, true, true, true, true, true, true, true, true, true, true, true, true, false, false, false, false] rfl rfl (take_ofW HT_.out HW_.out (by kernel_rfl)) (fun _ _ _ h => h) (Or.inl ⟨by rfl, ?_⟩) hHeld ?_ ?_
    rotate_left
    · rintro w' ⟨s0, s1, s2, s3⟩
      go_simp
      try with_reducible rfl
    rotate_left
    · simp only [Act.put, List.setIfInBounds_toArray, List.set_cons_zero, List.set_cons_succ]
      rfl
    refine pure_ (i := 14) (N := some 114) (v := ?_) (a' := ?_) #[true, true, true, true, true, true, true, true, true, true, true, true, true, true, true, false, false, false] rfl rfl (any_of HT_.out (by kernel_rfl)) (fun _ _ _ h => h) (Or.inl ⟨by rfl, ?_⟩) ?_ ?_
    rotate_left
    · intro w'
      go_simp
      try with_reducible rfl
    rotate_left
    · simp only [Act.put, List.setIfInBounds_toArray, List.set_cons_zero, List.set_cons_succ]
      rfl
    refine one_ (i := 15) (N := none) #[true, true, true, true, true, true, true, true, true, true, true, true, true, true, true, true, false, false] rfl rfl (one_of HT_.out (by kernel_rfl)) (by decide) (fun K hK => ?_)
    refine skip_ (w1 := ?_) (by rfl) rfl ?_ ?_
    rotate_left
    · go_simp
      try rfl
    refine hK.out _ _ (S15) (fun hHeld => ?_)
    clear hK K
    refine pure_ (i := 16) (N := some 115) (v := ?_) (a' := ?_) #[true, true, true, true, true, true, true, true, true, true, true, true, true, true, true, true, true, false] rfl rfl (any_of HT_.out (by kernel_rfl)) (fun _ _ _ h => h) (Or.inl ⟨by rfl, ?_⟩) ?_ ?_
    rotate_left
    · intro w'
      go_simp
      try with_reducible rfl
    rotate_left
    · simp only [Act.put, List.setIfInBounds_toArray, List.set_cons_zero, List.set_cons_succ]
      rfl
    refine last_ (i := 17) (N := none) #[true, true, true, true, true, true, true, true, true, true, true, true, true, true, true, true, true, true] rfl rfl (one_of HT_.out (by kernel_rfl)) (by decide) (fun K hK => ?_)
    refine skip_ (w1 := ?_) (by rfl) rfl ?_ ?_
    rotate_left
    · go_simp
      try rfl
    refine hK.out _ _ ?_
    clear hK K
    refine done_ (done_of HT_.out (by kernel_rfl)) ?_
    clear HT_ HW_
    go_upto_region 16 with fail
    refine gworld (fun W => Hid (W = ((w7.setCell ⟨t.p, A, none⟩ (.string tb)).setCell ⟨t.c, A, none⟩ (.bool true)).drew)) (Lib.hid rfl) ?_
    rintro w8 HW8
    obtain ⟨l, hl⟩ : ∃ l, Hid (m.left = l) := ⟨_, Lib.hid rfl⟩
    have x4 : w8.cell? ⟨t.x, 4, none⟩ = some (.int .i64 l) := by
      rw [HW8.out, ← hl.out]
      exact (((X7.out.far (p := ⟨t.p, A, none⟩) (fun e => absurd ((e ▸ HM7.out.x : Blk w7 t.p _ _).ty HM7.out.p).1 (by decide)) (.string tb)).far (p := ⟨t.c, A, none⟩) (fun e => absurd ((e ▸ HM7.out.x : Blk w7 t.c _ _).ty HM7.out.c).1 (by decide)) (.bool true)).drew).cell 4
    have f4 : w8.frozen? ⟨t.x, 4, none⟩ = false := by
      rw [HW8.out]
      exact (((X7.out.far (p := ⟨t.p, A, none⟩) (fun e => absurd ((e ▸ HM7.out.x : Blk w7 t.p _ _).ty HM7.out.p).1 (by decide)) (.string tb)).far (p := ⟨t.c, A, none⟩) (fun e => absurd ((e ▸ HM7.out.x : Blk w7 t.c _ _).ty HM7.out.c).1 (by decide)) (.bool true)).drew).frozen 4
    have hl1 : 1 ≤ l ∧ l ≤ 11 := ⟨by rw [← hl.out]; exact LEFT.out, by rw [← hl.out]; exact HM7.out.lf.2⟩
    have hw : wrap64 (l - 1) = l - 1 := by unfold wrap64; omega
    have J9 : Hid (JnA B (w8.setCell ⟨t.x, 4, none⟩ (.int .i64 (l - 1))) j vS vN T { J with some := (J).some.set i (m.put p.at_ p.text) }) := by
      have h9 := (J7.out.piece HT.out HMI.out A p.text TXT.out LEFT.out).below (below_drewN (Below.refl _ _) 1)
      unfold putW at h9
      rw [TB.out, hl.out] at h9
      rw [← hA.out] at h9
      rw [HW8.out, ← hA.out]
      exact Lib.hid h9
    have K9 : Hid (Kp (JS j vS0 vN T0) w (w8.setCell ⟨t.x, 4, none⟩ (.int .i64 (l - 1)))) := by
      rw [HW8.out]
      have k9 := (putW_kp w7 t A p.text (l - 1)).trans (Kp.of_below (below_drewN (Below.refl _ _) 1))
      unfold putW at k9
      rw [TB.out] at k9
      exact Lib.hid (KTR.out _ _ K7.out k9)
    have G9 : Hid (∀ g cs u, Blk w7 g u cs → u ∉ [9, 72, 4] → Blk (w8.setCell ⟨t.x, 4, none⟩ (.int .i64 (l - 1))) g u cs) := Lib.hid (fun g cs u hg hu => by
      rw [HW8.out]
      have k9 := (putW_kp w7 t A p.text (l - 1)).trans (Kp.of_below (below_drewN (Below.refl _ _) 1))
      unfold putW at k9
      rw [TB.out] at k9
      refine hg.kp k9 ?_
      rintro (e | e | e)
      · subst e; exact hu (by rw [(hg.ty HM7.out.x).1]; decide)
      · subst e; exact hu (by rw [(hg.ty HM7.out.p).1]; decide)
      · subst e; exact hu (by rw [(hg.ty HM7.out.c).1]; decide))
    have M9 := Lib.hid (G9.out _ _ _ M7.out (by decide))
    have P9 := Lib.hid (G9.out _ _ _ P7.out (by decide))
    clear HW8 G9 x2 x3 p2 p3 c5 ho5 f5 f6 hpc e3 e4 X7 M7 P7 J7 K7 HM7 hHeld
    by_cases hlast : 1 < l
    · have d1 : decide (0 < l - 1) = true := decide_eq_true (by omega)
      have e5 : 0 < l - 1 := by omega
      have HLAST := Lib.hid hlast
      clear hlast hl1
      go_upto_region 18 with fail
      clear x4 f4 hw d1 e5
      refine gworld (fun W => Hid (W = w8.setCell ⟨t.x, 4, none⟩ (.int .i64 (l - 1)))) (Lib.hid rfl) ?_
      rintro w9 HW9
      rw [← HW9.out] at J9 K9 M9 P9
      go_wp2_with (first
        | ((with_reducible refine gate_store (t := 36) (p := 4) (v := .tmp 128) rfl ?_); refine wpList_store_row rfl 36 (.tmp 4) (.tmp 128) rfl gt zTold rfl rfl 36 zTold M9.out size_told rfl one_ztold ?_))
      have MF := Lib.hid (M9.out.setRow zTold)
      refine bodyPost_ret (results_ctt rfl _ _ gt 36 _ (0, 0) _ rfl MF.out Tryd.underlying36 rfl rfl) rfl ?_
      rw [HTF.out]
      rw [show putIn J i (J.some[i]'hi) (ptOf s) = ({ J with some := J.some.set i (m.put p.at_ p.text) }, noTk 0) by
        rw [hme.out, hp.out]; unfold putIn; rw [if_pos (by rw [hl.out]; have := HLAST.out; omega)]]
      exact ⟨rfl, vS, vN, T, J9.out.kp (Kp.rowAt (S := fun i => i = gt) rfl zTold) (fun i hi e => J9.out.notIn M9.out (by decide) (e ▸ hi)), K9.out.row SG.out.1 zTold, CUT0.out⟩
    · obtain rfl : l = 1 := by omega
      clear hlast hl1 hw
      go_upto_region 19 with fail
      clear x4 f4
      refine gworld (fun W => Hid (W = w8.setCell ⟨t.x, 4, none⟩ (.int .i64 (1 - 1)))) (Lib.hid rfl) ?_
      rintro w9 HW9
      rw [← HW9.out] at J9 K9 M9 P9
      obtain ⟨m2, hm2⟩ : ∃ m2, Hid (m.put p.at_ p.text = m2) := ⟨_, Lib.hid rfl⟩
      rw [hm2.out] at J9
      obtain ⟨J1, hJ1⟩ : ∃ J1, Hid (({ J with some := J.some.set i m2 } : Jn) = J1) := ⟨_, Lib.hid rfl⟩
      rw [hJ1.out] at J9
      have HI1 := Lib.hid (show i < J1.some.length by rw [← hJ1.out]; show i < (J.some.set i m2).length; rw [List.length_set]; exact HI.out)
      have HMI1 := Lib.hid (show J1.some[i]? = some m2 by rw [← hJ1.out]; show (J.some.set i m2)[i]? = _; rw [List.getElem?_set_self HI.out])
      have HSZ9 := Lib.hid (K9.out.size)
      have HCUT := Lib.hid (cutM_any B j (J1.noted : Nat) vN vS J1.most (T.map (·.x)) i w9 J9.out.hj (Nat.le_trans HB.out HSZ9.out) (by rw [← ptrX_eq]; exact J9.out.s) (by rw [List.length_map, J9.out.len]; exact HI1.out) (by rw [List.length_map, J9.out.len]; have := J9.out.bd; omega))
      go_wp2_with fail
      refine HCUT.out.mono ?_
      rintro e w10 ⟨rfl, v', hjb, hwin, hk10, hfr⟩
      have J10 := Lib.hid (J9.out.cut i HI1.out hjb hwin hk10)
      have HM9 := J9.out.ms i t m2 HT.out HMI1.out
      have HM10 := Lib.hid (HM9.kp hk10 (fun e => absurd ((e ▸ HM9.x : Blk w9 j _ _).ty J9.out.hj).1 (by decide)) (fun e => absurd ((e ▸ HM9.p : Blk w9 j _ _).ty J9.out.hj).1 (by decide)) (fun e => absurd ((e ▸ HM9.c : Blk w9 j _ _).ty J9.out.hj).1 (by decide)))
      have M10 := Lib.hid (M9.out.kp hk10 (fun e => absurd ((e ▸ M9.out : Blk w9 j _ _).ty J9.out.hj).1 (by decide)))
      have P10 := Lib.hid (P9.out.kp hk10 (fun e => absurd ((e ▸ P9.out : Blk w9 j _ _).ty J9.out.hj).1 (by decide)))
      have K10 := Lib.hid (K9.out.trans (hk10.mono (S' := JS j vS0 vN T0) (fun i hi e => .inl e)))
      have FR := Lib.hid (show ∀ b, v'.ownBlock = some b → w.heap.size ≤ b from fun b hb => Nat.le_trans HSZ9.out (hfr b hb))
      have HL2 := Lib.hid (show m2.pcs.length = L by rw [← hm2.out, ← hL.out]; exact List.length_set)
      have HJO := Lib.hid (joined HM10.out)
      have x2 : w10.cell? ⟨t.x, 2, none⟩ = some (.slice (some ⟨t.p, 0, none⟩) m2.pcs.length m2.pcs.length) := HM10.out.x.cell 2
      rw [HL2.out] at HJO x2
      obtain ⟨bb, BB⟩ : ∃ x : ByteArray, Hid (⟨m2.pcs.flatten.toArray⟩ = x) := ⟨_, Lib.hid rfl⟩
      rw [BB.out] at HJO
      have HFL := Lib.hid (flatten_le m2.pcs HM10.out.sz)
      have HN2 := Lib.hid HM10.out.n
      have CUTS := Lib.hid (show ∀ k, JS j v' vN (T.eraseIdx i) k → JS j vS0 vN T0 k ∨ w.heap.size ≤ k from fun k hk => by
        rcases hk with e | e | e | ⟨u, hu, e⟩
        · exact .inl (.inl e)
        · exact .inr (FR.out k e)
        · exact .inl (.inr (.inr (.inl e)))
        · exact CUT0.out k (.inr (.inr (.inr ⟨u, (List.eraseIdx_sublist T i).subset hu, e⟩))))
      clear hjb hwin hk10 hfr HM9 M9 P9 K9 J9 HCUT HW9
      go_upto_region 20 with fail
      go_wp2_with fail
      refine HJO.out.mono ?_
      rintro e w11 ⟨rfl, b11⟩
      have J11 := Lib.hid ((J10.out.below b11).below (below_drewN (Below.refl _ _) 1))
      have M11 := Lib.hid (M10.out.below b11 M10.out.lt).drew
      have P11 := Lib.hid (P10.out.below b11 P10.out.lt).drew
      have K11 := Lib.hid (show Kp (JS j vS0 vN T0) w w11.drew from K10.out.trans ((Kp.of_below b11).trans (Kp.of_below (below_drewN (Below.refl _ _) 1))))
      obtain ⟨dg, DG⟩ : ∃ x, Hid (digL p.id m2.pcs.flatten = x) := ⟨_, Lib.hid rfl⟩
      obtain ⟨rb, RB⟩ : ∃ x : ByteArray, Hid (⟨dg.toArray⟩ = x) := ⟨_, Lib.hid rfl⟩
      have HBB := Lib.hid (show Below B w w11.drew from K11.out.below (fun i hi => (HJ.out.lt hi).1) HB.out)
      have HDG := Lib.hid (digest_any p.id m2.pcs.flatten w11.drew (by rw [← hp.out]; exact ptOf_id s) (by have := HFL.out; have := HN2.out; omega) (HK.out.belowB HKS.out HBB.out) (Nat.lt_of_lt_of_le HKS.out (Nat.le_trans HB.out K11.out.size)))
      rw [DG.out, IB.out, BB.out, RB.out] at HDG
      have p0 : w11.drew.cell? ⟨gp, 0, none⟩ = some (.string ib) := P11.out.cell 0
      have p1 : w11.drew.cell? ⟨gp, 1, none⟩ = some (.string sm) := P11.out.cell 1
      have HE := Lib.hid (show (rb.toList == sm.toList) = decide (dg = p.sum) by rw [← RB.out, ← SM.out, ByteArray.toList_eq, ByteArray.toList_eq]; exact beq_dec dg p.sum)
      clear b11 J10 M10 P10 K10 x2 HJO HBB
      go_upto_region 21 with fail
      refine start_ (n := 7) (S := fun w' => w'.cell? ⟨gp, 0, none⟩ = some (.string ib) ∧ w'.cell? ⟨gp, 1, none⟩ = some (.string sm)) (ds := []) #[false, false, false, false, false, false, false] (by kernel_rfl) rfl rfl ⟨p0, p1⟩ (fun hHeld => ?_)
      refine with_tabW tk21.tab tk21.bits (fun HT_ HW_ => ?_)
      refine pure_ (i := 0) (N := some 139) (v := ?_) (a' := ?_) #[true, false, false, false, false, false, false] rfl rfl (any_of HT_.out (by kernel_rfl)) (fun _ _ _ h => h) (Or.inl ⟨by rfl, ?_⟩) ?_ ?_
      rotate_left
      · intro w'
        go_simp
        try with_reducible rfl
      rotate_left
      · simp only [Act.put, List.setIfInBounds_toArray, List.set_cons_zero, List.set_cons_succ]
        rfl
      refine pure_ (i := 2) (N := some 141) (v := ?_) (a' := ?_) #[true, false, true, false, false, false, false] rfl rfl (any_of HT_.out (by kernel_rfl)) (fun _ _ _ h => h) (Or.inl ⟨by rfl, ?_⟩) ?_ ?_
      rotate_left
      · intro w'
        go_simp
        try with_reducible rfl
      rotate_left
      · simp only [Act.put, List.setIfInBounds_toArray, List.set_cons_zero, List.set_cons_succ]
        rfl
      refine pure_ (i := 4) (N := some 143) (v := ?_) (a' := ?_) #[true, false, true, false, true, false, false] rfl rfl (any_of HT_.out (by kernel_rfl)) (fun _ _ _ h => h) (Or.inl ⟨by rfl, ?_⟩) ?_ ?_
      rotate_left
      · intro w'
        go_simp
        try with_reducible rfl
      rotate_left
      · simp only [Act.put, List.setIfInBounds_toArray, List.set_cons_zero, List.set_cons_succ]
        rfl
      refine take_ (i := 1) (N := some 140) (v := ?_) (a' := ?_) #[true, true, true, false, true, false, false] rfl rfl (take_ofW HT_.out HW_.out (by kernel_rfl)) (fun _ _ _ h => h) (Or.inl ⟨by rfl, ?_⟩) hHeld ?_ ?_
      rotate_left
      · rintro w' ⟨s0, s1⟩
        go_simp
        try with_reducible rfl
      rotate_left
      · simp only [Act.put, List.setIfInBounds_toArray, List.set_cons_zero, List.set_cons_succ]
        rfl
      refine take_ (i := 5) (N := some 144) (v := ?_) (a' := ?_) #[true, true, true, false, true, true, false] rfl rfl (take_ofW HT_.out HW_.out (by kernel_rfl)) (fun _ _ _ h => h) (Or.inl ⟨by rfl, ?_⟩) hHeld ?_ ?_
      rotate_left
      · rintro w' ⟨s0, s1⟩
        go_simp
        try with_reducible rfl
      rotate_left
      · simp only [Act.put, List.setIfInBounds_toArray, List.set_cons_zero, List.set_cons_succ]
        rfl
      refine one_ (i := 3) (N := some 142) #[true, true, true, true, true, true, false] rfl rfl (one_of HT_.out (by kernel_rfl)) (by decide) (fun K hK => ?_)
      refine goes_ Tryd.func19 (by kernel_rfl) rfl #[.string ib, .string bb] (by rfl) rfl rfl (by first | done | rfl | (simp only [List.map_toArray, List.map_cons, List.map_nil]; done) | (simp only [List.map_toArray, List.map_cons, List.map_nil]; rfl)) ?_
      refine (HDG.out).mono ?_
      rintro e' w12 ⟨rfl, b12⟩
      refine ⟨_, rfl, ?_⟩
      refine hK.out _ _ (⟨(P11.out.below b12 P11.out.lt).cell 0, (P11.out.below b12 P11.out.lt).cell 1⟩) (fun hHeld => ?_)
      clear hK K
      refine norm_ (a' := ?_) ?_ ?_
      rotate_left
      · show Act.put _ (some 142) _ = _
        simp only [Act.put, List.setIfInBounds_toArray, List.set_cons_zero, List.set_cons_succ]
        rfl
      refine pure_ (i := 6) (N := some 145) (v := ?_) (a' := ?_) #[true, true, true, true, true, true, true] rfl rfl (any_of HT_.out (by kernel_rfl)) (fun _ _ _ h => h) (Or.inl ⟨by rfl, ?_⟩) ?_ ?_
      rotate_left
      · intro w'
        go_simp
        try with_reducible rfl
      rotate_left
      · simp only [Act.put, List.setIfInBounds_toArray, List.set_cons_zero, List.set_cons_succ]
        rfl
      refine done_ (done_of HT_.out (by kernel_rfl)) ?_
      clear HT_ HW_
      have J12 := Lib.hid (J11.out.below b12)
      have M12 := Lib.hid (M11.out.below b12 M11.out.lt)
      have P12 := Lib.hid (P11.out.below b12 P11.out.lt)
      have K12 := Lib.hid (K11.out.trans (Kp.of_below b12))
      clear b12 J11 M11 P11 K11 p0 p1 HDG hHeld
      have he := HE.out
      by_cases hd : dg = p.sum
      · have HD := Lib.hid hd
        rw [decide_eq_true hd] at he
        clear hd
        try simp only [he, Bool.not_false, Bool.not_true]
        go_upto_region 23 with fail
        have J12d := Lib.hid (J12.out.below (below_drewN (Below.refl _ _) 1))
        have HPUT := Lib.hid (putT_any B j (J1.most : Nat) v' vN J1.noted J1.done p.id w12.drew J12d.out.hj (Nat.le_trans HB.out K12.out.size) J12d.out.n J12d.out.bd.2.1 J12d.out.bd.2.2.2)
        rw [IB.out] at HPUT
        have NGP := Lib.hid (show ¬ (gp = j ∨ vN.ownBlock = some gp) from fun e => J12.out.notIn P12.out (by decide) (e.elim .inl (fun e => .inr (.inr (.inl e)))))
        have p0 : w12.drew.cell? ⟨gp, 0, none⟩ = some (.string ib) := P12.out.cell 0
        refine start_ (n := 6) (S := fun w' => w'.cell? ⟨gp, 0, none⟩ = some (.string ib)) (ds := []) #[false, false, false, false, false, false] (by kernel_rfl) rfl rfl p0 (fun hHeld => ?_)
        refine with_tabW tk23.tab tk23.bits (fun HT_ HW_ => ?_)
        refine pure_ (i := 0) (N := some 147) (v := ?_) (a' := ?_) #[true, false, false, false, false, false] rfl rfl (any_of HT_.out (by kernel_rfl)) (fun _ _ _ h => h) (Or.inl ⟨by rfl, ?_⟩) ?_ ?_
        rotate_left
        · intro w'
          go_simp
          try with_reducible rfl
        rotate_left
        · simp only [Act.put, List.setIfInBounds_toArray, List.set_cons_zero, List.set_cons_succ]
          rfl
        refine pure_ (i := 1) (N := some 148) (v := ?_) (a' := ?_) #[true, true, false, false, false, false] rfl rfl (any_of HT_.out (by kernel_rfl)) (fun _ _ _ h => h) (Or.inl ⟨by rfl, ?_⟩) ?_ ?_
        rotate_left
        · intro w'
          go_simp
          try with_reducible rfl
        rotate_left
        · simp only [Act.put, List.setIfInBounds_toArray, List.set_cons_zero, List.set_cons_succ]
          rfl
        refine pure_ (i := 2) (N := some 149) (v := ?_) (a' := ?_) #[true, true, true, false, false, false] rfl rfl (any_of HT_.out (by kernel_rfl)) (fun _ _ _ h => h) (Or.inl ⟨by rfl, ?_⟩) ?_ ?_
        rotate_left
        · intro w'
          go_simp
          try with_reducible rfl
        rotate_left
        · simp only [Act.put, List.setIfInBounds_toArray, List.set_cons_zero, List.set_cons_succ]
          rfl
        refine pure_ (i := 3) (N := some 150) (v := ?_) (a' := ?_) #[true, true, true, true, false, false] rfl rfl (any_of HT_.out (by kernel_rfl)) (fun _ _ _ h => h) (Or.inl ⟨by rfl, ?_⟩) ?_ ?_
        rotate_left
        · intro w'
          go_simp
          try with_reducible rfl
        rotate_left
        · simp only [Act.put, List.setIfInBounds_toArray, List.set_cons_zero, List.set_cons_succ]
          rfl
        refine take_ (i := 4) (N := some 151) (v := ?_) (a' := ?_) #[true, true, true, true, true, false] rfl rfl (take_ofW HT_.out HW_.out (by kernel_rfl)) (fun _ _ _ h => h) (Or.inl ⟨by rfl, ?_⟩) hHeld ?_ ?_
        rotate_left
        · rintro w' s0
          go_simp
          try with_reducible rfl
        rotate_left
        · simp only [Act.put, List.setIfInBounds_toArray, List.set_cons_zero, List.set_cons_succ]
          rfl
        refine one_ (i := 5) (N := some 152) #[true, true, true, true, true, true] rfl rfl (one_of HT_.out (by kernel_rfl)) (by decide) (fun K hK => ?_)
        refine goes_ Tryd.func28 (by kernel_rfl) rfl #[.pointer (some ⟨j, 2, none⟩), .string ib] (by rfl) rfl rfl (by first | done | rfl | (simp only [List.map_toArray, List.map_cons, List.map_nil]; done) | (simp only [List.map_toArray, List.map_cons, List.map_nil]; rfl)) ?_
        refine (HPUT.out).mono ?_
        rintro e' w13 ⟨rfl, v2, hj13, hw13, hk13, hv13⟩
        refine ⟨_, rfl, ?_⟩
        refine hK.out _ _ ((P12.out.drew.kp hk13 NGP.out).cell 0) (fun hHeld => ?_)
        clear hK K
        refine norm_ (a' := ?_) ?_ ?_
        rotate_left
        · show Act.put _ (some 152) _ = _
          simp only [Act.put, List.setIfInBounds_toArray, List.set_cons_zero, List.set_cons_succ]
          rfl
        refine done_ (done_of HT_.out (by kernel_rfl)) ?_
        clear HT_ HW_
        have J13 := Lib.hid (J12d.out.noted p.id hj13 hw13 hk13 hv13)
        have M13 := Lib.hid (M12.out.drew.kp hk13 (fun e => J12.out.notIn M12.out (by decide) (e.elim .inl (fun e => .inr (.inr (.inl e))))))
        have P13 := Lib.hid (P12.out.drew.kp hk13 NGP.out)
        have K13 := Lib.hid (K12.out.drewR.trans (hk13.mono (S' := JS j vS0 vN T0) (fun i hi e => e.elim .inl (fun e => .inr (.inr (.inl e))))))
        have CUT2 := Lib.hid (show ∀ k, JS j v' v2 (T.eraseIdx i) k → JS j vS0 vN T0 k ∨ w.heap.size ≤ k from fun k hk => by
          rcases hk with e | e | e | e
          · exact CUTS.out k (.inl e)
          · exact CUTS.out k (.inr (.inl e))
          · rcases hv13 with h | ⟨b, h, hb⟩
            · exact CUTS.out k (.inr (.inr (.inl (h ▸ e))))
            · rw [h] at e; cases e; exact .inr (Nat.le_trans K12.out.size hb)
          · exact CUTS.out k (.inr (.inr (.inr e))))
        have q0 : w13.cell? ⟨gp, 0, none⟩ = some (.string ib) := P13.out.cell 0
        clear hj13 hw13 hk13 hv13 hHeld p0 HPUT
        go_wp2_with (first
          | ((with_reducible refine gate_store (t := 36) (p := 4) (v := .tmp 156) rfl ?_); refine wpList_store_row rfl 36 (.tmp 4) (.tmp 156) rfl gt #[.string ib, .string bb] rfl rfl 36 zTold M13.out size_told rfl (one_told2 _ _) ?_))
        have MF := Lib.hid (M13.out.setRow #[.string ib, .string bb])
        refine bodyPost_ret (results_ctt rfl _ _ gt 36 _ (0, 0) _ rfl MF.out Tryd.underlying36 rfl rfl) rfl ?_
        rw [HTF.out]
        rw [show putIn J i (J.some[i]'hi) (ptOf s) = ({ J1 with some := J1.some.eraseIdx i, done := pushQ J1.noted J1.done p.id }, ⟨p.id, m2.pcs.flatten, true, 0⟩) by
          rw [hme.out, hp.out]; unfold putIn lastIn; rw [if_neg (by rw [hl.out]; omega), hm2.out, DG.out, if_pos HD.out, hJ1.out]]
        exact ⟨by show _ = Ending.returned (.tuple #[.agg #[.string ⟨p.id.toArray⟩, .string ⟨m2.pcs.flatten.toArray⟩], .bool true, .int .i64 0]); rw [IB.out, BB.out]; rfl, v', v2, T.eraseIdx i, J13.out.kp (Kp.rowAt (S := fun i => i = gt) rfl _) (fun i hi e => J13.out.notIn M13.out (by decide) (e ▸ hi)), K13.out.row SG.out.1 _, CUT2.out⟩
      · have HD := Lib.hid hd
        rw [decide_eq_false hd] at he
        clear hd
        try simp only [he, Bool.not_false, Bool.not_true]
        go_wp2_with (first
          | ((with_reducible refine gate_store (t := 36) (p := 4) (v := .tmp 146) rfl ?_); refine wpList_store_row rfl 36 (.tmp 4) (.tmp 146) rfl gt zTold rfl rfl 36 zTold M12.out size_told rfl one_ztold ?_))
        have MF := Lib.hid (M12.out.setRow zTold)
        refine bodyPost_ret (results_ctt rfl _ _ gt 36 _ (0, 0) _ rfl MF.out Tryd.underlying36 rfl rfl) rfl ?_
        rw [HTF.out]
        rw [show putIn J i (J.some[i]'hi) (ptOf s) = ({ J1 with some := J1.some.eraseIdx i }, noTk 220) by
          rw [hme.out, hp.out]; unfold putIn lastIn; rw [if_neg (by rw [hl.out]; omega), hm2.out, DG.out, if_neg HD.out, hJ1.out]]
        exact ⟨rfl, v', vN, T.eraseIdx i, J12.out.kp (Kp.rowAt (S := fun i => i = gt) rfl zTold) (fun i hi e => J12.out.notIn M12.out (by decide) (e ▸ hi)), K12.out.row SG.out.1 zTold, CUTS.out⟩
end Go.Proofs.YtlogcgeinbefjaaDoor
namespace Go.Proofs.YtlogcgeinbefjaaDoor
open Go.RowKit Go.Proofs.YtlogcgeinbefjaaDoorW.PrintWords Go.Proofs.YtlogcgeinbefjaaDoorW.PrintLast
set_option linter.unusedSimpArgs false
set_option linter.unusedVariables false
set_option maxRecDepth 20000
theorem fstI_cases {α : Type} (p : α → Bool) (l : List α) : fstI p l = -1 ∨ ∃ i, fstI p l = (i : Nat) ∧ i < l.length := by
  unfold fstI
  cases h : l.any p with
  | false => exact .inl rfl
  | true =>
    obtain ⟨x, hx, hp⟩ := List.any_eq_true.1 h
    exact .inr ⟨l.findIdx p, rfl, List.findIdx_lt_length_of_exists ⟨x, hx, hp⟩⟩
theorem takeJ_any (B j : Nat) (vS vN : Value) (T : List Pl) (J : Jn) (s : List UInt8) (w : World) (h : JnA B w j vS vN T J) (hs : s.length ≤ 140737488355328) (hB : B ≤ w.heap.size) (hk : KsAt w) (hks : 1 < B) (hok : ∀ m ∈ J.some, 1 ≤ m.left) :
    Calls Tryd.prog 15 #[.pointer (some ⟨j, 0, none⟩), .string ⟨s.toArray⟩] w fun e w' => TkOut B j vS vN T (takeF J s).1 (takeF J s).2 w w' e := by
  by_cases ho : okP s = true
  · by_cases hd : J.done.any (fun x => x == (ptOf s).id) = true
    · exact take_there B j vS vN T J s w h hs ho hd
    · have hd' : J.done.any (fun x => x == (ptOf s).id) = false := Bool.eq_false_iff.mpr hd
      rcases fstI_cases (fun m : Ms => m.id == (ptOf s).id) J.some with hF | ⟨i, hF, hi⟩
      · exact take_new B j vS vN T J s w h hs ho hd' hF hB hk hks
      · have hget : J.some[i]? = some J.some[i] := List.getElem?_eq_getElem hi
        have one : ∀ {q : Ms → Prop}, q J.some[i] → ∀ m, J.some[i]? = some m → q m := fun hq m hm => by
          rw [hget] at hm; cases hm; exact hq
        by_cases h1 : J.some[i].sum = (ptOf s).sum
        · by_cases h2 : J.some[i].pcs.length = (ptOf s).many
          · have hT : i < T.length := by rw [h.len]; exact hi
            have hA := h.ms i T[i] J.some[i] (List.getElem?_eq_getElem hT) hget
            have hlt : (ptOf s).at_ < J.some[i].came.length := by rw [hA.l, h2]; exact (okP_many s ho).2.2
            cases hc : J.some[i].came[(ptOf s).at_]'hlt with
            | true => exact take_old_came B j vS vN T J s w h hs ho hd' i hi hF (one (q := fun m => (m.sum = (ptOf s).sum ∧ m.pcs.length = (ptOf s).many) ∧ m.came[(ptOf s).at_]? = some true) ⟨⟨h1, h2⟩, by rw [List.getElem?_eq_getElem hlt, hc]⟩)
            | false => exact take_old_put B j vS vN T J s w h hs ho hd' i hi hF hB hk hks hok (one (q := fun m => (m.sum = (ptOf s).sum ∧ m.pcs.length = (ptOf s).many) ∧ m.came[(ptOf s).at_]? = some false) ⟨⟨h1, h2⟩, by rw [List.getElem?_eq_getElem hlt, hc]⟩)
          · exact take_old_len B j vS vN T J s w h hs ho hd' i hi hF (one (q := fun m => m.sum = (ptOf s).sum ∧ m.pcs.length ≠ (ptOf s).many) ⟨h1, h2⟩)
        · exact take_old_sum B j vS vN T J s w h hs ho hd' i hi hF (one (q := fun m => m.sum ≠ (ptOf s).sum) h1)
  · exact take_none B j vS vN T J s w h hs (by simpa using ho)
/-- every message that waits has a piece left. -/
theorem putIn_ok (J : Jn) (i : Nat) (m : Ms) (p : Pt) (h : ∀ m ∈ J.some, 1 ≤ m.left) : ∀ u ∈ (putIn J i m p).1.some, 1 ≤ u.left := by
  unfold putIn
  split
  · intro u hu
    rcases List.mem_or_eq_of_mem_set hu with hu | rfl
    · exact h u hu
    · rename_i h1; show 1 ≤ m.left - 1; omega
  · have he : ∀ u ∈ (J.some.set i (m.put p.at_ p.text)).eraseIdx i, 1 ≤ u.left := fun u hu => by
      rw [List.eraseIdx_set_eq] at hu
      exact h u ((List.eraseIdx_sublist _ _).subset hu)
    unfold lastIn
    split
    · exact he
    · exact he
theorem takeF_ok (J : Jn) (s : List UInt8) (h : ∀ m ∈ J.some, 1 ≤ m.left) : ∀ u ∈ (takeF J s).1.some, 1 ≤ u.left := by
  unfold takeF
  split
  · rename_i ho
    have hp : ∀ u ∈ pushQ J.most J.some (freshM (ptOf s)), 1 ≤ u.left := fun u hu => by
      rcases pushQ_mem hu with hu | rfl
      · exact h u hu
      · have := (okP_many s ho).1
        show 1 ≤ (((ptOf s).many : Nat) : Int); omega
    split
    · exact h
    · split
      · split
        · exact putIn_ok _ _ _ _ hp
        · unfold oldIn
          split
          · split
            · exact h
            · exact putIn_ok _ _ _ _ h
          · exact h
      · exact putIn_ok _ _ _ _ hp
  · exact h
end Go.Proofs.YtlogcgeinbefjaaDoor
namespace Go.Proofs.YtlogcgeinbefjaaDoor
open Go.RowKit Go.Proofs.YtlogcgeinbefjaaDoorW.PrintWords Go.Proofs.YtlogcgeinbefjaaDoorW.PrintLast
set_option linter.unusedSimpArgs false
set_option linter.unusedVariables false
set_option maxRecDepth 20000
def newJ (a b : Nat) : Jn := ⟨a, b, [], []⟩
theorem newJ_at (B g a b : Nat) (w : World) (hB : B ≤ g) (hg : Blk w g 63 #[.int .i64 (a : Nat), .slice none 0 0, .int .i64 (b : Nat), .slice none 0 0]) (ha : 1 ≤ a ∧ a ≤ 1024) (hb : 1 ≤ b ∧ b ≤ 1024) : JnA B w g (.slice none 0 0) (.slice none 0 0) [] (newJ a b) :=
  ⟨hg, hB, Win.nil _ _ _, Win.nil _ _ _, rfl, fun i t m h => by simp at h, List.nodup_nil, List.nodup_nil, List.nodup_nil, fun t h => by simp at h, ha, hb, Nat.zero_le _, Nat.zero_le _⟩
set_option maxHeartbeats 400000 in
theorem new2_any (w : World) : Calls Tryd.prog 14 #[.int .i64 2, .int .i64 2] w fun e w' => e = .returned (.tuple #[.pointer (some ⟨w.heap.size, 0, none⟩), .int .i64 0]) ∧ JnA w.heap.size w' w.heap.size (.slice none 0 0) (.slice none 0 0) [] (newJ 2 2) ∧ Below w.heap.size w w' := by
  go_enter Tryd.func14, Tryd.ntmps14
  go_wp2_with fail
  go_ret2
  exact ⟨by rfl, newJ_at _ _ 2 2 _ (Nat.le_refl _) (Blk.new _ _ _) (by omega) (by omega), (Below.refl _ _).alloc (Nat.le_refl _) _⟩
end Go.Proofs.YtlogcgeinbefjaaDoor
namespace Go.Proofs.YtlogcgeinbefjaaDoor
open Go.RowKit
set_option linter.unusedSimpArgs false
set_option linter.unusedVariables false
def pieceL (b : List UInt8) (i : Nat) : List UInt8 := (b.drop (200 * i)).take 200
def cutN (b : List UInt8) : Nat := max 1 ((b.length + 199) / 200)
def partL (id b : List UInt8) (i : Nat) : List UInt8 := id ++ [UInt8.ofNat i, UInt8.ofNat (cutN b)] ++ digL id b ++ pieceL b i
def cutL (id b : List UInt8) : List (List UInt8) := (List.range (cutN b)).map (partL id b)
theorem pieces_take (b : List UInt8) : ∀ n, ((List.range n).map (pieceL b)).flatten = b.take (200 * n)
  | 0 => by simp
  | n + 1 => by
    rw [List.range_succ, List.map_append, List.flatten_append, pieces_take b n, Nat.mul_succ, List.take_add]
    simp [pieceL]
theorem cutN_le (b : List UInt8) : b.length ≤ 200 * cutN b := by unfold cutN; omega
theorem pieces_flat (b : List UInt8) : ((List.range (cutN b)).map (pieceL b)).flatten = b := by
  rw [pieces_take, List.take_of_length_le (cutN_le b)]
theorem cutN_max (b : List UInt8) (h : b.length ≤ 2048) : 1 ≤ cutN b ∧ cutN b ≤ 11 := by unfold cutN; omega
theorem pieceL_le (b : List UInt8) (i : Nat) : (pieceL b i).length ≤ 200 := by unfold pieceL; rw [List.length_take]; omega
theorem digL_length (id b : List UInt8) (h : 6 ≤ (sha (id ++ b)).length) : (digL id b).length = 6 := by unfold digL; rw [List.length_take]; omega
end Go.Proofs.YtlogcgeinbefjaaDoor
namespace Go.Proofs.YtlogcgeinbefjaaDoor
open Go.RowKit Go.Proofs.YtlogcgeinbefjaaDoorW.PrintWords Go.Proofs.YtlogcgeinbefjaaDoorW.PrintLast
set_option linter.unusedSimpArgs false
set_option linter.unusedVariables false
set_option maxRecDepth 20000
set_option maxHeartbeats 800000 in
theorem cut_long (id body : List UInt8) (w : World) (h8 : id.length = 8) (hl : 2048 < body.length) (hb : body.length ≤ 140737488355328) :
    Calls Tryd.prog 9 #[.string ⟨id.toArray⟩, .string ⟨body.toArray⟩] w fun e w' => e = .returned (.tuple #[.slice none 0 0, .int .i64 2]) ∧ w' = w := by
  have hs1 : (⟨id.toArray⟩ : ByteArray).size = 8 := by simp [ByteArray.size, h8]
  have hs2 : (⟨body.toArray⟩ : ByteArray).size = body.length := by simp [ByteArray.size]
  obtain ⟨ib, IB⟩ : ∃ t : ByteArray, Hid (⟨id.toArray⟩ = t) := ⟨_, Lib.hid rfl⟩
  obtain ⟨bb, BB⟩ : ∃ t : ByteArray, Hid (⟨body.toArray⟩ = t) := ⟨_, Lib.hid rfl⟩
  rw [IB.out] at hs1 ⊢
  rw [BB.out] at hs2 ⊢
  have d1 : 2048 < (bb.size : Int) := by omega
  have d2 : 2048 < bb.size := by omega
  clear hs2 hl hb h8
  go_enter Tryd.func9, Tryd.ntmps9
  go_wp2_with fail
  go_ret2
  exact ⟨by rfl, rfl⟩
set_option maxHeartbeats 1600000 in
theorem cut_any (id body : List UInt8) (w : World) (h8 : id.length = 8) (hl : body.length ≤ 2048) (hk : KsAt w) (hks : 1 < w.heap.size) :
    Calls Tryd.prog 9 #[.string ⟨id.toArray⟩, .string ⟨body.toArray⟩] w fun e w' => ∃ v, e = .returned (.tuple #[v, .int .i64 0]) ∧ Win 9 w' w.heap.size v (cstr (cutL id body)) ∧ Below w.heap.size w w' := by
  have hs1 : (⟨id.toArray⟩ : ByteArray).size = 8 := by simp [ByteArray.size, h8]
  have hs2 : (⟨body.toArray⟩ : ByteArray).size = body.length := by simp [ByteArray.size]
  have HD := Lib.hid (digest_any id body w (by omega) (by omega) hk hks)
  have hN := cutN_max body hl
  obtain ⟨ib, IB⟩ : ∃ t : ByteArray, Hid (⟨id.toArray⟩ = t) := ⟨_, Lib.hid rfl⟩
  obtain ⟨bb, BB⟩ : ∃ t : ByteArray, Hid (⟨body.toArray⟩ = t) := ⟨_, Lib.hid rfl⟩
  obtain ⟨db, DB⟩ : ∃ t : ByteArray, Hid (⟨(digL id body).toArray⟩ = t) := ⟨_, Lib.hid rfl⟩
  rw [IB.out] at hs1 HD ⊢
  rw [BB.out] at hs2 HD ⊢
  rw [DB.out] at HD
  obtain ⟨n, hn⟩ : ∃ n, Hid (bb.size = n) := ⟨_, Lib.hid rfl⟩
  obtain ⟨N, hNN⟩ : ∃ n, Hid (cutN body = n) := ⟨_, Lib.hid rfl⟩
  have e1 : (n : Int) ≤ 2048 := by have := hn.out; omega
  have d1 : decide (2048 < (n : Int)) = false := decide_eq_false (by omega)
  have HN := Lib.hid hN
  have hbz : bb.size = n := hn.out
  rw [hn.out] at hs2
  have HS2 := Lib.hid hs2
  have e2 : ¬ (2048 < (n : Int)) := by omega
  clear hs2 hN hk hks
  go_enter Tryd.func9, Tryd.ntmps9
  go_upto_region 5 with fail
  clear e2
  go_wp2_with fail
  refine HD.out.mono ?_
  rintro e w1 ⟨rfl, b1⟩
  have B1 := Lib.hid b1
  clear b1
  go_upto_region 8 with fail
  have eN : max 1 (((n : Int) + 200 - 1) / 200) = (N : Int) := by
    rw [← hNN.out]; have := HS2.out; unfold cutN; omega
  simp only [eN]
  have HNB := Lib.hid (show 1 ≤ N ∧ N ≤ 11 ∧ 200 * N ≤ n + 200 by
    have h1 := HN.out
    have h2 := HS2.out
    have h3 := hNN.out
    unfold cutN at h3
    omega)
  clear eN
  go_wp2_with fail
  go_loopg [8, 29] (N + 1) (fun kq v8 v29 wr => ∃ (k : Nat) (A : Option Addr) (c : Nat), k + kq = N + 1 ∧ k ≤ N ∧ v29 = .int .i64 (k : Nat) ∧ v8 = .slice A k c ∧ Hid (Win 9 wr w.heap.size (.slice A k c) (cstr ((List.range k).map (partL id body)))) ∧ Hid (Below w.heap.size w wr))
  case atStart => exact ⟨0, none, 0, by omega, by omega, rfl, rfl, Lib.hid (Win.nil _ _ _), B1⟩
  case round =>
    obtain ⟨k, A, c, hk, hk2, rfl, rfl, WK, BK⟩ := hrel
    by_cases hlt : k < N
    · have e3 : (k : Int) < (N : Int) := by omega
      have hle : 200 * k ≤ n := by have := HNB.out; omega
      have hle' : 200 * (k : Int) ≤ (n : Int) := by omega
      have h0 : 0 ≤ 200 * (k : Int) := by omega
      have hw1 : wrap64 (200 * (k : Int)) = 200 * (k : Int) := by unfold wrap64; omega
      go_upto_region 13 with fail
      have HTX : (bb.extract (200 * k) n).extract 0 (min (((n - 200 * k : Nat) : Int)) 200).toNat = ⟨(pieceL body k).toArray⟩ := by
        rw [← BB.out, HS2.out, extract_eq, extract_take]
        unfold pieceL
        congr 1
        simp
        omega
      simp only [HTX]
      obtain ⟨tb, TB⟩ : ∃ t : ByteArray, Hid (⟨(pieceL body k).toArray⟩ = t) := ⟨_, Lib.hid rfl⟩
      rw [TB.out]
      have hk8 : IntKind.u8.wrap (k : Int) = (k : Int) := by have := HNB.out; unfold IntKind.wrap; simp [IntKind.bits, IntKind.signed]; omega
      have hN8 : ((N : Int) % 256) = n8 (UInt8.ofNat N) := by
        show _ = ((UInt8.ofNat N).toNat : Int)
        rw [UInt8.toNat_ofNat']
        omega
      have hk9 : (k : Int) = n8 (UInt8.ofNat k) := by
        have := HNB.out
        show _ = ((UInt8.ofNat k).toNat : Int)
        rw [UInt8.toNat_ofNat']
        omega
      have ho : Own 5 (wr.alloc (.cells #[.int .u8 (n8 (UInt8.ofNat k)), .int .u8 (n8 (UInt8.ofNat N))] 5)) w.heap.size (.slice (some ⟨wr.heap.size, 0, none⟩) 2 2) (cb [UInt8.ofNat k, UInt8.ofNat N]) := my_own_lit wr 5 [.int .u8 (n8 (UInt8.ofNat k)), .int .u8 (n8 (UInt8.ofNat N))] (B := w.heap.size) BK.out.size (by simp)
      have hcv := my_own_string (l := [UInt8.ofNat k, UInt8.ofNat N]) Tryd.underlying42 Tryd.underlying5 Tryd.underlying9 ho
      rw [← hN8, ← hk9] at hcv
      have HCV := Lib.hid hcv
      clear ho hN8 hk9 hcv
      have hcv := HCV.out
      have hX : ib ++ (⟨#[UInt8.ofNat k, UInt8.ofNat N]⟩ : ByteArray) ++ db ++ tb = ⟨(partL id body k).toArray⟩ := by
        rw [← IB.out, ← DB.out, ← TB.out, partL, hNN.out]
        apply ByteArray.ext
        simp
      obtain ⟨X, HX⟩ : ∃ x : ByteArray, Hid (ib ++ (⟨#[UInt8.ofNat k, UInt8.ofNat N]⟩ : ByteArray) ++ db ++ tb = x) := ⟨_, Lib.hid rfl⟩
      have B2 := Lib.hid ((Below.refl wr.heap.size wr).alloc (Nat.le_refl _) (.cells #[.int .u8 (k : Int), .int .u8 ((N : Int) % 256)] 5))
      have B3 := Lib.hid (B2.out.alloc B2.out.size (.cells #[.string (ib ++ (⟨#[UInt8.ofNat k, UInt8.ofNat N]⟩ : ByteArray) ++ db ++ tb)] 9))
      have hlen : (cstr ((List.range k).map (partL id body))).length = k := by rw [cstr_length]; simp
      have hWk := WK.out.below B3.out
      obtain ⟨v2, w2, hap, h2, h3, h4⟩ := win_append (P := Tryd.prog) (ty := 22) elemTx hWk (cstr_one _) (wr.heap.size + 1) 1 (.string (ib ++ (⟨#[UInt8.ofNat k, UInt8.ofNat N]⟩ : ByteArray) ++ db ++ tb)) (by
        have := (Blk.newAt (wr.alloc (.cells #[.int .u8 (k : Int), .int .u8 ((N : Int) % 256)] 5)) 9 #[.string (ib ++ (⟨#[UInt8.ofNat k, UInt8.ofNat N]⟩ : ByteArray) ++ db ++ tb)] (wr.heap.size + 1) (by simp)).cell 0
        exact this) rfl (by rw [hlen]; have := HNB.out; omega) (by rw [hlen]; have := HNB.out; omega) (Nat.le_trans BK.out.size B3.out.size)
      obtain ⟨A2, c2, hv2, _, _⟩ := h2.form
      have HRN : (cstr ((List.range k).map (partL id body)) ++ [Value.string (ib ++ (⟨#[UInt8.ofNat k, UInt8.ofNat N]⟩ : ByteArray) ++ db ++ tb)]) = cstr ((List.range (k + 1)).map (partL id body)) := by
        rw [hX, List.range_succ, List.map_append]; simp [cstr]
      rw [HRN] at h2 hv2
      have hl2 : (cstr ((List.range (k + 1)).map (partL id body))).length = k + 1 := by rw [cstr_length]; simp
      rw [hl2] at hv2
      subst hv2
      have HR := Lib.hid hap
      have H2 := Lib.hid h2
      have BB2 := Lib.hid (show Below w.heap.size w w2 from BK.out.trans ((Kp.grown (S := fun i => w.heap.size ≤ i) h3 (fun q hq _ => (WK.out.typed q hq).1)).below (fun i h => h) (Nat.le_trans BK.out.size B3.out.size) |> fun b => (B3.out.mono BK.out.size).trans b))
      clear hap h2 h3 h4 hl2 HRN hWk hlen hX HX
      have z1 : db.size ≤ 6 := by rw [← DB.out]; show (digL id body).toArray.size ≤ 6; unfold digL; simp; omega
      have z2 : tb.size ≤ 200 := by rw [← TB.out]; show (pieceL body k).toArray.size ≤ 200; simpa using pieceL_le body k
      have g1 : ¬ (9223372036854775807 < 8 + 2 + db.size) := by omega
      have g2 : ¬ (9223372036854775807 < 8 + 2 + db.size + tb.size) := by omega
      go_wp2_with ((with_reducible refine gate_dst (N := 55) rfl ?_); refine wpList_append_run rfl (.tmp 41) (.tmp 54) _ _ rfl rfl rfl HR.out ?_)
      go_roundg (N - k)
      case measure => omega
      case rel => exact ⟨k + 1, A2, c2, by omega, by omega, by go_num, rfl, H2, BB2⟩
    · obtain rfl : k = N := by omega
      have hq : gk = 1 := by omega
      subst hq
      clear hlt hk2 hk
      go_wp2_with fail
      go_ret2
      exact ⟨_, by rfl, by rw [cutL, hNN.out]; exact WK.out, BK.out⟩
end Go.Proofs.YtlogcgeinbefjaaDoor
namespace Go.Proofs.YtlogcgeinbefjaaDoor
open Go.RowKit
set_option linter.unusedSimpArgs false
set_option linter.unusedVariables false
section
variable {P : Program} {t e ty : TypeId} {w w' : World} {B : Nat} {xs : List Value}
end
end Go.Proofs.YtlogcgeinbefjaaDoor
namespace Go.Proofs.YtlogcgeinbefjaaDoor
open Go.RowKit
set_option linter.unusedSimpArgs false
set_option linter.unusedVariables false
theorem elemU8' : Elem Tryd.prog 42 5 (.int .u8 0) 1 := ⟨Tryd.underlying42, by kernel_rfl, by rfl⟩
end Go.Proofs.YtlogcgeinbefjaaDoor
namespace Go.Proofs.YtlogcgeinbefjaaDoor
open Go.RowKit
set_option linter.unusedSimpArgs false
set_option linter.unusedVariables false
/-- a message: its id, its sum, its pieces. -/
structure Mg where
  id : List UInt8
  sum : List UInt8
  ps : List (List UInt8)
structure Mg.ok (M : Mg) : Prop where
  id : M.id.length = 8
  sum : M.sum.length = 6
  n : 1 ≤ M.ps.length ∧ M.ps.length ≤ 11
  pc : ∀ i s, M.ps[i]? = some s → (i + 1 < M.ps.length → s.length = 200) ∧ (i + 1 = M.ps.length → min 1 (M.ps.length - 1) ≤ s.length ∧ s.length ≤ 200 ∧ 200 * i + s.length ≤ 2048)
def Mg.part (M : Mg) (i : Nat) : List UInt8 := M.id ++ [UInt8.ofNat i, UInt8.ofNat M.ps.length] ++ M.sum ++ M.ps.getD i []
def Mg.pt (M : Mg) (i : Nat) : Pt := ⟨M.id, M.sum, M.ps.getD i [], i, M.ps.length⟩
theorem four_parts (a b c d : List UInt8) (x y : UInt8) (ha : a.length = 8) (hc : c.length = 6) (hb : b = [x, y]) :
    (a ++ b ++ c ++ d).take 8 = a ∧ ((a ++ b ++ c ++ d).drop 10).take 6 = c ∧ (a ++ b ++ c ++ d).drop 16 = d ∧ (a ++ b ++ c ++ d).getD 8 0 = x ∧ (a ++ b ++ c ++ d).getD 9 0 = y := by
  subst hb
  have h1 : a ++ [x, y] ++ c ++ d = a ++ ([x, y] ++ (c ++ d)) := by simp
  have h2 : a ++ [x, y] ++ c ++ d = (a ++ [x, y]) ++ (c ++ d) := by simp
  have h3 : a ++ [x, y] ++ c ++ d = (a ++ [x, y] ++ c) ++ d := by simp
  refine ⟨?_, ?_, ?_, ?_, ?_⟩
  · rw [h1, List.take_left' ha]
  · rw [h2, List.drop_left' (by simp [ha]), List.take_left' hc]
  · rw [h3, List.drop_left' (by simp [ha, hc])]
  · rw [h1, List.getD_eq_getElem?_getD, List.getElem?_append_right (by omega), ha]; rfl
  · rw [h1, List.getD_eq_getElem?_getD, List.getElem?_append_right (by omega), ha]; rfl
theorem u8_small (i : Nat) (h : i < 256) : (UInt8.ofNat i).toNat = i := by rw [UInt8.toNat_ofNat']; omega
section
variable {M : Mg} {i : Nat}
theorem Mg.ptOf_ (h : M.ok) (hi : i < M.ps.length) : ptOf (M.part i) = M.pt i := by
  obtain ⟨h1, h2, h3, h4, h5⟩ := four_parts M.id [UInt8.ofNat i, UInt8.ofNat M.ps.length] M.sum (M.ps.getD i []) _ _ h.id h.sum rfl
  have hn := h.n
  have e4 : (bd (M.part i) 8).toNat = i := by
    have : bd (M.part i) 8 = UInt8.ofNat i := h4
    rw [this, u8_small _ (by omega)]
  have e5 : (bd (M.part i) 9).toNat = M.ps.length := by
    have : bd (M.part i) 9 = UInt8.ofNat M.ps.length := h5
    rw [this, u8_small _ (by omega)]
  unfold ptOf
  rw [e4, e5]
  unfold Mg.part Mg.pt
  rw [h1, h2, h3]
theorem Mg.okP_ (h : M.ok) (hi : i < M.ps.length) : okP (M.part i) = true := by
  have hp := M.ptOf_ h hi
  have hn := h.n
  have hd : (M.part i).drop 16 = M.ps.getD i [] := by
    have : (ptOf (M.part i)).text = (M.pt i).text := by rw [hp]
    exact this
  have hl : (M.part i).length = 16 + (M.ps.getD i []).length := by
    unfold Mg.part
    simp only [List.length_append, h.id, h.sum, List.length_cons, List.length_nil]
  have hg : M.ps[i]? = some (M.ps.getD i []) := by
    rw [List.getD_eq_getElem?_getD, List.getElem?_eq_getElem hi]; rfl
  obtain ⟨p1, p2⟩ := h.pc i _ hg
  unfold okP
  rw [hp, hd]
  simp only [Bool.and_eq_true, decide_eq_true_eq]
  refine ⟨⟨by omega, hn.1, hn.2, hi⟩, ?_⟩
  unfold lowP highP
  have f1 : (M.pt i).at_ = i := rfl
  have f2 : (M.pt i).many = M.ps.length := rfl
  rw [f1, f2]
  by_cases hlast : i + 1 = M.ps.length
  · obtain ⟨q1, q2, q3⟩ := p2 hlast
    rw [if_pos hlast, if_pos hlast]
    exact ⟨q1, by omega⟩
  · have := p1 (by omega)
    rw [if_neg hlast, if_neg hlast]
    exact ⟨by omega, by omega⟩
end
/-- a message of which some pieces came. -/
def pick (b : Bool) (s : List UInt8) : List UInt8 := if b then s else []
def Mg.ms (M : Mg) (c : List Bool) : Ms := ⟨M.id, M.sum, List.zipWith pick c M.ps, c, (c.count false : Nat)⟩
theorem pick_fresh : ∀ (n : Nat) (ps : List (List UInt8)), ps.length = n → List.zipWith pick (List.replicate n false) ps = List.replicate n []
  | 0, ps, h => by simp
  | n + 1, [], h => by simp at h
  | n + 1, p :: ps, h => by
    rw [List.replicate_succ, List.zipWith_cons_cons, pick_fresh n ps (by simpa using h)]
    rfl
theorem pick_set : ∀ (c : List Bool) (ps : List (List UInt8)) (i : Nat), c.length = ps.length → i < ps.length → List.zipWith pick (c.set i true) ps = (List.zipWith pick c ps).set i (ps.getD i [])
  | [], ps, i, h, hi => by simp at h; omega
  | b :: c, [], i, h, hi => by simp at hi
  | b :: c, p :: ps, 0, h, hi => by simp [pick]
  | b :: c, p :: ps, i + 1, h, hi => by
    have := pick_set c ps i (by simpa using h) (by simpa using hi)
    simp only [List.set_cons_succ, List.zipWith_cons_cons, List.getD_cons_succ]
    rw [this]
theorem pick_all : ∀ (c : List Bool) (ps : List (List UInt8)), c.length = ps.length → c.count false = 0 → List.zipWith pick c ps = ps
  | [], ps, h, hc => by simp at h; simp [List.eq_nil_of_length_eq_zero h.symm]
  | b :: c, [], h, hc => by simp at h
  | b :: c, p :: ps, h, hc => by
    cases b with
    | false => simp at hc
    | true =>
      rw [List.zipWith_cons_cons, pick_all c ps (by simpa using h) (by simpa using hc)]
      rfl
theorem count_set (c : List Bool) : ∀ i, c[i]? = some false → (c.set i true).count false + 1 = c.count false ∧ (c.set i true).count true = c.count true + 1 := by
  induction c with
  | nil => intro i h; simp at h
  | cons b c ih =>
    intro i h
    cases i with
    | zero =>
      simp at h; subst h
      simp
    | succ i =>
      have := ih i (by simpa using h)
      rw [List.set_cons_succ]
      cases b <;> simp <;> omega
theorem count_two (c : List Bool) : c.count true + c.count false = c.length := by
  induction c with
  | nil => rfl
  | cons b c ih => cases b <;> simp <;> omega
theorem Mg.fresh (M : Mg) (i : Nat) : freshM (M.pt i) = M.ms (List.replicate M.ps.length false) := by
  unfold freshM Mg.ms Mg.pt
  rw [pick_fresh _ _ rfl]
  simp [List.count_replicate]
theorem Mg.put_ (M : Mg) (c : List Bool) (i : Nat) (hc : c.length = M.ps.length) (h : c[i]? = some false) : (M.ms c).put i (M.ps.getD i []) = M.ms (c.set i true) := by
  have hi : i < M.ps.length := by rw [← hc]; exact (List.getElem?_eq_some_iff.1 h).1
  have := (count_set c i h).1
  unfold Ms.put Mg.ms
  simp only [pick_set c M.ps i hc hi, Ms.mk.injEq, true_and]
  omega
/-- what a joiner has of a message: which pieces came (none: it isn't there; all: it was told). -/
def Got (J : Jn) (M : Mg) (c : List Bool) : Prop :=
  c.length = M.ps.length ∧
  (c.count true = 0 → M.id ∉ J.done ∧ ∀ m ∈ J.some, m.id ≠ M.id) ∧
  (c.count false = 0 → M.id ∈ J.done) ∧
  (c.count true ≠ 0 → c.count false ≠ 0 → M.id ∉ J.done ∧ ∃ k : Nat, J.some[k]? = some (M.ms c) ∧ ∀ (j : Nat) (m : Ms), J.some[j]? = some m → m.id = M.id → j = k)
theorem anyId (l : List (List UInt8)) (x : List UInt8) : l.any (fun y => y == x) = decide (x ∈ l) := by
  rw [Bool.eq_iff_iff, List.any_eq_true, decide_eq_true_iff]
  constructor
  · rintro ⟨y, hy, e⟩; rw [← eq_of_beq e]; exact hy
  · intro h; exact ⟨x, h, beq_self_eq_true x⟩
theorem fstI_no (J : Jn) (id : List UInt8) (h : ∀ m ∈ J.some, m.id ≠ id) : fstI (fun m : Ms => m.id == id) J.some = -1 := by
  refine fstI_none _ _ (fun j x hj hx => ?_)
  exact beq_eq_false_iff_ne.mpr (h x (List.mem_of_getElem? hx))
theorem fstI_at (J : Jn) (id : List UInt8) (k : Nat) (m : Ms) (hk : J.some[k]? = some m) (hm : m.id = id) (h : ∀ (j : Nat) (m : Ms), J.some[j]? = some m → m.id = id → j = k) : fstI (fun m : Ms => m.id == id) J.some = (k : Int) := by
  refine fstI_hit _ _ k m hk (by simpa using hm) (fun j x hj hx => ?_)
  refine beq_eq_false_iff_ne.mpr (fun e => ?_)
  have := h j x hx e
  omega
theorem pushQ_room {α : Type} (m : Nat) (xs : List α) (x : α) (h : xs.length < m) : pushQ m xs x = xs ++ [x] := by
  unfold pushQ; rw [if_neg (by omega)]
/-- the answer to a part that had not come. -/
def Mg.ans (M : Mg) (c : List Bool) : Tk := if c.count false = 0 then (if digL M.id M.ps.flatten = M.sum then ⟨M.id, M.ps.flatten, true, 0⟩ else noTk 220) else noTk 0
/-- what is left as it was of the others. -/
structure Nxt (J J' : Jn) (M : Mg) (c : List Bool) : Prop where
  most : J'.most = J.most
  noted : J'.noted = J.noted
  sum : J'.some.length + J'.done.length ≤ J.some.length + J.done.length + (if c.count true = 0 then 1 else 0)
  oth : ∀ (M2 : Mg) (c2 : List Bool), M2.id ≠ M.id → Got J M2 c2 → Got J' M2 c2
theorem put_in (J : Jn) (M : Mg) (c : List Bool) (i k : Nat) (hc : c.length = M.ps.length) (hi : c[i]? = some false) (hk : J.some[k]? = some (M.ms c)) (hn : J.done.length < J.noted) :
    putIn J k (M.ms c) (M.pt i) = if (c.set i true).count false = 0 then
      (if digL M.id M.ps.flatten = M.sum then ({ J with some := J.some.eraseIdx k, done := J.done ++ [M.id] }, ⟨M.id, M.ps.flatten, true, 0⟩) else ({ J with some := J.some.eraseIdx k }, noTk 220))
      else ({ J with some := J.some.set k (M.ms (c.set i true)) }, noTk 0) := by
  have h1 := (count_set c i hi).1
  have hp := M.put_ c i hc hi
  have hp' : (M.ms c).put (M.pt i).at_ (M.pt i).text = M.ms (c.set i true) := hp
  have hl : (M.ms c).left = (c.count false : Nat) := rfl
  unfold putIn
  rw [hp', hl]
  by_cases h0 : (c.set i true).count false = 0
  · rw [if_neg (by omega), if_pos h0]
    unfold lastIn
    have hps : (M.ms (c.set i true)).pcs = M.ps := pick_all _ _ (by rw [List.length_set]; exact hc) h0
    rw [hps, List.eraseIdx_set_eq]
    have e1 : (M.pt i).id = M.id := rfl
    have e2 : (M.pt i).sum = M.sum := rfl
    simp only [e1, e2]
    split
    · rw [pushQ_room _ _ _ hn]
    · rfl
  · rw [if_pos (by omega), if_neg h0]
theorem Got.erase {J : Jn} {M2 : Mg} {c2 : List Bool} (k : Nat) (m : Ms) (hk : J.some[k]? = some m) (hne : M2.id ≠ m.id) (d : List (List UInt8)) (hd : ∀ x, x ≠ m.id → (x ∈ d ↔ x ∈ J.done)) (h : Got J M2 c2) : Got { J with some := J.some.eraseIdx k, done := d } M2 c2 := by
  have hdm := hd M2.id hne
  refine ⟨h.1, fun h0 => ?_, fun h0 => hdm.2 (h.2.2.1 h0), fun h0 h1 => ?_⟩
  · obtain ⟨a, b⟩ := h.2.1 h0
    exact ⟨fun e => a (hdm.1 e), fun m hm => b m ((List.eraseIdx_sublist _ _).subset hm)⟩
  · obtain ⟨a, q, hq, hu⟩ := h.2.2.2 h0 h1
    refine ⟨fun e => a (hdm.1 e), ?_⟩
    have hqk : q ≠ k := fun e => by
      subst e
      rw [hk] at hq
      have := Option.some.inj hq
      rw [this] at hne
      exact hne rfl
    have get : ∀ j : Nat, (J.some.eraseIdx k)[j]? = if j < k then J.some[j]? else J.some[j + 1]? := fun j => by rw [List.getElem?_eraseIdx]
    by_cases hlt : q < k
    · refine ⟨q, ?_, fun j m' hj he => ?_⟩
      · show (J.some.eraseIdx k)[q]? = _
        rw [get, if_pos hlt]; exact hq
      · have hj' : (J.some.eraseIdx k)[j]? = some m' := hj
        rw [get] at hj'
        split at hj'
        · exact hu j m' hj' he
        · have := hu (j + 1) m' hj' he; omega
    · refine ⟨q - 1, ?_, fun j m' hj he => ?_⟩
      · show (J.some.eraseIdx k)[q - 1]? = _
        rw [get, if_neg (by omega), show q - 1 + 1 = q by omega]; exact hq
      · have hj' : (J.some.eraseIdx k)[j]? = some m' := hj
        rw [get] at hj'
        split at hj'
        · have := hu j m' hj' he; omega
        · have := hu (j + 1) m' hj' he; omega
theorem Got.setAt {J : Jn} {M2 : Mg} {c2 : List Bool} (k : Nat) (m m' : Ms) (hk : J.some[k]? = some m) (hid : m'.id = m.id) (hne : M2.id ≠ m.id) (h : Got J M2 c2) : Got { J with some := J.some.set k m' } M2 c2 := by
  have get : ∀ j : Nat, j ≠ k → (J.some.set k m')[j]? = J.some[j]? := fun j hj => List.getElem?_set_ne (Ne.symm hj)
  have self : (J.some.set k m')[k]? = some m' := List.getElem?_set_self (List.getElem?_eq_some_iff.1 hk).1
  refine ⟨h.1, fun h0 => ?_, fun h0 => h.2.2.1 h0, fun h0 h1 => ?_⟩
  · obtain ⟨a, b⟩ := h.2.1 h0
    refine ⟨a, fun x hx => ?_⟩
    rcases List.mem_or_eq_of_mem_set hx with hx | rfl
    · exact b x hx
    · rw [hid]; exact hne.symm
  · obtain ⟨a, q, hq, hu⟩ := h.2.2.2 h0 h1
    have hqk : q ≠ k := fun e => by
      subst e
      rw [hk] at hq
      have := Option.some.inj hq
      rw [this] at hne
      exact hne rfl
    refine ⟨a, q, ?_, fun j x hj he => ?_⟩
    · show (J.some.set k m')[q]? = _
      rw [get q hqk]; exact hq
    · have hj' : (J.some.set k m')[j]? = some x := hj
      by_cases hjk : j = k
      · subst hjk
        rw [self] at hj'
        cases hj'
        rw [hid] at he
        exact absurd he.symm hne
      · rw [get j hjk] at hj'
        exact hu j x hj' he
theorem Got.pushed {J : Jn} {M2 : Mg} {c2 : List Bool} (m : Ms) (hne : M2.id ≠ m.id) (h : Got J M2 c2) : Got { J with some := J.some ++ [m] } M2 c2 := by
  refine ⟨h.1, fun h0 => ?_, fun h0 => h.2.2.1 h0, fun h0 h1 => ?_⟩
  · obtain ⟨a, b⟩ := h.2.1 h0
    refine ⟨a, fun x hx => ?_⟩
    rcases List.mem_append.1 hx with hx | hx
    · exact b x hx
    · rw [List.mem_singleton.1 hx]; exact hne.symm
  · obtain ⟨a, q, hq, hu⟩ := h.2.2.2 h0 h1
    have hql := (List.getElem?_eq_some_iff.1 hq).1
    refine ⟨a, q, ?_, fun j x hj he => ?_⟩
    · show (J.some ++ [m])[q]? = _
      rw [List.getElem?_append_left hql]; exact hq
    · have hj' : (J.some ++ [m])[j]? = some x := hj
      by_cases hjl : j < J.some.length
      · rw [List.getElem?_append_left hjl] at hj'; exact hu j x hj' he
      · rw [List.getElem?_append_right (by omega)] at hj'
        have : x = m := by
          have h2 := List.mem_of_getElem? hj'
          exact List.mem_singleton.1 h2
        subst this
        exact absurd he.symm hne
/-- a message that waits at a place: what a part that had not come makes of it. -/
theorem put_St (J : Jn) (M : Mg) (c : List Bool) (i k : Nat) (hc : c.length = M.ps.length) (hi : c[i]? = some false) (hk : J.some[k]? = some (M.ms c)) (hu : ∀ (j : Nat) (m : Ms), J.some[j]? = some m → m.id = M.id → j = k) (hd : M.id ∉ J.done) (hn : J.done.length < J.noted) :
    (putIn J k (M.ms c) (M.pt i)).2 = M.ans (c.set i true) ∧ (putIn J k (M.ms c) (M.pt i)).1.most = J.most ∧ (putIn J k (M.ms c) (M.pt i)).1.noted = J.noted ∧
    (putIn J k (M.ms c) (M.pt i)).1.some.length + (putIn J k (M.ms c) (M.pt i)).1.done.length ≤ J.some.length + J.done.length ∧
    (((c.set i true).count false = 0 → digL M.id M.ps.flatten = M.sum) → Got (putIn J k (M.ms c) (M.pt i)).1 M (c.set i true)) ∧
    ∀ (M2 : Mg) (c2 : List Bool), M2.id ≠ M.id → Got J M2 c2 → Got (putIn J k (M.ms c) (M.pt i)).1 M2 c2 := by
  rw [put_in J M c i k hc hi hk hn]
  have hkl := (List.getElem?_eq_some_iff.1 hk).1
  have h1 := count_set c i hi
  unfold Mg.ans
  by_cases h0 : (c.set i true).count false = 0
  · simp only [if_pos h0]
    by_cases hg : digL M.id M.ps.flatten = M.sum
    · simp only [if_pos hg]
      refine ⟨by trivial, by trivial, by trivial, ?_, fun _ => ⟨by rw [List.length_set]; exact hc, fun h => by omega, fun _ => ?_, fun _ h => absurd h0 h⟩, fun M2 c2 hne hS => ?_⟩
      · show (J.some.eraseIdx k).length + (J.done ++ [M.id]).length ≤ _
        rw [List.length_eraseIdx, if_pos hkl, List.length_append]
        simp; omega
      · show M.id ∈ J.done ++ [M.id]; simp
      · exact Got.erase k _ hk (by exact hne) _ (fun x hx => by
          have : x ≠ M.id := hx
          simp [this]) hS
    · simp only [if_neg hg]
      refine ⟨by trivial, by trivial, by trivial, ?_, fun h => absurd (h h0) hg, fun M2 c2 hne hS => Got.erase k _ hk (by exact hne) _ (fun x hx => Iff.rfl) hS⟩
      show (J.some.eraseIdx k).length + J.done.length ≤ _
      rw [List.length_eraseIdx, if_pos hkl]; omega
  · simp only [if_neg h0]
    refine ⟨by trivial, by trivial, by trivial, ?_, fun _ => ⟨by rw [List.length_set]; exact hc, fun h => by omega, fun h => absurd h h0, fun _ _ => ⟨hd, k, List.getElem?_set_self hkl, fun j m hj he => ?_⟩⟩, fun M2 c2 hne hS => Got.setAt k _ _ hk rfl (by exact hne) hS⟩
    · show (J.some.set k _).length + _ ≤ _
      rw [List.length_set]; omega
    · by_cases hjk : j = k
      · exact hjk
      · have hj' : (J.some.set k (M.ms (c.set i true)))[j]? = some m := hj
        rw [List.getElem?_set_ne (Ne.symm hjk)] at hj'
        exact hu j m hj' he
theorem take_comes (J : Jn) (M : Mg) (c : List Bool) (i : Nat) (h : M.ok) (hs : Got J M c) (hi : c[i]? = some false) (hr : J.some.length < J.most) (hn : J.done.length < J.noted) :
    (takeF J (M.part i)).2 = M.ans (c.set i true) ∧ Nxt J (takeF J (M.part i)).1 M c ∧ (((c.set i true).count false = 0 → digL M.id M.ps.flatten = M.sum) → Got (takeF J (M.part i)).1 M (c.set i true)) := by
  have hlt : i < M.ps.length := by rw [← hs.1]; exact (List.getElem?_eq_some_iff.1 hi).1
  have hp := M.ptOf_ h hlt
  have e1 : (M.pt i).id = M.id := rfl
  have hf : c.count false ≠ 0 := by
    have := (count_set c i hi).1
    omega
  by_cases ht : c.count true = 0
  · obtain ⟨h1, h2⟩ := hs.2.1 ht
    have hcr : c = List.replicate M.ps.length false := by
      have := count_two c
      rw [← hs.1]
      refine List.eq_replicate_of_mem (fun b hb => ?_)
      cases b with
      | false => rfl
      | true => have := List.count_pos_iff.2 hb; omega
    have hT : takeF J (M.part i) = putIn { J with some := J.some ++ [M.ms c] } J.some.length (M.ms c) (M.pt i) := by
      unfold takeF
      rw [if_pos (M.okP_ h hlt), hp, anyId]
      simp only [e1]
      rw [if_neg (by simpa using h1), fstI_no J M.id h2, M.fresh, ← hcr, pushQ_room _ _ _ hr]
      have hl : (J.some ++ [M.ms c]).length - 1 = J.some.length := by simp
      rw [hl]
      split
      · rfl
      · rfl
    rw [hT]
    have hk : (J.some ++ [M.ms c])[J.some.length]? = some (M.ms c) := by simp
    have := put_St { J with some := J.some ++ [M.ms c] } M c i J.some.length hs.1 hi hk (fun j m hj he => by
      have hj' : (J.some ++ [M.ms c])[j]? = some m := hj
      by_cases hjl : j < J.some.length
      · rw [List.getElem?_append_left hjl] at hj'
        exact absurd he (h2 m (List.mem_of_getElem? hj'))
      · have := (List.getElem?_eq_some_iff.1 hj').1
        simp at this; omega) h1 hn
    obtain ⟨a1, a2, a3, a4, a5, a6⟩ := this
    refine ⟨a1, ⟨a2, a3, ?_, fun M2 c2 hne hS => a6 M2 c2 hne (hS.pushed _ hne)⟩, a5⟩
    rw [if_pos ht]
    have e : ({ J with some := J.some ++ [M.ms c] } : Jn).some.length = J.some.length + 1 := by simp
    rw [e] at a4
    have e2 : ({ J with some := J.some ++ [M.ms c] } : Jn).done = J.done := rfl
    rw [e2] at a4
    omega
  · obtain ⟨h1, k, h2, h3⟩ := hs.2.2.2 ht hf
    have hlen : (M.ms c).pcs.length = M.ps.length := by
      show (List.zipWith pick c M.ps).length = _
      rw [List.length_zipWith, hs.1]; omega
    have hT : takeF J (M.part i) = putIn J k (M.ms c) (M.pt i) := by
      unfold takeF
      rw [if_pos (M.okP_ h hlt), hp, anyId]
      simp only [e1]
      rw [if_neg (by simpa using h1), fstI_at J M.id k _ h2 rfl h3]
      simp only [Int.toNat_natCast, h2]
      rw [if_neg (by omega)]
      unfold oldIn
      have hci : ¬ ((M.ms c).came[(M.pt i).at_]? = some true) := by
        show ¬ (c[i]? = some true)
        rw [hi]; simp
      rw [if_pos ⟨rfl, hlen⟩, if_neg hci]
    rw [hT]
    obtain ⟨a1, a2, a3, a4, a5, a6⟩ := put_St J M c i k hs.1 hi h2 h3 h1 hn
    exact ⟨a1, ⟨a2, a3, by rw [if_neg ht]; omega, a6⟩, a5⟩
/-- a message as Cut has it. -/
def mgWith (id d b : List UInt8) : Mg := ⟨id, d, (List.range (cutN b)).map (pieceL b)⟩
theorem mgWith_id (id d b : List UInt8) : (mgWith id d b).id = id := rfl
theorem mgWith_sum (id d b : List UInt8) : (mgWith id d b).sum = d := rfl
theorem mgWith_ps (id d b : List UInt8) : (mgWith id d b).ps = (List.range (cutN b)).map (pieceL b) := rfl
def mgOf (id b : List UInt8) : Mg := mgWith id (digL id b) b
theorem mgOf_id (id b : List UInt8) : (mgOf id b).id = id := by unfold mgOf; exact mgWith_id _ _ _
theorem mgOf_sum (id b : List UInt8) : (mgOf id b).sum = digL id b := by unfold mgOf; exact mgWith_sum _ _ _
theorem mgOf_ps (id b : List UInt8) : (mgOf id b).ps = (List.range (cutN b)).map (pieceL b) := by unfold mgOf; exact mgWith_ps _ _ _
theorem mgOf_len (id b : List UInt8) : (mgOf id b).ps.length = cutN b := by rw [mgOf_ps]; simp
theorem mgOf_flat (id b : List UInt8) : (mgOf id b).ps.flatten = b := by rw [mgOf_ps]; exact pieces_flat b
theorem mgOf_getD (id b : List UInt8) (i : Nat) (hi : i < cutN b) : (mgOf id b).ps.getD i [] = pieceL b i := by
  rw [mgOf_ps, List.getD_eq_getElem?_getD, List.getElem?_map, List.getElem?_range hi]; rfl
theorem mgOf_part (id b : List UInt8) (i : Nat) (hi : i < cutN b) : (mgOf id b).part i = partL id b i := by
  unfold Mg.part partL
  rw [mgOf_getD _ _ _ hi, mgOf_len, mgOf_id, mgOf_sum]
theorem mgOf_ok (id b : List UInt8) (hid : id.length = 8) (hb : b.length ≤ 2048) : (mgOf id b).ok := by
  have hN := cutN_max b hb
  refine ⟨by rw [mgOf_id]; exact hid, by rw [mgOf_sum]; exact digL_length _ _ (by rw [sha_length]; decide), by rw [mgOf_len]; exact hN, fun i s hs => ?_⟩
  have hi : i < cutN b := by rw [← mgOf_len id b]; exact (List.getElem?_eq_some_iff.1 hs).1
  have he : s = pieceL b i := by
    have := mgOf_getD id b i hi
    rw [List.getD_eq_getElem?_getD, hs] at this
    exact this
  subst he
  have hl : (pieceL b i).length = min 200 (b.length - 200 * i) := by unfold pieceL; rw [List.length_take, List.length_drop]
  rw [mgOf_len, hl]
  unfold cutN at hi hN ⊢
  exact ⟨fun h => by omega, fun h => by omega⟩
theorem cutL_parts (id b : List UInt8) : cutL id b = (List.range (mgOf id b).ps.length).map (mgOf id b).part := by
  rw [mgOf_len]
  unfold cutL
  refine List.map_congr_left (fun i hi => ?_)
  rw [mgOf_part id b i (List.mem_range.1 hi)]
theorem Got.new (M : Mg) (a b : Nat) : Got (newJ a b) M (List.replicate M.ps.length false) ∨ M.ps.length = 0 := by
  by_cases h : M.ps.length = 0
  · exact .inr h
  · refine .inl ⟨by simp, fun _ => ⟨by simp [newJ], fun m hm => by simp [newJ] at hm⟩, fun h0 => ?_, fun h0 _ => ?_⟩
    · rw [List.count_replicate] at h0; simp at h0; exact absurd (by rw [h0]; rfl) h
    · rw [List.count_replicate] at h0; simp at h0
theorem Got.start (M : Mg) (hM : M.ok) (a b : Nat) : Got (newJ a b) M (List.replicate M.ps.length false) := (Got.new M a b).resolve_right (by have := hM.n; omega)
theorem ans_ok (M : Mg) (c : List Bool) (h : digL M.id M.ps.flatten = M.sum) : M.ans c = if c.count false = 0 then ⟨M.id, M.ps.flatten, true, 0⟩ else noTk 0 := by unfold Mg.ans; rw [if_pos h]
theorem mgOf_dig (id b : List UInt8) : digL (mgOf id b).id (mgOf id b).ps.flatten = (mgOf id b).sum := by rw [mgOf_flat, mgOf_id, mgOf_sum]
end Go.Proofs.YtlogcgeinbefjaaDoor
namespace Go.Proofs.YtlogcgeinbefjaaDoor
open Go.RowKit Go.Proofs.YtlogcgeinbefjaaDoorW.PrintWords Go.Proofs.YtlogcgeinbefjaaDoorW.PrintLast
set_option linter.unusedSimpArgs false
set_option linter.unusedVariables false
set_option maxRecDepth 20000
/-- a joiner whose blocks lie from B on and are none of F's. -/
structure JW (B : Nat) (w : World) (F : Nat → Prop) (j : Nat) (J : Jn) : Prop where
  a : ∃ vS vN T, JnA B w j vS vN T J ∧ ∀ i, JS j vS vN T i → ¬ F i
  f : ∀ i, F i → i < w.heap.size
  bs : B ≤ w.heap.size
  k : KsAt w
  ks : 1 < B
  ok : ∀ m ∈ J.some, 1 ≤ m.left
/-- what a call leaves: the joiner, all below B, and F's blocks. -/
structure JNext (B : Nat) (w w' : World) (F : Nat → Prop) (j : Nat) (J' : Jn) : Prop where
  j : JW B w' F j J'
  b : Below B w w'
  o : ∀ g, F g → w'.heap[g]? = w.heap[g]?
section
variable {B : Nat} {w w' : World} {F : Nat → Prop} {j : Nat} {J : Jn}
theorem JW.below (h : JW B w F j J) (hb : Below w.heap.size w w') : JW B w' F j J := by
  obtain ⟨vS, vN, T, ha, hn⟩ := h.a
  exact ⟨⟨vS, vN, T, ha.below hb, hn⟩, fun i hi => Nat.lt_of_lt_of_le (h.f i hi) hb.size, Nat.le_trans h.bs hb.size, h.k.below (Nat.lt_of_lt_of_le h.ks h.bs) hb, h.ks, h.ok⟩
/-- a block of the law's own, made behind the joiner. -/
theorem JW.more (h : JW B w F j J) (hb : Below w.heap.size w w') (g : Nat) (hg : w.heap.size ≤ g) (hg2 : g < w'.heap.size) : JW B w' (fun i => i = g ∨ F i) j J := by
  obtain ⟨vS, vN, T, ha, hn⟩ := h.a
  have h2 := h.below hb
  exact ⟨⟨vS, vN, T, ha.below hb, fun i hi => by
    rintro (e | e)
    · have := (ha.lt hi).2; omega
    · exact hn i hi e⟩, fun i hi => by
    rcases hi with rfl | hi
    · exact hg2
    · exact h2.f i hi, h2.bs, h2.k, h2.ks, h2.ok⟩
/-- a block of the law's own is written, or one that is new. -/
theorem JW.wrote (h : JW B w F j J) (hb : Kp F w w') (hF : ∀ i, F i → B ≤ i) : JW B w' F j J := by
  obtain ⟨vS, vN, T, ha, hn⟩ := h.a
  exact ⟨⟨vS, vN, T, ha.kp hb hn, hn⟩, fun i hi => Nat.lt_of_lt_of_le (h.f i hi) hb.size, Nat.le_trans h.bs hb.size, h.k.belowB h.ks (hb.below hF h.bs), h.ks, h.ok⟩
theorem take_jw (h : JW B w F j J) (s : List UInt8) (hs : s.length ≤ 140737488355328) :
    Calls Tryd.prog 15 #[.pointer (some ⟨j, 0, none⟩), .string ⟨s.toArray⟩] w fun e w' => e = .returned (.tuple #[.agg (toldC (takeF J s).2), .bool (takeF J s).2.whole, .int .i64 (takeF J s).2.e]) ∧ JNext B w w' F j (takeF J s).1 := by
  obtain ⟨vS, vN, T, ha, hn⟩ := h.a
  refine (takeJ_any B j vS vN T J s w ha hs h.bs h.k h.ks h.ok).mono ?_
  rintro e w' ⟨he, vS', vN', T', ha', hk, hS⟩
  have hb : Below B w w' := hk.below (fun i hi => (ha.lt hi).1) h.bs
  refine ⟨he, ⟨⟨vS', vN', T', ha', fun i hi => ?_⟩, fun i hi => Nat.lt_of_lt_of_le (h.f i hi) hk.size, Nat.le_trans h.bs hk.size, h.k.belowB h.ks hb, h.ks, takeF_ok J s h.ok⟩, hb, fun g hg => hk.block g (h.f g hg) (fun e => hn g e hg)⟩
  rcases hS i hi with h1 | h1
  · exact hn i h1
  · intro e; have := h.f i e; omega
theorem JW.wait (h : JW B w F j J) : ∃ A c, w.cell? ⟨j, 1, none⟩ = some (.slice A J.some.length c) := by
  obtain ⟨vS, vN, T, ha, hn⟩ := h.a
  obtain ⟨A, c, hv, _, _⟩ := ha.s.form
  have hl : (ptrX T).length = J.some.length := by simp [ptrX, ha.len]
  rw [hl] at hv
  refine ⟨A, c, ?_⟩
  rw [ha.hj.cell 1, ← hv]
  rfl
theorem JW.left (h : JW B w F j J) : J.some.length ≤ J.most ∧ J.done.length ≤ J.noted := by
  obtain ⟨vS, vN, T, ha, hn⟩ := h.a
  exact ha.bd.2.2
end
/-- texts in a slice that lies below B. -/
structure Pts (B : Nat) (w : World) (A : Option Addr) (n c : Nat) (L : List (List UInt8)) : Prop where
  len : n = L.length
  le : n ≤ 9223372036854775807
  cap : n ≤ c
  at_ : 0 < n → ∃ b off, A = some ⟨b, off, none⟩ ∧ b < B ∧ ∀ i s, L[i]? = some s → w.cell? ⟨b, off + i, none⟩ = some (.string ⟨s.toArray⟩)
theorem Pts.below {B : Nat} {w w' : World} {A : Option Addr} {n c : Nat} {L : List (List UInt8)} (h : Pts B w A n c L) (hb : Below B w w') : Pts B w' A n c L :=
  ⟨h.len, h.le, h.cap, fun h0 => by
    obtain ⟨b, off, h1, h2, h3⟩ := h.at_ h0
    exact ⟨b, off, h1, h2, fun i s hs => (hb.cell (p := ⟨b, off + i, none⟩) h2).trans (h3 i s hs)⟩⟩
theorem Win.pts {w : World} {B' : Nat} {v : Value} {L : List (List UInt8)} (h : Win 9 w B' v (cstr L)) : ∃ A c, v = .slice A L.length c ∧ Pts w.heap.size w A L.length c L := by
  obtain ⟨A, c, hv, hc, hc2⟩ := h.form
  rw [cstr_length] at hv hc
  refine ⟨A, c, hv, rfl, Nat.le_trans hc hc2, hc, fun h0 => ?_⟩
  obtain ⟨b, off, cap, hv2, _, hb, _⟩ := h.at_ 0 (by rw [cstr_length]; exact h0)
  have hA : A = some ⟨b, off, none⟩ := by rw [hv] at hv2; injection hv2
  refine ⟨b, off, hA, hb, fun i s hs => ?_⟩
  have hi : i < (cstr L).length := by rw [cstr_length]; exact (List.getElem?_eq_some_iff.1 hs).1
  obtain ⟨b', off', cap', hv3, _, _, hcell⟩ := h.at_ i hi
  rw [hv2] at hv3
  injection hv3 with e1
  injection e1 with e1
  injection e1 with e1 e2
  subst e1; subst e2
  rw [hcell]
  simp [cstr, hs]
theorem Pts.cell {B : Nat} {w : World} {b off n c : Nat} {L : List (List UInt8)} (h : Pts B w (some ⟨b, off, none⟩) n c L) (i : Nat) (s : List UInt8) (hs : L[i]? = some s) : b < B ∧ w.cell? ⟨b, off + i, none⟩ = some (.string ⟨s.toArray⟩) := by
  have h0 : 0 < n := by rw [h.len]; have := (List.getElem?_eq_some_iff.1 hs).1; omega
  obtain ⟨b', off', h1, h2, h3⟩ := h.at_ h0
  injection h1 with h1
  injection h1 with e1 e2
  subst e1; subst e2
  exact ⟨h2, h3 i s hs⟩
theorem Pts.some {B : Nat} {w : World} {A : Option Addr} {n c : Nat} {L : List (List UInt8)} (h : Pts B w A n c L) (h0 : 0 < n) : ∃ b off, A = some ⟨b, off, none⟩ := by
  obtain ⟨b, off, h1, _⟩ := h.at_ h0
  exact ⟨b, off, h1⟩
/-- a new joiner behind parts.New. -/
theorem JW.start {w w' : World} {j a : Nat} (hj : JnA w.heap.size w' j (.slice none 0 0) (.slice none 0 0) [] (newJ a a)) (hb : Below w.heap.size w w') (hk : KsAt w) (hks : 1 < w.heap.size) : JW w.heap.size w' (fun _ => False) j (newJ a a) :=
  ⟨⟨_, _, _, hj, fun _ _ h => h⟩, fun _ h => h.elim, hb.size, hk.below hks hb, hks, fun m hm => by simp [newJ] at hm⟩
end Go.Proofs.YtlogcgeinbefjaaDoor
namespace Go.Proofs.YtlogcgeinbefjaaDoor
open Go.RowKit Go.Proofs.YtlogcgeinbefjaaDoorW.PrintWords Go.Proofs.YtlogcgeinbefjaaDoorW.PrintLast
set_option linter.unusedSimpArgs false
set_option linter.unusedVariables false
set_option maxRecDepth 20000
def idL : List UInt8 := [97, 110, 32, 105, 100, 32, 105, 115]
theorem idL_length : idL.length = 8 := by decide
def zeros (n : Nat) : List UInt8 := List.replicate n 0
theorem zeros_length (n : Nat) : (zeros n).length = n := by simp [zeros]
theorem part_length (id b : List UInt8) (i : Nat) (h : id.length = 8) : (partL id b i).length = 16 + (pieceL b i).length := by
  unfold partL
  simp only [List.length_append, h, List.length_cons, List.length_nil, digL_length id b (by rw [sha_length]; decide)]
theorem cutN_201 : cutN (zeros 201) = 2 := by unfold cutN; rw [zeros_length]; rfl
theorem piece_length (b : List UInt8) (i : Nat) : (pieceL b i).length = min 200 (b.length - 200 * i) := by unfold pieceL; rw [List.length_take, List.length_drop]
theorem cut_201 : (cutL idL (zeros 201)).length = 2 ∧ (cutL idL (zeros 201))[0]? = some ((mgOf idL (zeros 201)).part 0) ∧ (cutL idL (zeros 201))[1]? = some ((mgOf idL (zeros 201)).part 1) ∧ ((mgOf idL (zeros 201)).part 0).length = 216 ∧ ((mgOf idL (zeros 201)).part 1).length = 17 := by
  rw [cutL_parts, mgOf_len, cutN_201]
  refine ⟨by simp, by simp [List.range_succ], by simp [List.range_succ], ?_, ?_⟩
  · rw [mgOf_part _ _ _ (by rw [cutN_201]; decide), part_length _ _ _ idL_length, piece_length, zeros_length]; rfl
  · rw [mgOf_part _ _ _ (by rw [cutN_201]; decide), part_length _ _ _ idL_length, piece_length, zeros_length]; rfl
theorem below_newrow (w : World) (o : Obj) (cs : Array Value) : Below w.heap.size w ((w.alloc o).setRow w.heap.size cs) :=
  below_of_only ((Below.refl _ _).alloc (Nat.le_refl _) _) (only_setRow (only_refl _ _) cs) (Nat.le_refl _) (by simp)
/-- the joiner's two answers. -/
theorem works_tk : ∃ J1, (takeF (newJ 2 2) ((mgOf idL (zeros 201)).part 1)) = (J1, noTk 0) ∧ (takeF J1 ((mgOf idL (zeros 201)).part 0)).2 = ⟨idL, zeros 201, true, 0⟩ := by
  have hM := mgOf_ok idL (zeros 201) idL_length (by rw [zeros_length]; decide)
  have hl : (mgOf idL (zeros 201)).ps.length = 2 := by rw [mgOf_len, cutN_201]
  have hg := Got.start _ hM 2 2
  rw [hl] at hg
  obtain ⟨a1, a2, a3⟩ := take_comes (newJ 2 2) _ _ 1 hM hg (by rfl) (by decide) (by decide)
  have g1 := a3 (fun _ => mgOf_dig _ _)
  have e1 : (List.replicate 2 false).set 1 true = [false, true] := rfl
  rw [e1] at a1 g1
  refine ⟨(takeF (newJ 2 2) ((mgOf idL (zeros 201)).part 1)).1, Prod.ext rfl ?_, ?_⟩
  · rw [a1]; unfold Mg.ans; rw [if_neg (by decide)]
  · have hsum := a2.sum
    have hm := a2.most
    have hn := a2.noted
    have c0 : (List.replicate 2 false).count true = 0 := by decide
    rw [if_pos c0] at hsum
    have hsum' : (takeF (newJ 2 2) ((mgOf idL (zeros 201)).part 1)).1.some.length + (takeF (newJ 2 2) ((mgOf idL (zeros 201)).part 1)).1.done.length ≤ 1 := hsum
    have hm' : (takeF (newJ 2 2) ((mgOf idL (zeros 201)).part 1)).1.most = 2 := hm
    have hn' : (takeF (newJ 2 2) ((mgOf idL (zeros 201)).part 1)).1.noted = 2 := hn
    obtain ⟨b1, _, _⟩ := take_comes _ _ _ 0 hM g1 (by rfl) (by omega) (by omega)
    rw [b1, ans_ok _ _ (mgOf_dig _ _), if_pos (by decide), mgOf_flat, mgOf_id]
set_option maxHeartbeats 3200000 in
theorem works22_any (w : World) (hk : KsAt w) (hks : 1 < w.heap.size) :
    Calls Tryd.prog 12 #[] w fun e w' => e = .returned (.bool true) ∧ Below w.heap.size w w' := by
  obtain ⟨w1, hmk0, hown, hgr⟩ := own_make (B := w.heap.size) (t := 42) elemU8' w .i64 .i64 201 (by decide) (by decide) (Nat.le_refl _)
  have hmk : (Instr.makeSlice 42 (.int .i64 201) (.int .i64 201)).run Tryd.prog w = .ok (.slice (some ⟨w.heap.size, 0, none⟩) 201 201) w1 := hmk0
  have O1 := Lib.hid (show Own 5 w1 w.heap.size (.slice (some ⟨w.heap.size, 0, none⟩) 201 201) (cb (zeros 201)) from hown)
  have B1 := Lib.hid (show Below w.heap.size w w1 from (Below.refl _ _).grown hgr (Nat.le_refl _) (fun k hk => by cases hk))
  have HK1 := Lib.hid (hk.below hks B1.out)
  have HKS := Lib.hid hks
  have HKS1 := Lib.hid (Nat.lt_of_lt_of_le hks B1.out.size)
  have hcv : (convert 42 9 (.slice (some ⟨w.heap.size, 0, none⟩) 201 201)).run Tryd.prog w1 = .ok (.string ⟨(zeros 201).toArray⟩) w1 := my_own_string Tryd.underlying42 Tryd.underlying5 Tryd.underlying9 O1.out
  obtain ⟨J1, t1, t2⟩ := works_tk
  obtain ⟨c1, c2, c3, c4, c5⟩ := cut_201
  have HC := Lib.hid (cut_any idL (zeros 201) w1 idL_length (by rw [zeros_length]; decide) HK1.out HKS1.out)
  obtain ⟨p0, hp0⟩ : ∃ p, Hid ((mgOf idL (zeros 201)).part 0 = p) := ⟨_, Lib.hid rfl⟩
  obtain ⟨p1, hp1⟩ : ∃ p, Hid ((mgOf idL (zeros 201)).part 1 = p) := ⟨_, Lib.hid rfl⟩
  rw [hp0.out] at t2 c2 c4
  rw [hp1.out] at t1 c3 c5
  have T1 := Lib.hid t1
  have T2 := Lib.hid t2
  have C2 := Lib.hid c2
  have C3 := Lib.hid c3
  have C4 := Lib.hid c4
  have C5 := Lib.hid c5
  obtain ⟨L, hL⟩ : ∃ L, Hid (cutL idL (zeros 201) = L) := ⟨_, Lib.hid rfl⟩
  rw [hL.out] at c1 C2 C3 HC
  have C1 := Lib.hid c1
  obtain ⟨zb, hzb⟩ : ∃ z : ByteArray, Hid (⟨(zeros 201).toArray⟩ = z) := ⟨_, Lib.hid rfl⟩
  rw [hzb.out] at hcv HC
  clear hmk0 hown hgr t1 t2 c1 c2 c3 c4 c5 hp0 hp1 hL hk hks
  go_enter Tryd.func12, Tryd.ntmps12
  go_wp2_with fail
  refine HC.out.mono ?_
  rintro e w2 ⟨v, rfl, hW, b2⟩
  obtain ⟨A, c, rfl, hP⟩ := hW.pts
  have hP2 := hP
  rw [C1.out] at hP2 ⊢
  obtain ⟨pb, off, rfl⟩ := hP2.some (by decide)
  have P2 := Lib.hid hP2
  have B2 := Lib.hid b2
  have O2 := Lib.hid (O1.out.below b2)
  have K2 := Lib.hid (HK1.out.below HKS1.out b2)
  have KS2 := Lib.hid (Nat.lt_of_lt_of_le HKS1.out b2.size)
  clear hW hP hP2 b2 O1 hcv hmk C1 HK1
  go_wp2_with fail
  refine (new2_any w2).mono ?_
  rintro e w3 ⟨rfl, hJ, b3⟩
  have J3 := Lib.hid (JW.start hJ b3 K2.out KS2.out)
  have P3 := Lib.hid (P2.out.below b3)
  have B23 := Lib.hid b3
  have B12 := Lib.hid (show Below w.heap.size w w2 from B1.out.trans (B2.out.mono B1.out.size))
  have O2 := O2
  have B3 := Lib.hid (show Below w.heap.size w w3 from (B1.out.trans (B2.out.mono B1.out.size)).trans (b3.mono (Nat.le_trans B1.out.size B2.out.size)))
  have S2 := Lib.hid (show w.heap.size < w2.heap.size by have := (O2.out.lt _ rfl).2; exact this)
  clear hJ b3 K2 KS2 B1 B2
  obtain ⟨j, hj⟩ : ∃ j, Hid (w2.heap.size = j) := ⟨_, Lib.hid rfl⟩
  obtain ⟨pb2, q1⟩ := P3.out.cell 0 p0 C2.out
  obtain ⟨_, q2⟩ := P3.out.cell 1 p1 C3.out
  have Z0 := Lib.hid (show (⟨p0.toArray⟩ : ByteArray).size = 216 from C4.out)
  have Z1 := Lib.hid (show (⟨p1.toArray⟩ : ByteArray).size = 17 from C5.out)
  obtain ⟨x0, X0⟩ : ∃ z : ByteArray, Hid (⟨p0.toArray⟩ = z) := ⟨_, Lib.hid rfl⟩
  obtain ⟨x1, X1⟩ : ∃ z : ByteArray, Hid (⟨p1.toArray⟩ = z) := ⟨_, Lib.hid rfl⟩
  have TK1 := Lib.hid (show Calls Tryd.prog 15 #[.pointer (some ⟨j, 0, none⟩), .string x1] w3 fun e w' => e = .returned (.tuple #[.agg zTold, .bool false, .int .i64 0]) ∧ JNext w2.heap.size w3 w' (fun _ => False) j J1 by
    rw [← hj.out, ← X1.out]
    refine (take_jw J3.out p1 (by rw [C5.out]; decide)).mono ?_
    rintro e w4 ⟨rfl, hN⟩
    rw [T1.out] at hN ⊢
    exact ⟨rfl, hN⟩)
  rw [hj.out]
  rw [X0.out] at q1 Z0
  rw [X1.out] at q2 Z1
  simp only [Nat.add_zero] at q1
  have z0 := Z0.out
  have z1 := Z1.out
  clear pb2
  go_wp2_with fail
  refine TK1.out.mono ?_
  rintro e w4 ⟨rfl, N4⟩
  have J4 := Lib.hid N4.j
  have B4 := Lib.hid N4.b
  clear N4 TK1 z0 z1 q1 q2
  have P4 := Lib.hid (P3.out.below B4.out)
  go_upto_region 7 with (first
    | ((with_reducible refine gate_store (t := 36) (p := 6) (v := .tmp 58) rfl ?_); refine wpList_store_row rfl 36 (.tmp 6) (.tmp 58) rfl w4.heap.size zTold rfl rfl 36 zTold (Blk.new w4 36 zTold) size_told rfl one_ztold ?_))
  refine gworld (fun W => Hid (JW w2.heap.size W (fun _ => False) j J1) ∧ Hid (Below w2.heap.size w2 W)) ⟨Lib.hid (J4.out.below (below_newrow w4 _ _)), Lib.hid ((B23.out.trans B4.out).trans ((below_newrow w4 _ _).mono J4.out.bs))⟩ ?_
  rintro w5 ⟨J5, B5⟩
  have P5 := Lib.hid (P2.out.below B5.out)
  obtain ⟨pb2, q1⟩ := P5.out.cell 0 p0 C2.out
  simp only [Nat.add_zero] at q1
  rw [X0.out] at q1
  have TK2 := Lib.hid (show Calls Tryd.prog 15 #[.pointer (some ⟨j, 0, none⟩), .string x0] w5 fun e w' => e = .returned (.tuple #[.agg #[.string ⟨#[97, 110, 32, 105, 100, 32, 105, 115]⟩, .string zb], .bool true, .int .i64 0]) ∧ JNext w2.heap.size w5 w' (fun _ => False) j (takeF J1 p0).1 by
    rw [← X0.out]
    refine (take_jw J5.out p0 (by rw [C4.out]; decide)).mono ?_
    rintro e w4 ⟨rfl, hN⟩
    rw [T2.out]
    refine ⟨?_, hN⟩
    rw [← hzb.out]
    rfl)
  clear pb2 P5 J4 B4 P4 J3 P3 B23
  go_wp2_with fail
  refine TK2.out.mono ?_
  rintro e w6 ⟨rfl, N6⟩
  have J6 := Lib.hid N6.j
  have B6 := Lib.hid (B5.out.trans N6.b)
  clear N6 TK2 q1 J5 B5
  go_upto_region 8 with (first
    | ((with_reducible refine gate_store (t := 36) (p := 9) (v := .tmp 67) rfl ?_); refine wpList_store_row rfl 36 (.tmp 9) (.tmp 67) rfl w6.heap.size #[.string ⟨#[97, 110, 32, 105, 100, 32, 105, 115]⟩, .string zb] rfl rfl 36 zTold (Blk.new w6 36 zTold) size_told rfl (one_told2 _ _) ?_))
  obtain ⟨g9, hg9⟩ : ∃ g, Hid (w6.heap.size = g) := ⟨_, Lib.hid rfl⟩
  refine gworld (fun W => Hid (Below w2.heap.size w2 W) ∧ Hid (Blk W g9 36 #[.string ⟨#[97, 110, 32, 105, 100, 32, 105, 115]⟩, .string zb])) ⟨Lib.hid (B6.out.trans ((below_newrow w6 _ _).mono J6.out.bs)), Lib.hid (by rw [← hg9.out]; exact (Blk.new w6 36 zTold).setRow _)⟩ ?_
  rintro w7 ⟨B7, M7⟩
  rw [hg9.out]
  have O7 := Lib.hid (O2.out.below B7.out)
  have hcv : (convert 42 9 (.slice (some ⟨w.heap.size, 0, none⟩) 201 201)).run Tryd.prog w7 = .ok (.string ⟨(zeros 201).toArray⟩) w7 := my_own_string Tryd.underlying42 Tryd.underlying5 Tryd.underlying9 O7.out
  rw [hzb.out] at hcv
  have m0 : w7.cell? ⟨g9, 0, none⟩ = some (.string ⟨#[97, 110, 32, 105, 100, 32, 105, 115]⟩) := M7.out.cell 0
  have m1 : w7.cell? ⟨g9, 1, none⟩ = some (.string zb) := M7.out.cell 1
  go_wp2_with fail
  go_ret
  exact ⟨rfl, (B12.out.trans (B7.out.mono (Nat.le_of_lt S2.out)))⟩
end Go.Proofs.YtlogcgeinbefjaaDoor
namespace Go.Proofs.YtlogcgeinbefjaaDoor
open Go.RowKit Go.Proofs.YtlogcgeinbefjaaDoorW.PrintWords Go.Proofs.YtlogcgeinbefjaaDoorW.PrintLast
set_option linter.unusedSimpArgs false
set_option linter.unusedVariables false
set_option maxRecDepth 20000
theorem cutL_length (id b : List UInt8) : (cutL id b).length = cutN b := by simp [cutL]
end Go.Proofs.YtlogcgeinbefjaaDoor
namespace Go.Proofs.YtlogcgeinbefjaaDoor
open Go.RowKit
theorem elemU8 : Elem Tryd.prog 42 5 (.int .u8 0) 1 := ⟨Tryd.underlying42, by kernel_rfl, rfl⟩
end Go.Proofs.YtlogcgeinbefjaaDoor
namespace Go.Proofs.YtlogcgeinbefjaaDoor
set_option linter.unusedSimpArgs false
set_option linter.unusedVariables false

theorem and_shl8 (x : BitVec 32) (b : UInt8) : x <<< 8 &&& u8w b = 0#32 := by
  apply BitVec.eq_of_getLsbD_eq
  intro i hi
  rw [BitVec.getLsbD_and, BitVec.getLsbD_shiftLeft]
  by_cases h : i < 8
  · simp [h]
  · have h1 : (u8w b).getLsbD i = false := by
      unfold u8w
      rw [BitVec.getLsbD_ofNat]
      have h2 : b.toNat < 2 ^ i := Nat.lt_of_lt_of_le b.toNat_lt (Nat.pow_le_pow_right (by decide) (by omega))
      rw [Nat.testBit_lt_two_pow h2]
      simp
    rw [h1]
    simp
theorem shl8_or (x : BitVec 32) (b : UInt8) : x <<< 8 ||| u8w b = x <<< 8 + u8w b := (BitVec.add_eq_or_of_and_eq_zero _ _ (and_shl8 x b)).symm
theorem rr_add (x : BitVec 32) (n : Nat) (h1 : n ≤ 32) : x >>> n + x <<< (32 - n) = rr x n := by
  have hz : x >>> n &&& x <<< (32 - n) = 0#32 := by
    apply BitVec.eq_of_getLsbD_eq
    intro i hi
    rw [BitVec.getLsbD_and, BitVec.getLsbD_shiftLeft, BitVec.getLsbD_ushiftRight]
    by_cases h : i < 32 - n
    · simp [h]
    · rw [BitVec.getLsbD_of_ge x (n + i) (by omega)]
      simp
  rw [BitVec.add_eq_or_of_and_eq_zero _ _ hz, BitVec.or_comm]
  rfl
theorem ch_eq (e f g : BitVec 32) : (e &&& f) ^^^ (~~~e &&& g) = g ^^^ e &&& (f ^^^ g) := by
  apply BitVec.eq_of_getLsbD_eq
  intro i hi
  simp only [BitVec.getLsbD_xor, BitVec.getLsbD_and, BitVec.getLsbD_not, hi, decide_true, Bool.true_and]
  cases e.getLsbD i <;> cases f.getLsbD i <;> cases g.getLsbD i <;> rfl
theorem maj_eq (a b c : BitVec 32) : (a &&& b) ^^^ (a &&& c) ^^^ (b &&& c) = a &&& b ||| c &&& (a ||| b) := by
  apply BitVec.eq_of_getLsbD_eq
  intro i hi
  simp only [BitVec.getLsbD_xor, BitVec.getLsbD_and, BitVec.getLsbD_or]
  cases a.getLsbD i <;> cases b.getLsbD i <;> cases c.getLsbD i <;> rfl

/-- so many bytes as one word. -/
def accW (r : List UInt8) (i : Nat) : Nat → BitVec 32
  | 0 => 0
  | k + 1 => accW r i k <<< 8 + u8w (bd r (i + k))
def firstW (r : List UInt8) : Nat → List (BitVec 32)
  | 0 => []
  | k + 1 => firstW r k ++ [accW r (4 * k) 4]
def grL (L : List (BitVec 32)) : Nat → List (BitVec 32)
  | 0 => L
  | k + 1 => grL L k ++ [wd (grL L k) k + sig0 (wd (grL L k) (k + 1)) + wd (grL L k) (k + 9) + sig1 (wd (grL L k) (k + 14))]
def w64 (r : List UInt8) : List (BitVec 32) := grL (firstW r 16) 48
theorem firstW_length (r : List UInt8) (k : Nat) : (firstW r k).length = k := by
  induction k with
  | zero => rfl
  | succ k ih => simp [firstW, ih]
theorem grL_length (L : List (BitVec 32)) (k : Nat) : (grL L k).length = L.length + k := by
  induction k with
  | zero => rfl
  | succ k ih => simp [grL, ih]; omega
theorem w64_length (r : List UInt8) : (w64 r).length = 64 := by rw [w64, grL_length, firstW_length]
theorem wd_append_left (L M : List (BitVec 32)) (t : Nat) (h : t < L.length) : wd (L ++ M) t = wd L t := by
  simp [wd, List.getD, List.getElem?_append_left h]
theorem wd_append_last (L : List (BitVec 32)) (x : BitVec 32) : wd (L ++ [x]) L.length = x := by
  simp [wd, List.getD]
theorem wd_set_eq (L : List (BitVec 32)) (i : Nat) (x : BitVec 32) (h : i < L.length) : wd (L.set i x) i = x := by
  simp [wd, List.getD, List.getElem?_set, h]
theorem wd_set_ne (L : List (BitVec 32)) (i j : Nat) (x : BitVec 32) (h : i ≠ j) : wd (L.set i x) j = wd L j := by
  simp [wd, List.getD, List.getElem?_set, h]
theorem firstW_wd (r : List UInt8) (n t : Nat) (h : t < n) : wd (firstW r n) t = accW r (4 * t) 4 := by
  induction n with
  | zero => omega
  | succ n ih =>
    by_cases ht : t < n
    · rw [firstW, wd_append_left _ _ _ (by rw [firstW_length]; exact ht), ih ht]
    · obtain rfl : t = n := by omega
      have := wd_append_last (firstW r t) (accW r (4 * t) 4)
      rw [firstW_length] at this
      rw [firstW, this]
theorem grL_wd (L : List (BitVec 32)) (k m t : Nat) (h : t < L.length + k) (hkm : k ≤ m) : wd (grL L m) t = wd (grL L k) t := by
  induction m with
  | zero => obtain rfl : k = 0 := by omega
            rfl
  | succ m ih =>
    by_cases hk : k ≤ m
    · rw [grL, wd_append_left _ _ _ (by rw [grL_length]; omega), ih hk]
    · obtain rfl : k = m + 1 := by omega
      rfl
theorem w64_old (r : List UInt8) (t : Nat) (h : t < 16) : wd (w64 r) t = accW r (4 * t) 4 := by
  rw [w64, grL_wd _ 0 48 t (by rw [firstW_length]; omega) (by omega), grL, firstW_wd r 16 t h]
theorem w64_new (r : List UInt8) (t : Nat) (h : 16 ≤ t) (h2 : t < 64) :
    wd (w64 r) t = wd (w64 r) (t - 16) + sig0 (wd (w64 r) (t - 15)) + wd (w64 r) (t - 7) + sig1 (wd (w64 r) (t - 2)) := by
  obtain ⟨k, rfl⟩ : ∃ k, t = 16 + k := ⟨t - 16, by omega⟩
  have e : ∀ u, u < 16 + k → wd (w64 r) u = wd (grL (firstW r 16) k) u := fun u hu => by
    rw [w64, grL_wd _ k 48 u (by rw [firstW_length]; omega) (by omega)]
  have e0 : wd (w64 r) (16 + k) = wd (grL (firstW r 16) (k + 1)) (16 + k) := by
    rw [w64, grL_wd _ (k + 1) 48 (16 + k) (by rw [firstW_length]; omega) (by omega)]
  have hl : (grL (firstW r 16) k).length = 16 + k := by rw [grL_length, firstW_length]
  have := wd_append_last (grL (firstW r 16) k) (wd (grL (firstW r 16) k) k + sig0 (wd (grL (firstW r 16) k) (k + 1)) + wd (grL (firstW r 16) k) (k + 9) + sig1 (wd (grL (firstW r 16) k) (k + 14)))
  rw [hl] at this
  rw [e0, grL, this, e _ (by omega), e _ (by omega), e _ (by omega), e _ (by omega)]
  rw [show 16 + k - 16 = k by omega, show 16 + k - 15 = k + 1 by omega, show 16 + k - 7 = k + 9 by omega, show 16 + k - 2 = k + 14 by omega]
theorem loadW_wd (r : List UInt8) (k j : Nat) (hj : j < 16) (hk : k ≤ 64) : wd (loadW r k) j = accW r (4 * j) (min 4 (k - 4 * j)) := by
  induction k with
  | zero =>
    rw [show min 4 (0 - 4 * j) = 0 by omega]
    exact (by decide : ∀ j < 16, wd (List.replicate 16 (0 : BitVec 32)) j = 0) j hj
  | succ k ih =>
    have ih := ih (by omega)
    rw [loadW]
    by_cases h : k / 4 = j
    · rw [h, wd_set_eq _ _ _ (by rw [loadW_length]; exact hj), shl8_or, ih, show min 4 (k + 1 - 4 * j) = k - 4 * j + 1 by omega, accW, show min 4 (k - 4 * j) = k - 4 * j by omega, show 4 * j + (k - 4 * j) = k by omega]
    · rw [wd_set_ne _ _ _ _ h, ih]
      congr 1
      omega
/-- the ring holds the last sixteen words. -/
theorem ring_wd (s : R8) (r : List UInt8) (i : Nat) (hi : i ≤ 64) : ∀ t, t < 64 → t < max i 16 → i ≤ t + 16 → wd (rounds s (loadW r 64) i).2 (t % 16) = wd (w64 r) t := by
  induction i with
  | zero =>
    intro t _ ht _
    have ht : t < 16 := by omega
    rw [rounds_zero, Nat.mod_eq_of_lt ht, loadW_wd r 64 t ht (by omega), w64_old r t ht, show min 4 (64 - 4 * t) = 4 by omega]
  | succ i ih =>
    intro t h64 ht hit
    have ih := ih (by omega)
    rw [rounds_succ]
    show wd (atRound (rounds s (loadW r 64) i).2 i) (t % 16) = _
    have hl : (rounds s (loadW r 64) i).2.length = 16 := by rw [rounds_length, loadW_length]
    by_cases h16 : 16 ≤ i
    · rw [atRound, if_pos h16, growW]
      by_cases hti : t = i
      · subst hti
        rw [wd_set_eq _ _ _ (by rw [hl]; omega), w64_new r t h16 h64]
        have a1 := ih (t - 16) (by omega) (by omega) (by omega)
        have a2 := ih (t - 15) (by omega) (by omega) (by omega)
        have a3 := ih (t - 7) (by omega) (by omega) (by omega)
        have a4 := ih (t - 2) (by omega) (by omega) (by omega)
        rw [show (t - 16) % 16 = t % 16 by omega] at a1
        rw [a1, a2, a3, a4]
        generalize wd (w64 r) (t - 16) = x1
        generalize sig0 (wd (w64 r) (t - 15)) = x2
        generalize wd (w64 r) (t - 7) = x3
        generalize sig1 (wd (w64 r) (t - 2)) = x4
        rw [BitVec.add_assoc x1 x2 x3, BitVec.add_assoc x1 (x2 + x3) x4]
      · rw [wd_set_ne _ _ _ _ (by omega)]
        exact ih t h64 (by omega) (by omega)
    · rw [atRound, if_neg h16]
      exact ih t h64 (by omega) (by omega)
def rnds (s : R8) (W : List (BitVec 32)) : Nat → R8
  | 0 => s
  | i + 1 => rnd (rnds s W i) (rndT (rnds s W i) (wd ksL i) (wd W i)) (rndU (rnds s W i))
theorem rnds_eq (s : R8) (r : List UInt8) (i : Nat) (hi : i ≤ 64) : rnds s (w64 r) i = (rounds s (loadW r 64) i).1 := by
  induction i with
  | zero => rfl
  | succ i ih =>
    have h := ring_wd s r (i + 1) hi i (by omega) (by omega) (by omega)
    rw [rounds_succ] at h ⊢
    rw [rnds, ih (by omega), ← h]
theorem mixv_eq (v : List (BitVec 32)) (r : List UInt8) : mixv v r = addTo v (rnds (R8.of v) (w64 r) 64).list 8 := by
  rw [mixv, rnds_eq _ _ _ (Nat.le_refl _)]

/-- a text, and what stands behind it. -/
def padN (l : List UInt8) : Nat := (119 - l.length % 64) % 64
def wholeL (l : List UInt8) : List UInt8 := l ++ (128 :: (List.replicate (padN l) 0 ++ eightL (l.length * 8 % 18446744073709551616)))
theorem wholeL_length (l : List UInt8) : (wholeL l).length = l.length + padN l + 9 ∧ (wholeL l).length % 64 = 0 := by
  have h : (wholeL l).length = l.length + padN l + 9 := by simp [wholeL, eightL_length]; omega
  refine ⟨h, ?_⟩
  rw [h, padN]
  omega
theorem push_nm (s : St) (h : s.ok) (b : UInt8) : (push s b).n = (s.n + 1) % 64 := by
  have := h.2.2
  unfold push
  split
  · simp; omega
  · simp; omega
theorem pushes_nmod (l : List UInt8) : ∀ s : St, s.ok → (pushes s l).n = (s.n + l.length) % 64 := by
  induction l with
  | nil => intro s h; have := h.2.2; simp [pushes]; omega
  | cons b l ih =>
    intro s h
    have := ih (push s b) (push_ok h b)
    rw [push_nm s h b] at this
    show (pushes (push s b) l).n = _
    rw [this, List.length_cons]
    omega
theorem pushes_cons (s : St) (b : UInt8) (l : List UInt8) : pushes s (b :: l) = pushes (push s b) l := rfl
theorem sha_whole (l : List UInt8) : sha l = outL (pushes st0 (wholeL l)).v := by
  have h1 : (push (pushes st0 l) 128).n = (l.length + 1) % 64 := by
    rw [push_nm _ (pushes_ok st0_ok l), pushes_nmod _ _ st0_ok]
    show ((0 + l.length) % 64 + 1) % 64 = _
    omega
  unfold sha finish padZ
  rw [h1, show (120 - (l.length + 1) % 64) % 64 = padN l by rw [padN]; omega, ← pushes_append, wholeL, pushes_append st0 l, pushes_cons]
/-- the eight words behind so many blocks. -/
def vAt (all : List UInt8) (k : Nat) : List (BitVec 32) := (pushes st0 (all.take (64 * k))).v
theorem vAt_zero (all : List UInt8) : vAt all 0 = iv := by simp [vAt, pushes, st0]
theorem vAt_length (all : List UInt8) (k : Nat) : (vAt all k).length = 8 := (pushes_ok st0_ok _).1
theorem vAt_succ (all : List UInt8) (k : Nat) (h : 64 * (k + 1) ≤ all.length) : vAt all (k + 1) = mixv (vAt all k) ((all.drop (64 * k)).take 64) := by
  have e : all.take (64 * (k + 1)) = all.take (64 * k) ++ (all.drop (64 * k)).take 64 := by
    rw [show 64 * (k + 1) = 64 * k + 64 by omega, List.take_add]
  have hn : (pushes st0 (all.take (64 * k))).n = 0 := by
    rw [pushes_nmod _ _ st0_ok, List.length_take, Nat.min_eq_left (by omega)]
    show (0 + 64 * k) % 64 = 0
    omega
  have hl : ((all.drop (64 * k)).take 64).length = 64 := by rw [List.length_take, List.length_drop]; omega
  have hok := pushes_ok st0_ok (all.take (64 * k))
  unfold vAt
  rw [e, pushes_append, pushes_full _ _ hok (by rw [hn, hl])]
  have hr := hok.2.1
  have e2 : (pushes st0 (all.take (64 * k))).r.drop 64 = [] := List.drop_of_length_le (by omega)
  rw [hn, hl]
  show mixv (pushes st0 (all.take (64 * k))).v (List.take 0 _ ++ _ ++ List.drop (0 + 64) _) = _
  rw [List.take_zero, List.nil_append, Nat.zero_add, e2, List.append_nil]
theorem sha_vAt (l : List UInt8) : sha l = outL (vAt (wholeL l) ((wholeL l).length / 64)) := by
  rw [sha_whole, vAt]
  have := (wholeL_length l).2
  rw [show 64 * ((wholeL l).length / 64) = (wholeL l).length by omega, List.take_length]
end Go.Proofs.YtlogcgeinbefjaaDoor
namespace Go.Proofs.YtlogcgeinbefjaaDoor
open Go.RowKit
set_option linter.unusedSimpArgs false
set_option linter.unusedVariables false
set_option maxHeartbeats 400000 in
theorem turn_any (x : BitVec 32) (c : Int) (k : Nat) (hc : c = k) (hk : k ≤ 32) (w : World) :
    Calls Tryd.prog 51 #[.int .u32 (n32 x), .int .i64 c] w fun e w' => e = .returned (.int .u32 (n32 (rr x k))) ∧ w' = w.drew := by
  have h0 : 0 ≤ c := by omega
  have h1 : 0 ≤ 32 - c := by omega
  have h2 : IntKind.i64.wrap (32 - c) = 32 - c := by rw [IntKind.wrap_i64]; omega
  have E1 := v32_shr_var x c k hc hk
  have E2 := v32_shl_var x (32 - c) (32 - k) (by omega) (by omega)
  have E3 := rr_add x k hk
  have hm1 : min c.toNat 32 = c.toNat := by omega
  have hm2 : min (32 - c).toNat 32 = (32 - c).toNat := by omega
  rw [hm1] at E1
  rw [hm2] at E2
  have H3 := Lib.hid E1
  have H4 := Lib.hid E2
  have H5 := Lib.hid E3
  clear E1 E2 E3 hc hk hm1 hm2
  go_enter Tryd.func51, Tryd.ntmps51
  go_wp2_with fail
  go_region
  go_wp2_with fail
  go_ret
  refine ⟨?_, rfl⟩
  rw [← H5.out, ← v32_add, ← H3.out, ← H4.out]
  rfl
theorem ks_any (w : World) :
    Calls Tryd.prog 50 #[] w fun e w' => e = .returned (.slice (some ⟨w.heap.size, 0, none⟩) 64 64) ∧ w' = w.alloc (.cells (wc ksL) 105) := by
  go_enter Tryd.func50, Tryd.ntmps50
  go_wp2_with fail
  go_ret
  exact ⟨rfl, rfl⟩
theorem elemU32 : Elem Tryd.prog 113 105 (.int .u32 0) 4 := ⟨Tryd.underlying113, by kernel_rfl, rfl⟩
theorem cw_length (l : List (BitVec 32)) : (cw l).length = l.length := by simp [cw]
theorem cw_append (a b : List (BitVec 32)) : cw (a ++ b) = cw a ++ cw b := by simp [cw]
theorem cw_get (l : List (BitVec 32)) (i : Nat) (h : i < l.length) : (cw l)[i]? = some (.int .u32 (n32 (wd l i))) := by
  simp [cw, wd, List.getElem?_eq_getElem h]
end Go.Proofs.YtlogcgeinbefjaaDoor
namespace Go.Proofs.YtlogcgeinbefjaaDoor
open Go.RowKit
set_option linter.unusedSimpArgs false
set_option linter.unusedVariables false
def lenOfS : Value → Nat
  | .slice _ n _ => n
  | _ => 0
/-- worlds behind W0 in which two cells of a block hold what they held. -/
def GS (W0 : World) (g i1 i2 : Nat) (x1 x2 : Value) (w' : World) : Prop := Below W0.heap.size W0 w' ∧ w'.cell? ⟨g, i1, none⟩ = some x1 ∧ w'.cell? ⟨g, i2, none⟩ = some x2
theorem GS.drew {W0 w' : World} {g i1 i2 : Nat} {x1 x2 : Value} (h : GS W0 g i1 i2 x1 x2 w') : GS W0 g i1 i2 x1 x2 w'.drew := ⟨h.1.drew, h.2.1, h.2.2⟩
theorem GS.alloc {W0 w' : World} {g i1 i2 : Nat} {x1 x2 : Value} (h : GS W0 g i1 i2 x1 x2 w') (o : Obj) : GS W0 g i1 i2 x1 x2 (w'.alloc o) :=
  ⟨h.1.alloc h.1.size o, (World.cell?_alloc_lt _ _ _ (block_lt_of_cell h.2.1)).trans h.2.1, (World.cell?_alloc_lt _ _ _ (block_lt_of_cell h.2.2)).trans h.2.2⟩
theorem v32_addw (x y : BitVec 32) : IntKind.u32.wrap (n32 x + n32 y) = n32 (x + y) := by rw [← v32_add]; simp [IntKind.wrap, IntKind.bits, IntKind.signed]
theorem turn_lit (x : BitVec 32) (c : Int) (h : 0 ≤ c ∧ c ≤ 32) (w : World) :
    Calls Tryd.prog 51 #[.int .u32 (n32 x), .int .i64 c] w fun e w' => e = .returned (.int .u32 (n32 (rr x c.toNat))) ∧ w' = w.drew := turn_any x c c.toNat (by omega) (by omega) w
def GrRel (w : World) (r : List UInt8) (v3 : Value) (wr : World) : Prop :=
  ∃ (n g c : Nat), 16 ≤ n ∧ n ≤ 64 ∧ v3 = .slice (some ⟨g, 0, none⟩) n c ∧ Own 105 wr w.heap.size v3 (cw (grL (firstW r 16) (n - 16))) ∧ Below w.heap.size w wr
theorem GrRel.mk {w wr : World} {r : List UInt8} {v3 : Value} (h : ∃ (n g c : Nat), 16 ≤ n ∧ n ≤ 64 ∧ v3 = .slice (some ⟨g, 0, none⟩) n c ∧ Own 105 wr w.heap.size v3 (cw (grL (firstW r 16) (n - 16))) ∧ Below w.heap.size w wr) : GrRel w r v3 wr := h
theorem GrRel.out {w wr : World} {r : List UInt8} {v3 : Value} (h : GrRel w r v3 wr) : ∃ (n g c : Nat), 16 ≤ n ∧ n ≤ 64 ∧ v3 = .slice (some ⟨g, 0, none⟩) n c ∧ Own 105 wr w.heap.size v3 (cw (grL (firstW r 16) (n - 16))) ∧ Below w.heap.size w wr := h
section
attribute [local go_sem] v32_add v32_xor v32_and v32_or v32_shr3 v32_shr10 v32_shl8
set_option maxHeartbeats 1600000 in
set_option maxRecDepth 100000 in
theorem grown_any (r : List UInt8) (hr : r.length = 64) (w : World) :
    Calls Tryd.prog 49 #[.string ⟨r.toArray⟩] w fun e w' => (∃ g c, e = .returned (.slice (some ⟨g, 0, none⟩) 64 c) ∧ Own 105 w' w.heap.size (.slice (some ⟨g, 0, none⟩) 64 c) (cw (w64 r))) ∧ Below w.heap.size w w' := by
  have hsz : (⟨r.toArray⟩ : ByteArray).size = 64 := by simp [ByteArray.size, hr]
  go_enter Tryd.func49, Tryd.ntmps49
  go_wp2_with fail
  go_loopw [3, 4, 5, 6] (fun v3 v4 v5 v6 wr => ∃ j : Nat, j ≤ 16 ∧ v4 = .int .i64 (4 * j) ∧ Own 105 wr w.heap.size v3 (cw (firstW r j)) ∧ Below w.heap.size w wr) (fun _ v _ _ _ => 64 - (intOf v).toNat)
  case atStart => exact ⟨0, by omega, rfl, my_own_nil _ _ _, Below.refl _ _⟩
  case round =>
    obtain ⟨j, hj, rfl, hB, hG⟩ := hrel
    have HB := Lib.hid hB
    have HG := Lib.hid hG
    clear hB hG
    by_cases hlt : j < 16
    · have e3 : 0 ≤ 4 * (j : Int) ∧ 4 * (j : Int) < 64 := by omega
      go_wp2_with fail
      go_loopw [5, 6] (fun v5 v6 wx => ∃ k : Nat, k ≤ 4 ∧ v6 = .int .i64 k ∧ v5 = .int .u32 (n32 (accW r (4 * j) k)) ∧ Own 105 wx w.heap.size u3 (cw (firstW r j)) ∧ Below w.heap.size w wx) (fun _ v _ => 4 - (intOf v).toNat)
      case atStart => exact ⟨0, by omega, rfl, rfl, HB.out, HG.out⟩
      case round =>
        obtain ⟨k, hk, rfl, rfl, hB2, hG2⟩ := hrel
        have HB2 := Lib.hid hB2
        have HG2 := Lib.hid hG2
        clear hB2 hG2
        by_cases hlt2 : k < 4
        · obtain ⟨b, hb⟩ : ∃ b, Hid (b = bd r (4 * j + k)) := ⟨_, rfl⟩
          have hbl : ∀ h, (⟨r.toArray⟩ : ByteArray)[4 * j + k]'h = b := fun h => by
            rw [hb.out]
            simp [bd, List.getD, List.getElem?_eq_getElem (show 4 * j + k < r.length by omega)]
            rfl
          have e4 : (4 * (j : Int) + (k : Int)).toNat = 4 * j + k := by omega
          go_wp2_with fail
          go_roundw
          case rel =>
            refine ⟨k + 1, by omega, by go_num, ?_, HB2.out, HG2.out⟩
            rw [accW, ← hb.out, ← v32_add, u8w_n32]
            have h8 : (b.toNat : Int) % 4294967296 = n8 b := by have := b.toNat_lt; show _ = (b.toNat : Int); omega
            simp only [h8]
          case measure => simp [intOf]; omega
        · obtain rfl : k = 4 := by omega
          obtain ⟨x, hx⟩ : ∃ x, Hid (x = accW r (4 * j) 4) := ⟨_, rfl⟩
          rw [← hx.out]
          obtain ⟨A', c', w', hrun, hown, hgr⟩ := own_append (ty := 113) elemU32 (HB2.out.alloc (.cells #[.int .u32 (n32 x)] 105)) wr.heap.size 1 1 [.int .u32 (n32 x)] rfl (fun j u h => new_cells wr _ _ j u h) (by intro u hu; simp at hu; subst hu; rfl) (by rw [cw_length, firstW_length]; omega) (by rw [cw_length, firstW_length]; omega) (by have := HG2.out.size; simp; omega)
          have hfin : Own 105 w' w.heap.size (.slice A' ((cw (firstW r j)).length + 1) c') (cw (firstW r (j + 1))) ∧ Below w.heap.size w w' := by
            rw [firstW, ← hx.out, cw_append _ [x]]
            exact ⟨hown, (HB2.out.alloc _).below_grown (HG2.out.alloc HG2.out.size _) (by have := HG2.out.size; simp; omega) hgr⟩
          have HF := Lib.hid hfin
          have HR := Lib.hid hrun
          clear hown hgr hfin hrun
          go_wp2_with (at_builtin; refine wpList_append_run rfl _ _ _ _ rfl rfl rfl HR.out ?_)
          exact ⟨⟨j + 1, by omega, by rw [show (4 : Int) * (j : Int) + 4 = 4 * ((j + 1 : Nat) : Int) by omega], HF.out.1, HF.out.2⟩, by simp [intOf]; omega⟩
    · obtain rfl : j = 16 := by omega
      rw [show (4 : Int) * ((16 : Nat) : Int) = 64 from rfl]
      go_wp2_with fail
      go_loopw [3, 7, 8, 9] (fun v3 v7 v8 v9 wr => GrRel w r v3 wr) (fun v _ _ _ _ => 64 - lenOfS v)
      case atStart =>
        obtain ⟨A, c, hv⟩ := HB.out.form
        rw [cw_length, firstW_length] at hv
        have hB := HB.out
        rw [hv] at hB
        obtain ⟨g, rfl, _⟩ := hB.at_ (by rw [cw_length, firstW_length]; omega)
        exact GrRel.mk ⟨16, g, c, by omega, by omega, hv, HB.out, HG.out⟩
      case round =>
        obtain ⟨n, g, c, hn1, hn2, rfl, hB3, hG3⟩ := hrel.out
        have hl : (grL (firstW r 16) (n - 16)).length = n := by rw [grL_length, firstW_length]; omega
        by_cases hlt3 : n < 64
        · obtain ⟨M, hM⟩ : ∃ M, Hid (M = grL (firstW r 16) (n - 16)) := ⟨_, rfl⟩
          rw [← hM.out] at hB3 hl
          have c1 := (hB3.cell (n - 15) (by rw [cw_length]; omega)).trans (cw_get M (n - 15) (by omega))
          have c2 := (hB3.cell (n - 2) (by rw [cw_length]; omega)).trans (cw_get M (n - 2) (by omega))
          have c3 := (hB3.cell (n - 16) (by rw [cw_length]; omega)).trans (cw_get M (n - 16) (by omega))
          have c4 := (hB3.cell (n - 7) (by rw [cw_length]; omega)).trans (cw_get M (n - 7) (by omega))
          have HB3 := Lib.hid hB3
          have HG3 := Lib.hid hG3
          have HL := Lib.hid hl
          have e1 : IntKind.i64.wrap ((n : Int) - 15) = ((n - 15 : Nat) : Int) := (IntWalk.i64_in _ (by omega)).trans (by omega)
          have e2 : IntKind.i64.wrap ((n : Int) - 2) = ((n - 2 : Nat) : Int) := (IntWalk.i64_in _ (by omega)).trans (by omega)
          have e3 : IntKind.i64.wrap ((n : Int) - 7) = ((n - 7 : Nat) : Int) := (IntWalk.i64_in _ (by omega)).trans (by omega)
          have e4 : IntKind.i64.wrap ((n : Int) - 16) = ((n - 16 : Nat) : Int) := (IntWalk.i64_in _ (by omega)).trans (by omega)
          have e5 : (0 : Int) ≤ ((n - 16 : Nat) : Int) ∧ ((n - 16 : Nat) : Int) < (n : Int) := by omega
          have e6 : (0 : Int) ≤ ((n - 7 : Nat) : Int) ∧ ((n - 7 : Nat) : Int) < (n : Int) := by omega
          have e7 : n - 16 < n := by omega
          have e8 : n - 7 < n := by omega
          have hgb : w.heap.size ≤ g := (hB3.lt g rfl).1
          clear hB3 hG3 hl
          go_wp2_with fail
          go_quiet (fail)
          go_wp2_with fail
          have G0 : GS w g (n - 16) (n - 7) (.int .u32 (n32 (wd M (n - 16)))) (.int .u32 (n32 (wd M (n - 7)))) (wr.drewN nq) := ⟨below_drewN HG3.out _, c3, c4⟩
          have HG0 := Lib.hid G0
          have hM1 : grL (firstW r 16) (n + 1 - 16) = M ++ [wd M (n - 16) + sig0 (wd M (n - 15)) + wd M (n - 7) + sig1 (wd M (n - 2))] := by
            rw [show n + 1 - 16 = (n - 16) + 1 by omega, grL, ← hM.out, show n - 16 + 1 = n - 15 by omega, show n - 16 + 9 = n - 7 by omega, show n - 16 + 14 = n - 2 by omega]
          have HM1 := Lib.hid hM1
          clear G0 c1 c2 c3 c4 hM1
          go_region_held_law (fun w' => Below w.heap.size w w' ∧ w'.cell? ⟨g, n - 16, none⟩ = some (.int .u32 (n32 (wd M (n - 16)))) ∧ w'.cell? ⟨g, n - 7, none⟩ = some (.int .u32 (n32 (wd M (n - 7)))))
            (first | exact HG0.out.drew | exact GS.drew ‹_› | exact GS.alloc ‹_› _ | exact ⟨hbw, (hcl _ (by rw [cw_length, HL.out]; omega)).trans (cw_get M _ (by rw [HL.out]; omega)), (hcl _ (by rw [cw_length, HL.out]; omega)).trans (cw_get M _ (by rw [HL.out]; omega))⟩)
            (first
              | (go_at_call 51; refine (turn_lit _ _ (by decide) _).mono ?_; rintro e w' ⟨rfl, rfl⟩)
              | (refine step_append_own (e := 105) rfl (.tmp 46) (.tmp 76) 113 rfl elemU32 rfl (Own.alloc (show Own 105 _ w.heap.size _ (cw M) from HB3.out) _) _ 1 1 [_] rfl rfl (fun j u h => new_cells _ _ _ j u h) ?h1 ?hl ?hl2 ?hB ?hK
                 case h1 => (intro u hu; simp at hu; subst hu; rfl)
                 case hl => (rw [cw_length, HL.out]; omega)
                 case hl2 => (rw [cw_length, HL.out]; omega)
                 case hB => (have := HG3.out.size; simp; omega)
                 intro A' c' wz hown hgr hcl
                 have hbw : Below w.heap.size w wz := by
                   refine below_of_only ?_ hgr hgb ?_
                   · apply And.left; assumption
                   · have := HG3.out.size; simp; omega))
          simp only [v32_addw] at hown
          have hfin : Own 105 wz w.heap.size (.slice A' (n + 1) c') (cw (grL (firstW r 16) (n + 1 - 16))) := by
            rw [HM1.out, cw_append M]
            rw [cw_length, HL.out] at hown
            exact hown
          obtain ⟨g', rfl, _⟩ := hfin.at_ (by rw [cw_length, HM1.out, List.length_append, HL.out]; simp)
          rw [cw_length, HL.out]
          have HF := Lib.hid hfin
          have HBW := Lib.hid hbw
          clear hown hfin hbw hcl hgr
          simp only [List.getElem_toArray, List.getElem_cons_succ, List.getElem_cons_zero, Act.put, List.setIfInBounds_toArray, List.set_cons_zero, List.set_cons_succ]
          go_wp2_with fail
          go_roundw
          case rel => exact GrRel.mk ⟨n + 1, g', c', by omega, by omega, rfl, HF.out, HBW.out⟩
          case measure => simp [lenOfS]; omega
        · obtain rfl : n = 64 := by omega
          go_wp2_with fail
          go_ret
          exact ⟨⟨g, c, rfl, hB3⟩, hG3⟩
end
end Go.Proofs.YtlogcgeinbefjaaDoor

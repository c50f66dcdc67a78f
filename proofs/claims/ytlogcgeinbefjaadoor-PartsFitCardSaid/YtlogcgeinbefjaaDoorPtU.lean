/- (Joiner).Take, further. -/
import Derived.Test.YtlogcgeinbefjaaDoorPtT
import Derived.Test.YtlogcgeinbefjaaDoorShelf
namespace Go.Proofs.YtlogcgeinbefjaaDoor
open Go.RowKit Go.Proofs.YtlogcgeinbefjaaDoorW.PrintWords Go.Proofs.YtlogcgeinbefjaaDoorW.PrintLast
set_option linter.unusedSimpArgs false
set_option linter.unusedVariables false
set_option maxRecDepth 20000

set_option maxHeartbeats 1600000 in
theorem take_old_len (B j : Nat) (vS vN : Value) (T : List Pl) (J : Jn) (s : List UInt8) (w : World) (h : JnA B w j vS vN T J) (hs : s.length ≤ 140737488355328) (ho : okP s = true) (hd : J.done.any (fun x => x == (ptOf s).id) = false) (i : Nat) (hi : i < J.some.length) (hF : fstI (fun m : Ms => m.id == (ptOf s).id) J.some = (i : Nat)) (hm0 : ∀ m, J.some[i]? = some m → m.sum = (ptOf s).sum ∧ m.pcs.length ≠ (ptOf s).many) :
    Calls Tryd.prog 15 #[.pointer (some ⟨j, 0, none⟩), .string ⟨s.toArray⟩] w fun e w' => TkOut B j vS vN T (takeF J s).1 (takeF J s).2 w w' e := by
  have HTF := Lib.hid (show takeF J s = (J, noTk 220) by
    unfold takeF
    rw [ho, hd, hF]
    simp only [Int.toNat_natCast, List.getElem?_eq_getElem hi]
    rw [if_pos trivial, if_neg (by simp), if_neg (by omega)]
    unfold oldIn
    rw [if_neg (fun h => (hm0 _ (List.getElem?_eq_getElem hi)).2 h.2)])
  have hp0 := hd
  have hF0 := hF
  have HR := Lib.hid (fun W => read_any s W hs)
  have HO := Lib.hid ho
  obtain ⟨sb, SB⟩ : ∃ t : ByteArray, Hid (⟨s.toArray⟩ = t) := ⟨_, Lib.hid rfl⟩
  rw [SB.out] at HR ⊢
  have HJ := Lib.hid h
  obtain ⟨p, hp⟩ : ∃ p, Hid (ptOf s = p) := ⟨_, Lib.hid rfl⟩
  rw [hp.out] at hp0
  obtain ⟨ib, IB⟩ : ∃ t : ByteArray, Hid (⟨p.id.toArray⟩ = t) := ⟨_, Lib.hid rfl⟩
  obtain ⟨sm, SM⟩ : ∃ t : ByteArray, Hid (⟨p.sum.toArray⟩ = t) := ⟨_, Lib.hid rfl⟩
  obtain ⟨tb, TB⟩ : ∃ t : ByteArray, Hid (⟨p.text.toArray⟩ = t) := ⟨_, Lib.hid rfl⟩
  obtain ⟨A, hA⟩ : ∃ n, Hid (p.at_ = n) := ⟨_, Lib.hid rfl⟩
  obtain ⟨N, hN⟩ : ∃ n, Hid (p.many = n) := ⟨_, Lib.hid rfl⟩
  have HPC := Lib.hid (show ptC p = #[.string ib, .string sm, .string tb, .int .i64 (A : Nat), .int .i64 (N : Nat)] by unfold ptC; rw [IB.out, SM.out, TB.out, hA.out, hN.out])
  have HCON : Hid (∀ W, Win 9 W B vN (cstr J.done) → Calls Tryd.prog 22 #[vN, .string ib] W fun e w' => e = .returned (.bool false) ∧ w' = W) := Lib.hid (fun W hW => by
    have := containsT_any B vN J.done p.id W hW (by have := h.bd; omega)
    rw [IB.out, hp0] at this; exact this)
  have HIX : Hid (∀ (W : World) (g : Nat), JnA B W j vS vN T J → Blk W g 65 #[.string ib, .string sm, .string tb, .int .i64 (A : Nat), .int .i64 (N : Nat)] → Calls Tryd.prog 23 #[vS, .func (Fn.func 24) #[] #[.pointer (some ⟨g, 0, none⟩)]] W fun e w' => e = .returned (.int .i64 (i : Nat)) ∧ Below W.heap.size W w') := Lib.hid (fun W g hW hg => by
    have := indexM_any B j vS vN T J g p.id _ W hW hg (by rw [← IB.out]; rfl)
    rw [← hp.out, hF] at this; exact this)
  rw [hp.out] at hm0
  have HI := Lib.hid hi
  clear h hs ho hd hp0 hF hF0 hi
  go_enter Tryd.func15, Tryd.ntmps15
  go_upto_region 1 with fail
  obtain ⟨gt, hgt⟩ : ∃ g, Hid (w.heap.size = g) := ⟨_, Lib.hid rfl⟩
  refine gworld (fun W => Hid (Blk W gt 36 zTold) ∧ Hid (Below w.heap.size w W)) ⟨Lib.hid (by rw [← hgt.out]; exact Blk.new _ _ _), Lib.hid ((Below.refl _ _).alloc (Nat.le_refl _) _)⟩ ?_
  rintro w0 ⟨M0, B0⟩
  rw [hgt.out]
  go_wp2_with fail
  refine (HR.out w0).mono ?_
  rintro e w1 ⟨b1, cs, hcs, hone, rfl, hcp⟩
  have hcp2 := hcp HO.out
  rw [hp.out, HPC.out] at hcp2
  subst hcp2
  clear hcp
  have HONE := Lib.hid hone
  have B1 := Lib.hid (B0.out.trans (b1.mono B0.out.size))
  have M1 := Lib.hid (M0.out.below b1 M0.out.lt)
  rw [HO.out]
  clear hcs hone b1
  go_upto_region 2 with (first
    | ((with_reducible refine gate_store (t := 65) (p := 7) (v := .tmp 15) rfl ?_); refine wpList_store_row rfl 65 (.tmp 7) (.tmp 15) rfl w1.heap.size #[.string ib, .string sm, .string tb, .int .i64 (A : Nat), .int .i64 (N : Nat)] rfl rfl 65 zPt (Blk.new w1 65 zPt) size_part rfl HONE.out ?_))
  obtain ⟨gp, hgp⟩ : ∃ g, Hid (w1.heap.size = g) := ⟨_, Lib.hid rfl⟩
  refine gworld (fun W => Hid (Blk W gt 36 zTold) ∧ Hid (Blk W gp 65 #[.string ib, .string sm, .string tb, .int .i64 (A : Nat), .int .i64 (N : Nat)]) ∧ Hid (Below w.heap.size w W)) ⟨Lib.hid ((M1.out.alloc (.cells zPt 65)).grown (row := some w1.heap.size) (only_setRow (only_refl _ _) _) (by have := M1.out.lt; intro h; cases h; omega)), Lib.hid (by rw [← hgp.out]; exact (Blk.new w1 65 zPt).setRow _), Lib.hid (below_of_only (B1.out.alloc B1.out.size _) (only_setRow (only_refl _ _) _) B1.out.size (by simp; exact Nat.le_succ_of_le B1.out.size))⟩ ?_
  rintro w2 ⟨M2, P2, B2⟩
  rw [hgp.out]
  have SG := Lib.hid (show w.heap.size ≤ gt ∧ w.heap.size ≤ gp from ⟨by rw [← hgt.out]; exact Nat.le_refl _, by rw [← hgp.out]; exact B1.out.size⟩)
  clear M1 B1 M0 B0 HONE
  have J2 := Lib.hid (HJ.out.below B2.out)
  have n3 : w2.drew.cell? ⟨j, 3, none⟩ = some vN := J2.out.hj.cell 3
  have p0 : w2.drew.cell? ⟨gp, 0, none⟩ = some (.string ib) := P2.out.cell 0
  go_upto_region 4 with fail
  refine start_ (n := 8) (S := fun w' => w'.cell? ⟨j, 3, none⟩ = some vN ∧ w'.cell? ⟨gp, 0, none⟩ = some (.string ib)) (ds := []) #[false, false, false, false, false, false, false, false] (by kernel_rfl) rfl rfl ⟨n3, p0⟩ (fun hHeld => ?_)
  refine with_tabW tk4.tab tk4.bits (fun HT_ HW_ => ?_)
  refine pure_ (i := 0) (N := some 20) (v := ?_) (a' := ?_) #[true, false, false, false, false, false, false, false] rfl rfl (any_of HT_.out (by kernel_rfl)) (fun _ _ _ h => h) (Or.inl ⟨by rfl, ?_⟩) ?_ ?_
  rotate_left
  · intro w'
    go_simp
    try with_reducible rfl
  rotate_left
  · simp only [Act.put, List.setIfInBounds_toArray, List.set_cons_zero, List.set_cons_succ]
    rfl
  refine pure_ (i := 1) (N := some 21) (v := ?_) (a' := ?_) #[true, true, false, false, false, false, false, false] rfl rfl (any_of HT_.out (by kernel_rfl)) (fun _ _ _ h => h) (Or.inl ⟨by rfl, ?_⟩) ?_ ?_
  rotate_left
  · intro w'
    go_simp
    try with_reducible rfl
  rotate_left
  · simp only [Act.put, List.setIfInBounds_toArray, List.set_cons_zero, List.set_cons_succ]
    rfl
  refine pure_ (i := 2) (N := some 22) (v := ?_) (a' := ?_) #[true, true, true, false, false, false, false, false] rfl rfl (any_of HT_.out (by kernel_rfl)) (fun _ _ _ h => h) (Or.inl ⟨by rfl, ?_⟩) ?_ ?_
  rotate_left
  · intro w'
    go_simp
    try with_reducible rfl
  rotate_left
  · simp only [Act.put, List.setIfInBounds_toArray, List.set_cons_zero, List.set_cons_succ]
    rfl
  refine pure_ (i := 3) (N := some 23) (v := ?_) (a' := ?_) #[true, true, true, true, false, false, false, false] rfl rfl (any_of HT_.out (by kernel_rfl)) (fun _ _ _ h => h) (Or.inl ⟨by rfl, ?_⟩) ?_ ?_
  rotate_left
  · intro w'
    go_simp
    try with_reducible rfl
  rotate_left
  · simp only [Act.put, List.setIfInBounds_toArray, List.set_cons_zero, List.set_cons_succ]
    rfl
  refine pure_ (i := 5) (N := some 25) (v := ?_) (a' := ?_) #[true, true, true, true, false, true, false, false] rfl rfl (any_of HT_.out (by kernel_rfl)) (fun _ _ _ h => h) (Or.inl ⟨by rfl, ?_⟩) ?_ ?_
  rotate_left
  · intro w'
    go_simp
    try with_reducible rfl
  rotate_left
  · simp only [Act.put, List.setIfInBounds_toArray, List.set_cons_zero, List.set_cons_succ]
    rfl
  refine take_ (i := 4) (N := some 24) (v := ?_) (a' := ?_) #[true, true, true, true, true, true, false, false] rfl rfl (take_ofW HT_.out HW_.out (by kernel_rfl)) (fun _ _ _ h => h) (Or.inl ⟨by rfl, ?_⟩) hHeld ?_ ?_
  rotate_left
  · rintro w' ⟨s0, s1⟩
    go_simp
    try with_reducible rfl
  rotate_left
  · simp only [Act.put, List.setIfInBounds_toArray, List.set_cons_zero, List.set_cons_succ]
    rfl
  refine take_ (i := 6) (N := some 26) (v := ?_) (a' := ?_) #[true, true, true, true, true, true, true, false] rfl rfl (take_ofW HT_.out HW_.out (by kernel_rfl)) (fun _ _ _ h => h) (Or.inl ⟨by rfl, ?_⟩) hHeld ?_ ?_
  rotate_left
  · rintro w' ⟨s0, s1⟩
    go_simp
    try with_reducible rfl
  rotate_left
  · simp only [Act.put, List.setIfInBounds_toArray, List.set_cons_zero, List.set_cons_succ]
    rfl
  refine one_ (i := 7) (N := some 27) #[true, true, true, true, true, true, true, true] rfl rfl (one_of HT_.out (by kernel_rfl)) (by decide) (fun K hK => ?_)
  refine goes_ Tryd.func22 (by kernel_rfl) rfl #[vN, .string ib] (by rfl) rfl rfl (by first | done | rfl | (simp only [List.map_toArray, List.map_cons, List.map_nil]; done) | (simp only [List.map_toArray, List.map_cons, List.map_nil]; rfl)) ?_
  refine (HCON.out w2.drew (J2.out.n.below (below_drewN (Below.refl _ _) 1))).mono ?_
  rintro e' w4 ⟨rfl, rfl⟩
  refine ⟨_, rfl, ?_⟩
  refine hK.out _ _ (⟨n3, p0⟩) (fun hHeld => ?_)
  clear hK K
  refine norm_ (a' := ?_) ?_ ?_
  rotate_left
  · show Act.put _ (some 27) _ = _
    simp only [Act.put, List.setIfInBounds_toArray, List.set_cons_zero, List.set_cons_succ]
    rfl
  refine done_ (done_of HT_.out (by kernel_rfl)) ?_
  clear HT_ HW_
  have M3 := Lib.hid M2.out.drew
  have P3 := Lib.hid P2.out.drew
  have B3 := Lib.hid (show Below w.heap.size w w2.drew from below_drewN B2.out 1)
  have J3 := Lib.hid (HJ.out.below B3.out)
  have s1 : w2.drew.cell? ⟨j, 1, none⟩ = some vS := J3.out.hj.cell 1
  clear n3 p0
  go_upto_region 6 with fail
  go_wp2_with fail
  refine (HIX.out w2.drew gp J3.out P3.out).mono ?_
  rintro e w4 ⟨rfl, b4⟩
  have B4 := Lib.hid (B3.out.trans (b4.mono B3.out.size))
  have M4 := Lib.hid (M3.out.below b4 M3.out.lt)
  have P4 := Lib.hid (P3.out.below b4 P3.out.lt)
  have J4 := Lib.hid (HJ.out.below B4.out)
  clear b4 s1 J3 B3 P3 M3 J2 B2 P2 M2 HIX HCON HR
  obtain ⟨t, b, off, cap, hT, hv, hcell, hm⟩ := J4.out.at_ i HI.out
  have s1 : w4.cell? ⟨j, 1, none⟩ = some vS := J4.out.hj.cell 1
  rw [hv] at s1
  obtain ⟨n, hn⟩ : ∃ n, Hid (J.some.length = n) := ⟨_, Lib.hid rfl⟩
  rw [hn.out] at s1
  have e1 : 0 ≤ (i : Int) ∧ (i : Int) < (n : Int) := by have := HI.out; have := hn.out; omega
  have HM := Lib.hid hm
  have HT := Lib.hid hT
  obtain ⟨m, hme⟩ : ∃ m, Hid (J.some[i]'HI.out = m) := ⟨_, Lib.hid rfl⟩
  rw [hme.out] at HM
  have HMI : Hid (J.some[i]? = some m) := Lib.hid (by rw [List.getElem?_eq_getElem HI.out, hme.out])
  obtain ⟨mb, MB⟩ : ∃ t : ByteArray, Hid (⟨m.sum.toArray⟩ = t) := ⟨_, Lib.hid rfl⟩
  obtain ⟨L, hL⟩ : ∃ n, Hid (m.pcs.length = n) := ⟨_, Lib.hid rfl⟩
  have xc : ∀ W, Blk W t.x 72 (msC t m) → Blk W t.x 72 #[.string ⟨m.id.toArray⟩, .string mb, .slice (some ⟨t.p, 0, none⟩) L L, .slice (some ⟨t.c, 0, none⟩) L L, .int .i64 m.left] := fun W hW => by rw [← MB.out, ← hL.out]; exact hW
  have X4 := Lib.hid (xc _ HM.out.x)
  clear hT hm hv xc
  go_upto_region 11 with fail
  clear s1 hcell
  have x1 : w4.drew.cell? ⟨t.x, 1, none⟩ = some (.string mb) := X4.out.cell 1
  have x2 : w4.drew.cell? ⟨t.x, 2, none⟩ = some (.slice (some ⟨t.p, 0, none⟩) L L) := X4.out.cell 2
  have p1 : w4.drew.cell? ⟨gp, 1, none⟩ = some (.string sm) := P4.out.cell 1
  have p4 : w4.drew.cell? ⟨gp, 4, none⟩ = some (.int .i64 (N : Nat)) := P4.out.cell 4
  have hm1 := hm0 m HMI.out
  rw [hL.out, hN.out] at hm1
  have he : (mb.toList == sm.toList) = true := by rw [← MB.out, ← SM.out, ByteArray.toList_eq, ByteArray.toList_eq]; exact beq_iff_eq.mpr hm1.1
  have hl : ((L : Int) != (N : Int)) = true := by have := hm1.2; (exact bne_iff_ne.mpr (by omega))
  have HM1 := Lib.hid hm1
  clear hm1
  refine start_ (n := 18) (S := fun w' => w'.cell? ⟨t.x, 1, none⟩ = some (.string mb) ∧ w'.cell? ⟨t.x, 2, none⟩ = some (.slice (some ⟨t.p, 0, none⟩) L L) ∧ w'.cell? ⟨gp, 1, none⟩ = some (.string sm) ∧ w'.cell? ⟨gp, 4, none⟩ = some (.int .i64 (N : Nat))) (ds := []) #[false, false, false, false, false, false, false, false, false, false, false, false, false, false, false, false, false, false] (by kernel_rfl) rfl rfl ⟨x1, x2, p1, p4⟩ (fun hHeld => ?_)
  refine with_tabW tk11.tab tk11.bits (fun HT_ HW_ => ?_)
  refine pure_ (i := 0) (N := some 72) (v := ?_) (a' := ?_) #[true, false, false, false, false, false, false, false, false, false, false, false, false, false, false, false, false, false] rfl rfl (any_of HT_.out (by kernel_rfl)) (fun _ _ _ h => h) (Or.inl ⟨by rfl, ?_⟩) ?_ ?_
  rotate_left
  · intro w'
    go_simp
    try with_reducible rfl
  rotate_left
  · simp only [Act.put, List.setIfInBounds_toArray, List.set_cons_zero, List.set_cons_succ]
    rfl
  refine pure_ (i := 1) (N := some 73) (v := ?_) (a' := ?_) #[true, true, false, false, false, false, false, false, false, false, false, false, false, false, false, false, false, false] rfl rfl (any_of HT_.out (by kernel_rfl)) (fun _ _ _ h => h) (Or.inl ⟨by rfl, ?_⟩) ?_ ?_
  rotate_left
  · intro w'
    go_simp
    try with_reducible rfl
  rotate_left
  · simp only [Act.put, List.setIfInBounds_toArray, List.set_cons_zero, List.set_cons_succ]
    rfl
  refine pure_ (i := 2) (N := some 74) (v := ?_) (a' := ?_) #[true, true, true, false, false, false, false, false, false, false, false, false, false, false, false, false, false, false] rfl rfl (any_of HT_.out (by kernel_rfl)) (fun _ _ _ h => h) (Or.inl ⟨by rfl, ?_⟩) ?_ ?_
  rotate_left
  · intro w'
    go_simp
    try with_reducible rfl
  rotate_left
  · simp only [Act.put, List.setIfInBounds_toArray, List.set_cons_zero, List.set_cons_succ]
    rfl
  refine pure_ (i := 4) (N := some 76) (v := ?_) (a' := ?_) #[true, true, true, false, true, false, false, false, false, false, false, false, false, false, false, false, false, false] rfl rfl (any_of HT_.out (by kernel_rfl)) (fun _ _ _ h => h) (Or.inl ⟨by rfl, ?_⟩) ?_ ?_
  rotate_left
  · intro w'
    go_simp
    try with_reducible rfl
  rotate_left
  · simp only [Act.put, List.setIfInBounds_toArray, List.set_cons_zero, List.set_cons_succ]
    rfl
  refine take_ (i := 3) (N := some 75) (v := ?_) (a' := ?_) #[true, true, true, true, true, false, false, false, false, false, false, false, false, false, false, false, false, false] rfl rfl (take_ofW HT_.out HW_.out (by kernel_rfl)) (fun _ _ _ h => h) (Or.inl ⟨by rfl, ?_⟩) hHeld ?_ ?_
  rotate_left
  · rintro w' ⟨s0, s1, s2, s3⟩
    go_simp
    try with_reducible rfl
  rotate_left
  · simp only [Act.put, List.setIfInBounds_toArray, List.set_cons_zero, List.set_cons_succ]
    rfl
  refine take_ (i := 5) (N := some 77) (v := ?_) (a' := ?_) #[true, true, true, true, true, true, false, false, false, false, false, false, false, false, false, false, false, false] rfl rfl (take_ofW HT_.out HW_.out (by kernel_rfl)) (fun _ _ _ h => h) (Or.inl ⟨by rfl, ?_⟩) hHeld ?_ ?_
  rotate_left
  · rintro w' ⟨s0, s1, s2, s3⟩
    go_simp
    try with_reducible rfl
  rotate_left
  · simp only [Act.put, List.setIfInBounds_toArray, List.set_cons_zero, List.set_cons_succ]
    rfl
  refine pure_ (i := 6) (N := some 78) (v := ?_) (a' := ?_) #[true, true, true, true, true, true, true, false, false, false, false, false, false, false, false, false, false, false] rfl rfl (any_of HT_.out (by kernel_rfl)) (fun _ _ _ h => h) (Or.inl ⟨by rfl, ?_⟩) ?_ ?_
  rotate_left
  · intro w'
    go_simp
    try with_reducible rfl
  rotate_left
  · simp only [Act.put, List.setIfInBounds_toArray, List.set_cons_zero, List.set_cons_succ]
    rfl
  refine pure_ (i := 7) (N := some 79) (v := ?_) (a' := ?_) #[true, true, true, true, true, true, true, true, false, false, false, false, false, false, false, false, false, false] rfl rfl (any_of HT_.out (by kernel_rfl)) (fun _ _ _ h => h) (Or.inl ⟨by rfl, ?_⟩) ?_ ?_
  rotate_left
  · intro w'
    go_simp
    try with_reducible rfl
  rotate_left
  · simp only [Act.put, List.setIfInBounds_toArray, List.set_cons_zero, List.set_cons_succ]
    rfl
  refine pure_ (i := 8) (N := some 80) (v := ?_) (a' := ?_) #[true, true, true, true, true, true, true, true, true, false, false, false, false, false, false, false, false, false] rfl rfl (any_of HT_.out (by kernel_rfl)) (fun _ _ _ h => h) (Or.inl ⟨by rfl, ?_⟩) ?_ ?_
  rotate_left
  · intro w'
    go_simp
    try with_reducible rfl
  rotate_left
  · simp only [Act.put, List.setIfInBounds_toArray, List.set_cons_zero, List.set_cons_succ]
    rfl
  refine pure_ (i := 9) (N := some 81) (v := ?_) (a' := ?_) #[true, true, true, true, true, true, true, true, true, true, false, false, false, false, false, false, false, false] rfl rfl (any_of HT_.out (by kernel_rfl)) (fun _ _ _ h => h) (Or.inl ⟨by rfl, ?_⟩) ?_ ?_
  rotate_left
  · intro w'
    go_simp
    try with_reducible rfl
  rotate_left
  · simp only [Act.put, List.setIfInBounds_toArray, List.set_cons_zero, List.set_cons_succ]
    rfl
  refine pure_ (i := 10) (N := some 82) (v := ?_) (a' := ?_) #[true, true, true, true, true, true, true, true, true, true, true, false, false, false, false, false, false, false] rfl rfl (any_of HT_.out (by kernel_rfl)) (fun _ _ _ h => h) (Or.inl ⟨by rfl, ?_⟩) ?_ ?_
  rotate_left
  · intro w'
    go_simp
    try with_reducible rfl
  rotate_left
  · simp only [Act.put, List.setIfInBounds_toArray, List.set_cons_zero, List.set_cons_succ]
    rfl
  refine pure_ (i := 13) (N := some 85) (v := ?_) (a' := ?_) #[true, true, true, true, true, true, true, true, true, true, true, false, false, true, false, false, false, false] rfl rfl (any_of HT_.out (by kernel_rfl)) (fun _ _ _ h => h) (Or.inl ⟨by rfl, ?_⟩) ?_ ?_
  rotate_left
  · intro w'
    go_simp
    try with_reducible rfl
  rotate_left
  · simp only [Act.put, List.setIfInBounds_toArray, List.set_cons_zero, List.set_cons_succ]
    rfl
  refine take_ (i := 11) (N := some 83) (v := ?_) (a' := ?_) #[true, true, true, true, true, true, true, true, true, true, true, true, false, true, false, false, false, false] rfl rfl (take_ofW HT_.out HW_.out (by kernel_rfl)) (fun _ _ _ h => h) (Or.inl ⟨by rfl, ?_⟩) hHeld ?_ ?_
  rotate_left
  · rintro w' ⟨s0, s1, s2, s3⟩
    go_simp
    try with_reducible rfl
  rotate_left
  · simp only [Act.put, List.setIfInBounds_toArray, List.set_cons_zero, List.set_cons_succ]
    rfl
  refine pure_ (i := 12) (N := some 84) (v := ?_) (a' := ?_) #[true, true, true, true, true, true, true, true, true, true, true, true, true, true, false, false, false, false] rfl rfl (any_of HT_.out (by kernel_rfl)) (fun _ _ _ h => h) (Or.inl ⟨by rfl, ?_⟩) ?_ ?_
  rotate_left
  · intro w'
    go_simp
    try with_reducible rfl
  rotate_left
  · simp only [Act.put, List.setIfInBounds_toArray, List.set_cons_zero, List.set_cons_succ]
    rfl
  refine take_ (i := 14) (N := some 86) (v := ?_) (a' := ?_) #[true, true, true, true, true, true, true, true, true, true, true, true, true, true, true, false, false, false] rfl rfl (take_ofW HT_.out HW_.out (by kernel_rfl)) (fun _ _ _ h => h) (Or.inl ⟨by rfl, ?_⟩) hHeld ?_ ?_
  rotate_left
  · rintro w' ⟨s0, s1, s2, s3⟩
    go_simp
    try with_reducible rfl
  rotate_left
  · simp only [Act.put, List.setIfInBounds_toArray, List.set_cons_zero, List.set_cons_succ]
    rfl
  refine pure_ (i := 15) (N := some 87) (v := ?_) (a' := ?_) #[true, true, true, true, true, true, true, true, true, true, true, true, true, true, true, true, false, false] rfl rfl (any_of HT_.out (by kernel_rfl)) (fun _ _ _ h => h) (Or.inl ⟨by rfl, ?_⟩) ?_ ?_
  rotate_left
  · intro w'
    go_simp
    try with_reducible rfl
  rotate_left
  · simp only [Act.put, List.setIfInBounds_toArray, List.set_cons_zero, List.set_cons_succ]
    rfl
  refine pure_ (i := 16) (N := some 88) (v := ?_) (a' := ?_) #[true, true, true, true, true, true, true, true, true, true, true, true, true, true, true, true, true, false] rfl rfl (any_of HT_.out (by kernel_rfl)) (fun _ _ _ h => h) (Or.inl ⟨by rfl, ?_⟩) ?_ ?_
  rotate_left
  · intro w'
    go_simp
    try with_reducible rfl
  rotate_left
  · simp only [Act.put, List.setIfInBounds_toArray, List.set_cons_zero, List.set_cons_succ]
    rfl
  refine pure_ (i := 17) (N := some 71) (v := ?_) (a' := ?_) #[true, true, true, true, true, true, true, true, true, true, true, true, true, true, true, true, true, true] rfl rfl (any_of HT_.out (by kernel_rfl)) (fun _ _ _ h => h) (Or.inl ⟨by rfl, ?_⟩) ?_ ?_
  rotate_left
  · intro w'
    go_simp
    try with_reducible rfl
  rotate_left
  · simp only [Act.put, List.setIfInBounds_toArray, List.set_cons_zero, List.set_cons_succ]
    rfl
  refine done_ (done_of HT_.out (by kernel_rfl)) ?_
  clear HT_ HW_
  try simp only [hl, Bool.not_false, Bool.not_true]
  have M5 := Lib.hid M4.out.drew
  have P5 := Lib.hid P4.out.drew
  have X5 := Lib.hid X4.out.drew
  have B5 := Lib.hid (show Below w.heap.size w w4.drew from below_drewN B4.out 1)
  clear x1 x2 p1 p4 he hl
  go_wp2_with (first
    | ((with_reducible refine gate_store (t := 36) (p := 4) (v := .tmp 89) rfl ?_); refine wpList_store_row rfl 36 (.tmp 4) (.tmp 89) rfl gt zTold rfl rfl 36 zTold M5.out size_told rfl one_ztold ?_))
  have MF := Lib.hid (M5.out.setRow zTold)
  refine bodyPost_ret (results_ctt rfl _ _ gt 36 _ (0, 0) _ rfl MF.out Tryd.underlying36 rfl rfl) rfl ?_
  rw [HTF.out]
  have BF := below_of_only B5.out (only_setRow (only_refl _ _) zTold) SG.out.1 B5.out.size
  exact ⟨rfl, vS, vN, T, HJ.out.below BF, Kp.of_below BF, fun i h => .inl h⟩
set_option maxHeartbeats 1600000 in
theorem take_old_came (B j : Nat) (vS vN : Value) (T : List Pl) (J : Jn) (s : List UInt8) (w : World) (h : JnA B w j vS vN T J) (hs : s.length ≤ 140737488355328) (ho : okP s = true) (hd : J.done.any (fun x => x == (ptOf s).id) = false) (i : Nat) (hi : i < J.some.length) (hF : fstI (fun m : Ms => m.id == (ptOf s).id) J.some = (i : Nat)) (hm0 : ∀ m, J.some[i]? = some m → (m.sum = (ptOf s).sum ∧ m.pcs.length = (ptOf s).many) ∧ m.came[(ptOf s).at_]? = some true) :
    Calls Tryd.prog 15 #[.pointer (some ⟨j, 0, none⟩), .string ⟨s.toArray⟩] w fun e w' => TkOut B j vS vN T (takeF J s).1 (takeF J s).2 w w' e := by
  have HTF := Lib.hid (show takeF J s = (J, noTk 6) by
    unfold takeF
    rw [ho, hd, hF]
    simp only [Int.toNat_natCast, List.getElem?_eq_getElem hi]
    rw [if_pos trivial, if_neg (by simp), if_neg (by omega)]
    unfold oldIn
    rw [if_pos (hm0 _ (List.getElem?_eq_getElem hi)).1, if_pos (hm0 _ (List.getElem?_eq_getElem hi)).2])
  have hp0 := hd
  have hF0 := hF
  have HR := Lib.hid (fun W => read_any s W hs)
  have HO := Lib.hid ho
  obtain ⟨sb, SB⟩ : ∃ t : ByteArray, Hid (⟨s.toArray⟩ = t) := ⟨_, Lib.hid rfl⟩
  rw [SB.out] at HR ⊢
  have HJ := Lib.hid h
  obtain ⟨p, hp⟩ : ∃ p, Hid (ptOf s = p) := ⟨_, Lib.hid rfl⟩
  rw [hp.out] at hp0
  obtain ⟨ib, IB⟩ : ∃ t : ByteArray, Hid (⟨p.id.toArray⟩ = t) := ⟨_, Lib.hid rfl⟩
  obtain ⟨sm, SM⟩ : ∃ t : ByteArray, Hid (⟨p.sum.toArray⟩ = t) := ⟨_, Lib.hid rfl⟩
  obtain ⟨tb, TB⟩ : ∃ t : ByteArray, Hid (⟨p.text.toArray⟩ = t) := ⟨_, Lib.hid rfl⟩
  obtain ⟨A, hA⟩ : ∃ n, Hid (p.at_ = n) := ⟨_, Lib.hid rfl⟩
  obtain ⟨N, hN⟩ : ∃ n, Hid (p.many = n) := ⟨_, Lib.hid rfl⟩
  have HPC := Lib.hid (show ptC p = #[.string ib, .string sm, .string tb, .int .i64 (A : Nat), .int .i64 (N : Nat)] by unfold ptC; rw [IB.out, SM.out, TB.out, hA.out, hN.out])
  have HCON : Hid (∀ W, Win 9 W B vN (cstr J.done) → Calls Tryd.prog 22 #[vN, .string ib] W fun e w' => e = .returned (.bool false) ∧ w' = W) := Lib.hid (fun W hW => by
    have := containsT_any B vN J.done p.id W hW (by have := h.bd; omega)
    rw [IB.out, hp0] at this; exact this)
  have HIX : Hid (∀ (W : World) (g : Nat), JnA B W j vS vN T J → Blk W g 65 #[.string ib, .string sm, .string tb, .int .i64 (A : Nat), .int .i64 (N : Nat)] → Calls Tryd.prog 23 #[vS, .func (Fn.func 24) #[] #[.pointer (some ⟨g, 0, none⟩)]] W fun e w' => e = .returned (.int .i64 (i : Nat)) ∧ Below W.heap.size W w') := Lib.hid (fun W g hW hg => by
    have := indexM_any B j vS vN T J g p.id _ W hW hg (by rw [← IB.out]; rfl)
    rw [← hp.out, hF] at this; exact this)
  rw [hp.out] at hm0
  have HI := Lib.hid hi
  clear h hs ho hd hp0 hF hF0 hi
  go_enter Tryd.func15, Tryd.ntmps15
  go_upto_region 1 with fail
  obtain ⟨gt, hgt⟩ : ∃ g, Hid (w.heap.size = g) := ⟨_, Lib.hid rfl⟩
  refine gworld (fun W => Hid (Blk W gt 36 zTold) ∧ Hid (Below w.heap.size w W)) ⟨Lib.hid (by rw [← hgt.out]; exact Blk.new _ _ _), Lib.hid ((Below.refl _ _).alloc (Nat.le_refl _) _)⟩ ?_
  rintro w0 ⟨M0, B0⟩
  rw [hgt.out]
  go_wp2_with fail
  refine (HR.out w0).mono ?_
  rintro e w1 ⟨b1, cs, hcs, hone, rfl, hcp⟩
  have hcp2 := hcp HO.out
  rw [hp.out, HPC.out] at hcp2
  subst hcp2
  clear hcp
  have HONE := Lib.hid hone
  have B1 := Lib.hid (B0.out.trans (b1.mono B0.out.size))
  have M1 := Lib.hid (M0.out.below b1 M0.out.lt)
  rw [HO.out]
  clear hcs hone b1
  go_upto_region 2 with (first
    | ((with_reducible refine gate_store (t := 65) (p := 7) (v := .tmp 15) rfl ?_); refine wpList_store_row rfl 65 (.tmp 7) (.tmp 15) rfl w1.heap.size #[.string ib, .string sm, .string tb, .int .i64 (A : Nat), .int .i64 (N : Nat)] rfl rfl 65 zPt (Blk.new w1 65 zPt) size_part rfl HONE.out ?_))
  obtain ⟨gp, hgp⟩ : ∃ g, Hid (w1.heap.size = g) := ⟨_, Lib.hid rfl⟩
  refine gworld (fun W => Hid (Blk W gt 36 zTold) ∧ Hid (Blk W gp 65 #[.string ib, .string sm, .string tb, .int .i64 (A : Nat), .int .i64 (N : Nat)]) ∧ Hid (Below w.heap.size w W)) ⟨Lib.hid ((M1.out.alloc (.cells zPt 65)).grown (row := some w1.heap.size) (only_setRow (only_refl _ _) _) (by have := M1.out.lt; intro h; cases h; omega)), Lib.hid (by rw [← hgp.out]; exact (Blk.new w1 65 zPt).setRow _), Lib.hid (below_of_only (B1.out.alloc B1.out.size _) (only_setRow (only_refl _ _) _) B1.out.size (by simp; exact Nat.le_succ_of_le B1.out.size))⟩ ?_
  rintro w2 ⟨M2, P2, B2⟩
  rw [hgp.out]
  have SG := Lib.hid (show w.heap.size ≤ gt ∧ w.heap.size ≤ gp from ⟨by rw [← hgt.out]; exact Nat.le_refl _, by rw [← hgp.out]; exact B1.out.size⟩)
  clear M1 B1 M0 B0 HONE
  have J2 := Lib.hid (HJ.out.below B2.out)
  have n3 : w2.drew.cell? ⟨j, 3, none⟩ = some vN := J2.out.hj.cell 3
  have p0 : w2.drew.cell? ⟨gp, 0, none⟩ = some (.string ib) := P2.out.cell 0
  go_upto_region 4 with fail
  refine start_ (n := 8) (S := fun w' => w'.cell? ⟨j, 3, none⟩ = some vN ∧ w'.cell? ⟨gp, 0, none⟩ = some (.string ib)) (ds := []) #[false, false, false, false, false, false, false, false] (by kernel_rfl) rfl rfl ⟨n3, p0⟩ (fun hHeld => ?_)
  refine with_tabW tk4.tab tk4.bits (fun HT_ HW_ => ?_)
  refine pure_ (i := 0) (N := some 20) (v := ?_) (a' := ?_) #[true, false, false, false, false, false, false, false] rfl rfl (any_of HT_.out (by kernel_rfl)) (fun _ _ _ h => h) (Or.inl ⟨by rfl, ?_⟩) ?_ ?_
  rotate_left
  · intro w'
    go_simp
    try with_reducible rfl
  rotate_left
  · simp only [Act.put, List.setIfInBounds_toArray, List.set_cons_zero, List.set_cons_succ]
    rfl
  refine pure_ (i := 1) (N := some 21) (v := ?_) (a' := ?_) #[true, true, false, false, false, false, false, false] rfl rfl (any_of HT_.out (by kernel_rfl)) (fun _ _ _ h => h) (Or.inl ⟨by rfl, ?_⟩) ?_ ?_
  rotate_left
  · intro w'
    go_simp
    try with_reducible rfl
  rotate_left
  · simp only [Act.put, List.setIfInBounds_toArray, List.set_cons_zero, List.set_cons_succ]
    rfl
  refine pure_ (i := 2) (N := some 22) (v := ?_) (a' := ?_) #[true, true, true, false, false, false, false, false] rfl rfl (any_of HT_.out (by kernel_rfl)) (fun _ _ _ h => h) (Or.inl ⟨by rfl, ?_⟩) ?_ ?_
  rotate_left
  · intro w'
    go_simp
    try with_reducible rfl
  rotate_left
  · simp only [Act.put, List.setIfInBounds_toArray, List.set_cons_zero, List.set_cons_succ]
    rfl
  refine pure_ (i := 3) (N := some 23) (v := ?_) (a' := ?_) #[true, true, true, true, false, false, false, false] rfl rfl (any_of HT_.out (by kernel_rfl)) (fun _ _ _ h => h) (Or.inl ⟨by rfl, ?_⟩) ?_ ?_
  rotate_left
  · intro w'
    go_simp
    try with_reducible rfl
  rotate_left
  · simp only [Act.put, List.setIfInBounds_toArray, List.set_cons_zero, List.set_cons_succ]
    rfl
  refine pure_ (i := 5) (N := some 25) (v := ?_) (a' := ?_) #[true, true, true, true, false, true, false, false] rfl rfl (any_of HT_.out (by kernel_rfl)) (fun _ _ _ h => h) (Or.inl ⟨by rfl, ?_⟩) ?_ ?_
  rotate_left
  · intro w'
    go_simp
    try with_reducible rfl
  rotate_left
  · simp only [Act.put, List.setIfInBounds_toArray, List.set_cons_zero, List.set_cons_succ]
    rfl
  refine take_ (i := 4) (N := some 24) (v := ?_) (a' := ?_) #[true, true, true, true, true, true, false, false] rfl rfl (take_ofW HT_.out HW_.out (by kernel_rfl)) (fun _ _ _ h => h) (Or.inl ⟨by rfl, ?_⟩) hHeld ?_ ?_
  rotate_left
  · rintro w' ⟨s0, s1⟩
    go_simp
    try with_reducible rfl
  rotate_left
  · simp only [Act.put, List.setIfInBounds_toArray, List.set_cons_zero, List.set_cons_succ]
    rfl
  refine take_ (i := 6) (N := some 26) (v := ?_) (a' := ?_) #[true, true, true, true, true, true, true, false] rfl rfl (take_ofW HT_.out HW_.out (by kernel_rfl)) (fun _ _ _ h => h) (Or.inl ⟨by rfl, ?_⟩) hHeld ?_ ?_
  rotate_left
  · rintro w' ⟨s0, s1⟩
    go_simp
    try with_reducible rfl
  rotate_left
  · simp only [Act.put, List.setIfInBounds_toArray, List.set_cons_zero, List.set_cons_succ]
    rfl
  refine one_ (i := 7) (N := some 27) #[true, true, true, true, true, true, true, true] rfl rfl (one_of HT_.out (by kernel_rfl)) (by decide) (fun K hK => ?_)
  refine goes_ Tryd.func22 (by kernel_rfl) rfl #[vN, .string ib] (by rfl) rfl rfl (by first | done | rfl | (simp only [List.map_toArray, List.map_cons, List.map_nil]; done) | (simp only [List.map_toArray, List.map_cons, List.map_nil]; rfl)) ?_
  refine (HCON.out w2.drew (J2.out.n.below (below_drewN (Below.refl _ _) 1))).mono ?_
  rintro e' w4 ⟨rfl, rfl⟩
  refine ⟨_, rfl, ?_⟩
  refine hK.out _ _ (⟨n3, p0⟩) (fun hHeld => ?_)
  clear hK K
  refine norm_ (a' := ?_) ?_ ?_
  rotate_left
  · show Act.put _ (some 27) _ = _
    simp only [Act.put, List.setIfInBounds_toArray, List.set_cons_zero, List.set_cons_succ]
    rfl
  refine done_ (done_of HT_.out (by kernel_rfl)) ?_
  clear HT_ HW_
  have M3 := Lib.hid M2.out.drew
  have P3 := Lib.hid P2.out.drew
  have B3 := Lib.hid (show Below w.heap.size w w2.drew from below_drewN B2.out 1)
  have J3 := Lib.hid (HJ.out.below B3.out)
  have s1 : w2.drew.cell? ⟨j, 1, none⟩ = some vS := J3.out.hj.cell 1
  clear n3 p0
  go_upto_region 6 with fail
  go_wp2_with fail
  refine (HIX.out w2.drew gp J3.out P3.out).mono ?_
  rintro e w4 ⟨rfl, b4⟩
  have B4 := Lib.hid (B3.out.trans (b4.mono B3.out.size))
  have M4 := Lib.hid (M3.out.below b4 M3.out.lt)
  have P4 := Lib.hid (P3.out.below b4 P3.out.lt)
  have J4 := Lib.hid (HJ.out.below B4.out)
  clear b4 s1 J3 B3 P3 M3 J2 B2 P2 M2 HIX HCON HR
  obtain ⟨t, b, off, cap, hT, hv, hcell, hm⟩ := J4.out.at_ i HI.out
  have s1 : w4.cell? ⟨j, 1, none⟩ = some vS := J4.out.hj.cell 1
  rw [hv] at s1
  obtain ⟨n, hn⟩ : ∃ n, Hid (J.some.length = n) := ⟨_, Lib.hid rfl⟩
  rw [hn.out] at s1
  have e1 : 0 ≤ (i : Int) ∧ (i : Int) < (n : Int) := by have := HI.out; have := hn.out; omega
  have HM := Lib.hid hm
  have HT := Lib.hid hT
  obtain ⟨m, hme⟩ : ∃ m, Hid (J.some[i]'HI.out = m) := ⟨_, Lib.hid rfl⟩
  rw [hme.out] at HM
  have HMI : Hid (J.some[i]? = some m) := Lib.hid (by rw [List.getElem?_eq_getElem HI.out, hme.out])
  obtain ⟨mb, MB⟩ : ∃ t : ByteArray, Hid (⟨m.sum.toArray⟩ = t) := ⟨_, Lib.hid rfl⟩
  obtain ⟨L, hL⟩ : ∃ n, Hid (m.pcs.length = n) := ⟨_, Lib.hid rfl⟩
  have xc : ∀ W, Blk W t.x 72 (msC t m) → Blk W t.x 72 #[.string ⟨m.id.toArray⟩, .string mb, .slice (some ⟨t.p, 0, none⟩) L L, .slice (some ⟨t.c, 0, none⟩) L L, .int .i64 m.left] := fun W hW => by rw [← MB.out, ← hL.out]; exact hW
  have X4 := Lib.hid (xc _ HM.out.x)
  clear hT hm hv xc
  go_upto_region 11 with fail
  clear s1 hcell
  have x1 : w4.drew.cell? ⟨t.x, 1, none⟩ = some (.string mb) := X4.out.cell 1
  have x2 : w4.drew.cell? ⟨t.x, 2, none⟩ = some (.slice (some ⟨t.p, 0, none⟩) L L) := X4.out.cell 2
  have p1 : w4.drew.cell? ⟨gp, 1, none⟩ = some (.string sm) := P4.out.cell 1
  have p4 : w4.drew.cell? ⟨gp, 4, none⟩ = some (.int .i64 (N : Nat)) := P4.out.cell 4
  have hm1 := (hm0 m HMI.out).1
  rw [hL.out, hN.out] at hm1
  have he : (mb.toList == sm.toList) = true := by rw [← MB.out, ← SM.out, ByteArray.toList_eq, ByteArray.toList_eq]; exact beq_iff_eq.mpr hm1.1
  have hl : ((L : Int) != (N : Int)) = false := by have := hm1.2; (rw [bne_eq_false_iff_eq]; omega)
  have HM1 := Lib.hid hm1
  clear hm1
  refine start_ (n := 18) (S := fun w' => w'.cell? ⟨t.x, 1, none⟩ = some (.string mb) ∧ w'.cell? ⟨t.x, 2, none⟩ = some (.slice (some ⟨t.p, 0, none⟩) L L) ∧ w'.cell? ⟨gp, 1, none⟩ = some (.string sm) ∧ w'.cell? ⟨gp, 4, none⟩ = some (.int .i64 (N : Nat))) (ds := []) #[false, false, false, false, false, false, false, false, false, false, false, false, false, false, false, false, false, false] (by kernel_rfl) rfl rfl ⟨x1, x2, p1, p4⟩ (fun hHeld => ?_)
  refine with_tabW tk11.tab tk11.bits (fun HT_ HW_ => ?_)
  refine pure_ (i := 0) (N := some 72) (v := ?_) (a' := ?_) #[true, false, false, false, false, false, false, false, false, false, false, false, false, false, false, false, false, false] rfl rfl (any_of HT_.out (by kernel_rfl)) (fun _ _ _ h => h) (Or.inl ⟨by rfl, ?_⟩) ?_ ?_
  rotate_left
  · intro w'
    go_simp
    try with_reducible rfl
  rotate_left
  · simp only [Act.put, List.setIfInBounds_toArray, List.set_cons_zero, List.set_cons_succ]
    rfl
  refine pure_ (i := 1) (N := some 73) (v := ?_) (a' := ?_) #[true, true, false, false, false, false, false, false, false, false, false, false, false, false, false, false, false, false] rfl rfl (any_of HT_.out (by kernel_rfl)) (fun _ _ _ h => h) (Or.inl ⟨by rfl, ?_⟩) ?_ ?_
  rotate_left
  · intro w'
    go_simp
    try with_reducible rfl
  rotate_left
  · simp only [Act.put, List.setIfInBounds_toArray, List.set_cons_zero, List.set_cons_succ]
    rfl
  refine pure_ (i := 2) (N := some 74) (v := ?_) (a' := ?_) #[true, true, true, false, false, false, false, false, false, false, false, false, false, false, false, false, false, false] rfl rfl (any_of HT_.out (by kernel_rfl)) (fun _ _ _ h => h) (Or.inl ⟨by rfl, ?_⟩) ?_ ?_
  rotate_left
  · intro w'
    go_simp
    try with_reducible rfl
  rotate_left
  · simp only [Act.put, List.setIfInBounds_toArray, List.set_cons_zero, List.set_cons_succ]
    rfl
  refine pure_ (i := 4) (N := some 76) (v := ?_) (a' := ?_) #[true, true, true, false, true, false, false, false, false, false, false, false, false, false, false, false, false, false] rfl rfl (any_of HT_.out (by kernel_rfl)) (fun _ _ _ h => h) (Or.inl ⟨by rfl, ?_⟩) ?_ ?_
  rotate_left
  · intro w'
    go_simp
    try with_reducible rfl
  rotate_left
  · simp only [Act.put, List.setIfInBounds_toArray, List.set_cons_zero, List.set_cons_succ]
    rfl
  refine take_ (i := 3) (N := some 75) (v := ?_) (a' := ?_) #[true, true, true, true, true, false, false, false, false, false, false, false, false, false, false, false, false, false] rfl rfl (take_ofW HT_.out HW_.out (by kernel_rfl)) (fun _ _ _ h => h) (Or.inl ⟨by rfl, ?_⟩) hHeld ?_ ?_
  rotate_left
  · rintro w' ⟨s0, s1, s2, s3⟩
    go_simp
    try with_reducible rfl
  rotate_left
  · simp only [Act.put, List.setIfInBounds_toArray, List.set_cons_zero, List.set_cons_succ]
    rfl
  refine take_ (i := 5) (N := some 77) (v := ?_) (a' := ?_) #[true, true, true, true, true, true, false, false, false, false, false, false, false, false, false, false, false, false] rfl rfl (take_ofW HT_.out HW_.out (by kernel_rfl)) (fun _ _ _ h => h) (Or.inl ⟨by rfl, ?_⟩) hHeld ?_ ?_
  rotate_left
  · rintro w' ⟨s0, s1, s2, s3⟩
    go_simp
    try with_reducible rfl
  rotate_left
  · simp only [Act.put, List.setIfInBounds_toArray, List.set_cons_zero, List.set_cons_succ]
    rfl
  refine pure_ (i := 6) (N := some 78) (v := ?_) (a' := ?_) #[true, true, true, true, true, true, true, false, false, false, false, false, false, false, false, false, false, false] rfl rfl (any_of HT_.out (by kernel_rfl)) (fun _ _ _ h => h) (Or.inl ⟨by rfl, ?_⟩) ?_ ?_
  rotate_left
  · intro w'
    go_simp
    try with_reducible rfl
  rotate_left
  · simp only [Act.put, List.setIfInBounds_toArray, List.set_cons_zero, List.set_cons_succ]
    rfl
  refine pure_ (i := 7) (N := some 79) (v := ?_) (a' := ?_) #[true, true, true, true, true, true, true, true, false, false, false, false, false, false, false, false, false, false] rfl rfl (any_of HT_.out (by kernel_rfl)) (fun _ _ _ h => h) (Or.inl ⟨by rfl, ?_⟩) ?_ ?_
  rotate_left
  · intro w'
    go_simp
    try with_reducible rfl
  rotate_left
  · simp only [Act.put, List.setIfInBounds_toArray, List.set_cons_zero, List.set_cons_succ]
    rfl
  refine pure_ (i := 8) (N := some 80) (v := ?_) (a' := ?_) #[true, true, true, true, true, true, true, true, true, false, false, false, false, false, false, false, false, false] rfl rfl (any_of HT_.out (by kernel_rfl)) (fun _ _ _ h => h) (Or.inl ⟨by rfl, ?_⟩) ?_ ?_
  rotate_left
  · intro w'
    go_simp
    try with_reducible rfl
  rotate_left
  · simp only [Act.put, List.setIfInBounds_toArray, List.set_cons_zero, List.set_cons_succ]
    rfl
  refine pure_ (i := 9) (N := some 81) (v := ?_) (a' := ?_) #[true, true, true, true, true, true, true, true, true, true, false, false, false, false, false, false, false, false] rfl rfl (any_of HT_.out (by kernel_rfl)) (fun _ _ _ h => h) (Or.inl ⟨by rfl, ?_⟩) ?_ ?_
  rotate_left
  · intro w'
    go_simp
    try with_reducible rfl
  rotate_left
  · simp only [Act.put, List.setIfInBounds_toArray, List.set_cons_zero, List.set_cons_succ]
    rfl
  refine pure_ (i := 10) (N := some 82) (v := ?_) (a' := ?_) #[true, true, true, true, true, true, true, true, true, true, true, false, false, false, false, false, false, false] rfl rfl (any_of HT_.out (by kernel_rfl)) (fun _ _ _ h => h) (Or.inl ⟨by rfl, ?_⟩) ?_ ?_
  rotate_left
  · intro w'
    go_simp
    try with_reducible rfl
  rotate_left
  · simp only [Act.put, List.setIfInBounds_toArray, List.set_cons_zero, List.set_cons_succ]
    rfl
  refine pure_ (i := 13) (N := some 85) (v := ?_) (a' := ?_) #[true, true, true, true, true, true, true, true, true, true, true, false, false, true, false, false, false, false] rfl rfl (any_of HT_.out (by kernel_rfl)) (fun _ _ _ h => h) (Or.inl ⟨by rfl, ?_⟩) ?_ ?_
  rotate_left
  · intro w'
    go_simp
    try with_reducible rfl
  rotate_left
  · simp only [Act.put, List.setIfInBounds_toArray, List.set_cons_zero, List.set_cons_succ]
    rfl
  refine take_ (i := 11) (N := some 83) (v := ?_) (a' := ?_) #[true, true, true, true, true, true, true, true, true, true, true, true, false, true, false, false, false, false] rfl rfl (take_ofW HT_.out HW_.out (by kernel_rfl)) (fun _ _ _ h => h) (Or.inl ⟨by rfl, ?_⟩) hHeld ?_ ?_
  rotate_left
  · rintro w' ⟨s0, s1, s2, s3⟩
    go_simp
    try with_reducible rfl
  rotate_left
  · simp only [Act.put, List.setIfInBounds_toArray, List.set_cons_zero, List.set_cons_succ]
    rfl
  refine pure_ (i := 12) (N := some 84) (v := ?_) (a' := ?_) #[true, true, true, true, true, true, true, true, true, true, true, true, true, true, false, false, false, false] rfl rfl (any_of HT_.out (by kernel_rfl)) (fun _ _ _ h => h) (Or.inl ⟨by rfl, ?_⟩) ?_ ?_
  rotate_left
  · intro w'
    go_simp
    try with_reducible rfl
  rotate_left
  · simp only [Act.put, List.setIfInBounds_toArray, List.set_cons_zero, List.set_cons_succ]
    rfl
  refine take_ (i := 14) (N := some 86) (v := ?_) (a' := ?_) #[true, true, true, true, true, true, true, true, true, true, true, true, true, true, true, false, false, false] rfl rfl (take_ofW HT_.out HW_.out (by kernel_rfl)) (fun _ _ _ h => h) (Or.inl ⟨by rfl, ?_⟩) hHeld ?_ ?_
  rotate_left
  · rintro w' ⟨s0, s1, s2, s3⟩
    go_simp
    try with_reducible rfl
  rotate_left
  · simp only [Act.put, List.setIfInBounds_toArray, List.set_cons_zero, List.set_cons_succ]
    rfl
  refine pure_ (i := 15) (N := some 87) (v := ?_) (a' := ?_) #[true, true, true, true, true, true, true, true, true, true, true, true, true, true, true, true, false, false] rfl rfl (any_of HT_.out (by kernel_rfl)) (fun _ _ _ h => h) (Or.inl ⟨by rfl, ?_⟩) ?_ ?_
  rotate_left
  · intro w'
    go_simp
    try with_reducible rfl
  rotate_left
  · simp only [Act.put, List.setIfInBounds_toArray, List.set_cons_zero, List.set_cons_succ]
    rfl
  refine pure_ (i := 16) (N := some 88) (v := ?_) (a' := ?_) #[true, true, true, true, true, true, true, true, true, true, true, true, true, true, true, true, true, false] rfl rfl (any_of HT_.out (by kernel_rfl)) (fun _ _ _ h => h) (Or.inl ⟨by rfl, ?_⟩) ?_ ?_
  rotate_left
  · intro w'
    go_simp
    try with_reducible rfl
  rotate_left
  · simp only [Act.put, List.setIfInBounds_toArray, List.set_cons_zero, List.set_cons_succ]
    rfl
  refine pure_ (i := 17) (N := some 71) (v := ?_) (a' := ?_) #[true, true, true, true, true, true, true, true, true, true, true, true, true, true, true, true, true, true] rfl rfl (any_of HT_.out (by kernel_rfl)) (fun _ _ _ h => h) (Or.inl ⟨by rfl, ?_⟩) ?_ ?_
  rotate_left
  · intro w'
    go_simp
    try with_reducible rfl
  rotate_left
  · simp only [Act.put, List.setIfInBounds_toArray, List.set_cons_zero, List.set_cons_succ]
    rfl
  refine done_ (done_of HT_.out (by kernel_rfl)) ?_
  clear HT_ HW_
  try simp only [hl, Bool.not_false, Bool.not_true]
  have M5 := Lib.hid M4.out.drew
  have P5 := Lib.hid P4.out.drew
  have X5 := Lib.hid X4.out.drew
  have B5 := Lib.hid (show Below w.heap.size w w4.drew from below_drewN B4.out 1)
  clear x1 x2 p1 p4 he hl
  obtain ⟨c5, c5'⟩ : w4.drew.cell? ⟨t.c, A, none⟩ = some (.bool true) ∧ A < L := by
    have hc := hm0 m HMI.out
    obtain ⟨⟨_, hc2⟩, hc3⟩ := hc
    rw [hA.out] at hc3
    have := (HM.out.c.drew.cell A)
    refine ⟨this.trans ?_, ?_⟩
    · simp [bls, hc3]
    · have := (List.getElem?_eq_some_iff.1 hc3).1; have := HM.out.l; have := hL.out; omega
  have x3 : w4.drew.cell? ⟨t.x, 3, none⟩ = some (.slice (some ⟨t.c, 0, none⟩) L L) := X5.out.cell 3
  have p3 : w4.drew.cell? ⟨gp, 3, none⟩ = some (.int .i64 (A : Nat)) := P5.out.cell 3
  have e3 : 0 ≤ (A : Int) ∧ (A : Int) < (L : Int) := by omega
  go_upto_region 13 with fail
  refine start_ (n := 9) (S := fun w' => w'.cell? ⟨t.x, 3, none⟩ = some (.slice (some ⟨t.c, 0, none⟩) L L) ∧ w'.cell? ⟨gp, 3, none⟩ = some (.int .i64 (A : Nat)) ∧ w'.cell? ⟨t.c, A, none⟩ = some (.bool true)) (ds := []) #[false, false, false, false, false, false, false, false, false] (by kernel_rfl) rfl rfl ⟨x3, p3, c5⟩ (fun hHeld => ?_)
  refine with_tabW tk13.tab tk13.bits (fun HT_ HW_ => ?_)
  refine pure_ (i := 0) (N := some 91) (v := ?_) (a' := ?_) #[true, false, false, false, false, false, false, false, false] rfl rfl (any_of HT_.out (by kernel_rfl)) (fun _ _ _ h => h) (Or.inl ⟨by rfl, ?_⟩) ?_ ?_
  rotate_left
  · intro w'
    go_simp
    try with_reducible rfl
  rotate_left
  · simp only [Act.put, List.setIfInBounds_toArray, List.set_cons_zero, List.set_cons_succ]
    rfl
  refine pure_ (i := 1) (N := some 92) (v := ?_) (a' := ?_) #[true, true, false, false, false, false, false, false, false] rfl rfl (any_of HT_.out (by kernel_rfl)) (fun _ _ _ h => h) (Or.inl ⟨by rfl, ?_⟩) ?_ ?_
  rotate_left
  · intro w'
    go_simp
    try with_reducible rfl
  rotate_left
  · simp only [Act.put, List.setIfInBounds_toArray, List.set_cons_zero, List.set_cons_succ]
    rfl
  refine pure_ (i := 2) (N := some 93) (v := ?_) (a' := ?_) #[true, true, true, false, false, false, false, false, false] rfl rfl (any_of HT_.out (by kernel_rfl)) (fun _ _ _ h => h) (Or.inl ⟨by rfl, ?_⟩) ?_ ?_
  rotate_left
  · intro w'
    go_simp
    try with_reducible rfl
  rotate_left
  · simp only [Act.put, List.setIfInBounds_toArray, List.set_cons_zero, List.set_cons_succ]
    rfl
  refine pure_ (i := 4) (N := some 95) (v := ?_) (a' := ?_) #[true, true, true, false, true, false, false, false, false] rfl rfl (any_of HT_.out (by kernel_rfl)) (fun _ _ _ h => h) (Or.inl ⟨by rfl, ?_⟩) ?_ ?_
  rotate_left
  · intro w'
    go_simp
    try with_reducible rfl
  rotate_left
  · simp only [Act.put, List.setIfInBounds_toArray, List.set_cons_zero, List.set_cons_succ]
    rfl
  refine take_ (i := 3) (N := some 94) (v := ?_) (a' := ?_) #[true, true, true, true, true, false, false, false, false] rfl rfl (take_ofW HT_.out HW_.out (by kernel_rfl)) (fun _ _ _ h => h) (Or.inl ⟨by rfl, ?_⟩) hHeld ?_ ?_
  rotate_left
  · rintro w' ⟨s0, s1, s2⟩
    go_simp
    try with_reducible rfl
  rotate_left
  · simp only [Act.put, List.setIfInBounds_toArray, List.set_cons_zero, List.set_cons_succ]
    rfl
  refine take_ (i := 5) (N := some 96) (v := ?_) (a' := ?_) #[true, true, true, true, true, true, false, false, false] rfl rfl (take_ofW HT_.out HW_.out (by kernel_rfl)) (fun _ _ _ h => h) (Or.inl ⟨by rfl, ?_⟩) hHeld ?_ ?_
  rotate_left
  · rintro w' ⟨s0, s1, s2⟩
    go_simp
    try with_reducible rfl
  rotate_left
  · simp only [Act.put, List.setIfInBounds_toArray, List.set_cons_zero, List.set_cons_succ]
    rfl
  refine pure_ (i := 6) (N := some 97) (v := ?_) (a' := ?_) #[true, true, true, true, true, true, true, false, false] rfl rfl (any_of HT_.out (by kernel_rfl)) (fun _ _ _ h => h) (Or.inl ⟨by rfl, ?_⟩) ?_ ?_
  rotate_left
  · intro w'
    go_simp
    try with_reducible rfl
  rotate_left
  · simp only [Act.put, List.setIfInBounds_toArray, List.set_cons_zero, List.set_cons_succ]
    rfl
  refine take_ (i := 7) (N := some 98) (v := ?_) (a' := ?_) #[true, true, true, true, true, true, true, true, false] rfl rfl (take_ofW HT_.out HW_.out (by kernel_rfl)) (fun _ _ _ h => h) (Or.inl ⟨by rfl, ?_⟩) hHeld ?_ ?_
  rotate_left
  · rintro w' ⟨s0, s1, s2⟩
    go_simp
    try with_reducible rfl
  rotate_left
  · simp only [Act.put, List.setIfInBounds_toArray, List.set_cons_zero, List.set_cons_succ]
    rfl
  refine pure_ (i := 8) (N := some 90) (v := ?_) (a' := ?_) #[true, true, true, true, true, true, true, true, true] rfl rfl (any_of HT_.out (by kernel_rfl)) (fun _ _ _ h => h) (Or.inl ⟨by rfl, ?_⟩) ?_ ?_
  rotate_left
  · intro w'
    go_simp
    try with_reducible rfl
  rotate_left
  · simp only [Act.put, List.setIfInBounds_toArray, List.set_cons_zero, List.set_cons_succ]
    rfl
  refine done_ (done_of HT_.out (by kernel_rfl)) ?_
  clear HT_ HW_
  have M6 := Lib.hid M5.out.drew
  have P6 := Lib.hid P5.out.drew
  have X6 := Lib.hid X5.out.drew
  have B6 := Lib.hid (show Below w.heap.size w w4.drew.drew from below_drewN B5.out 1)
  go_wp2_with (first
    | ((with_reducible refine gate_store (t := 36) (p := 4) (v := .tmp 99) rfl ?_); refine wpList_store_row rfl 36 (.tmp 4) (.tmp 99) rfl gt zTold rfl rfl 36 zTold M6.out size_told rfl one_ztold ?_))
  have MF := Lib.hid (M6.out.setRow zTold)
  refine bodyPost_ret (results_ctt rfl _ _ gt 36 _ (0, 0) _ rfl MF.out Tryd.underlying36 rfl rfl) rfl ?_
  rw [HTF.out]
  have BF := below_of_only B6.out (only_setRow (only_refl _ _) zTold) SG.out.1 B6.out.size
  exact ⟨rfl, vS, vN, T, HJ.out.below BF, Kp.of_below BF, fun i h => .inl h⟩
end Go.Proofs.YtlogcgeinbefjaaDoor

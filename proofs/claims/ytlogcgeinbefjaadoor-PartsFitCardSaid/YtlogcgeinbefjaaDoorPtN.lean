/- (Joiner).Take, further. -/
import Derived.Test.YtlogcgeinbefjaaDoorPtV
import Derived.Test.YtlogcgeinbefjaaDoorShelf
namespace Go.Proofs.YtlogcgeinbefjaaDoor
open Go.RowKit Go.Proofs.YtlogcgeinbefjaaDoorW.PrintWords Go.Proofs.YtlogcgeinbefjaaDoorW.PrintLast
set_option linter.unusedSimpArgs false
set_option linter.unusedVariables false
set_option maxRecDepth 20000

theorem Kp.trans2 {S S' : Nat → Prop} {w w' w'' : World} (h : Kp S w w') (k : Kp S' w' w'') (hs : ∀ i, i < w.heap.size → S' i → S i) : Kp S w w'' :=
  ⟨k.os.trans h.os, k.tape.trans h.tape, k.output.trans h.output, Nat.le_trans h.size k.size, fun i hi hn => (k.block i (Nat.lt_of_lt_of_le hi h.size) (fun e => hn (hs i hi e))).trans (h.block i hi hn)⟩
theorem Blk.newAt (w : World) (t : TypeId) (cs : Array Value) (g : Nat) (h : g = w.heap.size) : Blk (w.alloc (.cells cs t)) g t cs := h ▸ Blk.new w t cs
theorem pushQ_last {α : Type} (m : Nat) (xs : List α) (x : α) : (pushQ m xs x)[(pushQ m xs x).length - 1]? = some x := by
  unfold pushQ
  rw [List.length_append, List.length_singleton, Nat.add_sub_cancel, List.getElem?_append_right (Nat.le_refl _), Nat.sub_self]
  rfl
theorem step_make_run {P : Program} {w w' : World} {ops : Array Oper} {o : Oper} {a : Act} {K : Act → World → Prop} {Q : Exit → Act → World → Prop} {E : Prop} {v sv xv : Value} (hgd : o.guard = none) (s x : Operand) (t : TypeId)
    (ho : o.op = .makeSlice t s x) (hs : a.eval s = sv) (hx : a.eval x = xv) (hrun : (Instr.makeSlice t sv xv).run P w = .ok v w') (h : K (a.put o.dst v) w') : if Region.wanted o (yielded ops a.tmps) = true then Oper.wp P o a w K Q else E := by
  have hw : Region.wanted o (yielded ops a.tmps) = true := by simp [Region.wanted, hgd]
  rw [if_pos hw]
  unfold Oper.wp execOp
  simp only [ho, Sem.run_bind, Sem.run_pure, Result.andThen_ok, hs, hx, hrun]
  exact h
theorem elemBo : Elem Tryd.prog 30 4 (.bool false) 1 := ⟨Tryd.underlying30, by kernel_rfl, by rfl⟩
theorem make_exact {P : Program} {t e : TypeId} {z : Value} {by_ : Nat} (he : Elem P t e z by_) (n : Nat) (hn : by_ * n ≤ 281474976710656) (hl : n ≤ 9223372036854775807) (W : World) (cs : Array Value) (hcs : (madeCells z.cells n) = cs) :
    (Instr.makeSlice t (.int .i64 (n : Nat)) (.int .i64 (n : Nat))).run P W = .ok (.slice (some ⟨W.heap.size, 0, none⟩) n n) (W.alloc (.cells cs e)) := by
  obtain ⟨i, hi, hz, hs, hby⟩ := info_parts he.2.1
  have := run_make (P := P) W t e i z he.1 hi hz .i64 .i64 (n : Int) (n : Int) (by omega) (by omega) (by rw [hby, ← Int.natCast_mul]; omega) (by omega)
  rw [Int.toNat_natCast, hs, Nat.mul_one, hcs] at this
  exact this
theorem mk_str (N : Nat) (hN : N ≤ 11) (W : World) : (Instr.makeSlice 22 (.int .i64 (N : Nat)) (.int .i64 (N : Nat))).run Tryd.prog W = .ok (.slice (some ⟨W.heap.size, 0, none⟩) N N) (W.alloc (.cells (cstr (List.replicate N [])).toArray 9)) :=
  make_exact elemTx N (by omega) (by omega) W _ (by
    apply Array.toList_inj.1
    have := toList_madeCells_one (.string ⟨#[]⟩) N
    rw [show (Value.string ⟨#[]⟩).cells = #[Value.string ⟨#[]⟩] from rfl]
    simpa [cstr] using this)
theorem mk_bool (N : Nat) (hN : N ≤ 11) (W : World) : (Instr.makeSlice 30 (.int .i64 (N : Nat)) (.int .i64 (N : Nat))).run Tryd.prog W = .ok (.slice (some ⟨W.heap.size, 0, none⟩) N N) (W.alloc (.cells (bls (List.replicate N false)).toArray 4)) :=
  make_exact elemBo N (by omega) (by omega) W _ (by
    apply Array.toList_inj.1
    have := toList_madeCells_one (.bool false) N
    rw [show (Value.bool false).cells = #[Value.bool false] from rfl]
    simpa [bls] using this)
theorem okP_many (s : List UInt8) (h : okP s = true) : 1 ≤ (ptOf s).many ∧ (ptOf s).many ≤ 11 ∧ (ptOf s).at_ < (ptOf s).many := by
  unfold okP at h
  simp only [Bool.and_eq_true, decide_eq_true_eq] at h
  exact h.1.2
set_option maxHeartbeats 1600000 in
theorem take_new (B j : Nat) (vS0 vN : Value) (T0 : List Pl) (J0 : Jn) (s : List UInt8) (w : World) (h : JnA B w j vS0 vN T0 J0) (hs : s.length ≤ 140737488355328) (ho : okP s = true) (hd : J0.done.any (fun x => x == (ptOf s).id) = false) (hF : fstI (fun m : Ms => m.id == (ptOf s).id) J0.some = -1) (hB : B ≤ w.heap.size) (hk : KsAt w) (hks : 1 < B) :
    Calls Tryd.prog 15 #[.pointer (some ⟨j, 0, none⟩), .string ⟨s.toArray⟩] w fun e w' => TkOut B j vS0 vN T0 (takeF J0 s).1 (takeF J0 s).2 w w' e := by
  have hp0 := hd
  have hF0 := hF
  have HR := Lib.hid (fun W => read_any s W hs)
  have HO := Lib.hid ho
  obtain ⟨sb, SB⟩ : ∃ t : ByteArray, Hid (⟨s.toArray⟩ = t) := ⟨_, Lib.hid rfl⟩
  rw [SB.out] at HR ⊢
  have HJ := Lib.hid h
  obtain ⟨p, hp⟩ : ∃ p, Hid (ptOf s = p) := ⟨_, Lib.hid rfl⟩
  rw [hp.out] at hp0
  obtain ⟨ib, IB⟩ : ∃ t : ByteArray, Hid (⟨p.id.toArray⟩ = t) := ⟨_, Lib.hid rfl⟩
  obtain ⟨sm, SM⟩ : ∃ t : ByteArray, Hid (⟨p.sum.toArray⟩ = t) := ⟨_, Lib.hid rfl⟩
  obtain ⟨tb, TB⟩ : ∃ t : ByteArray, Hid (⟨p.text.toArray⟩ = t) := ⟨_, Lib.hid rfl⟩
  obtain ⟨A, hA⟩ : ∃ n, Hid (p.at_ = n) := ⟨_, Lib.hid rfl⟩
  obtain ⟨N, hN⟩ : ∃ n, Hid (p.many = n) := ⟨_, Lib.hid rfl⟩
  have HPC := Lib.hid (show ptC p = #[.string ib, .string sm, .string tb, .int .i64 (A : Nat), .int .i64 (N : Nat)] by unfold ptC; rw [IB.out, SM.out, TB.out, hA.out, hN.out])
  have HCON : Hid (∀ W, Win 9 W B vN (cstr J0.done) → Calls Tryd.prog 22 #[vN, .string ib] W fun e w' => e = .returned (.bool false) ∧ w' = W) := Lib.hid (fun W hW => by
    have := containsT_any B vN J0.done p.id W hW (by have := h.bd; omega)
    rw [IB.out, hp0] at this; exact this)
  have HIX : Hid (∀ (W : World) (g : Nat), JnA B W j vS0 vN T0 J0 → Blk W g 65 #[.string ib, .string sm, .string tb, .int .i64 (A : Nat), .int .i64 (N : Nat)] → Calls Tryd.prog 23 #[vS0, .func (Fn.func 24) #[] #[.pointer (some ⟨g, 0, none⟩)]] W fun e w' => e = .returned (.int .i64 (-1)) ∧ Below W.heap.size W w') := Lib.hid (fun W g hW hg => by
    have := indexM_any B j vS0 vN T0 J0 g p.id _ W hW hg (by rw [← IB.out]; rfl)
    rw [← hp.out, hF] at this; exact this)
  have HB := Lib.hid hB
  have HK := Lib.hid hk
  have HKS := Lib.hid hks
  have HTF0 := Lib.hid (show takeF J0 s = putIn { J0 with some := pushQ J0.most J0.some (freshM p) } ((pushQ J0.most J0.some (freshM p)).length - 1) (freshM p) p by
    unfold takeF
    rw [ho, hd, hF, hp.out]
    rw [if_pos rfl, if_neg (by simp)]
    split <;> simp)
  have HNN := Lib.hid (show 1 ≤ N ∧ N ≤ 11 by rw [← hN.out, ← hp.out]; exact ⟨(okP_many s ho).1, (okP_many s ho).2.1⟩)
  have ALN := Lib.hid (show A < N by rw [← hN.out, ← hA.out, ← hp.out]; exact (okP_many s ho).2.2)
  clear h hs ho hd hp0 hF hF0 hB hk hks
  go_enter Tryd.func15, Tryd.ntmps15
  go_upto_region 1 with fail
  obtain ⟨gt, hgt⟩ : ∃ g, Hid (w.heap.size = g) := ⟨_, Lib.hid rfl⟩
  refine gworld (fun W => Hid (Blk W gt 36 zTold) ∧ Hid (Below w.heap.size w W)) ⟨Lib.hid (by rw [← hgt.out]; exact Blk.new _ _ _), Lib.hid ((Below.refl _ _).alloc (Nat.le_refl _) _)⟩ ?_
  rintro w0 ⟨M0, B0⟩
  rw [hgt.out]
  go_wp2_with fail
  refine (HR.out w0).mono ?_
  rintro e w1 ⟨b1, cs, hcs, hone, rfl, hcp⟩
  have hcp2 := hcp HO.out
  rw [hp.out, HPC.out] at hcp2
  subst hcp2
  clear hcp
  have HONE := Lib.hid hone
  have B1 := Lib.hid (B0.out.trans (b1.mono B0.out.size))
  have M1 := Lib.hid (M0.out.below b1 M0.out.lt)
  rw [HO.out]
  clear hcs hone b1
  go_upto_region 2 with (first
    | ((with_reducible refine gate_store (t := 65) (p := 7) (v := .tmp 15) rfl ?_); refine wpList_store_row rfl 65 (.tmp 7) (.tmp 15) rfl w1.heap.size #[.string ib, .string sm, .string tb, .int .i64 (A : Nat), .int .i64 (N : Nat)] rfl rfl 65 zPt (Blk.new w1 65 zPt) size_part rfl HONE.out ?_))
  obtain ⟨gp, hgp⟩ : ∃ g, Hid (w1.heap.size = g) := ⟨_, Lib.hid rfl⟩
  refine gworld (fun W => Hid (Blk W gt 36 zTold) ∧ Hid (Blk W gp 65 #[.string ib, .string sm, .string tb, .int .i64 (A : Nat), .int .i64 (N : Nat)]) ∧ Hid (Below w.heap.size w W)) ⟨Lib.hid ((M1.out.alloc (.cells zPt 65)).grown (row := some w1.heap.size) (only_setRow (only_refl _ _) _) (by have := M1.out.lt; intro h; cases h; omega)), Lib.hid (by rw [← hgp.out]; exact (Blk.new w1 65 zPt).setRow _), Lib.hid (below_of_only (B1.out.alloc B1.out.size _) (only_setRow (only_refl _ _) _) B1.out.size (by simp; exact Nat.le_succ_of_le B1.out.size))⟩ ?_
  rintro w2 ⟨M2, P2, B2⟩
  rw [hgp.out]
  have SG := Lib.hid (show w.heap.size ≤ gt ∧ w.heap.size ≤ gp from ⟨by rw [← hgt.out]; exact Nat.le_refl _, by rw [← hgp.out]; exact B1.out.size⟩)
  clear M1 B1 M0 B0 HONE
  have J2 := Lib.hid (HJ.out.below B2.out)
  have n3 : w2.drew.cell? ⟨j, 3, none⟩ = some vN := J2.out.hj.cell 3
  have p0 : w2.drew.cell? ⟨gp, 0, none⟩ = some (.string ib) := P2.out.cell 0
  go_upto_region 4 with fail
  refine start_ (n := 8) (S := fun w' => w'.cell? ⟨j, 3, none⟩ = some vN ∧ w'.cell? ⟨gp, 0, none⟩ = some (.string ib)) (ds := []) #[false, false, false, false, false, false, false, false] (by kernel_rfl) rfl rfl ⟨n3, p0⟩ (fun hHeld => ?_)
  refine with_tabW tk4.tab tk4.bits (fun HT_ HW_ => ?_)
  refine pure_ (i := 0) (N := some 20) (v := ?_) (a' := ?_) #[true, false, false, false, false, false, false, false] rfl rfl (any_of HT_.out (by kernel_rfl)) (fun _ _ _ h => h) (Or.inl ⟨by rfl, ?_⟩) ?_ ?_
  rotate_left
  · intro w'
    go_simp
    try with_reducible rfl
  rotate_left
  · simp only [Act.put, List.setIfInBounds_toArray, List.set_cons_zero, List.set_cons_succ]
    rfl
  refine pure_ (i := 1) (N := some 21) (v := ?_) (a' := ?_) #[true, true, false, false, false, false, false, false] rfl rfl (any_of HT_.out (by kernel_rfl)) (fun _ _ _ h => h) (Or.inl ⟨by rfl, ?_⟩) ?_ ?_
  rotate_left
  · intro w'
    go_simp
    try with_reducible rfl
  rotate_left
  · simp only [Act.put, List.setIfInBounds_toArray, List.set_cons_zero, List.set_cons_succ]
    rfl
  refine pure_ (i := 2) (N := some 22) (v := ?_) (a' := ?_) #[true, true, true, false, false, false, false, false] rfl rfl (any_of HT_.out (by kernel_rfl)) (fun _ _ _ h => h) (Or.inl ⟨by rfl, ?_⟩) ?_ ?_
  rotate_left
  · intro w'
    go_simp
    try with_reducible rfl
  rotate_left
  · simp only [Act.put, List.setIfInBounds_toArray, List.set_cons_zero, List.set_cons_succ]
    rfl
  refine pure_ (i := 3) (N := some 23) (v := ?_) (a' := ?_) #[true, true, true, true, false, false, false, false] rfl rfl (any_of HT_.out (by kernel_rfl)) (fun _ _ _ h => h) (Or.inl ⟨by rfl, ?_⟩) ?_ ?_
  rotate_left
  · intro w'
    go_simp
    try with_reducible rfl
  rotate_left
  · simp only [Act.put, List.setIfInBounds_toArray, List.set_cons_zero, List.set_cons_succ]
    rfl
  refine pure_ (i := 5) (N := some 25) (v := ?_) (a' := ?_) #[true, true, true, true, false, true, false, false] rfl rfl (any_of HT_.out (by kernel_rfl)) (fun _ _ _ h => h) (Or.inl ⟨by rfl, ?_⟩) ?_ ?_
  rotate_left
  · intro w'
    go_simp
    try with_reducible rfl
  rotate_left
  · simp only [Act.put, List.setIfInBounds_toArray, List.set_cons_zero, List.set_cons_succ]
    rfl
  refine take_ (i := 4) (N := some 24) (v := ?_) (a' := ?_) #[true, true, true, true, true, true, false, false] rfl rfl (take_ofW HT_.out HW_.out (by kernel_rfl)) (fun _ _ _ h => h) (Or.inl ⟨by rfl, ?_⟩) hHeld ?_ ?_
  rotate_left
  · rintro w' ⟨s0, s1⟩
    go_simp
    try with_reducible rfl
  rotate_left
  · simp only [Act.put, List.setIfInBounds_toArray, List.set_cons_zero, List.set_cons_succ]
    rfl
  refine take_ (i := 6) (N := some 26) (v := ?_) (a' := ?_) #[true, true, true, true, true, true, true, false] rfl rfl (take_ofW HT_.out HW_.out (by kernel_rfl)) (fun _ _ _ h => h) (Or.inl ⟨by rfl, ?_⟩) hHeld ?_ ?_
  rotate_left
  · rintro w' ⟨s0, s1⟩
    go_simp
    try with_reducible rfl
  rotate_left
  · simp only [Act.put, List.setIfInBounds_toArray, List.set_cons_zero, List.set_cons_succ]
    rfl
  refine one_ (i := 7) (N := some 27) #[true, true, true, true, true, true, true, true] rfl rfl (one_of HT_.out (by kernel_rfl)) (by decide) (fun K hK => ?_)
  refine goes_ Tryd.func22 (by kernel_rfl) rfl #[vN, .string ib] (by rfl) rfl rfl (by first | done | rfl | (simp only [List.map_toArray, List.map_cons, List.map_nil]; done) | (simp only [List.map_toArray, List.map_cons, List.map_nil]; rfl)) ?_
  refine (HCON.out w2.drew (J2.out.n.below (below_drewN (Below.refl _ _) 1))).mono ?_
  rintro e' w4 ⟨rfl, rfl⟩
  refine ⟨_, rfl, ?_⟩
  refine hK.out _ _ (⟨n3, p0⟩) (fun hHeld => ?_)
  clear hK K
  refine norm_ (a' := ?_) ?_ ?_
  rotate_left
  · show Act.put _ (some 27) _ = _
    simp only [Act.put, List.setIfInBounds_toArray, List.set_cons_zero, List.set_cons_succ]
    rfl
  refine done_ (done_of HT_.out (by kernel_rfl)) ?_
  clear HT_ HW_
  have M3 := Lib.hid M2.out.drew
  have P3 := Lib.hid P2.out.drew
  have B3 := Lib.hid (show Below w.heap.size w w2.drew from below_drewN B2.out 1)
  have J3 := Lib.hid (HJ.out.below B3.out)
  have s1 : w2.drew.cell? ⟨j, 1, none⟩ = some vS0 := J3.out.hj.cell 1
  clear n3 p0
  go_upto_region 6 with fail
  go_wp2_with fail
  refine (HIX.out w2.drew gp J3.out P3.out).mono ?_
  rintro e w4 ⟨rfl, b4⟩
  have B4 := Lib.hid (B3.out.trans (b4.mono B3.out.size))
  have M4 := Lib.hid (M3.out.below b4 M3.out.lt)
  have P4 := Lib.hid (P3.out.below b4 P3.out.lt)
  have J4 := Lib.hid (HJ.out.below B4.out)
  clear b4 s1 J3 B3 P3 M3 J2 B2 P2 M2 HIX HCON HR
  have MS := Lib.hid (mk_str N HNN.out.2)
  have MB := Lib.hid (mk_bool N HNN.out.2)
  have HPUT : Hid (∀ (X : World) (g : Nat), Below w4.heap.size w4 X → Calls Tryd.prog 25 #[.pointer (some ⟨j, 0, none⟩), .pointer (some ⟨g, 0, none⟩)] X fun e w' => PutM B j (J0.noted : Nat) vN J0.most vS0 (pushQ J0.most (T0.map (·.x)) g) X w' e) := Lib.hid (fun X g hX => by
    have J8 := J4.out.below hX
    exact putM_any B j (J0.noted : Nat) vN vS0 J0.most (T0.map (·.x)) g X J8.hj (Nat.le_trans HB.out (Nat.le_trans B4.out.size hX.size)) (by rw [← ptrX_eq]; exact J8.s) J8.bd.1 (by rw [List.length_map, J8.len]; exact J8.bd.2.2.1))
  have NGP := Lib.hid (show ¬ (gp = j ∨ vS0.ownBlock = some gp) from fun e => J4.out.notIn P4.out (by decide) (e.elim .inl (fun e => .inr (.inl e))))
  go_upto_region 8 with fail
  have q0 : w4.drew.cell? ⟨gp, 0, none⟩ = some (.string ib) := P4.out.cell 0
  have q1 : w4.drew.cell? ⟨gp, 1, none⟩ = some (.string sm) := P4.out.cell 1
  have q4 : w4.drew.cell? ⟨gp, 4, none⟩ = some (.int .i64 (N : Nat)) := P4.out.cell 4
  refine start_ (n := 18) (S := fun w' => w'.cell? ⟨gp, 0, none⟩ = some (.string ib) ∧ w'.cell? ⟨gp, 1, none⟩ = some (.string sm) ∧ w'.cell? ⟨gp, 4, none⟩ = some (.int .i64 (N : Nat))) (ds := []) #[false, false, false, false, false, false, false, false, false, false, false, false, false, false, false, false, false, false] (by kernel_rfl) rfl rfl ⟨q0, q1, q4⟩ (fun hHeld => ?_)
  refine with_tabW tk8.tab tk8.bits (fun HT_ HW_ => ?_)
  refine pure_ (i := 0) (N := some 38) (v := ?_) (a' := ?_) #[true, false, false, false, false, false, false, false, false, false, false, false, false, false, false, false, false, false] rfl rfl (any_of HT_.out (by kernel_rfl)) (fun _ _ _ h => h) (Or.inl ⟨by rfl, ?_⟩) ?_ ?_
  rotate_left
  · intro w'
    go_simp
    try with_reducible rfl
  rotate_left
  · simp only [Act.put, List.setIfInBounds_toArray, List.set_cons_zero, List.set_cons_succ]
    rfl
  refine pure_ (i := 1) (N := some 39) (v := ?_) (a' := ?_) #[true, true, false, false, false, false, false, false, false, false, false, false, false, false, false, false, false, false] rfl rfl (any_of HT_.out (by kernel_rfl)) (fun _ _ _ h => h) (Or.inl ⟨by rfl, ?_⟩) ?_ ?_
  rotate_left
  · intro w'
    go_simp
    try with_reducible rfl
  rotate_left
  · simp only [Act.put, List.setIfInBounds_toArray, List.set_cons_zero, List.set_cons_succ]
    rfl
  refine pure_ (i := 2) (N := some 40) (v := ?_) (a' := ?_) #[true, true, true, false, false, false, false, false, false, false, false, false, false, false, false, false, false, false] rfl rfl (any_of HT_.out (by kernel_rfl)) (fun _ _ _ h => h) (Or.inl ⟨by rfl, ?_⟩) ?_ ?_
  rotate_left
  · intro w'
    go_simp
    try with_reducible rfl
  rotate_left
  · simp only [Act.put, List.setIfInBounds_toArray, List.set_cons_zero, List.set_cons_succ]
    rfl
  refine pure_ (i := 3) (N := some 41) (v := ?_) (a' := ?_) #[true, true, true, true, false, false, false, false, false, false, false, false, false, false, false, false, false, false] rfl rfl (any_of HT_.out (by kernel_rfl)) (fun _ _ _ h => h) (Or.inl ⟨by rfl, ?_⟩) ?_ ?_
  rotate_left
  · intro w'
    go_simp
    try with_reducible rfl
  rotate_left
  · simp only [Act.put, List.setIfInBounds_toArray, List.set_cons_zero, List.set_cons_succ]
    rfl
  refine pure_ (i := 5) (N := some 43) (v := ?_) (a' := ?_) #[true, true, true, true, false, true, false, false, false, false, false, false, false, false, false, false, false, false] rfl rfl (any_of HT_.out (by kernel_rfl)) (fun _ _ _ h => h) (Or.inl ⟨by rfl, ?_⟩) ?_ ?_
  rotate_left
  · intro w'
    go_simp
    try with_reducible rfl
  rotate_left
  · simp only [Act.put, List.setIfInBounds_toArray, List.set_cons_zero, List.set_cons_succ]
    rfl
  refine pure_ (i := 7) (N := some 45) (v := ?_) (a' := ?_) #[true, true, true, true, false, true, false, true, false, false, false, false, false, false, false, false, false, false] rfl rfl (any_of HT_.out (by kernel_rfl)) (fun _ _ _ h => h) (Or.inl ⟨by rfl, ?_⟩) ?_ ?_
  rotate_left
  · intro w'
    go_simp
    try with_reducible rfl
  rotate_left
  · simp only [Act.put, List.setIfInBounds_toArray, List.set_cons_zero, List.set_cons_succ]
    rfl
  refine pure_ (i := 10) (N := some 48) (v := ?_) (a' := ?_) #[true, true, true, true, false, true, false, true, false, false, true, false, false, false, false, false, false, false] rfl rfl (any_of HT_.out (by kernel_rfl)) (fun _ _ _ h => h) (Or.inl ⟨by rfl, ?_⟩) ?_ ?_
  rotate_left
  · intro w'
    go_simp
    try with_reducible rfl
  rotate_left
  · simp only [Act.put, List.setIfInBounds_toArray, List.set_cons_zero, List.set_cons_succ]
    rfl
  refine pure_ (i := 13) (N := some 51) (v := ?_) (a' := ?_) #[true, true, true, true, false, true, false, true, false, false, true, false, false, true, false, false, false, false] rfl rfl (any_of HT_.out (by kernel_rfl)) (fun _ _ _ h => h) (Or.inl ⟨by rfl, ?_⟩) ?_ ?_
  rotate_left
  · intro w'
    go_simp
    try with_reducible rfl
  rotate_left
  · simp only [Act.put, List.setIfInBounds_toArray, List.set_cons_zero, List.set_cons_succ]
    rfl
  refine take_ (i := 4) (N := some 42) (v := ?_) (a' := ?_) #[true, true, true, true, true, true, false, true, false, false, true, false, false, true, false, false, false, false] rfl rfl (take_ofW HT_.out HW_.out (by kernel_rfl)) (fun _ _ _ h => h) (Or.inl ⟨by rfl, ?_⟩) hHeld ?_ ?_
  rotate_left
  · rintro w' ⟨s0, s1, s2⟩
    go_simp
    try with_reducible rfl
  rotate_left
  · simp only [Act.put, List.setIfInBounds_toArray, List.set_cons_zero, List.set_cons_succ]
    rfl
  refine take_ (i := 6) (N := some 44) (v := ?_) (a' := ?_) #[true, true, true, true, true, true, true, true, false, false, true, false, false, true, false, false, false, false] rfl rfl (take_ofW HT_.out HW_.out (by kernel_rfl)) (fun _ _ _ h => h) (Or.inl ⟨by rfl, ?_⟩) hHeld ?_ ?_
  rotate_left
  · rintro w' ⟨s0, s1, s2⟩
    go_simp
    try with_reducible rfl
  rotate_left
  · simp only [Act.put, List.setIfInBounds_toArray, List.set_cons_zero, List.set_cons_succ]
    rfl
  refine take_ (i := 8) (N := some 46) (v := ?_) (a' := ?_) #[true, true, true, true, true, true, true, true, true, false, true, false, false, true, false, false, false, false] rfl rfl (take_ofW HT_.out HW_.out (by kernel_rfl)) (fun _ _ _ h => h) (Or.inl ⟨by rfl, ?_⟩) hHeld ?_ ?_
  rotate_left
  · rintro w' ⟨s0, s1, s2⟩
    go_simp
    try with_reducible rfl
  rotate_left
  · simp only [Act.put, List.setIfInBounds_toArray, List.set_cons_zero, List.set_cons_succ]
    rfl
  refine take_ (i := 11) (N := some 49) (v := ?_) (a' := ?_) #[true, true, true, true, true, true, true, true, true, false, true, true, false, true, false, false, false, false] rfl rfl (take_ofW HT_.out HW_.out (by kernel_rfl)) (fun _ _ _ h => h) (Or.inl ⟨by rfl, ?_⟩) hHeld ?_ ?_
  rotate_left
  · rintro w' ⟨s0, s1, s2⟩
    go_simp
    try with_reducible rfl
  rotate_left
  · simp only [Act.put, List.setIfInBounds_toArray, List.set_cons_zero, List.set_cons_succ]
    rfl
  refine take_ (i := 14) (N := some 52) (v := ?_) (a' := ?_) #[true, true, true, true, true, true, true, true, true, false, true, true, false, true, true, false, false, false] rfl rfl (take_ofW HT_.out HW_.out (by kernel_rfl)) (fun _ _ _ h => h) (Or.inl ⟨by rfl, ?_⟩) hHeld ?_ ?_
  rotate_left
  · rintro w' ⟨s0, s1, s2⟩
    go_simp
    try with_reducible rfl
  rotate_left
  · simp only [Act.put, List.setIfInBounds_toArray, List.set_cons_zero, List.set_cons_succ]
    rfl
  refine two_ (i := 9) (j := 12) (Ni := some 47) (Nj := some 50) #[true, true, true, true, true, true, true, true, true, true, true, true, false, true, true, false, false, false] #[true, true, true, true, true, true, true, true, true, false, true, true, true, true, true, false, false, false] rfl rfl rfl rfl (two_of HT_.out (by kernel_rfl)) (by decide) (by decide) (fun K hK => ?_) (fun K hK => ?_)
  · refine step_make_run (by rfl) (.tmp 46) (.tmp 46) 22 rfl rfl rfl (MS.out _) ?_
    refine hK.out _ _ (⟨(P4.out.drew.alloc _).cell 0, (P4.out.drew.alloc _).cell 1, (P4.out.drew.alloc _).cell 4⟩) (fun hHeld => ?_)
    clear hK K
    refine norm_ (a' := ?_) ?_ ?_
    rotate_left
    · show Act.put _ (some 47) _ = _
      simp only [Act.put, List.setIfInBounds_toArray, List.set_cons_zero, List.set_cons_succ]
      rfl
    refine one_ (i := 12) (N := some 50) #[true, true, true, true, true, true, true, true, true, true, true, true, true, true, true, false, false, false] rfl rfl (one_of HT_.out (by kernel_rfl)) (by decide) (fun K hK => ?_)
    refine step_make_run (by rfl) (.tmp 49) (.tmp 49) 30 rfl rfl rfl (MB.out _) ?_
    refine hK.out _ _ (⟨((P4.out.drew.alloc _).alloc _).cell 0, ((P4.out.drew.alloc _).alloc _).cell 1, ((P4.out.drew.alloc _).alloc _).cell 4⟩) (fun hHeld => ?_)
    clear hK K
    refine norm_ (a' := ?_) ?_ ?_
    rotate_left
    · show Act.put _ (some 50) _ = _
      simp only [Act.put, List.setIfInBounds_toArray, List.set_cons_zero, List.set_cons_succ]
      rfl
    refine pure_ (i := 15) (N := some 53) (v := ?_) (a' := ?_) #[true, true, true, true, true, true, true, true, true, true, true, true, true, true, true, true, false, false] rfl rfl (any_of HT_.out (by kernel_rfl)) (fun _ _ _ h => h) (Or.inl ⟨by rfl, ?_⟩) ?_ ?_
    rotate_left
    · intro w'
      go_simp
      try with_reducible rfl
    rotate_left
    · simp only [Act.put, List.setIfInBounds_toArray, List.set_cons_zero, List.set_cons_succ]
      rfl
    refine one_ (i := 16) (N := some 54) #[true, true, true, true, true, true, true, true, true, true, true, true, true, true, true, true, true, false] rfl rfl (one_of HT_.out (by kernel_rfl)) (by decide) (fun K hK => ?_)
    refine value_ (w1 := ?_) (v := ?_) (by rfl) rfl ?_ ?_
    rotate_left 2
    · go_simp
      constructor <;> rfl
    refine hK.out _ _ (⟨(((P4.out.drew.alloc _).alloc _).alloc _).cell 0, (((P4.out.drew.alloc _).alloc _).alloc _).cell 1, (((P4.out.drew.alloc _).alloc _).alloc _).cell 4⟩) (fun hHeld => ?_)
    clear hK K
    refine norm_ (a' := ?_) ?_ ?_
    rotate_left
    · show Act.put _ (some 54) _ = _
      simp only [Act.put, List.setIfInBounds_toArray, List.set_cons_zero, List.set_cons_succ]
      rfl
    refine one_ (i := 17) (N := some 55) #[true, true, true, true, true, true, true, true, true, true, true, true, true, true, true, true, true, true] rfl rfl (one_of HT_.out (by kernel_rfl)) (by decide) (fun K hK => ?_)
    refine goes_ Tryd.func25 (by kernel_rfl) rfl #[.pointer (some ⟨j, 0, none⟩), .pointer (some ⟨w4.heap.size + 1 + 1, 0, none⟩)] (by rfl) rfl rfl (by first | done | rfl | (simp only [List.map_toArray, List.map_cons, List.map_nil]; done) | (simp only [List.map_toArray, List.map_cons, List.map_nil]; rfl)) ?_
    refine (HPUT.out ((((w4.alloc (.cells (cstr (List.replicate N [])).toArray 9)).alloc (.cells (bls (List.replicate N false)).toArray 4)).alloc (.cells #[.string ib, .string sm, .slice (some ⟨w4.heap.size, 0, none⟩) N N, .slice (some ⟨w4.heap.size + 1, 0, none⟩) N N, .int .i64 (N : Nat)] 72)).drew) (w4.heap.size + 1 + 1) (below_drewN ((((Below.refl w4.heap.size w4).alloc (Nat.le_refl _) _).alloc (by simp) _).alloc (by simp; omega) _) 1)).mono ?_
    rintro e' w5 ⟨rfl, vS, hjb, hwin, hk5, hfr⟩
    refine ⟨_, rfl, ?_⟩
    refine hK.out _ _ (⟨((((P4.out.alloc _).alloc _).alloc _).drew.kp hk5 NGP.out).cell 0, ((((P4.out.alloc _).alloc _).alloc _).drew.kp hk5 NGP.out).cell 1, ((((P4.out.alloc _).alloc _).alloc _).drew.kp hk5 NGP.out).cell 4⟩) (fun hHeld => ?_)
    clear hK K
    refine norm_ (a' := ?_) ?_ ?_
    rotate_left
    · show Act.put _ (some 55) _ = _
      simp only [Act.put, List.setIfInBounds_toArray, List.set_cons_zero, List.set_cons_succ]
      rfl
    refine done_ (done_of HT_.out (by kernel_rfl)) ?_
    clear HT_ HW_
    have BX := Lib.hid (show Below w4.heap.size w4 ((((w4.alloc (.cells (cstr (List.replicate N [])).toArray 9)).alloc (.cells (bls (List.replicate N false)).toArray 4)).alloc (.cells #[.string ib, .string sm, .slice (some ⟨w4.heap.size, 0, none⟩) N N, .slice (some ⟨w4.heap.size + 1, 0, none⟩) N N, .int .i64 (N : Nat)] 72)).drew) from below_drewN ((((Below.refl w4.heap.size w4).alloc (Nat.le_refl _) _).alloc (by simp) _).alloc (by simp; omega) _) 1)
    have J8 := Lib.hid (J4.out.below BX.out)
    have HBW := Lib.hid (Nat.le_trans HB.out B4.out.size)
    have HMA : Hid (MsA B ((((w4.alloc (.cells (cstr (List.replicate N [])).toArray 9)).alloc (.cells (bls (List.replicate N false)).toArray 4)).alloc (.cells #[.string ib, .string sm, .slice (some ⟨w4.heap.size, 0, none⟩) N N, .slice (some ⟨w4.heap.size + 1, 0, none⟩) N N, .int .i64 (N : Nat)] 72)).drew) ⟨w4.heap.size + 1 + 1, w4.heap.size, w4.heap.size + 1⟩ (freshM p)) := by
      have e : msC ⟨w4.heap.size + 1 + 1, w4.heap.size, w4.heap.size + 1⟩ (freshM p) = #[.string ib, .string sm, .slice (some ⟨w4.heap.size, 0, none⟩) N N, .slice (some ⟨w4.heap.size + 1, 0, none⟩) N N, .int .i64 (N : Nat)] := by
        unfold msC freshM; rw [IB.out, SM.out, hN.out]; simp
      have hb := HBW.out
      have hn := HNN.out
      refine Lib.hid ⟨?_, ?_, ?_, ?_, ⟨by show B ≤ w4.heap.size + 1 + 1; omega, by show B ≤ w4.heap.size; omega, by show B ≤ w4.heap.size + 1; omega⟩, ?_, ?_, ?_⟩
      · rw [e]; exact (Blk.newAt _ _ _ _ (by simp)).drew
      · show Blk _ _ _ (cstr (List.replicate p.many [])).toArray
        rw [hN.out]; exact ((Blk.newAt _ _ _ _ rfl).alloc _).alloc _
      · show Blk _ _ _ (bls (List.replicate p.many false)).toArray
        rw [hN.out]; exact (Blk.newAt _ _ _ _ (by simp)).alloc _
      · simp [freshM]
      · simp only [freshM, List.length_replicate, hN.out]; exact hn
      · simp only [freshM, hN.out]; omega
      · intro u hu; rw [List.eq_of_mem_replicate hu]; simp
    have J5 := Lib.hid (J8.out.pushed (t := ⟨w4.heap.size + 1 + 1, w4.heap.size, w4.heap.size + 1⟩) HMA.out (fun u hu => by
      have h1 := (J4.out.lt (.inr (.inr (.inr ⟨u, hu, .inl rfl⟩)))).2
      have h2 := (J4.out.lt (.inr (.inr (.inr ⟨u, hu, .inr (.inl rfl)⟩)))).2
      have h3 := (J4.out.lt (.inr (.inr (.inr ⟨u, hu, .inr (.inr rfl)⟩)))).2
      exact ⟨by show u.x ≠ w4.heap.size + 1 + 1; omega, by show u.p ≠ w4.heap.size; omega, by show u.c ≠ w4.heap.size + 1; omega⟩) (fun e => by
      have h1 := (J4.out.lt (.inr (.inr (.inl e)))).2
      have h2 : w4.heap.size < w4.heap.size := h1
      omega) hjb hwin hk5)
    obtain ⟨t, ht⟩ : ∃ t, Hid ((⟨w4.heap.size + 1 + 1, w4.heap.size, w4.heap.size + 1⟩ : Pl) = t) := ⟨_, Lib.hid rfl⟩
    have TW := Lib.hid (show w.heap.size ≤ t.x ∧ w.heap.size ≤ t.p ∧ w.heap.size ≤ t.c by
      have := B4.out.size
      rw [← ht.out]
      exact ⟨by show w.heap.size ≤ w4.heap.size + 1 + 1; omega, by show w.heap.size ≤ w4.heap.size; omega, by show w.heap.size ≤ w4.heap.size + 1; omega⟩)
    rw [ht.out] at J5
    have K5 := Lib.hid (show Kp (JS j vS0 vN T0) w w5 from (Kp.of_below (B4.out.trans (BX.out.mono B4.out.size))).trans (hk5.mono (S' := JS j vS0 vN T0) (fun i hi e => e.elim .inl (fun e => .inr (.inl e)))))
    have M5 := Lib.hid ((M4.out.below BX.out M4.out.lt).kp hk5 (fun e => J4.out.notIn M4.out (by decide) (e.elim .inl (fun e => .inr (.inl e)))))
    have P5 := Lib.hid ((P4.out.below BX.out P4.out.lt).kp hk5 NGP.out)
    have CUT0 := Lib.hid (show ∀ k, JS j vS vN (pushQ J0.most T0 t) k → JS j vS0 vN T0 k ∨ w.heap.size ≤ k from fun k hk => by
      have hw4 := B4.out.size
      have htw := TW.out
      rcases hk with e | e | e | ⟨u, hu, e⟩
      · exact .inl (.inl e)
      · rcases hfr with h | ⟨b, h, hb⟩
        · exact .inl (.inr (.inl (h ▸ e)))
        · rw [h] at e; cases e; exact .inr (Nat.le_trans (Nat.le_trans hw4 BX.out.size) hb)
      · exact .inl (.inr (.inr (.inl e)))
      · rcases pushQ_mem hu with hu | rfl
        · exact .inl (.inr (.inr (.inr ⟨u, hu, e⟩)))
        · rcases e with rfl | rfl | rfl
          · exact .inr htw.1
          · exact .inr htw.2.1
          · exact .inr htw.2.2)
    obtain ⟨m, hfm⟩ : ∃ m, Hid (freshM p = m) := ⟨_, Lib.hid rfl⟩
    obtain ⟨T, hT0⟩ : ∃ x, Hid (pushQ J0.most T0 t = x) := ⟨_, Lib.hid rfl⟩
    obtain ⟨J, hJ0⟩ : ∃ x, Hid (({ J0 with some := pushQ J0.most J0.some (freshM p) } : Jn) = x) := ⟨_, Lib.hid rfl⟩
    obtain ⟨i, hi0⟩ : ∃ x, Hid ((pushQ J0.most J0.some (freshM p)).length - 1 = x) := ⟨_, Lib.hid rfl⟩
    rw [hJ0.out, hT0.out] at J5
    rw [hT0.out] at CUT0
    have HLEN := Lib.hid (show J.some.length = i + 1 by rw [← hJ0.out, ← hi0.out]; show (pushQ J0.most J0.some (freshM p)).length = _; unfold pushQ; simp)
    have HMI := Lib.hid (show J.some[i]? = some m by rw [← hJ0.out, ← hi0.out, ← hfm.out]; show (pushQ J0.most J0.some (freshM p))[_]? = _; exact pushQ_last _ _ _)
    have HT := Lib.hid (show T[i]? = some t by
      have h1 := J5.out.len
      have : i = T.length - 1 := by have := HLEN.out; omega
      rw [this, ← hT0.out]; exact pushQ_last _ _ _)
    have hi : i < J.some.length := by have := HLEN.out; omega
    have HTF := Lib.hid (show takeF J0 s = putIn J i (J.some[i]'hi) (ptOf s) by
      have : J.some[i]'hi = freshM p := by have := HMI.out; rw [List.getElem?_eq_getElem hi] at this; rw [hfm.out]; exact Option.some.inj this
      rw [this, HTF0.out, hp.out, hJ0.out, hi0.out])
    clear hjb hwin hk5 hfr hHeld J8 BX HMA HPUT NGP MS MB
    go_upto_region 9 with fail
    refine gworld (fun W => Hid (Blk W gt 36 zTold) ∧ Hid (Blk W gp 65 #[.string ib, .string sm, .string tb, .int .i64 (A : Nat), .int .i64 (N : Nat)]) ∧ Hid (JnA B W j vS vN T J) ∧ Hid (Kp (JS j vS0 vN T0) w W)) ⟨M5, P5, J5, K5⟩ ?_
    rintro w4 ⟨M4, P4, J4, K4⟩
    obtain ⟨t', b, off, cap, hT, hv, hcell, hm⟩ := J4.out.at_ i hi
    have htt : t = t' := Option.some.inj (HT.out.symm.trans hT)
    subst htt
    have hmm : J.some[i]'hi = m := by have := HMI.out; rw [List.getElem?_eq_getElem hi] at this; exact Option.some.inj this
    rw [hmm] at hm
    have HI := Lib.hid hi
    have HM := Lib.hid hm
    have hme := Lib.hid hmm
    have s1 : w4.cell? ⟨j, 1, none⟩ = some vS := J4.out.hj.cell 1
    rw [hv, HLEN.out] at s1
    have e1 : 0 ≤ (i : Int) ∧ (i : Int) < (i : Int) + 1 := by omega
    have hwi : wrap64 (i : Int) = (i : Int) := by
      have h1 := J4.out.bd
      have h2 := HLEN.out
      unfold wrap64; omega
    obtain ⟨mb, MB⟩ : ∃ t : ByteArray, Hid (⟨m.sum.toArray⟩ = t) := ⟨_, Lib.hid rfl⟩
    obtain ⟨L, hL⟩ : ∃ n, Hid (m.pcs.length = n) := ⟨_, Lib.hid rfl⟩
    have xc : ∀ W, Blk W t.x 72 (msC t m) → Blk W t.x 72 #[.string ⟨m.id.toArray⟩, .string mb, .slice (some ⟨t.p, 0, none⟩) L L, .slice (some ⟨t.c, 0, none⟩) L L, .int .i64 m.left] := fun W hW => by rw [← MB.out, ← hL.out]; exact hW
    have X4 := Lib.hid (xc _ HM.out.x)
    have HM00 := Lib.hid (show ∀ m', J.some[i]? = some m' → (m'.sum = p.sum ∧ m'.pcs.length = p.many) ∧ m'.came[p.at_]? = some false from fun m' h => by
      have : m' = freshM p := Option.some.inj (h.symm.trans (HMI.out.trans (by rw [hfm.out])))
      subst this
      refine ⟨⟨rfl, by simp [freshM]⟩, ?_⟩
      show (List.replicate p.many false)[p.at_]? = some false
      rw [List.getElem?_replicate, if_pos (by rw [hA.out, hN.out]; exact ALN.out)])
    have LEFT := Lib.hid (show 1 ≤ m.left by rw [← hfm.out]; show 1 ≤ ((p.many : Nat) : Int); rw [hN.out]; have := HNN.out; omega)
    clear hT hm hv xc hmm
    go_upto_region 11 with fail
    clear s1 hcell
    have hm0 := HM00.out
    have x1 : w4.drew.cell? ⟨t.x, 1, none⟩ = some (.string mb) := X4.out.cell 1
    have x2 : w4.drew.cell? ⟨t.x, 2, none⟩ = some (.slice (some ⟨t.p, 0, none⟩) L L) := X4.out.cell 2
    have p1 : w4.drew.cell? ⟨gp, 1, none⟩ = some (.string sm) := P4.out.cell 1
    have p4 : w4.drew.cell? ⟨gp, 4, none⟩ = some (.int .i64 (N : Nat)) := P4.out.cell 4
    have hm1 := (hm0 m HMI.out).1
    rw [hL.out, hN.out] at hm1
    have he : (mb.toList == sm.toList) = true := by rw [← MB.out, ← SM.out, ByteArray.toList_eq, ByteArray.toList_eq]; exact beq_iff_eq.mpr hm1.1
    have hl : ((L : Int) != (N : Int)) = false := by have := hm1.2; (rw [bne_eq_false_iff_eq]; omega)
    have HM1 := Lib.hid hm1
    clear hm1
    refine start_ (n := 18) (S := fun w' => w'.cell? ⟨t.x, 1, none⟩ = some (.string mb) ∧ w'.cell? ⟨t.x, 2, none⟩ = some (.slice (some ⟨t.p, 0, none⟩) L L) ∧ w'.cell? ⟨gp, 1, none⟩ = some (.string sm) ∧ w'.cell? ⟨gp, 4, none⟩ = some (.int .i64 (N : Nat))) (ds := []) #[false, false, false, false, false, false, false, false, false, false, false, false, false, false, false, false, false, false] (by kernel_rfl) rfl rfl ⟨x1, x2, p1, p4⟩ (fun hHeld => ?_)
    refine with_tabW tk11.tab tk11.bits (fun HT_ HW_ => ?_)
    refine pure_ (i := 0) (N := some 72) (v := ?_) (a' := ?_) #[true, false, false, false, false, false, false, false, false, false, false, false, false, false, false, false, false, false] rfl rfl (any_of HT_.out (by kernel_rfl)) (fun _ _ _ h => h) (Or.inl ⟨by rfl, ?_⟩) ?_ ?_
    rotate_left
    · intro w'
      go_simp
      try with_reducible rfl
    rotate_left
    · simp only [Act.put, List.setIfInBounds_toArray, List.set_cons_zero, List.set_cons_succ]
      rfl
    refine pure_ (i := 1) (N := some 73) (v := ?_) (a' := ?_) #[true, true, false, false, false, false, false, false, false, false, false, false, false, false, false, false, false, false] rfl rfl (any_of HT_.out (by kernel_rfl)) (fun _ _ _ h => h) (Or.inl ⟨by rfl, ?_⟩) ?_ ?_
    rotate_left
    · intro w'
      go_simp
      try with_reducible rfl
    rotate_left
    · simp only [Act.put, List.setIfInBounds_toArray, List.set_cons_zero, List.set_cons_succ]
      rfl
    refine pure_ (i := 2) (N := some 74) (v := ?_) (a' := ?_) #[true, true, true, false, false, false, false, false, false, false, false, false, false, false, false, false, false, false] rfl rfl (any_of HT_.out (by kernel_rfl)) (fun _ _ _ h => h) (Or.inl ⟨by rfl, ?_⟩) ?_ ?_
    rotate_left
    · intro w'
      go_simp
      try with_reducible rfl
    rotate_left
    · simp only [Act.put, List.setIfInBounds_toArray, List.set_cons_zero, List.set_cons_succ]
      rfl
    refine pure_ (i := 4) (N := some 76) (v := ?_) (a' := ?_) #[true, true, true, false, true, false, false, false, false, false, false, false, false, false, false, false, false, false] rfl rfl (any_of HT_.out (by kernel_rfl)) (fun _ _ _ h => h) (Or.inl ⟨by rfl, ?_⟩) ?_ ?_
    rotate_left
    · intro w'
      go_simp
      try with_reducible rfl
    rotate_left
    · simp only [Act.put, List.setIfInBounds_toArray, List.set_cons_zero, List.set_cons_succ]
      rfl
    refine take_ (i := 3) (N := some 75) (v := ?_) (a' := ?_) #[true, true, true, true, true, false, false, false, false, false, false, false, false, false, false, false, false, false] rfl rfl (take_ofW HT_.out HW_.out (by kernel_rfl)) (fun _ _ _ h => h) (Or.inl ⟨by rfl, ?_⟩) hHeld ?_ ?_
    rotate_left
    · rintro w' ⟨s0, s1, s2, s3⟩
      go_simp
      try with_reducible rfl
    rotate_left
    · simp only [Act.put, List.setIfInBounds_toArray, List.set_cons_zero, List.set_cons_succ]
      rfl
    refine take_ (i := 5) (N := some 77) (v := ?_) (a' := ?_) #[true, true, true, true, true, true, false, false, false, false, false, false, false, false, false, false, false, false] rfl rfl (take_ofW HT_.out HW_.out (by kernel_rfl)) (fun _ _ _ h => h) (Or.inl ⟨by rfl, ?_⟩) hHeld ?_ ?_
    rotate_left
    · rintro w' ⟨s0, s1, s2, s3⟩
      go_simp
      try with_reducible rfl
    rotate_left
    · simp only [Act.put, List.setIfInBounds_toArray, List.set_cons_zero, List.set_cons_succ]
      rfl
    refine pure_ (i := 6) (N := some 78) (v := ?_) (a' := ?_) #[true, true, true, true, true, true, true, false, false, false, false, false, false, false, false, false, false, false] rfl rfl (any_of HT_.out (by kernel_rfl)) (fun _ _ _ h => h) (Or.inl ⟨by rfl, ?_⟩) ?_ ?_
    rotate_left
    · intro w'
      go_simp
      try with_reducible rfl
    rotate_left
    · simp only [Act.put, List.setIfInBounds_toArray, List.set_cons_zero, List.set_cons_succ]
      rfl
    refine pure_ (i := 7) (N := some 79) (v := ?_) (a' := ?_) #[true, true, true, true, true, true, true, true, false, false, false, false, false, false, false, false, false, false] rfl rfl (any_of HT_.out (by kernel_rfl)) (fun _ _ _ h => h) (Or.inl ⟨by rfl, ?_⟩) ?_ ?_
    rotate_left
    · intro w'
      go_simp
      try with_reducible rfl
    rotate_left
    · simp only [Act.put, List.setIfInBounds_toArray, List.set_cons_zero, List.set_cons_succ]
      rfl
    refine pure_ (i := 8) (N := some 80) (v := ?_) (a' := ?_) #[true, true, true, true, true, true, true, true, true, false, false, false, false, false, false, false, false, false] rfl rfl (any_of HT_.out (by kernel_rfl)) (fun _ _ _ h => h) (Or.inl ⟨by rfl, ?_⟩) ?_ ?_
    rotate_left
    · intro w'
      go_simp
      try with_reducible rfl
    rotate_left
    · simp only [Act.put, List.setIfInBounds_toArray, List.set_cons_zero, List.set_cons_succ]
      rfl
    refine pure_ (i := 9) (N := some 81) (v := ?_) (a' := ?_) #[true, true, true, true, true, true, true, true, true, true, false, false, false, false, false, false, false, false] rfl rfl (any_of HT_.out (by kernel_rfl)) (fun _ _ _ h => h) (Or.inl ⟨by rfl, ?_⟩) ?_ ?_
    rotate_left
    · intro w'
      go_simp
      try with_reducible rfl
    rotate_left
    · simp only [Act.put, List.setIfInBounds_toArray, List.set_cons_zero, List.set_cons_succ]
      rfl
    refine pure_ (i := 10) (N := some 82) (v := ?_) (a' := ?_) #[true, true, true, true, true, true, true, true, true, true, true, false, false, false, false, false, false, false] rfl rfl (any_of HT_.out (by kernel_rfl)) (fun _ _ _ h => h) (Or.inl ⟨by rfl, ?_⟩) ?_ ?_
    rotate_left
    · intro w'
      go_simp
      try with_reducible rfl
    rotate_left
    · simp only [Act.put, List.setIfInBounds_toArray, List.set_cons_zero, List.set_cons_succ]
      rfl
    refine pure_ (i := 13) (N := some 85) (v := ?_) (a' := ?_) #[true, true, true, true, true, true, true, true, true, true, true, false, false, true, false, false, false, false] rfl rfl (any_of HT_.out (by kernel_rfl)) (fun _ _ _ h => h) (Or.inl ⟨by rfl, ?_⟩) ?_ ?_
    rotate_left
    · intro w'
      go_simp
      try with_reducible rfl
    rotate_left
    · simp only [Act.put, List.setIfInBounds_toArray, List.set_cons_zero, List.set_cons_succ]
      rfl
    refine take_ (i := 11) (N := some 83) (v := ?_) (a' := ?_) #[true, true, true, true, true, true, true, true, true, true, true, true, false, true, false, false, false, false] rfl rfl (take_ofW HT_.out HW_.out (by kernel_rfl)) (fun _ _ _ h => h) (Or.inl ⟨by rfl, ?_⟩) hHeld ?_ ?_
    rotate_left
    · rintro w' ⟨s0, s1, s2, s3⟩
      go_simp
      try with_reducible rfl
    rotate_left
    · simp only [Act.put, List.setIfInBounds_toArray, List.set_cons_zero, List.set_cons_succ]
      rfl
    refine pure_ (i := 12) (N := some 84) (v := ?_) (a' := ?_) #[true, true, true, true, true, true, true, true, true, true, true, true, true, true, false, false, false, false] rfl rfl (any_of HT_.out (by kernel_rfl)) (fun _ _ _ h => h) (Or.inl ⟨by rfl, ?_⟩) ?_ ?_
    rotate_left
    · intro w'
      go_simp
      try with_reducible rfl
    rotate_left
    · simp only [Act.put, List.setIfInBounds_toArray, List.set_cons_zero, List.set_cons_succ]
      rfl
    refine take_ (i := 14) (N := some 86) (v := ?_) (a' := ?_) #[true, true, true, true, true, true, true, true, true, true, true, true, true, true, true, false, false, false] rfl rfl (take_ofW HT_.out HW_.out (by kernel_rfl)) (fun _ _ _ h => h) (Or.inl ⟨by rfl, ?_⟩) hHeld ?_ ?_
    rotate_left
    · rintro w' ⟨s0, s1, s2, s3⟩
      go_simp
      try with_reducible rfl
    rotate_left
    · simp only [Act.put, List.setIfInBounds_toArray, List.set_cons_zero, List.set_cons_succ]
      rfl
    refine pure_ (i := 15) (N := some 87) (v := ?_) (a' := ?_) #[true, true, true, true, true, true, true, true, true, true, true, true, true, true, true, true, false, false] rfl rfl (any_of HT_.out (by kernel_rfl)) (fun _ _ _ h => h) (Or.inl ⟨by rfl, ?_⟩) ?_ ?_
    rotate_left
    · intro w'
      go_simp
      try with_reducible rfl
    rotate_left
    · simp only [Act.put, List.setIfInBounds_toArray, List.set_cons_zero, List.set_cons_succ]
      rfl
    refine pure_ (i := 16) (N := some 88) (v := ?_) (a' := ?_) #[true, true, true, true, true, true, true, true, true, true, true, true, true, true, true, true, true, false] rfl rfl (any_of HT_.out (by kernel_rfl)) (fun _ _ _ h => h) (Or.inl ⟨by rfl, ?_⟩) ?_ ?_
    rotate_left
    · intro w'
      go_simp
      try with_reducible rfl
    rotate_left
    · simp only [Act.put, List.setIfInBounds_toArray, List.set_cons_zero, List.set_cons_succ]
      rfl
    refine pure_ (i := 17) (N := some 71) (v := ?_) (a' := ?_) #[true, true, true, true, true, true, true, true, true, true, true, true, true, true, true, true, true, true] rfl rfl (any_of HT_.out (by kernel_rfl)) (fun _ _ _ h => h) (Or.inl ⟨by rfl, ?_⟩) ?_ ?_
    rotate_left
    · intro w'
      go_simp
      try with_reducible rfl
    rotate_left
    · simp only [Act.put, List.setIfInBounds_toArray, List.set_cons_zero, List.set_cons_succ]
      rfl
    refine done_ (done_of HT_.out (by kernel_rfl)) ?_
    clear HT_ HW_
    try simp only [hl, Bool.not_false, Bool.not_true]
    have M5 := Lib.hid M4.out.drew
    have P5 := Lib.hid P4.out.drew
    have X5 := Lib.hid X4.out.drew
    clear x1 x2 p1 p4 he hl
    obtain ⟨c5, c5'⟩ : w4.drew.cell? ⟨t.c, A, none⟩ = some (.bool false) ∧ A < L := by
      have hc := hm0 m HMI.out
      obtain ⟨⟨_, hc2⟩, hc3⟩ := hc
      rw [hA.out] at hc3
      have := (HM.out.c.drew.cell A)
      refine ⟨this.trans ?_, ?_⟩
      · simp [bls, hc3]
      · have := (List.getElem?_eq_some_iff.1 hc3).1; have := HM.out.l; have := hL.out; omega
    have x3 : w4.drew.cell? ⟨t.x, 3, none⟩ = some (.slice (some ⟨t.c, 0, none⟩) L L) := X5.out.cell 3
    have p3 : w4.drew.cell? ⟨gp, 3, none⟩ = some (.int .i64 (A : Nat)) := P5.out.cell 3
    have e3 : 0 ≤ (A : Int) ∧ (A : Int) < (L : Int) := by omega
    go_upto_region 13 with fail
    refine start_ (n := 9) (S := fun w' => w'.cell? ⟨t.x, 3, none⟩ = some (.slice (some ⟨t.c, 0, none⟩) L L) ∧ w'.cell? ⟨gp, 3, none⟩ = some (.int .i64 (A : Nat)) ∧ w'.cell? ⟨t.c, A, none⟩ = some (.bool false)) (ds := []) #[false, false, false, false, false, false, false, false, false] (by kernel_rfl) rfl rfl ⟨x3, p3, c5⟩ (fun hHeld => ?_)
    refine with_tabW tk13.tab tk13.bits (fun HT_ HW_ => ?_)
    refine pure_ (i := 0) (N := some 91) (v := ?_) (a' := ?_) #[true, false, false, false, false, false, false, false, false] rfl rfl (any_of HT_.out (by kernel_rfl)) (fun _ _ _ h => h) (Or.inl ⟨by rfl, ?_⟩) ?_ ?_
    rotate_left
    · intro w'
      go_simp
      try with_reducible rfl
    rotate_left
    · simp only [Act.put, List.setIfInBounds_toArray, List.set_cons_zero, List.set_cons_succ]
      rfl
    refine pure_ (i := 1) (N := some 92) (v := ?_) (a' := ?_) #[true, true, false, false, false, false, false, false, false] rfl rfl (any_of HT_.out (by kernel_rfl)) (fun _ _ _ h => h) (Or.inl ⟨by rfl, ?_⟩) ?_ ?_
    rotate_left
    · intro w'
      go_simp
      try with_reducible rfl
    rotate_left
    · simp only [Act.put, List.setIfInBounds_toArray, List.set_cons_zero, List.set_cons_succ]
      rfl
    refine pure_ (i := 2) (N := some 93) (v := ?_) (a' := ?_) #[true, true, true, false, false, false, false, false, false] rfl rfl (any_of HT_.out (by kernel_rfl)) (fun _ _ _ h => h) (Or.inl ⟨by rfl, ?_⟩) ?_ ?_
    rotate_left
    · intro w'
      go_simp
      try with_reducible rfl
    rotate_left
    · simp only [Act.put, List.setIfInBounds_toArray, List.set_cons_zero, List.set_cons_succ]
      rfl
    refine pure_ (i := 4) (N := some 95) (v := ?_) (a' := ?_) #[true, true, true, false, true, false, false, false, false] rfl rfl (any_of HT_.out (by kernel_rfl)) (fun _ _ _ h => h) (Or.inl ⟨by rfl, ?_⟩) ?_ ?_
    rotate_left
    · intro w'
      go_simp
      try with_reducible rfl
    rotate_left
    · simp only [Act.put, List.setIfInBounds_toArray, List.set_cons_zero, List.set_cons_succ]
      rfl
    refine take_ (i := 3) (N := some 94) (v := ?_) (a' := ?_) #[true, true, true, true, true, false, false, false, false] rfl rfl (take_ofW HT_.out HW_.out (by kernel_rfl)) (fun _ _ _ h => h) (Or.inl ⟨by rfl, ?_⟩) hHeld ?_ ?_
    rotate_left
    · rintro w' ⟨s0, s1, s2⟩
      go_simp
      try with_reducible rfl
    rotate_left
    · simp only [Act.put, List.setIfInBounds_toArray, List.set_cons_zero, List.set_cons_succ]
      rfl
    refine take_ (i := 5) (N := some 96) (v := ?_) (a' := ?_) #[true, true, true, true, true, true, false, false, false] rfl rfl (take_ofW HT_.out HW_.out (by kernel_rfl)) (fun _ _ _ h => h) (Or.inl ⟨by rfl, ?_⟩) hHeld ?_ ?_
    rotate_left
    · rintro w' ⟨s0, s1, s2⟩
      go_simp
      try with_reducible rfl
    rotate_left
    · simp only [Act.put, List.setIfInBounds_toArray, List.set_cons_zero, List.set_cons_succ]
      rfl
    refine pure_ (i := 6) (N := some 97) (v := ?_) (a' := ?_) #[true, true, true, true, true, true, true, false, false] rfl rfl (any_of HT_.out (by kernel_rfl)) (fun _ _ _ h => h) (Or.inl ⟨by rfl, ?_⟩) ?_ ?_
    rotate_left
    · intro w'
      go_simp
      try with_reducible rfl
    rotate_left
    · simp only [Act.put, List.setIfInBounds_toArray, List.set_cons_zero, List.set_cons_succ]
      rfl
    refine take_ (i := 7) (N := some 98) (v := ?_) (a' := ?_) #[true, true, true, true, true, true, true, true, false] rfl rfl (take_ofW HT_.out HW_.out (by kernel_rfl)) (fun _ _ _ h => h) (Or.inl ⟨by rfl, ?_⟩) hHeld ?_ ?_
    rotate_left
    · rintro w' ⟨s0, s1, s2⟩
      go_simp
      try with_reducible rfl
    rotate_left
    · simp only [Act.put, List.setIfInBounds_toArray, List.set_cons_zero, List.set_cons_succ]
      rfl
    refine pure_ (i := 8) (N := some 90) (v := ?_) (a' := ?_) #[true, true, true, true, true, true, true, true, true] rfl rfl (any_of HT_.out (by kernel_rfl)) (fun _ _ _ h => h) (Or.inl ⟨by rfl, ?_⟩) ?_ ?_
    rotate_left
    · intro w'
      go_simp
      try with_reducible rfl
    rotate_left
    · simp only [Act.put, List.setIfInBounds_toArray, List.set_cons_zero, List.set_cons_succ]
      rfl
    refine done_ (done_of HT_.out (by kernel_rfl)) ?_
    clear HT_ HW_
    have M6 := Lib.hid M5.out.drew
    have P6 := Lib.hid P5.out.drew
    have X6 := Lib.hid X5.out.drew
    have hmm := hm0 m HMI.out
    have CAME := Lib.hid (show (bls m.came).toArray[A]? = some (Value.bool false) by have := hmm.2; rw [hA.out] at this; simp [bls, this])
    have ALT := Lib.hid c5'
    have XC : Hid (∀ W, Blk W t.x 72 (msC t m) → Blk W t.x 72 #[.string ⟨m.id.toArray⟩, .string mb, .slice (some ⟨t.p, 0, none⟩) L L, .slice (some ⟨t.c, 0, none⟩) L L, .int .i64 m.left]) := Lib.hid (fun W hW => by rw [← MB.out, ← hL.out]; exact hW)
    have J6 := Lib.hid (J4.out.below (below_drewN (Below.refl _ _) 2))
    have K6 := Lib.hid (show Kp (JS j vS0 vN T0) w w4.drew.drew from K4.out.trans (Kp.of_below (below_drewN (Below.refl _ _) 2)))
    have TXT := Lib.hid (show p.text.length ≤ 200 by rw [← hp.out]; exact okP_text s HO.out)
    have KTR : Hid (∀ W W', Kp (JS j vS0 vN T0) w W → Kp (fun i => i = t.x ∨ i = t.p ∨ i = t.c) W W' → Kp (JS j vS0 vN T0) w W') := Lib.hid (fun W W' k1 k2 => k1.trans2 k2 (fun i hi e => by
      have := TW.out
      exfalso
      rcases e with rfl | rfl | rfl <;> omega))
    skip
    clear hmm c5 c5' x3 p3 e3 X4 X5 X6 hm0
    go_upto_region 15 with fail
    refine gworld (fun W => Hid (Blk W gt 36 zTold) ∧ Hid (Blk W gp 65 #[.string ib, .string sm, .string tb, .int .i64 (A : Nat), .int .i64 (N : Nat)]) ∧ Hid (JnA B W j vS vN T J) ∧ Hid (Kp (JS j vS0 vN T0) w W)) ⟨M6, P6, J6, K6⟩ ?_
    rintro w7 ⟨M7, P7, J7, K7⟩
    have HM7 := Lib.hid (J7.out.ms i t m HT.out HMI.out)
    have X7 := Lib.hid (XC.out _ HM7.out.x)
    have x2 : w7.drew.cell? ⟨t.x, 2, none⟩ = some (.slice (some ⟨t.p, 0, none⟩) L L) := X7.out.cell 2
    have x3 : w7.drew.cell? ⟨t.x, 3, none⟩ = some (.slice (some ⟨t.c, 0, none⟩) L L) := X7.out.cell 3
    have p2 : w7.drew.cell? ⟨gp, 2, none⟩ = some (.string tb) := P7.out.cell 2
    have p3 : w7.drew.cell? ⟨gp, 3, none⟩ = some (.int .i64 (A : Nat)) := P7.out.cell 3
    have c5 : w7.cell? ⟨t.c, A, none⟩ = some (.bool false) := (HM7.out.c.cell A).trans CAME.out
    obtain ⟨ob, ho5⟩ : ∃ ob, w7.cell? ⟨t.p, A, none⟩ = some (.string ob) := by
      have hlt : A < m.pcs.length := by rw [hL.out]; exact ALT.out
      exact ⟨_, (HM7.out.p.cell A).trans (by simp [cstr, List.getElem?_eq_getElem hlt]; rfl)⟩
    have f5 : w7.frozen? ⟨t.p, A, none⟩ = false := HM7.out.p.frozen A
    have f6 : w7.frozen? ⟨t.c, A, none⟩ = false := HM7.out.c.frozen A
    have hpc : t.p ≠ t.c := fun e => absurd ((e ▸ HM7.out.p : Blk w7 t.c _ _).ty HM7.out.c).1 (by decide)
    have e3 : 0 ≤ (A : Int) ∧ (A : Int) < (L : Int) := by have := ALT.out; omega
    have e4 : A < L := ALT.out
    have S15 : (w7.setCell ⟨t.p, A, none⟩ (.string tb)).drew.cell? ⟨t.x, 2, none⟩ = some (.slice (some ⟨t.p, 0, none⟩) L L) ∧ (w7.setCell ⟨t.p, A, none⟩ (.string tb)).drew.cell? ⟨t.x, 3, none⟩ = some (.slice (some ⟨t.c, 0, none⟩) L L) ∧ (w7.setCell ⟨t.p, A, none⟩ (.string tb)).drew.cell? ⟨gp, 2, none⟩ = some (.string tb) ∧ (w7.setCell ⟨t.p, A, none⟩ (.string tb)).drew.cell? ⟨gp, 3, none⟩ = some (.int .i64 (A : Nat)) := by
      have q1 := X7.out.far (p := ⟨t.p, A, none⟩) (fun e => absurd ((e ▸ HM7.out.x : Blk w7 t.p _ _).ty HM7.out.p).1 (by decide)) (.string tb)
      have q2 := P7.out.far (p := ⟨t.p, A, none⟩) (fun e => absurd ((e ▸ P7.out : Blk w7 t.p _ _).ty HM7.out.p).1 (by decide)) (.string tb)
      exact ⟨q1.cell 2, q1.cell 3, q2.cell 2, q2.cell 3⟩
    refine start_ (n := 18) (S := fun w' => w'.cell? ⟨t.x, 2, none⟩ = some (.slice (some ⟨t.p, 0, none⟩) L L) ∧ w'.cell? ⟨t.x, 3, none⟩ = some (.slice (some ⟨t.c, 0, none⟩) L L) ∧ w'.cell? ⟨gp, 2, none⟩ = some (.string tb) ∧ w'.cell? ⟨gp, 3, none⟩ = some (.int .i64 (A : Nat))) (ds := [17]) #[false, false, false, false, false, false, false, false, false, false, false, false, false, false, false, false, false, false] (by kernel_rfl) rfl rfl ⟨x2, x3, p2, p3⟩ (fun hHeld => ?_)
    refine with_tabW tk15.tab tk15.bits (fun HT_ HW_ => ?_)
    refine pure_ (i := 0) (N := some 100) (v := ?_) (a' := ?_) #[true, false, false, false, false, false, false, false, false, false, false, false, false, false, false, false, false, false] rfl rfl (any_of HT_.out (by kernel_rfl)) (fun _ _ _ h => h) (Or.inl ⟨by rfl, ?_⟩) ?_ ?_
    rotate_left
    · intro w'
      go_simp
      try with_reducible rfl
    rotate_left
    · simp only [Act.put, List.setIfInBounds_toArray, List.set_cons_zero, List.set_cons_succ]
      rfl
    refine pure_ (i := 1) (N := some 101) (v := ?_) (a' := ?_) #[true, true, false, false, false, false, false, false, false, false, false, false, false, false, false, false, false, false] rfl rfl (any_of HT_.out (by kernel_rfl)) (fun _ _ _ h => h) (Or.inl ⟨by rfl, ?_⟩) ?_ ?_
    rotate_left
    · intro w'
      go_simp
      try with_reducible rfl
    rotate_left
    · simp only [Act.put, List.setIfInBounds_toArray, List.set_cons_zero, List.set_cons_succ]
      rfl
    refine pure_ (i := 2) (N := some 102) (v := ?_) (a' := ?_) #[true, true, true, false, false, false, false, false, false, false, false, false, false, false, false, false, false, false] rfl rfl (any_of HT_.out (by kernel_rfl)) (fun _ _ _ h => h) (Or.inl ⟨by rfl, ?_⟩) ?_ ?_
    rotate_left
    · intro w'
      go_simp
      try with_reducible rfl
    rotate_left
    · simp only [Act.put, List.setIfInBounds_toArray, List.set_cons_zero, List.set_cons_succ]
      rfl
    refine pure_ (i := 4) (N := some 104) (v := ?_) (a' := ?_) #[true, true, true, false, true, false, false, false, false, false, false, false, false, false, false, false, false, false] rfl rfl (any_of HT_.out (by kernel_rfl)) (fun _ _ _ h => h) (Or.inl ⟨by rfl, ?_⟩) ?_ ?_
    rotate_left
    · intro w'
      go_simp
      try with_reducible rfl
    rotate_left
    · simp only [Act.put, List.setIfInBounds_toArray, List.set_cons_zero, List.set_cons_succ]
      rfl
    refine pure_ (i := 6) (N := some 106) (v := ?_) (a' := ?_) #[true, true, true, false, true, false, true, false, false, false, false, false, false, false, false, false, false, false] rfl rfl (any_of HT_.out (by kernel_rfl)) (fun _ _ _ h => h) (Or.inl ⟨by rfl, ?_⟩) ?_ ?_
    rotate_left
    · intro w'
      go_simp
      try with_reducible rfl
    rotate_left
    · simp only [Act.put, List.setIfInBounds_toArray, List.set_cons_zero, List.set_cons_succ]
      rfl
    refine pure_ (i := 7) (N := some 107) (v := ?_) (a' := ?_) #[true, true, true, false, true, false, true, true, false, false, false, false, false, false, false, false, false, false] rfl rfl (any_of HT_.out (by kernel_rfl)) (fun _ _ _ h => h) (Or.inl ⟨by rfl, ?_⟩) ?_ ?_
    rotate_left
    · intro w'
      go_simp
      try with_reducible rfl
    rotate_left
    · simp only [Act.put, List.setIfInBounds_toArray, List.set_cons_zero, List.set_cons_succ]
      rfl
    refine pure_ (i := 8) (N := some 108) (v := ?_) (a' := ?_) #[true, true, true, false, true, false, true, true, true, false, false, false, false, false, false, false, false, false] rfl rfl (any_of HT_.out (by kernel_rfl)) (fun _ _ _ h => h) (Or.inl ⟨by rfl, ?_⟩) ?_ ?_
    rotate_left
    · intro w'
      go_simp
      try with_reducible rfl
    rotate_left
    · simp only [Act.put, List.setIfInBounds_toArray, List.set_cons_zero, List.set_cons_succ]
      rfl
    refine pure_ (i := 10) (N := some 110) (v := ?_) (a' := ?_) #[true, true, true, false, true, false, true, true, true, false, true, false, false, false, false, false, false, false] rfl rfl (any_of HT_.out (by kernel_rfl)) (fun _ _ _ h => h) (Or.inl ⟨by rfl, ?_⟩) ?_ ?_
    rotate_left
    · intro w'
      go_simp
      try with_reducible rfl
    rotate_left
    · simp only [Act.put, List.setIfInBounds_toArray, List.set_cons_zero, List.set_cons_succ]
      rfl
    refine pure_ (i := 12) (N := some 112) (v := ?_) (a' := ?_) #[true, true, true, false, true, false, true, true, true, false, true, false, true, false, false, false, false, false] rfl rfl (any_of HT_.out (by kernel_rfl)) (fun _ _ _ h => h) (Or.inl ⟨by rfl, ?_⟩) ?_ ?_
    rotate_left
    · intro w'
      go_simp
      try with_reducible rfl
    rotate_left
    · simp only [Act.put, List.setIfInBounds_toArray, List.set_cons_zero, List.set_cons_succ]
      rfl
    refine take_ (i := 3) (N := some 103) (v := ?_) (a' := ?_) #[true, true, true, true, true, false, true, true, true, false, true, false, true, false, false, false, false, false] rfl rfl (take_ofW HT_.out HW_.out (by kernel_rfl)) (fun _ _ _ h => h) (Or.inl ⟨by rfl, ?_⟩) hHeld ?_ ?_
    rotate_left
    · rintro w' ⟨s0, s1, s2, s3⟩
      go_simp
      try with_reducible rfl
    rotate_left
    · simp only [Act.put, List.setIfInBounds_toArray, List.set_cons_zero, List.set_cons_succ]
      rfl
    refine take_ (i := 5) (N := some 105) (v := ?_) (a' := ?_) #[true, true, true, true, true, true, true, true, true, false, true, false, true, false, false, false, false, false] rfl rfl (take_ofW HT_.out HW_.out (by kernel_rfl)) (fun _ _ _ h => h) (Or.inl ⟨by rfl, ?_⟩) hHeld ?_ ?_
    rotate_left
    · rintro w' ⟨s0, s1, s2, s3⟩
      go_simp
      try with_reducible rfl
    rotate_left
    · simp only [Act.put, List.setIfInBounds_toArray, List.set_cons_zero, List.set_cons_succ]
      rfl
    refine take_ (i := 9) (N := some 109) (v := ?_) (a' := ?_) #[true, true, true, true, true, true, true, true, true, true, true, false, true, false, false, false, false, false] rfl rfl (take_ofW HT_.out HW_.out (by kernel_rfl)) (fun _ _ _ h => h) (Or.inl ⟨by rfl, ?_⟩) hHeld ?_ ?_
    rotate_left
    · rintro w' ⟨s0, s1, s2, s3⟩
      go_simp
      try with_reducible rfl
    rotate_left
    · simp only [Act.put, List.setIfInBounds_toArray, List.set_cons_zero, List.set_cons_succ]
      rfl
    refine take_ (i := 11) (N := some 111) (v := ?_) (a' := ?_) #[true, true, true, true, true, true, true, true, true, true, true, true, true, false, false, false, false, false] rfl rfl (take_ofW HT_.out HW_.out (by kernel_rfl)) (fun _ _ _ h => h) (Or.inl ⟨by rfl, ?_⟩) hHeld ?_ ?_
    rotate_left
    · rintro w' ⟨s0, s1, s2, s3⟩
      go_simp
      try with_reducible rfl
    rotate_left
    · simp only [Act.put, List.setIfInBounds_toArray, List.set_cons_zero, List.set_cons_succ]
      rfl
    refine take_ (i := 13) (N := some 113) (v := ?_) (a' := ?_) #[true, true, true, true, true, true, true, true, true, true, true, true, true, true, false, false, false, false] rfl rfl (take_ofW HT_.out HW_.out (by kernel_rfl)) (fun _ _ _ h => h) (Or.inl ⟨by rfl, ?_⟩) hHeld ?_ ?_
    rotate_left
    · rintro w' ⟨s0, s1, s2, s3⟩
      go_simp
      try with_reducible rfl
    rotate_left
    · simp only [Act.put, List.setIfInBounds_toArray, List.set_cons_zero, List.set_cons_succ]
      rfl
    refine pure_ (i := 14) (N := some 114) (v := ?_) (a' := ?_) #[true, true, true, true, true, true, true, true, true, true, true, true, true, true, true, false, false, false] rfl rfl (any_of HT_.out (by kernel_rfl)) (fun _ _ _ h => h) (Or.inl ⟨by rfl, ?_⟩) ?_ ?_
    rotate_left
    · intro w'
      go_simp
      try with_reducible rfl
    rotate_left
    · simp only [Act.put, List.setIfInBounds_toArray, List.set_cons_zero, List.set_cons_succ]
      rfl
    refine one_ (i := 15) (N := none) #[true, true, true, true, true, true, true, true, true, true, true, true, true, true, true, true, false, false] rfl rfl (one_of HT_.out (by kernel_rfl)) (by decide) (fun K hK => ?_)
    refine skip_ (w1 := ?_) (by rfl) rfl ?_ ?_
    rotate_left
    · go_simp
      try rfl
    refine hK.out _ _ (S15) (fun hHeld => ?_)
    clear hK K
    refine pure_ (i := 16) (N := some 115) (v := ?_) (a' := ?_) #[true, true, true, true, true, true, true, true, true, true, true, true, true, true, true, true, true, false] rfl rfl (any_of HT_.out (by kernel_rfl)) (fun _ _ _ h => h) (Or.inl ⟨by rfl, ?_⟩) ?_ ?_
    rotate_left
    · intro w'
      go_simp
      try with_reducible rfl
    rotate_left
    · simp only [Act.put, List.setIfInBounds_toArray, List.set_cons_zero, List.set_cons_succ]
      rfl
    refine last_ (i := 17) (N := none) #[true, true, true, true, true, true, true, true, true, true, true, true, true, true, true, true, true, true] rfl rfl (one_of HT_.out (by kernel_rfl)) (by decide) (fun K hK => ?_)
    refine skip_ (w1 := ?_) (by rfl) rfl ?_ ?_
    rotate_left
    · go_simp
      try rfl
    refine hK.out _ _ ?_
    clear hK K
    refine done_ (done_of HT_.out (by kernel_rfl)) ?_
    clear HT_ HW_
    go_upto_region 16 with fail
    refine gworld (fun W => Hid (W = ((w7.setCell ⟨t.p, A, none⟩ (.string tb)).setCell ⟨t.c, A, none⟩ (.bool true)).drew)) (Lib.hid rfl) ?_
    rintro w8 HW8
    obtain ⟨l, hl⟩ : ∃ l, Hid (m.left = l) := ⟨_, Lib.hid rfl⟩
    have x4 : w8.cell? ⟨t.x, 4, none⟩ = some (.int .i64 l) := by
      rw [HW8.out, ← hl.out]
      exact (((X7.out.far (p := ⟨t.p, A, none⟩) (fun e => absurd ((e ▸ HM7.out.x : Blk w7 t.p _ _).ty HM7.out.p).1 (by decide)) (.string tb)).far (p := ⟨t.c, A, none⟩) (fun e => absurd ((e ▸ HM7.out.x : Blk w7 t.c _ _).ty HM7.out.c).1 (by decide)) (.bool true)).drew).cell 4
    have f4 : w8.frozen? ⟨t.x, 4, none⟩ = false := by
      rw [HW8.out]
      exact (((X7.out.far (p := ⟨t.p, A, none⟩) (fun e => absurd ((e ▸ HM7.out.x : Blk w7 t.p _ _).ty HM7.out.p).1 (by decide)) (.string tb)).far (p := ⟨t.c, A, none⟩) (fun e => absurd ((e ▸ HM7.out.x : Blk w7 t.c _ _).ty HM7.out.c).1 (by decide)) (.bool true)).drew).frozen 4
    have hl1 : 1 ≤ l ∧ l ≤ 11 := ⟨by rw [← hl.out]; exact LEFT.out, by rw [← hl.out]; exact HM7.out.lf.2⟩
    have hw : wrap64 (l - 1) = l - 1 := by unfold wrap64; omega
    have J9 : Hid (JnA B (w8.setCell ⟨t.x, 4, none⟩ (.int .i64 (l - 1))) j vS vN T { J with some := (J).some.set i (m.put p.at_ p.text) }) := by
      have h9 := (J7.out.piece HT.out HMI.out A p.text TXT.out LEFT.out).below (below_drewN (Below.refl _ _) 1)
      unfold putW at h9
      rw [TB.out, hl.out] at h9
      rw [← hA.out] at h9
      rw [HW8.out, ← hA.out]
      exact Lib.hid h9
    have K9 : Hid (Kp (JS j vS0 vN T0) w (w8.setCell ⟨t.x, 4, none⟩ (.int .i64 (l - 1)))) := by
      rw [HW8.out]
      have k9 := (putW_kp w7 t A p.text (l - 1)).trans (Kp.of_below (below_drewN (Below.refl _ _) 1))
      unfold putW at k9
      rw [TB.out] at k9
      exact Lib.hid (KTR.out _ _ K7.out k9)
    have G9 : Hid (∀ g cs u, Blk w7 g u cs → u ∉ [9, 72, 4] → Blk (w8.setCell ⟨t.x, 4, none⟩ (.int .i64 (l - 1))) g u cs) := Lib.hid (fun g cs u hg hu => by
      rw [HW8.out]
      have k9 := (putW_kp w7 t A p.text (l - 1)).trans (Kp.of_below (below_drewN (Below.refl _ _) 1))
      unfold putW at k9
      rw [TB.out] at k9
      refine hg.kp k9 ?_
      rintro (e | e | e)
      · subst e; exact hu (by rw [(hg.ty HM7.out.x).1]; decide)
      · subst e; exact hu (by rw [(hg.ty HM7.out.p).1]; decide)
      · subst e; exact hu (by rw [(hg.ty HM7.out.c).1]; decide))
    have M9 := Lib.hid (G9.out _ _ _ M7.out (by decide))
    have P9 := Lib.hid (G9.out _ _ _ P7.out (by decide))
    clear HW8 G9 x2 x3 p2 p3 c5 ho5 f5 f6 hpc e3 e4 X7 M7 P7 J7 K7 HM7 hHeld
    by_cases hlast : 1 < l
    · have d1 : decide (0 < l - 1) = true := decide_eq_true (by omega)
      have e5 : 0 < l - 1 := by omega
      have HLAST := Lib.hid hlast
      clear hlast hl1
      go_upto_region 18 with fail
      clear x4 f4 hw d1 e5
      refine gworld (fun W => Hid (W = w8.setCell ⟨t.x, 4, none⟩ (.int .i64 (l - 1)))) (Lib.hid rfl) ?_
      rintro w9 HW9
      rw [← HW9.out] at J9 K9 M9 P9
      go_wp2_with (first
        | ((with_reducible refine gate_store (t := 36) (p := 4) (v := .tmp 128) rfl ?_); refine wpList_store_row rfl 36 (.tmp 4) (.tmp 128) rfl gt zTold rfl rfl 36 zTold M9.out size_told rfl one_ztold ?_))
      have MF := Lib.hid (M9.out.setRow zTold)
      refine bodyPost_ret (results_ctt rfl _ _ gt 36 _ (0, 0) _ rfl MF.out Tryd.underlying36 rfl rfl) rfl ?_
      rw [HTF.out]
      rw [show putIn J i (J.some[i]'hi) (ptOf s) = ({ J with some := J.some.set i (m.put p.at_ p.text) }, noTk 0) by
        rw [hme.out, hp.out]; unfold putIn; rw [if_pos (by rw [hl.out]; have := HLAST.out; omega)]]
      exact ⟨rfl, vS, vN, T, J9.out.kp (Kp.rowAt (S := fun i => i = gt) rfl zTold) (fun i hi e => J9.out.notIn M9.out (by decide) (e ▸ hi)), K9.out.row SG.out.1 zTold, CUT0.out⟩
    · obtain rfl : l = 1 := by omega
      clear hlast hl1 hw
      go_upto_region 19 with fail
      clear x4 f4
      refine gworld (fun W => Hid (W = w8.setCell ⟨t.x, 4, none⟩ (.int .i64 (1 - 1)))) (Lib.hid rfl) ?_
      rintro w9 HW9
      rw [← HW9.out] at J9 K9 M9 P9
      obtain ⟨m2, hm2⟩ : ∃ m2, Hid (m.put p.at_ p.text = m2) := ⟨_, Lib.hid rfl⟩
      rw [hm2.out] at J9
      obtain ⟨J1, hJ1⟩ : ∃ J1, Hid (({ J with some := J.some.set i m2 } : Jn) = J1) := ⟨_, Lib.hid rfl⟩
      rw [hJ1.out] at J9
      have HI1 := Lib.hid (show i < J1.some.length by rw [← hJ1.out]; show i < (J.some.set i m2).length; rw [List.length_set]; exact HI.out)
      have HMI1 := Lib.hid (show J1.some[i]? = some m2 by rw [← hJ1.out]; show (J.some.set i m2)[i]? = _; rw [List.getElem?_set_self HI.out])
      have HSZ9 := Lib.hid (K9.out.size)
      have HCUT := Lib.hid (cutM_any B j (J1.noted : Nat) vN vS J1.most (T.map (·.x)) i w9 J9.out.hj (Nat.le_trans HB.out HSZ9.out) (by rw [← ptrX_eq]; exact J9.out.s) (by rw [List.length_map, J9.out.len]; exact HI1.out) (by rw [List.length_map, J9.out.len]; have := J9.out.bd; omega))
      go_wp2_with fail
      refine HCUT.out.mono ?_
      rintro e w10 ⟨rfl, v', hjb, hwin, hk10, hfr⟩
      have J10 := Lib.hid (J9.out.cut i HI1.out hjb hwin hk10)
      have HM9 := J9.out.ms i t m2 HT.out HMI1.out
      have HM10 := Lib.hid (HM9.kp hk10 (fun e => absurd ((e ▸ HM9.x : Blk w9 j _ _).ty J9.out.hj).1 (by decide)) (fun e => absurd ((e ▸ HM9.p : Blk w9 j _ _).ty J9.out.hj).1 (by decide)) (fun e => absurd ((e ▸ HM9.c : Blk w9 j _ _).ty J9.out.hj).1 (by decide)))
      have M10 := Lib.hid (M9.out.kp hk10 (fun e => absurd ((e ▸ M9.out : Blk w9 j _ _).ty J9.out.hj).1 (by decide)))
      have P10 := Lib.hid (P9.out.kp hk10 (fun e => absurd ((e ▸ P9.out : Blk w9 j _ _).ty J9.out.hj).1 (by decide)))
      have K10 := Lib.hid (K9.out.trans (hk10.mono (S' := JS j vS0 vN T0) (fun i hi e => .inl e)))
      have FR := Lib.hid (show ∀ b, v'.ownBlock = some b → w.heap.size ≤ b from fun b hb => Nat.le_trans HSZ9.out (hfr b hb))
      have HL2 := Lib.hid (show m2.pcs.length = L by rw [← hm2.out, ← hL.out]; exact List.length_set)
      have HJO := Lib.hid (joined HM10.out)
      have x2 : w10.cell? ⟨t.x, 2, none⟩ = some (.slice (some ⟨t.p, 0, none⟩) m2.pcs.length m2.pcs.length) := HM10.out.x.cell 2
      rw [HL2.out] at HJO x2
      obtain ⟨bb, BB⟩ : ∃ x : ByteArray, Hid (⟨m2.pcs.flatten.toArray⟩ = x) := ⟨_, Lib.hid rfl⟩
      rw [BB.out] at HJO
      have HFL := Lib.hid (flatten_le m2.pcs HM10.out.sz)
      have HN2 := Lib.hid HM10.out.n
      have CUTS := Lib.hid (show ∀ k, JS j v' vN (T.eraseIdx i) k → JS j vS0 vN T0 k ∨ w.heap.size ≤ k from fun k hk => by
        rcases hk with e | e | e | ⟨u, hu, e⟩
        · exact .inl (.inl e)
        · exact .inr (FR.out k e)
        · exact .inl (.inr (.inr (.inl e)))
        · exact CUT0.out k (.inr (.inr (.inr ⟨u, (List.eraseIdx_sublist T i).subset hu, e⟩))))
      clear hjb hwin hk10 hfr HM9 M9 P9 K9 J9 HCUT HW9
      go_upto_region 20 with fail
      go_wp2_with fail
      refine HJO.out.mono ?_
      rintro e w11 ⟨rfl, b11⟩
      have J11 := Lib.hid ((J10.out.below b11).below (below_drewN (Below.refl _ _) 1))
      have M11 := Lib.hid (M10.out.below b11 M10.out.lt).drew
      have P11 := Lib.hid (P10.out.below b11 P10.out.lt).drew
      have K11 := Lib.hid (show Kp (JS j vS0 vN T0) w w11.drew from K10.out.trans ((Kp.of_below b11).trans (Kp.of_below (below_drewN (Below.refl _ _) 1))))
      obtain ⟨dg, DG⟩ : ∃ x, Hid (digL p.id m2.pcs.flatten = x) := ⟨_, Lib.hid rfl⟩
      obtain ⟨rb, RB⟩ : ∃ x : ByteArray, Hid (⟨dg.toArray⟩ = x) := ⟨_, Lib.hid rfl⟩
      have HBB := Lib.hid (show Below B w w11.drew from K11.out.below (fun i hi => (HJ.out.lt hi).1) HB.out)
      have HDG := Lib.hid (digest_any p.id m2.pcs.flatten w11.drew (by rw [← hp.out]; exact ptOf_id s) (by have := HFL.out; have := HN2.out; omega) (HK.out.belowB HKS.out HBB.out) (Nat.lt_of_lt_of_le HKS.out (Nat.le_trans HB.out K11.out.size)))
      rw [DG.out, IB.out, BB.out, RB.out] at HDG
      have p0 : w11.drew.cell? ⟨gp, 0, none⟩ = some (.string ib) := P11.out.cell 0
      have p1 : w11.drew.cell? ⟨gp, 1, none⟩ = some (.string sm) := P11.out.cell 1
      have HE := Lib.hid (show (rb.toList == sm.toList) = decide (dg = p.sum) by rw [← RB.out, ← SM.out, ByteArray.toList_eq, ByteArray.toList_eq]; exact beq_dec dg p.sum)
      clear b11 J10 M10 P10 K10 x2 HJO HBB
      go_upto_region 21 with fail
      refine start_ (n := 7) (S := fun w' => w'.cell? ⟨gp, 0, none⟩ = some (.string ib) ∧ w'.cell? ⟨gp, 1, none⟩ = some (.string sm)) (ds := []) #[false, false, false, false, false, false, false] (by kernel_rfl) rfl rfl ⟨p0, p1⟩ (fun hHeld => ?_)
      refine with_tabW tk21.tab tk21.bits (fun HT_ HW_ => ?_)
      refine pure_ (i := 0) (N := some 139) (v := ?_) (a' := ?_) #[true, false, false, false, false, false, false] rfl rfl (any_of HT_.out (by kernel_rfl)) (fun _ _ _ h => h) (Or.inl ⟨by rfl, ?_⟩) ?_ ?_
      rotate_left
      · intro w'
        go_simp
        try with_reducible rfl
      rotate_left
      · simp only [Act.put, List.setIfInBounds_toArray, List.set_cons_zero, List.set_cons_succ]
        rfl
      refine pure_ (i := 2) (N := some 141) (v := ?_) (a' := ?_) #[true, false, true, false, false, false, false] rfl rfl (any_of HT_.out (by kernel_rfl)) (fun _ _ _ h => h) (Or.inl ⟨by rfl, ?_⟩) ?_ ?_
      rotate_left
      · intro w'
        go_simp
        try with_reducible rfl
      rotate_left
      · simp only [Act.put, List.setIfInBounds_toArray, List.set_cons_zero, List.set_cons_succ]
        rfl
      refine pure_ (i := 4) (N := some 143) (v := ?_) (a' := ?_) #[true, false, true, false, true, false, false] rfl rfl (any_of HT_.out (by kernel_rfl)) (fun _ _ _ h => h) (Or.inl ⟨by rfl, ?_⟩) ?_ ?_
      rotate_left
      · intro w'
        go_simp
        try with_reducible rfl
      rotate_left
      · simp only [Act.put, List.setIfInBounds_toArray, List.set_cons_zero, List.set_cons_succ]
        rfl
      refine take_ (i := 1) (N := some 140) (v := ?_) (a' := ?_) #[true, true, true, false, true, false, false] rfl rfl (take_ofW HT_.out HW_.out (by kernel_rfl)) (fun _ _ _ h => h) (Or.inl ⟨by rfl, ?_⟩) hHeld ?_ ?_
      rotate_left
      · rintro w' ⟨s0, s1⟩
        go_simp
        try with_reducible rfl
      rotate_left
      · simp only [Act.put, List.setIfInBounds_toArray, List.set_cons_zero, List.set_cons_succ]
        rfl
      refine take_ (i := 5) (N := some 144) (v := ?_) (a' := ?_) #[true, true, true, false, true, true, false] rfl rfl (take_ofW HT_.out HW_.out (by kernel_rfl)) (fun _ _ _ h => h) (Or.inl ⟨by rfl, ?_⟩) hHeld ?_ ?_
      rotate_left
      · rintro w' ⟨s0, s1⟩
        go_simp
        try with_reducible rfl
      rotate_left
      · simp only [Act.put, List.setIfInBounds_toArray, List.set_cons_zero, List.set_cons_succ]
        rfl
      refine one_ (i := 3) (N := some 142) #[true, true, true, true, true, true, false] rfl rfl (one_of HT_.out (by kernel_rfl)) (by decide) (fun K hK => ?_)
      refine goes_ Tryd.func19 (by kernel_rfl) rfl #[.string ib, .string bb] (by rfl) rfl rfl (by first | done | rfl | (simp only [List.map_toArray, List.map_cons, List.map_nil]; done) | (simp only [List.map_toArray, List.map_cons, List.map_nil]; rfl)) ?_
      refine (HDG.out).mono ?_
      rintro e' w12 ⟨rfl, b12⟩
      refine ⟨_, rfl, ?_⟩
      refine hK.out _ _ (⟨(P11.out.below b12 P11.out.lt).cell 0, (P11.out.below b12 P11.out.lt).cell 1⟩) (fun hHeld => ?_)
      clear hK K
      refine norm_ (a' := ?_) ?_ ?_
      rotate_left
      · show Act.put _ (some 142) _ = _
        simp only [Act.put, List.setIfInBounds_toArray, List.set_cons_zero, List.set_cons_succ]
        rfl
      refine pure_ (i := 6) (N := some 145) (v := ?_) (a' := ?_) #[true, true, true, true, true, true, true] rfl rfl (any_of HT_.out (by kernel_rfl)) (fun _ _ _ h => h) (Or.inl ⟨by rfl, ?_⟩) ?_ ?_
      rotate_left
      · intro w'
        go_simp
        try with_reducible rfl
      rotate_left
      · simp only [Act.put, List.setIfInBounds_toArray, List.set_cons_zero, List.set_cons_succ]
        rfl
      refine done_ (done_of HT_.out (by kernel_rfl)) ?_
      clear HT_ HW_
      have J12 := Lib.hid (J11.out.below b12)
      have M12 := Lib.hid (M11.out.below b12 M11.out.lt)
      have P12 := Lib.hid (P11.out.below b12 P11.out.lt)
      have K12 := Lib.hid (K11.out.trans (Kp.of_below b12))
      clear b12 J11 M11 P11 K11 p0 p1 HDG hHeld
      have he := HE.out
      by_cases hd : dg = p.sum
      · have HD := Lib.hid hd
        rw [decide_eq_true hd] at he
        clear hd
        try simp only [he, Bool.not_false, Bool.not_true]
        go_upto_region 23 with fail
        have J12d := Lib.hid (J12.out.below (below_drewN (Below.refl _ _) 1))
        have HPUT := Lib.hid (putT_any B j (J1.most : Nat) v' vN J1.noted J1.done p.id w12.drew J12d.out.hj (Nat.le_trans HB.out K12.out.size) J12d.out.n J12d.out.bd.2.1 J12d.out.bd.2.2.2)
        rw [IB.out] at HPUT
        have NGP := Lib.hid (show ¬ (gp = j ∨ vN.ownBlock = some gp) from fun e => J12.out.notIn P12.out (by decide) (e.elim .inl (fun e => .inr (.inr (.inl e)))))
        have p0 : w12.drew.cell? ⟨gp, 0, none⟩ = some (.string ib) := P12.out.cell 0
        refine start_ (n := 6) (S := fun w' => w'.cell? ⟨gp, 0, none⟩ = some (.string ib)) (ds := []) #[false, false, false, false, false, false] (by kernel_rfl) rfl rfl p0 (fun hHeld => ?_)
        refine with_tabW tk23.tab tk23.bits (fun HT_ HW_ => ?_)
        refine pure_ (i := 0) (N := some 147) (v := ?_) (a' := ?_) #[true, false, false, false, false, false] rfl rfl (any_of HT_.out (by kernel_rfl)) (fun _ _ _ h => h) (Or.inl ⟨by rfl, ?_⟩) ?_ ?_
        rotate_left
        · intro w'
          go_simp
          try with_reducible rfl
        rotate_left
        · simp only [Act.put, List.setIfInBounds_toArray, List.set_cons_zero, List.set_cons_succ]
          rfl
        refine pure_ (i := 1) (N := some 148) (v := ?_) (a' := ?_) #[true, true, false, false, false, false] rfl rfl (any_of HT_.out (by kernel_rfl)) (fun _ _ _ h => h) (Or.inl ⟨by rfl, ?_⟩) ?_ ?_
        rotate_left
        · intro w'
          go_simp
          try with_reducible rfl
        rotate_left
        · simp only [Act.put, List.setIfInBounds_toArray, List.set_cons_zero, List.set_cons_succ]
          rfl
        refine pure_ (i := 2) (N := some 149) (v := ?_) (a' := ?_) #[true, true, true, false, false, false] rfl rfl (any_of HT_.out (by kernel_rfl)) (fun _ _ _ h => h) (Or.inl ⟨by rfl, ?_⟩) ?_ ?_
        rotate_left
        · intro w'
          go_simp
          try with_reducible rfl
        rotate_left
        · simp only [Act.put, List.setIfInBounds_toArray, List.set_cons_zero, List.set_cons_succ]
          rfl
        refine pure_ (i := 3) (N := some 150) (v := ?_) (a' := ?_) #[true, true, true, true, false, false] rfl rfl (any_of HT_.out (by kernel_rfl)) (fun _ _ _ h => h) (Or.inl ⟨by rfl, ?_⟩) ?_ ?_
        rotate_left
        · intro w'
          go_simp
          try with_reducible rfl
        rotate_left
        · simp only [Act.put, List.setIfInBounds_toArray, List.set_cons_zero, List.set_cons_succ]
          rfl
        refine take_ (i := 4) (N := some 151) (v := ?_) (a' := ?_) #[true, true, true, true, true, false] rfl rfl (take_ofW HT_.out HW_.out (by kernel_rfl)) (fun _ _ _ h => h) (Or.inl ⟨by rfl, ?_⟩) hHeld ?_ ?_
        rotate_left
        · rintro w' s0
          go_simp
          try with_reducible rfl
        rotate_left
        · simp only [Act.put, List.setIfInBounds_toArray, List.set_cons_zero, List.set_cons_succ]
          rfl
        refine one_ (i := 5) (N := some 152) #[true, true, true, true, true, true] rfl rfl (one_of HT_.out (by kernel_rfl)) (by decide) (fun K hK => ?_)
        refine goes_ Tryd.func28 (by kernel_rfl) rfl #[.pointer (some ⟨j, 2, none⟩), .string ib] (by rfl) rfl rfl (by first | done | rfl | (simp only [List.map_toArray, List.map_cons, List.map_nil]; done) | (simp only [List.map_toArray, List.map_cons, List.map_nil]; rfl)) ?_
        refine (HPUT.out).mono ?_
        rintro e' w13 ⟨rfl, v2, hj13, hw13, hk13, hv13⟩
        refine ⟨_, rfl, ?_⟩
        refine hK.out _ _ ((P12.out.drew.kp hk13 NGP.out).cell 0) (fun hHeld => ?_)
        clear hK K
        refine norm_ (a' := ?_) ?_ ?_
        rotate_left
        · show Act.put _ (some 152) _ = _
          simp only [Act.put, List.setIfInBounds_toArray, List.set_cons_zero, List.set_cons_succ]
          rfl
        refine done_ (done_of HT_.out (by kernel_rfl)) ?_
        clear HT_ HW_
        have J13 := Lib.hid (J12d.out.noted p.id hj13 hw13 hk13 hv13)
        have M13 := Lib.hid (M12.out.drew.kp hk13 (fun e => J12.out.notIn M12.out (by decide) (e.elim .inl (fun e => .inr (.inr (.inl e))))))
        have P13 := Lib.hid (P12.out.drew.kp hk13 NGP.out)
        have K13 := Lib.hid (K12.out.drewR.trans (hk13.mono (S' := JS j vS0 vN T0) (fun i hi e => e.elim .inl (fun e => .inr (.inr (.inl e))))))
        have CUT2 := Lib.hid (show ∀ k, JS j v' v2 (T.eraseIdx i) k → JS j vS0 vN T0 k ∨ w.heap.size ≤ k from fun k hk => by
          rcases hk with e | e | e | e
          · exact CUTS.out k (.inl e)
          · exact CUTS.out k (.inr (.inl e))
          · rcases hv13 with h | ⟨b, h, hb⟩
            · exact CUTS.out k (.inr (.inr (.inl (h ▸ e))))
            · rw [h] at e; cases e; exact .inr (Nat.le_trans K12.out.size hb)
          · exact CUTS.out k (.inr (.inr (.inr e))))
        have q0 : w13.cell? ⟨gp, 0, none⟩ = some (.string ib) := P13.out.cell 0
        clear hj13 hw13 hk13 hv13 hHeld p0 HPUT
        go_wp2_with (first
          | ((with_reducible refine gate_store (t := 36) (p := 4) (v := .tmp 156) rfl ?_); refine wpList_store_row rfl 36 (.tmp 4) (.tmp 156) rfl gt #[.string ib, .string bb] rfl rfl 36 zTold M13.out size_told rfl (one_told2 _ _) ?_))
        have MF := Lib.hid (M13.out.setRow #[.string ib, .string bb])
        refine bodyPost_ret (results_ctt rfl _ _ gt 36 _ (0, 0) _ rfl MF.out Tryd.underlying36 rfl rfl) rfl ?_
        rw [HTF.out]
        rw [show putIn J i (J.some[i]'hi) (ptOf s) = ({ J1 with some := J1.some.eraseIdx i, done := pushQ J1.noted J1.done p.id }, ⟨p.id, m2.pcs.flatten, true, 0⟩) by
          rw [hme.out, hp.out]; unfold putIn lastIn; rw [if_neg (by rw [hl.out]; omega), hm2.out, DG.out, if_pos HD.out, hJ1.out]]
        exact ⟨by show _ = Ending.returned (.tuple #[.agg #[.string ⟨p.id.toArray⟩, .string ⟨m2.pcs.flatten.toArray⟩], .bool true, .int .i64 0]); rw [IB.out, BB.out]; rfl, v', v2, T.eraseIdx i, J13.out.kp (Kp.rowAt (S := fun i => i = gt) rfl _) (fun i hi e => J13.out.notIn M13.out (by decide) (e ▸ hi)), K13.out.row SG.out.1 _, CUT2.out⟩
      · have HD := Lib.hid hd
        rw [decide_eq_false hd] at he
        clear hd
        try simp only [he, Bool.not_false, Bool.not_true]
        go_wp2_with (first
          | ((with_reducible refine gate_store (t := 36) (p := 4) (v := .tmp 146) rfl ?_); refine wpList_store_row rfl 36 (.tmp 4) (.tmp 146) rfl gt zTold rfl rfl 36 zTold M12.out size_told rfl one_ztold ?_))
        have MF := Lib.hid (M12.out.setRow zTold)
        refine bodyPost_ret (results_ctt rfl _ _ gt 36 _ (0, 0) _ rfl MF.out Tryd.underlying36 rfl rfl) rfl ?_
        rw [HTF.out]
        rw [show putIn J i (J.some[i]'hi) (ptOf s) = ({ J1 with some := J1.some.eraseIdx i }, noTk 220) by
          rw [hme.out, hp.out]; unfold putIn lastIn; rw [if_neg (by rw [hl.out]; omega), hm2.out, DG.out, if_neg HD.out, hJ1.out]]
        exact ⟨rfl, v', vN, T.eraseIdx i, J12.out.kp (Kp.rowAt (S := fun i => i = gt) rfl zTold) (fun i hi e => J12.out.notIn M12.out (by decide) (e ▸ hi)), K12.out.row SG.out.1 zTold, CUTS.out⟩
  · refine step_make_run (by rfl) (.tmp 49) (.tmp 49) 30 rfl rfl rfl (MB.out _) ?_
    refine hK.out _ _ (⟨(P4.out.drew.alloc _).cell 0, (P4.out.drew.alloc _).cell 1, (P4.out.drew.alloc _).cell 4⟩) (fun hHeld => ?_)
    clear hK K
    refine norm_ (a' := ?_) ?_ ?_
    rotate_left
    · show Act.put _ (some 50) _ = _
      simp only [Act.put, List.setIfInBounds_toArray, List.set_cons_zero, List.set_cons_succ]
      rfl
    refine one_ (i := 9) (N := some 47) #[true, true, true, true, true, true, true, true, true, true, true, true, true, true, true, false, false, false] rfl rfl (one_of HT_.out (by kernel_rfl)) (by decide) (fun K hK => ?_)
    refine step_make_run (by rfl) (.tmp 46) (.tmp 46) 22 rfl rfl rfl (MS.out _) ?_
    refine hK.out _ _ (⟨((P4.out.drew.alloc _).alloc _).cell 0, ((P4.out.drew.alloc _).alloc _).cell 1, ((P4.out.drew.alloc _).alloc _).cell 4⟩) (fun hHeld => ?_)
    clear hK K
    refine norm_ (a' := ?_) ?_ ?_
    rotate_left
    · show Act.put _ (some 47) _ = _
      simp only [Act.put, List.setIfInBounds_toArray, List.set_cons_zero, List.set_cons_succ]
      rfl
    refine pure_ (i := 15) (N := some 53) (v := ?_) (a' := ?_) #[true, true, true, true, true, true, true, true, true, true, true, true, true, true, true, true, false, false] rfl rfl (any_of HT_.out (by kernel_rfl)) (fun _ _ _ h => h) (Or.inl ⟨by rfl, ?_⟩) ?_ ?_
    rotate_left
    · intro w'
      go_simp
      try with_reducible rfl
    rotate_left
    · simp only [Act.put, List.setIfInBounds_toArray, List.set_cons_zero, List.set_cons_succ]
      rfl
    refine one_ (i := 16) (N := some 54) #[true, true, true, true, true, true, true, true, true, true, true, true, true, true, true, true, true, false] rfl rfl (one_of HT_.out (by kernel_rfl)) (by decide) (fun K hK => ?_)
    refine value_ (w1 := ?_) (v := ?_) (by rfl) rfl ?_ ?_
    rotate_left 2
    · go_simp
      constructor <;> rfl
    refine hK.out _ _ (⟨(((P4.out.drew.alloc _).alloc _).alloc _).cell 0, (((P4.out.drew.alloc _).alloc _).alloc _).cell 1, (((P4.out.drew.alloc _).alloc _).alloc _).cell 4⟩) (fun hHeld => ?_)
    clear hK K
    refine norm_ (a' := ?_) ?_ ?_
    rotate_left
    · show Act.put _ (some 54) _ = _
      simp only [Act.put, List.setIfInBounds_toArray, List.set_cons_zero, List.set_cons_succ]
      rfl
    refine one_ (i := 17) (N := some 55) #[true, true, true, true, true, true, true, true, true, true, true, true, true, true, true, true, true, true] rfl rfl (one_of HT_.out (by kernel_rfl)) (by decide) (fun K hK => ?_)
    refine goes_ Tryd.func25 (by kernel_rfl) rfl #[.pointer (some ⟨j, 0, none⟩), .pointer (some ⟨w4.heap.size + 1 + 1, 0, none⟩)] (by rfl) rfl rfl (by first | done | rfl | (simp only [List.map_toArray, List.map_cons, List.map_nil]; done) | (simp only [List.map_toArray, List.map_cons, List.map_nil]; rfl)) ?_
    refine (HPUT.out ((((w4.alloc (.cells (bls (List.replicate N false)).toArray 4)).alloc (.cells (cstr (List.replicate N [])).toArray 9)).alloc (.cells #[.string ib, .string sm, .slice (some ⟨w4.heap.size + 1, 0, none⟩) N N, .slice (some ⟨w4.heap.size, 0, none⟩) N N, .int .i64 (N : Nat)] 72)).drew) (w4.heap.size + 1 + 1) (below_drewN ((((Below.refl w4.heap.size w4).alloc (Nat.le_refl _) _).alloc (by simp) _).alloc (by simp; omega) _) 1)).mono ?_
    rintro e' w5 ⟨rfl, vS, hjb, hwin, hk5, hfr⟩
    refine ⟨_, rfl, ?_⟩
    refine hK.out _ _ (⟨((((P4.out.alloc _).alloc _).alloc _).drew.kp hk5 NGP.out).cell 0, ((((P4.out.alloc _).alloc _).alloc _).drew.kp hk5 NGP.out).cell 1, ((((P4.out.alloc _).alloc _).alloc _).drew.kp hk5 NGP.out).cell 4⟩) (fun hHeld => ?_)
    clear hK K
    refine norm_ (a' := ?_) ?_ ?_
    rotate_left
    · show Act.put _ (some 55) _ = _
      simp only [Act.put, List.setIfInBounds_toArray, List.set_cons_zero, List.set_cons_succ]
      rfl
    refine done_ (done_of HT_.out (by kernel_rfl)) ?_
    clear HT_ HW_
    have BX := Lib.hid (show Below w4.heap.size w4 ((((w4.alloc (.cells (bls (List.replicate N false)).toArray 4)).alloc (.cells (cstr (List.replicate N [])).toArray 9)).alloc (.cells #[.string ib, .string sm, .slice (some ⟨w4.heap.size + 1, 0, none⟩) N N, .slice (some ⟨w4.heap.size, 0, none⟩) N N, .int .i64 (N : Nat)] 72)).drew) from below_drewN ((((Below.refl w4.heap.size w4).alloc (Nat.le_refl _) _).alloc (by simp) _).alloc (by simp; omega) _) 1)
    have J8 := Lib.hid (J4.out.below BX.out)
    have HBW := Lib.hid (Nat.le_trans HB.out B4.out.size)
    have HMA : Hid (MsA B ((((w4.alloc (.cells (bls (List.replicate N false)).toArray 4)).alloc (.cells (cstr (List.replicate N [])).toArray 9)).alloc (.cells #[.string ib, .string sm, .slice (some ⟨w4.heap.size + 1, 0, none⟩) N N, .slice (some ⟨w4.heap.size, 0, none⟩) N N, .int .i64 (N : Nat)] 72)).drew) ⟨w4.heap.size + 1 + 1, w4.heap.size + 1, w4.heap.size⟩ (freshM p)) := by
      have e : msC ⟨w4.heap.size + 1 + 1, w4.heap.size + 1, w4.heap.size⟩ (freshM p) = #[.string ib, .string sm, .slice (some ⟨w4.heap.size + 1, 0, none⟩) N N, .slice (some ⟨w4.heap.size, 0, none⟩) N N, .int .i64 (N : Nat)] := by
        unfold msC freshM; rw [IB.out, SM.out, hN.out]; simp
      have hb := HBW.out
      have hn := HNN.out
      refine Lib.hid ⟨?_, ?_, ?_, ?_, ⟨by show B ≤ w4.heap.size + 1 + 1; omega, by show B ≤ w4.heap.size + 1; omega, by show B ≤ w4.heap.size; omega⟩, ?_, ?_, ?_⟩
      · rw [e]; exact (Blk.newAt _ _ _ _ (by simp)).drew
      · show Blk _ _ _ (cstr (List.replicate p.many [])).toArray
        rw [hN.out]; exact (Blk.newAt _ _ _ _ (by simp)).alloc _
      · show Blk _ _ _ (bls (List.replicate p.many false)).toArray
        rw [hN.out]; exact ((Blk.newAt _ _ _ _ rfl).alloc _).alloc _
      · simp [freshM]
      · simp only [freshM, List.length_replicate, hN.out]; exact hn
      · simp only [freshM, hN.out]; omega
      · intro u hu; rw [List.eq_of_mem_replicate hu]; simp
    have J5 := Lib.hid (J8.out.pushed (t := ⟨w4.heap.size + 1 + 1, w4.heap.size + 1, w4.heap.size⟩) HMA.out (fun u hu => by
      have h1 := (J4.out.lt (.inr (.inr (.inr ⟨u, hu, .inl rfl⟩)))).2
      have h2 := (J4.out.lt (.inr (.inr (.inr ⟨u, hu, .inr (.inl rfl)⟩)))).2
      have h3 := (J4.out.lt (.inr (.inr (.inr ⟨u, hu, .inr (.inr rfl)⟩)))).2
      exact ⟨by show u.x ≠ w4.heap.size + 1 + 1; omega, by show u.p ≠ w4.heap.size + 1; omega, by show u.c ≠ w4.heap.size; omega⟩) (fun e => by
      have h1 := (J4.out.lt (.inr (.inr (.inl e)))).2
      have h2 : w4.heap.size + 1 < w4.heap.size := h1
      omega) hjb hwin hk5)
    obtain ⟨t, ht⟩ : ∃ t, Hid ((⟨w4.heap.size + 1 + 1, w4.heap.size + 1, w4.heap.size⟩ : Pl) = t) := ⟨_, Lib.hid rfl⟩
    have TW := Lib.hid (show w.heap.size ≤ t.x ∧ w.heap.size ≤ t.p ∧ w.heap.size ≤ t.c by
      have := B4.out.size
      rw [← ht.out]
      exact ⟨by show w.heap.size ≤ w4.heap.size + 1 + 1; omega, by show w.heap.size ≤ w4.heap.size + 1; omega, by show w.heap.size ≤ w4.heap.size; omega⟩)
    rw [ht.out] at J5
    have K5 := Lib.hid (show Kp (JS j vS0 vN T0) w w5 from (Kp.of_below (B4.out.trans (BX.out.mono B4.out.size))).trans (hk5.mono (S' := JS j vS0 vN T0) (fun i hi e => e.elim .inl (fun e => .inr (.inl e)))))
    have M5 := Lib.hid ((M4.out.below BX.out M4.out.lt).kp hk5 (fun e => J4.out.notIn M4.out (by decide) (e.elim .inl (fun e => .inr (.inl e)))))
    have P5 := Lib.hid ((P4.out.below BX.out P4.out.lt).kp hk5 NGP.out)
    have CUT0 := Lib.hid (show ∀ k, JS j vS vN (pushQ J0.most T0 t) k → JS j vS0 vN T0 k ∨ w.heap.size ≤ k from fun k hk => by
      have hw4 := B4.out.size
      have htw := TW.out
      rcases hk with e | e | e | ⟨u, hu, e⟩
      · exact .inl (.inl e)
      · rcases hfr with h | ⟨b, h, hb⟩
        · exact .inl (.inr (.inl (h ▸ e)))
        · rw [h] at e; cases e; exact .inr (Nat.le_trans (Nat.le_trans hw4 BX.out.size) hb)
      · exact .inl (.inr (.inr (.inl e)))
      · rcases pushQ_mem hu with hu | rfl
        · exact .inl (.inr (.inr (.inr ⟨u, hu, e⟩)))
        · rcases e with rfl | rfl | rfl
          · exact .inr htw.1
          · exact .inr htw.2.1
          · exact .inr htw.2.2)
    obtain ⟨m, hfm⟩ : ∃ m, Hid (freshM p = m) := ⟨_, Lib.hid rfl⟩
    obtain ⟨T, hT0⟩ : ∃ x, Hid (pushQ J0.most T0 t = x) := ⟨_, Lib.hid rfl⟩
    obtain ⟨J, hJ0⟩ : ∃ x, Hid (({ J0 with some := pushQ J0.most J0.some (freshM p) } : Jn) = x) := ⟨_, Lib.hid rfl⟩
    obtain ⟨i, hi0⟩ : ∃ x, Hid ((pushQ J0.most J0.some (freshM p)).length - 1 = x) := ⟨_, Lib.hid rfl⟩
    rw [hJ0.out, hT0.out] at J5
    rw [hT0.out] at CUT0
    have HLEN := Lib.hid (show J.some.length = i + 1 by rw [← hJ0.out, ← hi0.out]; show (pushQ J0.most J0.some (freshM p)).length = _; unfold pushQ; simp)
    have HMI := Lib.hid (show J.some[i]? = some m by rw [← hJ0.out, ← hi0.out, ← hfm.out]; show (pushQ J0.most J0.some (freshM p))[_]? = _; exact pushQ_last _ _ _)
    have HT := Lib.hid (show T[i]? = some t by
      have h1 := J5.out.len
      have : i = T.length - 1 := by have := HLEN.out; omega
      rw [this, ← hT0.out]; exact pushQ_last _ _ _)
    have hi : i < J.some.length := by have := HLEN.out; omega
    have HTF := Lib.hid (show takeF J0 s = putIn J i (J.some[i]'hi) (ptOf s) by
      have : J.some[i]'hi = freshM p := by have := HMI.out; rw [List.getElem?_eq_getElem hi] at this; rw [hfm.out]; exact Option.some.inj this
      rw [this, HTF0.out, hp.out, hJ0.out, hi0.out])
    clear hjb hwin hk5 hfr hHeld J8 BX HMA HPUT NGP MS MB
    go_upto_region 9 with fail
    refine gworld (fun W => Hid (Blk W gt 36 zTold) ∧ Hid (Blk W gp 65 #[.string ib, .string sm, .string tb, .int .i64 (A : Nat), .int .i64 (N : Nat)]) ∧ Hid (JnA B W j vS vN T J) ∧ Hid (Kp (JS j vS0 vN T0) w W)) ⟨M5, P5, J5, K5⟩ ?_
    rintro w4 ⟨M4, P4, J4, K4⟩
    obtain ⟨t', b, off, cap, hT, hv, hcell, hm⟩ := J4.out.at_ i hi
    have htt : t = t' := Option.some.inj (HT.out.symm.trans hT)
    subst htt
    have hmm : J.some[i]'hi = m := by have := HMI.out; rw [List.getElem?_eq_getElem hi] at this; exact Option.some.inj this
    rw [hmm] at hm
    have HI := Lib.hid hi
    have HM := Lib.hid hm
    have hme := Lib.hid hmm
    have s1 : w4.cell? ⟨j, 1, none⟩ = some vS := J4.out.hj.cell 1
    rw [hv, HLEN.out] at s1
    have e1 : 0 ≤ (i : Int) ∧ (i : Int) < (i : Int) + 1 := by omega
    have hwi : wrap64 (i : Int) = (i : Int) := by
      have h1 := J4.out.bd
      have h2 := HLEN.out
      unfold wrap64; omega
    obtain ⟨mb, MB⟩ : ∃ t : ByteArray, Hid (⟨m.sum.toArray⟩ = t) := ⟨_, Lib.hid rfl⟩
    obtain ⟨L, hL⟩ : ∃ n, Hid (m.pcs.length = n) := ⟨_, Lib.hid rfl⟩
    have xc : ∀ W, Blk W t.x 72 (msC t m) → Blk W t.x 72 #[.string ⟨m.id.toArray⟩, .string mb, .slice (some ⟨t.p, 0, none⟩) L L, .slice (some ⟨t.c, 0, none⟩) L L, .int .i64 m.left] := fun W hW => by rw [← MB.out, ← hL.out]; exact hW
    have X4 := Lib.hid (xc _ HM.out.x)
    have HM00 := Lib.hid (show ∀ m', J.some[i]? = some m' → (m'.sum = p.sum ∧ m'.pcs.length = p.many) ∧ m'.came[p.at_]? = some false from fun m' h => by
      have : m' = freshM p := Option.some.inj (h.symm.trans (HMI.out.trans (by rw [hfm.out])))
      subst this
      refine ⟨⟨rfl, by simp [freshM]⟩, ?_⟩
      show (List.replicate p.many false)[p.at_]? = some false
      rw [List.getElem?_replicate, if_pos (by rw [hA.out, hN.out]; exact ALN.out)])
    have LEFT := Lib.hid (show 1 ≤ m.left by rw [← hfm.out]; show 1 ≤ ((p.many : Nat) : Int); rw [hN.out]; have := HNN.out; omega)
    clear hT hm hv xc hmm
    go_upto_region 11 with fail
    clear s1 hcell
    have hm0 := HM00.out
    have x1 : w4.drew.cell? ⟨t.x, 1, none⟩ = some (.string mb) := X4.out.cell 1
    have x2 : w4.drew.cell? ⟨t.x, 2, none⟩ = some (.slice (some ⟨t.p, 0, none⟩) L L) := X4.out.cell 2
    have p1 : w4.drew.cell? ⟨gp, 1, none⟩ = some (.string sm) := P4.out.cell 1
    have p4 : w4.drew.cell? ⟨gp, 4, none⟩ = some (.int .i64 (N : Nat)) := P4.out.cell 4
    have hm1 := (hm0 m HMI.out).1
    rw [hL.out, hN.out] at hm1
    have he : (mb.toList == sm.toList) = true := by rw [← MB.out, ← SM.out, ByteArray.toList_eq, ByteArray.toList_eq]; exact beq_iff_eq.mpr hm1.1
    have hl : ((L : Int) != (N : Int)) = false := by have := hm1.2; (rw [bne_eq_false_iff_eq]; omega)
    have HM1 := Lib.hid hm1
    clear hm1
    refine start_ (n := 18) (S := fun w' => w'.cell? ⟨t.x, 1, none⟩ = some (.string mb) ∧ w'.cell? ⟨t.x, 2, none⟩ = some (.slice (some ⟨t.p, 0, none⟩) L L) ∧ w'.cell? ⟨gp, 1, none⟩ = some (.string sm) ∧ w'.cell? ⟨gp, 4, none⟩ = some (.int .i64 (N : Nat))) (ds := []) #[false, false, false, false, false, false, false, false, false, false, false, false, false, false, false, false, false, false] (by kernel_rfl) rfl rfl ⟨x1, x2, p1, p4⟩ (fun hHeld => ?_)
    refine with_tabW tk11.tab tk11.bits (fun HT_ HW_ => ?_)
    refine pure_ (i := 0) (N := some 72) (v := ?_) (a' := ?_) #[true, false, false, false, false, false, false, false, false, false, false, false, false, false, false, false, false, false] rfl rfl (any_of HT_.out (by kernel_rfl)) (fun _ _ _ h => h) (Or.inl ⟨by rfl, ?_⟩) ?_ ?_
    rotate_left
    · intro w'
      go_simp
      try with_reducible rfl
    rotate_left
    · simp only [Act.put, List.setIfInBounds_toArray, List.set_cons_zero, List.set_cons_succ]
      rfl
    refine pure_ (i := 1) (N := some 73) (v := ?_) (a' := ?_) #[true, true, false, false, false, false, false, false, false, false, false, false, false, false, false, false, false, false] rfl rfl (any_of HT_.out (by kernel_rfl)) (fun _ _ _ h => h) (Or.inl ⟨by rfl, ?_⟩) ?_ ?_
    rotate_left
    · intro w'
      go_simp
      try with_reducible rfl
    rotate_left
    · simp only [Act.put, List.setIfInBounds_toArray, List.set_cons_zero, List.set_cons_succ]
      rfl
    refine pure_ (i := 2) (N := some 74) (v := ?_) (a' := ?_) #[true, true, true, false, false, false, false, false, false, false, false, false, false, false, false, false, false, false] rfl rfl (any_of HT_.out (by kernel_rfl)) (fun _ _ _ h => h) (Or.inl ⟨by rfl, ?_⟩) ?_ ?_
    rotate_left
    · intro w'
      go_simp
      try with_reducible rfl
    rotate_left
    · simp only [Act.put, List.setIfInBounds_toArray, List.set_cons_zero, List.set_cons_succ]
      rfl
    refine pure_ (i := 4) (N := some 76) (v := ?_) (a' := ?_) #[true, true, true, false, true, false, false, false, false, false, false, false, false, false, false, false, false, false] rfl rfl (any_of HT_.out (by kernel_rfl)) (fun _ _ _ h => h) (Or.inl ⟨by rfl, ?_⟩) ?_ ?_
    rotate_left
    · intro w'
      go_simp
      try with_reducible rfl
    rotate_left
    · simp only [Act.put, List.setIfInBounds_toArray, List.set_cons_zero, List.set_cons_succ]
      rfl
    refine take_ (i := 3) (N := some 75) (v := ?_) (a' := ?_) #[true, true, true, true, true, false, false, false, false, false, false, false, false, false, false, false, false, false] rfl rfl (take_ofW HT_.out HW_.out (by kernel_rfl)) (fun _ _ _ h => h) (Or.inl ⟨by rfl, ?_⟩) hHeld ?_ ?_
    rotate_left
    · rintro w' ⟨s0, s1, s2, s3⟩
      go_simp
      try with_reducible rfl
    rotate_left
    · simp only [Act.put, List.setIfInBounds_toArray, List.set_cons_zero, List.set_cons_succ]
      rfl
    refine take_ (i := 5) (N := some 77) (v := ?_) (a' := ?_) #[true, true, true, true, true, true, false, false, false, false, false, false, false, false, false, false, false, false] rfl rfl (take_ofW HT_.out HW_.out (by kernel_rfl)) (fun _ _ _ h => h) (Or.inl ⟨by rfl, ?_⟩) hHeld ?_ ?_
    rotate_left
    · rintro w' ⟨s0, s1, s2, s3⟩
      go_simp
      try with_reducible rfl
    rotate_left
    · simp only [Act.put, List.setIfInBounds_toArray, List.set_cons_zero, List.set_cons_succ]
      rfl
    refine pure_ (i := 6) (N := some 78) (v := ?_) (a' := ?_) #[true, true, true, true, true, true, true, false, false, false, false, false, false, false, false, false, false, false] rfl rfl (any_of HT_.out (by kernel_rfl)) (fun _ _ _ h => h) (Or.inl ⟨by rfl, ?_⟩) ?_ ?_
    rotate_left
    · intro w'
      go_simp
      try with_reducible rfl
    rotate_left
    · simp only [Act.put, List.setIfInBounds_toArray, List.set_cons_zero, List.set_cons_succ]
      rfl
    refine pure_ (i := 7) (N := some 79) (v := ?_) (a' := ?_) #[true, true, true, true, true, true, true, true, false, false, false, false, false, false, false, false, false, false] rfl rfl (any_of HT_.out (by kernel_rfl)) (fun _ _ _ h => h) (Or.inl ⟨by rfl, ?_⟩) ?_ ?_
    rotate_left
    · intro w'
      go_simp
      try with_reducible rfl
    rotate_left
    · simp only [Act.put, List.setIfInBounds_toArray, List.set_cons_zero, List.set_cons_succ]
      rfl
    refine pure_ (i := 8) (N := some 80) (v := ?_) (a' := ?_) #[true, true, true, true, true, true, true, true, true, false, false, false, false, false, false, false, false, false] rfl rfl (any_of HT_.out (by kernel_rfl)) (fun _ _ _ h => h) (Or.inl ⟨by rfl, ?_⟩) ?_ ?_
    rotate_left
    · intro w'
      go_simp
      try with_reducible rfl
    rotate_left
    · simp only [Act.put, List.setIfInBounds_toArray, List.set_cons_zero, List.set_cons_succ]
      rfl
    refine pure_ (i := 9) (N := some 81) (v := ?_) (a' := ?_) #[true, true, true, true, true, true, true, true, true, true, false, false, false, false, false, false, false, false] rfl rfl (any_of HT_.out (by kernel_rfl)) (fun _ _ _ h => h) (Or.inl ⟨by rfl, ?_⟩) ?_ ?_
    rotate_left
    · intro w'
      go_simp
      try with_reducible rfl
    rotate_left
    · simp only [Act.put, List.setIfInBounds_toArray, List.set_cons_zero, List.set_cons_succ]
      rfl
    refine pure_ (i := 10) (N := some 82) (v := ?_) (a' := ?_) #[true, true, true, true, true, true, true, true, true, true, true, false, false, false, false, false, false, false] rfl rfl (any_of HT_.out (by kernel_rfl)) (fun _ _ _ h => h) (Or.inl ⟨by rfl, ?_⟩) ?_ ?_
    rotate_left
    · intro w'
      go_simp
      try with_reducible rfl
    rotate_left
    · simp only [Act.put, List.setIfInBounds_toArray, List.set_cons_zero, List.set_cons_succ]
      rfl
    refine pure_ (i := 13) (N := some 85) (v := ?_) (a' := ?_) #[true, true, true, true, true, true, true, true, true, true, true, false, false, true, false, false, false, false] rfl rfl (any_of HT_.out (by kernel_rfl)) (fun _ _ _ h => h) (Or.inl ⟨by rfl, ?_⟩) ?_ ?_
    rotate_left
    · intro w'
      go_simp
      try with_reducible rfl
    rotate_left
    · simp only [Act.put, List.setIfInBounds_toArray, List.set_cons_zero, List.set_cons_succ]
      rfl
    refine take_ (i := 11) (N := some 83) (v := ?_) (a' := ?_) #[true, true, true, true, true, true, true, true, true, true, true, true, false, true, false, false, false, false] rfl rfl (take_ofW HT_.out HW_.out (by kernel_rfl)) (fun _ _ _ h => h) (Or.inl ⟨by rfl, ?_⟩) hHeld ?_ ?_
    rotate_left
    · rintro w' ⟨s0, s1, s2, s3⟩
      go_simp
      try with_reducible rfl
    rotate_left
    · simp only [Act.put, List.setIfInBounds_toArray, List.set_cons_zero, List.set_cons_succ]
      rfl
    refine pure_ (i := 12) (N := some 84) (v := ?_) (a' := ?_) #[true, true, true, true, true, true, true, true, true, true, true, true, true, true, false, false, false, false] rfl rfl (any_of HT_.out (by kernel_rfl)) (fun _ _ _ h => h) (Or.inl ⟨by rfl, ?_⟩) ?_ ?_
    rotate_left
    · intro w'
      go_simp
      try with_reducible rfl
    rotate_left
    · simp only [Act.put, List.setIfInBounds_toArray, List.set_cons_zero, List.set_cons_succ]
      rfl
    refine take_ (i := 14) (N := some 86) (v := ?_) (a' := ?_) #[true, true, true, true, true, true, true, true, true, true, true, true, true, true, true, false, false, false] rfl rfl (take_ofW HT_.out HW_.out (by kernel_rfl)) (fun _ _ _ h => h) (Or.inl ⟨by rfl, ?_⟩) hHeld ?_ ?_
    rotate_left
    · rintro w' ⟨s0, s1, s2, s3⟩
      go_simp
      try with_reducible rfl
    rotate_left
    · simp only [Act.put, List.setIfInBounds_toArray, List.set_cons_zero, List.set_cons_succ]
      rfl
    refine pure_ (i := 15) (N := some 87) (v := ?_) (a' := ?_) #[true, true, true, true, true, true, true, true, true, true, true, true, true, true, true, true, false, false] rfl rfl (any_of HT_.out (by kernel_rfl)) (fun _ _ _ h => h) (Or.inl ⟨by rfl, ?_⟩) ?_ ?_
    rotate_left
    · intro w'
      go_simp
      try with_reducible rfl
    rotate_left
    · simp only [Act.put, List.setIfInBounds_toArray, List.set_cons_zero, List.set_cons_succ]
      rfl
    refine pure_ (i := 16) (N := some 88) (v := ?_) (a' := ?_) #[true, true, true, true, true, true, true, true, true, true, true, true, true, true, true, true, true, false] rfl rfl (any_of HT_.out (by kernel_rfl)) (fun _ _ _ h => h) (Or.inl ⟨by rfl, ?_⟩) ?_ ?_
    rotate_left
    · intro w'
      go_simp
      try with_reducible rfl
    rotate_left
    · simp only [Act.put, List.setIfInBounds_toArray, List.set_cons_zero, List.set_cons_succ]
      rfl
    refine pure_ (i := 17) (N := some 71) (v := ?_) (a' := ?_) #[true, true, true, true, true, true, true, true, true, true, true, true, true, true, true, true, true, true] rfl rfl (any_of HT_.out (by kernel_rfl)) (fun _ _ _ h => h) (Or.inl ⟨by rfl, ?_⟩) ?_ ?_
    rotate_left
    · intro w'
      go_simp
      try with_reducible rfl
    rotate_left
    · simp only [Act.put, List.setIfInBounds_toArray, List.set_cons_zero, List.set_cons_succ]
      rfl
    refine done_ (done_of HT_.out (by kernel_rfl)) ?_
    clear HT_ HW_
    try simp only [hl, Bool.not_false, Bool.not_true]
    have M5 := Lib.hid M4.out.drew
    have P5 := Lib.hid P4.out.drew
    have X5 := Lib.hid X4.out.drew
    clear x1 x2 p1 p4 he hl
    obtain ⟨c5, c5'⟩ : w4.drew.cell? ⟨t.c, A, none⟩ = some (.bool false) ∧ A < L := by
      have hc := hm0 m HMI.out
      obtain ⟨⟨_, hc2⟩, hc3⟩ := hc
      rw [hA.out] at hc3
      have := (HM.out.c.drew.cell A)
      refine ⟨this.trans ?_, ?_⟩
      · simp [bls, hc3]
      · have := (List.getElem?_eq_some_iff.1 hc3).1; have := HM.out.l; have := hL.out; omega
    have x3 : w4.drew.cell? ⟨t.x, 3, none⟩ = some (.slice (some ⟨t.c, 0, none⟩) L L) := X5.out.cell 3
    have p3 : w4.drew.cell? ⟨gp, 3, none⟩ = some (.int .i64 (A : Nat)) := P5.out.cell 3
    have e3 : 0 ≤ (A : Int) ∧ (A : Int) < (L : Int) := by omega
    go_upto_region 13 with fail
    refine start_ (n := 9) (S := fun w' => w'.cell? ⟨t.x, 3, none⟩ = some (.slice (some ⟨t.c, 0, none⟩) L L) ∧ w'.cell? ⟨gp, 3, none⟩ = some (.int .i64 (A : Nat)) ∧ w'.cell? ⟨t.c, A, none⟩ = some (.bool false)) (ds := []) #[false, false, false, false, false, false, false, false, false] (by kernel_rfl) rfl rfl ⟨x3, p3, c5⟩ (fun hHeld => ?_)
    refine with_tabW tk13.tab tk13.bits (fun HT_ HW_ => ?_)
    refine pure_ (i := 0) (N := some 91) (v := ?_) (a' := ?_) #[true, false, false, false, false, false, false, false, false] rfl rfl (any_of HT_.out (by kernel_rfl)) (fun _ _ _ h => h) (Or.inl ⟨by rfl, ?_⟩) ?_ ?_
    rotate_left
    · intro w'
      go_simp
      try with_reducible rfl
    rotate_left
    · simp only [Act.put, List.setIfInBounds_toArray, List.set_cons_zero, List.set_cons_succ]
      rfl
    refine pure_ (i := 1) (N := some 92) (v := ?_) (a' := ?_) #[true, true, false, false, false, false, false, false, false] rfl rfl (any_of HT_.out (by kernel_rfl)) (fun _ _ _ h => h) (Or.inl ⟨by rfl, ?_⟩) ?_ ?_
    rotate_left
    · intro w'
      go_simp
      try with_reducible rfl
    rotate_left
    · simp only [Act.put, List.setIfInBounds_toArray, List.set_cons_zero, List.set_cons_succ]
      rfl
    refine pure_ (i := 2) (N := some 93) (v := ?_) (a' := ?_) #[true, true, true, false, false, false, false, false, false] rfl rfl (any_of HT_.out (by kernel_rfl)) (fun _ _ _ h => h) (Or.inl ⟨by rfl, ?_⟩) ?_ ?_
    rotate_left
    · intro w'
      go_simp
      try with_reducible rfl
    rotate_left
    · simp only [Act.put, List.setIfInBounds_toArray, List.set_cons_zero, List.set_cons_succ]
      rfl
    refine pure_ (i := 4) (N := some 95) (v := ?_) (a' := ?_) #[true, true, true, false, true, false, false, false, false] rfl rfl (any_of HT_.out (by kernel_rfl)) (fun _ _ _ h => h) (Or.inl ⟨by rfl, ?_⟩) ?_ ?_
    rotate_left
    · intro w'
      go_simp
      try with_reducible rfl
    rotate_left
    · simp only [Act.put, List.setIfInBounds_toArray, List.set_cons_zero, List.set_cons_succ]
      rfl
    refine take_ (i := 3) (N := some 94) (v := ?_) (a' := ?_) #[true, true, true, true, true, false, false, false, false] rfl rfl (take_ofW HT_.out HW_.out (by kernel_rfl)) (fun _ _ _ h => h) (Or.inl ⟨by rfl, ?_⟩) hHeld ?_ ?_
    rotate_left
    · rintro w' ⟨s0, s1, s2⟩
      go_simp
      try with_reducible rfl
    rotate_left
    · simp only [Act.put, List.setIfInBounds_toArray, List.set_cons_zero, List.set_cons_succ]
      rfl
    refine take_ (i := 5) (N := some 96) (v := ?_) (a' := ?_) #[true, true, true, true, true, true, false, false, false] rfl rfl (take_ofW HT_.out HW_.out (by kernel_rfl)) (fun _ _ _ h => h) (Or.inl ⟨by rfl, ?_⟩) hHeld ?_ ?_
    rotate_left
    · rintro w' ⟨s0, s1, s2⟩
      go_simp
      try with_reducible rfl
    rotate_left
    · simp only [Act.put, List.setIfInBounds_toArray, List.set_cons_zero, List.set_cons_succ]
      rfl
    refine pure_ (i := 6) (N := some 97) (v := ?_) (a' := ?_) #[true, true, true, true, true, true, true, false, false] rfl rfl (any_of HT_.out (by kernel_rfl)) (fun _ _ _ h => h) (Or.inl ⟨by rfl, ?_⟩) ?_ ?_
    rotate_left
    · intro w'
      go_simp
      try with_reducible rfl
    rotate_left
    · simp only [Act.put, List.setIfInBounds_toArray, List.set_cons_zero, List.set_cons_succ]
      rfl
    refine take_ (i := 7) (N := some 98) (v := ?_) (a' := ?_) #[true, true, true, true, true, true, true, true, false] rfl rfl (take_ofW HT_.out HW_.out (by kernel_rfl)) (fun _ _ _ h => h) (Or.inl ⟨by rfl, ?_⟩) hHeld ?_ ?_
    rotate_left
    · rintro w' ⟨s0, s1, s2⟩
      go_simp
      try with_reducible rfl
    rotate_left
    · simp only [Act.put, List.setIfInBounds_toArray, List.set_cons_zero, List.set_cons_succ]
      rfl
    refine pure_ (i := 8) (N := some 90) (v := ?_) (a' := ?_) #[true, true, true, true, true, true, true, true, true] rfl rfl (any_of HT_.out (by kernel_rfl)) (fun _ _ _ h => h) (Or.inl ⟨by rfl, ?_⟩) ?_ ?_
    rotate_left
    · intro w'
      go_simp
      try with_reducible rfl
    rotate_left
    · simp only [Act.put, List.setIfInBounds_toArray, List.set_cons_zero, List.set_cons_succ]
      rfl
    refine done_ (done_of HT_.out (by kernel_rfl)) ?_
    clear HT_ HW_
    have M6 := Lib.hid M5.out.drew
    have P6 := Lib.hid P5.out.drew
    have X6 := Lib.hid X5.out.drew
    have hmm := hm0 m HMI.out
    have CAME := Lib.hid (show (bls m.came).toArray[A]? = some (Value.bool false) by have := hmm.2; rw [hA.out] at this; simp [bls, this])
    have ALT := Lib.hid c5'
    have XC : Hid (∀ W, Blk W t.x 72 (msC t m) → Blk W t.x 72 #[.string ⟨m.id.toArray⟩, .string mb, .slice (some ⟨t.p, 0, none⟩) L L, .slice (some ⟨t.c, 0, none⟩) L L, .int .i64 m.left]) := Lib.hid (fun W hW => by rw [← MB.out, ← hL.out]; exact hW)
    have J6 := Lib.hid (J4.out.below (below_drewN (Below.refl _ _) 2))
    have K6 := Lib.hid (show Kp (JS j vS0 vN T0) w w4.drew.drew from K4.out.trans (Kp.of_below (below_drewN (Below.refl _ _) 2)))
    have TXT := Lib.hid (show p.text.length ≤ 200 by rw [← hp.out]; exact okP_text s HO.out)
    have KTR : Hid (∀ W W', Kp (JS j vS0 vN T0) w W → Kp (fun i => i = t.x ∨ i = t.p ∨ i = t.c) W W' → Kp (JS j vS0 vN T0) w W') := Lib.hid (fun W W' k1 k2 => k1.trans2 k2 (fun i hi e => by
      have := TW.out
      exfalso
      rcases e with rfl | rfl | rfl <;> omega))
    skip
    clear hmm c5 c5' x3 p3 e3 X4 X5 X6 hm0
    go_upto_region 15 with fail
    refine gworld (fun W => Hid (Blk W gt 36 zTold) ∧ Hid (Blk W gp 65 #[.string ib, .string sm, .string tb, .int .i64 (A : Nat), .int .i64 (N : Nat)]) ∧ Hid (JnA B W j vS vN T J) ∧ Hid (Kp (JS j vS0 vN T0) w W)) ⟨M6, P6, J6, K6⟩ ?_
    rintro w7 ⟨M7, P7, J7, K7⟩
    have HM7 := Lib.hid (J7.out.ms i t m HT.out HMI.out)
    have X7 := Lib.hid (XC.out _ HM7.out.x)
    have x2 : w7.drew.cell? ⟨t.x, 2, none⟩ = some (.slice (some ⟨t.p, 0, none⟩) L L) := X7.out.cell 2
    have x3 : w7.drew.cell? ⟨t.x, 3, none⟩ = some (.slice (some ⟨t.c, 0, none⟩) L L) := X7.out.cell 3
    have p2 : w7.drew.cell? ⟨gp, 2, none⟩ = some (.string tb) := P7.out.cell 2
    have p3 : w7.drew.cell? ⟨gp, 3, none⟩ = some (.int .i64 (A : Nat)) := P7.out.cell 3
    have c5 : w7.cell? ⟨t.c, A, none⟩ = some (.bool false) := (HM7.out.c.cell A).trans CAME.out
    obtain ⟨ob, ho5⟩ : ∃ ob, w7.cell? ⟨t.p, A, none⟩ = some (.string ob) := by
      have hlt : A < m.pcs.length := by rw [hL.out]; exact ALT.out
      exact ⟨_, (HM7.out.p.cell A).trans (by simp [cstr, List.getElem?_eq_getElem hlt]; rfl)⟩
    have f5 : w7.frozen? ⟨t.p, A, none⟩ = false := HM7.out.p.frozen A
    have f6 : w7.frozen? ⟨t.c, A, none⟩ = false := HM7.out.c.frozen A
    have hpc : t.p ≠ t.c := fun e => absurd ((e ▸ HM7.out.p : Blk w7 t.c _ _).ty HM7.out.c).1 (by decide)
    have e3 : 0 ≤ (A : Int) ∧ (A : Int) < (L : Int) := by have := ALT.out; omega
    have e4 : A < L := ALT.out
    have S15 : (w7.setCell ⟨t.p, A, none⟩ (.string tb)).drew.cell? ⟨t.x, 2, none⟩ = some (.slice (some ⟨t.p, 0, none⟩) L L) ∧ (w7.setCell ⟨t.p, A, none⟩ (.string tb)).drew.cell? ⟨t.x, 3, none⟩ = some (.slice (some ⟨t.c, 0, none⟩) L L) ∧ (w7.setCell ⟨t.p, A, none⟩ (.string tb)).drew.cell? ⟨gp, 2, none⟩ = some (.string tb) ∧ (w7.setCell ⟨t.p, A, none⟩ (.string tb)).drew.cell? ⟨gp, 3, none⟩ = some (.int .i64 (A : Nat)) := by
      have q1 := X7.out.far (p := ⟨t.p, A, none⟩) (fun e => absurd ((e ▸ HM7.out.x : Blk w7 t.p _ _).ty HM7.out.p).1 (by decide)) (.string tb)
      have q2 := P7.out.far (p := ⟨t.p, A, none⟩) (fun e => absurd ((e ▸ P7.out : Blk w7 t.p _ _).ty HM7.out.p).1 (by decide)) (.string tb)
      exact ⟨q1.cell 2, q1.cell 3, q2.cell 2, q2.cell 3⟩
    refine start_ (n := 18) (S := fun w' => w'.cell? ⟨t.x, 2, none⟩ = some (.slice (some ⟨t.p, 0, none⟩) L L) ∧ w'.cell? ⟨t.x, 3, none⟩ = some (.slice (some ⟨t.c, 0, none⟩) L L) ∧ w'.cell? ⟨gp, 2, none⟩ = some (.string tb) ∧ w'.cell? ⟨gp, 3, none⟩ = some (.int .i64 (A : Nat))) (ds := [17]) #[false, false, false, false, false, false, false, false, false, false, false, false, false, false, false, false, false, false] (by kernel_rfl) rfl rfl ⟨x2, x3, p2, p3⟩ (fun hHeld => ?_)
    refine with_tabW tk15.tab tk15.bits (fun HT_ HW_ => ?_)
    refine pure_ (i := 0) (N := some 100) (v := ?_) (a' := ?_) #[true, false, false, false, false, false, false, false, false, false, false, false, false, false, false, false, false, false] rfl rfl (any_of HT_.out (by kernel_rfl)) (fun _ _ _ h => h) (Or.inl ⟨by rfl, ?_⟩) ?_ ?_
    rotate_left
    · intro w'
      go_simp
      try with_reducible rfl
    rotate_left
    · simp only [Act.put, List.setIfInBounds_toArray, List.set_cons_zero, List.set_cons_succ]
      rfl
    refine pure_ (i := 1) (N := some 101) (v := ?_) (a' := ?_) #[true, true, false, false, false, false, false, false, false, false, false, false, false, false, false, false, false, false] rfl rfl (any_of HT_.out (by kernel_rfl)) (fun _ _ _ h => h) (Or.inl ⟨by rfl, ?_⟩) ?_ ?_
    rotate_left
    · intro w'
      go_simp
      try with_reducible rfl
    rotate_left
    · simp only [Act.put, List.setIfInBounds_toArray, List.set_cons_zero, List.set_cons_succ]
      rfl
    refine pure_ (i := 2) (N := some 102) (v := ?_) (a' := ?_) #[true, true, true, false, false, false, false, false, false, false, false, false, false, false, false, false, false, false] rfl rfl (any_of HT_.out (by kernel_rfl)) (fun _ _ _ h => h) (Or.inl ⟨by rfl, ?_⟩) ?_ ?_
    rotate_left
    · intro w'
      go_simp
      try with_reducible rfl
    rotate_left
    · simp only [Act.put, List.setIfInBounds_toArray, List.set_cons_zero, List.set_cons_succ]
      rfl
    refine pure_ (i := 4) (N := some 104) (v := ?_) (a' := ?_) #[true, true, true, false, true, false, false, false, false, false, false, false, false, false, false, false, false, false] rfl rfl (any_of HT_.out (by kernel_rfl)) (fun _ _ _ h => h) (Or.inl ⟨by rfl, ?_⟩) ?_ ?_
    rotate_left
    · intro w'
      go_simp
      try with_reducible rfl
    rotate_left
    · simp only [Act.put, List.setIfInBounds_toArray, List.set_cons_zero, List.set_cons_succ]
      rfl
    refine pure_ (i := 6) (N := some 106) (v := ?_) (a' := ?_) #[true, true, true, false, true, false, true, false, false, false, false, false, false, false, false, false, false, false] rfl rfl (any_of HT_.out (by kernel_rfl)) (fun _ _ _ h => h) (Or.inl ⟨by rfl, ?_⟩) ?_ ?_
    rotate_left
    · intro w'
      go_simp
      try with_reducible rfl
    rotate_left
    · simp only [Act.put, List.setIfInBounds_toArray, List.set_cons_zero, List.set_cons_succ]
      rfl
    refine pure_ (i := 7) (N := some 107) (v := ?_) (a' := ?_) #[true, true, true, false, true, false, true, true, false, false, false, false, false, false, false, false, false, false] rfl rfl (any_of HT_.out (by kernel_rfl)) (fun _ _ _ h => h) (Or.inl ⟨by rfl, ?_⟩) ?_ ?_
    rotate_left
    · intro w'
      go_simp
      try with_reducible rfl
    rotate_left
    · simp only [Act.put, List.setIfInBounds_toArray, List.set_cons_zero, List.set_cons_succ]
      rfl
    refine pure_ (i := 8) (N := some 108) (v := ?_) (a' := ?_) #[true, true, true, false, true, false, true, true, true, false, false, false, false, false, false, false, false, false] rfl rfl (any_of HT_.out (by kernel_rfl)) (fun _ _ _ h => h) (Or.inl ⟨by rfl, ?_⟩) ?_ ?_
    rotate_left
    · intro w'
      go_simp
      try with_reducible rfl
    rotate_left
    · simp only [Act.put, List.setIfInBounds_toArray, List.set_cons_zero, List.set_cons_succ]
      rfl
    refine pure_ (i := 10) (N := some 110) (v := ?_) (a' := ?_) #[true, true, true, false, true, false, true, true, true, false, true, false, false, false, false, false, false, false] rfl rfl (any_of HT_.out (by kernel_rfl)) (fun _ _ _ h => h) (Or.inl ⟨by rfl, ?_⟩) ?_ ?_
    rotate_left
    · intro w'
      go_simp
      try with_reducible rfl
    rotate_left
    · simp only [Act.put, List.setIfInBounds_toArray, List.set_cons_zero, List.set_cons_succ]
      rfl
    refine pure_ (i := 12) (N := some 112) (v := ?_) (a' := ?_) #[true, true, true, false, true, false, true, true, true, false, true, false, true, false, false, false, false, false] rfl rfl (any_of HT_.out (by kernel_rfl)) (fun _ _ _ h => h) (Or.inl ⟨by rfl, ?_⟩) ?_ ?_
    rotate_left
    · intro w'
      go_simp
      try with_reducible rfl
    rotate_left
    · simp only [Act.put, List.setIfInBounds_toArray, List.set_cons_zero, List.set_cons_succ]
      rfl
    refine take_ (i := 3) (N := some 103) (v := ?_) (a' := ?_) #[true, true, true, true, true, false, true, true, true, false, true, false, true, false, false, false, false, false] rfl rfl (take_ofW HT_.out HW_.out (by kernel_rfl)) (fun _ _ _ h => h) (Or.inl ⟨by rfl, ?_⟩) hHeld ?_ ?_
    rotate_left
    · rintro w' ⟨s0, s1, s2, s3⟩
      go_simp
      try with_reducible rfl
    rotate_left
    · simp only [Act.put, List.setIfInBounds_toArray, List.set_cons_zero, List.set_cons_succ]
      rfl
    refine take_ (i := 5) (N := some 105) (v := ?_) (a' := ?_) #[true, true, true, true, true, true, true, true, true, false, true, false, true, false, false, false, false, false] rfl rfl (take_ofW HT_.out HW_.out (by kernel_rfl)) (fun _ _ _ h => h) (Or.inl ⟨by rfl, ?_⟩) hHeld ?_ ?_
    rotate_left
    · rintro w' ⟨s0, s1, s2, s3⟩
      go_simp
      try with_reducible rfl
    rotate_left
    · simp only [Act.put, List.setIfInBounds_toArray, List.set_cons_zero, List.set_cons_succ]
      rfl
    refine take_ (i := 9) (N := some 109) (v := ?_) (a' := ?_) #[true, true, true, true, true, true, true, true, true, true, true, false, true, false, false, false, false, false] rfl rfl (take_ofW HT_.out HW_.out (by kernel_rfl)) (fun _ _ _ h => h) (Or.inl ⟨by rfl, ?_⟩) hHeld ?_ ?_
    rotate_left
    · rintro w' ⟨s0, s1, s2, s3⟩
      go_simp
      try with_reducible rfl
    rotate_left
    · simp only [Act.put, List.setIfInBounds_toArray, List.set_cons_zero, List.set_cons_succ]
      rfl
    refine take_ (i := 11) (N := some 111) (v := ?_) (a' := ?_) #[true, true, true, true, true, true, true, true, true, true, true, true, true, false, false, false, false, false] rfl rfl (take_ofW HT_.out HW_.out (by kernel_rfl)) (fun _ _ _ h => h) (Or.inl ⟨by rfl, ?_⟩) hHeld ?_ ?_
    rotate_left
    · rintro w' ⟨s0, s1, s2, s3⟩
      go_simp
      try with_reducible rfl
    rotate_left
    · simp only [Act.put, List.setIfInBounds_toArray, List.set_cons_zero, List.set_cons_succ]
      rfl
    refine take_ (i := 13) (N := some 113) (v := ?_) (a' := ?_) #[true, true, true, true, true, true, true, true, true, true, true, true, true, true, false, false, false, false] rfl rfl (take_ofW HT_.out HW_.out (by kernel_rfl)) (fun _ _ _ h => h) (Or.inl ⟨by rfl, ?_⟩) hHeld ?_ ?_
    rotate_left
    · rintro w' ⟨s0, s1, s2, s3⟩
      go_simp
      try with_reducible rfl
    rotate_left
    · simp only [Act.put, List.setIfInBounds_toArray, List.set_cons_zero, List.set_cons_succ]
      rfl
    refine pure_ (i := 14) (N := some 114) (v := ?_) (a' := ?_) #[true, true, true, true, true, true, true, true, true, true, true, true, true, true, true, false, false, false] rfl rfl (any_of HT_.out (by kernel_rfl)) (fun _ _ _ h => h) (Or.inl ⟨by rfl, ?_⟩) ?_ ?_
    rotate_left
    · intro w'
      go_simp
      try with_reducible rfl
    rotate_left
    · simp only [Act.put, List.setIfInBounds_toArray, List.set_cons_zero, List.set_cons_succ]
      rfl
    refine one_ (i := 15) (N := none) #[true, true, true, true, true, true, true, true, true, true, true, true, true, true, true, true, false, false] rfl rfl (one_of HT_.out (by kernel_rfl)) (by decide) (fun K hK => ?_)
    refine skip_ (w1 := ?_) (by rfl) rfl ?_ ?_
    rotate_left
    · go_simp
      try rfl
    refine hK.out _ _ (S15) (fun hHeld => ?_)
    clear hK K
    refine pure_ (i := 16) (N := some 115) (v := ?_) (a' := ?_) #[true, true, true, true, true, true, true, true, true, true, true, true, true, true, true, true, true, false] rfl rfl (any_of HT_.out (by kernel_rfl)) (fun _ _ _ h => h) (Or.inl ⟨by rfl, ?_⟩) ?_ ?_
    rotate_left
    · intro w'
      go_simp
      try with_reducible rfl
    rotate_left
    · simp only [Act.put, List.setIfInBounds_toArray, List.set_cons_zero, List.set_cons_succ]
      rfl
    refine last_ (i := 17) (N := none) #[true, true, true, true, true, true, true, true, true, true, true, true, true, true, true, true, true, true] rfl rfl (one_of HT_.out (by kernel_rfl)) (by decide) (fun K hK => ?_)
    refine skip_ (w1 := ?_) (by rfl) rfl ?_ ?_
    rotate_left
    · go_simp
      try rfl
    refine hK.out _ _ ?_
    clear hK K
    refine done_ (done_of HT_.out (by kernel_rfl)) ?_
    clear HT_ HW_
    go_upto_region 16 with fail
    refine gworld (fun W => Hid (W = ((w7.setCell ⟨t.p, A, none⟩ (.string tb)).setCell ⟨t.c, A, none⟩ (.bool true)).drew)) (Lib.hid rfl) ?_
    rintro w8 HW8
    obtain ⟨l, hl⟩ : ∃ l, Hid (m.left = l) := ⟨_, Lib.hid rfl⟩
    have x4 : w8.cell? ⟨t.x, 4, none⟩ = some (.int .i64 l) := by
      rw [HW8.out, ← hl.out]
      exact (((X7.out.far (p := ⟨t.p, A, none⟩) (fun e => absurd ((e ▸ HM7.out.x : Blk w7 t.p _ _).ty HM7.out.p).1 (by decide)) (.string tb)).far (p := ⟨t.c, A, none⟩) (fun e => absurd ((e ▸ HM7.out.x : Blk w7 t.c _ _).ty HM7.out.c).1 (by decide)) (.bool true)).drew).cell 4
    have f4 : w8.frozen? ⟨t.x, 4, none⟩ = false := by
      rw [HW8.out]
      exact (((X7.out.far (p := ⟨t.p, A, none⟩) (fun e => absurd ((e ▸ HM7.out.x : Blk w7 t.p _ _).ty HM7.out.p).1 (by decide)) (.string tb)).far (p := ⟨t.c, A, none⟩) (fun e => absurd ((e ▸ HM7.out.x : Blk w7 t.c _ _).ty HM7.out.c).1 (by decide)) (.bool true)).drew).frozen 4
    have hl1 : 1 ≤ l ∧ l ≤ 11 := ⟨by rw [← hl.out]; exact LEFT.out, by rw [← hl.out]; exact HM7.out.lf.2⟩
    have hw : wrap64 (l - 1) = l - 1 := by unfold wrap64; omega
    have J9 : Hid (JnA B (w8.setCell ⟨t.x, 4, none⟩ (.int .i64 (l - 1))) j vS vN T { J with some := (J).some.set i (m.put p.at_ p.text) }) := by
      have h9 := (J7.out.piece HT.out HMI.out A p.text TXT.out LEFT.out).below (below_drewN (Below.refl _ _) 1)
      unfold putW at h9
      rw [TB.out, hl.out] at h9
      rw [← hA.out] at h9
      rw [HW8.out, ← hA.out]
      exact Lib.hid h9
    have K9 : Hid (Kp (JS j vS0 vN T0) w (w8.setCell ⟨t.x, 4, none⟩ (.int .i64 (l - 1)))) := by
      rw [HW8.out]
      have k9 := (putW_kp w7 t A p.text (l - 1)).trans (Kp.of_below (below_drewN (Below.refl _ _) 1))
      unfold putW at k9
      rw [TB.out] at k9
      exact Lib.hid (KTR.out _ _ K7.out k9)
    have G9 : Hid (∀ g cs u, Blk w7 g u cs → u ∉ [9, 72, 4] → Blk (w8.setCell ⟨t.x, 4, none⟩ (.int .i64 (l - 1))) g u cs) := Lib.hid (fun g cs u hg hu => by
      rw [HW8.out]
      have k9 := (putW_kp w7 t A p.text (l - 1)).trans (Kp.of_below (below_drewN (Below.refl _ _) 1))
      unfold putW at k9
      rw [TB.out] at k9
      refine hg.kp k9 ?_
      rintro (e | e | e)
      · subst e; exact hu (by rw [(hg.ty HM7.out.x).1]; decide)
      · subst e; exact hu (by rw [(hg.ty HM7.out.p).1]; decide)
      · subst e; exact hu (by rw [(hg.ty HM7.out.c).1]; decide))
    have M9 := Lib.hid (G9.out _ _ _ M7.out (by decide))
    have P9 := Lib.hid (G9.out _ _ _ P7.out (by decide))
    clear HW8 G9 x2 x3 p2 p3 c5 ho5 f5 f6 hpc e3 e4 X7 M7 P7 J7 K7 HM7 hHeld
    by_cases hlast : 1 < l
    · have d1 : decide (0 < l - 1) = true := decide_eq_true (by omega)
      have e5 : 0 < l - 1 := by omega
      have HLAST := Lib.hid hlast
      clear hlast hl1
      go_upto_region 18 with fail
      clear x4 f4 hw d1 e5
      refine gworld (fun W => Hid (W = w8.setCell ⟨t.x, 4, none⟩ (.int .i64 (l - 1)))) (Lib.hid rfl) ?_
      rintro w9 HW9
      rw [← HW9.out] at J9 K9 M9 P9
      go_wp2_with (first
        | ((with_reducible refine gate_store (t := 36) (p := 4) (v := .tmp 128) rfl ?_); refine wpList_store_row rfl 36 (.tmp 4) (.tmp 128) rfl gt zTold rfl rfl 36 zTold M9.out size_told rfl one_ztold ?_))
      have MF := Lib.hid (M9.out.setRow zTold)
      refine bodyPost_ret (results_ctt rfl _ _ gt 36 _ (0, 0) _ rfl MF.out Tryd.underlying36 rfl rfl) rfl ?_
      rw [HTF.out]
      rw [show putIn J i (J.some[i]'hi) (ptOf s) = ({ J with some := J.some.set i (m.put p.at_ p.text) }, noTk 0) by
        rw [hme.out, hp.out]; unfold putIn; rw [if_pos (by rw [hl.out]; have := HLAST.out; omega)]]
      exact ⟨rfl, vS, vN, T, J9.out.kp (Kp.rowAt (S := fun i => i = gt) rfl zTold) (fun i hi e => J9.out.notIn M9.out (by decide) (e ▸ hi)), K9.out.row SG.out.1 zTold, CUT0.out⟩
    · obtain rfl : l = 1 := by omega
      clear hlast hl1 hw
      go_upto_region 19 with fail
      clear x4 f4
      refine gworld (fun W => Hid (W = w8.setCell ⟨t.x, 4, none⟩ (.int .i64 (1 - 1)))) (Lib.hid rfl) ?_
      rintro w9 HW9
      rw [← HW9.out] at J9 K9 M9 P9
      obtain ⟨m2, hm2⟩ : ∃ m2, Hid (m.put p.at_ p.text = m2) := ⟨_, Lib.hid rfl⟩
      rw [hm2.out] at J9
      obtain ⟨J1, hJ1⟩ : ∃ J1, Hid (({ J with some := J.some.set i m2 } : Jn) = J1) := ⟨_, Lib.hid rfl⟩
      rw [hJ1.out] at J9
      have HI1 := Lib.hid (show i < J1.some.length by rw [← hJ1.out]; show i < (J.some.set i m2).length; rw [List.length_set]; exact HI.out)
      have HMI1 := Lib.hid (show J1.some[i]? = some m2 by rw [← hJ1.out]; show (J.some.set i m2)[i]? = _; rw [List.getElem?_set_self HI.out])
      have HSZ9 := Lib.hid (K9.out.size)
      have HCUT := Lib.hid (cutM_any B j (J1.noted : Nat) vN vS J1.most (T.map (·.x)) i w9 J9.out.hj (Nat.le_trans HB.out HSZ9.out) (by rw [← ptrX_eq]; exact J9.out.s) (by rw [List.length_map, J9.out.len]; exact HI1.out) (by rw [List.length_map, J9.out.len]; have := J9.out.bd; omega))
      go_wp2_with fail
      refine HCUT.out.mono ?_
      rintro e w10 ⟨rfl, v', hjb, hwin, hk10, hfr⟩
      have J10 := Lib.hid (J9.out.cut i HI1.out hjb hwin hk10)
      have HM9 := J9.out.ms i t m2 HT.out HMI1.out
      have HM10 := Lib.hid (HM9.kp hk10 (fun e => absurd ((e ▸ HM9.x : Blk w9 j _ _).ty J9.out.hj).1 (by decide)) (fun e => absurd ((e ▸ HM9.p : Blk w9 j _ _).ty J9.out.hj).1 (by decide)) (fun e => absurd ((e ▸ HM9.c : Blk w9 j _ _).ty J9.out.hj).1 (by decide)))
      have M10 := Lib.hid (M9.out.kp hk10 (fun e => absurd ((e ▸ M9.out : Blk w9 j _ _).ty J9.out.hj).1 (by decide)))
      have P10 := Lib.hid (P9.out.kp hk10 (fun e => absurd ((e ▸ P9.out : Blk w9 j _ _).ty J9.out.hj).1 (by decide)))
      have K10 := Lib.hid (K9.out.trans (hk10.mono (S' := JS j vS0 vN T0) (fun i hi e => .inl e)))
      have FR := Lib.hid (show ∀ b, v'.ownBlock = some b → w.heap.size ≤ b from fun b hb => Nat.le_trans HSZ9.out (hfr b hb))
      have HL2 := Lib.hid (show m2.pcs.length = L by rw [← hm2.out, ← hL.out]; exact List.length_set)
      have HJO := Lib.hid (joined HM10.out)
      have x2 : w10.cell? ⟨t.x, 2, none⟩ = some (.slice (some ⟨t.p, 0, none⟩) m2.pcs.length m2.pcs.length) := HM10.out.x.cell 2
      rw [HL2.out] at HJO x2
      obtain ⟨bb, BB⟩ : ∃ x : ByteArray, Hid (⟨m2.pcs.flatten.toArray⟩ = x) := ⟨_, Lib.hid rfl⟩
      rw [BB.out] at HJO
      have HFL := Lib.hid (flatten_le m2.pcs HM10.out.sz)
      have HN2 := Lib.hid HM10.out.n
      have CUTS := Lib.hid (show ∀ k, JS j v' vN (T.eraseIdx i) k → JS j vS0 vN T0 k ∨ w.heap.size ≤ k from fun k hk => by
        rcases hk with e | e | e | ⟨u, hu, e⟩
        · exact .inl (.inl e)
        · exact .inr (FR.out k e)
        · exact .inl (.inr (.inr (.inl e)))
        · exact CUT0.out k (.inr (.inr (.inr ⟨u, (List.eraseIdx_sublist T i).subset hu, e⟩))))
      clear hjb hwin hk10 hfr HM9 M9 P9 K9 J9 HCUT HW9
      go_upto_region 20 with fail
      go_wp2_with fail
      refine HJO.out.mono ?_
      rintro e w11 ⟨rfl, b11⟩
      have J11 := Lib.hid ((J10.out.below b11).below (below_drewN (Below.refl _ _) 1))
      have M11 := Lib.hid (M10.out.below b11 M10.out.lt).drew
      have P11 := Lib.hid (P10.out.below b11 P10.out.lt).drew
      have K11 := Lib.hid (show Kp (JS j vS0 vN T0) w w11.drew from K10.out.trans ((Kp.of_below b11).trans (Kp.of_below (below_drewN (Below.refl _ _) 1))))
      obtain ⟨dg, DG⟩ : ∃ x, Hid (digL p.id m2.pcs.flatten = x) := ⟨_, Lib.hid rfl⟩
      obtain ⟨rb, RB⟩ : ∃ x : ByteArray, Hid (⟨dg.toArray⟩ = x) := ⟨_, Lib.hid rfl⟩
      have HBB := Lib.hid (show Below B w w11.drew from K11.out.below (fun i hi => (HJ.out.lt hi).1) HB.out)
      have HDG := Lib.hid (digest_any p.id m2.pcs.flatten w11.drew (by rw [← hp.out]; exact ptOf_id s) (by have := HFL.out; have := HN2.out; omega) (HK.out.belowB HKS.out HBB.out) (Nat.lt_of_lt_of_le HKS.out (Nat.le_trans HB.out K11.out.size)))
      rw [DG.out, IB.out, BB.out, RB.out] at HDG
      have p0 : w11.drew.cell? ⟨gp, 0, none⟩ = some (.string ib) := P11.out.cell 0
      have p1 : w11.drew.cell? ⟨gp, 1, none⟩ = some (.string sm) := P11.out.cell 1
      have HE := Lib.hid (show (rb.toList == sm.toList) = decide (dg = p.sum) by rw [← RB.out, ← SM.out, ByteArray.toList_eq, ByteArray.toList_eq]; exact beq_dec dg p.sum)
      clear b11 J10 M10 P10 K10 x2 HJO HBB
      go_upto_region 21 with fail
      refine start_ (n := 7) (S := fun w' => w'.cell? ⟨gp, 0, none⟩ = some (.string ib) ∧ w'.cell? ⟨gp, 1, none⟩ = some (.string sm)) (ds := []) #[false, false, false, false, false, false, false] (by kernel_rfl) rfl rfl ⟨p0, p1⟩ (fun hHeld => ?_)
      refine with_tabW tk21.tab tk21.bits (fun HT_ HW_ => ?_)
      refine pure_ (i := 0) (N := some 139) (v := ?_) (a' := ?_) #[true, false, false, false, false, false, false] rfl rfl (any_of HT_.out (by kernel_rfl)) (fun _ _ _ h => h) (Or.inl ⟨by rfl, ?_⟩) ?_ ?_
      rotate_left
      · intro w'
        go_simp
        try with_reducible rfl
      rotate_left
      · simp only [Act.put, List.setIfInBounds_toArray, List.set_cons_zero, List.set_cons_succ]
        rfl
      refine pure_ (i := 2) (N := some 141) (v := ?_) (a' := ?_) #[true, false, true, false, false, false, false] rfl rfl (any_of HT_.out (by kernel_rfl)) (fun _ _ _ h => h) (Or.inl ⟨by rfl, ?_⟩) ?_ ?_
      rotate_left
      · intro w'
        go_simp
        try with_reducible rfl
      rotate_left
      · simp only [Act.put, List.setIfInBounds_toArray, List.set_cons_zero, List.set_cons_succ]
        rfl
      refine pure_ (i := 4) (N := some 143) (v := ?_) (a' := ?_) #[true, false, true, false, true, false, false] rfl rfl (any_of HT_.out (by kernel_rfl)) (fun _ _ _ h => h) (Or.inl ⟨by rfl, ?_⟩) ?_ ?_
      rotate_left
      · intro w'
        go_simp
        try with_reducible rfl
      rotate_left
      · simp only [Act.put, List.setIfInBounds_toArray, List.set_cons_zero, List.set_cons_succ]
        rfl
      refine take_ (i := 1) (N := some 140) (v := ?_) (a' := ?_) #[true, true, true, false, true, false, false] rfl rfl (take_ofW HT_.out HW_.out (by kernel_rfl)) (fun _ _ _ h => h) (Or.inl ⟨by rfl, ?_⟩) hHeld ?_ ?_
      rotate_left
      · rintro w' ⟨s0, s1⟩
        go_simp
        try with_reducible rfl
      rotate_left
      · simp only [Act.put, List.setIfInBounds_toArray, List.set_cons_zero, List.set_cons_succ]
        rfl
      refine take_ (i := 5) (N := some 144) (v := ?_) (a' := ?_) #[true, true, true, false, true, true, false] rfl rfl (take_ofW HT_.out HW_.out (by kernel_rfl)) (fun _ _ _ h => h) (Or.inl ⟨by rfl, ?_⟩) hHeld ?_ ?_
      rotate_left
      · rintro w' ⟨s0, s1⟩
        go_simp
        try with_reducible rfl
      rotate_left
      · simp only [Act.put, List.setIfInBounds_toArray, List.set_cons_zero, List.set_cons_succ]
        rfl
      refine one_ (i := 3) (N := some 142) #[true, true, true, true, true, true, false] rfl rfl (one_of HT_.out (by kernel_rfl)) (by decide) (fun K hK => ?_)
      refine goes_ Tryd.func19 (by kernel_rfl) rfl #[.string ib, .string bb] (by rfl) rfl rfl (by first | done | rfl | (simp only [List.map_toArray, List.map_cons, List.map_nil]; done) | (simp only [List.map_toArray, List.map_cons, List.map_nil]; rfl)) ?_
      refine (HDG.out).mono ?_
      rintro e' w12 ⟨rfl, b12⟩
      refine ⟨_, rfl, ?_⟩
      refine hK.out _ _ (⟨(P11.out.below b12 P11.out.lt).cell 0, (P11.out.below b12 P11.out.lt).cell 1⟩) (fun hHeld => ?_)
      clear hK K
      refine norm_ (a' := ?_) ?_ ?_
      rotate_left
      · show Act.put _ (some 142) _ = _
        simp only [Act.put, List.setIfInBounds_toArray, List.set_cons_zero, List.set_cons_succ]
        rfl
      refine pure_ (i := 6) (N := some 145) (v := ?_) (a' := ?_) #[true, true, true, true, true, true, true] rfl rfl (any_of HT_.out (by kernel_rfl)) (fun _ _ _ h => h) (Or.inl ⟨by rfl, ?_⟩) ?_ ?_
      rotate_left
      · intro w'
        go_simp
        try with_reducible rfl
      rotate_left
      · simp only [Act.put, List.setIfInBounds_toArray, List.set_cons_zero, List.set_cons_succ]
        rfl
      refine done_ (done_of HT_.out (by kernel_rfl)) ?_
      clear HT_ HW_
      have J12 := Lib.hid (J11.out.below b12)
      have M12 := Lib.hid (M11.out.below b12 M11.out.lt)
      have P12 := Lib.hid (P11.out.below b12 P11.out.lt)
      have K12 := Lib.hid (K11.out.trans (Kp.of_below b12))
      clear b12 J11 M11 P11 K11 p0 p1 HDG hHeld
      have he := HE.out
      by_cases hd : dg = p.sum
      · have HD := Lib.hid hd
        rw [decide_eq_true hd] at he
        clear hd
        try simp only [he, Bool.not_false, Bool.not_true]
        go_upto_region 23 with fail
        have J12d := Lib.hid (J12.out.below (below_drewN (Below.refl _ _) 1))
        have HPUT := Lib.hid (putT_any B j (J1.most : Nat) v' vN J1.noted J1.done p.id w12.drew J12d.out.hj (Nat.le_trans HB.out K12.out.size) J12d.out.n J12d.out.bd.2.1 J12d.out.bd.2.2.2)
        rw [IB.out] at HPUT
        have NGP := Lib.hid (show ¬ (gp = j ∨ vN.ownBlock = some gp) from fun e => J12.out.notIn P12.out (by decide) (e.elim .inl (fun e => .inr (.inr (.inl e)))))
        have p0 : w12.drew.cell? ⟨gp, 0, none⟩ = some (.string ib) := P12.out.cell 0
        refine start_ (n := 6) (S := fun w' => w'.cell? ⟨gp, 0, none⟩ = some (.string ib)) (ds := []) #[false, false, false, false, false, false] (by kernel_rfl) rfl rfl p0 (fun hHeld => ?_)
        refine with_tabW tk23.tab tk23.bits (fun HT_ HW_ => ?_)
        refine pure_ (i := 0) (N := some 147) (v := ?_) (a' := ?_) #[true, false, false, false, false, false] rfl rfl (any_of HT_.out (by kernel_rfl)) (fun _ _ _ h => h) (Or.inl ⟨by rfl, ?_⟩) ?_ ?_
        rotate_left
        · intro w'
          go_simp
          try with_reducible rfl
        rotate_left
        · simp only [Act.put, List.setIfInBounds_toArray, List.set_cons_zero, List.set_cons_succ]
          rfl
        refine pure_ (i := 1) (N := some 148) (v := ?_) (a' := ?_) #[true, true, false, false, false, false] rfl rfl (any_of HT_.out (by kernel_rfl)) (fun _ _ _ h => h) (Or.inl ⟨by rfl, ?_⟩) ?_ ?_
        rotate_left
        · intro w'
          go_simp
          try with_reducible rfl
        rotate_left
        · simp only [Act.put, List.setIfInBounds_toArray, List.set_cons_zero, List.set_cons_succ]
          rfl
        refine pure_ (i := 2) (N := some 149) (v := ?_) (a' := ?_) #[true, true, true, false, false, false] rfl rfl (any_of HT_.out (by kernel_rfl)) (fun _ _ _ h => h) (Or.inl ⟨by rfl, ?_⟩) ?_ ?_
        rotate_left
        · intro w'
          go_simp
          try with_reducible rfl
        rotate_left
        · simp only [Act.put, List.setIfInBounds_toArray, List.set_cons_zero, List.set_cons_succ]
          rfl
        refine pure_ (i := 3) (N := some 150) (v := ?_) (a' := ?_) #[true, true, true, true, false, false] rfl rfl (any_of HT_.out (by kernel_rfl)) (fun _ _ _ h => h) (Or.inl ⟨by rfl, ?_⟩) ?_ ?_
        rotate_left
        · intro w'
          go_simp
          try with_reducible rfl
        rotate_left
        · simp only [Act.put, List.setIfInBounds_toArray, List.set_cons_zero, List.set_cons_succ]
          rfl
        refine take_ (i := 4) (N := some 151) (v := ?_) (a' := ?_) #[true, true, true, true, true, false] rfl rfl (take_ofW HT_.out HW_.out (by kernel_rfl)) (fun _ _ _ h => h) (Or.inl ⟨by rfl, ?_⟩) hHeld ?_ ?_
        rotate_left
        · rintro w' s0
          go_simp
          try with_reducible rfl
        rotate_left
        · simp only [Act.put, List.setIfInBounds_toArray, List.set_cons_zero, List.set_cons_succ]
          rfl
        refine one_ (i := 5) (N := some 152) #[true, true, true, true, true, true] rfl rfl (one_of HT_.out (by kernel_rfl)) (by decide) (fun K hK => ?_)
        refine goes_ Tryd.func28 (by kernel_rfl) rfl #[.pointer (some ⟨j, 2, none⟩), .string ib] (by rfl) rfl rfl (by first | done | rfl | (simp only [List.map_toArray, List.map_cons, List.map_nil]; done) | (simp only [List.map_toArray, List.map_cons, List.map_nil]; rfl)) ?_
        refine (HPUT.out).mono ?_
        rintro e' w13 ⟨rfl, v2, hj13, hw13, hk13, hv13⟩
        refine ⟨_, rfl, ?_⟩
        refine hK.out _ _ ((P12.out.drew.kp hk13 NGP.out).cell 0) (fun hHeld => ?_)
        clear hK K
        refine norm_ (a' := ?_) ?_ ?_
        rotate_left
        · show Act.put _ (some 152) _ = _
          simp only [Act.put, List.setIfInBounds_toArray, List.set_cons_zero, List.set_cons_succ]
          rfl
        refine done_ (done_of HT_.out (by kernel_rfl)) ?_
        clear HT_ HW_
        have J13 := Lib.hid (J12d.out.noted p.id hj13 hw13 hk13 hv13)
        have M13 := Lib.hid (M12.out.drew.kp hk13 (fun e => J12.out.notIn M12.out (by decide) (e.elim .inl (fun e => .inr (.inr (.inl e))))))
        have P13 := Lib.hid (P12.out.drew.kp hk13 NGP.out)
        have K13 := Lib.hid (K12.out.drewR.trans (hk13.mono (S' := JS j vS0 vN T0) (fun i hi e => e.elim .inl (fun e => .inr (.inr (.inl e))))))
        have CUT2 := Lib.hid (show ∀ k, JS j v' v2 (T.eraseIdx i) k → JS j vS0 vN T0 k ∨ w.heap.size ≤ k from fun k hk => by
          rcases hk with e | e | e | e
          · exact CUTS.out k (.inl e)
          · exact CUTS.out k (.inr (.inl e))
          · rcases hv13 with h | ⟨b, h, hb⟩
            · exact CUTS.out k (.inr (.inr (.inl (h ▸ e))))
            · rw [h] at e; cases e; exact .inr (Nat.le_trans K12.out.size hb)
          · exact CUTS.out k (.inr (.inr (.inr e))))
        have q0 : w13.cell? ⟨gp, 0, none⟩ = some (.string ib) := P13.out.cell 0
        clear hj13 hw13 hk13 hv13 hHeld p0 HPUT
        go_wp2_with (first
          | ((with_reducible refine gate_store (t := 36) (p := 4) (v := .tmp 156) rfl ?_); refine wpList_store_row rfl 36 (.tmp 4) (.tmp 156) rfl gt #[.string ib, .string bb] rfl rfl 36 zTold M13.out size_told rfl (one_told2 _ _) ?_))
        have MF := Lib.hid (M13.out.setRow #[.string ib, .string bb])
        refine bodyPost_ret (results_ctt rfl _ _ gt 36 _ (0, 0) _ rfl MF.out Tryd.underlying36 rfl rfl) rfl ?_
        rw [HTF.out]
        rw [show putIn J i (J.some[i]'hi) (ptOf s) = ({ J1 with some := J1.some.eraseIdx i, done := pushQ J1.noted J1.done p.id }, ⟨p.id, m2.pcs.flatten, true, 0⟩) by
          rw [hme.out, hp.out]; unfold putIn lastIn; rw [if_neg (by rw [hl.out]; omega), hm2.out, DG.out, if_pos HD.out, hJ1.out]]
        exact ⟨by show _ = Ending.returned (.tuple #[.agg #[.string ⟨p.id.toArray⟩, .string ⟨m2.pcs.flatten.toArray⟩], .bool true, .int .i64 0]); rw [IB.out, BB.out]; rfl, v', v2, T.eraseIdx i, J13.out.kp (Kp.rowAt (S := fun i => i = gt) rfl _) (fun i hi e => J13.out.notIn M13.out (by decide) (e ▸ hi)), K13.out.row SG.out.1 _, CUT2.out⟩
      · have HD := Lib.hid hd
        rw [decide_eq_false hd] at he
        clear hd
        try simp only [he, Bool.not_false, Bool.not_true]
        go_wp2_with (first
          | ((with_reducible refine gate_store (t := 36) (p := 4) (v := .tmp 146) rfl ?_); refine wpList_store_row rfl 36 (.tmp 4) (.tmp 146) rfl gt zTold rfl rfl 36 zTold M12.out size_told rfl one_ztold ?_))
        have MF := Lib.hid (M12.out.setRow zTold)
        refine bodyPost_ret (results_ctt rfl _ _ gt 36 _ (0, 0) _ rfl MF.out Tryd.underlying36 rfl rfl) rfl ?_
        rw [HTF.out]
        rw [show putIn J i (J.some[i]'hi) (ptOf s) = ({ J1 with some := J1.some.eraseIdx i }, noTk 220) by
          rw [hme.out, hp.out]; unfold putIn lastIn; rw [if_neg (by rw [hl.out]; omega), hm2.out, DG.out, if_neg HD.out, hJ1.out]]
        exact ⟨rfl, v', vN, T.eraseIdx i, J12.out.kp (Kp.rowAt (S := fun i => i = gt) rfl zTold) (fun i hi e => J12.out.notIn M12.out (by decide) (e ▸ hi)), K12.out.row SG.out.1 zTold, CUTS.out⟩
end Go.Proofs.YtlogcgeinbefjaaDoor

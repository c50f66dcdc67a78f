/- (Joiner).Take. -/
import Derived.Test.YtlogcgeinbefjaaDoorPtK
import Derived.Test.YtlogcgeinbefjaaDoorShelf
namespace Go.Proofs.YtlogcgeinbefjaaDoor
open Go.RowKit Go.Proofs.YtlogcgeinbefjaaDoorW.PrintWords Go.Proofs.YtlogcgeinbefjaaDoorW.PrintLast
set_option linter.unusedSimpArgs false
set_option linter.unusedVariables false
set_option maxRecDepth 20000
def tk4.T : Bool × List (List Nat × List Nat) := (true, [([], []), ([0], [0]), ([1], [1]), ([2], [2]), ([3], [3]), ([], []), ([5], [5]), ([4, 6], [4, 6])])
def tk4.B : List Nat := [0, 1, 3, 7, 15, 0, 32, 127]
theorem tk4.tab : rtab .any (opsOf Tryd.f15 4) = tk4.T := by kernel_rfl
theorem tk4.bits : waitsOk tk4.T.2 tk4.B = true := by kernel_rfl
def tk8.T : Bool × List (List Nat × List Nat) := (true, [([], []), ([0], [0]), ([1], [1]), ([], []), ([3], [3]), ([], []), ([5], [5]), ([], []), ([7], [7]), ([8, 8], [8]), ([], []), ([10], [10]), ([11, 11], [11]), ([], []), ([13], [13]), ([4, 6, 9, 12, 14], [4, 6, 9, 12, 14]), ([15], [15]), ([2, 16], [2, 16])])
def tk8.B : List Nat := [0, 1, 3, 0, 8, 0, 32, 0, 128, 384, 0, 1024, 3072, 0, 8192, 32760, 65528, 131071]
theorem tk8.tab : rtab .any (opsOf Tryd.f15 8) = tk8.T := by kernel_rfl
theorem tk8.bits : waitsOk tk8.T.2 tk8.B = true := by kernel_rfl
def tk11.T : Bool × List (List Nat × List Nat) := (true, [([], []), ([0], [0]), ([1], [1]), ([2], [2]), ([], []), ([4], [4]), ([3, 5], [3, 5]), ([6], [6]), ([7], [7]), ([8, 7], [7, 8]), ([9, 7], [7, 9]), ([10, 7], [7, 10]), ([11, 7], [7, 11]), ([7], [7]), ([13, 7], [7, 13]), ([12, 14, 7], [7, 12, 14]), ([7, 15], [7, 15]), ([16, 7], [16])])
def tk11.B : List Nat := [0, 1, 3, 7, 0, 16, 63, 127, 255, 511, 1023, 2047, 4095, 255, 8447, 32767, 65535, 131071]
theorem tk11.tab : rtab .any (opsOf Tryd.f15 11) = tk11.T := by kernel_rfl
theorem tk11.bits : waitsOk tk11.T.2 tk11.B = true := by kernel_rfl
def tk13.T : Bool × List (List Nat × List Nat) := (true, [([], []), ([0], [0]), ([1], [1]), ([2], [2]), ([], []), ([4], [4]), ([3, 5], [3, 5]), ([6], [6]), ([7], [7])])
def tk13.B : List Nat := [0, 1, 3, 7, 0, 16, 63, 127, 255]
theorem tk13.tab : rtab .any (opsOf Tryd.f15 13) = tk13.T := by kernel_rfl
theorem tk13.bits : waitsOk tk13.T.2 tk13.B = true := by kernel_rfl
def tk15.T : Bool × List (List Nat × List Nat) := (true, [([], []), ([0], [0]), ([1], [1]), ([2], [2]), ([], []), ([4], [4]), ([], []), ([6], [6]), ([7], [7]), ([8], [8]), ([], []), ([10], [10]), ([], []), ([12], [12]), ([3, 5, 0, 1, 2, 3, 4, 5, 9, 12, 13], [3, 5]), ([14, 13, 0, 1, 2, 3, 4, 5, 9, 12, 13], [13, 14]), ([9, 11, 0, 1, 2, 3, 4, 5, 6, 7, 8, 9, 10, 11, 12, 13, 14, 15], [9, 11]), ([16, 15, 0, 1, 2, 3, 4, 5, 6, 7, 8, 9, 10, 11, 12, 13, 14, 15], [16])])
def tk15.B : List Nat := [0, 1, 3, 7, 0, 16, 0, 64, 192, 448, 0, 1024, 0, 4096, 13311, 29695, 65535, 131071]
theorem tk15.tab : rtab .any (opsOf Tryd.f15 15) = tk15.T := by kernel_rfl
theorem tk15.bits : waitsOk tk15.T.2 tk15.B = true := by kernel_rfl
def tk21.T : Bool × List (List Nat × List Nat) := (true, [([], []), ([0], [0]), ([], []), ([1, 2], [1, 2]), ([], []), ([4], [4]), ([3, 5], [3, 5])])
def tk21.B : List Nat := [0, 1, 0, 7, 0, 16, 63]
theorem tk21.tab : rtab .any (opsOf Tryd.f15 21) = tk21.T := by kernel_rfl
theorem tk21.bits : waitsOk tk21.T.2 tk21.B = true := by kernel_rfl
def tk23.T : Bool × List (List Nat × List Nat) := (true, [([], []), ([0], [0]), ([1], [1]), ([], []), ([3], [3]), ([2, 4], [2, 4])])
def tk23.B : List Nat := [0, 1, 3, 0, 8, 31]
theorem tk23.tab : rtab .any (opsOf Tryd.f15 23) = tk23.T := by kernel_rfl
theorem tk23.bits : waitsOk tk23.T.2 tk23.B = true := by kernel_rfl
set_option maxHeartbeats 1600000 in
theorem take_none (B j : Nat) (vS vN : Value) (T : List Pl) (J : Jn) (s : List UInt8) (w : World) (h : JnA B w j vS vN T J) (hs : s.length ≤ 140737488355328) (ho : okP s = false) :
    Calls Tryd.prog 15 #[.pointer (some ⟨j, 0, none⟩), .string ⟨s.toArray⟩] w fun e w' => TkOut B j vS vN T (takeF J s).1 (takeF J s).2 w w' e := by
  have HTF := Lib.hid (show takeF J s = (J, noTk 220) by unfold takeF; rw [ho]; rfl)
  have HR := Lib.hid (fun W => read_any s W hs)
  have HO := Lib.hid ho
  obtain ⟨sb, SB⟩ : ∃ t : ByteArray, Hid (⟨s.toArray⟩ = t) := ⟨_, Lib.hid rfl⟩
  rw [SB.out] at HR ⊢
  have HJ := Lib.hid h
  clear h hs ho
  go_enter Tryd.func15, Tryd.ntmps15
  go_upto_region 1 with fail
  obtain ⟨gt, hgt⟩ : ∃ g, Hid (w.heap.size = g) := ⟨_, Lib.hid rfl⟩
  refine gworld (fun W => Hid (Blk W gt 36 zTold) ∧ Hid (Below w.heap.size w W)) ⟨Lib.hid (by rw [← hgt.out]; exact Blk.new _ _ _), Lib.hid ((Below.refl _ _).alloc (Nat.le_refl _) _)⟩ ?_
  rintro w0 ⟨M0, B0⟩
  rw [hgt.out]
  go_wp2_with fail
  refine (HR.out w0).mono ?_
  rintro e w1 ⟨b1, cs, hcs, hone, rfl, hcp⟩
  obtain ⟨x0, x1, x2, x3, x4, rfl⟩ := five cs hcs
  clear hcp
  have HONE := Lib.hid hone
  have B1 := Lib.hid (B0.out.trans (b1.mono B0.out.size))
  have M1 := Lib.hid (M0.out.below b1 M0.out.lt)
  rw [HO.out]
  clear hcs hone b1
  go_upto_region 2 with (first
    | ((with_reducible refine gate_store (t := 65) (p := 7) (v := .tmp 15) rfl ?_); refine wpList_store_row rfl 65 (.tmp 7) (.tmp 15) rfl w1.heap.size #[x0, x1, x2, x3, x4] rfl rfl 65 zPt (Blk.new w1 65 zPt) size_part rfl HONE.out ?_))
  obtain ⟨gp, hgp⟩ : ∃ g, Hid (w1.heap.size = g) := ⟨_, Lib.hid rfl⟩
  refine gworld (fun W => Hid (Blk W gt 36 zTold) ∧ Hid (Blk W gp 65 #[x0, x1, x2, x3, x4]) ∧ Hid (Below w.heap.size w W)) ⟨Lib.hid ((M1.out.alloc (.cells zPt 65)).grown (row := some w1.heap.size) (only_setRow (only_refl _ _) _) (by have := M1.out.lt; intro h; cases h; omega)), Lib.hid (by rw [← hgp.out]; exact (Blk.new w1 65 zPt).setRow _), Lib.hid (below_of_only (B1.out.alloc B1.out.size _) (only_setRow (only_refl _ _) _) B1.out.size (by simp; exact Nat.le_succ_of_le B1.out.size))⟩ ?_
  rintro w2 ⟨M2, P2, B2⟩
  rw [hgp.out]
  have SG := Lib.hid (show w.heap.size ≤ gt ∧ w.heap.size ≤ gp from ⟨by rw [← hgt.out]; exact Nat.le_refl _, by rw [← hgp.out]; exact B1.out.size⟩)
  clear M1 B1 M0 B0 HONE
  go_wp2_with (first
    | ((with_reducible refine gate_store (t := 36) (p := 4) (v := .tmp 19) rfl ?_); refine wpList_store_row rfl 36 (.tmp 4) (.tmp 19) rfl gt zTold rfl rfl 36 zTold M2.out size_told rfl one_ztold ?_))
  have MF := Lib.hid (M2.out.setRow zTold)
  refine bodyPost_ret (results_ctt rfl _ _ gt 36 _ (0, 0) _ rfl MF.out Tryd.underlying36 rfl rfl) rfl ?_
  rw [HTF.out]
  have BF := below_of_only B2.out (only_setRow (only_refl _ _) zTold) SG.out.1 B2.out.size
  exact ⟨rfl, vS, vN, T, HJ.out.below BF, Kp.of_below BF, fun i h => .inl h⟩
set_option maxHeartbeats 1600000 in
theorem take_there (B j : Nat) (vS vN : Value) (T : List Pl) (J : Jn) (s : List UInt8) (w : World) (h : JnA B w j vS vN T J) (hs : s.length ≤ 140737488355328) (ho : okP s = true) (hd : J.done.any (fun x => x == (ptOf s).id) = true) :
    Calls Tryd.prog 15 #[.pointer (some ⟨j, 0, none⟩), .string ⟨s.toArray⟩] w fun e w' => TkOut B j vS vN T (takeF J s).1 (takeF J s).2 w w' e := by
  have HTF := Lib.hid (show takeF J s = (J, noTk 6) by unfold takeF; rw [ho, hd]; rfl)
  have hp0 := hd
  have HR := Lib.hid (fun W => read_any s W hs)
  have HO := Lib.hid ho
  obtain ⟨sb, SB⟩ : ∃ t : ByteArray, Hid (⟨s.toArray⟩ = t) := ⟨_, Lib.hid rfl⟩
  rw [SB.out] at HR ⊢
  have HJ := Lib.hid h
  obtain ⟨p, hp⟩ : ∃ p, Hid (ptOf s = p) := ⟨_, Lib.hid rfl⟩
  rw [hp.out] at hp0
  obtain ⟨ib, IB⟩ : ∃ t : ByteArray, Hid (⟨p.id.toArray⟩ = t) := ⟨_, Lib.hid rfl⟩
  obtain ⟨sm, SM⟩ : ∃ t : ByteArray, Hid (⟨p.sum.toArray⟩ = t) := ⟨_, Lib.hid rfl⟩
  obtain ⟨tb, TB⟩ : ∃ t : ByteArray, Hid (⟨p.text.toArray⟩ = t) := ⟨_, Lib.hid rfl⟩
  obtain ⟨A, hA⟩ : ∃ n, Hid (p.at_ = n) := ⟨_, Lib.hid rfl⟩
  obtain ⟨N, hN⟩ : ∃ n, Hid (p.many = n) := ⟨_, Lib.hid rfl⟩
  have HPC := Lib.hid (show ptC p = #[.string ib, .string sm, .string tb, .int .i64 (A : Nat), .int .i64 (N : Nat)] by unfold ptC; rw [IB.out, SM.out, TB.out, hA.out, hN.out])
  have HCON : Hid (∀ W, Win 9 W B vN (cstr J.done) → Calls Tryd.prog 22 #[vN, .string ib] W fun e w' => e = .returned (.bool true) ∧ w' = W) := Lib.hid (fun W hW => by
    have := containsT_any B vN J.done p.id W hW (by have := h.bd; omega)
    rw [IB.out, hp0] at this; exact this)
  clear h hs ho hd hp0
  go_enter Tryd.func15, Tryd.ntmps15
  go_upto_region 1 with fail
  obtain ⟨gt, hgt⟩ : ∃ g, Hid (w.heap.size = g) := ⟨_, Lib.hid rfl⟩
  refine gworld (fun W => Hid (Blk W gt 36 zTold) ∧ Hid (Below w.heap.size w W)) ⟨Lib.hid (by rw [← hgt.out]; exact Blk.new _ _ _), Lib.hid ((Below.refl _ _).alloc (Nat.le_refl _) _)⟩ ?_
  rintro w0 ⟨M0, B0⟩
  rw [hgt.out]
  go_wp2_with fail
  refine (HR.out w0).mono ?_
  rintro e w1 ⟨b1, cs, hcs, hone, rfl, hcp⟩
  have hcp2 := hcp HO.out
  rw [hp.out, HPC.out] at hcp2
  subst hcp2
  clear hcp
  have HONE := Lib.hid hone
  have B1 := Lib.hid (B0.out.trans (b1.mono B0.out.size))
  have M1 := Lib.hid (M0.out.below b1 M0.out.lt)
  rw [HO.out]
  clear hcs hone b1
  go_upto_region 2 with (first
    | ((with_reducible refine gate_store (t := 65) (p := 7) (v := .tmp 15) rfl ?_); refine wpList_store_row rfl 65 (.tmp 7) (.tmp 15) rfl w1.heap.size #[.string ib, .string sm, .string tb, .int .i64 (A : Nat), .int .i64 (N : Nat)] rfl rfl 65 zPt (Blk.new w1 65 zPt) size_part rfl HONE.out ?_))
  obtain ⟨gp, hgp⟩ : ∃ g, Hid (w1.heap.size = g) := ⟨_, Lib.hid rfl⟩
  refine gworld (fun W => Hid (Blk W gt 36 zTold) ∧ Hid (Blk W gp 65 #[.string ib, .string sm, .string tb, .int .i64 (A : Nat), .int .i64 (N : Nat)]) ∧ Hid (Below w.heap.size w W)) ⟨Lib.hid ((M1.out.alloc (.cells zPt 65)).grown (row := some w1.heap.size) (only_setRow (only_refl _ _) _) (by have := M1.out.lt; intro h; cases h; omega)), Lib.hid (by rw [← hgp.out]; exact (Blk.new w1 65 zPt).setRow _), Lib.hid (below_of_only (B1.out.alloc B1.out.size _) (only_setRow (only_refl _ _) _) B1.out.size (by simp; exact Nat.le_succ_of_le B1.out.size))⟩ ?_
  rintro w2 ⟨M2, P2, B2⟩
  rw [hgp.out]
  have SG := Lib.hid (show w.heap.size ≤ gt ∧ w.heap.size ≤ gp from ⟨by rw [← hgt.out]; exact Nat.le_refl _, by rw [← hgp.out]; exact B1.out.size⟩)
  clear M1 B1 M0 B0 HONE
  have J2 := Lib.hid (HJ.out.below B2.out)
  have n3 : w2.drew.cell? ⟨j, 3, none⟩ = some vN := J2.out.hj.cell 3
  have p0 : w2.drew.cell? ⟨gp, 0, none⟩ = some (.string ib) := P2.out.cell 0
  go_upto_region 4 with fail
  refine start_ (n := 8) (S := fun w' => w'.cell? ⟨j, 3, none⟩ = some vN ∧ w'.cell? ⟨gp, 0, none⟩ = some (.string ib)) (ds := []) #[false, false, false, false, false, false, false, false] (by kernel_rfl) rfl rfl ⟨n3, p0⟩ (fun hHeld => ?_)
  refine with_tabW tk4.tab tk4.bits (fun HT_ HW_ => ?_)
  refine pure_ (i := 0) (N := some 20) (v := ?_) (a' := ?_) #[true, false, false, false, false, false, false, false] rfl rfl (any_of HT_.out (by kernel_rfl)) (fun _ _ _ h => h) (Or.inl ⟨by rfl, ?_⟩) ?_ ?_
  rotate_left
  · intro w'
    go_simp
    try with_reducible rfl
  rotate_left
  · simp only [Act.put, List.setIfInBounds_toArray, List.set_cons_zero, List.set_cons_succ]
    rfl
  refine pure_ (i := 1) (N := some 21) (v := ?_) (a' := ?_) #[true, true, false, false, false, false, false, false] rfl rfl (any_of HT_.out (by kernel_rfl)) (fun _ _ _ h => h) (Or.inl ⟨by rfl, ?_⟩) ?_ ?_
  rotate_left
  · intro w'
    go_simp
    try with_reducible rfl
  rotate_left
  · simp only [Act.put, List.setIfInBounds_toArray, List.set_cons_zero, List.set_cons_succ]
    rfl
  refine pure_ (i := 2) (N := some 22) (v := ?_) (a' := ?_) #[true, true, true, false, false, false, false, false] rfl rfl (any_of HT_.out (by kernel_rfl)) (fun _ _ _ h => h) (Or.inl ⟨by rfl, ?_⟩) ?_ ?_
  rotate_left
  · intro w'
    go_simp
    try with_reducible rfl
  rotate_left
  · simp only [Act.put, List.setIfInBounds_toArray, List.set_cons_zero, List.set_cons_succ]
    rfl
  refine pure_ (i := 3) (N := some 23) (v := ?_) (a' := ?_) #[true, true, true, true, false, false, false, false] rfl rfl (any_of HT_.out (by kernel_rfl)) (fun _ _ _ h => h) (Or.inl ⟨by rfl, ?_⟩) ?_ ?_
  rotate_left
  · intro w'
    go_simp
    try with_reducible rfl
  rotate_left
  · simp only [Act.put, List.setIfInBounds_toArray, List.set_cons_zero, List.set_cons_succ]
    rfl
  refine pure_ (i := 5) (N := some 25) (v := ?_) (a' := ?_) #[true, true, true, true, false, true, false, false] rfl rfl (any_of HT_.out (by kernel_rfl)) (fun _ _ _ h => h) (Or.inl ⟨by rfl, ?_⟩) ?_ ?_
  rotate_left
  · intro w'
    go_simp
    try with_reducible rfl
  rotate_left
  · simp only [Act.put, List.setIfInBounds_toArray, List.set_cons_zero, List.set_cons_succ]
    rfl
  refine take_ (i := 4) (N := some 24) (v := ?_) (a' := ?_) #[true, true, true, true, true, true, false, false] rfl rfl (take_ofW HT_.out HW_.out (by kernel_rfl)) (fun _ _ _ h => h) (Or.inl ⟨by rfl, ?_⟩) hHeld ?_ ?_
  rotate_left
  · rintro w' ⟨s0, s1⟩
    go_simp
    try with_reducible rfl
  rotate_left
  · simp only [Act.put, List.setIfInBounds_toArray, List.set_cons_zero, List.set_cons_succ]
    rfl
  refine take_ (i := 6) (N := some 26) (v := ?_) (a' := ?_) #[true, true, true, true, true, true, true, false] rfl rfl (take_ofW HT_.out HW_.out (by kernel_rfl)) (fun _ _ _ h => h) (Or.inl ⟨by rfl, ?_⟩) hHeld ?_ ?_
  rotate_left
  · rintro w' ⟨s0, s1⟩
    go_simp
    try with_reducible rfl
  rotate_left
  · simp only [Act.put, List.setIfInBounds_toArray, List.set_cons_zero, List.set_cons_succ]
    rfl
  refine one_ (i := 7) (N := some 27) #[true, true, true, true, true, true, true, true] rfl rfl (one_of HT_.out (by kernel_rfl)) (by decide) (fun K hK => ?_)
  refine goes_ Tryd.func22 (by kernel_rfl) rfl #[vN, .string ib] (by rfl) rfl rfl (by first | done | rfl | (simp only [List.map_toArray, List.map_cons, List.map_nil]; done) | (simp only [List.map_toArray, List.map_cons, List.map_nil]; rfl)) ?_
  refine (HCON.out w2.drew (J2.out.n.below (below_drewN (Below.refl _ _) 1))).mono ?_
  rintro e' w4 ⟨rfl, rfl⟩
  refine ⟨_, rfl, ?_⟩
  refine hK.out _ _ (⟨n3, p0⟩) (fun hHeld => ?_)
  clear hK K
  refine norm_ (a' := ?_) ?_ ?_
  rotate_left
  · show Act.put _ (some 27) _ = _
    simp only [Act.put, List.setIfInBounds_toArray, List.set_cons_zero, List.set_cons_succ]
    rfl
  refine done_ (done_of HT_.out (by kernel_rfl)) ?_
  clear HT_ HW_
  have M3 := Lib.hid M2.out.drew
  have B3 := Lib.hid (show Below w.heap.size w w2.drew from below_drewN B2.out 1)
  go_wp2_with (first
    | ((with_reducible refine gate_store (t := 36) (p := 4) (v := .tmp 28) rfl ?_); refine wpList_store_row rfl 36 (.tmp 4) (.tmp 28) rfl gt zTold rfl rfl 36 zTold M3.out size_told rfl one_ztold ?_))
  have MF := Lib.hid (M3.out.setRow zTold)
  refine bodyPost_ret (results_ctt rfl _ _ gt 36 _ (0, 0) _ rfl MF.out Tryd.underlying36 rfl rfl) rfl ?_
  rw [HTF.out]
  have BF := below_of_only B3.out (only_setRow (only_refl _ _) zTold) SG.out.1 B3.out.size
  exact ⟨rfl, vS, vN, T, HJ.out.below BF, Kp.of_below BF, fun i h => .inl h⟩
set_option maxHeartbeats 1600000 in
theorem take_old_sum (B j : Nat) (vS vN : Value) (T : List Pl) (J : Jn) (s : List UInt8) (w : World) (h : JnA B w j vS vN T J) (hs : s.length ≤ 140737488355328) (ho : okP s = true) (hd : J.done.any (fun x => x == (ptOf s).id) = false) (i : Nat) (hi : i < J.some.length) (hF : fstI (fun m : Ms => m.id == (ptOf s).id) J.some = (i : Nat)) (hsum : ∀ m, J.some[i]? = some m → m.sum ≠ (ptOf s).sum) :
    Calls Tryd.prog 15 #[.pointer (some ⟨j, 0, none⟩), .string ⟨s.toArray⟩] w fun e w' => TkOut B j vS vN T (takeF J s).1 (takeF J s).2 w w' e := by
  have HTF := Lib.hid (show takeF J s = (J, noTk 220) by
    unfold takeF
    rw [ho, hd, hF]
    simp only [Int.toNat_natCast, List.getElem?_eq_getElem hi]
    rw [if_pos trivial, if_neg (by simp), if_neg (by omega)]
    unfold oldIn
    rw [if_neg (fun h => hsum _ (List.getElem?_eq_getElem hi) h.1)])
  have hp0 := hd
  have hF0 := hF
  have HR := Lib.hid (fun W => read_any s W hs)
  have HO := Lib.hid ho
  obtain ⟨sb, SB⟩ : ∃ t : ByteArray, Hid (⟨s.toArray⟩ = t) := ⟨_, Lib.hid rfl⟩
  rw [SB.out] at HR ⊢
  have HJ := Lib.hid h
  obtain ⟨p, hp⟩ : ∃ p, Hid (ptOf s = p) := ⟨_, Lib.hid rfl⟩
  rw [hp.out] at hp0
  obtain ⟨ib, IB⟩ : ∃ t : ByteArray, Hid (⟨p.id.toArray⟩ = t) := ⟨_, Lib.hid rfl⟩
  obtain ⟨sm, SM⟩ : ∃ t : ByteArray, Hid (⟨p.sum.toArray⟩ = t) := ⟨_, Lib.hid rfl⟩
  obtain ⟨tb, TB⟩ : ∃ t : ByteArray, Hid (⟨p.text.toArray⟩ = t) := ⟨_, Lib.hid rfl⟩
  obtain ⟨A, hA⟩ : ∃ n, Hid (p.at_ = n) := ⟨_, Lib.hid rfl⟩
  obtain ⟨N, hN⟩ : ∃ n, Hid (p.many = n) := ⟨_, Lib.hid rfl⟩
  have HPC := Lib.hid (show ptC p = #[.string ib, .string sm, .string tb, .int .i64 (A : Nat), .int .i64 (N : Nat)] by unfold ptC; rw [IB.out, SM.out, TB.out, hA.out, hN.out])
  have HCON : Hid (∀ W, Win 9 W B vN (cstr J.done) → Calls Tryd.prog 22 #[vN, .string ib] W fun e w' => e = .returned (.bool false) ∧ w' = W) := Lib.hid (fun W hW => by
    have := containsT_any B vN J.done p.id W hW (by have := h.bd; omega)
    rw [IB.out, hp0] at this; exact this)
  have HIX : Hid (∀ (W : World) (g : Nat), JnA B W j vS vN T J → Blk W g 65 #[.string ib, .string sm, .string tb, .int .i64 (A : Nat), .int .i64 (N : Nat)] → Calls Tryd.prog 23 #[vS, .func (Fn.func 24) #[] #[.pointer (some ⟨g, 0, none⟩)]] W fun e w' => e = .returned (.int .i64 (i : Nat)) ∧ Below W.heap.size W w') := Lib.hid (fun W g hW hg => by
    have := indexM_any B j vS vN T J g p.id _ W hW hg (by rw [← IB.out]; rfl)
    rw [← hp.out, hF] at this; exact this)
  rw [hp.out] at hsum
  have HI := Lib.hid hi
  clear h hs ho hd hp0 hF hF0 hi
  go_enter Tryd.func15, Tryd.ntmps15
  go_upto_region 1 with fail
  obtain ⟨gt, hgt⟩ : ∃ g, Hid (w.heap.size = g) := ⟨_, Lib.hid rfl⟩
  refine gworld (fun W => Hid (Blk W gt 36 zTold) ∧ Hid (Below w.heap.size w W)) ⟨Lib.hid (by rw [← hgt.out]; exact Blk.new _ _ _), Lib.hid ((Below.refl _ _).alloc (Nat.le_refl _) _)⟩ ?_
  rintro w0 ⟨M0, B0⟩
  rw [hgt.out]
  go_wp2_with fail
  refine (HR.out w0).mono ?_
  rintro e w1 ⟨b1, cs, hcs, hone, rfl, hcp⟩
  have hcp2 := hcp HO.out
  rw [hp.out, HPC.out] at hcp2
  subst hcp2
  clear hcp
  have HONE := Lib.hid hone
  have B1 := Lib.hid (B0.out.trans (b1.mono B0.out.size))
  have M1 := Lib.hid (M0.out.below b1 M0.out.lt)
  rw [HO.out]
  clear hcs hone b1
  go_upto_region 2 with (first
    | ((with_reducible refine gate_store (t := 65) (p := 7) (v := .tmp 15) rfl ?_); refine wpList_store_row rfl 65 (.tmp 7) (.tmp 15) rfl w1.heap.size #[.string ib, .string sm, .string tb, .int .i64 (A : Nat), .int .i64 (N : Nat)] rfl rfl 65 zPt (Blk.new w1 65 zPt) size_part rfl HONE.out ?_))
  obtain ⟨gp, hgp⟩ : ∃ g, Hid (w1.heap.size = g) := ⟨_, Lib.hid rfl⟩
  refine gworld (fun W => Hid (Blk W gt 36 zTold) ∧ Hid (Blk W gp 65 #[.string ib, .string sm, .string tb, .int .i64 (A : Nat), .int .i64 (N : Nat)]) ∧ Hid (Below w.heap.size w W)) ⟨Lib.hid ((M1.out.alloc (.cells zPt 65)).grown (row := some w1.heap.size) (only_setRow (only_refl _ _) _) (by have := M1.out.lt; intro h; cases h; omega)), Lib.hid (by rw [← hgp.out]; exact (Blk.new w1 65 zPt).setRow _), Lib.hid (below_of_only (B1.out.alloc B1.out.size _) (only_setRow (only_refl _ _) _) B1.out.size (by simp; exact Nat.le_succ_of_le B1.out.size))⟩ ?_
  rintro w2 ⟨M2, P2, B2⟩
  rw [hgp.out]
  have SG := Lib.hid (show w.heap.size ≤ gt ∧ w.heap.size ≤ gp from ⟨by rw [← hgt.out]; exact Nat.le_refl _, by rw [← hgp.out]; exact B1.out.size⟩)
  clear M1 B1 M0 B0 HONE
  have J2 := Lib.hid (HJ.out.below B2.out)
  have n3 : w2.drew.cell? ⟨j, 3, none⟩ = some vN := J2.out.hj.cell 3
  have p0 : w2.drew.cell? ⟨gp, 0, none⟩ = some (.string ib) := P2.out.cell 0
  go_upto_region 4 with fail
  refine start_ (n := 8) (S := fun w' => w'.cell? ⟨j, 3, none⟩ = some vN ∧ w'.cell? ⟨gp, 0, none⟩ = some (.string ib)) (ds := []) #[false, false, false, false, false, false, false, false] (by kernel_rfl) rfl rfl ⟨n3, p0⟩ (fun hHeld => ?_)
  refine with_tabW tk4.tab tk4.bits (fun HT_ HW_ => ?_)
  refine pure_ (i := 0) (N := some 20) (v := ?_) (a' := ?_) #[true, false, false, false, false, false, false, false] rfl rfl (any_of HT_.out (by kernel_rfl)) (fun _ _ _ h => h) (Or.inl ⟨by rfl, ?_⟩) ?_ ?_
  rotate_left
  · intro w'
    go_simp
    try with_reducible rfl
  rotate_left
  · simp only [Act.put, List.setIfInBounds_toArray, List.set_cons_zero, List.set_cons_succ]
    rfl
  refine pure_ (i := 1) (N := some 21) (v := ?_) (a' := ?_) #[true, true, false, false, false, false, false, false] rfl rfl (any_of HT_.out (by kernel_rfl)) (fun _ _ _ h => h) (Or.inl ⟨by rfl, ?_⟩) ?_ ?_
  rotate_left
  · intro w'
    go_simp
    try with_reducible rfl
  rotate_left
  · simp only [Act.put, List.setIfInBounds_toArray, List.set_cons_zero, List.set_cons_succ]
    rfl
  refine pure_ (i := 2) (N := some 22) (v := ?_) (a' := ?_) #[true, true, true, false, false, false, false, false] rfl rfl (any_of HT_.out (by kernel_rfl)) (fun _ _ _ h => h) (Or.inl ⟨by rfl, ?_⟩) ?_ ?_
  rotate_left
  · intro w'
    go_simp
    try with_reducible rfl
  rotate_left
  · simp only [Act.put, List.setIfInBounds_toArray, List.set_cons_zero, List.set_cons_succ]
    rfl
  refine pure_ (i := 3) (N := some 23) (v := ?_) (a' := ?_) #[true, true, true, true, false, false, false, false] rfl rfl (any_of HT_.out (by kernel_rfl)) (fun _ _ _ h => h) (Or.inl ⟨by rfl, ?_⟩) ?_ ?_
  rotate_left
  · intro w'
    go_simp
    try with_reducible rfl
  rotate_left
  · simp only [Act.put, List.setIfInBounds_toArray, List.set_cons_zero, List.set_cons_succ]
    rfl
  refine pure_ (i := 5) (N := some 25) (v := ?_) (a' := ?_) #[true, true, true, true, false, true, false, false] rfl rfl (any_of HT_.out (by kernel_rfl)) (fun _ _ _ h => h) (Or.inl ⟨by rfl, ?_⟩) ?_ ?_
  rotate_left
  · intro w'
    go_simp
    try with_reducible rfl
  rotate_left
  · simp only [Act.put, List.setIfInBounds_toArray, List.set_cons_zero, List.set_cons_succ]
    rfl
  refine take_ (i := 4) (N := some 24) (v := ?_) (a' := ?_) #[true, true, true, true, true, true, false, false] rfl rfl (take_ofW HT_.out HW_.out (by kernel_rfl)) (fun _ _ _ h => h) (Or.inl ⟨by rfl, ?_⟩) hHeld ?_ ?_
  rotate_left
  · rintro w' ⟨s0, s1⟩
    go_simp
    try with_reducible rfl
  rotate_left
  · simp only [Act.put, List.setIfInBounds_toArray, List.set_cons_zero, List.set_cons_succ]
    rfl
  refine take_ (i := 6) (N := some 26) (v := ?_) (a' := ?_) #[true, true, true, true, true, true, true, false] rfl rfl (take_ofW HT_.out HW_.out (by kernel_rfl)) (fun _ _ _ h => h) (Or.inl ⟨by rfl, ?_⟩) hHeld ?_ ?_
  rotate_left
  · rintro w' ⟨s0, s1⟩
    go_simp
    try with_reducible rfl
  rotate_left
  · simp only [Act.put, List.setIfInBounds_toArray, List.set_cons_zero, List.set_cons_succ]
    rfl
  refine one_ (i := 7) (N := some 27) #[true, true, true, true, true, true, true, true] rfl rfl (one_of HT_.out (by kernel_rfl)) (by decide) (fun K hK => ?_)
  refine goes_ Tryd.func22 (by kernel_rfl) rfl #[vN, .string ib] (by rfl) rfl rfl (by first | done | rfl | (simp only [List.map_toArray, List.map_cons, List.map_nil]; done) | (simp only [List.map_toArray, List.map_cons, List.map_nil]; rfl)) ?_
  refine (HCON.out w2.drew (J2.out.n.below (below_drewN (Below.refl _ _) 1))).mono ?_
  rintro e' w4 ⟨rfl, rfl⟩
  refine ⟨_, rfl, ?_⟩
  refine hK.out _ _ (⟨n3, p0⟩) (fun hHeld => ?_)
  clear hK K
  refine norm_ (a' := ?_) ?_ ?_
  rotate_left
  · show Act.put _ (some 27) _ = _
    simp only [Act.put, List.setIfInBounds_toArray, List.set_cons_zero, List.set_cons_succ]
    rfl
  refine done_ (done_of HT_.out (by kernel_rfl)) ?_
  clear HT_ HW_
  have M3 := Lib.hid M2.out.drew
  have P3 := Lib.hid P2.out.drew
  have B3 := Lib.hid (show Below w.heap.size w w2.drew from below_drewN B2.out 1)
  have J3 := Lib.hid (HJ.out.below B3.out)
  have s1 : w2.drew.cell? ⟨j, 1, none⟩ = some vS := J3.out.hj.cell 1
  clear n3 p0
  go_upto_region 6 with fail
  go_wp2_with fail
  refine (HIX.out w2.drew gp J3.out P3.out).mono ?_
  rintro e w4 ⟨rfl, b4⟩
  have B4 := Lib.hid (B3.out.trans (b4.mono B3.out.size))
  have M4 := Lib.hid (M3.out.below b4 M3.out.lt)
  have P4 := Lib.hid (P3.out.below b4 P3.out.lt)
  have J4 := Lib.hid (HJ.out.below B4.out)
  clear b4 s1 J3 B3 P3 M3 J2 B2 P2 M2 HIX HCON HR
  obtain ⟨t, b, off, cap, hT, hv, hcell, hm⟩ := J4.out.at_ i HI.out
  have s1 : w4.cell? ⟨j, 1, none⟩ = some vS := J4.out.hj.cell 1
  rw [hv] at s1
  obtain ⟨n, hn⟩ : ∃ n, Hid (J.some.length = n) := ⟨_, Lib.hid rfl⟩
  rw [hn.out] at s1
  have e1 : 0 ≤ (i : Int) ∧ (i : Int) < (n : Int) := by have := HI.out; have := hn.out; omega
  have HM := Lib.hid hm
  have HT := Lib.hid hT
  obtain ⟨m, hme⟩ : ∃ m, Hid (J.some[i]'HI.out = m) := ⟨_, Lib.hid rfl⟩
  rw [hme.out] at HM
  have HMI : Hid (J.some[i]? = some m) := Lib.hid (by rw [List.getElem?_eq_getElem HI.out, hme.out])
  obtain ⟨mb, MB⟩ : ∃ t : ByteArray, Hid (⟨m.sum.toArray⟩ = t) := ⟨_, Lib.hid rfl⟩
  obtain ⟨L, hL⟩ : ∃ n, Hid (m.pcs.length = n) := ⟨_, Lib.hid rfl⟩
  have xc : ∀ W, Blk W t.x 72 (msC t m) → Blk W t.x 72 #[.string ⟨m.id.toArray⟩, .string mb, .slice (some ⟨t.p, 0, none⟩) L L, .slice (some ⟨t.c, 0, none⟩) L L, .int .i64 m.left] := fun W hW => by rw [← MB.out, ← hL.out]; exact hW
  have X4 := Lib.hid (xc _ HM.out.x)
  clear hT hm hv xc
  go_upto_region 11 with fail
  clear s1 hcell
  have x1 : w4.drew.cell? ⟨t.x, 1, none⟩ = some (.string mb) := X4.out.cell 1
  have p1 : w4.drew.cell? ⟨gp, 1, none⟩ = some (.string sm) := P4.out.cell 1
  have he : (mb.toList == sm.toList) = false := by rw [← MB.out, ← SM.out, ByteArray.toList_eq, ByteArray.toList_eq]; exact beq_eq_false_iff_ne.mpr (hsum m HMI.out)
  refine start_ (n := 18) (S := fun w' => w'.cell? ⟨t.x, 1, none⟩ = some (.string mb) ∧ w'.cell? ⟨gp, 1, none⟩ = some (.string sm)) (ds := []) #[false, false, false, false, false, false, false, false, false, false, false, false, false, false, false, false, false, false] (by kernel_rfl) rfl rfl ⟨x1, p1⟩ (fun hHeld => ?_)
  refine with_tabW tk11.tab tk11.bits (fun HT_ HW_ => ?_)
  refine pure_ (i := 0) (N := some 72) (v := ?_) (a' := ?_) #[true, false, false, false, false, false, false, false, false, false, false, false, false, false, false, false, false, false] rfl rfl (any_of HT_.out (by kernel_rfl)) (fun _ _ _ h => h) (Or.inl ⟨by rfl, ?_⟩) ?_ ?_
  rotate_left
  · intro w'
    go_simp
    try with_reducible rfl
  rotate_left
  · simp only [Act.put, List.setIfInBounds_toArray, List.set_cons_zero, List.set_cons_succ]
    rfl
  refine pure_ (i := 1) (N := some 73) (v := ?_) (a' := ?_) #[true, true, false, false, false, false, false, false, false, false, false, false, false, false, false, false, false, false] rfl rfl (any_of HT_.out (by kernel_rfl)) (fun _ _ _ h => h) (Or.inl ⟨by rfl, ?_⟩) ?_ ?_
  rotate_left
  · intro w'
    go_simp
    try with_reducible rfl
  rotate_left
  · simp only [Act.put, List.setIfInBounds_toArray, List.set_cons_zero, List.set_cons_succ]
    rfl
  refine pure_ (i := 2) (N := some 74) (v := ?_) (a' := ?_) #[true, true, true, false, false, false, false, false, false, false, false, false, false, false, false, false, false, false] rfl rfl (any_of HT_.out (by kernel_rfl)) (fun _ _ _ h => h) (Or.inl ⟨by rfl, ?_⟩) ?_ ?_
  rotate_left
  · intro w'
    go_simp
    try with_reducible rfl
  rotate_left
  · simp only [Act.put, List.setIfInBounds_toArray, List.set_cons_zero, List.set_cons_succ]
    rfl
  refine pure_ (i := 4) (N := some 76) (v := ?_) (a' := ?_) #[true, true, true, false, true, false, false, false, false, false, false, false, false, false, false, false, false, false] rfl rfl (any_of HT_.out (by kernel_rfl)) (fun _ _ _ h => h) (Or.inl ⟨by rfl, ?_⟩) ?_ ?_
  rotate_left
  · intro w'
    go_simp
    try with_reducible rfl
  rotate_left
  · simp only [Act.put, List.setIfInBounds_toArray, List.set_cons_zero, List.set_cons_succ]
    rfl
  refine take_ (i := 3) (N := some 75) (v := ?_) (a' := ?_) #[true, true, true, true, true, false, false, false, false, false, false, false, false, false, false, false, false, false] rfl rfl (take_ofW HT_.out HW_.out (by kernel_rfl)) (fun _ _ _ h => h) (Or.inl ⟨by rfl, ?_⟩) hHeld ?_ ?_
  rotate_left
  · rintro w' ⟨s0, s1⟩
    go_simp
    try with_reducible rfl
  rotate_left
  · simp only [Act.put, List.setIfInBounds_toArray, List.set_cons_zero, List.set_cons_succ]
    rfl
  refine take_ (i := 5) (N := some 77) (v := ?_) (a' := ?_) #[true, true, true, true, true, true, false, false, false, false, false, false, false, false, false, false, false, false] rfl rfl (take_ofW HT_.out HW_.out (by kernel_rfl)) (fun _ _ _ h => h) (Or.inl ⟨by rfl, ?_⟩) hHeld ?_ ?_
  rotate_left
  · rintro w' ⟨s0, s1⟩
    go_simp
    try with_reducible rfl
  rotate_left
  · simp only [Act.put, List.setIfInBounds_toArray, List.set_cons_zero, List.set_cons_succ]
    rfl
  refine pure_ (i := 6) (N := some 78) (v := ?_) (a' := ?_) #[true, true, true, true, true, true, true, false, false, false, false, false, false, false, false, false, false, false] rfl rfl (any_of HT_.out (by kernel_rfl)) (fun _ _ _ h => h) (Or.inl ⟨by rfl, ?_⟩) ?_ ?_
  rotate_left
  · intro w'
    go_simp
    try with_reducible rfl
  rotate_left
  · simp only [Act.put, List.setIfInBounds_toArray, List.set_cons_zero, List.set_cons_succ]
    rfl
  refine pure_ (i := 7) (N := some 79) (v := ?_) (a' := ?_) #[true, true, true, true, true, true, true, true, false, false, false, false, false, false, false, false, false, false] rfl rfl (any_of HT_.out (by kernel_rfl)) (fun _ _ _ h => h) (Or.inl ⟨by rfl, ?_⟩) ?_ ?_
  rotate_left
  · intro w'
    go_simp
    try with_reducible rfl
  rotate_left
  · simp only [Act.put, List.setIfInBounds_toArray, List.set_cons_zero, List.set_cons_succ]
    rfl
  refine pure_ (i := 8) (N := some 80) (v := undef) (a' := ?_) #[true, true, true, true, true, true, true, true, true, false, false, false, false, false, false, false, false, false] rfl rfl (any_of HT_.out (by kernel_rfl)) (fun _ _ _ h => h) (Or.inr ⟨by rfl, rfl⟩) ?_ ?_
  rotate_left
  · simp only [Act.put, List.setIfInBounds_toArray, List.set_cons_zero, List.set_cons_succ]
    rfl
  refine pure_ (i := 9) (N := some 81) (v := undef) (a' := ?_) #[true, true, true, true, true, true, true, true, true, true, false, false, false, false, false, false, false, false] rfl rfl (any_of HT_.out (by kernel_rfl)) (fun _ _ _ h => h) (Or.inr ⟨by rfl, rfl⟩) ?_ ?_
  rotate_left
  · simp only [Act.put, List.setIfInBounds_toArray, List.set_cons_zero, List.set_cons_succ]
    rfl
  refine pure_ (i := 10) (N := some 82) (v := undef) (a' := ?_) #[true, true, true, true, true, true, true, true, true, true, true, false, false, false, false, false, false, false] rfl rfl (any_of HT_.out (by kernel_rfl)) (fun _ _ _ h => h) (Or.inr ⟨by rfl, rfl⟩) ?_ ?_
  rotate_left
  · simp only [Act.put, List.setIfInBounds_toArray, List.set_cons_zero, List.set_cons_succ]
    rfl
  refine pure_ (i := 13) (N := some 85) (v := undef) (a' := ?_) #[true, true, true, true, true, true, true, true, true, true, true, false, false, true, false, false, false, false] rfl rfl (any_of HT_.out (by kernel_rfl)) (fun _ _ _ h => h) (Or.inr ⟨by rfl, rfl⟩) ?_ ?_
  rotate_left
  · simp only [Act.put, List.setIfInBounds_toArray, List.set_cons_zero, List.set_cons_succ]
    rfl
  refine take_ (i := 11) (N := some 83) (v := undef) (a' := ?_) #[true, true, true, true, true, true, true, true, true, true, true, true, false, true, false, false, false, false] rfl rfl (take_ofW HT_.out HW_.out (by kernel_rfl)) (fun _ _ _ h => h) (Or.inr ⟨by rfl, rfl⟩) hHeld ?_ ?_
  rotate_left
  · simp only [Act.put, List.setIfInBounds_toArray, List.set_cons_zero, List.set_cons_succ]
    rfl
  refine pure_ (i := 12) (N := some 84) (v := undef) (a' := ?_) #[true, true, true, true, true, true, true, true, true, true, true, true, true, true, false, false, false, false] rfl rfl (any_of HT_.out (by kernel_rfl)) (fun _ _ _ h => h) (Or.inr ⟨by rfl, rfl⟩) ?_ ?_
  rotate_left
  · simp only [Act.put, List.setIfInBounds_toArray, List.set_cons_zero, List.set_cons_succ]
    rfl
  refine take_ (i := 14) (N := some 86) (v := undef) (a' := ?_) #[true, true, true, true, true, true, true, true, true, true, true, true, true, true, true, false, false, false] rfl rfl (take_ofW HT_.out HW_.out (by kernel_rfl)) (fun _ _ _ h => h) (Or.inr ⟨by rfl, rfl⟩) hHeld ?_ ?_
  rotate_left
  · simp only [Act.put, List.setIfInBounds_toArray, List.set_cons_zero, List.set_cons_succ]
    rfl
  refine pure_ (i := 15) (N := some 87) (v := undef) (a' := ?_) #[true, true, true, true, true, true, true, true, true, true, true, true, true, true, true, true, false, false] rfl rfl (any_of HT_.out (by kernel_rfl)) (fun _ _ _ h => h) (Or.inr ⟨by rfl, rfl⟩) ?_ ?_
  rotate_left
  · simp only [Act.put, List.setIfInBounds_toArray, List.set_cons_zero, List.set_cons_succ]
    rfl
  refine pure_ (i := 16) (N := some 88) (v := ?_) (a' := ?_) #[true, true, true, true, true, true, true, true, true, true, true, true, true, true, true, true, true, false] rfl rfl (any_of HT_.out (by kernel_rfl)) (fun _ _ _ h => h) (Or.inl ⟨by rfl, ?_⟩) ?_ ?_
  rotate_left
  · intro w'
    go_simp
    try with_reducible rfl
  rotate_left
  · simp only [Act.put, List.setIfInBounds_toArray, List.set_cons_zero, List.set_cons_succ]
    rfl
  refine pure_ (i := 17) (N := some 71) (v := ?_) (a' := ?_) #[true, true, true, true, true, true, true, true, true, true, true, true, true, true, true, true, true, true] rfl rfl (any_of HT_.out (by kernel_rfl)) (fun _ _ _ h => h) (Or.inl ⟨by rfl, ?_⟩) ?_ ?_
  rotate_left
  · intro w'
    go_simp
    try with_reducible rfl
  rotate_left
  · simp only [Act.put, List.setIfInBounds_toArray, List.set_cons_zero, List.set_cons_succ]
    rfl
  refine done_ (done_of HT_.out (by kernel_rfl)) ?_
  clear HT_ HW_
  try simp only [Bool.not_false, Bool.not_true]
  have M5 := Lib.hid M4.out.drew
  have B5 := Lib.hid (show Below w.heap.size w w4.drew from below_drewN B4.out 1)
  go_wp2_with (first
    | ((with_reducible refine gate_store (t := 36) (p := 4) (v := .tmp 89) rfl ?_); refine wpList_store_row rfl 36 (.tmp 4) (.tmp 89) rfl gt zTold rfl rfl 36 zTold M5.out size_told rfl one_ztold ?_))
  have MF := Lib.hid (M5.out.setRow zTold)
  refine bodyPost_ret (results_ctt rfl _ _ gt 36 _ (0, 0) _ rfl MF.out Tryd.underlying36 rfl rfl) rfl ?_
  rw [HTF.out]
  have BF := below_of_only B5.out (only_setRow (only_refl _ _) zTold) SG.out.1 B5.out.size
  exact ⟨rfl, vS, vN, T, HJ.out.below BF, Kp.of_below BF, fun i h => .inl h⟩
end Go.Proofs.YtlogcgeinbefjaaDoor

/- parts.read: a part, read. -/
import Derived.Test.YtlogcgeinbefjaaDoorPtW
import Derived.Test.YtlogcgeinbefjaaDoorProg
import Derived.Test.YtlogcgeinbefjaaDoorOwnT
import Derived.Test.YtlogcgeinbefjaaDoorWMore
import Derived.Test.YtlogcgeinbefjaaDoorWLast
import Derived.Test.YtlogcgeinbefjaaDoorWTab
namespace Go.Proofs.YtlogcgeinbefjaaDoor
open Go.RowKit Go.Proofs.YtlogcgeinbefjaaDoorW.PrintWords Go.Proofs.YtlogcgeinbefjaaDoorW.PrintLast
set_option linter.unusedSimpArgs false
set_option linter.unusedVariables false
set_option maxRecDepth 20000
def rd3.T : Bool × List (List Nat × List Nat) := (true, [([], []), ([0], [0]), ([], []), ([2], [2]), ([3], [3]), ([], []), ([5], [5]), ([6], [6]), ([], []), ([8], [8]), ([], []), ([10], [10]), ([1, 4, 7, 9, 11], [1, 4, 7, 9, 11]), ([12, 0, 1, 2, 3, 4, 5, 6, 7, 8, 9, 10, 11, 12], [12])])
def rd3.B : List Nat := [0, 1, 0, 4, 12, 0, 32, 96, 0, 256, 0, 1024, 4095, 8191]
theorem rd3.tab : rtab .any (opsOf Tryd.f21 3) = rd3.T := by kernel_rfl
theorem rd3.bits : waitsOk rd3.T.2 rd3.B = true := by kernel_rfl
theorem gworld {P : Program} {c : Code} {Q : Exit → Act → World → Prop} {a : Act} {W : World} (D : World → Prop) (h : D W) (k : ∀ W', D W' → c.wp P Q a W') : c.wp P Q a W := k W h
/-- a part. -/
structure Pt where
  id : List UInt8
  sum : List UInt8
  text : List UInt8
  at_ : Nat
  many : Nat
def ptC (p : Pt) : Array Value := #[.string ⟨p.id.toArray⟩, .string ⟨p.sum.toArray⟩, .string ⟨p.text.toArray⟩, .int .i64 (p.at_ : Nat), .int .i64 (p.many : Nat)]
def ptOf (s : List UInt8) : Pt := ⟨s.take 8, (s.drop 10).take 6, s.drop 16, (bd s 8).toNat, (bd s 9).toNat⟩
def lowP (p : Pt) : Nat := if p.at_ + 1 = p.many then min 1 (p.many - 1) else 200
def highP (p : Pt) : Int := if p.at_ + 1 = p.many then min 200 (2048 - 200 * (p.at_ : Int)) else 200
def okP (s : List UInt8) : Bool := decide (16 ≤ s.length) && decide (1 ≤ (ptOf s).many ∧ (ptOf s).many ≤ 11 ∧ (ptOf s).at_ < (ptOf s).many) && decide (lowP (ptOf s) ≤ (s.drop 16).length ∧ ((s.drop 16).length : Int) ≤ highP (ptOf s))
def zPt : Array Value := #[.string ⟨#[]⟩, .string ⟨#[]⟩, .string ⟨#[]⟩, .int .i64 0, .int .i64 0]
theorem size_part : (Tryd.prog.info? 65).map (·.size) = some 5 := by kernel_rfl
theorem one_part (p : Pt) : (ptC p).all (·.oneCell') = true := by
  refine all_oneCell_toArray (cs := [.string ⟨p.id.toArray⟩, .string ⟨p.sum.toArray⟩, .string ⟨p.text.toArray⟩, .int .i64 (p.at_ : Nat), .int .i64 (p.many : Nat)]) fun u hu => ?_
  simp only [List.mem_cons, List.not_mem_nil, or_false] at hu
  rcases hu with rfl | rfl | rfl | rfl | rfl <;> rfl
theorem one5 (a b c : ByteArray) (x y : Int) : (#[.string a, .string b, .string c, .int .i64 x, .int .i64 y] : Array Value).all (·.oneCell') = true := by
  refine all_oneCell_toArray (cs := [.string a, .string b, .string c, .int .i64 x, .int .i64 y]) fun u hu => ?_
  simp only [List.mem_cons, List.not_mem_nil, or_false] at hu
  rcases hu with rfl | rfl | rfl | rfl | rfl <;> rfl
theorem one_zpart : zPt.all (·.oneCell') = true := by
  refine all_oneCell_toArray (cs := [.string ⟨#[]⟩, .string ⟨#[]⟩, .string ⟨#[]⟩, .int .i64 0, .int .i64 0]) fun u hu => ?_
  simp only [List.mem_cons, List.not_mem_nil, or_false] at hu
  rcases hu with rfl | rfl | rfl | rfl | rfl <;> rfl
/-- what read gives: what it read (whatever it is, if it is none). -/
def RdOut (s : List UInt8) (w w' : World) (e : Ending) : Prop := Below w.heap.size w w' ∧ ∃ cs : Array Value, cs.size = 5 ∧ cs.all (·.oneCell') = true ∧ e = .returned (.tuple #[.agg cs, .bool (okP s)]) ∧ (okP s = true → cs = ptC (ptOf s))
set_option maxHeartbeats 3200000 in
theorem read_any (s : List UInt8) (w : World) (hs : s.length ≤ 140737488355328) :
    Calls Tryd.prog 21 #[.string ⟨s.toArray⟩] w fun e w' => RdOut s w w' e := by
  have hsz : (⟨s.toArray⟩ : ByteArray).size = s.length := by simp [ByteArray.size]
  by_cases h16 : s.length < 16
  · have HO := Lib.hid (show okP s = false by unfold okP; rw [decide_eq_false (by omega)]; rfl)
    obtain ⟨sb, SB⟩ : ∃ t : ByteArray, Hid (⟨s.toArray⟩ = t) := ⟨_, Lib.hid rfl⟩
    rw [SB.out] at hsz ⊢
    have d0 : decide ((sb.size : Int) < 16) = true := decide_eq_true (by omega)
    clear h16 hsz hs
    go_enter Tryd.func21, Tryd.ntmps21
    go_upto_region 2 with fail
    obtain ⟨g, hg⟩ : ∃ g, Hid (w.heap.size = g) := ⟨_, Lib.hid rfl⟩
    refine gworld (fun W => Hid (Blk W g 65 zPt) ∧ Hid (Below w.heap.size w W)) ⟨Lib.hid (by rw [← hg.out]; exact Blk.new _ _ _), Lib.hid ((Below.refl _ _).alloc (Nat.le_refl _) _)⟩ ?_
    rintro w1 ⟨M1, B1⟩
    rw [hg.out]
    have m0 : w1.cell? ⟨g, 0, none⟩ = some (.string ⟨#[]⟩) := M1.out.cell 0
    have m1 : w1.cell? ⟨g, 1, none⟩ = some (.string ⟨#[]⟩) := M1.out.cell 1
    have m2 : w1.cell? ⟨g, 2, none⟩ = some (.string ⟨#[]⟩) := M1.out.cell 2
    have m3 : w1.cell? ⟨g, 3, none⟩ = some (.int .i64 0) := M1.out.cell 3
    have m4 : w1.cell? ⟨g, 4, none⟩ = some (.int .i64 0) := M1.out.cell 4
    go_wp2_with (first
      | ((with_reducible refine gate_store (t := 65) (p := 2) (v := .tmp 9) rfl ?_); refine wpList_store_row rfl 65 (.tmp 2) (.tmp 9) rfl g zPt rfl rfl 65 zPt M1.out size_part rfl one_zpart ?_))
    have M2 := Lib.hid (M1.out.setRow zPt)
    refine bodyPost_ret (results_ct rfl _ _ g 65 _ (0, 0) _ rfl M2.out Tryd.underlying65 rfl rfl) rfl ?_
    exact ⟨below_of_only B1.out (only_setRow (only_refl _ _) _) (by rw [← hg.out]; exact Nat.le_refl _) B1.out.size, _, rfl, one_zpart, by rw [HO.out]; rfl, fun h => by rw [HO.out] at h; cases h⟩
  · have hb8 : ∀ h, (⟨s.toArray⟩ : ByteArray)[8]'h = bd s 8 := fun h => by
      show s.toArray[8]'_ = _
      simp [bd, List.getElem?_eq_getElem (show 8 < s.length by omega)]
    have hb9 : ∀ h, (⟨s.toArray⟩ : ByteArray)[9]'h = bd s 9 := fun h => by
      show s.toArray[9]'_ = _
      simp [bd, List.getElem?_eq_getElem (show 9 < s.length by omega)]
    obtain ⟨sb, SB⟩ : ∃ t : ByteArray, Hid (⟨s.toArray⟩ = t) := ⟨_, Lib.hid rfl⟩
    have hx1 : sb.extract 0 8 = ⟨(s.take 8).toArray⟩ := by rw [← SB.out, extract_mid]; simp
    have hx2 : sb.extract 10 16 = ⟨((s.drop 10).take 6).toArray⟩ := by rw [← SB.out, extract_mid]
    have hx3 : sb.extract 16 sb.size = ⟨(s.drop 16).toArray⟩ := by rw [← SB.out, hsz, extract_eq]
    rw [SB.out] at hsz hb8 hb9 ⊢
    obtain ⟨a, ha⟩ : ∃ a : UInt8, Hid (bd s 8 = a) := ⟨_, Lib.hid rfl⟩
    obtain ⟨m, hm⟩ : ∃ a : UInt8, Hid (bd s 9 = a) := ⟨_, Lib.hid rfl⟩
    rw [ha.out] at hb8
    rw [hm.out] at hb9
    have d0 : decide ((sb.size : Int) < 16) = false := decide_eq_false (by omega)
    have e8 : (8 : Int) < (sb.size : Int) := by omega
    have e9 : (9 : Int) < (sb.size : Int) := by omega
    have e16 : (16 : Int) ≤ (sb.size : Int) := by omega
    have e8b : (8 : Int) ≤ (sb.size : Int) := by omega
    have l8 : 8 < sb.size := by omega
    have l9 : 9 < sb.size := by omega
    have l16 : 16 ≤ sb.size := by omega
    have HSZ := Lib.hid hsz
    have H16 := Lib.hid h16
    clear hsz h16
    go_enter Tryd.func21, Tryd.ntmps21
    go_upto_region 3 with fail
    obtain ⟨g, hg⟩ : ∃ g, Hid (w.heap.size = g) := ⟨_, Lib.hid rfl⟩
    refine gworld (fun W => Hid (Blk W g 65 zPt) ∧ Hid (Below w.heap.size w W)) ⟨Lib.hid (by rw [← hg.out]; exact Blk.new _ _ _), Lib.hid ((Below.refl _ _).alloc (Nat.le_refl _) _)⟩ ?_
    rintro w1 ⟨M1, B1⟩
    rw [hg.out]
    have m0 : w1.drew.cell? ⟨g, 0, none⟩ = some (.string ⟨#[]⟩) := M1.out.cell 0
    have m1 : w1.drew.cell? ⟨g, 1, none⟩ = some (.string ⟨#[]⟩) := M1.out.cell 1
    have m2 : w1.drew.cell? ⟨g, 2, none⟩ = some (.string ⟨#[]⟩) := M1.out.cell 2
    have m3 : w1.drew.cell? ⟨g, 3, none⟩ = some (.int .i64 0) := M1.out.cell 3
    have m4 : w1.drew.cell? ⟨g, 4, none⟩ = some (.int .i64 0) := M1.out.cell 4
    have f0 : w1.drew.frozen? ⟨g, 0, none⟩ = false := M1.out.frozen 0
    have f1 : w1.drew.frozen? ⟨g, 1, none⟩ = false := M1.out.frozen 1
    have f2 : w1.drew.frozen? ⟨g, 2, none⟩ = false := M1.out.frozen 2
    have f3 : w1.drew.frozen? ⟨g, 3, none⟩ = false := M1.out.frozen 3
    have f4 : w1.drew.frozen? ⟨g, 4, none⟩ = false := M1.out.frozen 4
    have hwa : IntKind.i64.wrap (a.toNat : Int) = (a.toNat : Int) := by have := a.toNat_lt; rw [IntKind.wrap_i64]; omega
    have hwm : IntKind.i64.wrap (m.toNat : Int) = (m.toNat : Int) := by have := m.toNat_lt; rw [IntKind.wrap_i64]; omega
    obtain ⟨p, hp⟩ : ∃ p : Pt, p = ⟨s.take 8, (s.drop 10).take 6, s.drop 16, a.toNat, m.toNat⟩ := ⟨_, rfl⟩
    have HP := Lib.hid (show ptOf s = p by rw [hp]; unfold ptOf; rw [ha.out, hm.out])
    have hpc : (#[.string ⟨(s.take 8).toArray⟩, .string ⟨((s.drop 10).take 6).toArray⟩, .string ⟨(s.drop 16).toArray⟩, .int .i64 (a.toNat : Nat), .int .i64 (m.toNat : Nat)] : Array Value) = ptC p := by rw [hp]; rfl
    have HPT := Lib.hid (show p.at_ = a.toNat ∧ p.many = m.toNat ∧ p.text = s.drop 16 by rw [hp]; exact ⟨rfl, rfl, rfl⟩)
    clear hp
    refine start_ (n := 14) (S := fun _ => True) (ds := [13]) #[false, false, false, false, false, false, false, false, false, false, false, false, false, false] (by kernel_rfl) rfl rfl trivial (fun hHeld => ?_)
    refine with_tabW rd3.tab rd3.bits (fun HT_ HW_ => ?_)
    refine pure_ (i := 0) (N := some 10) (v := ?_) (a' := ?_) #[true, false, false, false, false, false, false, false, false, false, false, false, false, false] rfl rfl (any_of HT_.out (by kernel_rfl)) (fun _ _ _ h => h) (Or.inl ⟨by rfl, ?_⟩) ?_ ?_
    rotate_left
    · intro w'
      go_simp
      try with_reducible rfl
    rotate_left
    · simp only [Act.put, List.setIfInBounds_toArray, List.set_cons_zero, List.set_cons_succ]
      rfl
    refine pure_ (i := 1) (N := some 11) (v := ?_) (a' := ?_) #[true, true, false, false, false, false, false, false, false, false, false, false, false, false] rfl rfl (any_of HT_.out (by kernel_rfl)) (fun _ _ _ h => h) (Or.inl ⟨by rfl, ?_⟩) ?_ ?_
    rotate_left
    · intro w'
      go_simp
      try with_reducible rfl
    rotate_left
    · simp only [Act.put, List.setIfInBounds_toArray, List.set_cons_zero, List.set_cons_succ]
      rfl
    refine pure_ (i := 2) (N := some 12) (v := ?_) (a' := ?_) #[true, true, true, false, false, false, false, false, false, false, false, false, false, false] rfl rfl (any_of HT_.out (by kernel_rfl)) (fun _ _ _ h => h) (Or.inl ⟨by rfl, ?_⟩) ?_ ?_
    rotate_left
    · intro w'
      go_simp
      try with_reducible rfl
    rotate_left
    · simp only [Act.put, List.setIfInBounds_toArray, List.set_cons_zero, List.set_cons_succ]
      rfl
    refine pure_ (i := 3) (N := some 13) (v := ?_) (a' := ?_) #[true, true, true, true, false, false, false, false, false, false, false, false, false, false] rfl rfl (any_of HT_.out (by kernel_rfl)) (fun _ _ _ h => h) (Or.inl ⟨by rfl, ?_⟩) ?_ ?_
    rotate_left
    · intro w'
      go_simp
      try with_reducible rfl
    rotate_left
    · simp only [Act.put, List.setIfInBounds_toArray, List.set_cons_zero, List.set_cons_succ]
      rfl
    refine pure_ (i := 4) (N := some 14) (v := ?_) (a' := ?_) #[true, true, true, true, true, false, false, false, false, false, false, false, false, false] rfl rfl (any_of HT_.out (by kernel_rfl)) (fun _ _ _ h => h) (Or.inl ⟨by rfl, ?_⟩) ?_ ?_
    rotate_left
    · intro w'
      go_simp
      try with_reducible rfl
    rotate_left
    · simp only [Act.put, List.setIfInBounds_toArray, List.set_cons_zero, List.set_cons_succ]
      rfl
    refine pure_ (i := 5) (N := some 15) (v := ?_) (a' := ?_) #[true, true, true, true, true, true, false, false, false, false, false, false, false, false] rfl rfl (any_of HT_.out (by kernel_rfl)) (fun _ _ _ h => h) (Or.inl ⟨by rfl, ?_⟩) ?_ ?_
    rotate_left
    · intro w'
      go_simp
      try with_reducible rfl
    rotate_left
    · simp only [Act.put, List.setIfInBounds_toArray, List.set_cons_zero, List.set_cons_succ]
      rfl
    refine pure_ (i := 6) (N := some 16) (v := ?_) (a' := ?_) #[true, true, true, true, true, true, true, false, false, false, false, false, false, false] rfl rfl (any_of HT_.out (by kernel_rfl)) (fun _ _ _ h => h) (Or.inl ⟨by rfl, ?_⟩) ?_ ?_
    rotate_left
    · intro w'
      go_simp
      try with_reducible rfl
    rotate_left
    · simp only [Act.put, List.setIfInBounds_toArray, List.set_cons_zero, List.set_cons_succ]
      rfl
    refine pure_ (i := 7) (N := some 17) (v := ?_) (a' := ?_) #[true, true, true, true, true, true, true, true, false, false, false, false, false, false] rfl rfl (any_of HT_.out (by kernel_rfl)) (fun _ _ _ h => h) (Or.inl ⟨by rfl, ?_⟩) ?_ ?_
    rotate_left
    · intro w'
      go_simp
      try with_reducible rfl
    rotate_left
    · simp only [Act.put, List.setIfInBounds_toArray, List.set_cons_zero, List.set_cons_succ]
      rfl
    refine pure_ (i := 8) (N := some 18) (v := ?_) (a' := ?_) #[true, true, true, true, true, true, true, true, true, false, false, false, false, false] rfl rfl (any_of HT_.out (by kernel_rfl)) (fun _ _ _ h => h) (Or.inl ⟨by rfl, ?_⟩) ?_ ?_
    rotate_left
    · intro w'
      go_simp
      try with_reducible rfl
    rotate_left
    · simp only [Act.put, List.setIfInBounds_toArray, List.set_cons_zero, List.set_cons_succ]
      rfl
    refine pure_ (i := 9) (N := some 19) (v := ?_) (a' := ?_) #[true, true, true, true, true, true, true, true, true, true, false, false, false, false] rfl rfl (any_of HT_.out (by kernel_rfl)) (fun _ _ _ h => h) (Or.inl ⟨by rfl, ?_⟩) ?_ ?_
    rotate_left
    · intro w'
      go_simp
      try with_reducible rfl
    rotate_left
    · simp only [Act.put, List.setIfInBounds_toArray, List.set_cons_zero, List.set_cons_succ]
      rfl
    refine pure_ (i := 10) (N := some 20) (v := ?_) (a' := ?_) #[true, true, true, true, true, true, true, true, true, true, true, false, false, false] rfl rfl (any_of HT_.out (by kernel_rfl)) (fun _ _ _ h => h) (Or.inl ⟨by rfl, ?_⟩) ?_ ?_
    rotate_left
    · intro w'
      go_simp
      try with_reducible rfl
    rotate_left
    · simp only [Act.put, List.setIfInBounds_toArray, List.set_cons_zero, List.set_cons_succ]
      rfl
    refine pure_ (i := 11) (N := some 21) (v := ?_) (a' := ?_) #[true, true, true, true, true, true, true, true, true, true, true, true, false, false] rfl rfl (any_of HT_.out (by kernel_rfl)) (fun _ _ _ h => h) (Or.inl ⟨by rfl, ?_⟩) ?_ ?_
    rotate_left
    · intro w'
      go_simp
      try with_reducible rfl
    rotate_left
    · simp only [Act.put, List.setIfInBounds_toArray, List.set_cons_zero, List.set_cons_succ]
      rfl
    refine pure_ (i := 12) (N := some 22) (v := ?_) (a' := ?_) #[true, true, true, true, true, true, true, true, true, true, true, true, true, false] rfl rfl (any_of HT_.out (by kernel_rfl)) (fun _ _ _ h => h) (Or.inl ⟨by rfl, ?_⟩) ?_ ?_
    rotate_left
    · intro w'
      go_simp
      try with_reducible rfl
    rotate_left
    · simp only [Act.put, List.setIfInBounds_toArray, List.set_cons_zero, List.set_cons_succ]
      rfl
    (try simp only [hwa, hwm, hpc])
    refine last_ (i := 13) (N := none) #[true, true, true, true, true, true, true, true, true, true, true, true, true, true] rfl rfl (one_of HT_.out (by kernel_rfl)) (by decide) (fun K hK => ?_)
    (rw [if_pos (by rfl)]; refine wp_store_row 65 (.tmp 2) (.tmp 22) rfl g (ptC p) rfl rfl 65 zPt M1.out.drew size_part rfl (one_part p) ?_)
    refine hK.out _ _ ?_
    clear hK K
    refine done_ (done_of HT_.out (by kernel_rfl)) ?_
    clear HT_ HW_
    have M2 := Lib.hid (show Blk (w1.drew.setRow g (ptC p)) g 65 (ptC p) from M1.out.drew.setRow (ptC p))
    have B2 := Lib.hid (show Below w.heap.size w (w1.drew.setRow g (ptC p)) from below_of_only (below_drewN B1.out 1) (only_setRow (only_refl _ _) _) (by rw [← hg.out]; exact Nat.le_refl _) B1.out.size)
    obtain ⟨w2, hw2⟩ : ∃ W, W = w1.drew.setRow g (ptC p) := ⟨_, rfl⟩
    rw [← hw2] at M2 B2 ⊢
    clear hw2 M1 B1 m0 m1 m2 m3 m4 f0 f1 f2 f3 f4 hHeld hpc hwa hwm hb8 hb9 hx1 hx2 hx3 ha hm
    obtain ⟨A, hA⟩ : ∃ n : Nat, Hid (p.at_ = n) := ⟨_, Lib.hid rfl⟩
    obtain ⟨N, hN⟩ : ∃ n : Nat, Hid (p.many = n) := ⟨_, Lib.hid rfl⟩
    obtain ⟨tb, HTB⟩ : ∃ t : ByteArray, Hid (⟨p.text.toArray⟩ = t) := ⟨_, Lib.hid rfl⟩
    have hA2 : A < 256 := by rw [← hA.out, HPT.out.1]; exact a.toNat_lt
    have hN2 : N < 256 := by rw [← hN.out, HPT.out.2.1]; exact m.toNat_lt
    have c0 : w2.cell? ⟨g, 0, none⟩ = some (.string ⟨p.id.toArray⟩) := M2.out.cell 0
    have c1 : w2.cell? ⟨g, 1, none⟩ = some (.string ⟨p.sum.toArray⟩) := M2.out.cell 1
    have c2 : w2.cell? ⟨g, 2, none⟩ = some (.string tb) := by rw [← HTB.out]; exact M2.out.cell 2
    have c3 : w2.cell? ⟨g, 3, none⟩ = some (.int .i64 (A : Nat)) := by rw [← hA.out]; exact M2.out.cell 3
    have c4 : w2.cell? ⟨g, 4, none⟩ = some (.int .i64 (N : Nat)) := by rw [← hN.out]; exact M2.out.cell 4
    by_cases hn1 : N < 1
    · have d1 : decide ((N : Int) < 1) = true := decide_eq_true (by omega)
      have HOK := Lib.hid (show okP s = false by
        unfold okP
        rw [HP.out, decide_eq_false (show ¬ (1 ≤ p.many ∧ p.many ≤ 11 ∧ p.at_ < p.many) by rw [hA.out, hN.out]; omega)]
        simp)
      clear hn1
      go_wp2_with (first
        | ((with_reducible refine gate_store (t := 65) (p := 2) (v := .tmp 38) rfl ?_); refine wpList_store_row rfl 65 (.tmp 2) (.tmp 38) rfl g #[.string ⟨p.id.toArray⟩, .string ⟨p.sum.toArray⟩, .string tb, .int .i64 (A : Nat), .int .i64 (N : Nat)] rfl rfl 65 (ptC p) M2.out size_part rfl (one5 _ _ _ _ _) ?_))
      have M3 := Lib.hid (M2.out.setRow #[.string ⟨p.id.toArray⟩, .string ⟨p.sum.toArray⟩, .string tb, .int .i64 (A : Nat), .int .i64 (N : Nat)])
      refine bodyPost_ret (results_ct rfl _ _ g 65 _ (0, 0) _ rfl M3.out Tryd.underlying65 rfl rfl) rfl ?_
      exact ⟨below_of_only B2.out (only_setRow (only_refl _ _) _) (by rw [← hg.out]; exact Nat.le_refl _) B2.out.size, _, rfl, one5 _ _ _ _ _, by rw [HOK.out]; rfl, fun _ => by rw [HP.out, ptC, hA.out, hN.out, HTB.out] <;> rfl⟩
    · have d1 : decide ((N : Int) < 1) = false := decide_eq_false (by omega)
      by_cases hn2 : 11 < N
      · have d2 : decide (11 < (N : Int)) = true := decide_eq_true (by omega)
        have HOK := Lib.hid (show okP s = false by
          unfold okP
          rw [HP.out, decide_eq_false (show ¬ (1 ≤ p.many ∧ p.many ≤ 11 ∧ p.at_ < p.many) by rw [hA.out, hN.out]; omega)]
          simp)
        clear hn1 hn2
        go_wp2_with (first
          | ((with_reducible refine gate_store (t := 65) (p := 2) (v := .tmp 38) rfl ?_); refine wpList_store_row rfl 65 (.tmp 2) (.tmp 38) rfl g #[.string ⟨p.id.toArray⟩, .string ⟨p.sum.toArray⟩, .string tb, .int .i64 (A : Nat), .int .i64 (N : Nat)] rfl rfl 65 (ptC p) M2.out size_part rfl (one5 _ _ _ _ _) ?_))
        have M3 := Lib.hid (M2.out.setRow #[.string ⟨p.id.toArray⟩, .string ⟨p.sum.toArray⟩, .string tb, .int .i64 (A : Nat), .int .i64 (N : Nat)])
        refine bodyPost_ret (results_ct rfl _ _ g 65 _ (0, 0) _ rfl M3.out Tryd.underlying65 rfl rfl) rfl ?_
        exact ⟨below_of_only B2.out (only_setRow (only_refl _ _) _) (by rw [← hg.out]; exact Nat.le_refl _) B2.out.size, _, rfl, one5 _ _ _ _ _, by rw [HOK.out]; rfl, fun _ => by rw [HP.out, ptC, hA.out, hN.out, HTB.out] <;> rfl⟩
      · have d2 : decide (11 < (N : Int)) = false := decide_eq_false (by omega)
        by_cases hn3 : N ≤ A
        · have d3 : decide ((N : Int) ≤ (A : Int)) = true := decide_eq_true (by omega)
          have HOK := Lib.hid (show okP s = false by
            unfold okP
            rw [HP.out, decide_eq_false (show ¬ (1 ≤ p.many ∧ p.many ≤ 11 ∧ p.at_ < p.many) by rw [hA.out, hN.out]; omega)]
            simp)
          clear hn1 hn2
          go_wp2_with (first
            | ((with_reducible refine gate_store (t := 65) (p := 2) (v := .tmp 38) rfl ?_); refine wpList_store_row rfl 65 (.tmp 2) (.tmp 38) rfl g #[.string ⟨p.id.toArray⟩, .string ⟨p.sum.toArray⟩, .string tb, .int .i64 (A : Nat), .int .i64 (N : Nat)] rfl rfl 65 (ptC p) M2.out size_part rfl (one5 _ _ _ _ _) ?_))
          have M3 := Lib.hid (M2.out.setRow #[.string ⟨p.id.toArray⟩, .string ⟨p.sum.toArray⟩, .string tb, .int .i64 (A : Nat), .int .i64 (N : Nat)])
          refine bodyPost_ret (results_ct rfl _ _ g 65 _ (0, 0) _ rfl M3.out Tryd.underlying65 rfl rfl) rfl ?_
          exact ⟨below_of_only B2.out (only_setRow (only_refl _ _) _) (by rw [← hg.out]; exact Nat.le_refl _) B2.out.size, _, rfl, one5 _ _ _ _ _, by rw [HOK.out]; rfl, fun _ => by rw [HP.out, ptC, hA.out, hN.out, HTB.out] <;> rfl⟩
        · have d3 : decide ((N : Int) ≤ (A : Int)) = false := decide_eq_false (by omega)
          have d3n : A < N := by omega
          have hpl : p.text.length = tb.size := by rw [← HTB.out]; simp [ByteArray.size]
          have HOKE := Lib.hid (show okP s = decide (lowP p ≤ tb.size ∧ ((tb.size : Nat) : Int) ≤ highP p) by
            unfold okP
            rw [HP.out, decide_eq_true (show 1 ≤ p.many ∧ p.many ≤ 11 ∧ p.at_ < p.many by rw [hA.out, hN.out]; omega), decide_eq_true (show 16 ≤ s.length by have := H16.out; omega), ← HPT.out.2.2, hpl]
            rfl)
          have hw1 : wrap64 ((N : Int) - 1) = (N : Int) - 1 := by unfold wrap64; omega
          by_cases hlast : A + 1 = N
          · have d4 : ((A : Int) == (N : Int) - 1) = true := beq_iff_eq.mpr (by omega)
            rcases (show A = 0 ∨ A = 10 ∨ (1 ≤ A ∧ A ≤ 9) by omega) with h0 | h0 | h0
            · obtain rfl : A = 0 := h0
              obtain rfl : N = 1 := by omega
              have HLO := Lib.hid (show lowP p = 0 by unfold lowP; rw [hA.out, hN.out]; decide)
              have HHI := Lib.hid (show highP p = 200 by unfold highP; rw [hA.out, hN.out]; decide)
              clear hn1 hn2 hn3 hlast d1 d2 d3 d3n d4 hw1 hA2 hN2
              rcases Classical.em ((tb.size : Int) ≤ 200) with h2 | h2
              · have d6 : decide ((tb.size : Int) ≤ 200) = true := decide_eq_true h2
                have h1 : (0 : Int) ≤ (tb.size : Int) := by omega
                have HOK := Lib.hid (show okP s = true by rw [HOKE.out]; refine decide_eq_true ?_; rw [HLO.out, HHI.out]; exact ⟨by omega, by omega⟩)
                go_wp2_with (first
                  | ((with_reducible refine gate_store (t := 65) (p := 2) (v := .tmp 54) rfl ?_); refine wpList_store_row rfl 65 (.tmp 2) (.tmp 54) rfl g #[.string ⟨p.id.toArray⟩, .string ⟨p.sum.toArray⟩, .string tb, .int .i64 0, .int .i64 1] rfl rfl 65 (ptC p) M2.out size_part rfl (one5 _ _ _ _ _) ?_))
                have M3 := Lib.hid (M2.out.setRow #[.string ⟨p.id.toArray⟩, .string ⟨p.sum.toArray⟩, .string tb, .int .i64 0, .int .i64 1])
                refine bodyPost_ret (results_ct rfl _ _ g 65 _ (0, 0) _ rfl M3.out Tryd.underlying65 rfl rfl) rfl ?_
                exact ⟨below_of_only B2.out (only_setRow (only_refl _ _) _) (by rw [← hg.out]; exact Nat.le_refl _) B2.out.size, _, rfl, one5 _ _ _ _ _, by rw [HOK.out]; rfl, fun _ => by rw [HP.out, ptC, hA.out, hN.out, HTB.out] <;> rfl⟩
              · have d6 : decide ((tb.size : Int) ≤ 200) = false := decide_eq_false h2
                have h1 : (0 : Int) ≤ (tb.size : Int) := by omega
                have h2' : 200 < (tb.size : Int) := by omega
                have HOK := Lib.hid (show okP s = false by rw [HOKE.out]; refine decide_eq_false ?_; rw [HLO.out, HHI.out]; rintro ⟨_, h⟩; omega)
                clear h2
                go_wp2_with (first
                  | ((with_reducible refine gate_store (t := 65) (p := 2) (v := .tmp 54) rfl ?_); refine wpList_store_row rfl 65 (.tmp 2) (.tmp 54) rfl g #[.string ⟨p.id.toArray⟩, .string ⟨p.sum.toArray⟩, .string tb, .int .i64 0, .int .i64 1] rfl rfl 65 (ptC p) M2.out size_part rfl (one5 _ _ _ _ _) ?_))
                have M3 := Lib.hid (M2.out.setRow #[.string ⟨p.id.toArray⟩, .string ⟨p.sum.toArray⟩, .string tb, .int .i64 0, .int .i64 1])
                refine bodyPost_ret (results_ct rfl _ _ g 65 _ (0, 0) _ rfl M3.out Tryd.underlying65 rfl rfl) rfl ?_
                exact ⟨below_of_only B2.out (only_setRow (only_refl _ _) _) (by rw [← hg.out]; exact Nat.le_refl _) B2.out.size, _, rfl, one5 _ _ _ _ _, by rw [HOK.out]; rfl, fun _ => by rw [HP.out, ptC, hA.out, hN.out, HTB.out] <;> rfl⟩
            · obtain rfl : A = 10 := h0
              obtain rfl : N = 11 := by omega
              have HLO := Lib.hid (show lowP p = 1 by unfold lowP; rw [hA.out, hN.out]; decide)
              have HHI := Lib.hid (show highP p = 48 by unfold highP; rw [hA.out, hN.out]; decide)
              clear hn1 hn2 hn3 hlast d1 d2 d3 d3n d4 hw1 hA2 hN2
              rcases Classical.em (1 ≤ (tb.size : Int)) with h1 | h1
              · have d5 : decide (1 ≤ (tb.size : Int)) = true := decide_eq_true h1
                rcases Classical.em ((tb.size : Int) ≤ 48) with h2 | h2
                · have d6 : decide ((tb.size : Int) ≤ 48) = true := decide_eq_true h2
                  have HOK := Lib.hid (show okP s = true by rw [HOKE.out]; refine decide_eq_true ?_; rw [HLO.out, HHI.out]; exact ⟨by omega, by omega⟩)
                  go_wp2_with (first
                    | ((with_reducible refine gate_store (t := 65) (p := 2) (v := .tmp 54) rfl ?_); refine wpList_store_row rfl 65 (.tmp 2) (.tmp 54) rfl g #[.string ⟨p.id.toArray⟩, .string ⟨p.sum.toArray⟩, .string tb, .int .i64 10, .int .i64 11] rfl rfl 65 (ptC p) M2.out size_part rfl (one5 _ _ _ _ _) ?_))
                  have M3 := Lib.hid (M2.out.setRow #[.string ⟨p.id.toArray⟩, .string ⟨p.sum.toArray⟩, .string tb, .int .i64 10, .int .i64 11])
                  refine bodyPost_ret (results_ct rfl _ _ g 65 _ (0, 0) _ rfl M3.out Tryd.underlying65 rfl rfl) rfl ?_
                  exact ⟨below_of_only B2.out (only_setRow (only_refl _ _) _) (by rw [← hg.out]; exact Nat.le_refl _) B2.out.size, _, rfl, one5 _ _ _ _ _, by rw [HOK.out]; rfl, fun _ => by rw [HP.out, ptC, hA.out, hN.out, HTB.out] <;> rfl⟩
                · have d6 : decide ((tb.size : Int) ≤ 48) = false := decide_eq_false h2
                  have h2' : 48 < (tb.size : Int) := by omega
                  have HOK := Lib.hid (show okP s = false by rw [HOKE.out]; refine decide_eq_false ?_; rw [HLO.out, HHI.out]; rintro ⟨_, h⟩; omega)
                  clear h2
                  go_wp2_with (first
                    | ((with_reducible refine gate_store (t := 65) (p := 2) (v := .tmp 54) rfl ?_); refine wpList_store_row rfl 65 (.tmp 2) (.tmp 54) rfl g #[.string ⟨p.id.toArray⟩, .string ⟨p.sum.toArray⟩, .string tb, .int .i64 10, .int .i64 11] rfl rfl 65 (ptC p) M2.out size_part rfl (one5 _ _ _ _ _) ?_))
                  have M3 := Lib.hid (M2.out.setRow #[.string ⟨p.id.toArray⟩, .string ⟨p.sum.toArray⟩, .string tb, .int .i64 10, .int .i64 11])
                  refine bodyPost_ret (results_ct rfl _ _ g 65 _ (0, 0) _ rfl M3.out Tryd.underlying65 rfl rfl) rfl ?_
                  exact ⟨below_of_only B2.out (only_setRow (only_refl _ _) _) (by rw [← hg.out]; exact Nat.le_refl _) B2.out.size, _, rfl, one5 _ _ _ _ _, by rw [HOK.out]; rfl, fun _ => by rw [HP.out, ptC, hA.out, hN.out, HTB.out] <;> rfl⟩
              · have d5 : decide (1 ≤ (tb.size : Int)) = false := decide_eq_false h1
                have h1' : (tb.size : Int) < 1 := by omega
                have HOK := Lib.hid (show okP s = false by rw [HOKE.out]; refine decide_eq_false ?_; rw [HLO.out]; rintro ⟨h, _⟩; omega)
                clear h1
                go_wp2_with (first
                  | ((with_reducible refine gate_store (t := 65) (p := 2) (v := .tmp 54) rfl ?_); refine wpList_store_row rfl 65 (.tmp 2) (.tmp 54) rfl g #[.string ⟨p.id.toArray⟩, .string ⟨p.sum.toArray⟩, .string tb, .int .i64 10, .int .i64 11] rfl rfl 65 (ptC p) M2.out size_part rfl (one5 _ _ _ _ _) ?_))
                have M3 := Lib.hid (M2.out.setRow #[.string ⟨p.id.toArray⟩, .string ⟨p.sum.toArray⟩, .string tb, .int .i64 10, .int .i64 11])
                refine bodyPost_ret (results_ct rfl _ _ g 65 _ (0, 0) _ rfl M3.out Tryd.underlying65 rfl rfl) rfl ?_
                exact ⟨below_of_only B2.out (only_setRow (only_refl _ _) _) (by rw [← hg.out]; exact Nat.le_refl _) B2.out.size, _, rfl, one5 _ _ _ _ _, by rw [HOK.out]; rfl, fun _ => by rw [HP.out, ptC, hA.out, hN.out, HTB.out] <;> rfl⟩
            · have HLO := Lib.hid (show lowP p = 1 by unfold lowP; rw [hA.out, hN.out, if_pos hlast]; omega)
              have HHI := Lib.hid (show highP p = 200 by unfold highP; rw [hA.out, hN.out, if_pos hlast]; omega)
              have hw2 : wrap64 (200 * (A : Int)) = 200 * (A : Int) := by unfold wrap64; omega
              have hw3 : wrap64 (2048 - 200 * (A : Int)) = 2048 - 200 * (A : Int) := by unfold wrap64; omega
              have e7 : 1 ≤ (N : Int) - 1 := by omega
              have e8 : 200 ≤ 2048 - 200 * (A : Int) := by omega
              clear hn1 hn2 hn3 hlast h0
              rcases Classical.em (1 ≤ (tb.size : Int)) with h1 | h1
              · have d5 : decide (1 ≤ (tb.size : Int)) = true := decide_eq_true h1
                rcases Classical.em ((tb.size : Int) ≤ 200) with h2 | h2
                · have d6 : decide ((tb.size : Int) ≤ 200) = true := decide_eq_true h2
                  have HOK := Lib.hid (show okP s = true by rw [HOKE.out]; refine decide_eq_true ?_; rw [HLO.out, HHI.out]; exact ⟨by omega, by omega⟩)
                  go_wp2_with (first
                    | ((with_reducible refine gate_store (t := 65) (p := 2) (v := .tmp 54) rfl ?_); refine wpList_store_row rfl 65 (.tmp 2) (.tmp 54) rfl g #[.string ⟨p.id.toArray⟩, .string ⟨p.sum.toArray⟩, .string tb, .int .i64 (A : Nat), .int .i64 (N : Nat)] rfl rfl 65 (ptC p) M2.out size_part rfl (one5 _ _ _ _ _) ?_))
                  have M3 := Lib.hid (M2.out.setRow #[.string ⟨p.id.toArray⟩, .string ⟨p.sum.toArray⟩, .string tb, .int .i64 (A : Nat), .int .i64 (N : Nat)])
                  refine bodyPost_ret (results_ct rfl _ _ g 65 _ (0, 0) _ rfl M3.out Tryd.underlying65 rfl rfl) rfl ?_
                  exact ⟨below_of_only B2.out (only_setRow (only_refl _ _) _) (by rw [← hg.out]; exact Nat.le_refl _) B2.out.size, _, rfl, one5 _ _ _ _ _, by rw [HOK.out]; rfl, fun _ => by rw [HP.out, ptC, hA.out, hN.out, HTB.out] <;> rfl⟩
                · have d6 : decide ((tb.size : Int) ≤ 200) = false := decide_eq_false h2
                  have h2' : 200 < (tb.size : Int) := by omega
                  have HOK := Lib.hid (show okP s = false by rw [HOKE.out]; refine decide_eq_false ?_; rw [HLO.out, HHI.out]; rintro ⟨_, h⟩; omega)
                  clear h2
                  go_wp2_with (first
                    | ((with_reducible refine gate_store (t := 65) (p := 2) (v := .tmp 54) rfl ?_); refine wpList_store_row rfl 65 (.tmp 2) (.tmp 54) rfl g #[.string ⟨p.id.toArray⟩, .string ⟨p.sum.toArray⟩, .string tb, .int .i64 (A : Nat), .int .i64 (N : Nat)] rfl rfl 65 (ptC p) M2.out size_part rfl (one5 _ _ _ _ _) ?_))
                  have M3 := Lib.hid (M2.out.setRow #[.string ⟨p.id.toArray⟩, .string ⟨p.sum.toArray⟩, .string tb, .int .i64 (A : Nat), .int .i64 (N : Nat)])
                  refine bodyPost_ret (results_ct rfl _ _ g 65 _ (0, 0) _ rfl M3.out Tryd.underlying65 rfl rfl) rfl ?_
                  exact ⟨below_of_only B2.out (only_setRow (only_refl _ _) _) (by rw [← hg.out]; exact Nat.le_refl _) B2.out.size, _, rfl, one5 _ _ _ _ _, by rw [HOK.out]; rfl, fun _ => by rw [HP.out, ptC, hA.out, hN.out, HTB.out] <;> rfl⟩
              · have d5 : decide (1 ≤ (tb.size : Int)) = false := decide_eq_false h1
                have h1' : (tb.size : Int) < 1 := by omega
                have HOK := Lib.hid (show okP s = false by rw [HOKE.out]; refine decide_eq_false ?_; rw [HLO.out]; rintro ⟨h, _⟩; omega)
                clear h1
                go_wp2_with (first
                  | ((with_reducible refine gate_store (t := 65) (p := 2) (v := .tmp 54) rfl ?_); refine wpList_store_row rfl 65 (.tmp 2) (.tmp 54) rfl g #[.string ⟨p.id.toArray⟩, .string ⟨p.sum.toArray⟩, .string tb, .int .i64 (A : Nat), .int .i64 (N : Nat)] rfl rfl 65 (ptC p) M2.out size_part rfl (one5 _ _ _ _ _) ?_))
                have M3 := Lib.hid (M2.out.setRow #[.string ⟨p.id.toArray⟩, .string ⟨p.sum.toArray⟩, .string tb, .int .i64 (A : Nat), .int .i64 (N : Nat)])
                refine bodyPost_ret (results_ct rfl _ _ g 65 _ (0, 0) _ rfl M3.out Tryd.underlying65 rfl rfl) rfl ?_
                exact ⟨below_of_only B2.out (only_setRow (only_refl _ _) _) (by rw [← hg.out]; exact Nat.le_refl _) B2.out.size, _, rfl, one5 _ _ _ _ _, by rw [HOK.out]; rfl, fun _ => by rw [HP.out, ptC, hA.out, hN.out, HTB.out] <;> rfl⟩
          · have d4 : ((A : Int) == (N : Int) - 1) = false := beq_eq_false_iff_ne.mpr (by omega)
            have HLO := Lib.hid (show lowP p = 200 by unfold lowP; rw [hA.out, hN.out, if_neg hlast])
            have HHI := Lib.hid (show highP p = 200 by unfold highP; rw [hA.out, hN.out, if_neg hlast])
            clear hn1 hn2 hn3 hlast
            rcases Classical.em (200 ≤ (tb.size : Int)) with h1 | h1
            · have d5 : decide (200 ≤ (tb.size : Int)) = true := decide_eq_true h1
              rcases Classical.em ((tb.size : Int) ≤ 200) with h2 | h2
              · have d6 : decide ((tb.size : Int) ≤ 200) = true := decide_eq_true h2
                have HOK := Lib.hid (show okP s = true by rw [HOKE.out]; refine decide_eq_true ?_; rw [HLO.out, HHI.out]; exact ⟨by omega, by omega⟩)
                go_wp2_with (first
                  | ((with_reducible refine gate_store (t := 65) (p := 2) (v := .tmp 54) rfl ?_); refine wpList_store_row rfl 65 (.tmp 2) (.tmp 54) rfl g #[.string ⟨p.id.toArray⟩, .string ⟨p.sum.toArray⟩, .string tb, .int .i64 (A : Nat), .int .i64 (N : Nat)] rfl rfl 65 (ptC p) M2.out size_part rfl (one5 _ _ _ _ _) ?_))
                have M3 := Lib.hid (M2.out.setRow #[.string ⟨p.id.toArray⟩, .string ⟨p.sum.toArray⟩, .string tb, .int .i64 (A : Nat), .int .i64 (N : Nat)])
                refine bodyPost_ret (results_ct rfl _ _ g 65 _ (0, 0) _ rfl M3.out Tryd.underlying65 rfl rfl) rfl ?_
                exact ⟨below_of_only B2.out (only_setRow (only_refl _ _) _) (by rw [← hg.out]; exact Nat.le_refl _) B2.out.size, _, rfl, one5 _ _ _ _ _, by rw [HOK.out]; rfl, fun _ => by rw [HP.out, ptC, hA.out, hN.out, HTB.out] <;> rfl⟩
              · have d6 : decide ((tb.size : Int) ≤ 200) = false := decide_eq_false h2
                have h2' : 200 < (tb.size : Int) := by omega
                have HOK := Lib.hid (show okP s = false by rw [HOKE.out]; refine decide_eq_false ?_; rw [HLO.out, HHI.out]; rintro ⟨_, h⟩; omega)
                clear h2
                go_wp2_with (first
                  | ((with_reducible refine gate_store (t := 65) (p := 2) (v := .tmp 54) rfl ?_); refine wpList_store_row rfl 65 (.tmp 2) (.tmp 54) rfl g #[.string ⟨p.id.toArray⟩, .string ⟨p.sum.toArray⟩, .string tb, .int .i64 (A : Nat), .int .i64 (N : Nat)] rfl rfl 65 (ptC p) M2.out size_part rfl (one5 _ _ _ _ _) ?_))
                have M3 := Lib.hid (M2.out.setRow #[.string ⟨p.id.toArray⟩, .string ⟨p.sum.toArray⟩, .string tb, .int .i64 (A : Nat), .int .i64 (N : Nat)])
                refine bodyPost_ret (results_ct rfl _ _ g 65 _ (0, 0) _ rfl M3.out Tryd.underlying65 rfl rfl) rfl ?_
                exact ⟨below_of_only B2.out (only_setRow (only_refl _ _) _) (by rw [← hg.out]; exact Nat.le_refl _) B2.out.size, _, rfl, one5 _ _ _ _ _, by rw [HOK.out]; rfl, fun _ => by rw [HP.out, ptC, hA.out, hN.out, HTB.out] <;> rfl⟩
            · have d5 : decide (200 ≤ (tb.size : Int)) = false := decide_eq_false h1
              have h1' : (tb.size : Int) < 200 := by omega
              have HOK := Lib.hid (show okP s = false by rw [HOKE.out]; refine decide_eq_false ?_; rw [HLO.out]; rintro ⟨h, _⟩; omega)
              clear h1
              go_wp2_with (first
                | ((with_reducible refine gate_store (t := 65) (p := 2) (v := .tmp 54) rfl ?_); refine wpList_store_row rfl 65 (.tmp 2) (.tmp 54) rfl g #[.string ⟨p.id.toArray⟩, .string ⟨p.sum.toArray⟩, .string tb, .int .i64 (A : Nat), .int .i64 (N : Nat)] rfl rfl 65 (ptC p) M2.out size_part rfl (one5 _ _ _ _ _) ?_))
              have M3 := Lib.hid (M2.out.setRow #[.string ⟨p.id.toArray⟩, .string ⟨p.sum.toArray⟩, .string tb, .int .i64 (A : Nat), .int .i64 (N : Nat)])
              refine bodyPost_ret (results_ct rfl _ _ g 65 _ (0, 0) _ rfl M3.out Tryd.underlying65 rfl rfl) rfl ?_
              exact ⟨below_of_only B2.out (only_setRow (only_refl _ _) _) (by rw [← hg.out]; exact Nat.le_refl _) B2.out.size, _, rfl, one5 _ _ _ _ _, by rw [HOK.out]; rfl, fun _ => by rw [HP.out, ptC, hA.out, hN.out, HTB.out] <;> rfl⟩
end Go.Proofs.YtlogcgeinbefjaaDoor

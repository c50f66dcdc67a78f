/- The chapter's example: works. -/
import Derived.Test.YtlogcgeinbefjaaDoorPtJ
import Derived.Test.YtlogcgeinbefjaaDoorPtH
import Derived.Outline
namespace Go.Proofs.YtlogcgeinbefjaaDoor
open Go.RowKit Go.Proofs.YtlogcgeinbefjaaDoorW.PrintWords Go.Proofs.YtlogcgeinbefjaaDoorW.PrintLast
set_option linter.unusedSimpArgs false
set_option linter.unusedVariables false
set_option maxRecDepth 20000
def idL : List UInt8 := [97, 110, 32, 105, 100, 32, 105, 115]
theorem idL_length : idL.length = 8 := by decide
def zeros (n : Nat) : List UInt8 := List.replicate n 0
theorem zeros_length (n : Nat) : (zeros n).length = n := by simp [zeros]
theorem told_no (e : Int) : toldC (noTk e) = zTold := rfl
theorem part_length (id b : List UInt8) (i : Nat) (h : id.length = 8) : (partL id b i).length = 16 + (pieceL b i).length := by
  unfold partL
  simp only [List.length_append, h, List.length_cons, List.length_nil, digL_length id b (by rw [sha_length]; decide)]
theorem cutN_201 : cutN (zeros 201) = 2 := by unfold cutN; rw [zeros_length]; rfl
theorem piece_length (b : List UInt8) (i : Nat) : (pieceL b i).length = min 200 (b.length - 200 * i) := by unfold pieceL; rw [List.length_take, List.length_drop]
theorem cut_201 : (cutL idL (zeros 201)).length = 2 ∧ (cutL idL (zeros 201))[0]? = some ((mgOf idL (zeros 201)).part 0) ∧ (cutL idL (zeros 201))[1]? = some ((mgOf idL (zeros 201)).part 1) ∧ ((mgOf idL (zeros 201)).part 0).length = 216 ∧ ((mgOf idL (zeros 201)).part 1).length = 17 := by
  rw [cutL_parts, mgOf_len, cutN_201]
  refine ⟨by simp, by simp [List.range_succ], by simp [List.range_succ], ?_, ?_⟩
  · rw [mgOf_part _ _ _ (by rw [cutN_201]; decide), part_length _ _ _ idL_length, piece_length, zeros_length]; rfl
  · rw [mgOf_part _ _ _ (by rw [cutN_201]; decide), part_length _ _ _ idL_length, piece_length, zeros_length]; rfl
theorem below_newrow (w : World) (o : Obj) (cs : Array Value) : Below w.heap.size w ((w.alloc o).setRow w.heap.size cs) :=
  below_of_only ((Below.refl _ _).alloc (Nat.le_refl _) _) (only_setRow (only_refl _ _) cs) (Nat.le_refl _) (by simp)
/-- the joiner's two answers. -/
theorem works_tk : ∃ J1, (takeF (newJ 2 2) ((mgOf idL (zeros 201)).part 1)) = (J1, noTk 0) ∧ (takeF J1 ((mgOf idL (zeros 201)).part 0)).2 = ⟨idL, zeros 201, true, 0⟩ := by
  have hM := mgOf_ok idL (zeros 201) idL_length (by rw [zeros_length]; decide)
  have hl : (mgOf idL (zeros 201)).ps.length = 2 := by rw [mgOf_len, cutN_201]
  have hg := Got.start _ hM 2 2
  rw [hl] at hg
  obtain ⟨a1, a2, a3⟩ := take_comes (newJ 2 2) _ _ 1 hM hg (by rfl) (by decide) (by decide)
  have g1 := a3 (fun _ => mgOf_dig _ _)
  have e1 : (List.replicate 2 false).set 1 true = [false, true] := rfl
  rw [e1] at a1 g1
  refine ⟨(takeF (newJ 2 2) ((mgOf idL (zeros 201)).part 1)).1, Prod.ext rfl ?_, ?_⟩
  · rw [a1]; unfold Mg.ans; rw [if_neg (by decide)]
  · have hsum := a2.sum
    have hm := a2.most
    have hn := a2.noted
    have c0 : (List.replicate 2 false).count true = 0 := by decide
    rw [if_pos c0] at hsum
    have hsum' : (takeF (newJ 2 2) ((mgOf idL (zeros 201)).part 1)).1.some.length + (takeF (newJ 2 2) ((mgOf idL (zeros 201)).part 1)).1.done.length ≤ 1 := hsum
    have hm' : (takeF (newJ 2 2) ((mgOf idL (zeros 201)).part 1)).1.most = 2 := hm
    have hn' : (takeF (newJ 2 2) ((mgOf idL (zeros 201)).part 1)).1.noted = 2 := hn
    obtain ⟨b1, _, _⟩ := take_comes _ _ _ 0 hM g1 (by rfl) (by omega) (by omega)
    rw [b1, ans_ok _ _ (mgOf_dig _ _), if_pos (by decide), mgOf_flat, mgOf_id]
set_option maxHeartbeats 3200000 in
theorem works22_any (w : World) (hk : KsAt w) (hks : 1 < w.heap.size) :
    Calls Tryd.prog 12 #[] w fun e w' => e = .returned (.bool true) ∧ Below w.heap.size w w' := by
  obtain ⟨w1, hmk0, hown, hgr⟩ := own_make (B := w.heap.size) (t := 42) elemU8' w .i64 .i64 201 (by decide) (by decide) (Nat.le_refl _)
  have hmk : (Instr.makeSlice 42 (.int .i64 201) (.int .i64 201)).run Tryd.prog w = .ok (.slice (some ⟨w.heap.size, 0, none⟩) 201 201) w1 := hmk0
  have O1 := Lib.hid (show Own 5 w1 w.heap.size (.slice (some ⟨w.heap.size, 0, none⟩) 201 201) (cb (zeros 201)) from hown)
  have B1 := Lib.hid (show Below w.heap.size w w1 from (Below.refl _ _).grown hgr (Nat.le_refl _) (fun k hk => by cases hk))
  have HK1 := Lib.hid (hk.below hks B1.out)
  have HKS := Lib.hid hks
  have HKS1 := Lib.hid (Nat.lt_of_lt_of_le hks B1.out.size)
  have hcv : (convert 42 9 (.slice (some ⟨w.heap.size, 0, none⟩) 201 201)).run Tryd.prog w1 = .ok (.string ⟨(zeros 201).toArray⟩) w1 := my_own_string Tryd.underlying42 Tryd.underlying5 Tryd.underlying9 O1.out
  obtain ⟨J1, t1, t2⟩ := works_tk
  obtain ⟨c1, c2, c3, c4, c5⟩ := cut_201
  have HC := Lib.hid (cut_any idL (zeros 201) w1 idL_length (by rw [zeros_length]; decide) HK1.out HKS1.out)
  obtain ⟨p0, hp0⟩ : ∃ p, Hid ((mgOf idL (zeros 201)).part 0 = p) := ⟨_, Lib.hid rfl⟩
  obtain ⟨p1, hp1⟩ : ∃ p, Hid ((mgOf idL (zeros 201)).part 1 = p) := ⟨_, Lib.hid rfl⟩
  rw [hp0.out] at t2 c2 c4
  rw [hp1.out] at t1 c3 c5
  have T1 := Lib.hid t1
  have T2 := Lib.hid t2
  have C2 := Lib.hid c2
  have C3 := Lib.hid c3
  have C4 := Lib.hid c4
  have C5 := Lib.hid c5
  obtain ⟨L, hL⟩ : ∃ L, Hid (cutL idL (zeros 201) = L) := ⟨_, Lib.hid rfl⟩
  rw [hL.out] at c1 C2 C3 HC
  have C1 := Lib.hid c1
  obtain ⟨zb, hzb⟩ : ∃ z : ByteArray, Hid (⟨(zeros 201).toArray⟩ = z) := ⟨_, Lib.hid rfl⟩
  rw [hzb.out] at hcv HC
  clear hmk0 hown hgr t1 t2 c1 c2 c3 c4 c5 hp0 hp1 hL hk hks
  go_enter Tryd.func12, Tryd.ntmps12
  go_wp2_with fail
  refine HC.out.mono ?_
  rintro e w2 ⟨v, rfl, hW, b2⟩
  obtain ⟨A, c, rfl, hP⟩ := hW.pts
  have hP2 := hP
  rw [C1.out] at hP2 ⊢
  obtain ⟨pb, off, rfl⟩ := hP2.some (by decide)
  have P2 := Lib.hid hP2
  have B2 := Lib.hid b2
  have O2 := Lib.hid (O1.out.below b2)
  have K2 := Lib.hid (HK1.out.below HKS1.out b2)
  have KS2 := Lib.hid (Nat.lt_of_lt_of_le HKS1.out b2.size)
  clear hW hP hP2 b2 O1 hcv hmk C1 HK1
  go_wp2_with fail
  refine (new2_any w2).mono ?_
  rintro e w3 ⟨rfl, hJ, b3⟩
  have J3 := Lib.hid (JW.start hJ b3 K2.out KS2.out)
  have P3 := Lib.hid (P2.out.below b3)
  have B23 := Lib.hid b3
  have B12 := Lib.hid (show Below w.heap.size w w2 from B1.out.trans (B2.out.mono B1.out.size))
  have O2 := O2
  have B3 := Lib.hid (show Below w.heap.size w w3 from (B1.out.trans (B2.out.mono B1.out.size)).trans (b3.mono (Nat.le_trans B1.out.size B2.out.size)))
  have S2 := Lib.hid (show w.heap.size < w2.heap.size by have := (O2.out.lt _ rfl).2; exact this)
  clear hJ b3 K2 KS2 B1 B2
  obtain ⟨j, hj⟩ : ∃ j, Hid (w2.heap.size = j) := ⟨_, Lib.hid rfl⟩
  obtain ⟨pb2, q1⟩ := P3.out.cell 0 p0 C2.out
  obtain ⟨_, q2⟩ := P3.out.cell 1 p1 C3.out
  have Z0 := Lib.hid (show (⟨p0.toArray⟩ : ByteArray).size = 216 from C4.out)
  have Z1 := Lib.hid (show (⟨p1.toArray⟩ : ByteArray).size = 17 from C5.out)
  obtain ⟨x0, X0⟩ : ∃ z : ByteArray, Hid (⟨p0.toArray⟩ = z) := ⟨_, Lib.hid rfl⟩
  obtain ⟨x1, X1⟩ : ∃ z : ByteArray, Hid (⟨p1.toArray⟩ = z) := ⟨_, Lib.hid rfl⟩
  have TK1 := Lib.hid (show Calls Tryd.prog 15 #[.pointer (some ⟨j, 0, none⟩), .string x1] w3 fun e w' => e = .returned (.tuple #[.agg zTold, .bool false, .int .i64 0]) ∧ JNext w2.heap.size w3 w' (fun _ => False) j J1 by
    rw [← hj.out, ← X1.out]
    refine (take_jw J3.out p1 (by rw [C5.out]; decide)).mono ?_
    rintro e w4 ⟨rfl, hN⟩
    rw [T1.out] at hN ⊢
    exact ⟨rfl, hN⟩)
  rw [hj.out]
  rw [X0.out] at q1 Z0
  rw [X1.out] at q2 Z1
  simp only [Nat.add_zero] at q1
  have z0 := Z0.out
  have z1 := Z1.out
  clear pb2
  go_wp2_with fail
  refine TK1.out.mono ?_
  rintro e w4 ⟨rfl, N4⟩
  have J4 := Lib.hid N4.j
  have B4 := Lib.hid N4.b
  clear N4 TK1 z0 z1 q1 q2
  have P4 := Lib.hid (P3.out.below B4.out)
  go_upto_region 7 with (first
    | ((with_reducible refine gate_store (t := 36) (p := 6) (v := .tmp 58) rfl ?_); refine wpList_store_row rfl 36 (.tmp 6) (.tmp 58) rfl w4.heap.size zTold rfl rfl 36 zTold (Blk.new w4 36 zTold) size_told rfl one_ztold ?_))
  refine gworld (fun W => Hid (JW w2.heap.size W (fun _ => False) j J1) ∧ Hid (Below w2.heap.size w2 W)) ⟨Lib.hid (J4.out.below (below_newrow w4 _ _)), Lib.hid ((B23.out.trans B4.out).trans ((below_newrow w4 _ _).mono J4.out.bs))⟩ ?_
  rintro w5 ⟨J5, B5⟩
  have P5 := Lib.hid (P2.out.below B5.out)
  obtain ⟨pb2, q1⟩ := P5.out.cell 0 p0 C2.out
  simp only [Nat.add_zero] at q1
  rw [X0.out] at q1
  have TK2 := Lib.hid (show Calls Tryd.prog 15 #[.pointer (some ⟨j, 0, none⟩), .string x0] w5 fun e w' => e = .returned (.tuple #[.agg #[.string ⟨#[97, 110, 32, 105, 100, 32, 105, 115]⟩, .string zb], .bool true, .int .i64 0]) ∧ JNext w2.heap.size w5 w' (fun _ => False) j (takeF J1 p0).1 by
    rw [← X0.out]
    refine (take_jw J5.out p0 (by rw [C4.out]; decide)).mono ?_
    rintro e w4 ⟨rfl, hN⟩
    rw [T2.out]
    refine ⟨?_, hN⟩
    rw [← hzb.out]
    rfl)
  clear pb2 P5 J4 B4 P4 J3 P3 B23
  go_wp2_with fail
  refine TK2.out.mono ?_
  rintro e w6 ⟨rfl, N6⟩
  have J6 := Lib.hid N6.j
  have B6 := Lib.hid (B5.out.trans N6.b)
  clear N6 TK2 q1 J5 B5
  go_upto_region 8 with (first
    | ((with_reducible refine gate_store (t := 36) (p := 9) (v := .tmp 67) rfl ?_); refine wpList_store_row rfl 36 (.tmp 9) (.tmp 67) rfl w6.heap.size #[.string ⟨#[97, 110, 32, 105, 100, 32, 105, 115]⟩, .string zb] rfl rfl 36 zTold (Blk.new w6 36 zTold) size_told rfl (one_told2 _ _) ?_))
  obtain ⟨g9, hg9⟩ : ∃ g, Hid (w6.heap.size = g) := ⟨_, Lib.hid rfl⟩
  refine gworld (fun W => Hid (Below w2.heap.size w2 W) ∧ Hid (Blk W g9 36 #[.string ⟨#[97, 110, 32, 105, 100, 32, 105, 115]⟩, .string zb])) ⟨Lib.hid (B6.out.trans ((below_newrow w6 _ _).mono J6.out.bs)), Lib.hid (by rw [← hg9.out]; exact (Blk.new w6 36 zTold).setRow _)⟩ ?_
  rintro w7 ⟨B7, M7⟩
  rw [hg9.out]
  have O7 := Lib.hid (O2.out.below B7.out)
  have hcv : (convert 42 9 (.slice (some ⟨w.heap.size, 0, none⟩) 201 201)).run Tryd.prog w7 = .ok (.string ⟨(zeros 201).toArray⟩) w7 := my_own_string Tryd.underlying42 Tryd.underlying5 Tryd.underlying9 O7.out
  rw [hzb.out] at hcv
  have m0 : w7.cell? ⟨g9, 0, none⟩ = some (.string ⟨#[97, 110, 32, 105, 100, 32, 105, 115]⟩) := M7.out.cell 0
  have m1 : w7.cell? ⟨g9, 1, none⟩ = some (.string zb) := M7.out.cell 1
  go_wp2_with fail
  go_ret
  exact ⟨rfl, (B12.out.trans (B7.out.mono (Nat.le_of_lt S2.out)))⟩
end Go.Proofs.YtlogcgeinbefjaaDoor

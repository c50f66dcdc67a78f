/- The walk of the law StreamGoes. -/
import Derived.Test.YtomflcpebnebpaaChaXor
import Derived.Test.YtomflcpebnebpaaFit05
import Derived.Test.YtomflcpebnebpaaPureA
import Derived.Outline
namespace Go.Proofs.Ytomflcpebnebpaa
open Go.RowKit Go.Proofs.YtomflcpebnebpaaW.PrintLast Go.Proofs.YtomflcpebnebpaaW.PrintWords
set_option linter.unusedSimpArgs false
set_option linter.unusedVariables false
def goesR3.T : Bool × List (List Nat × List Nat) := (true, [([], []), ([0], [0]), ([1], [1]), ([], []), ([3], [3]), ([4, 2], [4]), ([2, 5, 0, 1, 2], [2]), ([5, 6, 0, 1, 2, 3, 4, 5, 6], [5])])
def goesR3.B : List Nat := [0, 1, 3, 0, 8, 31, 63, 127]
theorem goesR3.tab : rtab .any (opsOf Try.f6 3) = goesR3.T := by kernel_rfl
theorem goesR3.bits : waitsOk goesR3.T.2 goesR3.B = true := by kernel_rfl
theorem works_any (w : World) : Calls Try.prog 11 #[] w fun e w' => e = .returned (.bool true) ∧ Below w.heap.size w w' := by
  obtain ⟨k, hk⟩ := PStr.works_ev.rounds
  exact PStr.dovecotelaw05_works.calls k true w hk
set_option maxHeartbeats 1600000 in
set_option maxRecDepth 100000 in
theorem law_StreamGoes (l0 l1 : List UInt8) (c b : Int) (W : World) (h0 : l0.length ≤ 140737488351232) (h1 : l1.length ≤ 140737488351232) :
    Calls Try.prog 6 #[.agg #[.string ⟨l0.toArray⟩, .string ⟨l1.toArray⟩], .int .i64 c, .int .i64 b] W fun e W' => e = .returned (.bool true) ∧ Below W.heap.size W W' := by
  go_enter Try.func6, Try.ntmps6
  go_wp2_with fail
  refine (works_any _).mono ?_
  rintro e w1 ⟨rfl, b1⟩
  have HA1 := Lib.hid ((Blk.new W 28 #[.string ⟨l0.toArray⟩, .string ⟨l1.toArray⟩]).below b1 (by simp))
  have HG1 := Lib.hid (show Below W.heap.size W w1 from ((Below.refl W.heap.size W).alloc (Nat.le_refl _) _).trans (b1.mono (by simp)))
  clear b1
  go_wp2_with fail
  have c0 : w1.cell? ⟨W.heap.size, 0, none⟩ = some (.string ⟨l0.toArray⟩) := HA1.out.cell 0
  have c1 : w1.cell? ⟨W.heap.size, 1, none⟩ = some (.string ⟨l1.toArray⟩) := HA1.out.cell 1
  obtain ⟨K, hK⟩ : ∃ K, Hid (K = fitL l0 32) := ⟨_, rfl⟩
  obtain ⟨N, hN⟩ : ∃ N, Hid (N = fitL l1 12) := ⟨_, rfl⟩
  refine start_ (n := 8) (S := fun w' => w'.cell? ⟨W.heap.size, 0, none⟩ = some (.string ⟨l0.toArray⟩) ∧ w'.cell? ⟨W.heap.size, 1, none⟩ = some (.string ⟨l1.toArray⟩) ∧ Below W.heap.size W w') (ds := []) #[false, false, false, false, false, false, false, false] (by kernel_rfl) rfl rfl ⟨c0, c1, HG1.out.drew⟩ (fun hHeld => ?_)
  refine with_tabW goesR3.tab goesR3.bits (fun HT_ HW_ => ?_)
  refine pure_ (i := 0) (N := some 19) (v := ?_) (a' := ?_) #[true, false, false, false, false, false, false, false] rfl rfl (any_of HT_.out (by kernel_rfl)) (fun _ _ _ h => h) (Or.inl ⟨by rfl, ?_⟩) ?_ ?_
  rotate_left
  · intro w'
    go_simp
    try with_reducible rfl
  rotate_left
  · simp only [Act.put, List.setIfInBounds_toArray, List.set_cons_zero, List.set_cons_succ]
    rfl
  refine pure_ (i := 3) (N := some 22) (v := ?_) (a' := ?_) #[true, false, false, true, false, false, false, false] rfl rfl (any_of HT_.out (by kernel_rfl)) (fun _ _ _ h => h) (Or.inl ⟨by rfl, ?_⟩) ?_ ?_
  rotate_left
  · intro w'
    go_simp
    try with_reducible rfl
  rotate_left
  · simp only [Act.put, List.setIfInBounds_toArray, List.set_cons_zero, List.set_cons_succ]
    rfl
  refine take_ (i := 1) (N := some 20) (v := ?_) (a' := ?_) #[true, true, false, true, false, false, false, false] rfl rfl (take_ofW HT_.out HW_.out (by kernel_rfl)) (fun _ _ _ h => h) (Or.inl ⟨by rfl, ?_⟩) hHeld ?_ ?_
  rotate_left
  · rintro w' ⟨s0, s1, s2⟩
    go_simp
    try with_reducible rfl
  rotate_left
  · simp only [Act.put, List.setIfInBounds_toArray, List.set_cons_zero, List.set_cons_succ]
    rfl
  refine take_ (i := 4) (N := some 23) (v := ?_) (a' := ?_) #[true, true, false, true, true, false, false, false] rfl rfl (take_ofW HT_.out HW_.out (by kernel_rfl)) (fun _ _ _ h => h) (Or.inl ⟨by rfl, ?_⟩) hHeld ?_ ?_
  rotate_left
  · rintro w' ⟨s0, s1, s2⟩
    go_simp
    try with_reducible rfl
  rotate_left
  · simp only [Act.put, List.setIfInBounds_toArray, List.set_cons_zero, List.set_cons_succ]
    rfl
  refine one_ (i := 2) (N := some 21) #[true, true, true, true, true, false, false, false] rfl rfl (one_of HT_.out (by kernel_rfl)) (by decide) (fun K hK => ?_)
  refine goes_ Try.func14 (by kernel_rfl) rfl #[.string ⟨l0.toArray⟩, .int .i64 32] (by rfl) rfl rfl (by first | done | rfl | (simp only [List.map_toArray, List.map_cons, List.map_nil]; rfl)) ?_
  refine (fit_any l0 32 (by decide) _).mono ?_
  rintro e w2 ⟨rfl, b2⟩
  refine ⟨_, rfl, ?_⟩
  refine hK.out _ _ ⟨(b2.cell (p := ⟨W.heap.size, 0, none⟩) (block_lt_of_cell hHeld.1)).trans hHeld.1, (b2.cell (p := ⟨W.heap.size, 1, none⟩) (block_lt_of_cell hHeld.2.1)).trans hHeld.2.1, hHeld.2.2.trans (b2.mono hHeld.2.2.size)⟩ (fun hHeld => ?_)
  clear hK K
  refine norm_ (a' := ?_) ?_ ?_
  rotate_left
  · show Act.put _ (some 21) _ = _
    simp only [Act.put, List.setIfInBounds_toArray, List.set_cons_zero, List.set_cons_succ]
    rfl
  refine one_ (i := 5) (N := some 24) #[true, true, true, true, true, true, false, false] rfl rfl (one_of HT_.out (by kernel_rfl)) (by decide) (fun K hK => ?_)
  refine goes_ Try.func14 (by kernel_rfl) rfl #[.string ⟨l1.toArray⟩, .int .i64 12] (by rfl) rfl rfl (by first | done | rfl | (simp only [List.map_toArray, List.map_cons, List.map_nil]; rfl)) ?_
  refine (fit_any l1 12 (by decide) _).mono ?_
  rintro e w3 ⟨rfl, b3⟩
  refine ⟨_, rfl, ?_⟩
  refine hK.out _ _ ⟨(b3.cell (p := ⟨W.heap.size, 0, none⟩) (block_lt_of_cell hHeld.1)).trans hHeld.1, (b3.cell (p := ⟨W.heap.size, 1, none⟩) (block_lt_of_cell hHeld.2.1)).trans hHeld.2.1, hHeld.2.2.trans (b3.mono hHeld.2.2.size)⟩ (fun hHeld => ?_)
  clear hK K
  refine norm_ (a' := ?_) ?_ ?_
  rotate_left
  · show Act.put _ (some 24) _ = _
    simp only [Act.put, List.setIfInBounds_toArray, List.set_cons_zero, List.set_cons_succ]
    rfl
  refine pure_ (i := 6) (N := some 7) (v := ?_) (a' := ?_) #[true, true, true, true, true, true, true, false] rfl rfl (any_of HT_.out (by kernel_rfl)) (fun _ _ _ h => h) (Or.inl ⟨by rfl, ?_⟩) ?_ ?_
  rotate_left
  · intro w'
    go_simp
    try with_reducible rfl
  rotate_left
  · simp only [Act.put, List.setIfInBounds_toArray, List.set_cons_zero, List.set_cons_succ]
    rfl
  refine pure_ (i := 7) (N := some 8) (v := ?_) (a' := ?_) #[true, true, true, true, true, true, true, true] rfl rfl (any_of HT_.out (by kernel_rfl)) (fun _ _ _ h => h) (Or.inl ⟨by rfl, ?_⟩) ?_ ?_
  rotate_left
  · intro w'
    go_simp
    try with_reducible rfl
  rotate_left
  · simp only [Act.put, List.setIfInBounds_toArray, List.set_cons_zero, List.set_cons_succ]
    rfl
  refine done_ (done_of HT_.out (by kernel_rfl)) ?_
  clear HT_ HW_
  have HG3 := Lib.hid hHeld.2.2
  clear hHeld c0 c1 HA1 HG1
  rw [← hK.out, ← hN.out]
  obtain ⟨w4, hmk0, hown, hgr⟩ := own_make (B := W.heap.size) (t := 34) elemU8' w3 .i64 .i64 512 (by omega) (by omega) HG3.out.size
  have hmk : (Instr.makeSlice 34 (.int .i64 512) (.int .i64 512)).run Try.prog w3 = .ok (.slice (some ⟨w3.heap.size, 0, none⟩) 512 512) w4 := hmk0
  obtain ⟨Z, hZ⟩ : ∃ Z : List UInt8, Hid (Z = List.replicate 512 0) := ⟨_, rfl⟩
  have hZl : Z.length = 512 := by rw [hZ.out, List.length_replicate]
  have hown2 : Own 5 w4 W.heap.size (.slice (some ⟨w3.heap.size, 0, none⟩) 512 512) (cb Z) := by
    have e : List.replicate 512 ((Value.int .u8 0).cells[0]!) = cb Z := by
      rw [hZ.out]; unfold cb; rw [List.map_replicate]; rfl
    rw [← e]; exact hown
  have hcv := my_own_string (P := Try.prog) (t := 34) (e := 5) (d := 9) Try.underlying34 Try.underlying5 Try.underlying9 hown2
  have HG4 := Lib.hid (show Below W.heap.size W w4 from HG3.out.grown hgr HG3.out.size (fun k hk => by cases hk))
  clear hmk0 hown hgr hown2
  obtain ⟨m, hm, hm2⟩ : ∃ m : Nat, c % 2147483648 = (m : Int) ∧ m < 2147483648 := ⟨(c % 2147483648).toNat, by omega, by omega⟩
  obtain ⟨n, hn, hn2⟩ : ∃ n : Nat, wrap64 ((IntKind.u64.wrap b).tmod 8) = (n : Int) ∧ n < 8 := by
    have h1 : 0 ≤ IntKind.u64.wrap b := by rw [wrap_u64e]; omega
    rw [Int.tmod_eq_emod_of_nonneg h1]
    exact ⟨(IntKind.u64.wrap b % 8).toNat, by unfold wrap64; omega, by omega⟩
  have HM := Lib.hid hm
  have HN := Lib.hid hn
  have hwr : ∀ x : Nat, x ≤ 4294967295 → wrongN K.length N.length (x : Int) = 0 := fun x hx => by rw [hK.out, hN.out]; exact (by rw [fitL_length, fitL_length, wrongN, if_neg (by omega), if_neg (by omega)])
  have X1 := Lib.hid (show xorL K N (m : Int) Z = strL K N m 512 by
    rw [xorL, if_pos (hwr m (by omega)), if_pos (by omega), hZl, hZ.out, Int.toNat_natCast, xorS_zeros])
  have X2 := Lib.hid (show xorE K N (m : Int) Z = 0 by rw [xorE, if_pos (hwr m (by omega)), if_pos (by omega)])
  have X3 := Lib.hid (show xorL K N ((m + n : Nat) : Int) (Z.drop (64 * n)) = strL K N (m + n) (512 - 64 * n) by
    rw [xorL, if_pos (hwr (m + n) (by omega)), if_pos (by rw [List.length_drop]; omega), List.length_drop, hZl, hZ.out, List.drop_replicate, Int.toNat_natCast, xorS_zeros])
  have X4 := Lib.hid (show xorE K N ((m + n : Nat) : Int) (Z.drop (64 * n)) = 0 by rw [xorE, if_pos (hwr (m + n) (by omega)), if_pos (by rw [List.length_drop]; omega)])
  have X5 := Lib.hid (show blockL K N ((m + n : Nat) : Int) = chaB K N (BitVec.ofNat 32 (m + n)) by rw [blockL, if_pos (hwr (m + n) (by omega))]; rfl)
  have X6 := Lib.hid (hwr (m + n) (by omega))
  have hZs : (⟨Z.toArray⟩ : ByteArray).size = 512 := by simp [ByteArray.size, hZl]
  have HX := Lib.hid (show (⟨Z.toArray⟩ : ByteArray).extract (64 * n) 512 = ⟨(Z.drop (64 * n)).toArray⟩ by rw [← hZl]; exact extract_eq Z (64 * n))
  have HZL := Lib.hid hZl
  clear hm hn hwr hZl
  go_upto_region 6 with fail
  rw [HM.out, HN.out]
  go_wp2_with fail
  refine (xor_any K N (m : Int) Z (by rw [HZL.out]; decide) _).mono ?_
  rintro e w5 ⟨rfl, b5⟩
  rw [X1.out, X2.out]
  have HG5 := Lib.hid (HG4.out.trans (b5.mono HG4.out.size))
  clear b5 hcv hmk
  go_wp2_with fail
  rw [HX.out, show (m : Int) + (n : Int) = ((m + n : Nat) : Int) from by omega]
  refine (xor_any K N ((m + n : Nat) : Int) (Z.drop (64 * n)) (by rw [List.length_drop, HZL.out]; omega) _).mono ?_
  rintro e w6 ⟨rfl, b6⟩
  rw [X3.out, X4.out]
  have HG6 := Lib.hid (HG5.out.trans (b6.mono HG5.out.size))
  clear b6
  go_wp2_with fail
  rw [show (m : Int) + (n : Int) = ((m + n : Nat) : Int) from by omega]
  refine (block_any K N ((m + n : Nat) : Int) _).mono ?_
  rintro e w7 ⟨rfl, b7⟩
  rw [X5.out, X6.out]
  have HG7 := Lib.hid (HG6.out.trans (b7.mono HG6.out.size))
  clear b7
  obtain ⟨A, hA⟩ : ∃ A, Hid (A = strL K N m 512) := ⟨_, rfl⟩
  obtain ⟨R, hR⟩ : ∃ R, Hid (R = strL K N (m + n) (512 - 64 * n)) := ⟨_, rfl⟩
  obtain ⟨B, hB⟩ : ∃ B, Hid (B = chaB K N (BitVec.ofNat 32 (m + n))) := ⟨_, rfl⟩
  rw [← hA.out, ← hR.out, ← hB.out]
  have hAl : A.length = 512 := by rw [hA.out, strL_length]
  have hRl : R.length = 512 - 64 * n := by rw [hR.out, strL_length]
  have hAs : (⟨A.toArray⟩ : ByteArray).size = 512 := by simp [ByteArray.size, hAl]
  obtain ⟨r, hr, hr2⟩ : ∃ r, (⟨R.toArray⟩ : ByteArray).size = r ∧ 64 ≤ r := ⟨_, rfl, by simp [ByteArray.size, hRl]; omega⟩
  have hx1 : (⟨A.toArray⟩ : ByteArray).extract (64 * n) 512 = ⟨R.toArray⟩ := by
    rw [← hAl, extract_eq A (64 * n), hA.out, hR.out]
    have := strL_drop K N m n (512 - 64 * n)
    rw [show 64 * n + (512 - 64 * n) = 512 by omega] at this
    rw [this]
  have hx2 : (⟨R.toArray⟩ : ByteArray).extract 0 64 = ⟨B.toArray⟩ := by
    rw [extract_mid, hR.out, hB.out, List.drop_zero, Nat.sub_zero, strL_block K N (m + n) (512 - 64 * n) (by omega)]
  have hr3 : (64 : Int) ≤ (r : Int) := by omega
  clear hAl hRl
  go_wp2_with fail
  go_ret
  exact ⟨rfl, HG7.out⟩
end Go.Proofs.Ytomflcpebnebpaa

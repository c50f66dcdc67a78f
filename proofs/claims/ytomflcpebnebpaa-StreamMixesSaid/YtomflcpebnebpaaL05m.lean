/- The walk of the law StreamMixes. -/
import Derived.Test.YtomflcpebnebpaaL05g
namespace Go.Proofs.Ytomflcpebnebpaa
open Go.RowKit Go.Proofs.YtomflcpebnebpaaW.PrintLast Go.Proofs.YtomflcpebnebpaaW.PrintWords Go.Proofs.YtomflcpebnebpaaW.PrintMore
set_option linter.unusedSimpArgs false
set_option linter.unusedVariables false
def mixesR4.T : Bool × List (List Nat × List Nat) := (true, [([], []), ([0], [0]), ([1], [1]), ([], []), ([3], [3]), ([4, 2], [4]), ([2, 5, 0, 1, 2], [2]), ([5, 6, 0, 1, 2, 3, 4, 5, 6], [5])])
def mixesR4.B : List Nat := [0, 1, 3, 0, 8, 31, 63, 127]
theorem mixesR4.tab : rtab .any (opsOf Try.f7 4) = mixesR4.T := by kernel_rfl
theorem mixesR4.bits : waitsOk mixesR4.T.2 mixesR4.B = true := by kernel_rfl
set_option maxHeartbeats 1600000 in
set_option maxRecDepth 100000 in
theorem law_StreamMixes (l0 l1 a b : List UInt8) (W : World) (h0 : l0.length ≤ 140737488351232) (h1 : l1.length ≤ 140737488351232) (ha : a.length ≤ 140737488351232) (hb : b.length ≤ 140737488351232) :
    Calls Try.prog 7 #[.agg #[.string ⟨l0.toArray⟩, .string ⟨l1.toArray⟩], .string ⟨a.toArray⟩, .string ⟨b.toArray⟩] W fun e W' => e = .returned (.bool true) ∧ Below W.heap.size W W' := by
  have hsa : (⟨a.toArray⟩ : ByteArray).size = a.length := by simp [ByteArray.size]
  have hsb : (⟨b.toArray⟩ : ByteArray).size = b.length := by simp [ByteArray.size]
  obtain ⟨n, hn, hn1, hn2, hn3⟩ : ∃ n : Nat, (if (2000 : Int) < (if (b.length : Int) < (a.length : Int) then (b.length : Int) else (a.length : Int)) then (2000 : Int) else (if (b.length : Int) < (a.length : Int) then (b.length : Int) else (a.length : Int))) = (n : Int) ∧ n ≤ a.length ∧ n ≤ b.length ∧ n ≤ 2000 := ⟨min (min a.length b.length) 2000, by split <;> split <;> omega, by omega, by omega, by omega⟩
  have hmin : ∀ w, (Builtin.min_ #[3, 3, 3] 3 #[.int .i64 (a.length : Int), .int .i64 (b.length : Int), .int .i64 2000]).run Try.prog w = .ok (.int .i64 (n : Int)) w := fun w => by
    rw [← hn, min_three, min2_int]
    simp only [Sem.run_bind, Sem.run_pure, Result.andThen_ok, min2_int]
  clear hn
  go_enter Try.func7, Try.ntmps7
  go_wp2_with fail
  refine (works_any _).mono ?_
  rintro e w1 ⟨rfl, b1⟩
  have HA1 := Lib.hid ((Blk.new W 28 #[.string ⟨l0.toArray⟩, .string ⟨l1.toArray⟩]).below b1 (by simp))
  have HG1 := Lib.hid (show Below W.heap.size W w1 from ((Below.refl W.heap.size W).alloc (Nat.le_refl _) _).trans (b1.mono (by simp)))
  clear b1
  go_wp2_with fail
  have c0 : w1.cell? ⟨W.heap.size, 0, none⟩ = some (.string ⟨l0.toArray⟩) := HA1.out.cell 0
  have c1 : w1.cell? ⟨W.heap.size, 1, none⟩ = some (.string ⟨l1.toArray⟩) := HA1.out.cell 1
  obtain ⟨K, hK⟩ : ∃ K, Hid (K = fitL l0 32) := ⟨_, rfl⟩
  obtain ⟨N, hN⟩ : ∃ N, Hid (N = fitL l1 12) := ⟨_, rfl⟩
  refine start_ (n := 8) (S := fun w' => w'.cell? ⟨W.heap.size, 0, none⟩ = some (.string ⟨l0.toArray⟩) ∧ w'.cell? ⟨W.heap.size, 1, none⟩ = some (.string ⟨l1.toArray⟩) ∧ Below W.heap.size W w') (ds := []) #[false, false, false, false, false, false, false, false] (by kernel_rfl) rfl rfl ⟨c0, c1, HG1.out.drew⟩ (fun hHeld => ?_)
  refine with_tabW mixesR4.tab mixesR4.bits (fun HT_ HW_ => ?_)
  refine pure_ (i := 0) (N := some 22) (v := ?_) (a' := ?_) #[true, false, false, false, false, false, false, false] rfl rfl (any_of HT_.out (by kernel_rfl)) (fun _ _ _ h => h) (Or.inl ⟨by rfl, ?_⟩) ?_ ?_
  rotate_left
  · intro w'
    go_simp
    try with_reducible rfl
  rotate_left
  · simp only [Act.put, List.setIfInBounds_toArray, List.set_cons_zero, List.set_cons_succ]
    rfl
  refine pure_ (i := 3) (N := some 25) (v := ?_) (a' := ?_) #[true, false, false, true, false, false, false, false] rfl rfl (any_of HT_.out (by kernel_rfl)) (fun _ _ _ h => h) (Or.inl ⟨by rfl, ?_⟩) ?_ ?_
  rotate_left
  · intro w'
    go_simp
    try with_reducible rfl
  rotate_left
  · simp only [Act.put, List.setIfInBounds_toArray, List.set_cons_zero, List.set_cons_succ]
    rfl
  refine take_ (i := 1) (N := some 23) (v := ?_) (a' := ?_) #[true, true, false, true, false, false, false, false] rfl rfl (take_ofW HT_.out HW_.out (by kernel_rfl)) (fun _ _ _ h => h) (Or.inl ⟨by rfl, ?_⟩) hHeld ?_ ?_
  rotate_left
  · rintro w' ⟨s0, s1, s2⟩
    go_simp
    try with_reducible rfl
  rotate_left
  · simp only [Act.put, List.setIfInBounds_toArray, List.set_cons_zero, List.set_cons_succ]
    rfl
  refine take_ (i := 4) (N := some 26) (v := ?_) (a' := ?_) #[true, true, false, true, true, false, false, false] rfl rfl (take_ofW HT_.out HW_.out (by kernel_rfl)) (fun _ _ _ h => h) (Or.inl ⟨by rfl, ?_⟩) hHeld ?_ ?_
  rotate_left
  · rintro w' ⟨s0, s1, s2⟩
    go_simp
    try with_reducible rfl
  rotate_left
  · simp only [Act.put, List.setIfInBounds_toArray, List.set_cons_zero, List.set_cons_succ]
    rfl
  refine one_ (i := 2) (N := some 24) #[true, true, true, true, true, false, false, false] rfl rfl (one_of HT_.out (by kernel_rfl)) (by decide) (fun K hK => ?_)
  refine goes_ Try.func14 (by kernel_rfl) rfl #[.string ⟨l0.toArray⟩, .int .i64 32] (by rfl) rfl rfl (by first | done | rfl | (simp only [List.map_toArray, List.map_cons, List.map_nil]; rfl)) ?_
  refine (fit_any l0 32 (by decide) _).mono ?_
  rintro e w2 ⟨rfl, b2⟩
  refine ⟨_, rfl, ?_⟩
  refine hK.out _ _ ⟨(b2.cell (p := ⟨W.heap.size, 0, none⟩) (block_lt_of_cell hHeld.1)).trans hHeld.1, (b2.cell (p := ⟨W.heap.size, 1, none⟩) (block_lt_of_cell hHeld.2.1)).trans hHeld.2.1, hHeld.2.2.trans (b2.mono hHeld.2.2.size)⟩ (fun hHeld => ?_)
  clear hK K
  refine norm_ (a' := ?_) ?_ ?_
  rotate_left
  · show Act.put _ (some 24) _ = _
    simp only [Act.put, List.setIfInBounds_toArray, List.set_cons_zero, List.set_cons_succ]
    rfl
  refine one_ (i := 5) (N := some 27) #[true, true, true, true, true, true, false, false] rfl rfl (one_of HT_.out (by kernel_rfl)) (by decide) (fun K hK => ?_)
  refine goes_ Try.func14 (by kernel_rfl) rfl #[.string ⟨l1.toArray⟩, .int .i64 12] (by rfl) rfl rfl (by first | done | rfl | (simp only [List.map_toArray, List.map_cons, List.map_nil]; rfl)) ?_
  refine (fit_any l1 12 (by decide) _).mono ?_
  rintro e w3 ⟨rfl, b3⟩
  refine ⟨_, rfl, ?_⟩
  refine hK.out _ _ ⟨(b3.cell (p := ⟨W.heap.size, 0, none⟩) (block_lt_of_cell hHeld.1)).trans hHeld.1, (b3.cell (p := ⟨W.heap.size, 1, none⟩) (block_lt_of_cell hHeld.2.1)).trans hHeld.2.1, hHeld.2.2.trans (b3.mono hHeld.2.2.size)⟩ (fun hHeld => ?_)
  clear hK K
  refine norm_ (a' := ?_) ?_ ?_
  rotate_left
  · show Act.put _ (some 27) _ = _
    simp only [Act.put, List.setIfInBounds_toArray, List.set_cons_zero, List.set_cons_succ]
    rfl
  refine pure_ (i := 6) (N := some 8) (v := ?_) (a' := ?_) #[true, true, true, true, true, true, true, false] rfl rfl (any_of HT_.out (by kernel_rfl)) (fun _ _ _ h => h) (Or.inl ⟨by rfl, ?_⟩) ?_ ?_
  rotate_left
  · intro w'
    go_simp
    try with_reducible rfl
  rotate_left
  · simp only [Act.put, List.setIfInBounds_toArray, List.set_cons_zero, List.set_cons_succ]
    rfl
  refine pure_ (i := 7) (N := some 9) (v := ?_) (a' := ?_) #[true, true, true, true, true, true, true, true] rfl rfl (any_of HT_.out (by kernel_rfl)) (fun _ _ _ h => h) (Or.inl ⟨by rfl, ?_⟩) ?_ ?_
  rotate_left
  · intro w'
    go_simp
    try with_reducible rfl
  rotate_left
  · simp only [Act.put, List.setIfInBounds_toArray, List.set_cons_zero, List.set_cons_succ]
    rfl
  refine done_ (done_of HT_.out (by kernel_rfl)) ?_
  clear HT_ HW_
  have HG3 := Lib.hid hHeld.2.2
  clear hHeld c0 c1 HA1 HG1
  rw [← hK.out, ← hN.out]
  have hx1 : (⟨a.toArray⟩ : ByteArray).extract 0 n = ⟨(a.take n).toArray⟩ := by rw [extract_mid]; simp
  have hx2 : (⟨b.toArray⟩ : ByteArray).extract 0 n = ⟨(b.take n).toArray⟩ := by rw [extract_mid]; simp
  have HX1 := Lib.hid hx1
  have HX2 := Lib.hid hx2
  have hwr : wrongN K.length N.length 7 = 0 := by rw [hK.out, hN.out]; exact (by rw [fitL_length, fitL_length, wrongN, if_neg (by omega), if_neg (by omega)])
  have hla : (a.take n).length = n := by rw [List.length_take]; omega
  have hlb : (b.take n).length = n := by rw [List.length_take]; omega
  obtain ⟨X, hX⟩ : ∃ X, Hid (X = xorS K N 7 (a.take n) n) := ⟨_, rfl⟩
  obtain ⟨Y, hY⟩ : ∃ Y, Hid (Y = xorS K N 7 (b.take n) n) := ⟨_, rfl⟩
  have E1 := Lib.hid (show xorL K N 7 (a.take n) = X by rw [xorL, if_pos hwr, if_pos (by omega), hX.out, hla]; rfl)
  have E2 := Lib.hid (show xorE K N 7 (a.take n) = 0 by rw [xorE, if_pos hwr, if_pos (by omega)])
  have E3 := Lib.hid (show xorL K N 7 (b.take n) = Y by rw [xorL, if_pos hwr, if_pos (by omega), hY.out, hlb]; rfl)
  have E4 := Lib.hid (show xorE K N 7 (b.take n) = 0 by rw [xorE, if_pos hwr, if_pos (by omega)])
  have hXs : (⟨X.toArray⟩ : ByteArray).size = n := by simp [ByteArray.size, hX.out, xorS_length]
  have hYs : (⟨Y.toArray⟩ : ByteArray).size = n := by simp [ByteArray.size, hY.out, xorS_length]
  have HXY := Lib.hid (show ∀ i, i < n → bd X i ^^^ bd Y i = bd a i ^^^ bd b i by
    intro i hi
    rw [hX.out, hY.out, xorS_get _ _ _ _ _ _ hi, xorS_get _ _ _ _ _ _ hi, bd_take _ _ _ hi, bd_take _ _ _ hi]
    apply UInt8.toNat_inj.1
    simp only [UInt8.toNat_xor]
    generalize (bd a i).toNat = p
    generalize (bd b i).toNat = q
    generalize (strB K N 7 i).toNat = z
    rw [Nat.xor_assoc, Nat.xor_comm z, Nat.xor_assoc q, Nat.xor_self, Nat.xor_zero])
  have HLA := Lib.hid hla
  have HLB := Lib.hid hlb
  clear hx1 hx2 hwr hla hlb
  go_wp2_with fail
  rw [HX1.out]
  refine (xor_any K N 7 (a.take n) (by rw [HLA.out]; omega) _).mono ?_
  rintro e w4 ⟨rfl, b4⟩
  rw [E1.out, E2.out]
  have HG4 := Lib.hid (HG3.out.trans (b4.mono HG3.out.size))
  clear b4
  go_wp2_with fail
  rw [HX2.out]
  refine (xor_any K N 7 (b.take n) (by rw [HLB.out]; omega) _).mono ?_
  rintro e w5 ⟨rfl, b5⟩
  rw [E3.out, E4.out]
  have HG5 := Lib.hid (HG4.out.trans (b5.mono HG4.out.size))
  clear b5
  go_wp2_with fail
  go_loopw [65] (fun v wr => ∃ k : Nat, k ≤ n ∧ v = .int .i64 k ∧ Below W.heap.size W wr) (fun v _ => n - (intOf v).toNat)
  case atStart => exact ⟨0, by omega, rfl, HG5.out⟩
  case round =>
    obtain ⟨k, hk, rfl, hG⟩ := hrel
    have HG6 := Lib.hid hG
    clear hG HG5
    by_cases hlt : k < n
    · have i1 : ∀ h, (⟨a.toArray⟩ : ByteArray)[k]'h = bd a k := fun h => by simp [bd, List.getD, List.getElem?_eq_getElem (show k < a.length by omega)]; rfl
      have i2 : ∀ h, (⟨b.toArray⟩ : ByteArray)[k]'h = bd b k := fun h => by simp [bd, List.getD, List.getElem?_eq_getElem (show k < b.length by omega)]; rfl
      have i3 : ∀ h, (⟨X.toArray⟩ : ByteArray)[k]'h = bd X k := fun h => by simp [bd, List.getD, List.getElem?_eq_getElem (show k < X.length by rw [hX.out, xorS_length]; omega)]; rfl
      have i4 : ∀ h, (⟨Y.toArray⟩ : ByteArray)[k]'h = bd Y k := fun h => by simp [bd, List.getD, List.getElem?_eq_getElem (show k < Y.length by rw [hY.out, xorS_length]; omega)]; rfl
      have e1 : 0 ≤ (k : Int) ∧ (k : Int) < (n : Int) := by omega
      have e2 : (k : Int) < (a.length : Int) := by omega
      have e3 : (k : Int) < (b.length : Int) := by omega
      have x1 : bits .xor .u8 ((bd X k).toNat : Int) ((bd Y k).toNat : Int) = n8 (bd X k ^^^ bd Y k) := n8_xor _ _
      have x2 : bits .xor .u8 ((bd a k).toNat : Int) ((bd b k).toNat : Int) = n8 (bd X k ^^^ bd Y k) := by rw [HXY.out k hlt]; exact n8_xor _ _
      go_wp2_with fail
      go_quiet (fail)
      go_wp2_with fail
      exact ⟨⟨k + 1, by omega, by go_num, below_drewN HG6.out _⟩, by simp [intOf]; omega⟩
    · obtain rfl : k = n := by omega
      go_wp2_with fail
      go_ret
      exact ⟨rfl, HG6.out⟩
end Go.Proofs.Ytomflcpebnebpaa

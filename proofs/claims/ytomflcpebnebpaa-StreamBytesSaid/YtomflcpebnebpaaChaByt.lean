/- The walk of stream's bytes: a state's block. -/
import Derived.Test.YtomflcpebnebpaaChaTurn
import Derived.Outline
namespace Go.Proofs.Ytomflcpebnebpaa
open Go.RowKit Go.Proofs.YtomflcpebnebpaaW.PrintLast Go.Proofs.YtomflcpebnebpaaW.PrintWords
set_option linter.unusedSimpArgs false
set_option linter.unusedVariables false
def bytesR6.T : Bool × List (List Nat × List Nat) := (true, [([], []), ([], []), ([1], [1]), ([2], [2]), ([3], [3]), ([], []), ([5], [5]), ([6], [6]), ([7], [7]), ([4, 8], [4, 8]), ([], []), ([10], [10]), ([11], [11]), ([9, 12], [9, 12]), ([13], [13]), ([0, 0, 1, 2, 3, 4, 5, 6, 7, 8, 9, 10, 11, 12, 13, 14], [0]), ([15, 14, 0, 1, 2, 3, 4, 5, 6, 7, 8, 9, 10, 11, 12, 13, 14], [14, 15])])
def bytesR6.B : List Nat := [0, 0, 2, 6, 14, 0, 32, 96, 224, 510, 0, 1024, 3072, 8190, 16382, 32767, 65535]
theorem bytesR6.tab : rtab .any (opsOf Try.f19 6) = bytesR6.T := by kernel_rfl
theorem bytesR6.bits : waitsOk bytesR6.T.2 bytesR6.B = true := by kernel_rfl
theorem oneCellsB (l : List UInt8) : ((cb l).toArray).all (·.oneCell') = true := by
  rw [Array.all_eq_true_iff_forall_mem]
  intro v hv
  simp only [cb, List.mem_toArray, List.mem_map] at hv
  obtain ⟨x, _, rfl⟩ := hv
  rfl
/-- the block, so many bytes being there. -/
def blkTo (s : List (BitVec 32)) (k : Nat) : List UInt8 := blkL s k ++ List.replicate (64 - k) 0
theorem blkTo_length (s : List (BitVec 32)) (k : Nat) (h : k ≤ 64) : (blkTo s k).length = 64 := by
  simp [blkTo, blkL_length]; omega
theorem blkTo_set (s : List (BitVec 32)) (k : Nat) (h : k < 64) : (blkTo s k).set k (blkB s k) = blkTo s (k + 1) := by
  obtain ⟨m, hm⟩ : ∃ m, 64 - k = m + 1 := ⟨63 - k, by omega⟩
  rw [blkTo, blkTo, List.set_append_right _ _ (by rw [blkL_length]; exact Nat.le_refl _), blkL_length, Nat.sub_self, hm, List.replicate_succ, List.set_cons_zero, blkL]
  simp [show 64 - (k + 1) = m by omega]
theorem blkTo_64 (s : List (BitVec 32)) : blkTo s 64 = blkL s 64 := by simp [blkTo]
theorem w32_add (x y : BitVec 32) : IntKind.u32.wrap (n32 x + n32 y) = n32 (x + y) := by rw [IntKind.wrap_u32', v32_add]
theorem v32_shri (x : BitVec 32) (k : Nat) (hk : k ≤ 32) : n32 x / 2 ^ k = n32 (x >>> k) := by
  rw [← v32_shr_nat, Int.natCast_pow]; rfl
section
attribute [local go_sem] v32_add w32_add
set_option maxHeartbeats 1600000 in
set_option maxRecDepth 100000 in
theorem bytes_any (s : List (BitVec 32)) (hs : s.length = 16) (w : World) :
    Calls Try.prog 19 #[.agg (wc s)] w fun e w' => e = .returned (.agg (cb (blkL s 64)).toArray) ∧ Below w.heap.size w w' := by
  have HS := Lib.hid hs
  have HZ := Lib.hid (show (wc s).size = 16 by rw [wc_size, hs])
  obtain ⟨A, hA⟩ : ∃ A, Hid (A = wc s) := ⟨_, rfl⟩
  rw [← hA.out] at HZ ⊢
  have HA := Lib.hid (show Blk ((w.alloc (.cells A 41)).alloc (.cells (cb (List.replicate 64 0)).toArray 39)) w.heap.size 41 A from (Blk.new _ _ _).alloc _)
  clear hs
  go_enter Try.func19, Try.ntmps19
  go_wp2_with (refine wpList_load_blk (t := 41) rfl 41 (.tmp 1) rfl w.heap.size rfl HA.out Try.underlying41 rfl (by rw [HZ.out]; kernel_rfl) ?_)
  rw [hA.out]
  refine (turned_any s HS.out _).mono ?_
  rintro e w1 ⟨rfl, hb⟩
  obtain ⟨T, hT⟩ : ∃ T, Hid (T = qAt s 80) := ⟨_, rfl⟩
  have HT1 := Lib.hid (show T.length = 16 by rw [hT.out, qAt_length, HS.out])
  have HTS := Lib.hid (show (wc T).size = 16 by rw [wc_size, HT1.out])
  rw [← hT.out]
  have hsz := hb.size
  simp at hsz
  have HA1 := Lib.hid ((show Blk ((w.alloc (.cells (wc s) 41)).alloc (.cells (cb (List.replicate 64 0)).toArray 39)) w.heap.size 41 (wc s) from (Blk.new _ _ _).alloc _).below hb (by simp; omega))
  have HZ1 := Lib.hid ((Blk.new2 w (.cells (wc s) 41) 39 (cb (List.replicate 64 0)).toArray).below hb (by simp))
  have HG1 := Lib.hid (show Below w.heap.size w w1 from (((Below.refl w.heap.size w).alloc (Nat.le_refl _) _).alloc (by simp) _).trans (hb.mono (by simp; omega)))
  clear hb HA
  go_wp2_with (refine wpList_store_blk (t := 41) rfl 41 (.tmp 3) (.tmp 7) rfl w1.heap.size (wc T) rfl rfl (cs := wc (List.replicate 16 0)) (Blk.new _ _ _) (by rw [HTS.out]; rfl) (by rw [HTS.out]; kernel_rfl) (oneCells _) ?_; intro w2 hB2 hG2)
  have hs2 := hG2.size
  simp at hs2
  have HA2 := Lib.hid (((HA1.out.alloc (.cells (wc (List.replicate 16 0)) 41)).grown hG2 (by simp; omega)).alloc (.cells (cb (List.replicate 64 0)).toArray 39))
  have HZ2 := Lib.hid (((HZ1.out.alloc (.cells (wc (List.replicate 16 0)) 41)).grown hG2 (by simp; omega)).alloc (.cells (cb (List.replicate 64 0)).toArray 39))
  have HT2 := Lib.hid (hB2.alloc (.cells (cb (List.replicate 64 0)).toArray 39))
  have HN2 := Lib.hid (Blk.new w2 39 (cb (List.replicate 64 0)).toArray)
  have HG3 := Lib.hid (show Below w.heap.size w (w2.alloc (.cells (cb (List.replicate 64 0)).toArray 39)) from (below_of_only (HG1.out.alloc HG1.out.size (.cells (wc (List.replicate 16 0)) 41)) hG2 HG1.out.size (by have := HG1.out.size; simp; omega)).alloc (by have := HG1.out.size; omega) _)
  clear HA1 HZ1 hB2 hG2 HG1
  have hs1 : w.heap.size + 2 ≤ w1.heap.size := by omega
  clear hsz
  go_loopw [8] (fun v wr => ∃ k : Nat, k ≤ 64 ∧ v = .int .i64 k ∧ Blk wr w.heap.size 41 (wc s) ∧ Blk wr w1.heap.size 41 (wc T) ∧ Blk wr (w.heap.size + 1) 39 (cb (List.replicate 64 0)).toArray ∧ Blk wr w2.heap.size 39 (cb (blkTo s k)).toArray ∧ Below w.heap.size w wr) (fun v _ => 64 - (intOf v).toNat)
  case atStart => exact ⟨0, by omega, rfl, HA2.out, HT2.out, HZ2.out, HN2.out, HG3.out⟩
  case round =>
    obtain ⟨k, hk, rfl, hA3, hT3, hZ3, hN3, hG3⟩ := hrel
    clear HA2 HT2 HZ2 HN2 HG3
    have HA3 := Lib.hid hA3
    have HT3 := Lib.hid hT3
    have HZ3 := Lib.hid hZ3
    have HN3 := Lib.hid hN3
    have HG3 := Lib.hid hG3
    clear hA3 hT3 hZ3 hN3 hG3
    by_cases hlt : k < 64
    · have c0 := (HA3.out.cell (k / 4)).trans (wc_get _ _ (by rw [HS.out]; omega))
      have c1 := (HT3.out.cell (k / 4)).trans (wc_get _ _ (by rw [HT1.out]; omega))
      have c2 := (HN3.out.cell k).trans (cb_get (blkTo s k) k (by rw [blkTo_length s k hk]; omega))
      have f2 := HN3.out.frozen k
      have e3 : 0 ≤ (k : Int) ∧ (k : Int) < 64 := by omega
      have e4 : 0 ≤ (k : Int) / 4 ∧ (k : Int) / 4 < 16 := by omega
      have e5 : 0 ≤ (k : Int) % 4 * 8 := by omega
      go_wp2_with fail
      have w4 : IntKind.i64.wrap ((k : Int) / 4) = (k : Int) / 4 := IntWalk.i64_in _ (by omega)
      have t4 : ((k : Int) / 4).toNat = k / 4 := by omega
      have m5 : (k : Int).tmod 4 = (k : Int) % 4 := Int.tmod_eq_emod_of_nonneg (by omega)
      have w5 : IntKind.i64.wrap ((k : Int) % 4 * 8) = (k : Int) % 4 * 8 := IntWalk.i64_in _ (by omega)
      have t5 : min ((k : Int) % 4 * 8).toNat 32 = k % 4 * 8 := by omega
      have h5 := v32_shri (wd s (k / 4) + wd T (k / 4)) (k % 4 * 8) (by omega)
      refine start_ (n := 17) (S := fun w' => w'.cell? ⟨w.heap.size, k / 4, none⟩ = some (.int .u32 (n32 (wd s (k / 4)))) ∧ w'.cell? ⟨w1.heap.size, k / 4, none⟩ = some (.int .u32 (n32 (wd T (k / 4))))) (ds := [16]) #[false, false, false, false, false, false, false, false, false, false, false, false, false, false, false, false, false] (by kernel_rfl) rfl rfl ⟨c0, c1⟩ (fun hHeld => ?_)
      refine with_tabW bytesR6.tab bytesR6.bits (fun HT_ HW_ => ?_)
      refine pure_ (i := 0) (N := some 11) (v := ?_) (a' := ?_) #[true, false, false, false, false, false, false, false, false, false, false, false, false, false, false, false, false] rfl rfl (any_of HT_.out (by kernel_rfl)) (fun _ _ _ h => h) (Or.inl ⟨by rfl, ?_⟩) ?_ ?_
      rotate_left
      · intro w'
        go_simp
        try with_reducible rfl
      rotate_left
      · simp only [Act.put, List.setIfInBounds_toArray, List.set_cons_zero, List.set_cons_succ]
        rfl
      refine pure_ (i := 1) (N := some 12) (v := ?_) (a' := ?_) #[true, true, false, false, false, false, false, false, false, false, false, false, false, false, false, false, false] rfl rfl (any_of HT_.out (by kernel_rfl)) (fun _ _ _ h => h) (Or.inl ⟨by rfl, ?_⟩) ?_ ?_
      rotate_left
      · intro w'
        go_simp
        try with_reducible rfl
      rotate_left
      · simp only [Act.put, List.setIfInBounds_toArray, List.set_cons_zero, List.set_cons_succ]
        rfl
      refine pure_ (i := 2) (N := some 13) (v := ?_) (a' := ?_) #[true, true, true, false, false, false, false, false, false, false, false, false, false, false, false, false, false] rfl rfl (any_of HT_.out (by kernel_rfl)) (fun _ _ _ h => h) (Or.inl ⟨by rfl, ?_⟩) ?_ ?_
      rotate_left
      · intro w'
        go_simp
        try with_reducible rfl
      rotate_left
      · simp only [Act.put, List.setIfInBounds_toArray, List.set_cons_zero, List.set_cons_succ]
        rfl
      refine pure_ (i := 3) (N := some 14) (v := ?_) (a' := ?_) #[true, true, true, true, false, false, false, false, false, false, false, false, false, false, false, false, false] rfl rfl (any_of HT_.out (by kernel_rfl)) (fun _ _ _ h => h) (Or.inl ⟨by rfl, ?_⟩) ?_ ?_
      rotate_left
      · intro w'
        go_simp
        try with_reducible rfl
      rotate_left
      · simp only [Act.put, List.setIfInBounds_toArray, List.set_cons_zero, List.set_cons_succ]
        rfl
      refine pure_ (i := 5) (N := some 16) (v := ?_) (a' := ?_) #[true, true, true, true, false, true, false, false, false, false, false, false, false, false, false, false, false] rfl rfl (any_of HT_.out (by kernel_rfl)) (fun _ _ _ h => h) (Or.inl ⟨by rfl, ?_⟩) ?_ ?_
      rotate_left
      · intro w'
        go_simp
        try with_reducible rfl
      rotate_left
      · simp only [Act.put, List.setIfInBounds_toArray, List.set_cons_zero, List.set_cons_succ]
        rfl
      refine pure_ (i := 6) (N := some 17) (v := ?_) (a' := ?_) #[true, true, true, true, false, true, true, false, false, false, false, false, false, false, false, false, false] rfl rfl (any_of HT_.out (by kernel_rfl)) (fun _ _ _ h => h) (Or.inl ⟨by rfl, ?_⟩) ?_ ?_
      rotate_left
      · intro w'
        go_simp
        try with_reducible rfl
      rotate_left
      · simp only [Act.put, List.setIfInBounds_toArray, List.set_cons_zero, List.set_cons_succ]
        rfl
      refine pure_ (i := 7) (N := some 18) (v := ?_) (a' := ?_) #[true, true, true, true, false, true, true, true, false, false, false, false, false, false, false, false, false] rfl rfl (any_of HT_.out (by kernel_rfl)) (fun _ _ _ h => h) (Or.inl ⟨by rfl, ?_⟩) ?_ ?_
      rotate_left
      · intro w'
        go_simp
        try with_reducible rfl
      rotate_left
      · simp only [Act.put, List.setIfInBounds_toArray, List.set_cons_zero, List.set_cons_succ]
        rfl
      refine pure_ (i := 10) (N := some 21) (v := ?_) (a' := ?_) #[true, true, true, true, false, true, true, true, false, false, true, false, false, false, false, false, false] rfl rfl (any_of HT_.out (by kernel_rfl)) (fun _ _ _ h => h) (Or.inl ⟨by rfl, ?_⟩) ?_ ?_
      rotate_left
      · intro w'
        go_simp
        try with_reducible rfl
      rotate_left
      · simp only [Act.put, List.setIfInBounds_toArray, List.set_cons_zero, List.set_cons_succ]
        rfl
      refine pure_ (i := 11) (N := some 22) (v := ?_) (a' := ?_) #[true, true, true, true, false, true, true, true, false, false, true, true, false, false, false, false, false] rfl rfl (any_of HT_.out (by kernel_rfl)) (fun _ _ _ h => h) (Or.inl ⟨by rfl, ?_⟩) ?_ ?_
      rotate_left
      · intro w'
        go_simp
        try with_reducible rfl
      rotate_left
      · simp only [Act.put, List.setIfInBounds_toArray, List.set_cons_zero, List.set_cons_succ]
        rfl
      refine pure_ (i := 12) (N := some 23) (v := ?_) (a' := ?_) #[true, true, true, true, false, true, true, true, false, false, true, true, true, false, false, false, false] rfl rfl (any_of HT_.out (by kernel_rfl)) (fun _ _ _ h => h) (Or.inl ⟨by rfl, ?_⟩) ?_ ?_
      rotate_left
      · intro w'
        go_simp
        try with_reducible rfl
      rotate_left
      · simp only [Act.put, List.setIfInBounds_toArray, List.set_cons_zero, List.set_cons_succ]
        rfl
      refine take_ (i := 4) (N := some 15) (v := ?_) (a' := ?_) #[true, true, true, true, true, true, true, true, false, false, true, true, true, false, false, false, false] rfl rfl (take_ofW HT_.out HW_.out (by kernel_rfl)) (fun _ _ _ h => h) (Or.inl ⟨by rfl, ?_⟩) hHeld ?_ ?_
      rotate_left
      · rintro w' ⟨s0, s1⟩
        go_simp
        try with_reducible rfl
      rotate_left
      · simp only [Act.put, List.setIfInBounds_toArray, List.set_cons_zero, List.set_cons_succ]
        rfl
      refine take_ (i := 8) (N := some 19) (v := ?_) (a' := ?_) #[true, true, true, true, true, true, true, true, true, false, true, true, true, false, false, false, false] rfl rfl (take_ofW HT_.out HW_.out (by kernel_rfl)) (fun _ _ _ h => h) (Or.inl ⟨by rfl, ?_⟩) hHeld ?_ ?_
      rotate_left
      · rintro w' ⟨s0, s1⟩
        go_simp
        try with_reducible rfl
      rotate_left
      · simp only [Act.put, List.setIfInBounds_toArray, List.set_cons_zero, List.set_cons_succ]
        rfl
      refine pure_ (i := 9) (N := some 20) (v := ?_) (a' := ?_) #[true, true, true, true, true, true, true, true, true, true, true, true, true, false, false, false, false] rfl rfl (any_of HT_.out (by kernel_rfl)) (fun _ _ _ h => h) (Or.inl ⟨by rfl, ?_⟩) ?_ ?_
      rotate_left
      · intro w'
        go_simp
        try with_reducible rfl
      rotate_left
      · simp only [Act.put, List.setIfInBounds_toArray, List.set_cons_zero, List.set_cons_succ]
        rfl
      refine pure_ (i := 13) (N := some 24) (v := ?_) (a' := ?_) #[true, true, true, true, true, true, true, true, true, true, true, true, true, true, false, false, false] rfl rfl (any_of HT_.out (by kernel_rfl)) (fun _ _ _ h => h) (Or.inl ⟨by rfl, ?_⟩) ?_ ?_
      rotate_left
      · intro w'
        go_simp
        try with_reducible rfl
      rotate_left
      · simp only [Act.put, List.setIfInBounds_toArray, List.set_cons_zero, List.set_cons_succ]
        rfl
      refine pure_ (i := 14) (N := some 25) (v := ?_) (a' := ?_) #[true, true, true, true, true, true, true, true, true, true, true, true, true, true, true, false, false] rfl rfl (any_of HT_.out (by kernel_rfl)) (fun _ _ _ h => h) (Or.inl ⟨by rfl, ?_⟩) ?_ ?_
      rotate_left
      · intro w'
        go_simp
        try with_reducible rfl
      rotate_left
      · simp only [Act.put, List.setIfInBounds_toArray, List.set_cons_zero, List.set_cons_succ]
        rfl
      refine pure_ (i := 15) (N := some 26) (v := ?_) (a' := ?_) #[true, true, true, true, true, true, true, true, true, true, true, true, true, true, true, true, false] rfl rfl (any_of HT_.out (by kernel_rfl)) (fun _ _ _ h => h) (Or.inl ⟨by rfl, ?_⟩) ?_ ?_
      rotate_left
      · intro w'
        go_simp
        try with_reducible rfl
      rotate_left
      · simp only [Act.put, List.setIfInBounds_toArray, List.set_cons_zero, List.set_cons_succ]
        rfl
      refine last_ (i := 16) (N := none) #[true, true, true, true, true, true, true, true, true, true, true, true, true, true, true, true, true] rfl rfl (one_of HT_.out (by kernel_rfl)) (by decide) (fun K hK => ?_)
      refine skip_ (w1 := ?_) (by rfl) rfl ?_ ?_
      rotate_left
      · go_simp
        try rfl
      refine hK.out _ _ ?_
      clear hK K
      refine done_ (done_of HT_.out (by kernel_rfl)) ?_
      clear HT_ HW_
      have hv : IntKind.u8.wrap (n32 (wd s (k / 4) + wd T (k / 4)) / 2 ^ ((k : Int) % 4 * 8).toNat) = n8 (blkB s k) := by
        rw [show ((k : Int) % 4 * 8).toNat = k % 4 * 8 by omega, v32_shri _ _ (by omega), show k % 4 * 8 = 8 * (k % 4) by omega, IntKind.wrap_u8', w8_n8, blkB, ← hT.out]
      rw [hv]
      have hfin : Blk (wr.setCell ⟨w2.heap.size, k, none⟩ (.int .u8 (n8 (blkB s k)))) w2.heap.size 39 (cb (blkTo s (k + 1))).toArray := by
        have h := HN3.out.set_ k (.int .u8 (n8 (blkB s k)))
        rwa [cb_set, blkTo_set s k hlt] at h
      have HF := Lib.hid hfin
      clear hfin hv c0 c1 c2 f2 e3 e4 e5 w4 t4 m5 w5 t5 h5 hHeld
      go_wp2_with fail
      go_roundw
      case rel => exact ⟨k + 1, by omega, by go_num, (HA3.out.far (by simp; omega) _).drew, (HT3.out.far (by simp; omega) _).drew, (HZ3.out.far (by simp; omega) _).drew, HF.out.drew, (HG3.out.setCell (by simp; omega) _).drew⟩
      case measure => simp [intOf]; omega
    · obtain rfl : k = 64 := by omega
      rw [show ((64 : Nat) : Int) = 64 from rfl]
      have HN4 := Lib.hid (show Blk wr w2.heap.size 39 (cb (blkL s 64)).toArray by rw [← blkTo_64]; exact HN3.out)
      have HS4 := Lib.hid (show (cb (blkL s 64)).toArray.size = 64 by simp [cb, blkL_length])
      clear HN3
      obtain ⟨S, hS⟩ : ∃ S, Hid (S = (cb (blkL s 64)).toArray) := ⟨_, rfl⟩
      rw [← hS.out] at HN4 HS4
      go_wp2_with (first
        | (refine wpList_load_blk (t := 39) rfl 39 (.tmp 4) rfl w2.heap.size rfl HN4.out Try.underlying39 rfl (by rw [HS4.out]; kernel_rfl) ?_)
        | (refine wpList_store_blk (t := 39) rfl 39 (.tmp 2) (.tmp 28) rfl (w.heap.size + 1) S rfl rfl HZ3.out (by rw [HS4.out]; rfl) (by rw [HS4.out]; kernel_rfl) (by rw [hS.out]; exact oneCellsB _) ?_; intro w3 hB4 hG4))
      have HB4 := Lib.hid hB4
      have HG4 := Lib.hid hG4
      clear hB4 hG4
      go_wp2
      rw [← hS.out]
      exact bodyPost_ret (results_cell_row rfl _ _ (w.heap.size + 1) 39 _ (0, 0) _ rfl HB4.out Try.underlying39 rfl (by rw [HS4.out]; kernel_rfl)) rfl ⟨rfl, below_of_only HG3.out HG4.out (by omega) (HG3.out.size)⟩
end
end Go.Proofs.Ytomflcpebnebpaa

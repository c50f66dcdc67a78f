/- The walk of stream's turned: a state behind all rounds. -/
import Derived.Test.YtomflcpebnebpaaChaBeg
import Derived.Outline
import Derived.Test.YtomflcpebnebpaaWTab
namespace Go.Proofs.Ytomflcpebnebpaa
open Go.RowKit Go.Proofs.YtomflcpebnebpaaW.PrintLast Go.Proofs.YtomflcpebnebpaaW.PrintWords
set_option linter.unusedSimpArgs false
set_option linter.unusedVariables false
def turnedR10.T : Bool × List (List Nat × List Nat) := (true, [([], []), ([], []), ([], []), ([], []), ([], []), ([4], [4]), ([5], [5]), ([], []), ([7], [7]), ([8], [8]), ([], []), ([10], [10]), ([11], [11]), ([], []), ([13], [13]), ([14], [14]), ([6, 9, 12, 15], [6, 9, 12, 15]), ([16], [16]), ([17], [17]), ([17], [17]), ([17], [17]), ([17], [17]), ([0, 0, 4, 5, 6, 7, 8, 9, 10, 11, 12, 13, 14, 15, 16, 17, 18], [0]), ([22, 18, 16, 0, 4, 5, 6, 7, 8, 9, 10, 11, 12, 13, 14, 15, 16, 17, 18], [18, 22]), ([1, 0, 1, 4, 5, 6, 7, 8, 9, 10, 11, 12, 13, 14, 15, 16, 17, 18, 19, 22, 23], [1]), ([24, 19, 23, 0, 1, 4, 5, 6, 7, 8, 9, 10, 11, 12, 13, 14, 15, 16, 17, 18, 19, 22, 23], [19, 24]), ([2, 0, 1, 2, 4, 5, 6, 7, 8, 9, 10, 11, 12, 13, 14, 15, 16, 17, 18, 19, 20, 22, 23, 24, 25], [2]), ([26, 20, 25, 0, 1, 2, 4, 5, 6, 7, 8, 9, 10, 11, 12, 13, 14, 15, 16, 17, 18, 19, 20, 22, 23, 24, 25], [20, 26]), ([3, 0, 1, 2, 3, 4, 5, 6, 7, 8, 9, 10, 11, 12, 13, 14, 15, 16, 17, 18, 19, 20, 21, 22, 23, 24, 25, 26, 27], [3]), ([28, 21, 27, 0, 1, 2, 3, 4, 5, 6, 7, 8, 9, 10, 11, 12, 13, 14, 15, 16, 17, 18, 19, 20, 21, 22, 23, 24, 25, 26, 27], [21, 28])])
def turnedR10.B : List Nat := [0, 0, 0, 0, 0, 16, 48, 0, 128, 384, 0, 1024, 3072, 0, 8192, 24576, 65520, 131056, 262128, 262128, 262128, 262128, 524273, 4718577, 13631475, 30408691, 65011703, 132120567, 268435455, 536870911]
theorem turnedR10.tab : rtab .any (opsOf Try.f27 10) = turnedR10.T := by kernel_rfl
theorem turnedR10.bits : waitsOk turnedR10.T.2 turnedR10.B = true := by kernel_rfl
set_option maxHeartbeats 1600000 in
set_option maxRecDepth 100000 in
theorem turned_any (s : List (BitVec 32)) (hs : s.length = 16) (w : World) :
    Calls Try.prog 27 #[.agg (wc s)] w fun e w' => e = .returned (.agg (wc (qAt s 80))) ∧ Below w.heap.size w w' := by
  have HS := Lib.hid hs
  have HZ := Lib.hid (show (wc s).size = 16 by rw [wc_size, hs])
  obtain ⟨A, hA⟩ : ∃ A, Hid (A = wc s) := ⟨_, rfl⟩
  rw [← hA.out] at HZ ⊢
  clear hs
  go_enter Try.func27, Try.ntmps27
  go_wp2_with fail
  go_loopw [8] (fun v wr => ∃ r : Nat, r ≤ 10 ∧ v = .int .i64 r ∧ Blk wr w.heap.size 41 (wc (qAt s (8 * r))) ∧ Blk wr (w.heap.size + 1) 41 (wc (List.replicate 16 0)) ∧ Below w.heap.size w wr) (fun v _ => 10 - (intOf v).toNat)
  case atStart => exact ⟨0, by omega, rfl, by rw [hA.out]; exact (Blk.new _ _ _).alloc _, Blk.new2 _ _ _ _, ((Below.refl w.heap.size w).alloc (Nat.le_refl _) _).alloc (by simp) _⟩
  case round =>
    obtain ⟨r, hr, rfl, hB, hZ, hG⟩ := hrel
    have HB := Lib.hid hB
    have HZ2 := Lib.hid hZ
    have HG := Lib.hid hG
    clear hB hZ hG
    by_cases hlt : r < 10
    · go_wp2_with fail
      go_loopw [10] (fun v wr => ∃ sh : Nat, sh ≤ 2 ∧ v = .int .i64 sh ∧ Blk wr w.heap.size 41 (wc (qAt s (8 * r + 4 * sh))) ∧ Blk wr (w.heap.size + 1) 41 (wc (List.replicate 16 0)) ∧ Below w.heap.size w wr) (fun v _ => 2 - (intOf v).toNat)
      case atStart => exact ⟨0, by omega, rfl, HB.out, HZ2.out, HG.out⟩
      case round =>
        clear HB HZ2 HG
        obtain ⟨sh, hsh, rfl, hB, hZ, hG⟩ := hrel
        have HB := Lib.hid hB
        have HZ2 := Lib.hid hZ
        have HG := Lib.hid hG
        clear hB hZ hG
        by_cases hlt2 : sh < 2
        · go_wp2_with fail
          go_loopw [13] (fun v wr => ∃ i : Nat, i ≤ 4 ∧ v = .int .i64 i ∧ Blk wr w.heap.size 41 (wc (qAt s (8 * r + 4 * sh + i))) ∧ Blk wr (w.heap.size + 1) 41 (wc (List.replicate 16 0)) ∧ Below w.heap.size w wr) (fun v _ => 4 - (intOf v).toNat)
          case atStart => exact ⟨0, by omega, rfl, HB.out, HZ2.out, HG.out⟩
          case round =>
            clear HB HZ2 HG
            obtain ⟨i, hi, rfl, hB, hZ, hG⟩ := hrel
            by_cases hlt3 : i < 4
            · obtain ⟨n, hn⟩ : ∃ n, Hid (n = 8 * r + 4 * sh + i) := ⟨_, rfl⟩
              rw [← hn.out] at hB
              have e0 : n % 4 = i := by have := hn.out; omega
              have e9 : n % 8 / 4 = sh := by have := hn.out; omega
              have e1 : (4 : Int) + ((i : Int) + (sh : Int)) % 4 = ((qb n : Nat) : Int) := by unfold qb; rw [e0, e9]; omega
              have e2 : (8 : Int) + ((i : Int) + 2 * (sh : Int)) % 4 = ((qc n : Nat) : Int) := by unfold qc; rw [e0, e9]; omega
              have e3 : (12 : Int) + ((i : Int) + 3 * (sh : Int)) % 4 = ((qd n : Nat) : Int) := by unfold qd; rw [e0, e9]; omega
              have HE := Lib.hid (And.intro e0 (And.intro e1 (And.intro e2 e3)))
              clear e0 e1 e2 e3 e9
              have HB := Lib.hid hB
              have HZ2 := Lib.hid hZ
              have HG := Lib.hid hG
              clear hB hZ hG
              go_wp2_with fail
              rw [HE.out.2.1, HE.out.2.2.1, HE.out.2.2.2]
              have hl16 : (qAt s n).length = 16 := by rw [qAt_length, HS.out]
              have b1 : 4 ≤ qb n ∧ qb n < 8 := by unfold qb; omega
              have b2 : 8 ≤ qc n ∧ qc n < 12 := by unfold qc; omega
              have b3 : 12 ≤ qd n ∧ qd n < 16 := by unfold qd; omega
              have c0 := (HB.out.cell i).trans (wc_get _ _ (by omega))
              have c1 := (HB.out.cell (qb n)).trans (wc_get _ _ (by omega))
              have c2 := (HB.out.cell (qc n)).trans (wc_get _ _ (by omega))
              have c3 := (HB.out.cell (qd n)).trans (wc_get _ _ (by omega))
              have f0 := HB.out.frozen i
              have f1 := HB.out.frozen (qb n)
              have f2 := HB.out.frozen (qc n)
              have f3 := HB.out.frozen (qd n)
              have q0 : 0 ≤ (i : Int) ∧ (i : Int) < 16 := by omega
              have q1 : 0 ≤ (qb n : Int) ∧ (qb n : Int) < 16 := by omega
              have q2 : 0 ≤ (qc n : Int) ∧ (qc n : Int) < 16 := by omega
              have q3 : 0 ≤ (qd n : Int) ∧ (qd n : Int) < 16 := by omega
              have n1 : ¬ i = qb n := by omega
              have n2 : ¬ i = qc n := by omega
              have n3 : ¬ i = qd n := by omega
              have n4 : ¬ qb n = qc n := by omega
              have n5 : ¬ qb n = qd n := by omega
              have n6 : ¬ qc n = qd n := by omega
              clear hl16 b1 b2 b3
              refine start_ (n := 30) (S := fun w' => w'.cell? ⟨w.heap.size, i, none⟩ = some (.int .u32 (n32 (wd (qAt s n) i))) ∧ w'.cell? ⟨w.heap.size, qb n, none⟩ = some (.int .u32 (n32 (wd (qAt s n) (qb n)))) ∧ w'.cell? ⟨w.heap.size, qc n, none⟩ = some (.int .u32 (n32 (wd (qAt s n) (qc n)))) ∧ w'.cell? ⟨w.heap.size, qd n, none⟩ = some (.int .u32 (n32 (wd (qAt s n) (qd n))))) (ds := [23, 25, 27, 29]) #[false, false, false, false, false, false, false, false, false, false, false, false, false, false, false, false, false, false, false, false, false, false, false, false, false, false, false, false, false, false] (by kernel_rfl) rfl rfl ⟨c0, c1, c2, c3⟩ (fun hHeld => ?_)
              refine with_tabW turnedR10.tab turnedR10.bits (fun HT_ HW_ => ?_)
              refine pure_ (i := 0) (N := some 34) (v := ?_) (a' := ?_) #[true, false, false, false, false, false, false, false, false, false, false, false, false, false, false, false, false, false, false, false, false, false, false, false, false, false, false, false, false, false] rfl rfl (any_of HT_.out (by kernel_rfl)) (fun _ _ _ h => h) (Or.inl ⟨by rfl, ?_⟩) ?_ ?_
              rotate_left
              · intro w'
                go_simp
                try with_reducible rfl
              rotate_left
              · simp only [Act.put, List.setIfInBounds_toArray, List.set_cons_zero, List.set_cons_succ]
                rfl
              refine pure_ (i := 1) (N := some 35) (v := ?_) (a' := ?_) #[true, true, false, false, false, false, false, false, false, false, false, false, false, false, false, false, false, false, false, false, false, false, false, false, false, false, false, false, false, false] rfl rfl (any_of HT_.out (by kernel_rfl)) (fun _ _ _ h => h) (Or.inl ⟨by rfl, ?_⟩) ?_ ?_
              rotate_left
              · intro w'
                go_simp
                try with_reducible rfl
              rotate_left
              · simp only [Act.put, List.setIfInBounds_toArray, List.set_cons_zero, List.set_cons_succ]
                rfl
              refine pure_ (i := 2) (N := some 36) (v := ?_) (a' := ?_) #[true, true, true, false, false, false, false, false, false, false, false, false, false, false, false, false, false, false, false, false, false, false, false, false, false, false, false, false, false, false] rfl rfl (any_of HT_.out (by kernel_rfl)) (fun _ _ _ h => h) (Or.inl ⟨by rfl, ?_⟩) ?_ ?_
              rotate_left
              · intro w'
                go_simp
                try with_reducible rfl
              rotate_left
              · simp only [Act.put, List.setIfInBounds_toArray, List.set_cons_zero, List.set_cons_succ]
                rfl
              refine pure_ (i := 3) (N := some 37) (v := ?_) (a' := ?_) #[true, true, true, true, false, false, false, false, false, false, false, false, false, false, false, false, false, false, false, false, false, false, false, false, false, false, false, false, false, false] rfl rfl (any_of HT_.out (by kernel_rfl)) (fun _ _ _ h => h) (Or.inl ⟨by rfl, ?_⟩) ?_ ?_
              rotate_left
              · intro w'
                go_simp
                try with_reducible rfl
              rotate_left
              · simp only [Act.put, List.setIfInBounds_toArray, List.set_cons_zero, List.set_cons_succ]
                rfl
              refine pure_ (i := 4) (N := some 38) (v := ?_) (a' := ?_) #[true, true, true, true, true, false, false, false, false, false, false, false, false, false, false, false, false, false, false, false, false, false, false, false, false, false, false, false, false, false] rfl rfl (any_of HT_.out (by kernel_rfl)) (fun _ _ _ h => h) (Or.inl ⟨by rfl, ?_⟩) ?_ ?_
              rotate_left
              · intro w'
                go_simp
                try with_reducible rfl
              rotate_left
              · simp only [Act.put, List.setIfInBounds_toArray, List.set_cons_zero, List.set_cons_succ]
                rfl
              refine pure_ (i := 5) (N := some 39) (v := ?_) (a' := ?_) #[true, true, true, true, true, true, false, false, false, false, false, false, false, false, false, false, false, false, false, false, false, false, false, false, false, false, false, false, false, false] rfl rfl (any_of HT_.out (by kernel_rfl)) (fun _ _ _ h => h) (Or.inl ⟨by rfl, ?_⟩) ?_ ?_
              rotate_left
              · intro w'
                go_simp
                try with_reducible rfl
              rotate_left
              · simp only [Act.put, List.setIfInBounds_toArray, List.set_cons_zero, List.set_cons_succ]
                rfl
              refine pure_ (i := 7) (N := some 41) (v := ?_) (a' := ?_) #[true, true, true, true, true, true, false, true, false, false, false, false, false, false, false, false, false, false, false, false, false, false, false, false, false, false, false, false, false, false] rfl rfl (any_of HT_.out (by kernel_rfl)) (fun _ _ _ h => h) (Or.inl ⟨by rfl, ?_⟩) ?_ ?_
              rotate_left
              · intro w'
                go_simp
                try with_reducible rfl
              rotate_left
              · simp only [Act.put, List.setIfInBounds_toArray, List.set_cons_zero, List.set_cons_succ]
                rfl
              refine pure_ (i := 8) (N := some 42) (v := ?_) (a' := ?_) #[true, true, true, true, true, true, false, true, true, false, false, false, false, false, false, false, false, false, false, false, false, false, false, false, false, false, false, false, false, false] rfl rfl (any_of HT_.out (by kernel_rfl)) (fun _ _ _ h => h) (Or.inl ⟨by rfl, ?_⟩) ?_ ?_
              rotate_left
              · intro w'
                go_simp
                try with_reducible rfl
              rotate_left
              · simp only [Act.put, List.setIfInBounds_toArray, List.set_cons_zero, List.set_cons_succ]
                rfl
              refine pure_ (i := 10) (N := some 44) (v := ?_) (a' := ?_) #[true, true, true, true, true, true, false, true, true, false, true, false, false, false, false, false, false, false, false, false, false, false, false, false, false, false, false, false, false, false] rfl rfl (any_of HT_.out (by kernel_rfl)) (fun _ _ _ h => h) (Or.inl ⟨by rfl, ?_⟩) ?_ ?_
              rotate_left
              · intro w'
                go_simp
                try with_reducible rfl
              rotate_left
              · simp only [Act.put, List.setIfInBounds_toArray, List.set_cons_zero, List.set_cons_succ]
                rfl
              refine pure_ (i := 11) (N := some 45) (v := ?_) (a' := ?_) #[true, true, true, true, true, true, false, true, true, false, true, true, false, false, false, false, false, false, false, false, false, false, false, false, false, false, false, false, false, false] rfl rfl (any_of HT_.out (by kernel_rfl)) (fun _ _ _ h => h) (Or.inl ⟨by rfl, ?_⟩) ?_ ?_
              rotate_left
              · intro w'
                go_simp
                try with_reducible rfl
              rotate_left
              · simp only [Act.put, List.setIfInBounds_toArray, List.set_cons_zero, List.set_cons_succ]
                rfl
              refine pure_ (i := 13) (N := some 47) (v := ?_) (a' := ?_) #[true, true, true, true, true, true, false, true, true, false, true, true, false, true, false, false, false, false, false, false, false, false, false, false, false, false, false, false, false, false] rfl rfl (any_of HT_.out (by kernel_rfl)) (fun _ _ _ h => h) (Or.inl ⟨by rfl, ?_⟩) ?_ ?_
              rotate_left
              · intro w'
                go_simp
                try with_reducible rfl
              rotate_left
              · simp only [Act.put, List.setIfInBounds_toArray, List.set_cons_zero, List.set_cons_succ]
                rfl
              refine pure_ (i := 14) (N := some 48) (v := ?_) (a' := ?_) #[true, true, true, true, true, true, false, true, true, false, true, true, false, true, true, false, false, false, false, false, false, false, false, false, false, false, false, false, false, false] rfl rfl (any_of HT_.out (by kernel_rfl)) (fun _ _ _ h => h) (Or.inl ⟨by rfl, ?_⟩) ?_ ?_
              rotate_left
              · intro w'
                go_simp
                try with_reducible rfl
              rotate_left
              · simp only [Act.put, List.setIfInBounds_toArray, List.set_cons_zero, List.set_cons_succ]
                rfl
              refine take_ (i := 6) (N := some 40) (v := ?_) (a' := ?_) #[true, true, true, true, true, true, true, true, true, false, true, true, false, true, true, false, false, false, false, false, false, false, false, false, false, false, false, false, false, false] rfl rfl (take_ofW HT_.out HW_.out (by kernel_rfl)) (fun _ _ _ h => h) (Or.inl ⟨by rfl, ?_⟩) hHeld ?_ ?_
              rotate_left
              · rintro w' ⟨s0, s1, s2, s3⟩
                go_simp
                try with_reducible rfl
              rotate_left
              · simp only [Act.put, List.setIfInBounds_toArray, List.set_cons_zero, List.set_cons_succ]
                rfl
              refine take_ (i := 9) (N := some 43) (v := ?_) (a' := ?_) #[true, true, true, true, true, true, true, true, true, true, true, true, false, true, true, false, false, false, false, false, false, false, false, false, false, false, false, false, false, false] rfl rfl (take_ofW HT_.out HW_.out (by kernel_rfl)) (fun _ _ _ h => h) (Or.inl ⟨by rfl, ?_⟩) hHeld ?_ ?_
              rotate_left
              · rintro w' ⟨s0, s1, s2, s3⟩
                go_simp
                try with_reducible rfl
              rotate_left
              · simp only [Act.put, List.setIfInBounds_toArray, List.set_cons_zero, List.set_cons_succ]
                rfl
              refine take_ (i := 12) (N := some 46) (v := ?_) (a' := ?_) #[true, true, true, true, true, true, true, true, true, true, true, true, true, true, true, false, false, false, false, false, false, false, false, false, false, false, false, false, false, false] rfl rfl (take_ofW HT_.out HW_.out (by kernel_rfl)) (fun _ _ _ h => h) (Or.inl ⟨by rfl, ?_⟩) hHeld ?_ ?_
              rotate_left
              · rintro w' ⟨s0, s1, s2, s3⟩
                go_simp
                try with_reducible rfl
              rotate_left
              · simp only [Act.put, List.setIfInBounds_toArray, List.set_cons_zero, List.set_cons_succ]
                rfl
              refine take_ (i := 15) (N := some 49) (v := ?_) (a' := ?_) #[true, true, true, true, true, true, true, true, true, true, true, true, true, true, true, true, false, false, false, false, false, false, false, false, false, false, false, false, false, false] rfl rfl (take_ofW HT_.out HW_.out (by kernel_rfl)) (fun _ _ _ h => h) (Or.inl ⟨by rfl, ?_⟩) hHeld ?_ ?_
              rotate_left
              · rintro w' ⟨s0, s1, s2, s3⟩
                go_simp
                try with_reducible rfl
              rotate_left
              · simp only [Act.put, List.setIfInBounds_toArray, List.set_cons_zero, List.set_cons_succ]
                rfl
              refine one_ (i := 16) (N := some 50) #[true, true, true, true, true, true, true, true, true, true, true, true, true, true, true, true, true, false, false, false, false, false, false, false, false, false, false, false, false, false] rfl rfl (one_of HT_.out (by kernel_rfl)) (by decide) (fun K hK => ?_)
              refine goes_ Try.func37 (by kernel_rfl) rfl #[.int .u32 (n32 (wd (qAt s n) i)), .int .u32 (n32 (wd (qAt s n) (qb n))), .int .u32 (n32 (wd (qAt s n) (qc n))), .int .u32 (n32 (wd (qAt s n) (qd n)))] (by rfl) rfl rfl (by first | done | rfl | (simp only [List.map_toArray, List.map_cons, List.map_nil]; rfl)) ?_
              refine (quarter_any (wd (qAt s n) i) (wd (qAt s n) (qb n)) (wd (qAt s n) (qc n)) (wd (qAt s n) (qd n)) _).mono ?_
              rintro e w' ⟨rfl, rfl⟩
              refine ⟨_, rfl, ?_⟩
              refine hK.out _ _ hHeld (fun hHeld => ?_)
              clear hK K
              refine norm_ (a' := ?_) ?_ ?_
              rotate_left
              · show Act.put _ (some 50) _ = _
                simp only [Act.put, List.setIfInBounds_toArray, List.set_cons_zero, List.set_cons_succ]
                rfl
              refine pure_ (i := 17) (N := some 33) (v := ?_) (a' := ?_) #[true, true, true, true, true, true, true, true, true, true, true, true, true, true, true, true, true, true, false, false, false, false, false, false, false, false, false, false, false, false] rfl rfl (any_of HT_.out (by kernel_rfl)) (fun _ _ _ h => h) (Or.inl ⟨by rfl, ?_⟩) ?_ ?_
              rotate_left
              · intro w'
                go_simp
                try with_reducible rfl
              rotate_left
              · simp only [Act.put, List.setIfInBounds_toArray, List.set_cons_zero, List.set_cons_succ]
                rfl
              refine pure_ (i := 18) (N := some 51) (v := ?_) (a' := ?_) #[true, true, true, true, true, true, true, true, true, true, true, true, true, true, true, true, true, true, true, false, false, false, false, false, false, false, false, false, false, false] rfl rfl (any_of HT_.out (by kernel_rfl)) (fun _ _ _ h => h) (Or.inl ⟨by rfl, ?_⟩) ?_ ?_
              rotate_left
              · intro w'
                go_simp
                try with_reducible rfl
              rotate_left
              · simp only [Act.put, List.setIfInBounds_toArray, List.set_cons_zero, List.set_cons_succ]
                rfl
              refine pure_ (i := 19) (N := some 52) (v := ?_) (a' := ?_) #[true, true, true, true, true, true, true, true, true, true, true, true, true, true, true, true, true, true, true, true, false, false, false, false, false, false, false, false, false, false] rfl rfl (any_of HT_.out (by kernel_rfl)) (fun _ _ _ h => h) (Or.inl ⟨by rfl, ?_⟩) ?_ ?_
              rotate_left
              · intro w'
                go_simp
                try with_reducible rfl
              rotate_left
              · simp only [Act.put, List.setIfInBounds_toArray, List.set_cons_zero, List.set_cons_succ]
                rfl
              refine pure_ (i := 20) (N := some 53) (v := ?_) (a' := ?_) #[true, true, true, true, true, true, true, true, true, true, true, true, true, true, true, true, true, true, true, true, true, false, false, false, false, false, false, false, false, false] rfl rfl (any_of HT_.out (by kernel_rfl)) (fun _ _ _ h => h) (Or.inl ⟨by rfl, ?_⟩) ?_ ?_
              rotate_left
              · intro w'
                go_simp
                try with_reducible rfl
              rotate_left
              · simp only [Act.put, List.setIfInBounds_toArray, List.set_cons_zero, List.set_cons_succ]
                rfl
              refine pure_ (i := 21) (N := some 54) (v := ?_) (a' := ?_) #[true, true, true, true, true, true, true, true, true, true, true, true, true, true, true, true, true, true, true, true, true, true, false, false, false, false, false, false, false, false] rfl rfl (any_of HT_.out (by kernel_rfl)) (fun _ _ _ h => h) (Or.inl ⟨by rfl, ?_⟩) ?_ ?_
              rotate_left
              · intro w'
                go_simp
                try with_reducible rfl
              rotate_left
              · simp only [Act.put, List.setIfInBounds_toArray, List.set_cons_zero, List.set_cons_succ]
                rfl
              refine pure_ (i := 22) (N := some 55) (v := ?_) (a' := ?_) #[true, true, true, true, true, true, true, true, true, true, true, true, true, true, true, true, true, true, true, true, true, true, true, false, false, false, false, false, false, false] rfl rfl (any_of HT_.out (by kernel_rfl)) (fun _ _ _ h => h) (Or.inl ⟨by rfl, ?_⟩) ?_ ?_
              rotate_left
              · intro w'
                go_simp
                try with_reducible rfl
              rotate_left
              · simp only [Act.put, List.setIfInBounds_toArray, List.set_cons_zero, List.set_cons_succ]
                rfl
              refine last_ (i := 23) (N := none) #[true, true, true, true, true, true, true, true, true, true, true, true, true, true, true, true, true, true, true, true, true, true, true, true, false, false, false, false, false, false] rfl rfl (one_of HT_.out (by kernel_rfl)) (by decide) (fun K hK => ?_)
              refine skip_ (w1 := ?_) (by rfl) rfl ?_ ?_
              rotate_left
              · go_simp
                try rfl
              refine hK.out _ _ ?_
              clear hK K
              refine pure_ (i := 24) (N := some 56) (v := ?_) (a' := ?_) #[true, true, true, true, true, true, true, true, true, true, true, true, true, true, true, true, true, true, true, true, true, true, true, true, true, false, false, false, false, false] rfl rfl (any_of HT_.out (by kernel_rfl)) (fun _ _ _ h => h) (Or.inl ⟨by rfl, ?_⟩) ?_ ?_
              rotate_left
              · intro w'
                go_simp
                try with_reducible rfl
              rotate_left
              · simp only [Act.put, List.setIfInBounds_toArray, List.set_cons_zero, List.set_cons_succ]
                rfl
              refine last_ (i := 25) (N := none) #[true, true, true, true, true, true, true, true, true, true, true, true, true, true, true, true, true, true, true, true, true, true, true, true, true, true, false, false, false, false] rfl rfl (one_of HT_.out (by kernel_rfl)) (by decide) (fun K hK => ?_)
              refine skip_ (w1 := ?_) (by rfl) rfl ?_ ?_
              rotate_left
              · go_simp
                try rfl
              refine hK.out _ _ ?_
              clear hK K
              refine pure_ (i := 26) (N := some 57) (v := ?_) (a' := ?_) #[true, true, true, true, true, true, true, true, true, true, true, true, true, true, true, true, true, true, true, true, true, true, true, true, true, true, true, false, false, false] rfl rfl (any_of HT_.out (by kernel_rfl)) (fun _ _ _ h => h) (Or.inl ⟨by rfl, ?_⟩) ?_ ?_
              rotate_left
              · intro w'
                go_simp
                try with_reducible rfl
              rotate_left
              · simp only [Act.put, List.setIfInBounds_toArray, List.set_cons_zero, List.set_cons_succ]
                rfl
              refine last_ (i := 27) (N := none) #[true, true, true, true, true, true, true, true, true, true, true, true, true, true, true, true, true, true, true, true, true, true, true, true, true, true, true, true, false, false] rfl rfl (one_of HT_.out (by kernel_rfl)) (by decide) (fun K hK => ?_)
              refine skip_ (w1 := ?_) (by rfl) rfl ?_ ?_
              rotate_left
              · go_simp
                try rfl
              refine hK.out _ _ ?_
              clear hK K
              refine pure_ (i := 28) (N := some 58) (v := ?_) (a' := ?_) #[true, true, true, true, true, true, true, true, true, true, true, true, true, true, true, true, true, true, true, true, true, true, true, true, true, true, true, true, true, false] rfl rfl (any_of HT_.out (by kernel_rfl)) (fun _ _ _ h => h) (Or.inl ⟨by rfl, ?_⟩) ?_ ?_
              rotate_left
              · intro w'
                go_simp
                try with_reducible rfl
              rotate_left
              · simp only [Act.put, List.setIfInBounds_toArray, List.set_cons_zero, List.set_cons_succ]
                rfl
              refine last_ (i := 29) (N := none) #[true, true, true, true, true, true, true, true, true, true, true, true, true, true, true, true, true, true, true, true, true, true, true, true, true, true, true, true, true, true] rfl rfl (one_of HT_.out (by kernel_rfl)) (by decide) (fun K hK => ?_)
              refine skip_ (w1 := ?_) (by rfl) rfl ?_ ?_
              rotate_left
              · go_simp
                try rfl
              refine hK.out _ _ ?_
              clear hK K
              refine done_ (done_of HT_.out (by kernel_rfl)) ?_
              clear HT_ HW_ hHeld
              have hfin : Blk ((((wr.setCell ⟨w.heap.size, i, none⟩ (.int .u32 (n32 (quart (wd (qAt s n) i) (wd (qAt s n) (qb n)) (wd (qAt s n) (qc n)) (wd (qAt s n) (qd n))).a))).setCell ⟨w.heap.size, qb n, none⟩ (.int .u32 (n32 (quart (wd (qAt s n) i) (wd (qAt s n) (qb n)) (wd (qAt s n) (qc n)) (wd (qAt s n) (qd n))).b))).setCell ⟨w.heap.size, qc n, none⟩ (.int .u32 (n32 (quart (wd (qAt s n) i) (wd (qAt s n) (qb n)) (wd (qAt s n) (qc n)) (wd (qAt s n) (qd n))).c))).setCell ⟨w.heap.size, qd n, none⟩ (.int .u32 (n32 (quart (wd (qAt s n) i) (wd (qAt s n) (qb n)) (wd (qAt s n) (qc n)) (wd (qAt s n) (qd n))).d))) w.heap.size 41 (wc (qAt s (8 * r + 4 * sh + (i + 1)))) := by
                have h := (((HB.out.set_ i (.int .u32 (n32 (quart (wd (qAt s n) i) (wd (qAt s n) (qb n)) (wd (qAt s n) (qc n)) (wd (qAt s n) (qd n))).a))).set_ (qb n) (.int .u32 (n32 (quart (wd (qAt s n) i) (wd (qAt s n) (qb n)) (wd (qAt s n) (qc n)) (wd (qAt s n) (qd n))).b))).set_ (qc n) (.int .u32 (n32 (quart (wd (qAt s n) i) (wd (qAt s n) (qb n)) (wd (qAt s n) (qc n)) (wd (qAt s n) (qd n))).c))).set_ (qd n) (.int .u32 (n32 (quart (wd (qAt s n) i) (wd (qAt s n) (qb n)) (wd (qAt s n) (qc n)) (wd (qAt s n) (qd n))).d))
                rw [wc_set, wc_set, wc_set, wc_set] at h
                rw [show 8 * r + 4 * sh + (i + 1) = n + 1 by have := hn.out; omega, qAt, HE.out.1]
                exact h
              have HF := Lib.hid hfin
              clear hfin c0 c1 c2 c3 f0 f1 f2 f3 n1 n2 n3 n4 n5 n6 q0 q1 q2 q3
              go_wp2_with fail
              go_roundw
              case rel => exact ⟨i + 1, by omega, by go_num, HF.out.drew, ((((HZ2.out.far (by simp) _).far (by simp) _).far (by simp) _).far (by simp) _).drew, ((((HG.out.setCell (Nat.le_refl _) _).setCell (Nat.le_refl _) _).setCell (Nat.le_refl _) _).setCell (Nat.le_refl _) _).drew⟩
              case measure => simp [intOf]; omega
            · obtain rfl : i = 4 := by omega
              rw [show ((4 : Nat) : Int) = 4 from rfl]
              have HB := Lib.hid (show Blk wr w.heap.size 41 (wc (qAt s (8 * r + 4 * (sh + 1)))) by rw [show 8 * r + 4 * (sh + 1) = 8 * r + 4 * sh + 4 by omega]; exact hB)
              have HZ2 := Lib.hid hZ
              have HG := Lib.hid hG
              clear hB hZ hG
              go_wp2_with fail
              go_roundw
              case rel => exact ⟨sh + 1, by omega, by go_num, HB.out, HZ2.out, HG.out⟩
              case measure => simp [intOf]; omega
        · obtain rfl : sh = 2 := by omega
          rw [show ((2 : Nat) : Int) = 2 from rfl]
          have HB1 := Lib.hid (show Blk wr w.heap.size 41 (wc (qAt s (8 * (r + 1)))) by rw [show 8 * (r + 1) = 8 * r + 4 * 2 by omega]; exact HB.out)
          clear HB
          go_wp2_with fail
          go_roundw
          case rel => exact ⟨r + 1, by omega, by go_num, HB1.out, HZ2.out, HG.out⟩
          case measure => simp [intOf]; omega
    · obtain rfl : r = 10 := by omega
      rw [show ((10 : Nat) : Int) = 10 from rfl]
      have HS2 := Lib.hid (show (wc (qAt s 80)).size = 16 by rw [wc_size, qAt_length, HS.out])
      have HB1 := Lib.hid (show Blk wr w.heap.size 41 (wc (qAt s 80)) from HB.out)
      clear HB
      obtain ⟨S, hS⟩ : ∃ S, Hid (S = wc (qAt s 80)) := ⟨_, rfl⟩
      rw [← hS.out] at HB1 HS2
      go_wp2_with (first
        | (refine wpList_load_blk (t := 41) rfl 41 (.tmp 1) rfl w.heap.size rfl HB1.out Try.underlying41 rfl (by rw [HS2.out]; kernel_rfl) ?_)
        | (refine wpList_store_blk (t := 41) rfl 41 (.tmp 2) (.tmp 62) rfl (w.heap.size + 1) S rfl rfl HZ2.out (by rw [HS2.out]; rfl) (by rw [HS2.out]; kernel_rfl) (by rw [hS.out]; exact oneCells _) ?_; intro w2 hB2 hG2))
      have HB2 := Lib.hid hB2
      have HG2 := Lib.hid hG2
      clear hB2 hG2
      go_wp2
      rw [← hS.out]
      exact bodyPost_ret (results_cell_row rfl _ _ (w.heap.size + 1) 41 _ (0, 0) _ rfl HB2.out Try.underlying41 rfl (by rw [HS2.out]; kernel_rfl)) rfl ⟨rfl, below_of_only HG.out HG2.out (by omega) (HG.out.size)⟩
end Go.Proofs.Ytomflcpebnebpaa

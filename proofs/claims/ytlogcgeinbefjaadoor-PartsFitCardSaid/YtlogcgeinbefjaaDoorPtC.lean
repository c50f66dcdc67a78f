/- The queue's cut. -/
import Derived.Test.YtlogcgeinbefjaaDoorPtQ
namespace Go.Proofs.YtlogcgeinbefjaaDoor
open Go.RowKit Go.Proofs.YtlogcgeinbefjaaDoorW.PrintWords Go.Proofs.YtlogcgeinbefjaaDoorW.PrintLast
set_option linter.unusedSimpArgs false
set_option linter.unusedVariables false
set_option maxRecDepth 20000
def cut0.T : Bool × List (List Nat × List Nat) := (true, [([], []), ([], []), ([1], [1]), ([2], [2]), ([3], [3]), ([], []), ([4, 5], [4, 5]), ([], []), ([7], [7]), ([8], [8]), ([9], [9]), ([], []), ([11], [11]), ([10, 12], [10, 12]), ([6, 13], [6, 13]), ([14], [14]), ([0, 0, 1, 2, 3, 4, 5, 6, 7, 8, 9, 10, 11, 12, 13, 14, 15], [0]), ([16, 0, 1, 2, 3, 4, 5, 6, 7, 8, 9, 10, 11, 12, 13, 14, 15], [16]), ([17, 15, 15, 0, 1, 2, 3, 4, 5, 6, 7, 8, 9, 10, 11, 12, 13, 14, 15], [15, 17])])
def cut0.B : List Nat := [0, 0, 2, 6, 14, 0, 62, 0, 128, 384, 896, 0, 2048, 8064, 16382, 32766, 65535, 131071, 262143]
theorem cut0.tab : rtab .any (opsOf Tryd.f26 0) = cut0.T := by kernel_rfl
theorem cut0.bits : waitsOk cut0.T.2 cut0.B = true := by kernel_rfl
section
variable {e : TypeId} {w : World} {B : Nat} {A : Option Addr} {c : Nat} {xs : List Value}
theorem Win.take (h : Win e w B (.slice A xs.length c) xs) (k : Nat) (hk : k ≤ xs.length) : Win e w B (.slice A k c) (xs.take k) := by
  have hl : (xs.take k).length = k := by rw [List.length_take]; omega
  rcases h with ⟨h0, rfl⟩ | ⟨b, off, cap, cur, h0, g1, g2, g3, g4, g5, g6⟩
  · injection h0 with h1 h2 h3
    subst h1; subst h3
    have : k = 0 := by simpa using hk
    subst this
    exact Win.nil e w B
  · injection h0 with h1 h2 h3
    subst h1; subst h3
    refine .inr ⟨b, off, c, cur, by rw [hl], g1, g2, g3, by rw [hl]; omega, g5, fun i hi => ?_⟩
    rw [hl] at hi
    rw [g6 i (by omega), List.getElem?_take_of_lt hi]
theorem Win.drop (h : Win e w B (.slice A xs.length c) xs) (k : Nat) (hk : k ≤ xs.length) (h0 : xs ≠ []) : ∃ b off, A = some ⟨b, off, none⟩ ∧ Win e w B (.slice (some ⟨b, if c = k then off else off + k, none⟩) (xs.length - k) (c - k)) (xs.drop k) := by
  rcases h with ⟨_, hx⟩ | ⟨b, off, cap, cur, hx, g1, g2, g3, g4, g5, g6⟩
  · exact absurd hx h0
  · injection hx with h1 h2 h3
    subst h1; subst h3
    refine ⟨b, off, rfl, .inr ⟨b, _, c - k, cur, by rw [List.length_drop], g1, g2, ?_, by rw [List.length_drop]; omega, by omega, fun i hi => ?_⟩⟩
    · split <;> omega
    · rw [List.length_drop] at hi
      rw [if_neg (by omega), List.getElem?_drop, ← g6 (k + i) (by omega), Nat.add_assoc]
end
theorem Win.mono {e : TypeId} {w : World} {B B' : Nat} {v : Value} {xs : List Value} (h : Win e w B v xs) (hb : B' ≤ B) : Win e w B' v xs := by
  rcases h with h | ⟨b, off, cap, cur, h0, g1, g⟩
  · exact .inl h
  · exact .inr ⟨b, off, cap, cur, h0, Nat.le_trans hb g1, g⟩
structure CutM (B j : Nat) (a : Int) (vN : Value) (m : Nat) (v : Value) (xs : List Nat) (w w' : World) (e : Ending) : Prop where
  e : e = .returned (.tuple #[])
  r : ∃ v', Blk w' j 63 #[.int .i64 (m : Nat), v', .int .i64 a, vN] ∧ Win 70 w' B v' (ptrN xs) ∧ Kp (fun i => i = j) w w' ∧ ∀ b, v'.ownBlock = some b → w.heap.size ≤ b
set_option maxHeartbeats 1600000 in
theorem cutM_any (B j : Nat) (a : Int) (vN v : Value) (m : Nat) (xs : List Nat) (k : Nat) (w : World) (hj : Blk w j 63 #[.int .i64 (m : Nat), v, .int .i64 a, vN]) (hB : B ≤ w.heap.size) (hW : Win 70 w B v (ptrN xs)) (hk : k < xs.length) (hx : xs.length ≤ 1024) :
    Calls Tryd.prog 26 #[.pointer (some ⟨j, 0, none⟩), .int .i64 (k : Nat)] w fun e w' => CutM B j a vN m v (xs.eraseIdx k) w w' e := by
  obtain ⟨A, c, hv, hc1, hc2⟩ := hW.form
  subst hv
  have HT := Lib.hid (hW.take k (by rw [ptrN_length]; omega))
  obtain ⟨b, off, hA, hD⟩ := hW.drop (k + 1) (by rw [ptrN_length]; omega) (by intro h; have := congrArg List.length h; rw [ptrN_length, List.length_nil] at this; omega)
  subst hA
  have HJ := Lib.hid hj
  have HB := Lib.hid hB
  have c1 : w.drew.cell? ⟨j, 1, none⟩ = some (.slice (some ⟨b, off, none⟩) (ptrN xs).length c) := hj.cell 1
  rw [ptrN_length] at hD hc1 c1
  have HD := Lib.hid hD
  obtain ⟨n, hn⟩ : ∃ n, Hid (xs.length = n) := ⟨_, Lib.hid rfl⟩
  obtain ⟨k1, hk1⟩ : ∃ n, Hid (k + 1 = n) := ⟨_, Lib.hid rfl⟩
  rw [hn.out] at HD hc1 c1 hx hk
  rw [hk1.out] at HD
  have e1 : 0 ≤ (k : Int) ∧ (k : Int) ≤ (n : Int) ∧ (k : Int) ≤ (c : Int) := by omega
  have e2 : (k : Int) + 1 = (k1 : Int) := by have := hk1.out; omega
  have e3 : 0 ≤ (k1 : Int) ∧ (k1 : Int) ≤ (n : Int) ∧ (n : Int) ≤ (c : Int) := by have := hk1.out; omega
  have hw1 : IntKind.i64.wrap (k1 : Int) = (k1 : Int) := by rw [IntKind.wrap_i64]; omega
  obtain ⟨off2, ho2⟩ : ∃ o, Hid ((if c = k1 then off else off + k1) = o) := ⟨_, Lib.hid rfl⟩
  have hif : (if c = k1 then some (⟨b, off, none⟩ : Addr) else some ⟨b, off + k1, none⟩) = some ⟨b, off2, none⟩ := by
    rw [← ho2.out]; split <;> rfl
  rw [ho2.out] at HD
  have hle : k1 ≤ n ∧ k ≤ n := by have := hk1.out; omega
  rw [ptrN_length, hn.out] at HJ
  have hl1 : ((ptrN xs).take k).length = k := by rw [List.length_take, ptrN_length, hn.out]; omega
  have hl2 : ((ptrN xs).drop k1).length = n - k1 := by rw [List.length_drop, ptrN_length, hn.out]
  have hl3 : (ptrN (xs.eraseIdx k)).length = n - 1 := by rw [ptrN_length, List.length_eraseIdx, hn.out, if_pos hk]
  have hcat : (ptrN xs).take k ++ (ptrN xs).drop k1 = ptrN (xs.eraseIdx k) := by
    rw [← hk1.out, List.eraseIdx_eq_take_drop_succ]; simp [ptrN, List.map_take, List.map_drop]
  have hbd : Below w.heap.size w (w.drew.alloc (.cells #[.slice (some ⟨b, off, none⟩) k c, .slice (some ⟨b, off2, none⟩) (n - k1) (c - k1)] 57)) := (below_drewN (Below.refl w.heap.size w) 1).alloc (Nat.le_refl _) _
  have HC := Lib.hid ((concat_any B w.heap.size ((ptrN xs).take k) ((ptrN xs).drop k1) (some ⟨b, off, none⟩) (some ⟨b, off2, none⟩) c (c - k1) (w.drew.alloc (.cells #[.slice (some ⟨b, off, none⟩) k c, .slice (some ⟨b, off2, none⟩) (n - k1) (c - k1)] 57)) (by rw [hl1, hl2]; exact Blk.new w.drew _ _) (by rw [hl1]; exact HT.out.below hbd) (by rw [hl2]; exact HD.out.below hbd)
    (fun u hu => ptrN_one _ u (List.mem_of_mem_take hu)) (fun u hu => ptrN_one _ u (List.mem_of_mem_drop hu)) (by omega) (by omega)).mono (R' := fun e w' => ∃ G gc, e = .returned (.slice G (n - 1) gc) ∧ Hid (Win 70 w' w.heap.size (.slice G (n - 1) gc) (ptrN (xs.eraseIdx k))) ∧ Hid (Below w.heap.size w w') ∧ w'.cell? ⟨j, 1, none⟩ = some (.slice (some ⟨b, off, none⟩) n c) ∧ w'.frozen? ⟨j, 1, none⟩ = false) (by
    rintro e w' ⟨r, rfl, hr, hb⟩
    rw [hcat] at hr
    obtain ⟨G, gc, rfl, _, _⟩ := hr.form
    rw [hl3] at hr ⊢
    have hb2 := hbd.trans (hb.mono hbd.size)
    exact ⟨G, gc, rfl, Lib.hid (hr.mono hbd.size), Lib.hid hb2, (HJ.out.below hb2 HJ.out.lt).cell 1, (HJ.out.below hb2 HJ.out.lt).frozen 1⟩))
  clear hj hB hW hD hl1 hl2 hl3 hcat hbd
  go_enter Tryd.func26, Tryd.ntmps26
  go_upto_region 0 with fail
  refine start_ (n := 19) (S := fun w' => w'.cell? ⟨j, 1, none⟩ = some (.slice (some ⟨b, off, none⟩) n c)) (ds := [18]) #[false, false, false, false, false, false, false, false, false, false, false, false, false, false, false, false, false, false, false] (by kernel_rfl) rfl rfl c1 (fun hHeld => ?_)
  refine with_tabW cut0.tab cut0.bits (fun HT_ HW_ => ?_)
  refine pure_ (i := 0) (N := some 4) (v := ?_) (a' := ?_) #[true, false, false, false, false, false, false, false, false, false, false, false, false, false, false, false, false, false, false] rfl rfl (any_of HT_.out (by kernel_rfl)) (fun _ _ _ h => h) (Or.inl ⟨by rfl, ?_⟩) ?_ ?_
  rotate_left
  · intro w'
    go_simp
    try with_reducible rfl
  rotate_left
  · simp only [Act.put, List.setIfInBounds_toArray, List.set_cons_zero, List.set_cons_succ]
    rfl
  refine pure_ (i := 1) (N := some 5) (v := ?_) (a' := ?_) #[true, true, false, false, false, false, false, false, false, false, false, false, false, false, false, false, false, false, false] rfl rfl (any_of HT_.out (by kernel_rfl)) (fun _ _ _ h => h) (Or.inl ⟨by rfl, ?_⟩) ?_ ?_
  rotate_left
  · intro w'
    go_simp
    try with_reducible rfl
  rotate_left
  · simp only [Act.put, List.setIfInBounds_toArray, List.set_cons_zero, List.set_cons_succ]
    rfl
  refine pure_ (i := 2) (N := some 6) (v := ?_) (a' := ?_) #[true, true, true, false, false, false, false, false, false, false, false, false, false, false, false, false, false, false, false] rfl rfl (any_of HT_.out (by kernel_rfl)) (fun _ _ _ h => h) (Or.inl ⟨by rfl, ?_⟩) ?_ ?_
  rotate_left
  · intro w'
    go_simp
    try with_reducible rfl
  rotate_left
  · simp only [Act.put, List.setIfInBounds_toArray, List.set_cons_zero, List.set_cons_succ]
    rfl
  refine pure_ (i := 3) (N := some 7) (v := ?_) (a' := ?_) #[true, true, true, true, false, false, false, false, false, false, false, false, false, false, false, false, false, false, false] rfl rfl (any_of HT_.out (by kernel_rfl)) (fun _ _ _ h => h) (Or.inl ⟨by rfl, ?_⟩) ?_ ?_
  rotate_left
  · intro w'
    go_simp
    try with_reducible rfl
  rotate_left
  · simp only [Act.put, List.setIfInBounds_toArray, List.set_cons_zero, List.set_cons_succ]
    rfl
  refine pure_ (i := 5) (N := some 9) (v := ?_) (a' := ?_) #[true, true, true, true, false, true, false, false, false, false, false, false, false, false, false, false, false, false, false] rfl rfl (any_of HT_.out (by kernel_rfl)) (fun _ _ _ h => h) (Or.inl ⟨by rfl, ?_⟩) ?_ ?_
  rotate_left
  · intro w'
    go_simp
    try with_reducible rfl
  rotate_left
  · simp only [Act.put, List.setIfInBounds_toArray, List.set_cons_zero, List.set_cons_succ]
    rfl
  refine pure_ (i := 7) (N := some 11) (v := ?_) (a' := ?_) #[true, true, true, true, false, true, false, true, false, false, false, false, false, false, false, false, false, false, false] rfl rfl (any_of HT_.out (by kernel_rfl)) (fun _ _ _ h => h) (Or.inl ⟨by rfl, ?_⟩) ?_ ?_
  rotate_left
  · intro w'
    go_simp
    try with_reducible rfl
  rotate_left
  · simp only [Act.put, List.setIfInBounds_toArray, List.set_cons_zero, List.set_cons_succ]
    rfl
  refine pure_ (i := 8) (N := some 12) (v := ?_) (a' := ?_) #[true, true, true, true, false, true, false, true, true, false, false, false, false, false, false, false, false, false, false] rfl rfl (any_of HT_.out (by kernel_rfl)) (fun _ _ _ h => h) (Or.inl ⟨by rfl, ?_⟩) ?_ ?_
  rotate_left
  · intro w'
    go_simp
    try with_reducible rfl
  rotate_left
  · simp only [Act.put, List.setIfInBounds_toArray, List.set_cons_zero, List.set_cons_succ]
    rfl
  refine pure_ (i := 9) (N := some 13) (v := ?_) (a' := ?_) #[true, true, true, true, false, true, false, true, true, true, false, false, false, false, false, false, false, false, false] rfl rfl (any_of HT_.out (by kernel_rfl)) (fun _ _ _ h => h) (Or.inl ⟨by rfl, ?_⟩) ?_ ?_
  rotate_left
  · intro w'
    go_simp
    try with_reducible rfl
  rotate_left
  · simp only [Act.put, List.setIfInBounds_toArray, List.set_cons_zero, List.set_cons_succ]
    rfl
  refine pure_ (i := 11) (N := some 15) (v := ?_) (a' := ?_) #[true, true, true, true, false, true, false, true, true, true, false, true, false, false, false, false, false, false, false] rfl rfl (any_of HT_.out (by kernel_rfl)) (fun _ _ _ h => h) (Or.inl ⟨by rfl, ?_⟩) ?_ ?_
  rotate_left
  · intro w'
    go_simp
    try with_reducible rfl
  rotate_left
  · simp only [Act.put, List.setIfInBounds_toArray, List.set_cons_zero, List.set_cons_succ]
    rfl
  refine pure_ (i := 12) (N := some 16) (v := ?_) (a' := ?_) #[true, true, true, true, false, true, false, true, true, true, false, true, true, false, false, false, false, false, false] rfl rfl (any_of HT_.out (by kernel_rfl)) (fun _ _ _ h => h) (Or.inl ⟨by rfl, ?_⟩) ?_ ?_
  rotate_left
  · intro w'
    go_simp
    try with_reducible rfl
  rotate_left
  · simp only [Act.put, List.setIfInBounds_toArray, List.set_cons_zero, List.set_cons_succ]
    rfl
  refine take_ (i := 4) (N := some 8) (v := ?_) (a' := ?_) #[true, true, true, true, true, true, false, true, true, true, false, true, true, false, false, false, false, false, false] rfl rfl (take_ofW HT_.out HW_.out (by kernel_rfl)) (fun _ _ _ h => h) (Or.inl ⟨by rfl, ?_⟩) hHeld ?_ ?_
  rotate_left
  · rintro w' s0
    go_simp
    try with_reducible rfl
  rotate_left
  · simp only [Act.put, List.setIfInBounds_toArray, List.set_cons_zero, List.set_cons_succ]
    rfl
  refine pure_ (i := 6) (N := some 10) (v := ?_) (a' := ?_) #[true, true, true, true, true, true, true, true, true, true, false, true, true, false, false, false, false, false, false] rfl rfl (any_of HT_.out (by kernel_rfl)) (fun _ _ _ h => h) (Or.inl ⟨by rfl, ?_⟩) ?_ ?_
  rotate_left
  · intro w'
    go_simp
    try with_reducible rfl
  rotate_left
  · simp only [Act.put, List.setIfInBounds_toArray, List.set_cons_zero, List.set_cons_succ]
    rfl
  refine take_ (i := 10) (N := some 14) (v := ?_) (a' := ?_) #[true, true, true, true, true, true, true, true, true, true, true, true, true, false, false, false, false, false, false] rfl rfl (take_ofW HT_.out HW_.out (by kernel_rfl)) (fun _ _ _ h => h) (Or.inl ⟨by rfl, ?_⟩) hHeld ?_ ?_
  rotate_left
  · rintro w' s0
    go_simp
    try with_reducible rfl
  rotate_left
  · simp only [Act.put, List.setIfInBounds_toArray, List.set_cons_zero, List.set_cons_succ]
    rfl
  refine pure_ (i := 13) (N := some 17) (v := ?_) (a' := ?_) #[true, true, true, true, true, true, true, true, true, true, true, true, true, true, false, false, false, false, false] rfl rfl (any_of HT_.out (by kernel_rfl)) (fun _ _ _ h => h) (Or.inl ⟨by rfl, ?_⟩) ?_ ?_
  rotate_left
  · intro w'
    go_simp
    try with_reducible rfl
  rotate_left
  · simp only [Act.put, List.setIfInBounds_toArray, List.set_cons_zero, List.set_cons_succ]
    rfl
  refine one_ (i := 14) (N := some 18) #[true, true, true, true, true, true, true, true, true, true, true, true, true, true, true, false, false, false, false] rfl rfl (one_of HT_.out (by kernel_rfl)) (by decide) (fun K hK => ?_)
  refine value_ (w1 := ?_) (v := ?_) (by rfl) rfl ?_ ?_
  rotate_left 2
  · go_simp
    constructor
    · rfl
    · rfl
  refine hK.out _ _ ((HJ.out.drew.alloc _).cell 1) (fun hHeld => ?_)
  clear hK K
  refine norm_ (a' := ?_) ?_ ?_
  rotate_left
  · show Act.put _ (some 18) _ = _
    simp only [Act.put, List.setIfInBounds_toArray, List.set_cons_zero, List.set_cons_succ]
    rfl
  refine one_ (i := 15) (N := some 19) #[true, true, true, true, true, true, true, true, true, true, true, true, true, true, true, true, false, false, false] rfl rfl (one_of HT_.out (by kernel_rfl)) (by decide) (fun K hK => ?_)
  refine goes_ Tryd.func36 (by kernel_rfl) rfl #[.slice (some ⟨w.heap.size, 0, none⟩) 2 2] (by rfl) rfl rfl (by first | done | rfl | (simp only [List.map_toArray, List.map_cons, List.map_nil]; done) | (simp only [List.map_toArray, List.map_cons, List.map_nil]; rfl)) ?_
  refine (HC.out).mono ?_
  rintro e' w4 ⟨G, gc, rfl, W4, B4, s4, f4⟩
  refine ⟨_, rfl, ?_⟩
  refine hK.out _ _ (s4) (fun hHeld => ?_)
  clear hK K
  refine norm_ (a' := ?_) ?_ ?_
  rotate_left
  · show Act.put _ (some 19) _ = _
    simp only [Act.put, List.setIfInBounds_toArray, List.set_cons_zero, List.set_cons_succ]
    rfl
  refine pure_ (i := 16) (N := some 20) (v := ?_) (a' := ?_) #[true, true, true, true, true, true, true, true, true, true, true, true, true, true, true, true, true, false, false] rfl rfl (any_of HT_.out (by kernel_rfl)) (fun _ _ _ h => h) (Or.inl ⟨by rfl, ?_⟩) ?_ ?_
  rotate_left
  · intro w'
    go_simp
    try with_reducible rfl
  rotate_left
  · simp only [Act.put, List.setIfInBounds_toArray, List.set_cons_zero, List.set_cons_succ]
    rfl
  refine pure_ (i := 17) (N := some 21) (v := ?_) (a' := ?_) #[true, true, true, true, true, true, true, true, true, true, true, true, true, true, true, true, true, true, false] rfl rfl (any_of HT_.out (by kernel_rfl)) (fun _ _ _ h => h) (Or.inl ⟨by rfl, ?_⟩) ?_ ?_
  rotate_left
  · intro w'
    go_simp
    try with_reducible rfl
  rotate_left
  · simp only [Act.put, List.setIfInBounds_toArray, List.set_cons_zero, List.set_cons_succ]
    rfl
  refine last_ (i := 18) (N := none) #[true, true, true, true, true, true, true, true, true, true, true, true, true, true, true, true, true, true, true] rfl rfl (one_of HT_.out (by kernel_rfl)) (by decide) (fun K hK => ?_)
  refine skip_ (w1 := ?_) (by rfl) rfl ?_ ?_
  rotate_left
  · go_simp
    try rfl
  refine hK.out _ _ ?_
  clear hK K
  refine done_ (done_of HT_.out (by kernel_rfl)) ?_
  clear HT_ HW_
  go_end0
  refine ⟨rfl, _, (HJ.out.below B4.out HJ.out.lt).set_ 1 _, (W4.out.mono HB.out).kp (Kp.set_ (S := fun i => i = j) rfl _ _) (fun b h e => ?_), (Kp.of_below B4.out).trans (Kp.set_ (S := fun i => i = j) rfl _ _), fun b h => (W4.out.typed b h).1⟩
  have h1 := (W4.out.typed b h).1
  have h2 := HJ.out.lt
  subst e
  omega
end Go.Proofs.YtlogcgeinbefjaaDoor

/- The law DiskTears. -/
import Derived.Test.YtbbmhcloigphjaaDkAm
namespace Go.Proofs.Ytbbmhcloigphjaa
open Go.RowKit Go.Proofs.YtbbmhcloigphjaaW.PrintWords Go.Proofs.YtbbmhcloigphjaaW.PrintLast
set_option linter.unusedSimpArgs false
set_option linter.unusedVariables false
section
variable (a b : List UInt8) (pick : Int)
def tD1 : Dk := (Dk.new 2).put 0 a
def tD2 : Dk := (tD1 a).put 1 a
def tD3 : Dk := { tD2 a with w := [] }
def tD4 : Dk := (tD3 a).put 0 b
def tD5 : Dk := (tD4 a b).crash [pick]
theorem tears0 : (tD5 a b pick).l.getD 0 [] = b.take (amL pick 65) ++ a.drop (amL pick 65) := rfl
theorem tears1 : (tD5 a b pick).l.getD 1 [] = a := rfl
end
theorem dk_take (l : List UInt8) (n : Nat) : (⟨l.toArray⟩ : ByteArray).extract 0 n = ⟨(l.take n).toArray⟩ := by
  rw [extract_mid]; simp
theorem dk_cat (x y : List UInt8) : (⟨x.toArray⟩ : ByteArray) ++ ⟨y.toArray⟩ = ⟨(x ++ y).toArray⟩ := by
  apply ByteArray.ext; simp [ByteArray.data_append]
def T15.T : Bool × List (List Nat × List Nat) := (true, [([], []), ([0], [0]), ([1], [1]), ([2], [2]), ([3, 2], [2, 3]), ([2, 4], [2, 4]), ([5, 2], [5]), ([6], [6]), ([6], [6]), ([6], [6]), ([8, 9, 6], [6, 8, 9]), ([6], [6]), ([6], [6]), ([11, 12, 6], [6, 11, 12]), ([10, 13, 6], [6, 10, 13]), ([7, 14, 6], [6, 7, 14]), ([6, 15], [6, 15]), ([16, 6], [16]), ([17], [17]), ([17], [17]), ([18, 19, 17], [17, 18, 19]), ([17, 20], [17, 20]), ([21, 17, 0, 1, 2, 3, 4, 5, 6, 7, 8, 9, 10, 11, 12, 13, 14, 15, 16, 17, 18, 19, 20, 21], [21])])
def T15.B : List Nat := [0, 1, 3, 7, 15, 31, 63, 127, 127, 127, 895, 127, 127, 6271, 16255, 32767, 65535, 131071, 262143, 262143, 1048575, 2097151, 4194303]
theorem T15.tab : rtab .any (opsOf Try.f4 15) = T15.T := by kernel_rfl
theorem T15.bits : waitsOk T15.T.2 T15.B = true := by kernel_rfl
set_option maxHeartbeats 1600000 in
theorem law_DiskTears (old fresh : List UInt8) (pick : Int) (w : World) (_ : old.length ≤ 140737488351232) (_ : fresh.length ≤ 140737488351232) :
    Calls Try.prog 4 #[.string ⟨old.toArray⟩, .string ⟨fresh.toArray⟩, .int .i64 pick] w fun e w' => e = .returned (.bool true) ∧ Below w.heap.size w w' := by
  go_enter Try.func4, Try.ntmps4
  go_wp2_with fail
  refine (new_any 2 (by decide) (by decide) w).mono ?_
  rintro e w1 ⟨g, rfl, D, b_⟩
  have D1 := Lib.hid D
  have F1 := Lib.hid (Fr.of b_ (Nat.le_refl _))
  clear D b_
  go_wp2_with fail
  refine (works_any w1).mono ?_
  rintro e w2 ⟨rfl, b_⟩
  have D2 := Lib.hid (D1.out.below b_)
  have F2 := Lib.hid (F1.out.below b_ D1.out.hB)
  clear b_ F1 D1
  go_wp2_with fail
  refine (sector_any old w2).mono ?_
  rintro e w3 ⟨rfl, b_⟩
  have D3 := Lib.hid (D2.out.below b_)
  have F3 := Lib.hid (F2.out.below b_ D2.out.hB)
  clear b_ F2 D2
  obtain ⟨a, ea⟩ : ∃ a, Hid (secL old = a) := ⟨_, Lib.hid rfl⟩
  rw [ea.out]
  have LA := Lib.hid (show a.length = 64 by rw [← ea.out]; exact secL_length _)
  go_wp2_with fail
  refine (sector_any fresh w3).mono ?_
  rintro e w4 ⟨rfl, b_⟩
  have D4 := Lib.hid (D3.out.below b_)
  have F4 := Lib.hid (F3.out.below b_ D3.out.hB)
  clear b_ F3 D3
  obtain ⟨b, eb⟩ : ∃ b, Hid (secL fresh = b) := ⟨_, Lib.hid rfl⟩
  rw [eb.out]
  have LB := Lib.hid (show b.length = 64 by rw [← eb.out]; exact secL_length _)
  go_wp2_with fail
  refine (write_c D4.out ⟨rfl, rfl⟩ 0 (by decide) a LA.out (by decide)).mono ?_
  rintro e w5 ⟨rfl, D, f⟩
  have D5 := Lib.hid (show DkAt w.heap.size w5 g (tD1 a) from D)
  have F5 := Lib.hid (F4.out.trans f)
  clear D f F4 D4
  go_wp2_with fail
  refine (write_c D5.out ⟨rfl, rfl⟩ 1 (by show 1 < 2; decide) a LA.out (by show 1 < 1000000; decide)).mono ?_
  rintro e w6 ⟨rfl, D, f⟩
  have D6 := Lib.hid (show DkAt w.heap.size w6 g (tD2 a) from D)
  have F6 := Lib.hid (F5.out.trans f)
  clear D f F5 D5
  go_wp2_with fail
  refine (sync_c D6.out ⟨rfl, rfl⟩).mono ?_
  rintro e w7 ⟨rfl, D, f⟩
  have D7 := Lib.hid (show DkAt w.heap.size w7 g (tD3 a) from D)
  have F7 := Lib.hid (F6.out.trans f)
  clear D f F6 D6
  go_wp2_with fail
  refine (write_c D7.out ⟨rfl, rfl⟩ 0 (by show 0 < 2; decide) b LB.out (by show 0 < 1000000; decide)).mono ?_
  rintro e w8 ⟨rfl, D, f⟩
  have D8 := Lib.hid (show DkAt w.heap.size w8 g (tD4 a b) from D)
  have F8 := Lib.hid (F7.out.trans f)
  clear D f F7 D7
  go_wp2_with fail
  refine (read_c D8.out ⟨rfl, rfl⟩ 0 (by show 0 < 2; decide)).mono ?_
  rintro e w9 ⟨rfl, b_⟩
  have D9 := Lib.hid (D8.out.below b_)
  have F9 := Lib.hid (F8.out.below b_ D8.out.hB)
  clear b_ F8 D8
  rw [show (tD4 a b).l.getD 0 [] = b from rfl]
  go_wp2_with fail
  have D9_ := D9.out.below (below_alloc (Below.refl _ _) (.cells #[Value.int .i64 pick] 3))
  refine (crash_c D9_ _ 1 1 [pick] (pk_new w9 [pick] 3 notInt)).mono ?_
  rintro e w10 ⟨rfl, D, f⟩
  have D10 := Lib.hid (show DkAt w.heap.size w10 g (tD5 a b pick) from D)
  have F10 := Lib.hid ((F9.out.below (below_alloc (Below.refl _ _) _) D9.out.hB).trans f)
  clear D f F9 D9 D9_
  go_wp2_with fail
  refine (among_any pick 65 (by decide) (by decide) w10).mono ?_
  rintro e w11 ⟨rfl, b_⟩
  have D11 := Lib.hid (D10.out.below b_)
  have F11 := Lib.hid (F10.out.below b_ D10.out.hB)
  clear b_ F10 D10
  obtain ⟨p, ep⟩ : ∃ p, Hid (amL pick 65 = p) := ⟨_, Lib.hid rfl⟩
  rw [ep.out]
  have hp : p < 65 := by rw [← ep.out]; exact amL_lt _ _ (by decide)
  go_wp2_with fail
  refine (read_c D11.out ⟨rfl, rfl⟩ 0 (by show 0 < 2; decide)).mono ?_
  rintro e w12 ⟨rfl, b_⟩
  have D12 := Lib.hid (D11.out.below b_)
  have F12 := Lib.hid (F11.out.below b_ D11.out.hB)
  clear b_ F11 D11
  rw [tears0, ep.out]
  obtain ⟨s, es⟩ : ∃ s, Hid (b.take p ++ a.drop p = s) := ⟨_, Lib.hid rfl⟩
  rw [es.out]
  go_wp2_with fail
  refine (read_c D12.out ⟨rfl, rfl⟩ 1 (by show 1 < 2; decide)).mono ?_
  rintro e w13 ⟨rfl, b_⟩
  have D13 := Lib.hid (D12.out.below b_)
  have F13 := Lib.hid (F12.out.below b_ D12.out.hB)
  clear b_ F12 D12
  rw [tears1]
  go_upto_region 15 with fail
  obtain ⟨x, ex⟩ : ∃ x, Hid (b.take p = x) := ⟨_, Lib.hid rfl⟩
  obtain ⟨y, ey⟩ : ∃ y, Hid (a.drop p = y) := ⟨_, Lib.hid rfl⟩
  have hs1 : ∀ w, (Instr.slice 9 (.string ⟨b.toArray⟩) none (some (.int .i64 (p : Int))) none).run Try.prog w = .ok (.string ⟨x.toArray⟩) w := fun w => by
    rw [run_slice_string_h w _ ⟨b.toArray⟩ Try.underlying9 .i64 p (by omega) (by show (p : Int) ≤ ((b.toArray.size : Nat) : Int); rw [List.size_toArray, LB.out]; omega), ← ex.out, Int.toNat_natCast, dk_take]
  have hs2 : ∀ w, (Instr.slice 9 (.string ⟨a.toArray⟩) (some (.int .i64 (p : Int))) none none).run Try.prog w = .ok (.string ⟨y.toArray⟩) w := fun w => by
    rw [run_slice_string_l w _ ⟨a.toArray⟩ Try.underlying9 .i64 p (by omega) (by show (p : Int) ≤ ((a.toArray.size : Nat) : Int); rw [List.size_toArray, LA.out]; omega), ← ey.out, Int.toNat_natCast, ← extract_eq]
    rfl
  have hcat : (⟨x.toArray⟩ : ByteArray) ++ ⟨y.toArray⟩ = ⟨s.toArray⟩ := by rw [← es.out, ← ex.out, ← ey.out]; exact dk_cat _ _
  have hlen : (9223372036854775807 < x.length + y.length) = False := eq_false (by rw [← ex.out, ← ey.out, List.length_take, List.length_drop, LA.out, LB.out]; omega)
  refine start_ (n := 23) (S := fun _ => True) (ds := []) #[false, false, false, false, false, false, false, false, false, false, false, false, false, false, false, false, false, false, false, false, false, false, false] (by kernel_rfl) rfl rfl trivial (fun hHeld => ?_)
  refine with_tabW T15.tab T15.bits (fun HT_ HW_ => ?_)
  refine pure_ (i := 0) (N := some 81) (v := ?_) (a' := ?_) #[true, false, false, false, false, false, false, false, false, false, false, false, false, false, false, false, false, false, false, false, false, false, false] rfl rfl (any_of HT_.out (by kernel_rfl)) (fun _ _ _ h => h) (Or.inl ⟨by rfl, ?_⟩) ?_ ?_
  rotate_left
  · intro w'
    go_simp
    try with_reducible rfl
  rotate_left
  · simp only [Act.put, List.setIfInBounds_toArray, List.set_cons_zero, List.set_cons_succ]
    rfl
  refine pure_ (i := 1) (N := some 82) (v := ?_) (a' := ?_) #[true, true, false, false, false, false, false, false, false, false, false, false, false, false, false, false, false, false, false, false, false, false, false] rfl rfl (any_of HT_.out (by kernel_rfl)) (fun _ _ _ h => h) (Or.inl ⟨by rfl, ?_⟩) ?_ ?_
  rotate_left
  · intro w'
    go_simp
    try with_reducible rfl
  rotate_left
  · simp only [Act.put, List.setIfInBounds_toArray, List.set_cons_zero, List.set_cons_succ]
    rfl
  refine pure_ (i := 2) (N := some 83) (v := ?_) (a' := ?_) #[true, true, true, false, false, false, false, false, false, false, false, false, false, false, false, false, false, false, false, false, false, false, false] rfl rfl (any_of HT_.out (by kernel_rfl)) (fun _ _ _ h => h) (Or.inl ⟨by rfl, ?_⟩) ?_ ?_
  rotate_left
  · intro w'
    go_simp
    try with_reducible rfl
  rotate_left
  · simp only [Act.put, List.setIfInBounds_toArray, List.set_cons_zero, List.set_cons_succ]
    rfl
  refine pure_ (i := 3) (N := some 84) (v := ?_) (a' := ?_) #[true, true, true, true, false, false, false, false, false, false, false, false, false, false, false, false, false, false, false, false, false, false, false] rfl rfl (any_of HT_.out (by kernel_rfl)) (fun _ _ _ h => h) (Or.inl ⟨by rfl, ?_⟩) ?_ ?_
  rotate_left
  · intro w'
    go_simp
    try with_reducible rfl
  rotate_left
  · simp only [Act.put, List.setIfInBounds_toArray, List.set_cons_zero, List.set_cons_succ]
    rfl
  refine pure_ (i := 4) (N := some 85) (v := ?_) (a' := ?_) #[true, true, true, true, true, false, false, false, false, false, false, false, false, false, false, false, false, false, false, false, false, false, false] rfl rfl (any_of HT_.out (by kernel_rfl)) (fun _ _ _ h => h) (Or.inl ⟨by rfl, ?_⟩) ?_ ?_
  rotate_left
  · intro w'
    go_simp
    try with_reducible rfl
  rotate_left
  · simp only [Act.put, List.setIfInBounds_toArray, List.set_cons_zero, List.set_cons_succ]
    rfl
  refine pure_ (i := 5) (N := some 86) (v := ?_) (a' := ?_) #[true, true, true, true, true, true, false, false, false, false, false, false, false, false, false, false, false, false, false, false, false, false, false] rfl rfl (any_of HT_.out (by kernel_rfl)) (fun _ _ _ h => h) (Or.inl ⟨by rfl, ?_⟩) ?_ ?_
  rotate_left
  · intro w'
    go_simp
    try with_reducible rfl
  rotate_left
  · simp only [Act.put, List.setIfInBounds_toArray, List.set_cons_zero, List.set_cons_succ]
    rfl
  refine pure_ (i := 6) (N := some 87) (v := ?_) (a' := ?_) #[true, true, true, true, true, true, true, false, false, false, false, false, false, false, false, false, false, false, false, false, false, false, false] rfl rfl (any_of HT_.out (by kernel_rfl)) (fun _ _ _ h => h) (Or.inl ⟨by rfl, ?_⟩) ?_ ?_
  rotate_left
  · intro w'
    go_simp
    try with_reducible rfl
  rotate_left
  · simp only [Act.put, List.setIfInBounds_toArray, List.set_cons_zero, List.set_cons_succ]
    rfl
  refine pure_ (i := 7) (N := some 88) (v := ?_) (a' := ?_) #[true, true, true, true, true, true, true, true, false, false, false, false, false, false, false, false, false, false, false, false, false, false, false] rfl rfl (any_of HT_.out (by kernel_rfl)) (fun _ _ _ h => h) (Or.inl ⟨by rfl, ?_⟩) ?_ ?_
  rotate_left
  · intro w'
    go_simp
    try with_reducible rfl
  rotate_left
  · simp only [Act.put, List.setIfInBounds_toArray, List.set_cons_zero, List.set_cons_succ]
    rfl
  refine pure_ (i := 8) (N := some 89) (v := ?_) (a' := ?_) #[true, true, true, true, true, true, true, true, true, false, false, false, false, false, false, false, false, false, false, false, false, false, false] rfl rfl (any_of HT_.out (by kernel_rfl)) (fun _ _ _ h => h) (Or.inl ⟨by rfl, ?_⟩) ?_ ?_
  rotate_left
  · intro w'
    go_simp
    try with_reducible rfl
  rotate_left
  · simp only [Act.put, List.setIfInBounds_toArray, List.set_cons_zero, List.set_cons_succ]
    rfl
  refine pure_ (i := 9) (N := some 90) (v := ?_) (a' := ?_) #[true, true, true, true, true, true, true, true, true, true, false, false, false, false, false, false, false, false, false, false, false, false, false] rfl rfl (any_of HT_.out (by kernel_rfl)) (fun _ _ _ h => h) (Or.inl ⟨by rfl, ?_⟩) ?_ ?_
  rotate_left
  · intro w'
    go_simp
    try with_reducible rfl
  rotate_left
  · simp only [Act.put, List.setIfInBounds_toArray, List.set_cons_zero, List.set_cons_succ]
    rfl
  refine pure_ (i := 10) (N := some 91) (v := ?_) (a' := ?_) #[true, true, true, true, true, true, true, true, true, true, true, false, false, false, false, false, false, false, false, false, false, false, false] rfl rfl (any_of HT_.out (by kernel_rfl)) (fun _ _ _ h => h) (Or.inl ⟨by rfl, ?_⟩) ?_ ?_
  rotate_left
  · intro w'
    go_simp
    try with_reducible rfl
  rotate_left
  · simp only [Act.put, List.setIfInBounds_toArray, List.set_cons_zero, List.set_cons_succ]
    rfl
  refine pure_ (i := 11) (N := some 92) (v := ?_) (a' := ?_) #[true, true, true, true, true, true, true, true, true, true, true, true, false, false, false, false, false, false, false, false, false, false, false] rfl rfl (any_of HT_.out (by kernel_rfl)) (fun _ _ _ h => h) (Or.inl ⟨by rfl, ?_⟩) ?_ ?_
  rotate_left
  · intro w'
    go_simp
    try with_reducible rfl
  rotate_left
  · simp only [Act.put, List.setIfInBounds_toArray, List.set_cons_zero, List.set_cons_succ]
    rfl
  refine pure_ (i := 12) (N := some 93) (v := ?_) (a' := ?_) #[true, true, true, true, true, true, true, true, true, true, true, true, true, false, false, false, false, false, false, false, false, false, false] rfl rfl (any_of HT_.out (by kernel_rfl)) (fun _ _ _ h => h) (Or.inl ⟨by rfl, ?_⟩) ?_ ?_
  rotate_left
  · intro w'
    go_simp
    try with_reducible rfl
  rotate_left
  · simp only [Act.put, List.setIfInBounds_toArray, List.set_cons_zero, List.set_cons_succ]
    rfl
  refine pure_ (i := 13) (N := some 94) (v := ?_) (a' := ?_) #[true, true, true, true, true, true, true, true, true, true, true, true, true, true, false, false, false, false, false, false, false, false, false] rfl rfl (any_of HT_.out (by kernel_rfl)) (fun _ _ _ h => h) (Or.inl ⟨by rfl, ?_⟩) ?_ ?_
  rotate_left
  · intro w'
    go_simp
    try with_reducible rfl
  rotate_left
  · simp only [Act.put, List.setIfInBounds_toArray, List.set_cons_zero, List.set_cons_succ]
    rfl
  refine pure_ (i := 14) (N := some 95) (v := ?_) (a' := ?_) #[true, true, true, true, true, true, true, true, true, true, true, true, true, true, true, false, false, false, false, false, false, false, false] rfl rfl (any_of HT_.out (by kernel_rfl)) (fun _ _ _ h => h) (Or.inl ⟨by rfl, ?_⟩) ?_ ?_
  rotate_left
  · intro w'
    go_simp
    try with_reducible rfl
  rotate_left
  · simp only [Act.put, List.setIfInBounds_toArray, List.set_cons_zero, List.set_cons_succ]
    rfl
  refine pure_ (i := 15) (N := some 96) (v := ?_) (a' := ?_) #[true, true, true, true, true, true, true, true, true, true, true, true, true, true, true, true, false, false, false, false, false, false, false] rfl rfl (any_of HT_.out (by kernel_rfl)) (fun _ _ _ h => h) (Or.inl ⟨by rfl, ?_⟩) ?_ ?_
  rotate_left
  · intro w'
    go_simp
    try with_reducible rfl
  rotate_left
  · simp only [Act.put, List.setIfInBounds_toArray, List.set_cons_zero, List.set_cons_succ]
    rfl
  refine pure_ (i := 16) (N := some 97) (v := ?_) (a' := ?_) #[true, true, true, true, true, true, true, true, true, true, true, true, true, true, true, true, true, false, false, false, false, false, false] rfl rfl (any_of HT_.out (by kernel_rfl)) (fun _ _ _ h => h) (Or.inl ⟨by rfl, ?_⟩) ?_ ?_
  rotate_left
  · intro w'
    go_simp
    try with_reducible rfl
  rotate_left
  · simp only [Act.put, List.setIfInBounds_toArray, List.set_cons_zero, List.set_cons_succ]
    rfl
  refine pure_ (i := 17) (N := some 98) (v := ?_) (a' := ?_) #[true, true, true, true, true, true, true, true, true, true, true, true, true, true, true, true, true, true, false, false, false, false, false] rfl rfl (any_of HT_.out (by kernel_rfl)) (fun _ _ _ h => h) (Or.inl ⟨by rfl, ?_⟩) ?_ ?_
  rotate_left
  · intro w'
    go_simp
    try with_reducible rfl
  rotate_left
  · simp only [Act.put, List.setIfInBounds_toArray, List.set_cons_zero, List.set_cons_succ]
    rfl
  refine pure_ (i := 18) (N := some 99) (v := ?_) (a' := ?_) #[true, true, true, true, true, true, true, true, true, true, true, true, true, true, true, true, true, true, true, false, false, false, false] rfl rfl (any_of HT_.out (by kernel_rfl)) (fun _ _ _ h => h) (Or.inl ⟨by rfl, ?_⟩) ?_ ?_
  rotate_left
  · intro w'
    go_simp
    try with_reducible rfl
  rotate_left
  · simp only [Act.put, List.setIfInBounds_toArray, List.set_cons_zero, List.set_cons_succ]
    rfl
  refine pure_ (i := 19) (N := some 100) (v := ?_) (a' := ?_) #[true, true, true, true, true, true, true, true, true, true, true, true, true, true, true, true, true, true, true, true, false, false, false] rfl rfl (any_of HT_.out (by kernel_rfl)) (fun _ _ _ h => h) (Or.inl ⟨by rfl, ?_⟩) ?_ ?_
  rotate_left
  · intro w'
    go_simp
    try with_reducible rfl
  rotate_left
  · simp only [Act.put, List.setIfInBounds_toArray, List.set_cons_zero, List.set_cons_succ]
    rfl
  refine pure_ (i := 20) (N := some 101) (v := ?_) (a' := ?_) #[true, true, true, true, true, true, true, true, true, true, true, true, true, true, true, true, true, true, true, true, true, false, false] rfl rfl (any_of HT_.out (by kernel_rfl)) (fun _ _ _ h => h) (Or.inl ⟨by rfl, ?_⟩) ?_ ?_
  rotate_left
  · intro w'
    go_simp
    try with_reducible rfl
  rotate_left
  · simp only [Act.put, List.setIfInBounds_toArray, List.set_cons_zero, List.set_cons_succ]
    rfl
  refine pure_ (i := 21) (N := some 102) (v := ?_) (a' := ?_) #[true, true, true, true, true, true, true, true, true, true, true, true, true, true, true, true, true, true, true, true, true, true, false] rfl rfl (any_of HT_.out (by kernel_rfl)) (fun _ _ _ h => h) (Or.inl ⟨by rfl, ?_⟩) ?_ ?_
  rotate_left
  · intro w'
    go_simp
    try with_reducible rfl
  rotate_left
  · simp only [Act.put, List.setIfInBounds_toArray, List.set_cons_zero, List.set_cons_succ]
    rfl
  refine pure_ (i := 22) (N := some 6) (v := ?_) (a' := ?_) #[true, true, true, true, true, true, true, true, true, true, true, true, true, true, true, true, true, true, true, true, true, true, true] rfl rfl (any_of HT_.out (by kernel_rfl)) (fun _ _ _ h => h) (Or.inl ⟨by rfl, ?_⟩) ?_ ?_
  rotate_left
  · intro w'
    go_simp
    try with_reducible rfl
  rotate_left
  · simp only [Act.put, List.setIfInBounds_toArray, List.set_cons_zero, List.set_cons_succ]
    rfl
  refine done_ (done_of HT_.out (by kernel_rfl)) ?_
  clear HT_ HW_
  go_wp2_with fail
  go_ret
  exact ⟨rfl, F13.out.drew.b⟩
end Go.Proofs.Ytbbmhcloigphjaa

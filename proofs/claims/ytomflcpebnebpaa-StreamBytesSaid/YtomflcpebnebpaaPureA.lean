/- Plain law: the reference's block (as the print tells it) is the block; the chapter's example is told; StreamBlocks. Conditions: none but the row's own. -/
import Derived.Test.YtomflcpebnebpaaPStrx3
namespace Go.Proofs.Ytomflcpebnebpaa.PStr
open Go.RowKit Go.Proofs.YtomflcpebnebpaaW.PrintWords Go.Proofs.YtomflcpebnebpaaW.PrintLast Go.Proofs.YtomflcpebnebpaaW.PrintMore
set_option linter.unusedSimpArgs false
set_option linter.unusedVariables false
set_option maxRecDepth 100000 in
theorem works_ev : Ev (fun k => dovecotelaw05_works.f k) true := Ev.of (fun k => dovecotelaw05_works.mono k) (k := 40) (by decide +kernel)
theorem bt_bd (s : ByteArray) (i : Int) : bt s i = n8 (bd s.data.toList i.toNat) := by
  unfold bt n8 bd
  split
  · rename_i h
    rw [List.getD_eq_getElem?_getD, List.getElem?_eq_getElem (by rw [data_length]; exact h)]
    rfl
  · rename_i h
    rw [List.getD_eq_getElem?_getD, List.getElem?_eq_none (by rw [data_length]; exact Nat.le_of_not_lt h)]
    rfl
theorem wrap64_id {n : Int} (h0 : -9223372036854775808 ≤ n) (h1 : n < 9223372036854775808) : wrap64 n = n := by unfold wrap64; omega
def nw (l : List (BitVec 32)) : List Int := l.map n32
theorem nw_length (l : List (BitVec 32)) : (nw l).length = l.length := by simp [nw]
theorem nw_append (a b : List (BitVec 32)) : nw (a ++ b) = nw a ++ nw b := by simp [nw]
theorem nw_set (l : List (BitVec 32)) (i : Nat) (x : BitVec 32) : (nw l).set i (n32 x) = nw (l.set i x) := by simp [nw, List.map_set]
theorem nw_rd (l : List (BitVec 32)) (i : Nat) : rd (nw l) (i : Int) = n32 (wd l i) := by
  unfold rd nw wd
  rw [Int.toNat_natCast, List.getD_eq_getElem?_getD, List.getElem?_map, List.getD_eq_getElem?_getD]
  cases l[i]? <;> rfl
theorem may_ev (a0 a1 : ByteArray) (a2 : Int) : Ev (fun k => dovecoteref05_may.f k a0 a1 a2) (wrongN a0.data.toList.length a1.data.toList.length a2) := by
  refine ⟨1, fun k hk => ?_⟩
  obtain ⟨k, rfl⟩ : ∃ m, k = m + 1 := ⟨k - 1, by omega⟩
  have e0 : a0.data.toList.length = a0.size := data_length a0
  have e1 : a1.data.toList.length = a1.size := data_length a1
  rw [e0, e1]
  unfold dovecoteref05_may.f wrongN
  simp only [dovecoteref05_may.j0]
  by_cases h1 : a0.size = 32
  · rw [if_pos (by omega)]
    by_cases h2 : a1.size = 12
    · have e2 : ((a1.size : Int) != 12) = false := by rw [h2]; rfl
      rw [e2, if_neg (show ¬ (a0.size ≠ 32 ∨ a1.size ≠ 12) by omega)]
      simp only [Bool.false_eq_true, if_false]
      by_cases h3 : a2 < 0
      · rw [if_pos h3, if_pos (Or.inl h3)]
      · rw [if_neg h3]
        by_cases h4 : 4294967295 < a2
        · rw [if_pos h4, if_pos (Or.inr h4)]
        · rw [if_neg h4, if_neg (by omega)]
    · have e2 : ((a1.size : Int) != 12) = true := by rw [bne_iff_ne]; omega
      rw [e2, if_pos (show (a0.size ≠ 32 ∨ a1.size ≠ 12) by omega)]
      simp only [if_true]
  · rw [if_neg (by omega), if_pos (show (a0.size ≠ 32 ∨ a1.size ≠ 12) by omega)]
    simp only [if_true]
/-! ### words -/
theorem or_sum (b0 b1 b2 b3 : UInt8) : n32 (u8w b0 ||| u8w b1 <<< 8 ||| u8w b2 <<< 16 ||| u8w b3 <<< 24) = n8 b0 + n8 b1 * 256 + n8 b2 * 65536 + n8 b3 * 16777216 := by
  have h0 := b0.toNat_lt
  have h1 := b1.toNat_lt
  have h2 := b2.toNat_lt
  have h3 := b3.toNat_lt
  unfold n32 n8 u8w
  simp only [BitVec.toNat_or, BitVec.toNat_shiftLeft, BitVec.toNat_ofNat, Nat.shiftLeft_eq]
  generalize b0.toNat = x0 at *
  generalize b1.toNat = x1 at *
  generalize b2.toNat = x2 at *
  generalize b3.toNat = x3 at *
  simp only [Nat.reducePow] at *
  have e0 : x0 % 4294967296 = x0 := Nat.mod_eq_of_lt (by omega)
  have e1 : x1 % 4294967296 * 256 % 4294967296 = 256 * x1 := by rw [Nat.mod_eq_of_lt (a := x1) (by omega), Nat.mul_comm, Nat.mod_eq_of_lt (by omega)]
  have e2 : x2 % 4294967296 * 65536 % 4294967296 = 65536 * x2 := by rw [Nat.mod_eq_of_lt (a := x2) (by omega), Nat.mul_comm, Nat.mod_eq_of_lt (by omega)]
  have e3 : x3 % 4294967296 * 16777216 % 4294967296 = 16777216 * x3 := by rw [Nat.mod_eq_of_lt (a := x3) (by omega), Nat.mul_comm, Nat.mod_eq_of_lt (by omega)]
  rw [e0, e1, e2, e3]
  have f1 : x0 ||| 256 * x1 = 256 * x1 + x0 := by rw [Nat.or_comm]; exact (Nat.two_pow_add_eq_or_of_lt (i := 8) (by omega) x1).symm
  rw [f1]
  have f2 : 256 * x1 + x0 ||| 65536 * x2 = 65536 * x2 + (256 * x1 + x0) := by rw [Nat.or_comm]; exact (Nat.two_pow_add_eq_or_of_lt (i := 16) (by omega) x2).symm
  rw [f2]
  have f3 : 65536 * x2 + (256 * x1 + x0) ||| 16777216 * x3 = 16777216 * x3 + (65536 * x2 + (256 * x1 + x0)) := by rw [Nat.or_comm]; exact (Nat.two_pow_add_eq_or_of_lt (i := 24) (by omega) x3).symm
  rw [f3]
  omega
theorem read_loop (s : ByteArray) (n : Nat) (hs : s.size = 4 * n) (hn : n ≤ 16) (d : Nat) : ∀ i, i + d = n → Ev (fun k => dovecoteref05_read.l0 k s (nw (leWs s.data.toList i)) ((4 * i : Nat) : Int)) (nw (leWs s.data.toList n)) := by
  induction d with
  | zero =>
    intro i hi
    obtain rfl : i = n := by omega
    refine Ev.step (f := fun _ => some (nw (leWs s.data.toList i))) (fun k => ?_) (Ev.now _)
    simp only [dovecoteref05_read.l0]
    rw [if_neg (by omega)]
  | succ d ih =>
    intro i hi
    refine Ev.step (f := fun k => dovecoteref05_read.l0 k s (nw (leWs s.data.toList (i + 1))) ((4 * (i + 1) : Nat) : Int)) (fun k => ?_) (ih (i + 1) (by omega))
    simp only [dovecoteref05_read.l0]
    rw [wrap64_id (n := ((4 * i : Nat) : Int) + 1) (by omega) (by omega), wrap64_id (n := ((4 * i : Nat) : Int) + 2) (by omega) (by omega), wrap64_id (n := ((4 * i : Nat) : Int) + 3) (by omega) (by omega), wrap64_id (n := ((4 * i : Nat) : Int) + 4) (by omega) (by omega)]
    rw [if_pos (by omega), if_pos (by omega), if_pos (by omega), if_pos (by omega), if_pos (by omega), if_pos (by omega), if_pos (by omega), if_pos (by omega), if_pos (by rw [nw_length, leWs_length]; omega)]
    have e : nw (leWs s.data.toList i) ++ [((((bt s ((4 * i : Nat) : Int)) % 4294967296 + ((bt s (((4 * i : Nat) : Int) + 1)) % 4294967296) * 256 % 4294967296) % 4294967296 + ((bt s (((4 * i : Nat) : Int) + 2)) % 4294967296) * 65536 % 4294967296) % 4294967296 + ((bt s (((4 * i : Nat) : Int) + 3)) % 4294967296) * 16777216 % 4294967296) % 4294967296] = nw (leWs s.data.toList (i + 1)) := by
      rw [leWs, nw_append]
      congr 1
      show [_] = [n32 (leW s.data.toList (4 * i))]
      congr 1
      rw [bt_bd, bt_bd, bt_bd, bt_bd, leW, or_sum]
      rw [show ((4 * i : Nat) : Int).toNat = 4 * i by omega, show (((4 * i : Nat) : Int) + 1).toNat = 4 * i + 1 by omega, show (((4 * i : Nat) : Int) + 2).toNat = 4 * i + 2 by omega, show (((4 * i : Nat) : Int) + 3).toNat = 4 * i + 3 by omega]
      have h0 := n8_bd (bd s.data.toList (4 * i))
      have h1 := n8_bd (bd s.data.toList (4 * i + 1))
      have h2 := n8_bd (bd s.data.toList (4 * i + 2))
      have h3 := n8_bd (bd s.data.toList (4 * i + 3))
      omega
    rw [e, show ((4 * i : Nat) : Int) + 4 = ((4 * (i + 1) : Nat) : Int) by omega]
theorem read_ev (s : ByteArray) (n : Nat) (hs : s.size = 4 * n) (hn : n ≤ 16) : Ev (fun k => dovecoteref05_read.f k s) (nw (leWs s.data.toList n)) := read_loop s n hs hn n 0 (by omega)
theorem left_eq (x : BitVec 32) (n : Nat) (hn : n ≤ 32) : dovecoteref05_left.f (n32 x) (n : Int) = some (n32 (rl x n)) := by
  unfold dovecoteref05_left.f
  rw [wrap64_id (n := 32 - (n : Int)) (by omega) (by omega), if_pos (by omega), if_pos (by omega)]
  unfold shl shr
  rw [show IntKind.u32.bits = 32 from rfl, v32_shl_var x (n : Int) n rfl hn, v32_shr_var x (32 - (n : Int)) (32 - n) (by omega) (by omega), v32_or]
  rfl
/-- half a quarter round, as the reference does it. -/
def half (s : List (BitVec 32)) (a b c d : Nat) (m n : Nat) : List (BitVec 32) :=
  let s1 := s.set a (wd s a + wd s b)
  let s2 := s1.set d (rl (wd s1 d ^^^ wd s1 a) m)
  let s3 := s2.set c (wd s2 c + wd s2 d)
  s3.set b (rl (wd s3 b ^^^ wd s3 c) n)
theorem half_length (s : List (BitVec 32)) (a b c d m n : Nat) : (half s a b c d m n).length = s.length := by simp [half]
theorem wd_set (s : List (BitVec 32)) (i j : Nat) (x : BitVec 32) (h : i < s.length) : wd (s.set i x) j = if i = j then x else wd s j := by
  unfold wd
  rw [List.getD_eq_getElem?_getD, List.getElem?_set, List.getD_eq_getElem?_getD]
  by_cases e : i = j
  · rw [if_pos e, if_pos e, if_pos (by omega)]; rfl
  · rw [if_neg e, if_neg e]
theorem half_half (s : List (BitVec 32)) (a b c d : Nat) (ha : a < b) (hb : b < c) (hc : c < d) (hd : d < s.length) : half (half s a b c d 16 12) a b c d 8 7 = qr s a b c d := by
  refine list_ext_wd (by simp [half_length, qr_length]) (fun i hi => ?_)
  have n1 : ¬ a = b := by omega
  have n2 : ¬ a = c := by omega
  have n3 : ¬ a = d := by omega
  have n4 : ¬ b = c := by omega
  have n5 : ¬ b = d := by omega
  have n6 : ¬ c = d := by omega
  have m1 : ¬ b = a := by omega
  have m2 : ¬ c = a := by omega
  have m3 : ¬ d = a := by omega
  have m4 : ¬ c = b := by omega
  have m5 : ¬ d = b := by omega
  have m6 : ¬ d = c := by omega
  have la : a < s.length := by omega
  have lb : b < s.length := by omega
  have lc : c < s.length := by omega
  simp only [half, qr, quart]
  by_cases i1 : a = i
  · subst i1
    simp only [wd_set, List.length_set, la, lb, lc, hd, if_true, if_neg n1, if_neg n2, if_neg n3, if_neg n4, if_neg n5, if_neg n6, if_neg m1, if_neg m2, if_neg m3, if_neg m4, if_neg m5, if_neg m6]
  · by_cases i2 : b = i
    · subst i2
      simp only [wd_set, List.length_set, la, lb, lc, hd, if_true, if_neg n1, if_neg n2, if_neg n3, if_neg n4, if_neg n5, if_neg n6, if_neg m1, if_neg m2, if_neg m3, if_neg m4, if_neg m5, if_neg m6]
    · by_cases i3 : c = i
      · subst i3
        simp only [wd_set, List.length_set, la, lb, lc, hd, if_true, if_neg n1, if_neg n2, if_neg n3, if_neg n4, if_neg n5, if_neg n6, if_neg m1, if_neg m2, if_neg m3, if_neg m4, if_neg m5, if_neg m6]
      · by_cases i4 : d = i
        · subst i4
          simp only [wd_set, List.length_set, la, lb, lc, hd, if_true, if_neg n1, if_neg n2, if_neg n3, if_neg n4, if_neg n5, if_neg n6, if_neg m1, if_neg m2, if_neg m3, if_neg m4, if_neg m5, if_neg m6]
        · simp only [wd_set, List.length_set, la, lb, lc, hd, if_neg i1, if_neg i2, if_neg i3, if_neg i4]
theorem quarter_step (s : List (BitVec 32)) (a b c d : Nat) (ha : a < b) (hb : b < c) (hc : c < d) (hd : d < s.length) (x m n : Nat) (hx : x = 0 ∧ m = 16 ∧ n = 12 ∨ x = 2 ∧ m = 8 ∧ n = 7) (k : Nat) :
    dovecoteref05_quarter.l0 (k + 1) (nw s) a b c d [16, 12, 8, 7] x = dovecoteref05_quarter.l0 k (nw (half s a b c d m n)) a b c d [16, 12, 8, 7] ((x + 2 : Nat) : Int) := by
  have hx4 : x < 4 := by omega
  have hr1 : rd [16, 12, 8, 7] (x : Int) = (m : Int) := by rcases hx with ⟨rfl, rfl, rfl⟩ | ⟨rfl, rfl, rfl⟩ <;> rfl
  have hr2 : rd [16, 12, 8, 7] ((x : Int) + 1) = (n : Int) := by rcases hx with ⟨rfl, rfl, rfl⟩ | ⟨rfl, rfl, rfl⟩ <;> rfl
  simp only [dovecoteref05_quarter.l0]
  rw [wrap64_id (n := (x : Int) + 1) (by omega) (by omega), wrap64_id (n := (x : Int) + 2) (by omega) (by omega)]
  have hl : ((nw s).length : Int) = (s.length : Int) := by rw [nw_length]
  have hl4 : (([16, 12, 8, 7] : List Int).length : Int) = 4 := rfl
  rw [if_pos (by omega), if_pos (by omega), if_pos (by omega), if_pos (by omega), if_pos (by omega)]
  simp only [Option.bind_some]
  rw [if_pos (by omega), if_pos (by omega), if_pos (by omega), if_pos (by omega)]
  rw [nw_rd, nw_rd, v32_add, Int.toNat_natCast, nw_set, nw_rd, nw_rd, v32_xor, hr1, left_eq _ _ (by omega)]
  simp only [Option.bind_some]
  rw [if_pos (by omega), if_pos (by omega)]
  rw [Int.toNat_natCast, nw_set, nw_rd, nw_rd, v32_add, Int.toNat_natCast, nw_set, if_pos (by omega), if_pos (by omega), nw_rd, nw_rd, v32_xor, hr2, left_eq _ _ (by omega)]
  simp only [Option.bind_some]
  rw [Int.toNat_natCast, nw_set]
  rfl
theorem quarter_ev (s : List (BitVec 32)) (a b c d : Nat) (ha : a < b) (hb : b < c) (hc : c < d) (hd : d < s.length) : Ev (fun k => dovecoteref05_quarter.f k (nw s) a b c d) (nw (qr s a b c d)) := by
  refine Ev.step (fun k => quarter_step s a b c d ha hb hc hd 0 16 12 (.inl ⟨rfl, rfl, rfl⟩) k) ?_
  refine Ev.step (fun k => quarter_step (half s a b c d 16 12) a b c d ha hb hc (by rw [half_length]; exact hd) 2 8 7 (.inr ⟨rfl, rfl, rfl⟩) k) ?_
  refine Ev.step (f := fun _ => some (nw (half (half s a b c d 16 12) a b c d 8 7))) (fun k => ?_) ?_
  · simp only [dovecoteref05_quarter.l0]
    rw [if_neg (by omega)]
  · rw [half_half s a b c d ha hb hc hd]; exact Ev.now _
/-! ### a block -/
theorem qAt_ev (s : List (BitVec 32)) (n b c d : Nat) (h16 : s.length = 16) (hb : b = qb n) (hc : c = qc n) (hd : d = qd n) : Ev (fun k => dovecoteref05_quarter.f k (nw (qAt s n)) ((n % 4 : Nat) : Int) b c d) (nw (qAt s (n + 1))) := by
  subst hb hc hd
  have b1 : 4 ≤ qb n ∧ qb n < 8 := by unfold qb; omega
  have b2 : 8 ≤ qc n ∧ qc n < 12 := by unfold qc; omega
  have b3 : 12 ≤ qd n ∧ qd n < 16 := by unfold qd; omega
  exact quarter_ev (qAt s n) (n % 4) (qb n) (qc n) (qd n) (by omega) (by omega) (by omega) (by rw [qAt_length, h16]; omega)
/-- the four bytes of a word. -/
theorem w8_shr (x : BitVec 32) (j : Nat) (hj : j < 4) : n8 (w8 (x >>> (8 * j))) = n32 x / ((2 ^ (8 * j) : Nat) : Int) % 256 := by
  rw [← w8_n8, ← v32_shr_nat]
theorem blkL_4 (s : List (BitVec 32)) (i : Nat) : blkL s (4 * (i + 1)) = blkL s (4 * i) ++ [blkB s (4 * i), blkB s (4 * i + 1), blkB s (4 * i + 2), blkB s (4 * i + 3)] := by
  rw [show 4 * (i + 1) = 4 * i + 1 + 1 + 1 + 1 by omega]
  simp only [blkL, List.append_assoc, List.cons_append, List.nil_append]
theorem bytes4 (s : List (BitVec 32)) (i j : Nat) (hj : j < 4) : n8 (blkB s (4 * i + j)) = (n32 (wd (qAt s 80) i + wd s i)) / ((2 ^ (8 * j) : Nat) : Int) % 256 := by
  unfold blkB
  rw [show (4 * i + j) / 4 = i by omega, show (4 * i + j) % 4 = j by omega, w8_shr _ _ hj, BitVec.add_comm]
theorem l3_ev (s : List (BitVec 32)) (h16 : s.length = 16) (d : Nat) : ∀ i, i + d = 16 → Ev (fun k => dovecoteref05_block.l3 k (nw s) (nw (qAt s 80)) ((blkL s (4 * i)).map n8) (i : Int)) ⟨(blkL s 64).toArray⟩ := by
  induction d with
  | zero =>
    intro i hi
    obtain rfl : i = 16 := by omega
    refine Ev.step (f := fun _ => some (⟨(blkL s 64).toArray⟩ : ByteArray)) (fun k => ?_) (Ev.now _)
    simp only [dovecoteref05_block.l3]
    rw [if_neg (by omega), strOfNums_n8]
  | succ d ih =>
    intro i hi
    refine Ev.step (f := fun k => dovecoteref05_block.l3 k (nw s) (nw (qAt s 80)) ((blkL s (4 * (i + 1))).map n8) ((i + 1 : Nat) : Int)) (fun k => ?_) (ih (i + 1) (by omega))
    simp only [dovecoteref05_block.l3]
    rw [if_pos (by omega), if_pos (by omega), if_pos (by rw [nw_length, qAt_length, h16]; omega), if_pos (by rw [nw_length, h16]; omega)]
    simp only [Option.bind_some]
    rw [if_pos (by rw [List.length_map, blkL_length]; simp; omega), nw_rd, nw_rd, v32_add, wrap64_id (n := (i : Int) + 1) (by omega) (by omega)]
    have e : (blkL s (4 * i)).map n8 ++ [n32 (wd (qAt s 80) i + wd s i) % 256, n32 (wd (qAt s 80) i + wd s i) / 256 % 256, n32 (wd (qAt s 80) i + wd s i) / 65536 % 256, n32 (wd (qAt s 80) i + wd s i) / 16777216] = (blkL s (4 * (i + 1))).map n8 := by
      rw [blkL_4, List.map_append]
      congr 1
      have h0 := bytes4 s i 0 (by omega)
      have h1 := bytes4 s i 1 (by omega)
      have h2 := bytes4 s i 2 (by omega)
      have h3 := bytes4 s i 3 (by omega)
      rw [Nat.add_zero] at h0
      simp only [List.map_cons, List.map_nil, h0, h1, h2, h3]
      have hb := n32_bd (wd (qAt s 80) i + wd s i)
      generalize n32 (wd (qAt s 80) i + wd s i) = z at *
      simp only [Nat.mul_zero, Nat.pow_zero, Nat.reduceMul, Nat.reducePow, Int.natCast_one, Int.ediv_one]
      have e3 : z / 16777216 % 256 = z / 16777216 := by omega
      simp [e3]
    rw [e]
    rfl
theorem l2_ev (s : List (BitVec 32)) (h16 : s.length = 16) (r : Nat) (hr : r < 10) (x : ByteArray) (hn : Ev (fun k => dovecoteref05_block.l0 k (nw s) (nw (qAt s (8 * (r + 1)))) ((r + 1 : Nat) : Int)) x) (d : Nat) :
    ∀ i, i + d = 4 → Ev (fun k => dovecoteref05_block.l2 k (nw s) (nw (qAt s (8 * r + 4 + i))) (r : Int) (i : Int)) x := by
  induction d with
  | zero =>
    intro i hi
    obtain rfl : i = 4 := by omega
    refine Ev.step (fun k => ?_) hn
    simp only [dovecoteref05_block.l2]
    rw [if_neg (by omega), wrap64_id (n := (r : Int) + 1) (by omega) (by omega)]
    rfl
  | succ d ih =>
    intro i hi
    have e0 : (8 * r + 4 + i) % 4 = i := by omega
    have e1 : (8 * r + 4 + i) % 8 / 4 = 1 := by omega
    have h := qAt_ev s (8 * r + 4 + i) (4 + (i + 1) % 4) (8 + (i + 2) % 4) (12 + (i + 3) % 4) h16 (by unfold qb; rw [e0, e1]) (by unfold qc; rw [e0, e1]) (by unfold qd; rw [e0, e1])
    rw [e0] at h
    refine Ev.step (f := fun k => (dovecoteref05_quarter.f k (nw (qAt s (8 * r + 4 + i))) (i : Int) ((4 + (i + 1) % 4 : Nat) : Int) ((8 + (i + 2) % 4 : Nat) : Int) ((12 + (i + 3) % 4 : Nat) : Int)).bind fun t => dovecoteref05_block.l2 k (nw s) t (r : Int) ((i + 1 : Nat) : Int)) (fun k => ?_) (Ev.bind h (ih (i + 1) (by omega)))
    simp only [dovecoteref05_block.l2]
    rw [if_pos (by omega), wrap64_id (n := (i : Int) + 1) (by omega) (by omega), wrap64_id (n := (i : Int) + 2) (by omega) (by omega), wrap64_id (n := (i : Int) + 3) (by omega) (by omega)]
    rw [Int.tmod_eq_emod_of_nonneg (by omega), Int.tmod_eq_emod_of_nonneg (by omega), Int.tmod_eq_emod_of_nonneg (by omega)]
    rw [wrap64_id (n := 4 + ((i : Int) + 1) % 4) (by omega) (by omega), wrap64_id (n := 8 + ((i : Int) + 2) % 4) (by omega) (by omega), wrap64_id (n := 12 + ((i : Int) + 3) % 4) (by omega) (by omega)]
    rfl
theorem l1_ev (s : List (BitVec 32)) (h16 : s.length = 16) (r : Nat) (hr : r < 10) (x : ByteArray) (hn : Ev (fun k => dovecoteref05_block.l0 k (nw s) (nw (qAt s (8 * (r + 1)))) ((r + 1 : Nat) : Int)) x) (d : Nat) :
    ∀ i, i + d = 4 → Ev (fun k => dovecoteref05_block.l1 k (nw s) (nw (qAt s (8 * r + i))) (r : Int) (i : Int)) x := by
  induction d with
  | zero =>
    intro i hi
    obtain rfl : i = 4 := by omega
    refine Ev.step (fun k => ?_) (l2_ev s h16 r hr x hn 4 0 (by omega))
    simp only [dovecoteref05_block.l1]
    rw [if_neg (by omega)]
    rfl
  | succ d ih =>
    intro i hi
    have e0 : (8 * r + i) % 4 = i := by omega
    have e1 : (8 * r + i) % 8 / 4 = 0 := by omega
    have h := qAt_ev s (8 * r + i) (4 + i) (8 + i) (12 + i) h16 (by unfold qb; rw [e0, e1]; omega) (by unfold qc; rw [e0, e1]; omega) (by unfold qd; rw [e0, e1]; omega)
    rw [e0] at h
    refine Ev.step (f := fun k => (dovecoteref05_quarter.f k (nw (qAt s (8 * r + i))) (i : Int) ((4 + i : Nat) : Int) ((8 + i : Nat) : Int) ((12 + i : Nat) : Int)).bind fun t => dovecoteref05_block.l1 k (nw s) t (r : Int) ((i + 1 : Nat) : Int)) (fun k => ?_) (Ev.bind h (ih (i + 1) (by omega)))
    simp only [dovecoteref05_block.l1]
    rw [if_pos (by omega), wrap64_id (n := (i : Int) + 1) (by omega) (by omega), wrap64_id (n := 4 + (i : Int)) (by omega) (by omega), wrap64_id (n := 8 + (i : Int)) (by omega) (by omega), wrap64_id (n := 12 + (i : Int)) (by omega) (by omega)]
    rfl
theorem l0_ev (s : List (BitVec 32)) (h16 : s.length = 16) (d : Nat) : ∀ r, r + d = 10 → Ev (fun k => dovecoteref05_block.l0 k (nw s) (nw (qAt s (8 * r))) (r : Int)) ⟨(blkL s 64).toArray⟩ := by
  induction d with
  | zero =>
    intro r hr
    obtain rfl : r = 10 := by omega
    refine Ev.step (fun k => ?_) (l3_ev s h16 16 0 (by omega))
    simp only [dovecoteref05_block.l0]
    rw [if_neg (by omega)]
    rfl
  | succ d ih =>
    intro r hr
    refine Ev.step (fun k => ?_) (l1_ev s h16 r (by omega) _ (ih (r + 1) (by omega)) 4 0 (by omega))
    simp only [dovecoteref05_block.l0]
    rw [if_pos (by omega)]
    rfl
theorem block_ev (a0 a1 : ByteArray) (u : BitVec 32) (h0 : a0.size = 32) (h1 : a1.size = 12) : Ev (fun k => dovecoteref05_block.f k a0 a1 (n32 u)) ⟨(chaB a0.data.toList a1.data.toList u).toArray⟩ := by
  obtain ⟨K0, e0⟩ := read_ev a0 8 (by omega) (by omega)
  obtain ⟨K1, e1⟩ := read_ev a1 3 (by omega) (by omega)
  obtain ⟨K2, e2⟩ := l0_ev (chaS a0.data.toList a1.data.toList u) (chaS_length _ _ _) 10 0 (by omega)
  refine ⟨K0 + K1 + K2, fun k hk => ?_⟩
  have hl0 : (nw (leWs a0.data.toList 8)).length = 8 := by rw [nw_length, leWs_length]
  have hl1 : (nw (leWs a1.data.toList 3)).length = 3 := by rw [nw_length, leWs_length]
  have hlc : (nw chaC).length = 4 := rfl
  have hc : ([1634760805, 857760878, 2036477234, 1797285236] : List Int) = nw chaC := by decide
  have e : nw chaC ++ nw (leWs a0.data.toList 8) ++ [n32 u] ++ nw (leWs a1.data.toList 3) = nw (chaS a0.data.toList a1.data.toList u) := by
    rw [chaS, nw_append, nw_append, nw_append]; rfl
  unfold dovecoteref05_block.f
  simp only [Option.bind_some]
  rw [show dovecoteref05_read.f k a0 = _ from e0 k (by omega)]
  simp only [Option.bind_some]
  rw [hc, if_pos (by rw [hlc, hl0]; omega), if_pos (by rw [List.length_append, hlc, hl0]; omega), show dovecoteref05_read.f k a1 = _ from e1 k (by omega)]
  simp only [Option.bind_some]
  rw [if_pos (by simp only [List.length_append, hlc, hl0, hl1, List.length_singleton]; omega), if_pos (by simp only [List.length_append, hlc, hl0, hl1, List.length_singleton, List.length_nil]; omega), e]
  exact e2 k (by omega)
theorem Block_ev (a0 a1 : ByteArray) (c : Int) : Ev (fun k => dovecoteref05_Block.f k a0 a1 c) (⟨(blockL a0.data.toList a1.data.toList c).toArray⟩, wrongN a0.data.toList.length a1.data.toList.length c) := by
  unfold dovecoteref05_Block.f
  refine Ev.bind (may_ev a0 a1 c) ?_
  by_cases h : wrongN a0.data.toList.length a1.data.toList.length c = 0
  · obtain ⟨h0, h1, h2, h3⟩ := wrongN_ok h
    rw [data_length] at h0 h1
    refine Ev.congr (f := fun k => (dovecoteref05_block.f k a0 a1 (n32 (ctr32 c))).bind fun t158 => some (t158, 0)) (fun k => ?_) (Ev.bind (block_ev a0 a1 (ctr32 c) h0 h1) ?_)
    · rw [if_pos h, show c % 4294967296 = n32 (ctr32 c) by rw [← ctr32_n32 c h2 h3]; omega]
    · rw [h, blockL, if_pos h]; exact Ev.now _
  · refine Ev.congr (f := fun _ => some (⟨(blockL a0.data.toList a1.data.toList c).toArray⟩, wrongN a0.data.toList.length a1.data.toList.length c)) (fun k => ?_) (Ev.now _)
    rw [if_neg h, blockL, if_neg h]
/-- THE STATEMENT's plain form. -/
theorem StreamBlocks_pure : dovecotelaw05_StreamBlocks.Pure := by
  intro a0 a1 a2 _ _ _
  refine Ev.rounds ?_
  unfold dovecotelaw05_StreamBlocks.f stream_Block.f
  simp only [Option.bind_some]
  refine Ev.bind (Block_ev a0 a1 a2) ?_
  refine Ev.congr (f := fun k => (dovecotelaw05_works.f k).bind fun t => some t) (fun k => ?_) (Ev.bind works_ev (Ev.now _))
  rw [if_pos rfl, if_pos rfl]
end Go.Proofs.Ytomflcpebnebpaa.PStr

/- The reference's SHA-256 (whole text, sixty-four words, turn by a sum) is the hasher's: plain laws, no program in sight. -/
import Derived.Test.YtmaomfebhbpjmaaDoorHashP
namespace Go.Proofs.YtmaomfebhbpjmaaDoor
set_option linter.unusedSimpArgs false
set_option linter.unusedVariables false

theorem and_shl8 (x : BitVec 32) (b : UInt8) : x <<< 8 &&& u8w b = 0#32 := by
  apply BitVec.eq_of_getLsbD_eq
  intro i hi
  rw [BitVec.getLsbD_and, BitVec.getLsbD_shiftLeft]
  by_cases h : i < 8
  · simp [h]
  · have h1 : (u8w b).getLsbD i = false := by
      unfold u8w
      rw [BitVec.getLsbD_ofNat]
      have h2 : b.toNat < 2 ^ i := Nat.lt_of_lt_of_le b.toNat_lt (Nat.pow_le_pow_right (by decide) (by omega))
      rw [Nat.testBit_lt_two_pow h2]
      simp
    rw [h1]
    simp
theorem shl8_or (x : BitVec 32) (b : UInt8) : x <<< 8 ||| u8w b = x <<< 8 + u8w b := (BitVec.add_eq_or_of_and_eq_zero _ _ (and_shl8 x b)).symm
theorem rr_add (x : BitVec 32) (n : Nat) (h1 : n ≤ 32) : x >>> n + x <<< (32 - n) = rr x n := by
  have hz : x >>> n &&& x <<< (32 - n) = 0#32 := by
    apply BitVec.eq_of_getLsbD_eq
    intro i hi
    rw [BitVec.getLsbD_and, BitVec.getLsbD_shiftLeft, BitVec.getLsbD_ushiftRight]
    by_cases h : i < 32 - n
    · simp [h]
    · rw [BitVec.getLsbD_of_ge x (n + i) (by omega)]
      simp
  rw [BitVec.add_eq_or_of_and_eq_zero _ _ hz, BitVec.or_comm]
  rfl
theorem ch_eq (e f g : BitVec 32) : (e &&& f) ^^^ (~~~e &&& g) = g ^^^ e &&& (f ^^^ g) := by
  apply BitVec.eq_of_getLsbD_eq
  intro i hi
  simp only [BitVec.getLsbD_xor, BitVec.getLsbD_and, BitVec.getLsbD_not, hi, decide_true, Bool.true_and]
  cases e.getLsbD i <;> cases f.getLsbD i <;> cases g.getLsbD i <;> rfl
theorem maj_eq (a b c : BitVec 32) : (a &&& b) ^^^ (a &&& c) ^^^ (b &&& c) = a &&& b ||| c &&& (a ||| b) := by
  apply BitVec.eq_of_getLsbD_eq
  intro i hi
  simp only [BitVec.getLsbD_xor, BitVec.getLsbD_and, BitVec.getLsbD_or]
  cases a.getLsbD i <;> cases b.getLsbD i <;> cases c.getLsbD i <;> rfl

/-- so many bytes as one word. -/
def accW (r : List UInt8) (i : Nat) : Nat → BitVec 32
  | 0 => 0
  | k + 1 => accW r i k <<< 8 + u8w (bd r (i + k))
def firstW (r : List UInt8) : Nat → List (BitVec 32)
  | 0 => []
  | k + 1 => firstW r k ++ [accW r (4 * k) 4]
def grL (L : List (BitVec 32)) : Nat → List (BitVec 32)
  | 0 => L
  | k + 1 => grL L k ++ [wd (grL L k) k + sig0 (wd (grL L k) (k + 1)) + wd (grL L k) (k + 9) + sig1 (wd (grL L k) (k + 14))]
def w64 (r : List UInt8) : List (BitVec 32) := grL (firstW r 16) 48
theorem firstW_length (r : List UInt8) (k : Nat) : (firstW r k).length = k := by
  induction k with
  | zero => rfl
  | succ k ih => simp [firstW, ih]
theorem grL_length (L : List (BitVec 32)) (k : Nat) : (grL L k).length = L.length + k := by
  induction k with
  | zero => rfl
  | succ k ih => simp [grL, ih]; omega
theorem w64_length (r : List UInt8) : (w64 r).length = 64 := by rw [w64, grL_length, firstW_length]
theorem wd_append_left (L M : List (BitVec 32)) (t : Nat) (h : t < L.length) : wd (L ++ M) t = wd L t := by
  simp [wd, List.getD, List.getElem?_append_left h]
theorem wd_append_last (L : List (BitVec 32)) (x : BitVec 32) : wd (L ++ [x]) L.length = x := by
  simp [wd, List.getD]
theorem wd_set_eq (L : List (BitVec 32)) (i : Nat) (x : BitVec 32) (h : i < L.length) : wd (L.set i x) i = x := by
  simp [wd, List.getD, List.getElem?_set, h]
theorem wd_set_ne (L : List (BitVec 32)) (i j : Nat) (x : BitVec 32) (h : i ≠ j) : wd (L.set i x) j = wd L j := by
  simp [wd, List.getD, List.getElem?_set, h]
theorem firstW_wd (r : List UInt8) (n t : Nat) (h : t < n) : wd (firstW r n) t = accW r (4 * t) 4 := by
  induction n with
  | zero => omega
  | succ n ih =>
    by_cases ht : t < n
    · rw [firstW, wd_append_left _ _ _ (by rw [firstW_length]; exact ht), ih ht]
    · obtain rfl : t = n := by omega
      have := wd_append_last (firstW r t) (accW r (4 * t) 4)
      rw [firstW_length] at this
      rw [firstW, this]
theorem grL_wd (L : List (BitVec 32)) (k m t : Nat) (h : t < L.length + k) (hkm : k ≤ m) : wd (grL L m) t = wd (grL L k) t := by
  induction m with
  | zero => obtain rfl : k = 0 := by omega
            rfl
  | succ m ih =>
    by_cases hk : k ≤ m
    · rw [grL, wd_append_left _ _ _ (by rw [grL_length]; omega), ih hk]
    · obtain rfl : k = m + 1 := by omega
      rfl
theorem w64_old (r : List UInt8) (t : Nat) (h : t < 16) : wd (w64 r) t = accW r (4 * t) 4 := by
  rw [w64, grL_wd _ 0 48 t (by rw [firstW_length]; omega) (by omega), grL, firstW_wd r 16 t h]
theorem w64_new (r : List UInt8) (t : Nat) (h : 16 ≤ t) (h2 : t < 64) :
    wd (w64 r) t = wd (w64 r) (t - 16) + sig0 (wd (w64 r) (t - 15)) + wd (w64 r) (t - 7) + sig1 (wd (w64 r) (t - 2)) := by
  obtain ⟨k, rfl⟩ : ∃ k, t = 16 + k := ⟨t - 16, by omega⟩
  have e : ∀ u, u < 16 + k → wd (w64 r) u = wd (grL (firstW r 16) k) u := fun u hu => by
    rw [w64, grL_wd _ k 48 u (by rw [firstW_length]; omega) (by omega)]
  have e0 : wd (w64 r) (16 + k) = wd (grL (firstW r 16) (k + 1)) (16 + k) := by
    rw [w64, grL_wd _ (k + 1) 48 (16 + k) (by rw [firstW_length]; omega) (by omega)]
  have hl : (grL (firstW r 16) k).length = 16 + k := by rw [grL_length, firstW_length]
  have := wd_append_last (grL (firstW r 16) k) (wd (grL (firstW r 16) k) k + sig0 (wd (grL (firstW r 16) k) (k + 1)) + wd (grL (firstW r 16) k) (k + 9) + sig1 (wd (grL (firstW r 16) k) (k + 14)))
  rw [hl] at this
  rw [e0, grL, this, e _ (by omega), e _ (by omega), e _ (by omega), e _ (by omega)]
  rw [show 16 + k - 16 = k by omega, show 16 + k - 15 = k + 1 by omega, show 16 + k - 7 = k + 9 by omega, show 16 + k - 2 = k + 14 by omega]
theorem loadW_wd (r : List UInt8) (k j : Nat) (hj : j < 16) (hk : k ≤ 64) : wd (loadW r k) j = accW r (4 * j) (min 4 (k - 4 * j)) := by
  induction k with
  | zero =>
    rw [show min 4 (0 - 4 * j) = 0 by omega]
    exact (by decide : ∀ j < 16, wd (List.replicate 16 (0 : BitVec 32)) j = 0) j hj
  | succ k ih =>
    have ih := ih (by omega)
    rw [loadW]
    by_cases h : k / 4 = j
    · rw [h, wd_set_eq _ _ _ (by rw [loadW_length]; exact hj), shl8_or, ih, show min 4 (k + 1 - 4 * j) = k - 4 * j + 1 by omega, accW, show min 4 (k - 4 * j) = k - 4 * j by omega, show 4 * j + (k - 4 * j) = k by omega]
    · rw [wd_set_ne _ _ _ _ h, ih]
      congr 1
      omega
/-- the ring holds the last sixteen words. -/
theorem ring_wd (s : R8) (r : List UInt8) (i : Nat) (hi : i ≤ 64) : ∀ t, t < 64 → t < max i 16 → i ≤ t + 16 → wd (rounds s (loadW r 64) i).2 (t % 16) = wd (w64 r) t := by
  induction i with
  | zero =>
    intro t _ ht _
    have ht : t < 16 := by omega
    rw [rounds_zero, Nat.mod_eq_of_lt ht, loadW_wd r 64 t ht (by omega), w64_old r t ht, show min 4 (64 - 4 * t) = 4 by omega]
  | succ i ih =>
    intro t h64 ht hit
    have ih := ih (by omega)
    rw [rounds_succ]
    show wd (atRound (rounds s (loadW r 64) i).2 i) (t % 16) = _
    have hl : (rounds s (loadW r 64) i).2.length = 16 := by rw [rounds_length, loadW_length]
    by_cases h16 : 16 ≤ i
    · rw [atRound, if_pos h16, growW]
      by_cases hti : t = i
      · subst hti
        rw [wd_set_eq _ _ _ (by rw [hl]; omega), w64_new r t h16 h64]
        have a1 := ih (t - 16) (by omega) (by omega) (by omega)
        have a2 := ih (t - 15) (by omega) (by omega) (by omega)
        have a3 := ih (t - 7) (by omega) (by omega) (by omega)
        have a4 := ih (t - 2) (by omega) (by omega) (by omega)
        rw [show (t - 16) % 16 = t % 16 by omega] at a1
        rw [a1, a2, a3, a4]
        generalize wd (w64 r) (t - 16) = x1
        generalize sig0 (wd (w64 r) (t - 15)) = x2
        generalize wd (w64 r) (t - 7) = x3
        generalize sig1 (wd (w64 r) (t - 2)) = x4
        rw [BitVec.add_assoc x1 x2 x3, BitVec.add_assoc x1 (x2 + x3) x4]
      · rw [wd_set_ne _ _ _ _ (by omega)]
        exact ih t h64 (by omega) (by omega)
    · rw [atRound, if_neg h16]
      exact ih t h64 (by omega) (by omega)
def rnds (s : R8) (W : List (BitVec 32)) : Nat → R8
  | 0 => s
  | i + 1 => rnd (rnds s W i) (rndT (rnds s W i) (wd ksL i) (wd W i)) (rndU (rnds s W i))
theorem rnds_eq (s : R8) (r : List UInt8) (i : Nat) (hi : i ≤ 64) : rnds s (w64 r) i = (rounds s (loadW r 64) i).1 := by
  induction i with
  | zero => rfl
  | succ i ih =>
    have h := ring_wd s r (i + 1) hi i (by omega) (by omega) (by omega)
    rw [rounds_succ] at h ⊢
    rw [rnds, ih (by omega), ← h]
theorem mixv_eq (v : List (BitVec 32)) (r : List UInt8) : mixv v r = addTo v (rnds (R8.of v) (w64 r) 64).list 8 := by
  rw [mixv, rnds_eq _ _ _ (Nat.le_refl _)]

/-- a text, and what stands behind it. -/
def padN (l : List UInt8) : Nat := (119 - l.length % 64) % 64
def wholeL (l : List UInt8) : List UInt8 := l ++ (128 :: (List.replicate (padN l) 0 ++ eightL (l.length * 8 % 18446744073709551616)))
theorem wholeL_length (l : List UInt8) : (wholeL l).length = l.length + padN l + 9 ∧ (wholeL l).length % 64 = 0 := by
  have h : (wholeL l).length = l.length + padN l + 9 := by simp [wholeL, eightL_length]; omega
  refine ⟨h, ?_⟩
  rw [h, padN]
  omega
theorem push_nm (s : St) (h : s.ok) (b : UInt8) : (push s b).n = (s.n + 1) % 64 := by
  have := h.2.2
  unfold push
  split
  · simp; omega
  · simp; omega
theorem pushes_nmod (l : List UInt8) : ∀ s : St, s.ok → (pushes s l).n = (s.n + l.length) % 64 := by
  induction l with
  | nil => intro s h; have := h.2.2; simp [pushes]; omega
  | cons b l ih =>
    intro s h
    have := ih (push s b) (push_ok h b)
    rw [push_nm s h b] at this
    show (pushes (push s b) l).n = _
    rw [this, List.length_cons]
    omega
theorem pushes_cons (s : St) (b : UInt8) (l : List UInt8) : pushes s (b :: l) = pushes (push s b) l := rfl
theorem sha_whole (l : List UInt8) : sha l = outL (pushes st0 (wholeL l)).v := by
  have h1 : (push (pushes st0 l) 128).n = (l.length + 1) % 64 := by
    rw [push_nm _ (pushes_ok st0_ok l), pushes_nmod _ _ st0_ok]
    show ((0 + l.length) % 64 + 1) % 64 = _
    omega
  unfold sha finish padZ
  rw [h1, show (120 - (l.length + 1) % 64) % 64 = padN l by rw [padN]; omega, ← pushes_append, wholeL, pushes_append st0 l, pushes_cons]
/-- the eight words behind so many blocks. -/
def vAt (all : List UInt8) (k : Nat) : List (BitVec 32) := (pushes st0 (all.take (64 * k))).v
theorem vAt_zero (all : List UInt8) : vAt all 0 = iv := by simp [vAt, pushes, st0]
theorem vAt_length (all : List UInt8) (k : Nat) : (vAt all k).length = 8 := (pushes_ok st0_ok _).1
theorem vAt_succ (all : List UInt8) (k : Nat) (h : 64 * (k + 1) ≤ all.length) : vAt all (k + 1) = mixv (vAt all k) ((all.drop (64 * k)).take 64) := by
  have e : all.take (64 * (k + 1)) = all.take (64 * k) ++ (all.drop (64 * k)).take 64 := by
    rw [show 64 * (k + 1) = 64 * k + 64 by omega, List.take_add]
  have hn : (pushes st0 (all.take (64 * k))).n = 0 := by
    rw [pushes_nmod _ _ st0_ok, List.length_take, Nat.min_eq_left (by omega)]
    show (0 + 64 * k) % 64 = 0
    omega
  have hl : ((all.drop (64 * k)).take 64).length = 64 := by rw [List.length_take, List.length_drop]; omega
  have hok := pushes_ok st0_ok (all.take (64 * k))
  unfold vAt
  rw [e, pushes_append, pushes_full _ _ hok (by rw [hn, hl])]
  have hr := hok.2.1
  have e2 : (pushes st0 (all.take (64 * k))).r.drop 64 = [] := List.drop_of_length_le (by omega)
  rw [hn, hl]
  show mixv (pushes st0 (all.take (64 * k))).v (List.take 0 _ ++ _ ++ List.drop (0 + 64) _) = _
  rw [List.take_zero, List.nil_append, Nat.zero_add, e2, List.append_nil]
theorem sha_vAt (l : List UInt8) : sha l = outL (vAt (wholeL l) ((wholeL l).length / 64)) := by
  rw [sha_whole, vAt]
  have := (wholeL_length l).2
  rw [show 64 * ((wholeL l).length / 64) = (wholeL l).length by omega, List.take_length]
end Go.Proofs.YtmaomfebhbpjmaaDoor

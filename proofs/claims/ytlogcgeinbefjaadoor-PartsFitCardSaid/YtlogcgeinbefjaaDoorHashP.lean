/- SHA-256 as plain functions on lists of 32-bit words and bytes, in the program's own order of work; no program in sight. -/
import Derived.Test.YtlogcgeinbefjaaDoorBase
namespace Go.Proofs.YtlogcgeinbefjaaDoor
set_option maxRecDepth 100000

def ksL : List (BitVec 32) := [0x428a2f98#32, 0x71374491#32, 0xb5c0fbcf#32, 0xe9b5dba5#32, 0x3956c25b#32, 0x59f111f1#32, 0x923f82a4#32, 0xab1c5ed5#32,
  0xd807aa98#32, 0x12835b01#32, 0x243185be#32, 0x550c7dc3#32, 0x72be5d74#32, 0x80deb1fe#32, 0x9bdc06a7#32, 0xc19bf174#32,
  0xe49b69c1#32, 0xefbe4786#32, 0x0fc19dc6#32, 0x240ca1cc#32, 0x2de92c6f#32, 0x4a7484aa#32, 0x5cb0a9dc#32, 0x76f988da#32,
  0x983e5152#32, 0xa831c66d#32, 0xb00327c8#32, 0xbf597fc7#32, 0xc6e00bf3#32, 0xd5a79147#32, 0x06ca6351#32, 0x14292967#32,
  0x27b70a85#32, 0x2e1b2138#32, 0x4d2c6dfc#32, 0x53380d13#32, 0x650a7354#32, 0x766a0abb#32, 0x81c2c92e#32, 0x92722c85#32,
  0xa2bfe8a1#32, 0xa81a664b#32, 0xc24b8b70#32, 0xc76c51a3#32, 0xd192e819#32, 0xd6990624#32, 0xf40e3585#32, 0x106aa070#32,
  0x19a4c116#32, 0x1e376c08#32, 0x2748774c#32, 0x34b0bcb5#32, 0x391c0cb3#32, 0x4ed8aa4a#32, 0x5b9cca4f#32, 0x682e6ff3#32,
  0x748f82ee#32, 0x78a5636f#32, 0x84c87814#32, 0x8cc70208#32, 0x90befffa#32, 0xa4506ceb#32, 0xbef9a3f7#32, 0xc67178f2#32]
def iv : List (BitVec 32) := [0x6a09e667#32, 0xbb67ae85#32, 0x3c6ef372#32, 0xa54ff53a#32, 0x510e527f#32, 0x9b05688c#32, 0x1f83d9ab#32, 0x5be0cd19#32]

/-- turned to the right by n, as the code has it: to the left by 32 - n. -/
def rr (x : BitVec 32) (n : Nat) : BitVec 32 := x <<< (32 - n) ||| x >>> n
def sig0 (x : BitVec 32) : BitVec 32 := rr x 7 ^^^ rr x 18 ^^^ x >>> 3
def sig1 (x : BitVec 32) : BitVec 32 := rr x 17 ^^^ rr x 19 ^^^ x >>> 10
def wd (L : List (BitVec 32)) (i : Nat) : BitVec 32 := L.getD i 0
def growW (L : List (BitVec 32)) (i : Nat) : List (BitVec 32) :=
  L.set (i % 16) (wd L (i % 16) + (sig0 (wd L ((i - 15) % 16)) + wd L ((i - 7) % 16) + sig1 (wd L ((i - 2) % 16))))
def loadW (r : List UInt8) : Nat → List (BitVec 32)
  | 0 => List.replicate 16 0
  | k + 1 => (loadW r k).set (k / 4) (wd (loadW r k) (k / 4) <<< 8 ||| u8w (bd r k))
structure R8 where
  (a b c d e f g k : BitVec 32)
def R8.list (s : R8) : List (BitVec 32) := [s.a, s.b, s.c, s.d, s.e, s.f, s.g, s.k]
def R8.of (v : List (BitVec 32)) : R8 := ⟨wd v 0, wd v 1, wd v 2, wd v 3, wd v 4, wd v 5, wd v 6, wd v 7⟩
def rndT (s : R8) (ki wi : BitVec 32) : BitVec 32 := s.k + (rr s.e 6 ^^^ rr s.e 11 ^^^ rr s.e 25) + (s.g ^^^ s.e &&& (s.f ^^^ s.g)) + ki + wi
def rndU (s : R8) : BitVec 32 := (rr s.a 2 ^^^ rr s.a 13 ^^^ rr s.a 22) + (s.a &&& s.b ||| s.c &&& (s.a ||| s.b))
def rnd (s : R8) (t u : BitVec 32) : R8 := ⟨t + u, s.a, s.b, s.c, s.d + t, s.e, s.f, s.g⟩
def atRound (W : List (BitVec 32)) (i : Nat) : List (BitVec 32) := if 16 ≤ i then growW W i else W
def rounds (s : R8) (W : List (BitVec 32)) : Nat → R8 × List (BitVec 32)
  | 0 => (s, W)
  | i + 1 =>
    let p := rounds s W i
    let W' := atRound p.2 i
    (rnd p.1 (rndT p.1 (wd ksL i) (wd W' (i % 16))) (rndU p.1), W')
def addTo (v x : List (BitVec 32)) : Nat → List (BitVec 32)
  | 0 => v
  | i + 1 => (addTo v x i).set i (wd (addTo v x i) i + wd x i)
def mixv (v : List (BitVec 32)) (r : List UInt8) : List (BitVec 32) := addTo v (rounds (R8.of v) (loadW r 64) 64).1.list 8

/-- a hasher: eight words, what waits, and how much of that. -/
structure St where
  v : List (BitVec 32)
  r : List UInt8
  n : Nat
def St.ok (s : St) : Prop := s.v.length = 8 ∧ s.r.length = 64 ∧ s.n < 64
def St.okL (s : St) : Prop := s.v.length = 8 ∧ s.r.length = 64
theorem St.ok.l {s : St} (h : s.ok) : s.okL := ⟨h.1, h.2.1⟩
def push (s : St) (b : UInt8) : St := if s.n + 1 = 64 then ⟨mixv s.v (s.r.set s.n b), s.r.set s.n b, 0⟩ else ⟨s.v, s.r.set s.n b, s.n + 1⟩
def pushes (s : St) (l : List UInt8) : St := l.foldl push s
def st0 : St := ⟨iv, List.replicate 64 0, 0⟩
def eightL (n : Nat) : List UInt8 := [UInt8.ofNat (n / 2 ^ 56), UInt8.ofNat (n / 2 ^ 48), UInt8.ofNat (n / 2 ^ 40), UInt8.ofNat (n / 2 ^ 32), UInt8.ofNat (n / 2 ^ 24), UInt8.ofNat (n / 2 ^ 16), UInt8.ofNat (n / 2 ^ 8), UInt8.ofNat n]
def wordL (x : BitVec 32) : List UInt8 := [w8 (x >>> 24), w8 (x >>> 16), w8 (x >>> 8), w8 (x >>> 0)]
def outL (v : List (BitVec 32)) : List UInt8 := v.flatMap wordL
def padZ (s : St) : St := pushes s (List.replicate ((120 - s.n) % 64) 0)
/-- what 'end' tells of a hasher that has taken so many bytes. -/
def finish (s : St) (t : Nat) : List UInt8 := outL (pushes (padZ (push s 128)) (eightL (t * 8 % 18446744073709551616))).v
/-- THE DIGEST of a text. -/
def sha (l : List UInt8) : List UInt8 := finish (pushes st0 l) l.length

theorem rounds_zero (s : R8) (W : List (BitVec 32)) : rounds s W 0 = (s, W) := rfl
theorem rounds_succ (s : R8) (W : List (BitVec 32)) (i : Nat) : rounds s W (i + 1) = (rnd (rounds s W i).1 (rndT (rounds s W i).1 (wd ksL i) (wd (atRound (rounds s W i).2 i) (i % 16))) (rndU (rounds s W i).1), atRound (rounds s W i).2 i) := rfl
/-! ### lengths -/
theorem growW_length (L : List (BitVec 32)) (i : Nat) : (growW L i).length = L.length := by simp [growW]
theorem atRound_length (L : List (BitVec 32)) (i : Nat) : (atRound L i).length = L.length := by
  unfold atRound; split
  · exact growW_length _ _
  · rfl
theorem loadW_length (r : List UInt8) (k : Nat) : (loadW r k).length = 16 := by
  induction k with
  | zero => rfl
  | succ k ih => simp [loadW, ih]
theorem rounds_length (s : R8) (W : List (BitVec 32)) (k : Nat) : (rounds s W k).2.length = W.length := by
  induction k with
  | zero => rfl
  | succ k ih => simp only [rounds]; rw [atRound_length, ih]
theorem addTo_length (v x : List (BitVec 32)) (k : Nat) : (addTo v x k).length = v.length := by
  induction k with
  | zero => rfl
  | succ k ih => simp [addTo, ih]
theorem mixv_length (v : List (BitVec 32)) (r : List UInt8) : (mixv v r).length = v.length := addTo_length _ _ _
theorem push_ok {s : St} (h : s.ok) (b : UInt8) : (push s b).ok := by
  obtain ⟨h1, h2, h3⟩ := h
  unfold push
  split
  · exact ⟨by rw [mixv_length]; exact h1, by simpa using h2, by show 0 < 64; decide⟩
  · exact ⟨h1, by simpa using h2, by show s.n + 1 < 64; omega⟩
theorem pushes_ok {s : St} (h : s.ok) (l : List UInt8) : (pushes s l).ok := by
  induction l generalizing s with
  | nil => exact h
  | cons b l ih => exact ih (push_ok h b)
theorem st0_ok : st0.ok := ⟨rfl, by simp [st0], by decide⟩
theorem pushes_append (s : St) (a b : List UInt8) : pushes s (a ++ b) = pushes (pushes s a) b := by simp [pushes]
theorem eightL_length (n : Nat) : (eightL n).length = 8 := rfl
theorem outL_length (v : List (BitVec 32)) : (outL v).length = 4 * v.length := by
  induction v with
  | nil => rfl
  | cons x v ih =>
    have : outL (x :: v) = wordL x ++ outL v := rfl
    rw [this, List.length_append, ih]; simp [wordL]; omega
theorem sha_length (l : List UInt8) : (sha l).length = 32 := by
  unfold sha finish
  rw [outL_length]
  have := (pushes_ok (pushes_ok (push_ok (pushes_ok st0_ok l) 128) (List.replicate ((120 - (push (pushes st0 l) 128).n) % 64) 0)) (eightL (l.length * 8 % 18446744073709551616))).1
  unfold padZ
  omega

/-! ### several bytes at once: no more than fit -/
theorem pushes_n (l : List UInt8) : ∀ s : St, s.n < 64 → s.n + l.length < 64 → (pushes s l).n = s.n + l.length ∧ (pushes s l).v = s.v := by
  induction l with
  | nil => intro s _ _; exact ⟨rfl, rfl⟩
  | cons b l ih =>
    intro s h1 h2
    simp only [List.length_cons] at h2 ⊢
    have e : push s b = ⟨s.v, s.r.set s.n b, s.n + 1⟩ := by unfold push; rw [if_neg (by omega)]
    show (pushes (push s b) l).n = _ ∧ (pushes (push s b) l).v = _
    rw [e]
    have := ih ⟨s.v, s.r.set s.n b, s.n + 1⟩ (by show s.n + 1 < 64; omega) (by show s.n + 1 + l.length < 64; omega)
    refine ⟨by rw [this.1]; show s.n + 1 + l.length = _; omega, this.2⟩
theorem pushes_r (l : List UInt8) : ∀ s : St, s.ok → s.n + l.length < 64 → (pushes s l).r = s.r.take s.n ++ l ++ s.r.drop (s.n + l.length) := by
  induction l with
  | nil => intro s h _; simp [pushes]
  | cons b l ih =>
    intro s h h2
    simp only [List.length_cons] at h2 ⊢
    have e : push s b = ⟨s.v, s.r.set s.n b, s.n + 1⟩ := by unfold push; rw [if_neg (by omega)]
    show (pushes (push s b) l).r = _
    have hok := push_ok h b
    rw [ih _ hok (by rw [e]; show s.n + 1 + l.length < 64; omega), e]
    show (s.r.set s.n b).take (s.n + 1) ++ l ++ (s.r.set s.n b).drop (s.n + 1 + l.length) = _
    have hl := h.2.1
    rw [List.drop_set_of_lt (by omega), List.take_set, List.take_succ_eq_append_getElem (by omega), List.set_append_right _ _ (by simp; omega)]
    simp [List.length_take, Nat.min_eq_left (show s.n ≤ s.r.length by omega)]
    rw [show s.n + 1 + l.length = s.n + (l.length + 1) from by omega]
/-- as many as fill the block: it is mixed. -/
theorem pushes_full (l : List UInt8) : ∀ s : St, s.ok → s.n + l.length = 64 → pushes s l = ⟨mixv s.v (s.r.take s.n ++ l ++ s.r.drop (s.n + l.length)), s.r.take s.n ++ l ++ s.r.drop (s.n + l.length), 0⟩ := by
  intro s h h2
  have hne : l ≠ [] := by rintro rfl; have := h.2.2; simp at h2; omega
  obtain ⟨a, b, rfl⟩ : ∃ a b, l = a ++ [b] := ⟨l.dropLast, l.getLast hne, (List.dropLast_concat_getLast hne).symm⟩
  simp only [List.length_append, List.length_singleton] at h2
  rw [pushes_append]
  have e1 := pushes_n a s h.2.2 (by omega)
  have e2 := pushes_r a s h (by omega)
  have e3 : pushes (pushes s a) [b] = push (pushes s a) b := rfl
  rw [e3]
  unfold push
  rw [if_pos (by rw [e1.1]; omega), e1.2, e2, e1.1]
  have hl := h.2.1
  have e4 : (s.r.take s.n ++ a ++ s.r.drop (s.n + a.length)).set (s.n + a.length) b = s.r.take s.n ++ (a ++ [b]) ++ s.r.drop (s.n + (a ++ [b]).length) := by
    rw [List.set_append_right _ _ (by simp; omega)]
    have e5 : s.n + a.length - (s.r.take s.n ++ a).length = 0 := by simp; omega
    rw [e5]
    have hd : s.r.drop (s.n + a.length) = s.r[s.n + a.length] :: s.r.drop (s.n + a.length + 1) := (List.drop_eq_getElem_cons (by omega))
    rw [hd]
    simp [List.append_assoc, Nat.add_assoc]
  rw [e4]
/-- what one copy brings, in both cases. -/
theorem pushes_part (s : St) (h : s.ok) (l : List UInt8) (hle : s.n + l.length ≤ 64) :
    pushes s l = if s.n + l.length = 64 then ⟨mixv s.v (s.r.take s.n ++ l ++ s.r.drop (s.n + l.length)), s.r.take s.n ++ l ++ s.r.drop (s.n + l.length), 0⟩ else ⟨s.v, s.r.take s.n ++ l ++ s.r.drop (s.n + l.length), s.n + l.length⟩ := by
  split
  · exact pushes_full l s h (by assumption)
  · have e1 := pushes_n l s h.2.2 (by omega)
    have e2 := pushes_r l s h (by omega)
    calc pushes s l = ⟨(pushes s l).v, (pushes s l).r, (pushes s l).n⟩ := rfl
      _ = _ := by rw [e1.1, e1.2, e2]
end Go.Proofs.YtlogcgeinbefjaaDoor

/- ChaCha20 as plain functions on lists of 32-bit words and bytes; the program's quarter round and the reference's, word by word, are one; no program in sight. -/
import Derived.Test.YtomflcpebnebpaaHashP
namespace Go.Proofs.Ytomflcpebnebpaa
set_option linter.unusedSimpArgs false
set_option linter.unusedVariables false
/-- turned to the left. -/
def rl (x : BitVec 32) (n : Nat) : BitVec 32 := x <<< n ||| x >>> (32 - n)
structure Q4 where
  (a b c d : BitVec 32)
def quart (a b c d : BitVec 32) : Q4 :=
  let a1 := a + b
  let d1 := rl (d ^^^ a1) 16
  let c1 := c + d1
  let b1 := rl (b ^^^ c1) 12
  let a2 := a1 + b1
  let d2 := rl (d1 ^^^ a2) 8
  let c2 := c1 + d2
  ⟨a2, rl (b1 ^^^ c2) 7, c2, d2⟩
/-- a quarter round on four words of a state. -/
def qr (s : List (BitVec 32)) (a b c d : Nat) : List (BitVec 32) :=
  (((s.set a (quart (wd s a) (wd s b) (wd s c) (wd s d)).a).set b (quart (wd s a) (wd s b) (wd s c) (wd s d)).b).set c (quart (wd s a) (wd s b) (wd s c) (wd s d)).c).set d (quart (wd s a) (wd s b) (wd s c) (wd s d)).d
theorem qr_length (s : List (BitVec 32)) (a b c d : Nat) : (qr s a b c d).length = s.length := by simp [qr]
/-- the n-th quarter round's words: 8 make a double round. -/
def qb (n : Nat) : Nat := 4 + (n % 4 + n % 8 / 4) % 4
def qc (n : Nat) : Nat := 8 + (n % 4 + 2 * (n % 8 / 4)) % 4
def qd (n : Nat) : Nat := 12 + (n % 4 + 3 * (n % 8 / 4)) % 4
/-- a state behind so many quarter rounds. -/
def qAt (s : List (BitVec 32)) : Nat → List (BitVec 32)
  | 0 => s
  | n + 1 => qr (qAt s n) (n % 4) (qb n) (qc n) (qd n)
theorem qAt_length (s : List (BitVec 32)) (n : Nat) : (qAt s n).length = s.length := by
  induction n with
  | zero => rfl
  | succ n ih => rw [qAt, qr_length, ih]
/-- byte i of a state's block. -/
def blkB (s : List (BitVec 32)) (i : Nat) : UInt8 := w8 ((wd s (i / 4) + wd (qAt s 80) (i / 4)) >>> (8 * (i % 4)))
def blkL (s : List (BitVec 32)) : Nat → List UInt8
  | 0 => []
  | n + 1 => blkL s n ++ [blkB s n]
theorem blkL_length (s : List (BitVec 32)) (n : Nat) : (blkL s n).length = n := by
  induction n with
  | zero => rfl
  | succ n ih => simp [blkL, ih]
/-- a word of a text, from byte i on. -/
def leW (l : List UInt8) (i : Nat) : BitVec 32 := u8w (bd l i) ||| u8w (bd l (i + 1)) <<< 8 ||| u8w (bd l (i + 2)) <<< 16 ||| u8w (bd l (i + 3)) <<< 24
def leWs (l : List UInt8) : Nat → List (BitVec 32)
  | 0 => []
  | n + 1 => leWs l n ++ [leW l (4 * n)]
theorem leWs_length (l : List UInt8) (n : Nat) : (leWs l n).length = n := by
  induction n with
  | zero => rfl
  | succ n ih => simp [leWs, ih]
def chaC : List (BitVec 32) := [0x61707865#32, 0x3320646e#32, 0x79622d32#32, 0x6b206574#32]
/-- the state of a key, a nonce and a counter. -/
def chaS (key nonce : List UInt8) (ctr : BitVec 32) : List (BitVec 32) := chaC ++ leWs key 8 ++ [ctr] ++ leWs nonce 3
theorem chaS_length (key nonce : List UInt8) (ctr : BitVec 32) : (chaS key nonce ctr).length = 16 := by simp [chaS, chaC, leWs_length]
/-- a block's bytes. -/
def chaB (key nonce : List UInt8) (ctr : BitVec 32) : List UInt8 := blkL (chaS key nonce ctr) 64
theorem chaB_length (key nonce : List UInt8) (ctr : BitVec 32) : (chaB key nonce ctr).length = 64 := blkL_length _ _
/-- byte i of the stream from a counter on. -/
def strB (key nonce : List UInt8) (ctr : Nat) (i : Nat) : UInt8 := bd (chaB key nonce (BitVec.ofNat 32 (ctr + i / 64))) (i % 64)
def strL (key nonce : List UInt8) (ctr : Nat) : Nat → List UInt8
  | 0 => []
  | n + 1 => strL key nonce ctr n ++ [strB key nonce ctr n]
/-- a text, xor the stream. -/
def xorS (key nonce : List UInt8) (ctr : Nat) (t : List UInt8) : Nat → List UInt8
  | 0 => []
  | n + 1 => xorS key nonce ctr t n ++ [bd t n ^^^ strB key nonce ctr n]
theorem strL_length (key nonce : List UInt8) (ctr n : Nat) : (strL key nonce ctr n).length = n := by
  induction n with
  | zero => rfl
  | succ n ih => simp [strL, ih]
theorem xorS_length (key nonce : List UInt8) (ctr : Nat) (t : List UInt8) (n : Nat) : (xorS key nonce ctr t n).length = n := by
  induction n with
  | zero => rfl
  | succ n ih => simp [xorS, ih]
theorem bd_append_left (a b : List UInt8) (i : Nat) (h : i < a.length) : bd (a ++ b) i = bd a i := by
  simp [bd, List.getD, List.getElem?_append_left h]
theorem bd_append_last (a : List UInt8) (x : UInt8) : bd (a ++ [x]) a.length = x := by
  simp [bd, List.getD]
theorem xorS_get (key nonce : List UInt8) (ctr : Nat) (t : List UInt8) (n i : Nat) (h : i < n) : bd (xorS key nonce ctr t n) i = bd t i ^^^ strB key nonce ctr i := by
  induction n with
  | zero => omega
  | succ n ih =>
    by_cases hi : i < n
    · rw [xorS, bd_append_left _ _ _ (by rw [xorS_length]; exact hi), ih hi]
    · obtain rfl : i = n := by omega
      have := bd_append_last (xorS key nonce ctr t i) (bd t i ^^^ strB key nonce ctr i)
      rw [xorS_length] at this
      rw [xorS, this]
theorem list_ext_bd {a b : List UInt8} (hl : a.length = b.length) (h : ∀ i, i < a.length → bd a i = bd b i) : a = b := by
  apply List.ext_getElem hl
  intro i h1 h2
  have := h i h1
  simpa [bd, List.getD, List.getElem?_eq_getElem h1, List.getElem?_eq_getElem h2] using this
/-- TWICE IS NOT AT ALL. -/
theorem xorS_twice (key nonce : List UInt8) (ctr : Nat) (t : List UInt8) : xorS key nonce ctr (xorS key nonce ctr t t.length) t.length = t := by
  apply list_ext_bd (xorS_length _ _ _ _ _)
  intro i hi
  rw [xorS_length] at hi
  rw [xorS_get _ _ _ _ _ _ hi, xorS_get _ _ _ _ _ _ hi, UInt8.xor_assoc, UInt8.xor_self, UInt8.xor_zero]
theorem list_ext_wd {a b : List (BitVec 32)} (hl : a.length = b.length) (h : ∀ i, i < a.length → wd a i = wd b i) : a = b := by
  apply List.ext_getElem hl
  intro i h1 h2
  have := h i h1
  simpa [wd, List.getD, List.getElem?_eq_getElem h1, List.getElem?_eq_getElem h2] using this
theorem strB_later (key nonce : List UInt8) (ctr n i : Nat) : strB key nonce (ctr + n) i = strB key nonce ctr (64 * n + i) := by
  unfold strB
  rw [show (64 * n + i) / 64 = n + i / 64 by omega, show (64 * n + i) % 64 = i % 64 by omega, Nat.add_assoc]
theorem strB_first (key nonce : List UInt8) (ctr i : Nat) (h : i < 64) : strB key nonce ctr i = bd (chaB key nonce (BitVec.ofNat 32 ctr)) i := by
  unfold strB
  rw [Nat.div_eq_of_lt h, Nat.mod_eq_of_lt h, Nat.add_zero]
theorem strL_get (key nonce : List UInt8) (ctr n i : Nat) (h : i < n) : bd (strL key nonce ctr n) i = strB key nonce ctr i := by
  induction n with
  | zero => omega
  | succ n ih =>
    by_cases hi : i < n
    · rw [strL, bd_append_left _ _ _ (by rw [strL_length]; exact hi), ih hi]
    · obtain rfl : i = n := by omega
      have := bd_append_last (strL key nonce ctr i) (strB key nonce ctr i)
      rw [strL_length] at this
      rw [strL, this]
theorem bd_zeros (m i : Nat) : bd (List.replicate m (0 : UInt8)) i = 0 := by
  unfold bd
  rw [List.getD, List.getElem?_replicate]
  split <;> rfl
theorem xorS_zeros (key nonce : List UInt8) (ctr m : Nat) : xorS key nonce ctr (List.replicate m 0) m = strL key nonce ctr m := by
  apply list_ext_bd (by rw [xorS_length, strL_length])
  intro i hi
  rw [xorS_length] at hi
  rw [xorS_get _ _ _ _ _ _ hi, strL_get _ _ _ _ _ hi, bd_zeros, UInt8.zero_xor]
theorem bd_drop (l : List UInt8) (m i : Nat) : bd (l.drop m) i = bd l (m + i) := by
  simp [bd, List.getD, List.getElem?_drop]
theorem bd_take (l : List UInt8) (m i : Nat) (h : i < m) : bd (l.take m) i = bd l i := by
  simp [bd, List.getD, List.getElem?_take, h]
/-- FROM A LATER COUNTER ON the stream goes on. -/
theorem strL_drop (key nonce : List UInt8) (ctr n m : Nat) : (strL key nonce ctr (64 * n + m)).drop (64 * n) = strL key nonce (ctr + n) m := by
  apply list_ext_bd (by rw [List.length_drop, strL_length, strL_length]; omega)
  intro i hi
  rw [List.length_drop, strL_length] at hi
  rw [bd_drop, strL_get _ _ _ _ _ (by omega), strL_get _ _ _ _ _ (by omega), strB_later]
theorem strL_block (key nonce : List UInt8) (ctr m : Nat) (h : 64 ≤ m) : (strL key nonce ctr m).take 64 = chaB key nonce (BitVec.ofNat 32 ctr) := by
  apply list_ext_bd (by rw [List.length_take, strL_length, chaB_length]; omega)
  intro i hi
  rw [List.length_take, strL_length] at hi
  rw [bd_take _ _ _ (by omega), strL_get _ _ _ _ _ (by omega), strB_first _ _ _ _ (by omega)]
end Go.Proofs.Ytomflcpebnebpaa

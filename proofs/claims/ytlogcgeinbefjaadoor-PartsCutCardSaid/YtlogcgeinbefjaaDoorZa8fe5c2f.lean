/- From a law's walk ('returns true; below the call's own memory nothing has turned') to its row: what is alike for every law of a seat. SHA-256 as plain functions on lists of 32-bit words and bytes, in the program's own order of work; no program in sight. The walks of package hash's inner functions: words.at, words.grow, hasher.mix. The walk of package hash's hasher.mix. The walks of package hash's hasher.take, begin, eight. The walks of package hash's begin, eight, hasher.end. The walk of package hash's hasher.end. The walks of package hash's Sum, Bind, Short. What laws over hash share: the table below a call, slice literals of texts, joined texts. Slices of texts: what the call made, what it read, a copy. A slice literal as the call's own; an append of whatever slice of texts to it. The walks of hash.Short. The joiner in memory; its small calls. The joiner's searches. The queues' puts. slices.Grow, slices.Concat, over windows; the queue's cut. The queue's cut. The joiner's steps, in memory. DERIVED: THE SHELF's CONTRACTS AT THIS DUMP, IN PLAIN WORDS (tools/lay-plain.mjs out of 'TrydShelf.lean', which tools/lay-shelf.mjs wrote): THE SAME DECLARATIONS UNDER THE SAME NAMES: 'import', 'namespace', 'open', 'def', 'theorem' AND NOTHING ELSE: no command of the shelf's: FOR A HAND-IN. Each laying: the table of numbers ('.._ren') and one theorem, a field a fact of the dump's own or the kernel's comparison; each contract: ONE APPLICATION. What Take does, plainly. (Joiner).Take. (Joiner).Take, further. -/
import Derived.Test.YtlogcgeinbefjaaDoorZ0deb1ec8
import Derived.Test.YtlogcgeinbefjaaDoorProg
import Derived.ProofKit
import Derived.OpenShut
import Derived.ChangeSame
import Derived.Carry
import Derived.SliceStrings
import Derived.SizedLaws
import Derived.Deep.DeepHandedRow
import Derived.Lib.LaidTab
import Derived.Outline
import Derived.Lib.Hide
import Derived.Deep.LoopGhost
import Derived.Test.YtlogcgeinbefjaaDoorWZeros
import Derived.Deep.Upon
import Derived.Shelf.Strings.OnBuilder
namespace Go.Proofs.YtlogcgeinbefjaaDoor
open Go.ChangeShapes Go.WideShapes Go.ChangeAt Go.RowKit
open Go.ChangeMaps (open_string shut_string)
set_option linter.unusedSimpArgs false
set_option linter.unusedVariables false

theorem own : ownKnob Tryd.prog.godebug = none := by kernel_rfl
theorem laidOut : laidOutB Tryd.prog = true := by kernel_rfl

theorem trodAll_below {H : Type} {enc : TypeId × Value → H} {P : Program} (hl : laidOutB P = true) {W W' : World} (hb : Below W.heap.size W W') :
    ∀ (ts : List TypeId) (vs : List Value) (ds : List (DataW H)) (ps : List MemPlace), (∀ t ∈ ts, P.readableRec t = true ∧ t < P.types.size) →
      DataW.TrodAll enc P W 0 (fun _ => true) true ts vs ds ps → (∀ x ∈ ps, x.block < W.heap.size) → DataW.TrodAll enc P W' 0 (fun b => decide (b < W.heap.size)) true ts vs ds ps
  | [], vs, ds, ps, _, h, _ => by
    obtain ⟨rfl, rfl, rfl⟩ := trodAll_nil h
    exact trodAll_mk0
  | t :: ts, vs, ds, ps, ht, h, hlt => by
    obtain ⟨v, vs, d, ds, p, q, rfl, rfl, rfl, h0, hr⟩ := trodAll_cons h
    obtain ⟨h1, h2⟩ := ht t (List.mem_cons_self ..)
    exact trodAll_cons_mk (Below.trod hl h1 h2 h0 hb (fun x hx => hlt x (List.mem_append.2 (.inl hx))))
      (trodAll_below hl hb ts vs ds q (fun t' h' => ht t' (List.mem_cons_of_mem _ h')) hr (fun x hx => hlt x (List.mem_append.2 (.inr hx))))

/-- A LAW's POST: true, the arguments read as they did, nothing old has turned. -/
theorem post_law {H : Type} {enc : TypeId × Value → H} {P : Program} {f : Func} {s : ChangeSpec} {apart fresh handsOn : Bool} {W W' : World} {args : Array Value} {ds gs : List (DataW H)} {before : List MemPlace}
    (hl : laidOutB P = true) (hts : ∀ t ∈ f.params.toList, P.readableRec t = true ∧ t < P.types.size)
    (hW : DataW.Whole enc P f.params.toList s.vars apart W args.toList ds gs before) (hv : s.vars = []) (b : TypeId) (hb1 : f.resultTypes = #[b]) (hb2 : P.underlying b = some .bool)
    (hf1 : (s.fn H (ds ++ gs)).results = [.lit (.bool true)]) (hf2 : (s.fn H (ds ++ gs)).args = ds) (hf3 : (s.fn H (ds ++ gs)).vars = []) (hb : Below W.heap.size W W') :
    s.post enc P f apart fresh handsOn false W args (.bool true) W' := by
  have hW' := hW
  have hlt : ∀ x ∈ before, x.block < W.heap.size := fun x hx => hW.lt x hx
  obtain ⟨p, q, hA0, hV, hpq, hfz, hnd⟩ := hW
  have hA : DataW.TrodAll enc P W 0 (fun _ => true) true f.params.toList args.toList ds p := hA0
  rw [hv] at hV
  obtain ⟨rfl, rfl⟩ := trodVars_none hV
  refine ⟨ds, [], before, [], p, [], hW', ?_, ?_, ?_, hb.frame _, fun h => by cases h⟩
  · rw [hf1, hb1]
    exact trodAll_mk1 (shut_bool hb2 _)
  · rw [hf2]
    refine trodAll_below hl hb _ _ _ _ hts hA (fun x hx => hlt x ?_)
    rw [hpq]
    exact List.mem_append.2 (.inl hx)
  · rw [hv, hf3]
    rfl

/-! ### opening arguments -/
section
variable {H : Type} {enc : TypeId × Value → H} {P : Program} {w : World} {base : Nat} {sp : Nat → Bool} {held : Bool} {r : Reach} {b0 : Nat} {t : TypeId} {v : Value} {d : DataW H} {ps : List MemPlace}
theorem open_bytes (ht : P.underlying t = some .string) (hval : Value.okWide P w r b0 t v) (hd : DataW.Trod enc P w base sp held t v d ps) :
    ∃ l : List UInt8, v = .string ⟨l.toArray⟩ ∧ d = .lit (.string l) ∧ l.length ≤ 9223372036854775807 := by
  obtain ⟨s, rfl, rfl, _, hs⟩ := open_string ht hval hd
  refine ⟨s.data.toList, ?_, rfl, ?_⟩
  · rw [← bytes_eq s]
  · have h1 : s.data.toList.length = s.size := Array.length_toList
    rw [h1]
    exact hs
end
end Go.Proofs.YtlogcgeinbefjaaDoor
namespace Go.Proofs.YtlogcgeinbefjaaDoor
set_option maxRecDepth 100000

def ksL : List (BitVec 32) := [0x428a2f98#32, 0x71374491#32, 0xb5c0fbcf#32, 0xe9b5dba5#32, 0x3956c25b#32, 0x59f111f1#32, 0x923f82a4#32, 0xab1c5ed5#32,
  0xd807aa98#32, 0x12835b01#32, 0x243185be#32, 0x550c7dc3#32, 0x72be5d74#32, 0x80deb1fe#32, 0x9bdc06a7#32, 0xc19bf174#32,
  0xe49b69c1#32, 0xefbe4786#32, 0x0fc19dc6#32, 0x240ca1cc#32, 0x2de92c6f#32, 0x4a7484aa#32, 0x5cb0a9dc#32, 0x76f988da#32,
  0x983e5152#32, 0xa831c66d#32, 0xb00327c8#32, 0xbf597fc7#32, 0xc6e00bf3#32, 0xd5a79147#32, 0x06ca6351#32, 0x14292967#32,
  0x27b70a85#32, 0x2e1b2138#32, 0x4d2c6dfc#32, 0x53380d13#32, 0x650a7354#32, 0x766a0abb#32, 0x81c2c92e#32, 0x92722c85#32,
  0xa2bfe8a1#32, 0xa81a664b#32, 0xc24b8b70#32, 0xc76c51a3#32, 0xd192e819#32, 0xd6990624#32, 0xf40e3585#32, 0x106aa070#32,
  0x19a4c116#32, 0x1e376c08#32, 0x2748774c#32, 0x34b0bcb5#32, 0x391c0cb3#32, 0x4ed8aa4a#32, 0x5b9cca4f#32, 0x682e6ff3#32,
  0x748f82ee#32, 0x78a5636f#32, 0x84c87814#32, 0x8cc70208#32, 0x90befffa#32, 0xa4506ceb#32, 0xbef9a3f7#32, 0xc67178f2#32]
def iv : List (BitVec 32) := [0x6a09e667#32, 0xbb67ae85#32, 0x3c6ef372#32, 0xa54ff53a#32, 0x510e527f#32, 0x9b05688c#32, 0x1f83d9ab#32, 0x5be0cd19#32]

/-- turned to the right by n, as the code has it: to the left by 32 - n. -/
def rr (x : BitVec 32) (n : Nat) : BitVec 32 := x <<< (32 - n) ||| x >>> n
def sig0 (x : BitVec 32) : BitVec 32 := rr x 7 ^^^ rr x 18 ^^^ x >>> 3
def sig1 (x : BitVec 32) : BitVec 32 := rr x 17 ^^^ rr x 19 ^^^ x >>> 10
def wd (L : List (BitVec 32)) (i : Nat) : BitVec 32 := L.getD i 0
def growW (L : List (BitVec 32)) (i : Nat) : List (BitVec 32) :=
  L.set (i % 16) (wd L (i % 16) + (sig0 (wd L ((i - 15) % 16)) + wd L ((i - 7) % 16) + sig1 (wd L ((i - 2) % 16))))
def loadW (r : List UInt8) : Nat → List (BitVec 32)
  | 0 => List.replicate 16 0
  | k + 1 => (loadW r k).set (k / 4) (wd (loadW r k) (k / 4) <<< 8 ||| u8w (bd r k))
structure R8 where
  (a b c d e f g k : BitVec 32)
def R8.list (s : R8) : List (BitVec 32) := [s.a, s.b, s.c, s.d, s.e, s.f, s.g, s.k]
def R8.of (v : List (BitVec 32)) : R8 := ⟨wd v 0, wd v 1, wd v 2, wd v 3, wd v 4, wd v 5, wd v 6, wd v 7⟩
def rndT (s : R8) (ki wi : BitVec 32) : BitVec 32 := s.k + (rr s.e 6 ^^^ rr s.e 11 ^^^ rr s.e 25) + (s.g ^^^ s.e &&& (s.f ^^^ s.g)) + ki + wi
def rndU (s : R8) : BitVec 32 := (rr s.a 2 ^^^ rr s.a 13 ^^^ rr s.a 22) + (s.a &&& s.b ||| s.c &&& (s.a ||| s.b))
def rnd (s : R8) (t u : BitVec 32) : R8 := ⟨t + u, s.a, s.b, s.c, s.d + t, s.e, s.f, s.g⟩
def atRound (W : List (BitVec 32)) (i : Nat) : List (BitVec 32) := if 16 ≤ i then growW W i else W
def rounds (s : R8) (W : List (BitVec 32)) : Nat → R8 × List (BitVec 32)
  | 0 => (s, W)
  | i + 1 =>
    let p := rounds s W i
    let W' := atRound p.2 i
    (rnd p.1 (rndT p.1 (wd ksL i) (wd W' (i % 16))) (rndU p.1), W')
def addTo (v x : List (BitVec 32)) : Nat → List (BitVec 32)
  | 0 => v
  | i + 1 => (addTo v x i).set i (wd (addTo v x i) i + wd x i)
def mixv (v : List (BitVec 32)) (r : List UInt8) : List (BitVec 32) := addTo v (rounds (R8.of v) (loadW r 64) 64).1.list 8

/-- a hasher: eight words, what waits, and how much of that. -/
structure St where
  v : List (BitVec 32)
  r : List UInt8
  n : Nat
def St.ok (s : St) : Prop := s.v.length = 8 ∧ s.r.length = 64 ∧ s.n < 64
def St.okL (s : St) : Prop := s.v.length = 8 ∧ s.r.length = 64
theorem St.ok.l {s : St} (h : s.ok) : s.okL := ⟨h.1, h.2.1⟩
def push (s : St) (b : UInt8) : St := if s.n + 1 = 64 then ⟨mixv s.v (s.r.set s.n b), s.r.set s.n b, 0⟩ else ⟨s.v, s.r.set s.n b, s.n + 1⟩
def pushes (s : St) (l : List UInt8) : St := l.foldl push s
def st0 : St := ⟨iv, List.replicate 64 0, 0⟩
def eightL (n : Nat) : List UInt8 := [UInt8.ofNat (n / 2 ^ 56), UInt8.ofNat (n / 2 ^ 48), UInt8.ofNat (n / 2 ^ 40), UInt8.ofNat (n / 2 ^ 32), UInt8.ofNat (n / 2 ^ 24), UInt8.ofNat (n / 2 ^ 16), UInt8.ofNat (n / 2 ^ 8), UInt8.ofNat n]
def wordL (x : BitVec 32) : List UInt8 := [w8 (x >>> 24), w8 (x >>> 16), w8 (x >>> 8), w8 (x >>> 0)]
def outL (v : List (BitVec 32)) : List UInt8 := v.flatMap wordL
def padZ (s : St) : St := pushes s (List.replicate ((120 - s.n) % 64) 0)
/-- what 'end' tells of a hasher that has taken so many bytes. -/
def finish (s : St) (t : Nat) : List UInt8 := outL (pushes (padZ (push s 128)) (eightL (t * 8 % 18446744073709551616))).v
/-- THE DIGEST of a text. -/
def sha (l : List UInt8) : List UInt8 := finish (pushes st0 l) l.length

theorem rounds_zero (s : R8) (W : List (BitVec 32)) : rounds s W 0 = (s, W) := rfl
theorem rounds_succ (s : R8) (W : List (BitVec 32)) (i : Nat) : rounds s W (i + 1) = (rnd (rounds s W i).1 (rndT (rounds s W i).1 (wd ksL i) (wd (atRound (rounds s W i).2 i) (i % 16))) (rndU (rounds s W i).1), atRound (rounds s W i).2 i) := rfl
/-! ### lengths -/
theorem growW_length (L : List (BitVec 32)) (i : Nat) : (growW L i).length = L.length := by simp [growW]
theorem atRound_length (L : List (BitVec 32)) (i : Nat) : (atRound L i).length = L.length := by
  unfold atRound; split
  · exact growW_length _ _
  · rfl
theorem loadW_length (r : List UInt8) (k : Nat) : (loadW r k).length = 16 := by
  induction k with
  | zero => rfl
  | succ k ih => simp [loadW, ih]
theorem rounds_length (s : R8) (W : List (BitVec 32)) (k : Nat) : (rounds s W k).2.length = W.length := by
  induction k with
  | zero => rfl
  | succ k ih => simp only [rounds]; rw [atRound_length, ih]
theorem addTo_length (v x : List (BitVec 32)) (k : Nat) : (addTo v x k).length = v.length := by
  induction k with
  | zero => rfl
  | succ k ih => simp [addTo, ih]
theorem mixv_length (v : List (BitVec 32)) (r : List UInt8) : (mixv v r).length = v.length := addTo_length _ _ _
theorem push_ok {s : St} (h : s.ok) (b : UInt8) : (push s b).ok := by
  obtain ⟨h1, h2, h3⟩ := h
  unfold push
  split
  · exact ⟨by rw [mixv_length]; exact h1, by simpa using h2, by show 0 < 64; decide⟩
  · exact ⟨h1, by simpa using h2, by show s.n + 1 < 64; omega⟩
theorem pushes_ok {s : St} (h : s.ok) (l : List UInt8) : (pushes s l).ok := by
  induction l generalizing s with
  | nil => exact h
  | cons b l ih => exact ih (push_ok h b)
theorem st0_ok : st0.ok := ⟨rfl, by simp [st0], by decide⟩
theorem pushes_append (s : St) (a b : List UInt8) : pushes s (a ++ b) = pushes (pushes s a) b := by simp [pushes]
theorem eightL_length (n : Nat) : (eightL n).length = 8 := rfl
theorem outL_length (v : List (BitVec 32)) : (outL v).length = 4 * v.length := by
  induction v with
  | nil => rfl
  | cons x v ih =>
    have : outL (x :: v) = wordL x ++ outL v := rfl
    rw [this, List.length_append, ih]; simp [wordL]; omega
theorem sha_length (l : List UInt8) : (sha l).length = 32 := by
  unfold sha finish
  rw [outL_length]
  have := (pushes_ok (pushes_ok (push_ok (pushes_ok st0_ok l) 128) (List.replicate ((120 - (push (pushes st0 l) 128).n) % 64) 0)) (eightL (l.length * 8 % 18446744073709551616))).1
  unfold padZ
  omega

/-! ### several bytes at once: no more than fit -/
theorem pushes_n (l : List UInt8) : ∀ s : St, s.n < 64 → s.n + l.length < 64 → (pushes s l).n = s.n + l.length ∧ (pushes s l).v = s.v := by
  induction l with
  | nil => intro s _ _; exact ⟨rfl, rfl⟩
  | cons b l ih =>
    intro s h1 h2
    simp only [List.length_cons] at h2 ⊢
    have e : push s b = ⟨s.v, s.r.set s.n b, s.n + 1⟩ := by unfold push; rw [if_neg (by omega)]
    show (pushes (push s b) l).n = _ ∧ (pushes (push s b) l).v = _
    rw [e]
    have := ih ⟨s.v, s.r.set s.n b, s.n + 1⟩ (by show s.n + 1 < 64; omega) (by show s.n + 1 + l.length < 64; omega)
    refine ⟨by rw [this.1]; show s.n + 1 + l.length = _; omega, this.2⟩
theorem pushes_r (l : List UInt8) : ∀ s : St, s.ok → s.n + l.length < 64 → (pushes s l).r = s.r.take s.n ++ l ++ s.r.drop (s.n + l.length) := by
  induction l with
  | nil => intro s h _; simp [pushes]
  | cons b l ih =>
    intro s h h2
    simp only [List.length_cons] at h2 ⊢
    have e : push s b = ⟨s.v, s.r.set s.n b, s.n + 1⟩ := by unfold push; rw [if_neg (by omega)]
    show (pushes (push s b) l).r = _
    have hok := push_ok h b
    rw [ih _ hok (by rw [e]; show s.n + 1 + l.length < 64; omega), e]
    show (s.r.set s.n b).take (s.n + 1) ++ l ++ (s.r.set s.n b).drop (s.n + 1 + l.length) = _
    have hl := h.2.1
    rw [List.drop_set_of_lt (by omega), List.take_set, List.take_succ_eq_append_getElem (by omega), List.set_append_right _ _ (by simp; omega)]
    simp [List.length_take, Nat.min_eq_left (show s.n ≤ s.r.length by omega)]
    rw [show s.n + 1 + l.length = s.n + (l.length + 1) from by omega]
/-- as many as fill the block: it is mixed. -/
theorem pushes_full (l : List UInt8) : ∀ s : St, s.ok → s.n + l.length = 64 → pushes s l = ⟨mixv s.v (s.r.take s.n ++ l ++ s.r.drop (s.n + l.length)), s.r.take s.n ++ l ++ s.r.drop (s.n + l.length), 0⟩ := by
  intro s h h2
  have hne : l ≠ [] := by rintro rfl; have := h.2.2; simp at h2; omega
  obtain ⟨a, b, rfl⟩ : ∃ a b, l = a ++ [b] := ⟨l.dropLast, l.getLast hne, (List.dropLast_concat_getLast hne).symm⟩
  simp only [List.length_append, List.length_singleton] at h2
  rw [pushes_append]
  have e1 := pushes_n a s h.2.2 (by omega)
  have e2 := pushes_r a s h (by omega)
  have e3 : pushes (pushes s a) [b] = push (pushes s a) b := rfl
  rw [e3]
  unfold push
  rw [if_pos (by rw [e1.1]; omega), e1.2, e2, e1.1]
  have hl := h.2.1
  have e4 : (s.r.take s.n ++ a ++ s.r.drop (s.n + a.length)).set (s.n + a.length) b = s.r.take s.n ++ (a ++ [b]) ++ s.r.drop (s.n + (a ++ [b]).length) := by
    rw [List.set_append_right _ _ (by simp; omega)]
    have e5 : s.n + a.length - (s.r.take s.n ++ a).length = 0 := by simp; omega
    rw [e5]
    have hd : s.r.drop (s.n + a.length) = s.r[s.n + a.length] :: s.r.drop (s.n + a.length + 1) := (List.drop_eq_getElem_cons (by omega))
    rw [hd]
    simp [List.append_assoc, Nat.add_assoc]
  rw [e4]
/-- what one copy brings, in both cases. -/
theorem pushes_part (s : St) (h : s.ok) (l : List UInt8) (hle : s.n + l.length ≤ 64) :
    pushes s l = if s.n + l.length = 64 then ⟨mixv s.v (s.r.take s.n ++ l ++ s.r.drop (s.n + l.length)), s.r.take s.n ++ l ++ s.r.drop (s.n + l.length), 0⟩ else ⟨s.v, s.r.take s.n ++ l ++ s.r.drop (s.n + l.length), s.n + l.length⟩ := by
  split
  · exact pushes_full l s h (by assumption)
  · have e1 := pushes_n l s h.2.2 (by omega)
    have e2 := pushes_r l s h (by omega)
    calc pushes s l = ⟨(pushes s l).v, (pushes s l).r, (pushes s l).n⟩ := rfl
      _ = _ := by rw [e1.1, e1.2, e2]
end Go.Proofs.YtlogcgeinbefjaaDoor
namespace Go.Proofs.YtlogcgeinbefjaaDoor
set_option maxRecDepth 100000
open Go.RowKit

def cw (l : List (BitVec 32)) : List Value := l.map fun x => .int .u32 (n32 x)
def wc (l : List (BitVec 32)) : Array Value := (cw l).toArray
theorem wc_get (l : List (BitVec 32)) (i : Nat) (h : i < l.length) : (wc l)[i]? = some (.int .u32 (n32 (wd l i))) := by
  simp [wc, cw, wd, List.getElem?_eq_getElem h]
theorem wc_set (l : List (BitVec 32)) (i : Nat) (x : BitVec 32) : (wc l).setIfInBounds i (.int .u32 (n32 x)) = wc (l.set i x) := by
  simp [wc, cw, List.map_set]

theorem and15 (i : Nat) (hi : i < 1000) : bits BinOp.and IntKind.i64 (i : Int) 15 = ((i % 16 : Nat) : Int) := by
  show IntKind.i64.wrap ((BitVec.ofInt 64 (i : Int) &&& BitVec.ofInt 64 15).toNat : Int) = _
  have h1 : (BitVec.ofInt 64 (i : Int)).toNat = i := by rw [BitVec.ofInt_natCast, BitVec.toNat_ofNat]; exact Nat.mod_eq_of_lt (by omega)
  have h2 : (BitVec.ofInt 64 15).toNat = 2 ^ 4 - 1 := by decide
  rw [BitVec.toNat_and, h1, h2, Nat.and_two_pow_sub_one_eq_mod]
  exact (IntWalk.i64_in _ (by omega)).trans rfl

/-- how far a count turns to the left. -/
def rotm (k : Int) : Nat := (bits .and .u64 (IntKind.u64.wrap k) 31).toNat
theorem rotm_eq (k : Int) : bits .and .u64 (IntKind.u64.wrap k) 31 = (rotm k : Int) ∧ rotm k ≤ 31 := by
  have h1 : 0 ≤ IntKind.u64.wrap k ∧ IntKind.u64.wrap k < 18446744073709551616 := by
    simp [IntKind.wrap, IntKind.bits, IntKind.signed]; omega
  have h := u64_and (IntKind.u64.wrap k) 31 h1.1 h1.2 (by decide) (by decide)
  have hle : (IntKind.u64.wrap k).toNat &&& (31 : Int).toNat ≤ 31 := Nat.and_le_right
  unfold rotm
  omega
def rrK (x : BitVec 32) (k : Int) : BitVec 32 := x <<< rotm k ||| x >>> (32 - rotm k)
theorem rrK_neg (x : BitVec 32) (n : Nat) (k : Int) (hk : rotm k = 32 - n) (hn : n ≤ 32) : rrK x k = rr x n := by
  unfold rrK rr; rw [hk, show 32 - (32 - n) = n from by omega]

set_option maxHeartbeats 400000 in
theorem rot_any (x : BitVec 32) (k : Int) (w : World) :
    Calls Tryd.prog 57 #[.int .u32 (n32 x), .int .i64 k] w fun e w' => e = .returned (.int .u32 (n32 (rrK x k))) ∧ w' = w := by
  obtain ⟨hk, hm⟩ := rotm_eq k
  have h0 : 0 ≤ bits .and .u64 (IntKind.u64.wrap k) 31 := by omega
  have hs : IntKind.u64.wrap (32 - bits .and .u64 (IntKind.u64.wrap k) 31) = ((32 - rotm k : Nat) : Int) := by
    rw [hk, wrap_u64e]; omega
  have h1 : 0 ≤ IntKind.u64.wrap (32 - bits .and .u64 (IntKind.u64.wrap k) 31) := by omega
  have E1 := v32_shl_var x _ (rotm k) hk (by omega)
  have E2 := v32_shr_var x _ (32 - rotm k) hs (by omega)
  have E3 : rrK x k = x <<< rotm k ||| x >>> (32 - rotm k) := rfl
  have H1 := Lib.hid hk
  have H2 := Lib.hid hs
  have H3 := Lib.hid E1
  have H4 := Lib.hid E2
  have H5 := Lib.hid E3
  clear hk hs E1 E2 E3 hm
  go_enter Tryd.func57, Tryd.ntmps57
  go_wp2
  go_ret
  refine ⟨?_, rfl⟩
  simp only [Array.getD_eq_getD_getElem?]
  simp only [H5.out, ← v32_or, ← H3.out, ← H4.out]
  rfl
set_option maxHeartbeats 400000 in
theorem at_any (b i : Nat) (w : World) (hi : i < 1000) :
    Calls Tryd.prog 58 #[.pointer (some ⟨b, 0, none⟩), .int .i64 i] w fun e w' => e = .returned (.pointer (some ⟨b, i % 16, none⟩)) ∧ w' = w := by
  have h1 := and15 i hi
  have h2 : 0 ≤ ((i % 16 : Nat) : Int) ∧ ((i % 16 : Nat) : Int) < 16 := by omega
  go_enter Tryd.func58, Tryd.ntmps58
  go_wp2
  go_ret
  exact ⟨rfl, rfl⟩

theorem rr7 (x : BitVec 32) : rrK x (-7) = rr x 7 := rrK_neg x 7 _ (by decide +kernel) (by decide)
theorem rr18 (x : BitVec 32) : rrK x (-18) = rr x 18 := rrK_neg x 18 _ (by decide +kernel) (by decide)
theorem rr17 (x : BitVec 32) : rrK x (-17) = rr x 17 := rrK_neg x 17 _ (by decide +kernel) (by decide)
theorem rr19 (x : BitVec 32) : rrK x (-19) = rr x 19 := rrK_neg x 19 _ (by decide +kernel) (by decide)
theorem rr6 (x : BitVec 32) : rrK x (-6) = rr x 6 := rrK_neg x 6 _ (by decide +kernel) (by decide)
theorem rr11 (x : BitVec 32) : rrK x (-11) = rr x 11 := rrK_neg x 11 _ (by decide +kernel) (by decide)
theorem rr25 (x : BitVec 32) : rrK x (-25) = rr x 25 := rrK_neg x 25 _ (by decide +kernel) (by decide)
theorem rr2 (x : BitVec 32) : rrK x (-2) = rr x 2 := rrK_neg x 2 _ (by decide +kernel) (by decide)
theorem rr13 (x : BitVec 32) : rrK x (-13) = rr x 13 := rrK_neg x 13 _ (by decide +kernel) (by decide)
theorem rr22 (x : BitVec 32) : rrK x (-22) = rr x 22 := rrK_neg x 22 _ (by decide +kernel) (by decide)

section
attribute [local go_sem] v32_add v32_xor v32_and v32_or v32_shr3 v32_shr10 v32_shl8 rr7 rr18 rr17 rr19 rr6 rr11 rr25 rr2 rr13 rr22
set_option maxHeartbeats 800000 in
theorem grow_any (b i : Nat) (w : World) (L : List (BitVec 32)) (hL : L.length = 16) (hb : Blk w b 127 (wc L)) (hi : 16 ≤ i) (hi2 : i < 64) :
    Calls Tryd.prog 56 #[.pointer (some ⟨b, 0, none⟩), .int .i64 i] w fun e w' => e = .returned (.tuple #[]) ∧
      Blk w' b 127 (wc (growW L i)) ∧ w.grownBy w' (some b) := by
  have c1 := (hb.cell ((i - 15) % 16)).trans (wc_get L _ (by omega))
  have c2 := (hb.cell ((i - 2) % 16)).trans (wc_get L _ (by omega))
  have c3 := (hb.cell (i % 16)).trans (wc_get L _ (by omega))
  have c4 := (hb.cell ((i - 7) % 16)).trans (wc_get L _ (by omega))
  have f3 := hb.frozen (i % 16)
  have hfin : ∀ n, Blk ((w.drewN n).setCell ⟨b, i % 16, none⟩ (.int .u32 (n32 (wd L (i % 16) + (sig0 (wd L ((i - 15) % 16)) + wd L ((i - 7) % 16) + sig1 (wd L ((i - 2) % 16))))))) b 127 (wc (growW L i)) ∧
      w.grownBy ((w.drewN n).setCell ⟨b, i % 16, none⟩ (.int .u32 (n32 (wd L (i % 16) + (sig0 (wd L ((i - 15) % 16)) + wd L ((i - 7) % 16) + sig1 (wd L ((i - 2) % 16))))))) (some b) := by
    intro n
    refine ⟨?_, only_set (only_drewN (only_refl _ _) n) (.inl rfl) _⟩
    have := (hb.drewN n).set_ (i % 16) (.int .u32 (n32 (wd L (i % 16) + (sig0 (wd L ((i - 15) % 16)) + wd L ((i - 7) % 16) + sig1 (wd L ((i - 2) % 16))))))
    rw [wc_set] at this
    exact this
  unfold sig0 sig1 at hfin
  have HF := Lib.hid hfin
  clear hfin
  have HB := Lib.hid hb
  clear hb hL
  have e1 : IntKind.i64.wrap ((i : Int) - 15) = ((i - 15 : Nat) : Int) := (IntWalk.i64_in _ (by omega)).trans (by omega)
  have e2 : IntKind.i64.wrap ((i : Int) - 2) = ((i - 2 : Nat) : Int) := (IntWalk.i64_in _ (by omega)).trans (by omega)
  have e3 : IntKind.i64.wrap ((i : Int) - 7) = ((i - 7 : Nat) : Int) := (IntWalk.i64_in _ (by omega)).trans (by omega)
  go_enter Tryd.func56, Tryd.ntmps56
  go_wp2_with fail
  go_quiet ((go_at_call 58; exact Calls.quiet_of_same (at_any _ _ _ (by omega))))
  go_wp2_with (go_at_call 57; refine (rot_any _ _ _).mono ?_; rintro e w' ⟨rfl, rfl⟩)
  refine still_tail 17 (by kernel_rfl) (by kernel_rfl) ?_
  simp only [List.take_succ_cons, List.take_zero, List.drop_succ_cons, List.drop_zero]
  repeat still_step
  still_call (at_any _ _ _ (by omega))
  repeat still_step
  still_call (at_any _ _ _ (by omega))
  repeat still_step
  refine wpStill_nil ?_
  go_wp2
  go_end0
  refine ⟨rfl, ?_⟩
  simp only [v32_add]
  exact HF.out _
end
end Go.Proofs.YtlogcgeinbefjaaDoor
namespace Go.Proofs.YtlogcgeinbefjaaDoor
open Go.RowKit
set_option linter.unusedSimpArgs false
set_option linter.unusedVariables false
set_option maxRecDepth 100000

/-- a hasher's cells. -/
def hc (s : St) (t : BitVec 64) : Array Value := (cw s.v ++ cb s.r ++ [Value.int .i64 (s.n : Int), Value.int .u64 (t.toNat : Int)]).toArray
theorem hc_v {s : St} (h : s.okL) (t : BitVec 64) (i : Nat) (hi : i < 8) : (hc s t)[i]? = some (.int .u32 (n32 (wd s.v i))) := by
  have := h.1
  simp only [hc, List.getElem?_toArray, List.append_assoc]
  rw [List.getElem?_append_left (by simp [cw]; omega)]
  simp [cw, wd, List.getElem?_eq_getElem (show i < s.v.length by omega)]
theorem hc_r {s : St} (h : s.okL) (t : BitVec 64) (i : Nat) (hi : i < 64) : (hc s t)[8 + i]? = some (.int .u8 (n8 (bd s.r i))) := by
  have := h.1; have := h.2
  simp only [hc, List.getElem?_toArray, List.append_assoc]
  rw [List.getElem?_append_right (by simp [cw]; omega), List.getElem?_append_left (by simp [cw, cb]; omega)]
  simp only [cw, cb, List.length_map, h.1, Nat.add_sub_cancel_left]
  simp [bd, List.getElem?_eq_getElem (show i < s.r.length by omega)]
theorem hc_n {s : St} (h : s.okL) (t : BitVec 64) : (hc s t)[72]? = some (.int .i64 (s.n : Int)) := by
  simp only [hc, List.getElem?_toArray]
  rw [List.getElem?_append_right (by simp [cw, cb, h.1, h.2])]
  simp [cw, cb, h.1, h.2]
theorem hc_t {s : St} (h : s.okL) (t : BitVec 64) : (hc s t)[73]? = some (.int .u64 (t.toNat : Int)) := by
  simp only [hc, List.getElem?_toArray]
  rw [List.getElem?_append_right (by simp [cw, cb, h.1, h.2])]
  simp [cw, cb, h.1, h.2]
theorem hc_size {s : St} (h : s.okL) (t : BitVec 64) : (hc s t).size = 74 := by simp [hc, cw, cb, h.1, h.2]
theorem hc_set_v {s : St} (h : s.okL) (t : BitVec 64) (i : Nat) (hi : i < 8) (x : BitVec 32) : (hc s t).setIfInBounds i (.int .u32 (n32 x)) = hc ⟨s.v.set i x, s.r, s.n⟩ t := by
  have := h.1
  simp only [hc, List.setIfInBounds_toArray, List.append_assoc]
  rw [List.set_append_left _ _ (by simp [cw]; omega)]
  simp [cw, List.map_set]
theorem hc_set_n {s : St} (h : s.okL) (t : BitVec 64) (k : Nat) : (hc s t).setIfInBounds 72 (.int .i64 (k : Int)) = hc ⟨s.v, s.r, k⟩ t := by
  simp only [hc, List.setIfInBounds_toArray]
  rw [List.set_append_right _ _ (by simp [cw, cb, h.1, h.2])]
  simp [cw, cb, h.1, h.2]
theorem hc_set_t {s : St} (h : s.okL) (t u : BitVec 64) : (hc s t).setIfInBounds 73 (.int .u64 (u.toNat : Int)) = hc s u := by
  simp only [hc, List.setIfInBounds_toArray]
  rw [List.set_append_right _ _ (by simp [cw, cb, h.1, h.2])]
  simp [cw, cb, h.1, h.2]
/-- the table of constants lies where the program has it. -/
def KsAt (w : World) : Prop := ∀ i, i < 64 → w.cell? ⟨1, i, none⟩ = some (.int .u32 (n32 (wd ksL i)))

theorem ix8_0 (R : R8) (w : World) : (Instr.index 106 (.agg #[.int .u32 (n32 R.a), .int .u32 (n32 R.b), .int .u32 (n32 R.c), .int .u32 (n32 R.d), .int .u32 (n32 R.e), .int .u32 (n32 R.f), .int .u32 (n32 R.g), .int .u32 (n32 R.k)]) (.int .i64 0)).run Tryd.prog w = .ok (.int .u32 (n32 R.a)) w := by kernel_rfl
theorem ix8_1 (R : R8) (w : World) : (Instr.index 106 (.agg #[.int .u32 (n32 R.a), .int .u32 (n32 R.b), .int .u32 (n32 R.c), .int .u32 (n32 R.d), .int .u32 (n32 R.e), .int .u32 (n32 R.f), .int .u32 (n32 R.g), .int .u32 (n32 R.k)]) (.int .i64 1)).run Tryd.prog w = .ok (.int .u32 (n32 R.b)) w := by kernel_rfl
theorem ix8_2 (R : R8) (w : World) : (Instr.index 106 (.agg #[.int .u32 (n32 R.a), .int .u32 (n32 R.b), .int .u32 (n32 R.c), .int .u32 (n32 R.d), .int .u32 (n32 R.e), .int .u32 (n32 R.f), .int .u32 (n32 R.g), .int .u32 (n32 R.k)]) (.int .i64 2)).run Tryd.prog w = .ok (.int .u32 (n32 R.c)) w := by kernel_rfl
theorem ix8_3 (R : R8) (w : World) : (Instr.index 106 (.agg #[.int .u32 (n32 R.a), .int .u32 (n32 R.b), .int .u32 (n32 R.c), .int .u32 (n32 R.d), .int .u32 (n32 R.e), .int .u32 (n32 R.f), .int .u32 (n32 R.g), .int .u32 (n32 R.k)]) (.int .i64 3)).run Tryd.prog w = .ok (.int .u32 (n32 R.d)) w := by kernel_rfl
theorem ix8_4 (R : R8) (w : World) : (Instr.index 106 (.agg #[.int .u32 (n32 R.a), .int .u32 (n32 R.b), .int .u32 (n32 R.c), .int .u32 (n32 R.d), .int .u32 (n32 R.e), .int .u32 (n32 R.f), .int .u32 (n32 R.g), .int .u32 (n32 R.k)]) (.int .i64 4)).run Tryd.prog w = .ok (.int .u32 (n32 R.e)) w := by kernel_rfl
theorem ix8_5 (R : R8) (w : World) : (Instr.index 106 (.agg #[.int .u32 (n32 R.a), .int .u32 (n32 R.b), .int .u32 (n32 R.c), .int .u32 (n32 R.d), .int .u32 (n32 R.e), .int .u32 (n32 R.f), .int .u32 (n32 R.g), .int .u32 (n32 R.k)]) (.int .i64 5)).run Tryd.prog w = .ok (.int .u32 (n32 R.f)) w := by kernel_rfl
theorem ix8_6 (R : R8) (w : World) : (Instr.index 106 (.agg #[.int .u32 (n32 R.a), .int .u32 (n32 R.b), .int .u32 (n32 R.c), .int .u32 (n32 R.d), .int .u32 (n32 R.e), .int .u32 (n32 R.f), .int .u32 (n32 R.g), .int .u32 (n32 R.k)]) (.int .i64 6)).run Tryd.prog w = .ok (.int .u32 (n32 R.g)) w := by kernel_rfl
theorem ix8_7 (R : R8) (w : World) : (Instr.index 106 (.agg #[.int .u32 (n32 R.a), .int .u32 (n32 R.b), .int .u32 (n32 R.c), .int .u32 (n32 R.d), .int .u32 (n32 R.e), .int .u32 (n32 R.f), .int .u32 (n32 R.g), .int .u32 (n32 R.k)]) (.int .i64 7)).run Tryd.prog w = .ok (.int .u32 (n32 R.k)) w := by kernel_rfl
theorem ix8 (R : R8) (j : Nat) (hj : j < 8) (w : World) : (Instr.index 106 (.agg #[.int .u32 (n32 R.a), .int .u32 (n32 R.b), .int .u32 (n32 R.c), .int .u32 (n32 R.d), .int .u32 (n32 R.e), .int .u32 (n32 R.f), .int .u32 (n32 R.g), .int .u32 (n32 R.k)]) (.int .i64 (j : Int))).run Tryd.prog w = .ok (.int .u32 (n32 (wd R.list j))) w := by
  match j, hj with
  | 0, _ => exact ix8_0 R w
  | 1, _ => exact ix8_1 R w
  | 2, _ => exact ix8_2 R w
  | 3, _ => exact ix8_3 R w
  | 4, _ => exact ix8_4 R w
  | 5, _ => exact ix8_5 R w
  | 6, _ => exact ix8_6 R w
  | 7, _ => exact ix8_7 R w
section
attribute [local go_sem] v32_add v32_xor v32_and v32_or v32_shr3 v32_shr10 v32_shl8 rr7 rr18 rr17 rr19 rr6 rr11 rr25 rr2 rr13 rr22
set_option maxHeartbeats 1600000 in
set_option maxRecDepth 100000 in
theorem mix_any (b : Nat) (w : World) (s : St) (t : BitVec 64) (hs : s.v.length = 8) (hr : s.r.length = 64) (hb : Blk w b 122 (hc s t)) (hk : KsAt w) (hg : 1 < b) :
    Calls Tryd.prog 54 #[.pointer (some ⟨b, 0, none⟩)] w fun e w' => e = .returned (.tuple #[]) ∧
      Blk w' b 122 (hc ⟨mixv s.v s.r, s.r, 0⟩ t) ∧ w.grownBy w' (some b) := by
  have HB := Lib.hid hb
  have HK := Lib.hid hk
  clear hk hb
  go_enter Tryd.func54, Tryd.ntmps54
  go_wp2_with fail
  go_loopw [17] (fun v17 wr => ∃ k : Nat, k ≤ 64 ∧ v17 = .int .i64 k ∧ Blk wr w.heap.size 127 (wc (loadW s.r k)) ∧ w.grownBy wr none) (fun v17 _ => 64 - (intOf v17).toNat)
  case atStart => exact ⟨0, by omega, rfl, Blk.new _ _ _, only_alloc (only_refl _ _) _⟩
  case round =>
    obtain ⟨k, hk, rfl, hW, hG⟩ := hrel
    have hWl := loadW_length s.r k
    by_cases hlt : k < 64
    · have ej : ((k : Int) / 4).toNat = k / 4 := by omega
      have c1 : wr.cell? ⟨w.heap.size, ((k : Int) / 4).toNat, none⟩ = some (.int .u32 (n32 (wd (loadW s.r k) (k / 4)))) := by rw [ej]; exact (hW.cell (k / 4)).trans (wc_get (loadW s.r k) (k / 4) (by omega))
      have f1 : wr.frozen? ⟨w.heap.size, ((k : Int) / 4).toNat, none⟩ = false := by rw [ej]; exact hW.frozen (k / 4)
      have EJ := Lib.hid ej
      clear ej
      have c2 := ((HB.out.grown hG (by simp)).cell (8 + k)).trans (hc_r ⟨hs, hr⟩ t k hlt)
      have hfin : Blk (wr.drew.setCell ⟨w.heap.size, k / 4, none⟩ (.int .u32 (n32 (wd (loadW s.r k) (k / 4) <<< 8 ||| u8w (bd s.r k))))) w.heap.size 127 (wc (loadW s.r (k + 1))) ∧
          w.grownBy (wr.drew.setCell ⟨w.heap.size, k / 4, none⟩ (.int .u32 (n32 (wd (loadW s.r k) (k / 4) <<< 8 ||| u8w (bd s.r k))))) none := by
        have := hW.drew.set_ (k / 4) (.int .u32 (n32 (wd (loadW s.r k) (k / 4) <<< 8 ||| u8w (bd s.r k))))
        rw [wc_set] at this
        exact ⟨this, only_new hG (only_set (only_drew (only_refl _ _)) (.inl rfl) _) (Nat.le_refl _)⟩
      have HF := Lib.hid hfin
      clear hfin hW hG hWl
      have e1 : IntKind.i64.wrap ((k : Int) / 4) = (k : Int) / 4 := IntWalk.i64_in _ (by omega)
      have e2 : 0 ≤ (k : Int) / 4 ∧ (k : Int) / 4 < 16 := by omega
      have e3 : 0 ≤ (k : Int) ∧ (k : Int) < 64 := by omega
      go_wp2_with fail
      refine still_tail 16 (by kernel_rfl) (by kernel_rfl) ?_
      simp only [List.take_succ_cons, List.take_zero, List.drop_succ_cons, List.drop_zero]
      repeat still_step
      refine wpStill_nil ?_
      go_wp2
      go_roundw
      case rel =>
        refine ⟨k + 1, by omega, by go_num, ?_⟩
        simp only [n8_m32, v32_or, EJ.out]
        exact HF.out
      case measure => simp [intOf]; omega
    · obtain rfl : k = 64 := by omega
      rw [show ((64 : Nat) : Int) = 64 from rfl]
      have hB := HB.out.grown hG (by simp)
      have d0 := (hB.cell 0).trans (hc_v ⟨hs, hr⟩ t 0 (by omega))
      have d1 := (hB.cell 1).trans (hc_v ⟨hs, hr⟩ t 1 (by omega))
      have d2 := (hB.cell 2).trans (hc_v ⟨hs, hr⟩ t 2 (by omega))
      have d3 := (hB.cell 3).trans (hc_v ⟨hs, hr⟩ t 3 (by omega))
      have d4 := (hB.cell 4).trans (hc_v ⟨hs, hr⟩ t 4 (by omega))
      have d5 := (hB.cell 5).trans (hc_v ⟨hs, hr⟩ t 5 (by omega))
      have d6 := (hB.cell 6).trans (hc_v ⟨hs, hr⟩ t 6 (by omega))
      have d7 := (hB.cell 7).trans (hc_v ⟨hs, hr⟩ t 7 (by omega))
      have HW := Lib.hid hW
      have HG := Lib.hid hG
      clear hW hG hB hWl hlt hk
      go_wp2_with fail
      go_quiet (fail)
      go_wp2_with fail
      clear d0 d1 d2 d3 d4 d5 d6 d7
      obtain ⟨P, HP⟩ : ∃ P, Hid (P = rounds (R8.of s.v) (loadW s.r 64)) := ⟨_, rfl⟩
      go_loopw [4, 5, 6, 7, 8, 9, 10, 11, 77] (fun v4 v5 v6 v7 v8 v9 v10 v11 v77 wx => ∃ i : Nat, i ≤ 64 ∧ v77 = .int .i64 i ∧ v4 = .int .u32 (n32 (P i).1.a) ∧ v5 = .int .u32 (n32 (P i).1.b) ∧ v6 = .int .u32 (n32 (P i).1.c) ∧
          v7 = .int .u32 (n32 (P i).1.d) ∧ v8 = .int .u32 (n32 (P i).1.e) ∧ v9 = .int .u32 (n32 (P i).1.f) ∧ v10 = .int .u32 (n32 (P i).1.g) ∧ v11 = .int .u32 (n32 (P i).1.k) ∧
          Blk wx w.heap.size 127 (wc (P i).2) ∧ w.grownBy wx none) (fun _ _ _ _ _ _ _ _ v77 _ => 64 - (intOf v77).toNat)
      case atStart =>
        refine ⟨0, by omega, rfl, ?_⟩
        rw [HP.out, rounds_zero]
        simp only [R8.of, true_and]
        exact ⟨HW.out.drewN _, only_drewN HG.out _⟩
      case round =>
        obtain ⟨i, hi, rfl, rfl, rfl, rfl, rfl, rfl, rfl, rfl, rfl, hW2, hG2⟩ := hrel
        have hPl : (P i).2.length = 16 := by rw [HP.out, rounds_length, loadW_length]
        by_cases hlt : i < 64
        · have hks : wr.cell? ⟨1, i, none⟩ = some (.int .u32 (n32 (wd ksL i))) := hG2.cell (HK.out i hlt) (by simp)
          have HS := Lib.hid (rounds_succ (R8.of s.v) (loadW s.r 64) i)
          have e3 : 0 ≤ (i : Int) ∧ (i : Int) < 64 := by omega
          have hbw := HB.out.lt
          by_cases h16 : 16 ≤ i
          · have hA : atRound (P i).2 i = growW (P i).2 i := if_pos h16
            have HA := Lib.hid hA
            have HW2 := Lib.hid hW2
            have HG2 := Lib.hid hG2
            have HPl := Lib.hid hPl
            have HKS := Lib.hid hks
            clear hA hW2 hG2 hPl hks
            have hd : decide ((16 : Int) ≤ i) = true := by simp; omega
            go_wp2_with (go_at_call 56; refine (grow_any _ i _ _ HPl.out HW2.out h16 hlt).mono ?_; rintro e w1 ⟨rfl, hW3, hG3⟩)
            have c1 := (hW3.cell (i % 16)).trans (wc_get _ _ (by rw [growW_length, HPl.out]; omega))
            rw [← HA.out] at c1 hW3
            have k1 : w1.cell? ⟨1, i, none⟩ = some (.int .u32 (n32 (wd ksL i))) := hG3.cell HKS.out (by simp; omega)
            have HG3 := Lib.hid (only_new HG2.out hG3 (Nat.le_refl _))
            have HW3 := Lib.hid hW3
            clear hG3 hW3 HG2 HW2 HKS hd
            go_wp2_with fail
            go_quiet ((first | (go_at_call 57; exact Calls.quiet_of_same (rot_any _ _ _)) | (go_at_call 57; exact quiet_add_same (rot_any _ _ _)) | (go_at_call 58; exact Calls.quiet_of_same (at_any _ _ _ (by omega)))))
            go_wp2_with (go_at_call 57; refine (rot_any _ _ _).mono ?_; rintro e w' ⟨rfl, rfl⟩)
            go_roundw
            case rel =>
              refine ⟨i + 1, by omega, by go_num, ?_⟩
              rw [HP.out, HS.out, ← HP.out]
              simp only [v32_add, v32_xor, v32_and, v32_or, rnd, rndT, rndU, true_and]
              exact ⟨HW3.out.drewN _, only_drewN HG3.out _⟩
            case measure => simp [intOf]; omega
          · have hA : atRound (P i).2 i = (P i).2 := if_neg h16
            have c1 := (hW2.cell (i % 16)).trans (wc_get _ _ (by rw [hPl]; omega))
            rw [← hA] at c1 hW2
            have HG3 := Lib.hid hG2
            have HW3 := Lib.hid hW2
            clear hA hW2 hG2 hPl
            have hd : decide ((16 : Int) ≤ i) = false := by simp; omega
            go_wp2_with fail
            go_quiet ((first | (go_at_call 57; exact Calls.quiet_of_same (rot_any _ _ _)) | (go_at_call 57; exact quiet_add_same (rot_any _ _ _)) | (go_at_call 58; exact Calls.quiet_of_same (at_any _ _ _ (by omega)))))
            go_wp2_with (go_at_call 57; refine (rot_any _ _ _).mono ?_; rintro e w' ⟨rfl, rfl⟩)
            go_roundw
            case rel =>
              refine ⟨i + 1, by omega, by go_num, ?_⟩
              rw [HP.out, HS.out, ← HP.out]
              simp only [v32_add, v32_xor, v32_and, v32_or, rnd, rndT, rndU, true_and]
              exact ⟨HW3.out.drewN _, only_drewN HG3.out _⟩
            case measure => simp [intOf]; omega
        · obtain rfl : i = 64 := by omega
          rw [show ((64 : Nat) : Int) = 64 from rfl]
          have hB2 := HB.out.grown hG2 (by simp)
          have hbw := HB.out.lt
          have HM := Lib.hid (show mixv s.v s.r = addTo s.v (P 64).1.list 8 by rw [HP.out]; rfl)
          have HG2 := Lib.hid hG2
          have HB2 := Lib.hid hB2
          clear hG2 hB2 hW2 hPl hlt hi
          obtain ⟨R, HR⟩ : ∃ R, Hid (R = (P 64).1) := ⟨_, rfl⟩
          rw [← HR.out]
          rw [← HR.out] at HM
          have z45 : ∀ w, (zeroValue 106).run Tryd.prog w = .ok (.agg #[.int .u32 0, .int .u32 0, .int .u32 0, .int .u32 0, .int .u32 0, .int .u32 0, .int .u32 0, .int .u32 0]) w := fun _ => by kernel_rfl
          go_wp2_with fail
          go_loopw [151] (fun v wx => ∃ j : Nat, j ≤ 8 ∧ v = .int .i64 j ∧ Blk wx b 122 (hc ⟨addTo s.v R.list j, s.r, s.n⟩ t) ∧ w.grownBy wx (some b)) (fun v _ => 8 - (intOf v).toNat)
          case atStart => exact ⟨0, by omega, rfl, HB2.out, ⟨HG2.out.os, HG2.out.tape, HG2.out.output, HG2.out.size, fun i h _ => HG2.out.block i h (by simp)⟩⟩
          case round =>
            obtain ⟨j, hj, rfl, hB3, hG3⟩ := hrel
            have hok : St.okL ⟨addTo s.v R.list j, s.r, s.n⟩ := ⟨by rw [addTo_length]; exact hs, hr⟩
            by_cases hlt : j < 8
            · have c1 := (hB3.cell j).trans (hc_v hok t j hlt)
              have f1 := hB3.frozen j
              have hix := ix8 R j hlt
              have hfin : Blk ((wr.setCell ⟨b, j, none⟩ (.int .u32 (n32 (wd (addTo s.v R.list j) j + wd R.list j)))).drew) b 122 (hc ⟨addTo s.v R.list (j + 1), s.r, s.n⟩ t) ∧
                  w.grownBy ((wr.setCell ⟨b, j, none⟩ (.int .u32 (n32 (wd (addTo s.v R.list j) j + wd R.list j)))).drew) (some b) := by
                have := hB3.set_ j (.int .u32 (n32 (wd (addTo s.v R.list j) j + wd R.list j)))
                rw [hc_set_v hok t j hlt] at this
                exact ⟨this, only_drew (only_set hG3 (.inl rfl) _)⟩
              have HF := Lib.hid hfin
              clear hfin hB3 hG3 hok
              have e3 : 0 ≤ (j : Int) ∧ (j : Int) < 8 := by omega
              go_wp2_with fail
              refine still_tail 11 (by kernel_rfl) (by kernel_rfl) ?_
              simp only [List.take_succ_cons, List.take_zero, List.drop_succ_cons, List.drop_zero]
              repeat still_step
              refine wpStill_nil ?_
              go_wp2
              go_roundw
              case rel =>
                refine ⟨j + 1, by omega, by go_num, ?_⟩
                try simp only [v32_add]
                exact HF.out
              case measure => simp [intOf]; omega
            · obtain rfl : j = 8 := by omega
              have c1 := (hB3.cell 72).trans (hc_n hok t)
              have f1 := hB3.frozen 72
              have hfin : Blk (wr.setCell ⟨b, 72, none⟩ (.int .i64 0)) b 122 (hc ⟨mixv s.v s.r, s.r, 0⟩ t) ∧ w.grownBy (wr.setCell ⟨b, 72, none⟩ (.int .i64 0)) (some b) := by
                have := hB3.set_ 72 (.int .i64 ((0 : Nat) : Int))
                rw [hc_set_n hok] at this
                rw [HM.out]
                exact ⟨this, only_set hG3 (.inl rfl) _⟩
              have HF := Lib.hid hfin
              clear hfin hB3 hG3 hok
              go_wp2
              go_end0
              exact ⟨rfl, HF.out⟩
end
end Go.Proofs.YtlogcgeinbefjaaDoor
namespace Go.Proofs.YtlogcgeinbefjaaDoor
open Go.RowKit
set_option linter.unusedSimpArgs false
set_option linter.unusedVariables false
set_option maxRecDepth 100000

theorem hc_splice {s : St} (h : s.okL) (t : BitVec 64) (n m : Nat) (hn : n + m ≤ 64) (l : List UInt8) (hl : l.length = m) :
    ((hc s t).toList.take (8 + n) ++ cb l ++ (hc s t).toList.drop (8 + n + m)).toArray = hc ⟨s.v, s.r.take n ++ l ++ s.r.drop (n + m), s.n⟩ t := by
  have h1 := h.1; have h2 := h.2
  have e1 : (cw s.v).length = 8 := by simp [cw, h1]
  have e2 : (cb s.r).length = 64 := by simp [cb, h2]
  simp only [hc, List.append_assoc]
  congr 1
  rw [List.take_append, List.take_of_length_le (by omega), List.append_assoc, List.drop_append, List.drop_eq_nil_of_le (by omega), e1]
  rw [List.take_append_of_le_length (by omega), show 8 + n + m - 8 = n + m from by omega, show 8 + n - 8 = n from by omega, List.drop_append_of_le_length (by omega)]
  simp [cb, List.map_take, List.map_drop]

def strLen : Value → Nat | .string s => s.size | _ => 0

set_option maxHeartbeats 1600000 in
set_option maxRecDepth 100000 in
theorem take_any (b : Nat) (w : World) (s : St) (t : BitVec 64) (l : List UInt8) (hs : s.ok) (hl : l.length ≤ 140737488355328) (hb : Blk w b 122 (hc s t)) (hk : KsAt w) (hg : 1 < b) :
    Calls Tryd.prog 47 #[.pointer (some ⟨b, 0, none⟩), .string ⟨l.toArray⟩] w fun e w' => e = .returned (.tuple #[]) ∧
      Blk w' b 122 (hc (pushes s l) (t + BitVec.ofNat 64 l.length)) ∧ w.grownBy w' (some b) := by
  have c1 := (hb.cell 73).trans (hc_t hs.l t)
  have f1 := hb.frozen 73
  have hsz : (⟨l.toArray⟩ : ByteArray).size = l.length := by simp [ByteArray.size]
  have ht : IntKind.u64.wrap ((t.toNat : Int) + (l.length : Int)) = ((t + BitVec.ofNat 64 l.length).toNat : Int) := by
    rw [wrap_u64e, BitVec.toNat_add, BitVec.toNat_ofNat]; omega
  obtain ⟨W1, hW1⟩ : ∃ W, Hid (W = w.setCell ⟨b, 73, none⟩ (.int .u64 ((t + BitVec.ofNat 64 l.length).toNat : Int))) := ⟨_, rfl⟩
  have hB1 : Blk W1 b 122 (hc s (t + BitVec.ofNat 64 l.length)) ∧ w.grownBy W1 (some b) := by
    have := hb.set_ 73 (.int .u64 ((t + BitVec.ofNat 64 l.length).toNat : Int))
    rw [hc_set_t hs.l] at this
    rw [hW1.out]
    exact ⟨this, only_set (only_refl _ _) (.inl rfl) _⟩
  have HB1 := Lib.hid hB1
  have HT := Lib.hid ht
  have HK := Lib.hid hk
  obtain ⟨u, hu⟩ : ∃ u, Hid (u = t + BitVec.ofNat 64 l.length) := ⟨_, rfl⟩
  rw [← hu.out] at HT HB1 hW1
  rw [← hu.out]
  clear hb hk hB1 ht
  go_enter Tryd.func47, Tryd.ntmps47
  go_wp2_with fail
  rw [HT.out, ← hW1.out]
  go_loopw [1] (fun v wr => ∃ l1 l2, l = l1 ++ l2 ∧ v = .string ⟨l2.toArray⟩ ∧ Blk wr b 122 (hc (pushes s l1) u) ∧ w.grownBy wr (some b)) (fun v _ => strLen v)
  case atStart => exact ⟨[], l, rfl, rfl, HB1.out.1, HB1.out.2⟩
  case round =>
    obtain ⟨l1, l2, hl12, rfl, hB, hG⟩ := hrel
    have HL := Lib.hid hl12
    clear hl12
    have hok := pushes_ok hs l1
    obtain ⟨s1, hs1⟩ : ∃ s1, Hid (s1 = pushes s l1) := ⟨_, rfl⟩
    rw [← hs1.out] at hok hB
    by_cases hne : l2 = []
    · subst hne
      have he : l = l1 := by rw [HL.out, List.append_nil]
      have HF := Lib.hid (show Blk wr b 122 (hc (pushes s l) u) ∧ w.grownBy wr (some b) by rw [he, ← hs1.out]; exact ⟨hB, hG⟩)
      clear hB hG he
      go_wp2_with fail
      go_end0
      exact ⟨rfl, HF.out⟩
    · have hl2 : 0 < l2.length := List.length_pos_iff.2 hne
      have c1 := (hB.cell 72).trans (hc_n hok.l u)
      have f1 := hB.frozen 72
      have he : l2.isEmpty = false := by simpa using hne
      have hn64 : ¬ (64 = s1.n) := by have := hok.2.2; omega
      obtain ⟨m, hm⟩ : ∃ m, Hid (m = Nat.min l2.length (64 - s1.n)) := ⟨_, rfl⟩
      have hmm : m = min l2.length (64 - s1.n) := hm.out
      have hm0 : 0 < m := by have := hok.2.2; omega
      have hm1 : m ≤ l2.length := by omega
      have hm2 : s1.n + m ≤ 64 := by have := hok.2.2; omega
      have hm3 : s1.n + m = 64 ∨ l2.drop m = [] := by
        rcases Nat.lt_or_ge m l2.length with h | h
        · left; have := hok.2.2; omega
        · right; exact List.drop_eq_nil_of_le h
      have hlen : (l2.take m).length = m := by simp; omega
      obtain ⟨r2, hr2⟩ : ∃ r2, Hid (r2 = s1.r.take s1.n ++ l2.take m ++ s1.r.drop (s1.n + m)) := ⟨_, rfl⟩
      obtain ⟨W2, hW2⟩ : ∃ W2, Hid (W2 = wr.drew.setRow b ((hc s1 u).toList.take (8 + s1.n) ++ cb (l2.take m) ++ (hc s1 u).toList.drop (8 + s1.n + m)).toArray) := ⟨_, rfl⟩
      have hcp : (Builtin.copy_ #[42, 9] 3 #[.slice (some ⟨b, 8 + s1.n, none⟩) (64 - s1.n) (64 - s1.n), .string ⟨l2.toArray⟩]).run Tryd.prog wr.drew = .ok (.int .i64 (m : Int)) W2 := by
        rw [hW2.out]
        exact run_copy_str wr.drew _ _ _ 5 b (8 + s1.n) _ _ l2 _ _ m Tryd.underlying42 (by kernel_rfl) hB.drew hm.out (by rw [hc_size hok.l]; omega)
      have hB2 : Blk W2 b 122 (hc ⟨s1.v, r2, s1.n⟩ u) ∧ w.grownBy W2 (some b) := by
        rw [hW2.out, hr2.out]
        refine ⟨?_, only_setRow (only_drew hG) _⟩
        rw [← hc_splice hok.l u s1.n m hm2 (l2.take m) hlen]
        exact hB.drew.setRow _
      have hok2 : St.okL ⟨s1.v, r2, s1.n⟩ := ⟨hok.1, by rw [hr2.out]; have := hok.2.1; simp; omega⟩
      obtain ⟨W3, hW3⟩ : ∃ W3, Hid (W3 = W2.setCell ⟨b, 72, none⟩ (.int .i64 ((s1.n : Int) + (m : Int)))) := ⟨_, rfl⟩
      have hB3 : Blk W3 b 122 (hc ⟨s1.v, r2, s1.n + m⟩ u) ∧ w.grownBy W3 (some b) := by
        have := hB2.1.set_ 72 (.int .i64 (((s1.n + m : Nat)) : Int))
        rw [hc_set_n hok2] at this
        rw [hW3.out]
        rw [Int.natCast_add] at this
        exact ⟨this, only_set hB2.2 (.inl rfl) _⟩
      have c2 := (hB2.1.cell 72).trans (hc_n hok2 u)
      have f2 := hB2.1.frozen 72
      have hpt := pushes_part s1 hok (l2.take m) (by rw [hlen]; exact hm2)
      rw [hlen, ← hr2.out] at hpt
      have HPT := Lib.hid hpt
      have hx : (⟨l2.toArray⟩ : ByteArray).extract m l2.length = ⟨(l2.drop m).toArray⟩ := extract_eq l2 m
      have HX := Lib.hid hx
      have HB3 := Lib.hid hB3
      have HM3 := Lib.hid hm3
      have hdl : (l2.drop m).length < l2.length := by rw [List.length_drop]; omega
      have HDL := Lib.hid hdl
      have hm4 : (m : Int) ≤ (l2.length : Int) := by omega
      have HKW := Lib.hid (show KsAt W3 from fun i hi => hB3.2.cell (HK.out i hi) (by simp; omega))
      have hl' : l = (l1 ++ l2.take m) ++ l2.drop m := by rw [HL.out, List.append_assoc, List.take_append_drop]
      have HL' := Lib.hid hl'
      have hp' : pushes s (l1 ++ l2.take m) = pushes s1 (l2.take m) := by rw [pushes_append, ← hs1.out]
      have HP' := Lib.hid hp'
      have HR2 := Lib.hid hok2.2
      clear hB hG hB2 hpt hx hmm hm3 hB3 hm1 hdl hl' hp' hlen
      have e3 : 0 ≤ (s1.n : Int) ∧ (s1.n : Int) ≤ 64 := ⟨by omega, by omega⟩
      by_cases hf : s1.n + m = 64
      · have hfull : ((s1.n : Int) + (m : Int) == 64) = true := by simp; omega
        have HF := Lib.hid hf
        clear hf
        go_wp2_with fail
        refine still_tail 9 (by kernel_rfl) (by kernel_rfl) ?_
        simp only [List.take_succ_cons, List.take_zero, List.drop_succ_cons, List.drop_zero]
        repeat still_step
        refine wpStill_nil ?_
        go_wp2_with fail
        rw [← hW3.out]
        refine (mix_any b W3 ⟨s1.v, r2, s1.n + m⟩ u hok.1 HR2.out HB3.out.1 HKW.out hg).mono ?_
        rintro e w4 ⟨rfl, h4, g4⟩
        have hfin : Blk w4 b 122 (hc (pushes s (l1 ++ l2.take m)) u) ∧ w.grownBy w4 (some b) := by
          rw [HP'.out, HPT.out, if_pos HF.out]
          exact ⟨h4, only_trans HB3.out.2 g4⟩
        have HFI := Lib.hid hfin
        clear hfin h4 g4
        go_wp2_with fail
        rw [HX.out]
        exact ⟨⟨_, _, HL'.out, rfl, HFI.out.1, HFI.out.2⟩, by simpa [strLen, ByteArray.size] using HDL.out⟩
      · have hfull : ((s1.n : Int) + (m : Int) == 64) = false := by simp; omega
        have hd0 : l2.drop m = [] := HM3.out.resolve_left hf
        have hfin : Blk W3 b 122 (hc (pushes s (l1 ++ l2.take m)) u) ∧ w.grownBy W3 (some b) := by
          rw [HP'.out, HPT.out, if_neg hf]
          exact HB3.out
        have HFI := Lib.hid hfin
        clear hfin hf hd0
        go_wp2_with fail
        refine still_tail 9 (by kernel_rfl) (by kernel_rfl) ?_
        simp only [List.take_succ_cons, List.take_zero, List.drop_succ_cons, List.drop_zero]
        repeat still_step
        refine wpStill_nil ?_
        go_wp2_with fail
        rw [HX.out, ← hW3.out]
        exact ⟨⟨_, _, HL'.out, rfl, HFI.out.1, HFI.out.2⟩, by simpa [strLen, ByteArray.size] using HDL.out⟩
end Go.Proofs.YtlogcgeinbefjaaDoor
namespace Go.Proofs.YtlogcgeinbefjaaDoor
open Go.RowKit
set_option linter.unusedSimpArgs false
set_option linter.unusedVariables false
set_option maxRecDepth 100000

set_option maxHeartbeats 800000 in
set_option maxRecDepth 100000 in
theorem begin_any (w : World) :
    Calls Tryd.prog 46 #[] w fun e w' => e = .returned (.pointer (some ⟨w.heap.size, 0, none⟩)) ∧ w' = w.alloc (.cells (hc st0 0) 122) := by
  have z45 : ∀ w, (zeroValue 106).run Tryd.prog w = .ok (.agg #[.int .u32 0, .int .u32 0, .int .u32 0, .int .u32 0, .int .u32 0, .int .u32 0, .int .u32 0, .int .u32 0]) w := fun _ => by kernel_rfl
  obtain ⟨Z, hZ⟩ : ∃ Z, Hid (Z = hc ⟨List.replicate 8 0, List.replicate 64 0, 0⟩ 0) := ⟨_, rfl⟩
  have z58 : ∀ w, (zeroValue 122).run Tryd.prog w = .ok (.agg Z) w := by rw [hZ.out]; exact fun _ => by kernel_rfl
  have hsz : ¬ (Z.size < 8) := by rw [hZ.out]; decide
  go_enter Tryd.func46, Tryd.ntmps46
  go_wp2
  go_ret
  refine ⟨rfl, ?_⟩
  have hfin : ((((((((Z.setIfInBounds 0 (.int .u32 1779033703)).setIfInBounds 1 (.int .u32 3144134277)).setIfInBounds 2 (.int .u32 1013904242)).setIfInBounds 3 (.int .u32 2773480762)).setIfInBounds
      4 (.int .u32 1359893119)).setIfInBounds 5 (.int .u32 2600822924)).setIfInBounds 6 (.int .u32 528734635)).setIfInBounds 7 (.int .u32 1541459225)) = hc st0 0 := by
    rw [hZ.out]
    kernel_rfl
  rw [hfin]
def eightAt (n k : Nat) : UInt8 := UInt8.ofNat (n / 2 ^ (56 - 8 * k))
def eightTo (n : Nat) : Nat → List UInt8
  | 0 => List.replicate 8 0
  | k + 1 => (eightTo n k).set k (eightAt n k)
theorem eightTo_length (n k : Nat) : (eightTo n k).length = 8 := by
  induction k with
  | zero => rfl
  | succ k ih => simp [eightTo, ih]
theorem eightTo_8 (n : Nat) : eightTo n 8 = eightL n := by
  simp [eightTo, eightL, eightAt, List.replicate]
set_option maxHeartbeats 800000 in
set_option maxRecDepth 100000 in
theorem eight_any (n : Nat) (w : World) (hn : n < 18446744073709551616) :
    Calls Tryd.prog 55 #[.int .u64 n] w fun e w' => e = .returned (.string ⟨(eightL n).toArray⟩) ∧ Below w.heap.size w w' := by
  go_enter Tryd.func55, Tryd.ntmps55
  go_wp2_with fail
  go_loopw [5] (fun v wr => ∃ k : Nat, k ≤ 8 ∧ v = .int .i64 k ∧ Blk wr w.heap.size 131 (cb (eightTo n k)).toArray ∧ Below w.heap.size w wr) (fun v _ => 8 - (intOf v).toNat)
  case atStart => exact ⟨0, by omega, rfl, Blk.new _ _ _, (Below.refl _ _).alloc (Nat.le_refl _) _⟩
  case round =>
    obtain ⟨k, hk, rfl, hB, hG⟩ := hrel
    by_cases hlt : k < 8
    · have c1 := (hB.cell k).trans (cb_get (eightTo n k) k (by rw [eightTo_length]; omega))
      have f1 := hB.frozen k
      have e1 := n8_shr n (56 - 8 * k)
      have hfin : Blk (wr.setCell ⟨w.heap.size, k, none⟩ (.int .u8 (((n : Int) / 2 ^ (56 - 8 * k)) % 256))) w.heap.size 131 (cb (eightTo n (k + 1))).toArray ∧
          Below w.heap.size w (wr.setCell ⟨w.heap.size, k, none⟩ (.int .u8 (((n : Int) / 2 ^ (56 - 8 * k)) % 256))) := by
        have := hB.set_ k (.int .u8 (n8 (eightAt n k)))
        rw [cb_set] at this
        rw [e1]
        exact ⟨this, hG.setCell (Nat.le_refl _) _⟩
      have HF := Lib.hid hfin
      have e2 : 0 ≤ 56 - 8 * (k : Int) := by omega
      have e3 : 0 ≤ (k : Int) ∧ (k : Int) < 8 := by omega
      clear hfin hB hG e1
      go_wp2_with fail
      exact ⟨⟨k + 1, by omega, by go_num, HF.out⟩, by simp [intOf]; omega⟩
    · obtain rfl : k = 8 := by omega
      have hcv := run_bytes_cells (P := Tryd.prog) wr 42 9 5 Tryd.underlying42 Tryd.underlying5 Tryd.underlying9 w.heap.size 0 8 (eightTo n 8) 8 (eightTo_length n 8) (fun i hi => by
        rw [Nat.zero_add]; exact (hB.cell i).trans (cb_get _ i (by rw [eightTo_length]; omega)))
      rw [eightTo_8] at hcv
      have HG := Lib.hid hG
      clear hB hG
      go_wp2_with fail
      go_ret
      exact ⟨rfl, HG.out⟩
end Go.Proofs.YtlogcgeinbefjaaDoor
namespace Go.Proofs.YtlogcgeinbefjaaDoor
open Go.RowKit
set_option linter.unusedSimpArgs false
set_option linter.unusedVariables false
set_option maxRecDepth 100000

theorem push_n {s : St} (h : s.ok) (b : UInt8) : (push s b).n = (s.n + 1) % 64 := by
  have := h.2.2
  unfold push
  split
  · show 0 = _; omega
  · show s.n + 1 = _; omega
theorem pushes_count (l : List UInt8) : ∀ {s : St}, s.ok → (pushes s l).n = (s.n + l.length) % 64 := by
  induction l with
  | nil => intro s h; have := h.2.2; show s.n = (s.n + 0) % 64; omega
  | cons b l ih =>
    intro s h
    show (pushes (push s b) l).n = _
    rw [ih (push_ok h b), push_n h]
    simp only [List.length_cons]
    omega
def outAt (v : List (BitVec 32)) (i : Nat) : UInt8 := w8 (wd v (i / 4) >>> (24 - i % 4 * 8))
def outTo (v : List (BitVec 32)) : Nat → List UInt8
  | 0 => List.replicate 32 0
  | k + 1 => (outTo v k).set k (outAt v k)
theorem outTo_length (v : List (BitVec 32)) (k : Nat) : (outTo v k).length = 32 := by
  induction k with
  | zero => rfl
  | succ k ih => simp [outTo, ih]
theorem outTo_32 (v : List (BitVec 32)) (h : v.length = 8) : outTo v 32 = outL v := by
  match v, h with
  | [a, b, c, d, e, f, g, k], _ => simp [outTo, outL, outAt, wordL, wd, List.replicate]
theorem v32_shrz (x : BitVec 32) (k : Nat) (hk : k ≤ 32) : n32 x / 2 ^ k = n32 (x >>> k) := by
  rw [← v32_shr_nat, Int.natCast_pow]; rfl

set_option maxHeartbeats 1600000 in
set_option maxRecDepth 100000 in
theorem end_any (b : Nat) (w : World) (s : St) (t : BitVec 64) (hs : s.ok) (hb : Blk w b 122 (hc s t)) (hk : KsAt w) (hg : 1 < b) :
    Calls Tryd.prog 48 #[.pointer (some ⟨b, 0, none⟩)] w fun e w' => e = .returned (.string ⟨(finish s t.toNat).toArray⟩) ∧ w.grownBy w' (some b) := by
  have c1 := (hb.cell 73).trans (hc_t hs.l t)
  have ht : IntKind.u64.wrap ((t.toNat : Int) * 8) = ((t.toNat * 8 % 18446744073709551616 : Nat) : Int) := by
    rw [wrap_u64e]; omega
  obtain ⟨q8, hq8⟩ : ∃ q, Hid (q = t.toNat * 8 % 18446744073709551616) := ⟨_, rfl⟩
  have hq9 : q8 < 18446744073709551616 := by rw [hq8.out]; omega
  rw [← hq8.out] at ht
  have HT := Lib.hid ht
  have HB := Lib.hid hb
  have HK := Lib.hid hk
  clear hb hk ht
  have HS1 := Lib.hid (push_ok hs 128)
  obtain ⟨s1, hs1⟩ : ∃ s1, Hid (s1 = push s 128) := ⟨_, rfl⟩
  rw [← hs1.out] at HS1
  obtain ⟨z, hz⟩ : ∃ z, Hid (z = (120 - s1.n) % 64) := ⟨_, rfl⟩
  go_enter Tryd.func48, Tryd.ntmps48
  go_wp2_with fail
  rw [HT.out]
  refine (take_any b _ s t [128] hs (by decide) HB.out HK.out hg).mono ?_
  rintro e w1 ⟨rfl, h1, g1⟩
  have H1 := Lib.hid (show Blk w1 b 122 (hc (pushes s1 (List.replicate 0 0)) (t + BitVec.ofNat 64 1)) by rw [hs1.out]; exact h1)
  have G1 := Lib.hid g1
  clear h1 g1
  go_wp2_with fail
  go_loopg [] z (fun q wr => q ≤ z ∧ (∃ tj, Blk wr b 122 (hc (pushes s1 (List.replicate (z - q) 0)) tj)) ∧ w.grownBy wr (some b))
  case atStart => exact ⟨Nat.le_refl _, ⟨_, by rw [Nat.sub_self]; exact H1.out⟩, G1.out⟩
  case round =>
    obtain ⟨hq, ⟨tj, hB⟩, hG⟩ := hrel
    have hok := pushes_ok HS1.out (List.replicate (z - gk) 0)
    have hcnt := pushes_count (List.replicate (z - gk) 0) HS1.out
    rw [List.length_replicate] at hcnt
    have hz' := hz.out
    have hsn := HS1.out.2.2
    have c2 := (hB.cell 72).trans (hc_n hok.l tj)
    rw [hcnt] at c2
    have HKW := Lib.hid (show KsAt wr from fun i hi => hG.cell (HK.out i hi) (by simp; omega))
    cases gk with
    | zero =>
      have he : (((s1.n + (z - 0)) % 64 : Nat) : Int) = 56 := by omega
      rw [he] at c2
      have hp : pushes s1 (List.replicate (z - 0) 0) = padZ s1 := by rw [Nat.sub_zero, hz.out]; rfl
      rw [hp] at hB hok
      have HB2 := Lib.hid hB
      have HG2 := Lib.hid hG
      have HOK := Lib.hid hok
      clear hB hG hcnt hz' hsn hp hok he hq
      go_wp2_with fail
      refine (eight_any q8 _ hq9).mono ?_
      rintro e w2 ⟨rfl, hb2⟩
      have H2 := Lib.hid hb2
      clear hb2
      go_wp2_with fail
      refine (take_any b _ (padZ s1) tj (eightL q8) HOK.out (by rw [eightL_length]; decide) (HB2.out.below H2.out HB2.out.lt) (fun i hi => (H2.out.cell (by have := HB2.out.lt; show 1 < _; omega)).trans (HKW.out i hi)) hg).mono ?_
      rintro e w3 ⟨rfl, hb3, hg3⟩
      obtain ⟨s3, hs3⟩ : ∃ s3, Hid (s3 = pushes (padZ s1) (eightL q8)) := ⟨_, rfl⟩
      have HV := Lib.hid (pushes_ok HOK.out (eightL q8)).l
      rw [← hs3.out] at hb3 HV
      have HB3 := Lib.hid hb3
      have HG3 := Lib.hid (only_trans (only_of_below HG2.out H2.out) hg3)
      have hfi : (finish s t.toNat) = outL s3.v := by
        rw [hs3.out, hq8.out, hs1.out]; rfl
      have HFI := Lib.hid hfi
      clear hb3 hg3 hfi c2
      go_wp2_with fail
      go_loopw [24] (fun v wr => ∃ k : Nat, k ≤ 32 ∧ v = .int .i64 k ∧ Blk wr w3.heap.size 124 (cb (outTo s3.v k)).toArray ∧ Below w3.heap.size w3 wr) (fun v _ => 32 - (intOf v).toNat)
      case atStart => exact ⟨0, by omega, rfl, Blk.new _ _ _, (Below.refl _ _).alloc (Nat.le_refl _) _⟩
      case round =>
        obtain ⟨k, hk, rfl, hB4, hG4⟩ := hrel
        by_cases hlt : k < 32
        · have d1 := ((HB3.out.below hG4 HB3.out.lt).cell (k / 4)).trans (hc_v HV.out _ (k / 4) (by omega))
          have d2 := (hB4.cell k).trans (cb_get (outTo s3.v k) k (by rw [outTo_length]; omega))
          have f2 := hB4.frozen k
          have hsh := v32_shrz (wd s3.v (k / 4)) (24 - k % 4 * 8) (by omega)
          have hfin : Blk (wr.setCell ⟨w3.heap.size, k, none⟩ (.int .u8 (n8 (outAt s3.v k)))) w3.heap.size 124 (cb (outTo s3.v (k + 1))).toArray ∧
              Below w3.heap.size w3 (wr.setCell ⟨w3.heap.size, k, none⟩ (.int .u8 (n8 (outAt s3.v k)))) := by
            have := hB4.set_ k (.int .u8 (n8 (outAt s3.v k)))
            rw [cb_set] at this
            exact ⟨this, hG4.setCell (Nat.le_refl _) _⟩
          have HF := Lib.hid hfin
          have HSH := Lib.hid hsh
          clear hfin hB4 hG4 hsh
          have e2 : 0 ≤ 24 - (k : Int) % 4 * 8 := by omega
          have e3 : 0 ≤ (k : Int) ∧ (k : Int) < 32 := by omega
          have e4 : 0 ≤ (k : Int) / 4 ∧ (k : Int) / 4 < 8 := by omega
          go_wp2_with fail
          rw [HSH.out, w8_n8]
          exact ⟨⟨k + 1, by omega, by go_num, HF.out⟩, by simp [intOf]; omega⟩
        · obtain rfl : k = 32 := by omega
          have hcv := run_bytes_cells (P := Tryd.prog) wr 42 9 5 Tryd.underlying42 Tryd.underlying5 Tryd.underlying9 w3.heap.size 0 32 (outTo s3.v 32) 32 (outTo_length _ _) (fun i hi => by
            rw [Nat.zero_add]; exact (hB4.cell i).trans (cb_get _ i (by rw [outTo_length]; omega)))
          rw [outTo_32 _ HV.out.1, ← HFI.out] at hcv
          have HG5 := Lib.hid (only_of_below HG3.out hG4)
          clear hB4 hG4
          go_wp2_with fail
          go_ret
          exact ⟨rfl, HG5.out⟩
    | succ k1 =>
      have he : ((((s1.n + (z - (k1 + 1))) % 64 : Nat) : Int) == 56) = false := by simp; omega
      have he2 : ((((s1.n + (z - (k1 + 1))) % 64 : Nat) : Int) != 56) = true := by simp; omega
      have hp : pushes s1 (List.replicate (z - k1) 0) = pushes (pushes s1 (List.replicate (z - (k1 + 1)) 0)) [0] := by
        rw [← pushes_append, show z - k1 = (z - (k1 + 1)) + 1 from by omega, List.replicate_succ']
      have HP := Lib.hid hp
      have HB2 := Lib.hid hB
      have HG2 := Lib.hid hG
      have HOK := Lib.hid hok
      obtain ⟨n1, hn1⟩ : ∃ n1, Hid (n1 = (s1.n + (z - (k1 + 1))) % 64) := ⟨_, rfl⟩
      rw [← hn1.out] at c2 he he2
      clear hB hG hcnt hz' hsn hp hok
      go_wp2_with fail
      refine (take_any b _ _ tj [0] HOK.out (by decide) HB2.out HKW.out hg).mono ?_
      rintro e w2 ⟨rfl, h2, g2⟩
      rw [← HP.out] at h2
      have H2 := Lib.hid h2
      have G2 := Lib.hid (only_trans HG2.out g2)
      clear h2 g2
      go_wp2_with fail
      go_roundg k1
      case measure => omega
      case rel => exact ⟨by omega, ⟨_, H2.out⟩, G2.out⟩
end Go.Proofs.YtlogcgeinbefjaaDoor
namespace Go.Proofs.YtlogcgeinbefjaaDoor
open Go.RowKit
set_option linter.unusedSimpArgs false
set_option linter.unusedVariables false
set_option maxRecDepth 100000

/-- a slice of texts. -/
def Strs (w : World) (A : Option Addr) (n : Nat) (ls : List (List UInt8)) : Prop :=
  ls.length = n ∧ (0 < n → ∃ g o, A = some ⟨g, o, none⟩ ∧ g < w.heap.size ∧ ∀ i, i < n → w.cell? ⟨g, o + i, none⟩ = some (.string ⟨(ls.getD i []).toArray⟩))
theorem Strs.below {w w' : World} {A : Option Addr} {n : Nat} {ls : List (List UInt8)} (h : Strs w A n ls) (hb : Below w.heap.size w w') : Strs w' A n ls :=
  ⟨h.1, fun hn => by
    obtain ⟨g, o, e, hg, hc⟩ := h.2 hn
    exact ⟨g, o, e, Nat.lt_of_lt_of_le hg hb.size, fun i hi => (hb.cell (p := ⟨g, o + i, none⟩) hg).trans (hc i hi)⟩⟩
def sumTo (ls : List (List UInt8)) (k : Nat) : List UInt8 := (ls.take k).flatten
theorem sumTo_succ (ls : List (List UInt8)) (k : Nat) (h : k < ls.length) : sumTo ls (k + 1) = sumTo ls k ++ ls.getD k [] := by
  unfold sumTo
  rw [List.take_succ_eq_append_getElem h, List.flatten_append]
  simp [List.getElem?_eq_getElem h]
theorem ofNat_add64 (a b : Nat) : BitVec.ofNat 64 a + BitVec.ofNat 64 b = BitVec.ofNat 64 (a + b) := by
  rw [BitVec.ofNat_add]
theorem finish_mod (s : St) (n : Nat) : finish s (BitVec.ofNat 64 n).toNat = finish s n := by
  unfold finish
  rw [BitVec.toNat_ofNat, show n % 2 ^ 64 * 8 % 18446744073709551616 = n * 8 % 18446744073709551616 from by omega]
set_option maxHeartbeats 1600000 in
set_option maxRecDepth 100000 in
theorem sum_any (A : Option Addr) (n c : Nat) (w : World) (ls : List (List UInt8)) (h : Strs w A n ls) (hlen : ∀ l ∈ ls, l.length ≤ 140737488355328) (hn : n ≤ 9223372036854775807) (hk : KsAt w) (hg : 1 < w.heap.size) :
    Calls Tryd.prog 40 #[.slice A n c] w fun e w' => e = .returned (.string ⟨(sha ls.flatten).toArray⟩) ∧ Below w.heap.size w w' := by
  have H := Lib.hid h
  have HL := Lib.hid hlen
  have HK := Lib.hid hk
  clear h hlen hk
  go_enter Tryd.func40, Tryd.ntmps40
  go_wp2_with fail
  refine (begin_any w).mono ?_
  rintro e w1 ⟨rfl, hw1⟩
  have h1 := Lib.hid (show Blk w1 w.heap.size 122 (hc (pushes st0 (sumTo ls 0)) (BitVec.ofNat 64 (sumTo ls 0).length)) by rw [hw1]; exact Blk.new _ _ _)
  have b1 := Lib.hid (show Below w.heap.size w w1 by rw [hw1]; exact (Below.refl _ _).alloc (Nat.le_refl _) _)
  clear hw1
  go_wp2_with fail
  go_loopw [9] (fun v wr => ∃ k : Nat, k ≤ n ∧ v = .int .i64 k ∧ Blk wr w.heap.size 122 (hc (pushes st0 (sumTo ls k)) (BitVec.ofNat 64 (sumTo ls k).length)) ∧ Below w.heap.size w wr) (fun v _ => n - (intOf v).toNat)
  case atStart => exact ⟨0, by omega, rfl, h1.out, b1.out⟩
  case round =>
    obtain ⟨k, hk, rfl, hB, hG⟩ := hrel
    have HKW := Lib.hid (show KsAt wr from fun i hi => (hG.cell (p := ⟨1, i, none⟩) hg).trans (HK.out i hi))
    by_cases hlt : k < n
    · obtain ⟨g, o, rfl, hgb, hcell⟩ := (H.out.below hG).2 (by omega)
      have c1 := hcell k hlt
      have hll : (ls.getD k []).length ≤ 140737488355328 := by
        have : k < ls.length := by rw [H.out.1]; exact hlt
        rw [List.getD_eq_getElem?_getD, List.getElem?_eq_getElem this]
        exact HL.out _ (List.getElem_mem this)
      have HLL := Lib.hid hll
      have hsu := sumTo_succ ls k (by rw [H.out.1]; exact hlt)
      have HSU := Lib.hid hsu
      obtain ⟨lk, hlk⟩ : ∃ lk, Hid (lk = ls.getD k []) := ⟨_, rfl⟩
      rw [← hlk.out] at c1 HLL HSU
      have HB := Lib.hid hB
      have HG := Lib.hid hG
      clear hcell hll hsu hB hG
      go_wp2_with fail
      refine (take_any w.heap.size _ _ _ lk (pushes_ok st0_ok _) HLL.out HB.out HKW.out hg).mono ?_
      rintro e w2 ⟨rfl, h2, g2⟩
      rw [← pushes_append, ← HSU.out, ofNat_add64, ← List.length_append, ← HSU.out] at h2
      have H2 := Lib.hid h2
      have G2 := Lib.hid (below_of_only HG.out g2 (Nat.le_refl _) HG.out.size)
      clear h2 g2
      go_wp2_with fail
      exact ⟨⟨k + 1, by omega, by go_num, H2.out, G2.out⟩, by simp [intOf]; omega⟩
    · obtain rfl : k = n := by omega
      have hfl : sumTo ls k = ls.flatten := by unfold sumTo; rw [← H.out.1, List.take_length]
      rw [hfl] at hB
      have HB := Lib.hid hB
      have HG := Lib.hid hG
      clear hB hG hfl
      go_wp2_with fail
      refine (end_any w.heap.size _ _ _ (pushes_ok st0_ok _) HB.out HKW.out hg).mono ?_
      rintro e w2 ⟨rfl, g2⟩
      obtain ⟨R, hR⟩ : ∃ R, Hid (R = sha ls.flatten) := ⟨_, rfl⟩
      rw [finish_mod, show finish (pushes st0 ls.flatten) ls.flatten.length = R from hR.out.symm]
      have G2 := Lib.hid (below_of_only HG.out g2 (Nat.le_refl _) HG.out.size)
      clear g2
      go_wp2_with fail
      go_ret
      refine ⟨?_, G2.out⟩
      rw [hR.out]
      rfl

theorem extract_take (l : List UInt8) (m : Nat) : (⟨l.toArray⟩ : ByteArray).extract 0 m = ⟨(l.take m).toArray⟩ := by
  apply ByteArray.ext
  rw [ByteArray.data_extract]
  simp
end Go.Proofs.YtlogcgeinbefjaaDoor
namespace Go.Proofs.YtlogcgeinbefjaaDoor
open Go.RowKit
set_option linter.unusedSimpArgs false
set_option linter.unusedVariables false
set_option maxRecDepth 100000
theorem KsAt.below {w w' : World} (h : KsAt w) (hg : 1 < w.heap.size) (hb : Below w.heap.size w w') : KsAt w' := fun i hi => (hb.cell (p := ⟨1, i, none⟩) hg).trans (h i hi)
theorem strs_two (w : World) (t : TypeId) (a b : List UInt8) : Strs (w.alloc (.cells #[.string ⟨a.toArray⟩, .string ⟨b.toArray⟩] t)) (some ⟨w.heap.size, 0, none⟩) 2 [a, b] :=
  ⟨rfl, fun _ => ⟨w.heap.size, 0, rfl, by simp, fun i hi => by
    rcases (show i = 0 ∨ i = 1 by omega) with rfl | rfl
    · exact (Blk.new w t #[.string ⟨a.toArray⟩, .string ⟨b.toArray⟩]).cell 0
    · exact (Blk.new w t #[.string ⟨a.toArray⟩, .string ⟨b.toArray⟩]).cell 1⟩⟩
theorem cat_eq (a b : List UInt8) : (⟨a.toArray⟩ : ByteArray) ++ (⟨b.toArray⟩ : ByteArray) = ⟨(a ++ b).toArray⟩ := by
  apply ByteArray.ext
  simp
end Go.Proofs.YtlogcgeinbefjaaDoor
namespace Go.Proofs.YtlogcgeinbefjaaDoor
open Go.RowKit
set_option linter.unusedSimpArgs false
set_option linter.unusedVariables false
set_option maxRecDepth 100000
theorem Own.strs {w : World} {B : Nat} {A : Option Addr} {n c : Nat} {ls : List (List UInt8)} (h : Own 9 w B (.slice A n c) (cstr ls)) : Strs w A n ls := by
  obtain ⟨A', c', hv⟩ := h.form
  injection hv with h1 h2 h3
  refine ⟨by rw [h2, cstr_length], fun hn => ?_⟩
  obtain ⟨g, hA, hB, hg⟩ := h.at_ (by omega)
  subst hA
  refine ⟨g, 0, rfl, hg, fun i hi => ?_⟩
  rw [Nat.zero_add, h.cell i (by omega), cstr_get _ _ (by rw [← cstr_length, ← h2]; exact hi)]

theorem Strs.at_ {w : World} {g o n : Nat} {ls : List (List UInt8)} (h : Strs w (some ⟨g, o, none⟩) n ls) (k : Nat) (hk : k < n) : w.cell? ⟨g, o + k, none⟩ = some (.string ⟨(ls.getD k []).toArray⟩) := by
  obtain ⟨g', o', e, _, hc⟩ := h.2 (by omega)
  injection e with e
  injection e with e1 e2
  subst e1; subst e2
  exact hc k hk
end Go.Proofs.YtlogcgeinbefjaaDoor
namespace Go.Proofs.YtlogcgeinbefjaaDoor
open Go.RowKit
set_option linter.unusedSimpArgs false
set_option linter.unusedVariables false
set_option maxRecDepth 100000
section
variable {P : Program} {t e ty : TypeId} {z : Value} {by_ : Nat} {w w' : World} {B : Nat} {v : Value} {xs : List Value}
theorem my_own_lit (w : World) (e : TypeId) (xs : List Value) (hB : B ≤ w.heap.size) (hl : xs.length ≤ 9223372036854775807) : Own e (w.alloc (.cells xs.toArray e)) B (.slice (some ⟨w.heap.size, 0, none⟩) xs.length xs.length) xs :=
  ⟨by simp, .inr ⟨w.heap.size, xs.length, xs.toArray, rfl, hB, heap_alloc_new w _, Nat.le_refl _, hl, by simp, by simp⟩⟩
end
end Go.Proofs.YtlogcgeinbefjaaDoor
namespace Go.Proofs.YtlogcgeinbefjaaDoor
open Go.RowKit
set_option linter.unusedSimpArgs false
set_option linter.unusedVariables false
set_option maxHeartbeats 800000 in
theorem short_any (k : Int) (hk1 : 1 ≤ k) (hk2 : k ≤ 32) (A : Option Addr) (n c : Nat) (w : World) (ls : List (List UInt8)) (h : Strs w A n ls) (hlen : ∀ l ∈ ls, l.length ≤ 140737488355328) (hn : n ≤ 9223372036854775807) (hk : KsAt w) (hg : 1 < w.heap.size) :
    Calls Tryd.prog 33 #[.int .i64 k, .slice A n c] w fun e w' => e = .returned (.tuple #[.string ⟨((sha ls.flatten).take k.toNat).toArray⟩, .int .i64 0]) ∧ Below w.heap.size w w' := by
  obtain ⟨m, rfl⟩ := Int.eq_ofNat_of_zero_le (show 0 ≤ k by omega)
  rw [Int.toNat_natCast]
  have H := Lib.hid h
  have HL := Lib.hid hlen
  have HK := Lib.hid hk
  clear h hlen hk
  go_enter Tryd.func33, Tryd.ntmps33
  go_wp2_with fail
  refine (sum_any A n c w ls H.out HL.out hn HK.out hg).mono ?_
  rintro e w1 ⟨rfl, b1⟩
  obtain ⟨R, hR⟩ : ∃ R, Hid (R = sha ls.flatten) := ⟨_, rfl⟩
  rw [← hR.out]
  have hRl : R.length = 32 := by rw [hR.out]; exact sha_length _
  have hsz : (⟨R.toArray⟩ : ByteArray).size = 32 := by simp [ByteArray.size, hRl]
  have HX := Lib.hid (extract_take R m)
  have B1 := Lib.hid b1
  clear b1
  go_wp2_with fail
  go_ret2
  refine ⟨?_, B1.out⟩
  rw [← hR.out]
  simp only [HX.out]
  rfl
end Go.Proofs.YtlogcgeinbefjaaDoor
namespace Go.Proofs.YtlogcgeinbefjaaDoor
open Go.RowKit Go.Proofs.YtlogcgeinbefjaaDoorW.PrintWords Go.Proofs.YtlogcgeinbefjaaDoorW.PrintLast
set_option linter.unusedSimpArgs false
set_option linter.unusedVariables false
set_option maxRecDepth 20000
/-- a message that is not whole. -/
structure Ms where
  id : List UInt8
  sum : List UInt8
  pcs : List (List UInt8)
  came : List Bool
  left : Int
structure Jn where
  most : Nat
  noted : Nat
  some : List Ms
  done : List (List UInt8)
/-- where a message lies: its block, its pieces', what came. -/
structure Pl where
  x : Nat
  p : Nat
  c : Nat
def msC (t : Pl) (m : Ms) : Array Value := #[.string ⟨m.id.toArray⟩, .string ⟨m.sum.toArray⟩, .slice (some ⟨t.p, 0, none⟩) m.pcs.length m.pcs.length, .slice (some ⟨t.c, 0, none⟩) m.pcs.length m.pcs.length, .int .i64 m.left]
def bls (l : List Bool) : List Value := l.map fun b => Value.bool b
structure MsA (B : Nat) (w : World) (t : Pl) (m : Ms) : Prop where
  x : Blk w t.x 72 (msC t m)
  p : Blk w t.p 9 (cstr m.pcs).toArray
  c : Blk w t.c 4 (bls m.came).toArray
  l : m.came.length = m.pcs.length
  b : B ≤ t.x ∧ B ≤ t.p ∧ B ≤ t.c
  n : 1 ≤ m.pcs.length ∧ m.pcs.length ≤ 11
  lf : 0 ≤ m.left ∧ m.left ≤ 11
  sz : ∀ s ∈ m.pcs, s.length ≤ 200
def ptrX (T : List Pl) : List Value := T.map fun t => .pointer (some ⟨t.x, 0, none⟩)
def jC (vS vN : Value) (J : Jn) : Array Value := #[.int .i64 (J.most : Nat), vS, .int .i64 (J.noted : Nat), vN]
structure JnA (B : Nat) (w : World) (j : Nat) (vS vN : Value) (T : List Pl) (J : Jn) : Prop where
  hj : Blk w j 63 (jC vS vN J)
  bj : B ≤ j
  s : Win 70 w B vS (ptrX T)
  n : Win 9 w B vN (cstr J.done)
  len : T.length = J.some.length
  ms : ∀ (i : Nat) (t : Pl) (m : Ms), T[i]? = some t → J.some[i]? = some m → MsA B w t m
  dx : (T.map (·.x)).Nodup
  dp : (T.map (·.p)).Nodup
  dc : (T.map (·.c)).Nodup
  np : ∀ t ∈ T, vN.ownBlock ≠ some t.p
  bd : (1 ≤ J.most ∧ J.most ≤ 1024) ∧ (1 ≤ J.noted ∧ J.noted ≤ 1024) ∧ J.some.length ≤ J.most ∧ J.done.length ≤ J.noted
section
variable {B : Nat} {w w' : World} {j : Nat} {vS vN : Value} {T : List Pl} {J : Jn} {t : Pl} {m : Ms}
theorem MsA.below (h : MsA B w t m) (hb : Below w.heap.size w w') : MsA B w' t m := ⟨h.x.below hb h.x.lt, h.p.below hb h.p.lt, h.c.below hb h.c.lt, h.l, h.b, h.n, h.lf, h.sz⟩
theorem JnA.below (h : JnA B w j vS vN T J) (hb : Below w.heap.size w w') : JnA B w' j vS vN T J :=
  ⟨h.hj.below hb h.hj.lt, h.bj, h.s.below hb, h.n.below hb, h.len, fun i t m h1 h2 => (h.ms i t m h1 h2).below hb, h.dx, h.dp, h.dc, h.np, h.bd⟩
theorem JnA.at_ (h : JnA B w j vS vN T J) (i : Nat) (hi : i < J.some.length) : ∃ t b off cap, T[i]? = some t ∧ vS = .slice (some ⟨b, off, none⟩) J.some.length cap ∧ w.cell? ⟨b, off + i, none⟩ = some (.pointer (some ⟨t.x, 0, none⟩)) ∧ MsA B w t J.some[i] := by
  have hT : i < T.length := by rw [h.len]; exact hi
  have hp : (ptrX T).length = J.some.length := by simp [ptrX, h.len]
  obtain ⟨b, off, cap, hv, _, _, hc⟩ := h.s.at_ i (by rw [hp]; exact hi)
  rw [hp] at hv
  exact ⟨T[i], b, off, cap, List.getElem?_eq_getElem hT, hv, by rw [hc]; simp [ptrX, List.getElem?_eq_getElem hT], h.ms i _ _ (List.getElem?_eq_getElem hT) (List.getElem?_eq_getElem hi)⟩
end
/-! ### small calls -/
def digL (id body : List UInt8) : List UInt8 := (sha (id ++ body)).take 6
set_option maxHeartbeats 800000 in
theorem digest_any (id body : List UInt8) (w : World) (h1 : id.length ≤ 140737488355328) (h2 : body.length ≤ 140737488355328) (hk : KsAt w) (hks : 1 < w.heap.size) :
    Calls Tryd.prog 19 #[.string ⟨id.toArray⟩, .string ⟨body.toArray⟩] w fun e w' => e = .returned (.string ⟨(digL id body).toArray⟩) ∧ Below w.heap.size w w' := by
  have HS := Lib.hid (show ∀ (W : World) (A : Option Addr), Strs W A 2 [id, body] → KsAt W → 1 < W.heap.size → Calls Tryd.prog 33 #[.int .i64 6, .slice A 2 2] W fun e w' => e = .returned (.tuple #[.string ⟨(digL id body).toArray⟩, .int .i64 0]) ∧ Below W.heap.size W w' from fun W A hS hk hg => by
    have := short_any 6 (by decide) (by decide) A 2 2 W [id, body] hS (by
      intro y hy
      rcases List.mem_cons.1 hy with h | h
      · rw [h]; exact h1
      · rw [List.mem_singleton.1 h]; exact h2) (by decide) hk hg
    have e : ([id, body] : List (List UInt8)).flatten = id ++ body := by simp
    rw [e] at this
    exact this)
  have HST := Lib.hid (fun W : World => strs_two W 9 id body)
  have HK := Lib.hid hk
  have HKS := Lib.hid hks
  obtain ⟨ib, IB⟩ : ∃ t : ByteArray, Hid (⟨id.toArray⟩ = t) := ⟨_, Lib.hid rfl⟩
  obtain ⟨bb, BB⟩ : ∃ t : ByteArray, Hid (⟨body.toArray⟩ = t) := ⟨_, Lib.hid rfl⟩
  obtain ⟨rb, RB⟩ : ∃ t : ByteArray, Hid (⟨(digL id body).toArray⟩ = t) := ⟨_, Lib.hid rfl⟩
  rw [RB.out] at HS ⊢
  rw [IB.out, BB.out] at HST ⊢
  clear h1 h2 hk hks
  go_enter Tryd.func19, Tryd.ntmps19
  go_wp2_with fail
  refine (HS.out _ _ (HST.out w) (HK.out.below HKS.out ((Below.refl _ _).alloc (Nat.le_refl _) _)) (Nat.lt_of_lt_of_le HKS.out (by simp))).mono ?_
  rintro e w1 ⟨rfl, b1⟩
  have B1 := Lib.hid ((show Below w.heap.size w (w.alloc _) from (Below.refl _ _).alloc (Nat.le_refl _) _).trans (b1.mono (by simp)))
  clear b1
  go_wp2_with fail
  go_ret
  exact ⟨rfl, B1.out⟩
set_option maxHeartbeats 400000 in
theorem byId_any (x b : Nat) (id : List UInt8) (t : TypeId) (cs cs' : Array Value) (i2 : List UInt8) (w : World) (hx : Blk w x 72 cs) (h0 : cs[0]? = some (.string ⟨i2.toArray⟩)) (hb : Blk w b 65 cs') (h1 : cs'[0]? = some (.string ⟨id.toArray⟩)) :
    Calls Tryd.prog 24 #[.pointer (some ⟨x, 0, none⟩), .pointer (some ⟨b, 0, none⟩)] w fun e w' => e = .returned (.bool (i2 == id)) ∧ Below w.heap.size w w' := by
  have nb : ∀ n, Below w.heap.size w (w.drewN n) := fun n => below_drewN (Below.refl _ _) n
  have HE := Lib.hid (show ((⟨i2.toArray⟩ : ByteArray).toList == (⟨id.toArray⟩ : ByteArray).toList) = (i2 == id) by rw [ByteArray.toList_eq, ByteArray.toList_eq])
  have c0 : w.cell? ⟨x, 0, none⟩ = some (.string ⟨i2.toArray⟩) := (hx.cell 0).trans h0
  have c1 : w.cell? ⟨b, 0, none⟩ = some (.string ⟨id.toArray⟩) := (hb.cell 0).trans h1
  obtain ⟨ib, IB⟩ : ∃ t : ByteArray, Hid (⟨id.toArray⟩ = t) := ⟨_, Lib.hid rfl⟩
  obtain ⟨bb, BB⟩ : ∃ t : ByteArray, Hid (⟨i2.toArray⟩ = t) := ⟨_, Lib.hid rfl⟩
  rw [IB.out] at c1 HE
  rw [BB.out] at c0 HE
  clear hx hb h0 h1
  go_enter Tryd.func24, Tryd.ntmps24
  go_wp2_with fail
  go_quiet (fail)
  go_wp2_with fail
  go_ret
  exact ⟨by rw [← HE.out]; rfl, nb _⟩
end Go.Proofs.YtlogcgeinbefjaaDoor
namespace Go.Proofs.YtlogcgeinbefjaaDoor
open Go.RowKit Go.Proofs.YtlogcgeinbefjaaDoorW.PrintWords Go.Proofs.YtlogcgeinbefjaaDoorW.PrintLast
set_option linter.unusedSimpArgs false
set_option linter.unusedVariables false
set_option maxRecDepth 20000
/-- the first one of whom it is said; the length: there is none. -/
def fstI {α : Type} (p : α → Bool) (l : List α) : Int := if l.any p then ((l.findIdx p : Nat) : Int) else -1
theorem fstI_hit {α : Type} (p : α → Bool) (l : List α) (k : Nat) (a : α) (ha : l[k]? = some a) (h1 : p a = true) (h0 : ∀ j x, j < k → l[j]? = some x → p x = false) : fstI p l = (k : Int) := by
  have hk : k < l.length := (List.getElem?_eq_some_iff.1 ha).1
  have hm : a ∈ l := List.mem_of_getElem? ha
  have hany : l.any p = true := List.any_eq_true.2 ⟨a, hm, h1⟩
  unfold fstI
  rw [if_pos hany]
  have : l.findIdx p = k := by
    rw [List.findIdx_eq hk]
    refine ⟨by rw [← h1]; congr 1; exact (List.getElem?_eq_some_iff.1 ha).2, fun j hj => ?_⟩
    exact h0 j _ hj (List.getElem?_eq_getElem (by omega))
  rw [this]
theorem fstI_none {α : Type} (p : α → Bool) (l : List α) (h0 : ∀ j x, j < l.length → l[j]? = some x → p x = false) : fstI p l = -1 := by
  unfold fstI
  rw [if_neg]
  intro h
  obtain ⟨x, hx, hp⟩ := List.any_eq_true.1 h
  obtain ⟨j, hj, rfl⟩ := List.mem_iff_getElem.1 hx
  have := h0 j _ hj (List.getElem?_eq_getElem hj)
  rw [this] at hp
  cases hp
theorem fstI_ge {α : Type} (p : α → Bool) (l : List α) : decide (0 ≤ fstI p l) = l.any p := by
  unfold fstI
  cases h : l.any p with
  | true => rw [if_pos rfl]; simp
  | false => rw [if_neg (by simp)]; simp
set_option maxHeartbeats 800000 in
theorem indexM_any (B j : Nat) (vS vN : Value) (T : List Pl) (J : Jn) (b : Nat) (id : List UInt8) (cs : Array Value) (w : World) (h : JnA B w j vS vN T J) (hb : Blk w b 65 cs) (h0 : cs[0]? = some (.string ⟨id.toArray⟩)) :
    Calls Tryd.prog 23 #[vS, .func (Fn.func 24) #[] #[.pointer (some ⟨b, 0, none⟩)]] w fun e w' => e = .returned (.int .i64 (fstI (fun m : Ms => m.id == id) J.some)) ∧ Below w.heap.size w w' := by
  obtain ⟨A, c, rfl, hc1, hc2⟩ := h.s.form
  have hp : (ptrX T).length = J.some.length := by simp [ptrX, h.len]
  rw [hp] at hc1 h ⊢
  have hl : J.some.length ≤ 1024 := by have := h.bd; omega
  have H := Lib.hid h
  have HBB := Lib.hid hb
  have H00 := Lib.hid h0
  clear h hb h0 hp
  obtain ⟨n, hn⟩ : ∃ n, Hid (J.some.length = n) := ⟨_, Lib.hid rfl⟩
  rw [hn.out] at hc1 hl ⊢
  go_enter Tryd.func23, Tryd.ntmps23
  go_wp2_with fail
  go_loopg [8] (n + 1) (fun kq v wr => ∃ k : Nat, k + kq = n + 1 ∧ k ≤ n ∧ v = .int .i64 k ∧ Hid (Below w.heap.size w wr) ∧ Hid (∀ j x, j < k → J.some[j]? = some x → (x.id == id) = false))
  case atStart => exact ⟨0, by omega, by omega, rfl, Lib.hid (Below.refl _ _), Lib.hid (fun j x hj => by omega)⟩
  case round =>
    obtain ⟨k, hk, hk2, rfl, HW, H0⟩ := hrel
    by_cases hlt : k < n
    · obtain ⟨t, b', off, cap, hT, hv, hcell, hm⟩ := (H.out.below HW.out).at_ k (by rw [hn.out]; exact hlt)
      rw [hn.out] at hv
      injection hv with hv1 _ hv3
      subst hv1
      have e1 : 0 ≤ (k : Int) ∧ (k : Int) < (n : Int) := by omega
      have HG := Lib.hid (List.getElem?_eq_getElem (show k < J.some.length by rw [hn.out]; exact hlt))
      obtain ⟨m, hme⟩ : ∃ m, m = J.some[k]'(by rw [hn.out]; exact hlt) := ⟨_, rfl⟩
      rw [← hme] at hm HG
      have HM := Lib.hid hm
      have HB2 := Lib.hid (HBB.out.below HW.out HBB.out.lt)
      clear hT hm hme hv3
      go_wp2_with fail
      refine (byId_any t.x b id 9 _ cs m.id wr HM.out.x rfl HB2.out H00.out).mono ?_
      rintro e w' ⟨rfl, bw⟩
      have HW2 := Lib.hid (HW.out.trans (bw.mono HW.out.size))
      clear bw HW HM HB2 hcell
      cases hp : m.id == id with
      | true =>
        have HF := Lib.hid (fstI_hit (fun s : Ms => s.id == id) J.some k m HG.out hp H0.out)
        clear hp
        go_wp2_with fail
        go_ret
        exact ⟨by rw [HF.out]; rfl, HW2.out⟩
      | false =>
        have H1 : Hid (∀ j x, j < k + 1 → J.some[j]? = some x → (x.id == id) = false) := Lib.hid (fun j x hj hx => by
          rcases Nat.lt_or_ge j k with h | h
          · exact H0.out j x h hx
          · obtain rfl : j = k := by omega
            rw [HG.out] at hx
            cases hx
            exact hp)
        clear hp
        go_wp2_with fail
        go_roundg (n - k)
        case measure => omega
        case rel => exact ⟨k + 1, by omega, by omega, by go_num, HW2, H1⟩
    · obtain rfl : k = n := by omega
      have HF := Lib.hid (fstI_none (fun s : Ms => s.id == id) J.some (by rw [hn.out]; exact H0.out))
      have hq : gk = 1 := by omega
      subst hq
      clear hlt hk2 hk
      go_wp2_with fail
      go_ret
      exact ⟨by rw [HF.out]; rfl, HW.out⟩
set_option maxHeartbeats 800000 in
theorem indexT_any (B : Nat) (v : Value) (l : List (List UInt8)) (id : List UInt8) (w : World) (h : Win 9 w B v (cstr l)) (hl : l.length ≤ 1024) :
    Calls Tryd.prog 35 #[v, .string ⟨id.toArray⟩] w fun e w' => e = .returned (.int .i64 (fstI (fun s : List UInt8 => s == id) l)) ∧ w' = w := by
  obtain ⟨A, c, rfl, hc1, hc2⟩ := h.form
  rw [cstr_length] at hc1 h ⊢
  have H := Lib.hid h
  clear h
  obtain ⟨ib, IB⟩ : ∃ t : ByteArray, Hid (⟨id.toArray⟩ = t) := ⟨_, Lib.hid rfl⟩
  rw [IB.out]
  obtain ⟨n, hn⟩ : ∃ n, Hid (l.length = n) := ⟨_, Lib.hid rfl⟩
  rw [hn.out] at hc1 hl H ⊢
  go_enter Tryd.func35, Tryd.ntmps35
  go_wp2_with fail
  go_loop [8] (fun v => ∃ k : Nat, k ≤ n ∧ v = .int .i64 k ∧ Hid (∀ j x, j < k → l[j]? = some x → (x == id) = false)) (fun v => n - (intOf v).toNat)
  case atStart => exact ⟨0, by omega, rfl, Lib.hid (fun j x hj => by omega)⟩
  case round =>
    obtain ⟨k, hk, rfl, H0⟩ := hrel
    by_cases hlt : k < n
    · obtain ⟨b', off, cap, hv, _, _, hcell⟩ := H.out.at_ k (by rw [cstr_length, hn.out]; exact hlt)
      rw [cstr_length, hn.out] at hv
      injection hv with hv1 _ hv3
      subst hv1
      have e1 : 0 ≤ (k : Int) ∧ (k : Int) < (n : Int) := by omega
      have HG := Lib.hid (List.getElem?_eq_getElem (show k < l.length by rw [hn.out]; exact hlt))
      obtain ⟨a, ha⟩ : ∃ a, a = l[k]'(by rw [hn.out]; exact hlt) := ⟨_, rfl⟩
      rw [← ha] at HG
      obtain ⟨ab, AB⟩ : ∃ t : ByteArray, Hid (⟨a.toArray⟩ = t) := ⟨_, Lib.hid rfl⟩
      have hcell2 : w.cell? ⟨b', off + k, none⟩ = some (.string ab) := by rw [hcell, ← AB.out]; simp [cstr, HG.out]
      have HE := Lib.hid (show (ib.toList == ab.toList) = (a == id) by rw [← IB.out, ← AB.out, ByteArray.toList_eq, ByteArray.toList_eq]; show (id == a) = (a == id); exact Bool.beq_comm)
      clear hcell ha hv3
      cases hp : a == id with
      | true =>
        have HF := Lib.hid (fstI_hit (fun s : List UInt8 => s == id) l k a HG.out hp H0.out)
        have he := HE.out
        rw [hp] at he
        clear hp
        go_wp2_with fail
        go_ret
        exact ⟨by rw [HF.out]; rfl, rfl⟩
      | false =>
        have H1 : Hid (∀ j x, j < k + 1 → l[j]? = some x → (x == id) = false) := Lib.hid (fun j x hj hx => by
          rcases Nat.lt_or_ge j k with h | h
          · exact H0.out j x h hx
          · obtain rfl : j = k := by omega
            rw [HG.out] at hx
            cases hx
            exact hp)
        have he := HE.out
        rw [hp] at he
        clear hp
        go_wp2_with fail
        go_round
        case rel => exact ⟨k + 1, by omega, by go_num, H1⟩
        case measure => simp [intOf]; omega
    · obtain rfl : k = n := by omega
      have HF := Lib.hid (fstI_none (fun s : List UInt8 => s == id) l (by rw [hn.out]; exact H0.out))
      go_wp2_with fail
      go_ret
      exact ⟨by rw [HF.out]; rfl, rfl⟩
set_option maxHeartbeats 400000 in
theorem containsT_any (B : Nat) (v : Value) (l : List (List UInt8)) (id : List UInt8) (w : World) (h : Win 9 w B v (cstr l)) (hl : l.length ≤ 1024) :
    Calls Tryd.prog 22 #[v, .string ⟨id.toArray⟩] w fun e w' => e = .returned (.bool (l.any fun s => s == id)) ∧ w' = w := by
  have HC := Lib.hid (indexT_any B v l id w h hl)
  have HE := Lib.hid (fstI_ge (fun s : List UInt8 => s == id) l)
  obtain ⟨A, c, rfl, hc1, hc2⟩ := h.form
  clear h
  go_enter Tryd.func22, Tryd.ntmps22
  go_wp2_with fail
  refine HC.out.mono ?_
  rintro e w' ⟨rfl, rfl⟩
  go_wp2_with fail
  go_ret
  exact ⟨by rw [← HE.out]; rfl, rfl⟩
end Go.Proofs.YtlogcgeinbefjaaDoor
namespace Go.Proofs.YtlogcgeinbefjaaDoor
open Go.RowKit Go.Proofs.YtlogcgeinbefjaaDoorW.PrintWords Go.Proofs.YtlogcgeinbefjaaDoorW.PrintLast
set_option linter.unusedSimpArgs false
set_option linter.unusedVariables false
set_option maxRecDepth 20000
def pushQ {α : Type} (most : Nat) (xs : List α) (x : α) : List α := (if xs.length = most then xs.drop 1 else xs) ++ [x]
theorem Blk.ty {w : World} {g : Nat} {t u : TypeId} {cs ds : Array Value} (h : Blk w g t cs) (k : Blk w g u ds) : t = u ∧ cs = ds := by
  have e := Option.some.inj (h.symm.trans k)
  injection e with e1 e2 e3
  exact ⟨e2, e1⟩
theorem elemTx : Elem Tryd.prog 22 9 (.string ⟨#[]⟩) 16 := ⟨Tryd.underlying22, by kernel_rfl, by rfl⟩
theorem cstr_one (l : List (List UInt8)) : ∀ u ∈ cstr l, u.oneCell' = true := by
  intro u hu
  obtain ⟨s, _, rfl⟩ := List.mem_map.1 hu
  rfl
theorem cstr_snoc (l : List (List UInt8)) (s : List UInt8) : cstr (l ++ [s]) = cstr l ++ [.string ⟨s.toArray⟩] := by simp [cstr]
def ptrN (l : List Nat) : List Value := l.map fun x => .pointer (some ⟨x, 0, none⟩)
theorem ptrN_length (l : List Nat) : (ptrN l).length = l.length := by simp [ptrN]
theorem ptrN_snoc (l : List Nat) (x : Nat) : ptrN (l ++ [x]) = ptrN l ++ [.pointer (some ⟨x, 0, none⟩)] := by simp [ptrN]
theorem ptrN_one (l : List Nat) : ∀ u ∈ ptrN l, u.oneCell' = true := by
  intro u hu
  obtain ⟨s, _, rfl⟩ := List.mem_map.1 hu
  rfl
theorem elemMs : Elem Tryd.prog 57 70 (.pointer none) 8 := ⟨Tryd.underlying57, by kernel_rfl, by rfl⟩
structure PutT (B j : Nat) (a : Int) (vS : Value) (m : Nat) (v : Value) (xs : List (List UInt8)) (w w' : World) (e : Ending) : Prop where
  e : e = .returned (.tuple #[])
  r : ∃ v', Blk w' j 63 #[.int .i64 a, vS, .int .i64 (m : Nat), v'] ∧ Win 9 w' B v' (cstr xs) ∧ Kp (fun i => i = j ∨ v.ownBlock = some i) w w' ∧ (v'.ownBlock = v.ownBlock ∨ ∃ b, v'.ownBlock = some b ∧ w.heap.size ≤ b)
set_option maxHeartbeats 1600000 in
theorem putT_any (B j : Nat) (a : Int) (vS : Value) (v : Value) (m : Nat) (xs : List (List UInt8)) (s : List UInt8) (w : World) (hj : Blk w j 63 #[.int .i64 a, vS, .int .i64 (m : Nat), v]) (hB : B ≤ w.heap.size) (hW : Win 9 w B v (cstr xs)) (hm : 1 ≤ m ∧ m ≤ 1024) (hx : xs.length ≤ m) :
    Calls Tryd.prog 28 #[.pointer (some ⟨j, 2, none⟩), .string ⟨s.toArray⟩] w fun e w' => PutT B j a vS m v (pushQ m xs s) w w' e := by
  have nb : ∀ n, Kp (fun i => i = j ∨ v.ownBlock = some i) w (w.drewN n) := fun n => Kp.of_below (below_drewN (Below.refl _ _) n)
  obtain ⟨sb, SB⟩ : ∃ t : ByteArray, Hid (⟨s.toArray⟩ = t) := ⟨_, Lib.hid rfl⟩
  rw [SB.out]
  obtain ⟨A, c, hv, hc1, hc2⟩ := hW.form
  rw [cstr_length] at hv hc1
  have HB := Lib.hid hB
  have HJ := Lib.hid hj
  have HW := Lib.hid hW
  have c2 : w.cell? ⟨j, 2, none⟩ = some (.int .i64 (m : Nat)) := hj.cell 2
  have c3 : w.cell? ⟨j, 3, none⟩ = some v := hj.cell 3
  have f3 : w.frozen? ⟨j, 3, none⟩ = false := hj.frozen 3
  have HNJ : Hid (∀ b, v.ownBlock = some b → b ≠ j) := Lib.hid (fun b h e => by
    obtain ⟨_, cs, hb⟩ := hW.typed b h
    subst e
    exact absurd (hb.ty hj).1 (by decide))
  by_cases hf : xs.length = m
  · obtain ⟨y, r, hr⟩ : ∃ y r, xs = y :: r := by
      cases xs with
      | nil => simp at hf; omega
      | cons y r => exact ⟨y, r, rfl⟩
    have HP := Lib.hid (show pushQ m xs s = r ++ [s] by unfold pushQ; rw [if_pos hf, hr]; rfl)
    obtain ⟨b, off, off', cap, hv2, hcap, ho, HT0⟩ := hW.tail (show cstr xs = .string ⟨y.toArray⟩ :: cstr r by rw [hr]; rfl)
    have HT := Lib.hid HT0
    rw [cstr_length] at hv2 HT
    have hrl : r.length + 1 = xs.length := by rw [hr]; rfl
    have d0 : ((xs.length : Int) == (m : Int)) = true := by rw [hf]; exact beq_self_eq_true _
    obtain ⟨n, hn⟩ : ∃ n, Hid (xs.length = n) := ⟨_, Lib.hid rfl⟩
    rw [hn.out] at d0 hv2 hrl
    have hcc := hv.symm.trans hv2
    rw [hn.out] at hcc
    injection hcc with _ _ hcc
    subst hcc
    rw [hn.out] at hc1
    rw [hv2] at c3
    have HV := Lib.hid hv2
    have HL := Lib.hid (show (r.length + 1) * 16 ≤ 140737488355328 ∧ r.length + 1 ≤ 9223372036854775807 by have := hn.out; omega)
    have e1 : (1 : Int) ≤ (n : Int) ∧ (n : Int) ≤ (c : Int) := by omega
    have HRL := Lib.hid hrl
    by_cases hc : c = 1
    · subst hc
      rw [if_pos rfl] at ho
      rw [ho] at HT
      clear ho
      have hn1 : n = 1 := by omega
      subst hn1
      have hr0 : r.length = 0 := by omega
      rw [hr0] at HT
      clear hj hB hW hm hx hf hr hv hv2 hrl HT0 hc1 hr0
      go_enter Tryd.func28, Tryd.ntmps28
      go_wp2_with fail
      go_quiet (fail)
      go_upto_region 2 with fail
      refine gworld (fun W => Hid (Blk W j 63 #[.int .i64 a, vS, .int .i64 (m : Nat), (Value.slice (some ⟨b, off, none⟩) 0 0)]) ∧ Hid (Win 9 W B (Value.slice (some ⟨b, off, none⟩) 0 0) (cstr r)) ∧ Hid (Kp (fun i => i = j ∨ v.ownBlock = some i) w W)) ⟨Lib.hid ((HJ.out.drewN _).set_ 3 _), Lib.hid ((HT.out.below (below_drewN (Below.refl _ _) _)).kp (Kp.set_ (S := fun i => i = j) rfl _ _) (fun b h e => HNJ.out b (by rw [HV.out]; exact h) e)), Lib.hid ((nb _).trans (Kp.set_ (.inl rfl) _ _))⟩ ?_
      rintro w1 ⟨J1, W1, K1⟩
      obtain ⟨v2, w2, hap, h2, h3, h4⟩ := win_append (P := Tryd.prog) (ty := 22) elemTx (W1.out.below ((Below.refl _ _).alloc (Nat.le_refl _) (.cells #[Value.string sb] 9))) (cstr_one _) w1.heap.size 1 (Value.string sb) ((Blk.new w1 9 #[Value.string sb]).cell 0) rfl (by rw [cstr_length]; exact HL.out.1) (by rw [cstr_length]; exact HL.out.2) (by simp; have := HB.out; have := K1.out.size; omega)
      obtain ⟨A2, c2', hv2, hc2', _⟩ := h2.form
      have N1 := Lib.hid (show ((Value.slice (some ⟨b, off, none⟩) 0 0)).ownBlock ≠ some j from fun h => by
        obtain ⟨_, cs, hb⟩ := W1.out.typed j h
        exact absurd (hb.ty J1.out).1 (by decide))
      have J2 := Lib.hid ((J1.out.alloc (.cells #[Value.string sb] 9)).grown h3 (fun h => N1.out h.symm))
      have c5 : w2.cell? ⟨j, 3, none⟩ = some ((Value.slice (some ⟨b, off, none⟩) 0 0)) := J2.out.cell 3
      have c4 : w1.cell? ⟨j, 3, none⟩ = some ((Value.slice (some ⟨b, off, none⟩) 0 0)) := J1.out.cell 3
      have f5 : w2.frozen? ⟨j, 3, none⟩ = false := J2.out.frozen 3
      have HV2 := Lib.hid hv2
      rw [hv2] at hap
      have HR := Lib.hid hap
      have H2 := Lib.hid h2
      have H3 := Lib.hid h3
      have H4 := Lib.hid h4
      clear hap h2 h3 h4 hc2' hv2
      obtain ⟨n2, hn2⟩ : ∃ n2, Hid ((cstr r ++ [Value.string sb]).length = n2) := ⟨_, Lib.hid rfl⟩
      rw [hn2.out] at HR HV2
      go_wp2_with ((with_reducible refine gate_dst (N := 29) rfl ?_); refine wpList_append_run rfl (.tmp 26) (.tmp 28) _ _ rfl rfl rfl HR.out ?_)
      go_end0
      rw [← HV2.out, HP.out]
      have N2 : ∀ b, v2.ownBlock = some b → b ≠ j := fun b h e => by
        obtain ⟨_, cs, hb⟩ := H2.out.typed b h
        subst e
        exact absurd (hb.ty J2.out).1 (by decide)
      refine ⟨rfl, v2, J2.out.set_ 3 _, ?_, ?_, ?_⟩
      · rw [cstr_snoc, SB.out]
        exact H2.out.kp (Kp.set_ (S := fun i => i = j) rfl _ _) (fun b h e => N2 b h e)
      · refine (K1.out.trans ((Kp.of_below ((Below.refl _ _).alloc (Nat.le_refl _) _)).trans (Kp.grown H3.out (fun k hk _ => .inr (by rw [HV.out]; exact hk))))).trans (Kp.set_ (.inl rfl) _ _)
      · rcases H4.out with h | h
        · exact .inl (h.trans (by rw [HV.out]; rfl))
        · exact .inr ⟨_, h, by simp; exact Nat.le_succ_of_le K1.out.size⟩
    · have hn1 : n - 1 = r.length := by omega
      rw [if_neg hc] at ho
      rw [ho] at HT
      clear ho
      rw [← hn1] at HT
      clear hj hB hW hm hx hf hr hv hv2 hrl HT0 hc1 hn1
      go_enter Tryd.func28, Tryd.ntmps28
      go_wp2_with fail
      go_quiet (fail)
      go_upto_region 2 with fail
      refine gworld (fun W => Hid (Blk W j 63 #[.int .i64 a, vS, .int .i64 (m : Nat), (Value.slice (some ⟨b, off + 1, none⟩) (n - 1) (c - 1))]) ∧ Hid (Win 9 W B (Value.slice (some ⟨b, off + 1, none⟩) (n - 1) (c - 1)) (cstr r)) ∧ Hid (Kp (fun i => i = j ∨ v.ownBlock = some i) w W)) ⟨Lib.hid ((HJ.out.drewN _).set_ 3 _), Lib.hid ((HT.out.below (below_drewN (Below.refl _ _) _)).kp (Kp.set_ (S := fun i => i = j) rfl _ _) (fun b h e => HNJ.out b (by rw [HV.out]; exact h) e)), Lib.hid ((nb _).trans (Kp.set_ (.inl rfl) _ _))⟩ ?_
      rintro w1 ⟨J1, W1, K1⟩
      obtain ⟨v2, w2, hap, h2, h3, h4⟩ := win_append (P := Tryd.prog) (ty := 22) elemTx (W1.out.below ((Below.refl _ _).alloc (Nat.le_refl _) (.cells #[Value.string sb] 9))) (cstr_one _) w1.heap.size 1 (Value.string sb) ((Blk.new w1 9 #[Value.string sb]).cell 0) rfl (by rw [cstr_length]; exact HL.out.1) (by rw [cstr_length]; exact HL.out.2) (by simp; have := HB.out; have := K1.out.size; omega)
      obtain ⟨A2, c2', hv2, hc2', _⟩ := h2.form
      have N1 := Lib.hid (show ((Value.slice (some ⟨b, off + 1, none⟩) (n - 1) (c - 1))).ownBlock ≠ some j from fun h => by
        obtain ⟨_, cs, hb⟩ := W1.out.typed j h
        exact absurd (hb.ty J1.out).1 (by decide))
      have J2 := Lib.hid ((J1.out.alloc (.cells #[Value.string sb] 9)).grown h3 (fun h => N1.out h.symm))
      have c5 : w2.cell? ⟨j, 3, none⟩ = some ((Value.slice (some ⟨b, off + 1, none⟩) (n - 1) (c - 1))) := J2.out.cell 3
      have c4 : w1.cell? ⟨j, 3, none⟩ = some ((Value.slice (some ⟨b, off + 1, none⟩) (n - 1) (c - 1))) := J1.out.cell 3
      have f5 : w2.frozen? ⟨j, 3, none⟩ = false := J2.out.frozen 3
      have HV2 := Lib.hid hv2
      rw [hv2] at hap
      have HR := Lib.hid hap
      have H2 := Lib.hid h2
      have H3 := Lib.hid h3
      have H4 := Lib.hid h4
      clear hap h2 h3 h4 hc2' hv2
      obtain ⟨n2, hn2⟩ : ∃ n2, Hid ((cstr r ++ [Value.string sb]).length = n2) := ⟨_, Lib.hid rfl⟩
      rw [hn2.out] at HR HV2
      go_wp2_with ((with_reducible refine gate_dst (N := 29) rfl ?_); refine wpList_append_run rfl (.tmp 26) (.tmp 28) _ _ rfl rfl rfl HR.out ?_)
      go_end0
      rw [← HV2.out, HP.out]
      have N2 : ∀ b, v2.ownBlock = some b → b ≠ j := fun b h e => by
        obtain ⟨_, cs, hb⟩ := H2.out.typed b h
        subst e
        exact absurd (hb.ty J2.out).1 (by decide)
      refine ⟨rfl, v2, J2.out.set_ 3 _, ?_, ?_, ?_⟩
      · rw [cstr_snoc, SB.out]
        exact H2.out.kp (Kp.set_ (S := fun i => i = j) rfl _ _) (fun b h e => N2 b h e)
      · refine (K1.out.trans ((Kp.of_below ((Below.refl _ _).alloc (Nat.le_refl _) _)).trans (Kp.grown H3.out (fun k hk _ => .inr (by rw [HV.out]; exact hk))))).trans (Kp.set_ (.inl rfl) _ _)
      · rcases H4.out with h | h
        · exact .inl (h.trans (by rw [HV.out]; rfl))
        · exact .inr ⟨_, h, by simp; exact Nat.le_succ_of_le K1.out.size⟩
  · have HP := Lib.hid (show pushQ m xs s = xs ++ [s] by unfold pushQ; rw [if_neg hf])
    have d0 : ((xs.length : Int) == (m : Int)) = false := beq_eq_false_iff_ne.mpr (by omega)
    have HL := Lib.hid (show (xs.length + 1) * 16 ≤ 140737488355328 ∧ xs.length + 1 ≤ 9223372036854775807 by omega)
    obtain ⟨n, hn⟩ : ∃ n, Hid (xs.length = n) := ⟨_, Lib.hid rfl⟩
    rw [hn.out] at d0 hc1 hv
    have c3' := c3
    rw [hv] at c3
    have HV := Lib.hid hv
    clear hj hB hW hm hx hf hv c3'
    go_enter Tryd.func28, Tryd.ntmps28
    go_wp2_with fail
    go_quiet (fail)
    go_upto_region 2 with fail
    refine gworld (fun W => Hid (Blk W j 63 #[.int .i64 a, vS, .int .i64 (m : Nat), v]) ∧ Hid (Win 9 W B v (cstr xs)) ∧ Hid (Kp (fun i => i = j ∨ v.ownBlock = some i) w W)) ⟨Lib.hid (HJ.out.drewN _), Lib.hid (HW.out.below (below_drewN (Below.refl _ _) _)), Lib.hid (nb _)⟩ ?_
    rintro w1 ⟨J1, W1, K1⟩
    obtain ⟨v2, w2, hap, h2, h3, h4⟩ := win_append (P := Tryd.prog) (ty := 22) elemTx (W1.out.below ((Below.refl _ _).alloc (Nat.le_refl _) (.cells #[Value.string sb] 9))) (cstr_one _) w1.heap.size 1 (Value.string sb) ((Blk.new w1 9 #[Value.string sb]).cell 0) rfl (by rw [cstr_length]; exact HL.out.1) (by rw [cstr_length]; exact HL.out.2) (by simp; have := HB.out; have := K1.out.size; omega)
    obtain ⟨A2, c2', hv2, hc2', _⟩ := h2.form
    have N1 := Lib.hid (show (v).ownBlock ≠ some j from fun h => by
      obtain ⟨_, cs, hb⟩ := W1.out.typed j h
      exact absurd (hb.ty J1.out).1 (by decide))
    have J2 := Lib.hid ((J1.out.alloc (.cells #[Value.string sb] 9)).grown h3 (fun h => N1.out h.symm))
    have c5 : w2.cell? ⟨j, 3, none⟩ = some (v) := J2.out.cell 3
    have c4 : w1.cell? ⟨j, 3, none⟩ = some (v) := J1.out.cell 3
    have f5 : w2.frozen? ⟨j, 3, none⟩ = false := J2.out.frozen 3
    have HV2 := Lib.hid hv2
    rw [hv2] at hap
    have HR := Lib.hid hap
    have H2 := Lib.hid h2
    have H3 := Lib.hid h3
    have H4 := Lib.hid h4
    clear hap h2 h3 h4 hc2' hv2
    rw [HV.out] at HR c4 c5
    obtain ⟨n2, hn2⟩ : ∃ n2, Hid ((cstr xs ++ [Value.string sb]).length = n2) := ⟨_, Lib.hid rfl⟩
    rw [hn2.out] at HR HV2
    go_wp2_with ((with_reducible refine gate_dst (N := 29) rfl ?_); refine wpList_append_run rfl (.tmp 26) (.tmp 28) _ _ rfl rfl rfl HR.out ?_)
    go_end0
    rw [← HV2.out, HP.out]
    have N2 : ∀ b, v2.ownBlock = some b → b ≠ j := fun b h e => by
      obtain ⟨_, cs, hb⟩ := H2.out.typed b h
      subst e
      exact absurd (hb.ty J2.out).1 (by decide)
    refine ⟨rfl, v2, J2.out.set_ 3 _, ?_, ?_, ?_⟩
    · rw [cstr_snoc, SB.out]
      exact H2.out.kp (Kp.set_ (S := fun i => i = j) rfl _ _) (fun b h e => N2 b h e)
    · refine (K1.out.trans ((Kp.of_below ((Below.refl _ _).alloc (Nat.le_refl _) _)).trans (Kp.grown H3.out (fun k hk _ => .inr hk)))).trans (Kp.set_ (.inl rfl) _ _)
    · rcases H4.out with h | h
      · exact .inl (h.trans rfl)
      · exact .inr ⟨_, h, by simp; exact Nat.le_succ_of_le K1.out.size⟩
structure PutM (B j : Nat) (a : Int) (vN : Value) (m : Nat) (v : Value) (xs : List (Nat)) (w w' : World) (e : Ending) : Prop where
  e : e = .returned (.tuple #[])
  r : ∃ v', Blk w' j 63 #[.int .i64 (m : Nat), v', .int .i64 a, vN] ∧ Win 70 w' B v' (ptrN xs) ∧ Kp (fun i => i = j ∨ v.ownBlock = some i) w w' ∧ (v'.ownBlock = v.ownBlock ∨ ∃ b, v'.ownBlock = some b ∧ w.heap.size ≤ b)
set_option maxHeartbeats 1600000 in
theorem putM_any (B j : Nat) (a : Int) (vN : Value) (v : Value) (m : Nat) (xs : List (Nat)) (s : Nat) (w : World) (hj : Blk w j 63 #[.int .i64 (m : Nat), v, .int .i64 a, vN]) (hB : B ≤ w.heap.size) (hW : Win 70 w B v (ptrN xs)) (hm : 1 ≤ m ∧ m ≤ 1024) (hx : xs.length ≤ m) :
    Calls Tryd.prog 25 #[.pointer (some ⟨j, 0, none⟩), .pointer (some ⟨s, 0, none⟩)] w fun e w' => PutM B j a vN m v (pushQ m xs s) w w' e := by
  have nb : ∀ n, Kp (fun i => i = j ∨ v.ownBlock = some i) w (w.drewN n) := fun n => Kp.of_below (below_drewN (Below.refl _ _) n)
  obtain ⟨A, c, hv, hc1, hc2⟩ := hW.form
  rw [ptrN_length] at hv hc1
  have HB := Lib.hid hB
  have HJ := Lib.hid hj
  have HW := Lib.hid hW
  have c2 : w.cell? ⟨j, 0, none⟩ = some (.int .i64 (m : Nat)) := hj.cell 0
  have c3 : w.cell? ⟨j, 1, none⟩ = some v := hj.cell 1
  have f3 : w.frozen? ⟨j, 1, none⟩ = false := hj.frozen 1
  have HNJ : Hid (∀ b, v.ownBlock = some b → b ≠ j) := Lib.hid (fun b h e => by
    obtain ⟨_, cs, hb⟩ := hW.typed b h
    subst e
    exact absurd (hb.ty hj).1 (by decide))
  by_cases hf : xs.length = m
  · obtain ⟨y, r, hr⟩ : ∃ y r, xs = y :: r := by
      cases xs with
      | nil => simp at hf; omega
      | cons y r => exact ⟨y, r, rfl⟩
    have HP := Lib.hid (show pushQ m xs s = r ++ [s] by unfold pushQ; rw [if_pos hf, hr]; rfl)
    obtain ⟨b, off, off', cap, hv2, hcap, ho, HT0⟩ := hW.tail (show ptrN xs = .pointer (some ⟨y, 0, none⟩) :: ptrN r by rw [hr]; rfl)
    have HT := Lib.hid HT0
    rw [ptrN_length] at hv2 HT
    have hrl : r.length + 1 = xs.length := by rw [hr]; rfl
    have d0 : ((xs.length : Int) == (m : Int)) = true := by rw [hf]; exact beq_self_eq_true _
    obtain ⟨n, hn⟩ : ∃ n, Hid (xs.length = n) := ⟨_, Lib.hid rfl⟩
    rw [hn.out] at d0 hv2 hrl
    have hcc := hv.symm.trans hv2
    rw [hn.out] at hcc
    injection hcc with _ _ hcc
    subst hcc
    rw [hn.out] at hc1
    rw [hv2] at c3
    have HV := Lib.hid hv2
    have HL := Lib.hid (show (r.length + 1) * 8 ≤ 140737488355328 ∧ r.length + 1 ≤ 9223372036854775807 by have := hn.out; omega)
    have e1 : (1 : Int) ≤ (n : Int) ∧ (n : Int) ≤ (c : Int) := by omega
    have HRL := Lib.hid hrl
    by_cases hc : c = 1
    · subst hc
      rw [if_pos rfl] at ho
      rw [ho] at HT
      clear ho
      have hn1 : n = 1 := by omega
      subst hn1
      have hr0 : r.length = 0 := by omega
      rw [hr0] at HT
      clear hj hB hW hm hx hf hr hv hv2 hrl HT0 hc1 hr0
      go_enter Tryd.func25, Tryd.ntmps25
      go_wp2_with fail
      go_quiet (fail)
      go_upto_region 2 with fail
      refine gworld (fun W => Hid (Blk W j 63 #[.int .i64 (m : Nat), (Value.slice (some ⟨b, off, none⟩) 0 0), .int .i64 a, vN]) ∧ Hid (Win 70 W B (Value.slice (some ⟨b, off, none⟩) 0 0) (ptrN r)) ∧ Hid (Kp (fun i => i = j ∨ v.ownBlock = some i) w W)) ⟨Lib.hid ((HJ.out.drewN _).set_ 1 _), Lib.hid ((HT.out.below (below_drewN (Below.refl _ _) _)).kp (Kp.set_ (S := fun i => i = j) rfl _ _) (fun b h e => HNJ.out b (by rw [HV.out]; exact h) e)), Lib.hid ((nb _).trans (Kp.set_ (.inl rfl) _ _))⟩ ?_
      rintro w1 ⟨J1, W1, K1⟩
      obtain ⟨v2, w2, hap, h2, h3, h4⟩ := win_append (P := Tryd.prog) (ty := 57) elemMs (W1.out.below ((Below.refl _ _).alloc (Nat.le_refl _) (.cells #[Value.pointer (some ⟨s, 0, none⟩)] 70))) (ptrN_one _) w1.heap.size 1 (Value.pointer (some ⟨s, 0, none⟩)) ((Blk.new w1 70 #[Value.pointer (some ⟨s, 0, none⟩)]).cell 0) rfl (by rw [ptrN_length]; exact HL.out.1) (by rw [ptrN_length]; exact HL.out.2) (by simp; have := HB.out; have := K1.out.size; omega)
      obtain ⟨A2, c2', hv2, hc2', _⟩ := h2.form
      have N1 := Lib.hid (show ((Value.slice (some ⟨b, off, none⟩) 0 0)).ownBlock ≠ some j from fun h => by
        obtain ⟨_, cs, hb⟩ := W1.out.typed j h
        exact absurd (hb.ty J1.out).1 (by decide))
      have J2 := Lib.hid ((J1.out.alloc (.cells #[Value.pointer (some ⟨s, 0, none⟩)] 70)).grown h3 (fun h => N1.out h.symm))
      have c5 : w2.cell? ⟨j, 1, none⟩ = some ((Value.slice (some ⟨b, off, none⟩) 0 0)) := J2.out.cell 1
      have c4 : w1.cell? ⟨j, 1, none⟩ = some ((Value.slice (some ⟨b, off, none⟩) 0 0)) := J1.out.cell 1
      have f5 : w2.frozen? ⟨j, 1, none⟩ = false := J2.out.frozen 1
      have HV2 := Lib.hid hv2
      rw [hv2] at hap
      have HR := Lib.hid hap
      have H2 := Lib.hid h2
      have H3 := Lib.hid h3
      have H4 := Lib.hid h4
      clear hap h2 h3 h4 hc2' hv2
      obtain ⟨n2, hn2⟩ : ∃ n2, Hid ((ptrN r ++ [Value.pointer (some ⟨s, 0, none⟩)]).length = n2) := ⟨_, Lib.hid rfl⟩
      rw [hn2.out] at HR HV2
      go_wp2_with ((with_reducible refine gate_dst (N := 29) rfl ?_); refine wpList_append_run rfl (.tmp 26) (.tmp 28) _ _ rfl rfl rfl HR.out ?_)
      go_end0
      rw [← HV2.out, HP.out]
      have N2 : ∀ b, v2.ownBlock = some b → b ≠ j := fun b h e => by
        obtain ⟨_, cs, hb⟩ := H2.out.typed b h
        subst e
        exact absurd (hb.ty J2.out).1 (by decide)
      refine ⟨rfl, v2, J2.out.set_ 1 _, ?_, ?_, ?_⟩
      · rw [ptrN_snoc]
        exact H2.out.kp (Kp.set_ (S := fun i => i = j) rfl _ _) (fun b h e => N2 b h e)
      · refine (K1.out.trans ((Kp.of_below ((Below.refl _ _).alloc (Nat.le_refl _) _)).trans (Kp.grown H3.out (fun k hk _ => .inr (by rw [HV.out]; exact hk))))).trans (Kp.set_ (.inl rfl) _ _)
      · rcases H4.out with h | h
        · exact .inl (h.trans (by rw [HV.out]; rfl))
        · exact .inr ⟨_, h, by simp; exact Nat.le_succ_of_le K1.out.size⟩
    · have hn1 : n - 1 = r.length := by omega
      rw [if_neg hc] at ho
      rw [ho] at HT
      clear ho
      rw [← hn1] at HT
      clear hj hB hW hm hx hf hr hv hv2 hrl HT0 hc1 hn1
      go_enter Tryd.func25, Tryd.ntmps25
      go_wp2_with fail
      go_quiet (fail)
      go_upto_region 2 with fail
      refine gworld (fun W => Hid (Blk W j 63 #[.int .i64 (m : Nat), (Value.slice (some ⟨b, off + 1, none⟩) (n - 1) (c - 1)), .int .i64 a, vN]) ∧ Hid (Win 70 W B (Value.slice (some ⟨b, off + 1, none⟩) (n - 1) (c - 1)) (ptrN r)) ∧ Hid (Kp (fun i => i = j ∨ v.ownBlock = some i) w W)) ⟨Lib.hid ((HJ.out.drewN _).set_ 1 _), Lib.hid ((HT.out.below (below_drewN (Below.refl _ _) _)).kp (Kp.set_ (S := fun i => i = j) rfl _ _) (fun b h e => HNJ.out b (by rw [HV.out]; exact h) e)), Lib.hid ((nb _).trans (Kp.set_ (.inl rfl) _ _))⟩ ?_
      rintro w1 ⟨J1, W1, K1⟩
      obtain ⟨v2, w2, hap, h2, h3, h4⟩ := win_append (P := Tryd.prog) (ty := 57) elemMs (W1.out.below ((Below.refl _ _).alloc (Nat.le_refl _) (.cells #[Value.pointer (some ⟨s, 0, none⟩)] 70))) (ptrN_one _) w1.heap.size 1 (Value.pointer (some ⟨s, 0, none⟩)) ((Blk.new w1 70 #[Value.pointer (some ⟨s, 0, none⟩)]).cell 0) rfl (by rw [ptrN_length]; exact HL.out.1) (by rw [ptrN_length]; exact HL.out.2) (by simp; have := HB.out; have := K1.out.size; omega)
      obtain ⟨A2, c2', hv2, hc2', _⟩ := h2.form
      have N1 := Lib.hid (show ((Value.slice (some ⟨b, off + 1, none⟩) (n - 1) (c - 1))).ownBlock ≠ some j from fun h => by
        obtain ⟨_, cs, hb⟩ := W1.out.typed j h
        exact absurd (hb.ty J1.out).1 (by decide))
      have J2 := Lib.hid ((J1.out.alloc (.cells #[Value.pointer (some ⟨s, 0, none⟩)] 70)).grown h3 (fun h => N1.out h.symm))
      have c5 : w2.cell? ⟨j, 1, none⟩ = some ((Value.slice (some ⟨b, off + 1, none⟩) (n - 1) (c - 1))) := J2.out.cell 1
      have c4 : w1.cell? ⟨j, 1, none⟩ = some ((Value.slice (some ⟨b, off + 1, none⟩) (n - 1) (c - 1))) := J1.out.cell 1
      have f5 : w2.frozen? ⟨j, 1, none⟩ = false := J2.out.frozen 1
      have HV2 := Lib.hid hv2
      rw [hv2] at hap
      have HR := Lib.hid hap
      have H2 := Lib.hid h2
      have H3 := Lib.hid h3
      have H4 := Lib.hid h4
      clear hap h2 h3 h4 hc2' hv2
      obtain ⟨n2, hn2⟩ : ∃ n2, Hid ((ptrN r ++ [Value.pointer (some ⟨s, 0, none⟩)]).length = n2) := ⟨_, Lib.hid rfl⟩
      rw [hn2.out] at HR HV2
      go_wp2_with ((with_reducible refine gate_dst (N := 29) rfl ?_); refine wpList_append_run rfl (.tmp 26) (.tmp 28) _ _ rfl rfl rfl HR.out ?_)
      go_end0
      rw [← HV2.out, HP.out]
      have N2 : ∀ b, v2.ownBlock = some b → b ≠ j := fun b h e => by
        obtain ⟨_, cs, hb⟩ := H2.out.typed b h
        subst e
        exact absurd (hb.ty J2.out).1 (by decide)
      refine ⟨rfl, v2, J2.out.set_ 1 _, ?_, ?_, ?_⟩
      · rw [ptrN_snoc]
        exact H2.out.kp (Kp.set_ (S := fun i => i = j) rfl _ _) (fun b h e => N2 b h e)
      · refine (K1.out.trans ((Kp.of_below ((Below.refl _ _).alloc (Nat.le_refl _) _)).trans (Kp.grown H3.out (fun k hk _ => .inr (by rw [HV.out]; exact hk))))).trans (Kp.set_ (.inl rfl) _ _)
      · rcases H4.out with h | h
        · exact .inl (h.trans (by rw [HV.out]; rfl))
        · exact .inr ⟨_, h, by simp; exact Nat.le_succ_of_le K1.out.size⟩
  · have HP := Lib.hid (show pushQ m xs s = xs ++ [s] by unfold pushQ; rw [if_neg hf])
    have d0 : ((xs.length : Int) == (m : Int)) = false := beq_eq_false_iff_ne.mpr (by omega)
    have HL := Lib.hid (show (xs.length + 1) * 8 ≤ 140737488355328 ∧ xs.length + 1 ≤ 9223372036854775807 by omega)
    obtain ⟨n, hn⟩ : ∃ n, Hid (xs.length = n) := ⟨_, Lib.hid rfl⟩
    rw [hn.out] at d0 hc1 hv
    have c3' := c3
    rw [hv] at c3
    have HV := Lib.hid hv
    clear hj hB hW hm hx hf hv c3'
    go_enter Tryd.func25, Tryd.ntmps25
    go_wp2_with fail
    go_quiet (fail)
    go_upto_region 2 with fail
    refine gworld (fun W => Hid (Blk W j 63 #[.int .i64 (m : Nat), v, .int .i64 a, vN]) ∧ Hid (Win 70 W B v (ptrN xs)) ∧ Hid (Kp (fun i => i = j ∨ v.ownBlock = some i) w W)) ⟨Lib.hid (HJ.out.drewN _), Lib.hid (HW.out.below (below_drewN (Below.refl _ _) _)), Lib.hid (nb _)⟩ ?_
    rintro w1 ⟨J1, W1, K1⟩
    obtain ⟨v2, w2, hap, h2, h3, h4⟩ := win_append (P := Tryd.prog) (ty := 57) elemMs (W1.out.below ((Below.refl _ _).alloc (Nat.le_refl _) (.cells #[Value.pointer (some ⟨s, 0, none⟩)] 70))) (ptrN_one _) w1.heap.size 1 (Value.pointer (some ⟨s, 0, none⟩)) ((Blk.new w1 70 #[Value.pointer (some ⟨s, 0, none⟩)]).cell 0) rfl (by rw [ptrN_length]; exact HL.out.1) (by rw [ptrN_length]; exact HL.out.2) (by simp; have := HB.out; have := K1.out.size; omega)
    obtain ⟨A2, c2', hv2, hc2', _⟩ := h2.form
    have N1 := Lib.hid (show (v).ownBlock ≠ some j from fun h => by
      obtain ⟨_, cs, hb⟩ := W1.out.typed j h
      exact absurd (hb.ty J1.out).1 (by decide))
    have J2 := Lib.hid ((J1.out.alloc (.cells #[Value.pointer (some ⟨s, 0, none⟩)] 70)).grown h3 (fun h => N1.out h.symm))
    have c5 : w2.cell? ⟨j, 1, none⟩ = some (v) := J2.out.cell 1
    have c4 : w1.cell? ⟨j, 1, none⟩ = some (v) := J1.out.cell 1
    have f5 : w2.frozen? ⟨j, 1, none⟩ = false := J2.out.frozen 1
    have HV2 := Lib.hid hv2
    rw [hv2] at hap
    have HR := Lib.hid hap
    have H2 := Lib.hid h2
    have H3 := Lib.hid h3
    have H4 := Lib.hid h4
    clear hap h2 h3 h4 hc2' hv2
    rw [HV.out] at HR c4 c5
    obtain ⟨n2, hn2⟩ : ∃ n2, Hid ((ptrN xs ++ [Value.pointer (some ⟨s, 0, none⟩)]).length = n2) := ⟨_, Lib.hid rfl⟩
    rw [hn2.out] at HR HV2
    go_wp2_with ((with_reducible refine gate_dst (N := 29) rfl ?_); refine wpList_append_run rfl (.tmp 26) (.tmp 28) _ _ rfl rfl rfl HR.out ?_)
    go_end0
    rw [← HV2.out, HP.out]
    have N2 : ∀ b, v2.ownBlock = some b → b ≠ j := fun b h e => by
      obtain ⟨_, cs, hb⟩ := H2.out.typed b h
      subst e
      exact absurd (hb.ty J2.out).1 (by decide)
    refine ⟨rfl, v2, J2.out.set_ 1 _, ?_, ?_, ?_⟩
    · rw [ptrN_snoc]
      exact H2.out.kp (Kp.set_ (S := fun i => i = j) rfl _ _) (fun b h e => N2 b h e)
    · refine (K1.out.trans ((Kp.of_below ((Below.refl _ _).alloc (Nat.le_refl _) _)).trans (Kp.grown H3.out (fun k hk _ => .inr hk)))).trans (Kp.set_ (.inl rfl) _ _)
    · rcases H4.out with h | h
      · exact .inl (h.trans rfl)
      · exact .inr ⟨_, h, by simp; exact Nat.le_succ_of_le K1.out.size⟩
end Go.Proofs.YtlogcgeinbefjaaDoor
namespace Go.Proofs.YtlogcgeinbefjaaDoor
open Go.RowKit Go.Proofs.YtlogcgeinbefjaaDoorW.PrintWords Go.Proofs.YtlogcgeinbefjaaDoorW.PrintLast
set_option linter.unusedSimpArgs false
set_option linter.unusedVariables false
set_option maxRecDepth 20000
theorem Blk.setCells {g : Nat} {t : TypeId} : ∀ (ys : List Value) (o : Nat) (w : World) (cs : Array Value), Blk w g t cs → o + ys.length ≤ cs.size → ∃ cs', Blk (w.setCells g o ys) g t cs' ∧ cs'.size = cs.size ∧ (∀ i, i < o → cs'[i]? = cs[i]?) ∧ ∀ i, i < ys.length → cs'[o + i]? = ys[i]?
  | [], o, w, cs, h, hl => ⟨cs, h, rfl, fun _ _ => rfl, fun i hi => by simp at hi⟩
  | y :: r, o, w, cs, h, hl => by
    simp only [List.length_cons] at hl
    obtain ⟨cs', h1, h2, h3, h4⟩ := Blk.setCells r (o + 1) _ _ (h.set_ o y) (by simp; omega)
    refine ⟨cs', h1, by rw [h2]; simp, fun i hi => ?_, fun i hi => ?_⟩
    · rw [h3 i (by omega), Array.getElem?_setIfInBounds, if_neg (by omega)]
    · cases i with
      | zero => rw [Nat.add_zero, h3 o (by omega), Array.getElem?_setIfInBounds, if_pos rfl, if_pos (by omega)]; rfl
      | succ i =>
        have := h4 i (by simpa using hi)
        rw [show o + (i + 1) = o + 1 + i by omega, this]
        rfl
theorem Kp.setCells {S : Nat → Prop} {g : Nat} (hS : S g) : ∀ (ys : List Value) (o : Nat) (w : World), Kp S w (w.setCells g o ys)
  | [], o, w => Kp.refl S w
  | y :: r, o, w => (Kp.set_ hS o y).trans (Kp.setCells hS r (o + 1) _)
section
variable {P : Program} {e t ty : TypeId} {w w' : World} {B B' : Nat} {v u : Value} {xs ys : List Value} {z : Value} {by_ : Nat} {S : Nat → Prop}
theorem win_src (he : Elem P t e z by_) (hu : Win e w B u ys) (y1 : ∀ y ∈ ys, y.oneCell' = true) : Src P 1 t u ys.length ys w := by
  rcases hu with ⟨rfl, rfl⟩ | ⟨b, off, cap, cur, rfl, h1, h2, h3, h4, h5, h6⟩
  · exact Src.ofNil w he.1 0
  · refine Src.ofSlice w he.1 ⟨b, off, none⟩ ys.length cap ys (by simp) (fun j x hj => ?_) y1
    have hjl := (List.getElem?_eq_some_iff.1 hj).1
    have := (h2.cell (off + j)).trans (h6 j hjl)
    rw [hj] at this
    unfold Addr.add
    split
    · rename_i h0; subst h0; simpa using this
    · exact this
/-- a window's elements are appended, where there is room. -/
theorem win_append_room (he : Elem P t e z by_) (h : Win e w B v xs) {A : Option Addr} {c : Nat} (hv : v = .slice A xs.length c) (hroom : xs.length + ys.length ≤ c) (hu : Win e w B' u ys) (y1 : ∀ y ∈ ys, y.oneCell' = true) :
    ∃ w', (Builtin.append_ #[t, t] ty #[v, u]).run P w = .ok (.slice A (xs ++ ys).length c) w' ∧ Win e w' B (.slice A (xs ++ ys).length c) (xs ++ ys) ∧ Kp (fun i => v.ownBlock = some i) w w' := by
  obtain ⟨i, hi, hz, hs, hby⟩ := info_parts he.2.1
  have hS := win_src he hu y1
  rcases h with ⟨h0, rfl⟩ | ⟨b, off, cap, cur, h0, g1, g2, g3, g4, g5, g6⟩
  · rw [hv] at h0
    injection h0 with h1 h2 h3
    subst h1; subst h3
    have : ys = [] := List.eq_nil_of_length_eq_zero (by omega)
    subst this
    subst hv
    exact ⟨w, run_append_nothing w t t ty e i he.1 hi none 0 0 (Nat.le_refl _) u (by rw [hs]; exact hS), Win.nil e w B, Kp.refl _ _⟩
  · rw [hv] at h0
    injection h0 with h1 h2 h3
    subst h1; subst h3; subst hv
    have hcell : ∀ j, j < ys.length → (w.cell? ⟨b, off + xs.length * i.size + j, none⟩).isSome = true := fun j hj => by
      rw [hs, Nat.mul_one, g2.cell, Array.getElem?_eq_getElem (by omega)]; rfl
    have hrun := run_append_room_src (P := P) w t t ty e i he.1 hi b off xs.length c u ys.length ys (by rw [hs]; exact hS) hroom hcell (fun j hj => g2.frozen _)
    rw [hs, Nat.mul_one] at hrun
    obtain ⟨cs', k1, k2, k3, k4⟩ := Blk.setCells ys (off + xs.length) w cur g2 (by omega)
    refine ⟨_, by rw [List.length_append]; exact hrun, .inr ⟨b, off, c, cs', rfl, g1, k1, by omega, by rw [List.length_append]; omega, g5, fun j hj => ?_⟩, Kp.setCells (S := fun i => (Value.slice (some ⟨b, off, none⟩) xs.length c).ownBlock = some i) rfl ys _ w⟩
    rw [List.length_append] at hj
    by_cases hjl : j < xs.length
    · rw [k3 _ (by omega), g6 j hjl, List.getElem?_append_left hjl]
    · rw [List.getElem?_append_right (by omega), show off + j = off + xs.length + (j - xs.length) by omega, k4 _ (by omega)]
end
set_option maxHeartbeats 800000 in
theorem growM_any (n : Nat) (w : World) (hn : n ≤ 2048) :
    Calls Tryd.prog 43 #[.slice none 0 0, .int .i64 (n : Nat)] w fun e w' => ∃ A c, e = .returned (.slice A 0 c) ∧ n ≤ c ∧ Win 70 w' w.heap.size (.slice A 0 c) [] ∧ Below w.heap.size w w' := by
  rcases Nat.eq_zero_or_pos n with h0 | h0
  · subst h0
    go_enter Tryd.func43, Tryd.ntmps43
    go_wp2_with fail
    go_ret
    exact ⟨none, 0, rfl, Nat.le_refl _, Win.nil _ _ _, Below.refl _ _⟩
  · obtain ⟨i, hi, hz, hs, hby⟩ := info_parts elemMs.2.1
    obtain ⟨v', w2, hrun, hown, hgr, _⟩ := run_append_zeros (P := Tryd.prog) w w.heap.size 57 3 57 70 i (.pointer none) 1 8 elemMs.1 Tryd.underlying3 hi hz hs hby rfl (by decide) (by decide) (.slice none 0 0) 0 [] (World.ownsRow_nil w w.heap.size 70 1) .i64 n (by
      intro y hy
      obtain ⟨j, hj, rfl⟩ := List.mem_iff_getElem.1 hy
      simp [Builtin.zeroCells, Value.cells, Nat.mod_one]; rfl) (by omega) (Nat.le_refl _)
    rcases hown.2 with ⟨_, hz0⟩ | ⟨g, cap, cur, rfl, hg1, hg2, hg3, hg4, hg5, _⟩
    · omega
    have HR := Lib.hid hrun
    have HW := Lib.hid (show Win 70 w2 w.heap.size (.slice (some ⟨g, 0, none⟩) 0 cap) [] from .inr ⟨g, 0, cap, cur, rfl, hg1, hg2, by omega, by simp, by simpa [maxLen] using hg4, fun j hj => by simp at hj⟩)
    have HB := Lib.hid (show Below w.heap.size w w2 from ⟨hgr.os, hgr.tape, hgr.output, hgr.size, fun i hi => hgr.block i hi (by intro h; cases h)⟩)
    rw [Nat.zero_add] at HR hg3
    have HC := Lib.hid hg3
    clear hrun hown hgr hg1 hg2 hg3 hg4 hg5 hi hz hs hby
    have e1 : (0 : Int) < (n : Int) := by omega
    go_enter Tryd.func43, Tryd.ntmps43
    go_wp2_with ((with_reducible refine gate_dst (N := 22) rfl ?_); refine wpList_append_run rfl (.tmp 20) (.tmp 21) _ _ rfl rfl rfl HR.out ?_)
    go_ret
    exact ⟨_, _, rfl, HC.out, HW.out, HB.out⟩
theorem Kp.ownBelow {B : Nat} {v : Value} {w w' : World} {e : TypeId} {xs : List Value} (h : Kp (fun i => v.ownBlock = some i) w w') (hW : Win e w B v xs) (hB : B ≤ w.heap.size) : Below B w w' := h.below (fun i hi => (hW.typed i hi).1) hB
set_option maxHeartbeats 1600000 in
theorem concat_any (B q : Nat) (xs ys : List Value) (A A' : Option Addr) (c c' : Nat) (w : World) (hq : Blk w q 57 #[.slice A xs.length c, .slice A' ys.length c']) (hW : Win 70 w B (.slice A xs.length c) xs) (hU : Win 70 w B (.slice A' ys.length c') ys) (x1 : ∀ u ∈ xs, u.oneCell' = true) (y1 : ∀ u ∈ ys, u.oneCell' = true) (hx : xs.length ≤ 1024) (hy : ys.length ≤ 1024) :
    Calls Tryd.prog 36 #[.slice (some ⟨q, 0, none⟩) 2 2] w fun e w' => ∃ r, e = .returned r ∧ Win 70 w' w.heap.size r (xs ++ ys) ∧ Below w.heap.size w w' := by
  have HQ := Lib.hid hq
  have HW := Lib.hid hW
  have HU := Lib.hid hU
  obtain ⟨n, hn⟩ : ∃ n, Hid (xs.length = n) := ⟨_, Lib.hid rfl⟩
  obtain ⟨m, hm⟩ : ∃ n, Hid (ys.length = n) := ⟨_, Lib.hid rfl⟩
  have HG := fun N (h : n + m = N) => growM_any N w (by have := hn.out; have := hm.out; omega)
  rw [hn.out] at hx HQ HW
  rw [hm.out] at hy HQ HU
  have q0 : w.cell? ⟨q, 0, none⟩ = some (.slice A n c) := HQ.out.cell 0
  have q1 : w.cell? ⟨q, 1, none⟩ = some (.slice A' m c') := HQ.out.cell 1
  have s1 : 0 + (n : Int) = (n : Nat) := Int.zero_add _
  obtain ⟨L, hL⟩ : ∃ L, Hid ((xs ++ ys).length = L) := ⟨_, Lib.hid rfl⟩
  obtain ⟨N, hN⟩ : ∃ N, Hid (n + m = N) := ⟨_, Lib.hid rfl⟩
  have s2 : (n : Int) + (m : Int) = (N : Int) := by have := hN.out; omega
  have s3 : 0 ≤ (n : Int) := by omega
  have s4 : 0 ≤ (N : Int) := by omega
  have HG := Lib.hid (HG N hN.out)
  clear hq hW hU
  go_enter Tryd.func36, Tryd.ntmps36
  go_wp2_with fail
  go_loopg [3, 11] 3 (fun kq v3 v11 wr => wr = w ∧ ((kq = 3 ∧ v3 = .int .i64 0 ∧ v11 = .int .i64 0) ∨ (kq = 2 ∧ v3 = .int .i64 (n : Nat) ∧ v11 = .int .i64 1) ∨ (kq = 1 ∧ v3 = .int .i64 (N : Nat) ∧ v11 = .int .i64 2)))
  case atStart => exact ⟨rfl, .inl ⟨rfl, rfl, rfl⟩⟩
  case round =>
    have hw0 : w = wr := hrel.1.symm
    subst hw0
    obtain ⟨_, ⟨rfl, rfl, rfl⟩ | ⟨rfl, rfl, rfl⟩ | ⟨rfl, rfl, rfl⟩⟩ := hrel
    · go_wp2_with fail
      go_roundg 2
      case measure => omega
      case rel => exact ⟨rfl, .inr (.inl ⟨rfl, rfl, rfl⟩)⟩
    · go_wp2_with fail
      go_roundg 1
      case measure => omega
      case rel => exact ⟨rfl, .inr (.inr ⟨rfl, rfl, rfl⟩)⟩
    · go_wp2_with fail
      refine HG.out.mono ?_
      rintro e w2 ⟨G, gc, rfl, hgc, hw2, hb2⟩
      have W2 := Lib.hid hw2
      have B2 := Lib.hid hb2
      have U1 := Lib.hid (HW.out.below hb2)
      have U2 := Lib.hid (HU.out.below hb2)
      have Q2 := Lib.hid (HQ.out.below hb2 HQ.out.lt)
      clear hw2 hb2 q0 q1
      go_wp2_with fail
      go_loopg [6, 27] 3 (fun kq v6 v27 wz => Hid (Below w.heap.size w wz) ∧ ((kq = 3 ∧ v6 = .slice G 0 gc ∧ v27 = .int .i64 0 ∧ Hid (Win 70 wz w.heap.size (.slice G 0 gc) [])) ∨ (kq = 2 ∧ v6 = .slice G n gc ∧ v27 = .int .i64 1 ∧ Hid (Win 70 wz w.heap.size (.slice G n gc) xs)) ∨ (kq = 1 ∧ v6 = .slice G L gc ∧ v27 = .int .i64 2 ∧ Hid (Win 70 wz w.heap.size (.slice G L gc) (xs ++ ys)))))
      case atStart => exact ⟨B2, .inl ⟨rfl, rfl, rfl, W2⟩⟩
      case round =>
        obtain ⟨BZ, ⟨rfl, rfl, rfl, WZ⟩ | ⟨rfl, rfl, rfl, WZ⟩ | ⟨rfl, rfl, rfl, WZ⟩⟩ := hrel
        · obtain ⟨w3, hr3, hw3, hk3⟩ := win_append_room (P := Tryd.prog) (ty := 57) elemMs WZ.out (A := G) (c := gc) rfl (by simp; have := hn.out; have := hN.out; omega) (HW.out.below BZ.out) x1
          have B3 := Lib.hid (BZ.out.trans (hk3.ownBelow WZ.out BZ.out.size))
          rw [List.nil_append, hn.out] at hr3 hw3
          have R3 := Lib.hid hr3
          have W3 := Lib.hid hw3
          have q0 : wr.cell? ⟨q, 0, none⟩ = some (.slice A n c) := (HQ.out.below BZ.out HQ.out.lt).cell 0
          clear hr3 hw3 hk3
          go_wp2_with ((with_reducible refine gate_dst (N := 33) rfl ?_); refine wpList_append_run rfl (.tmp 31) (.tmp 32) _ _ rfl rfl rfl R3.out ?_)
          go_roundg 2
          case measure => omega
          case rel => exact ⟨B3, .inr (.inl ⟨rfl, rfl, rfl, W3⟩)⟩
        · have WZ' := WZ.out
          rw [← hn.out] at WZ'
          obtain ⟨w3, hr3, hw3, hk3⟩ := win_append_room (P := Tryd.prog) (ty := 57) elemMs WZ' (A := G) (c := gc) rfl (by have := hn.out; have := hm.out; have := hN.out; omega) (u := .slice A' m c') (HU.out.below BZ.out) y1
          have B3 := Lib.hid (BZ.out.trans (hk3.ownBelow WZ' BZ.out.size))
          rw [hn.out, hL.out] at hr3
          rw [hL.out] at hw3
          have R3 := Lib.hid hr3
          have W3 := Lib.hid hw3
          have q1 : wr.cell? ⟨q, 1, none⟩ = some (.slice A' m c') := (HQ.out.below BZ.out HQ.out.lt).cell 1
          clear hr3 hw3 hk3 WZ'
          go_wp2_with ((with_reducible refine gate_dst (N := 33) rfl ?_); refine wpList_append_run rfl (.tmp 31) (.tmp 32) _ _ rfl rfl rfl R3.out ?_)
          go_roundg 1
          case measure => omega
          case rel => exact ⟨B3, .inr (.inr ⟨rfl, rfl, rfl, W3⟩)⟩
        · go_wp2_with fail
          go_ret
          exact ⟨_, rfl, WZ.out, BZ.out⟩
end Go.Proofs.YtlogcgeinbefjaaDoor
namespace Go.Proofs.YtlogcgeinbefjaaDoor
open Go.RowKit Go.Proofs.YtlogcgeinbefjaaDoorW.PrintWords Go.Proofs.YtlogcgeinbefjaaDoorW.PrintLast
set_option linter.unusedSimpArgs false
set_option linter.unusedVariables false
set_option maxRecDepth 20000
def cut0.T : Bool × List (List Nat × List Nat) := (true, [([], []), ([], []), ([1], [1]), ([2], [2]), ([3], [3]), ([], []), ([4, 5], [4, 5]), ([], []), ([7], [7]), ([8], [8]), ([9], [9]), ([], []), ([11], [11]), ([10, 12], [10, 12]), ([6, 13], [6, 13]), ([14], [14]), ([0, 0, 1, 2, 3, 4, 5, 6, 7, 8, 9, 10, 11, 12, 13, 14, 15], [0]), ([16, 0, 1, 2, 3, 4, 5, 6, 7, 8, 9, 10, 11, 12, 13, 14, 15], [16]), ([17, 15, 15, 0, 1, 2, 3, 4, 5, 6, 7, 8, 9, 10, 11, 12, 13, 14, 15], [15, 17])])
def cut0.B : List Nat := [0, 0, 2, 6, 14, 0, 62, 0, 128, 384, 896, 0, 2048, 8064, 16382, 32766, 65535, 131071, 262143]
theorem cut0.tab : rtab .any (opsOf Tryd.f26 0) = cut0.T := by kernel_rfl
theorem cut0.bits : waitsOk cut0.T.2 cut0.B = true := by kernel_rfl
section
variable {e : TypeId} {w : World} {B : Nat} {A : Option Addr} {c : Nat} {xs : List Value}
theorem Win.take (h : Win e w B (.slice A xs.length c) xs) (k : Nat) (hk : k ≤ xs.length) : Win e w B (.slice A k c) (xs.take k) := by
  have hl : (xs.take k).length = k := by rw [List.length_take]; omega
  rcases h with ⟨h0, rfl⟩ | ⟨b, off, cap, cur, h0, g1, g2, g3, g4, g5, g6⟩
  · injection h0 with h1 h2 h3
    subst h1; subst h3
    have : k = 0 := by simpa using hk
    subst this
    exact Win.nil e w B
  · injection h0 with h1 h2 h3
    subst h1; subst h3
    refine .inr ⟨b, off, c, cur, by rw [hl], g1, g2, g3, by rw [hl]; omega, g5, fun i hi => ?_⟩
    rw [hl] at hi
    rw [g6 i (by omega), List.getElem?_take_of_lt hi]
theorem Win.drop (h : Win e w B (.slice A xs.length c) xs) (k : Nat) (hk : k ≤ xs.length) (h0 : xs ≠ []) : ∃ b off, A = some ⟨b, off, none⟩ ∧ Win e w B (.slice (some ⟨b, if c = k then off else off + k, none⟩) (xs.length - k) (c - k)) (xs.drop k) := by
  rcases h with ⟨_, hx⟩ | ⟨b, off, cap, cur, hx, g1, g2, g3, g4, g5, g6⟩
  · exact absurd hx h0
  · injection hx with h1 h2 h3
    subst h1; subst h3
    refine ⟨b, off, rfl, .inr ⟨b, _, c - k, cur, by rw [List.length_drop], g1, g2, ?_, by rw [List.length_drop]; omega, by omega, fun i hi => ?_⟩⟩
    · split <;> omega
    · rw [List.length_drop] at hi
      rw [if_neg (by omega), List.getElem?_drop, ← g6 (k + i) (by omega), Nat.add_assoc]
end
theorem Win.mono {e : TypeId} {w : World} {B B' : Nat} {v : Value} {xs : List Value} (h : Win e w B v xs) (hb : B' ≤ B) : Win e w B' v xs := by
  rcases h with h | ⟨b, off, cap, cur, h0, g1, g⟩
  · exact .inl h
  · exact .inr ⟨b, off, cap, cur, h0, Nat.le_trans hb g1, g⟩
structure CutM (B j : Nat) (a : Int) (vN : Value) (m : Nat) (v : Value) (xs : List Nat) (w w' : World) (e : Ending) : Prop where
  e : e = .returned (.tuple #[])
  r : ∃ v', Blk w' j 63 #[.int .i64 (m : Nat), v', .int .i64 a, vN] ∧ Win 70 w' B v' (ptrN xs) ∧ Kp (fun i => i = j) w w' ∧ ∀ b, v'.ownBlock = some b → w.heap.size ≤ b
set_option maxHeartbeats 1600000 in
theorem cutM_any (B j : Nat) (a : Int) (vN v : Value) (m : Nat) (xs : List Nat) (k : Nat) (w : World) (hj : Blk w j 63 #[.int .i64 (m : Nat), v, .int .i64 a, vN]) (hB : B ≤ w.heap.size) (hW : Win 70 w B v (ptrN xs)) (hk : k < xs.length) (hx : xs.length ≤ 1024) :
    Calls Tryd.prog 26 #[.pointer (some ⟨j, 0, none⟩), .int .i64 (k : Nat)] w fun e w' => CutM B j a vN m v (xs.eraseIdx k) w w' e := by
  obtain ⟨A, c, hv, hc1, hc2⟩ := hW.form
  subst hv
  have HT := Lib.hid (hW.take k (by rw [ptrN_length]; omega))
  obtain ⟨b, off, hA, hD⟩ := hW.drop (k + 1) (by rw [ptrN_length]; omega) (by intro h; have := congrArg List.length h; rw [ptrN_length, List.length_nil] at this; omega)
  subst hA
  have HJ := Lib.hid hj
  have HB := Lib.hid hB
  have c1 : w.drew.cell? ⟨j, 1, none⟩ = some (.slice (some ⟨b, off, none⟩) (ptrN xs).length c) := hj.cell 1
  rw [ptrN_length] at hD hc1 c1
  have HD := Lib.hid hD
  obtain ⟨n, hn⟩ : ∃ n, Hid (xs.length = n) := ⟨_, Lib.hid rfl⟩
  obtain ⟨k1, hk1⟩ : ∃ n, Hid (k + 1 = n) := ⟨_, Lib.hid rfl⟩
  rw [hn.out] at HD hc1 c1 hx hk
  rw [hk1.out] at HD
  have e1 : 0 ≤ (k : Int) ∧ (k : Int) ≤ (n : Int) ∧ (k : Int) ≤ (c : Int) := by omega
  have e2 : (k : Int) + 1 = (k1 : Int) := by have := hk1.out; omega
  have e3 : 0 ≤ (k1 : Int) ∧ (k1 : Int) ≤ (n : Int) ∧ (n : Int) ≤ (c : Int) := by have := hk1.out; omega
  have hw1 : IntKind.i64.wrap (k1 : Int) = (k1 : Int) := by rw [IntKind.wrap_i64]; omega
  obtain ⟨off2, ho2⟩ : ∃ o, Hid ((if c = k1 then off else off + k1) = o) := ⟨_, Lib.hid rfl⟩
  have hif : (if c = k1 then some (⟨b, off, none⟩ : Addr) else some ⟨b, off + k1, none⟩) = some ⟨b, off2, none⟩ := by
    rw [← ho2.out]; split <;> rfl
  rw [ho2.out] at HD
  have hle : k1 ≤ n ∧ k ≤ n := by have := hk1.out; omega
  rw [ptrN_length, hn.out] at HJ
  have hl1 : ((ptrN xs).take k).length = k := by rw [List.length_take, ptrN_length, hn.out]; omega
  have hl2 : ((ptrN xs).drop k1).length = n - k1 := by rw [List.length_drop, ptrN_length, hn.out]
  have hl3 : (ptrN (xs.eraseIdx k)).length = n - 1 := by rw [ptrN_length, List.length_eraseIdx, hn.out, if_pos hk]
  have hcat : (ptrN xs).take k ++ (ptrN xs).drop k1 = ptrN (xs.eraseIdx k) := by
    rw [← hk1.out, List.eraseIdx_eq_take_drop_succ]; simp [ptrN, List.map_take, List.map_drop]
  have hbd : Below w.heap.size w (w.drew.alloc (.cells #[.slice (some ⟨b, off, none⟩) k c, .slice (some ⟨b, off2, none⟩) (n - k1) (c - k1)] 57)) := (below_drewN (Below.refl w.heap.size w) 1).alloc (Nat.le_refl _) _
  have HC := Lib.hid ((concat_any B w.heap.size ((ptrN xs).take k) ((ptrN xs).drop k1) (some ⟨b, off, none⟩) (some ⟨b, off2, none⟩) c (c - k1) (w.drew.alloc (.cells #[.slice (some ⟨b, off, none⟩) k c, .slice (some ⟨b, off2, none⟩) (n - k1) (c - k1)] 57)) (by rw [hl1, hl2]; exact Blk.new w.drew _ _) (by rw [hl1]; exact HT.out.below hbd) (by rw [hl2]; exact HD.out.below hbd)
    (fun u hu => ptrN_one _ u (List.mem_of_mem_take hu)) (fun u hu => ptrN_one _ u (List.mem_of_mem_drop hu)) (by omega) (by omega)).mono (R' := fun e w' => ∃ G gc, e = .returned (.slice G (n - 1) gc) ∧ Hid (Win 70 w' w.heap.size (.slice G (n - 1) gc) (ptrN (xs.eraseIdx k))) ∧ Hid (Below w.heap.size w w') ∧ w'.cell? ⟨j, 1, none⟩ = some (.slice (some ⟨b, off, none⟩) n c) ∧ w'.frozen? ⟨j, 1, none⟩ = false) (by
    rintro e w' ⟨r, rfl, hr, hb⟩
    rw [hcat] at hr
    obtain ⟨G, gc, rfl, _, _⟩ := hr.form
    rw [hl3] at hr ⊢
    have hb2 := hbd.trans (hb.mono hbd.size)
    exact ⟨G, gc, rfl, Lib.hid (hr.mono hbd.size), Lib.hid hb2, (HJ.out.below hb2 HJ.out.lt).cell 1, (HJ.out.below hb2 HJ.out.lt).frozen 1⟩))
  clear hj hB hW hD hl1 hl2 hl3 hcat hbd
  go_enter Tryd.func26, Tryd.ntmps26
  go_upto_region 0 with fail
  refine start_ (n := 19) (S := fun w' => w'.cell? ⟨j, 1, none⟩ = some (.slice (some ⟨b, off, none⟩) n c)) (ds := [18]) #[false, false, false, false, false, false, false, false, false, false, false, false, false, false, false, false, false, false, false] (by kernel_rfl) rfl rfl c1 (fun hHeld => ?_)
  refine with_tabW cut0.tab cut0.bits (fun HT_ HW_ => ?_)
  refine pure_ (i := 0) (N := some 4) (v := ?_) (a' := ?_) #[true, false, false, false, false, false, false, false, false, false, false, false, false, false, false, false, false, false, false] rfl rfl (any_of HT_.out (by kernel_rfl)) (fun _ _ _ h => h) (Or.inl ⟨by rfl, ?_⟩) ?_ ?_
  rotate_left
  · intro w'
    go_simp
    try with_reducible rfl
  rotate_left
  · simp only [Act.put, List.setIfInBounds_toArray, List.set_cons_zero, List.set_cons_succ]
    rfl
  refine pure_ (i := 1) (N := some 5) (v := ?_) (a' := ?_) #[true, true, false, false, false, false, false, false, false, false, false, false, false, false, false, false, false, false, false] rfl rfl (any_of HT_.out (by kernel_rfl)) (fun _ _ _ h => h) (Or.inl ⟨by rfl, ?_⟩) ?_ ?_
  rotate_left
  · intro w'
    go_simp
    try with_reducible rfl
  rotate_left
  · simp only [Act.put, List.setIfInBounds_toArray, List.set_cons_zero, List.set_cons_succ]
    rfl
  refine pure_ (i := 2) (N := some 6) (v := ?_) (a' := ?_) #[true, true, true, false, false, false, false, false, false, false, false, false, false, false, false, false, false, false, false] rfl rfl (any_of HT_.out (by kernel_rfl)) (fun _ _ _ h => h) (Or.inl ⟨by rfl, ?_⟩) ?_ ?_
  rotate_left
  · intro w'
    go_simp
    try with_reducible rfl
  rotate_left
  · simp only [Act.put, List.setIfInBounds_toArray, List.set_cons_zero, List.set_cons_succ]
    rfl
  refine pure_ (i := 3) (N := some 7) (v := ?_) (a' := ?_) #[true, true, true, true, false, false, false, false, false, false, false, false, false, false, false, false, false, false, false] rfl rfl (any_of HT_.out (by kernel_rfl)) (fun _ _ _ h => h) (Or.inl ⟨by rfl, ?_⟩) ?_ ?_
  rotate_left
  · intro w'
    go_simp
    try with_reducible rfl
  rotate_left
  · simp only [Act.put, List.setIfInBounds_toArray, List.set_cons_zero, List.set_cons_succ]
    rfl
  refine pure_ (i := 5) (N := some 9) (v := ?_) (a' := ?_) #[true, true, true, true, false, true, false, false, false, false, false, false, false, false, false, false, false, false, false] rfl rfl (any_of HT_.out (by kernel_rfl)) (fun _ _ _ h => h) (Or.inl ⟨by rfl, ?_⟩) ?_ ?_
  rotate_left
  · intro w'
    go_simp
    try with_reducible rfl
  rotate_left
  · simp only [Act.put, List.setIfInBounds_toArray, List.set_cons_zero, List.set_cons_succ]
    rfl
  refine pure_ (i := 7) (N := some 11) (v := ?_) (a' := ?_) #[true, true, true, true, false, true, false, true, false, false, false, false, false, false, false, false, false, false, false] rfl rfl (any_of HT_.out (by kernel_rfl)) (fun _ _ _ h => h) (Or.inl ⟨by rfl, ?_⟩) ?_ ?_
  rotate_left
  · intro w'
    go_simp
    try with_reducible rfl
  rotate_left
  · simp only [Act.put, List.setIfInBounds_toArray, List.set_cons_zero, List.set_cons_succ]
    rfl
  refine pure_ (i := 8) (N := some 12) (v := ?_) (a' := ?_) #[true, true, true, true, false, true, false, true, true, false, false, false, false, false, false, false, false, false, false] rfl rfl (any_of HT_.out (by kernel_rfl)) (fun _ _ _ h => h) (Or.inl ⟨by rfl, ?_⟩) ?_ ?_
  rotate_left
  · intro w'
    go_simp
    try with_reducible rfl
  rotate_left
  · simp only [Act.put, List.setIfInBounds_toArray, List.set_cons_zero, List.set_cons_succ]
    rfl
  refine pure_ (i := 9) (N := some 13) (v := ?_) (a' := ?_) #[true, true, true, true, false, true, false, true, true, true, false, false, false, false, false, false, false, false, false] rfl rfl (any_of HT_.out (by kernel_rfl)) (fun _ _ _ h => h) (Or.inl ⟨by rfl, ?_⟩) ?_ ?_
  rotate_left
  · intro w'
    go_simp
    try with_reducible rfl
  rotate_left
  · simp only [Act.put, List.setIfInBounds_toArray, List.set_cons_zero, List.set_cons_succ]
    rfl
  refine pure_ (i := 11) (N := some 15) (v := ?_) (a' := ?_) #[true, true, true, true, false, true, false, true, true, true, false, true, false, false, false, false, false, false, false] rfl rfl (any_of HT_.out (by kernel_rfl)) (fun _ _ _ h => h) (Or.inl ⟨by rfl, ?_⟩) ?_ ?_
  rotate_left
  · intro w'
    go_simp
    try with_reducible rfl
  rotate_left
  · simp only [Act.put, List.setIfInBounds_toArray, List.set_cons_zero, List.set_cons_succ]
    rfl
  refine pure_ (i := 12) (N := some 16) (v := ?_) (a' := ?_) #[true, true, true, true, false, true, false, true, true, true, false, true, true, false, false, false, false, false, false] rfl rfl (any_of HT_.out (by kernel_rfl)) (fun _ _ _ h => h) (Or.inl ⟨by rfl, ?_⟩) ?_ ?_
  rotate_left
  · intro w'
    go_simp
    try with_reducible rfl
  rotate_left
  · simp only [Act.put, List.setIfInBounds_toArray, List.set_cons_zero, List.set_cons_succ]
    rfl
  refine take_ (i := 4) (N := some 8) (v := ?_) (a' := ?_) #[true, true, true, true, true, true, false, true, true, true, false, true, true, false, false, false, false, false, false] rfl rfl (take_ofW HT_.out HW_.out (by kernel_rfl)) (fun _ _ _ h => h) (Or.inl ⟨by rfl, ?_⟩) hHeld ?_ ?_
  rotate_left
  · rintro w' s0
    go_simp
    try with_reducible rfl
  rotate_left
  · simp only [Act.put, List.setIfInBounds_toArray, List.set_cons_zero, List.set_cons_succ]
    rfl
  refine pure_ (i := 6) (N := some 10) (v := ?_) (a' := ?_) #[true, true, true, true, true, true, true, true, true, true, false, true, true, false, false, false, false, false, false] rfl rfl (any_of HT_.out (by kernel_rfl)) (fun _ _ _ h => h) (Or.inl ⟨by rfl, ?_⟩) ?_ ?_
  rotate_left
  · intro w'
    go_simp
    try with_reducible rfl
  rotate_left
  · simp only [Act.put, List.setIfInBounds_toArray, List.set_cons_zero, List.set_cons_succ]
    rfl
  refine take_ (i := 10) (N := some 14) (v := ?_) (a' := ?_) #[true, true, true, true, true, true, true, true, true, true, true, true, true, false, false, false, false, false, false] rfl rfl (take_ofW HT_.out HW_.out (by kernel_rfl)) (fun _ _ _ h => h) (Or.inl ⟨by rfl, ?_⟩) hHeld ?_ ?_
  rotate_left
  · rintro w' s0
    go_simp
    try with_reducible rfl
  rotate_left
  · simp only [Act.put, List.setIfInBounds_toArray, List.set_cons_zero, List.set_cons_succ]
    rfl
  refine pure_ (i := 13) (N := some 17) (v := ?_) (a' := ?_) #[true, true, true, true, true, true, true, true, true, true, true, true, true, true, false, false, false, false, false] rfl rfl (any_of HT_.out (by kernel_rfl)) (fun _ _ _ h => h) (Or.inl ⟨by rfl, ?_⟩) ?_ ?_
  rotate_left
  · intro w'
    go_simp
    try with_reducible rfl
  rotate_left
  · simp only [Act.put, List.setIfInBounds_toArray, List.set_cons_zero, List.set_cons_succ]
    rfl
  refine one_ (i := 14) (N := some 18) #[true, true, true, true, true, true, true, true, true, true, true, true, true, true, true, false, false, false, false] rfl rfl (one_of HT_.out (by kernel_rfl)) (by decide) (fun K hK => ?_)
  refine value_ (w1 := ?_) (v := ?_) (by rfl) rfl ?_ ?_
  rotate_left 2
  · go_simp
    constructor
    · rfl
    · rfl
  refine hK.out _ _ ((HJ.out.drew.alloc _).cell 1) (fun hHeld => ?_)
  clear hK K
  refine norm_ (a' := ?_) ?_ ?_
  rotate_left
  · show Act.put _ (some 18) _ = _
    simp only [Act.put, List.setIfInBounds_toArray, List.set_cons_zero, List.set_cons_succ]
    rfl
  refine one_ (i := 15) (N := some 19) #[true, true, true, true, true, true, true, true, true, true, true, true, true, true, true, true, false, false, false] rfl rfl (one_of HT_.out (by kernel_rfl)) (by decide) (fun K hK => ?_)
  refine goes_ Tryd.func36 (by kernel_rfl) rfl #[.slice (some ⟨w.heap.size, 0, none⟩) 2 2] (by rfl) rfl rfl (by first | done | rfl | (simp only [List.map_toArray, List.map_cons, List.map_nil]; done) | (simp only [List.map_toArray, List.map_cons, List.map_nil]; rfl)) ?_
  refine (HC.out).mono ?_
  rintro e' w4 ⟨G, gc, rfl, W4, B4, s4, f4⟩
  refine ⟨_, rfl, ?_⟩
  refine hK.out _ _ (s4) (fun hHeld => ?_)
  clear hK K
  refine norm_ (a' := ?_) ?_ ?_
  rotate_left
  · show Act.put _ (some 19) _ = _
    simp only [Act.put, List.setIfInBounds_toArray, List.set_cons_zero, List.set_cons_succ]
    rfl
  refine pure_ (i := 16) (N := some 20) (v := ?_) (a' := ?_) #[true, true, true, true, true, true, true, true, true, true, true, true, true, true, true, true, true, false, false] rfl rfl (any_of HT_.out (by kernel_rfl)) (fun _ _ _ h => h) (Or.inl ⟨by rfl, ?_⟩) ?_ ?_
  rotate_left
  · intro w'
    go_simp
    try with_reducible rfl
  rotate_left
  · simp only [Act.put, List.setIfInBounds_toArray, List.set_cons_zero, List.set_cons_succ]
    rfl
  refine pure_ (i := 17) (N := some 21) (v := ?_) (a' := ?_) #[true, true, true, true, true, true, true, true, true, true, true, true, true, true, true, true, true, true, false] rfl rfl (any_of HT_.out (by kernel_rfl)) (fun _ _ _ h => h) (Or.inl ⟨by rfl, ?_⟩) ?_ ?_
  rotate_left
  · intro w'
    go_simp
    try with_reducible rfl
  rotate_left
  · simp only [Act.put, List.setIfInBounds_toArray, List.set_cons_zero, List.set_cons_succ]
    rfl
  refine last_ (i := 18) (N := none) #[true, true, true, true, true, true, true, true, true, true, true, true, true, true, true, true, true, true, true] rfl rfl (one_of HT_.out (by kernel_rfl)) (by decide) (fun K hK => ?_)
  refine skip_ (w1 := ?_) (by rfl) rfl ?_ ?_
  rotate_left
  · go_simp
    try rfl
  refine hK.out _ _ ?_
  clear hK K
  refine done_ (done_of HT_.out (by kernel_rfl)) ?_
  clear HT_ HW_
  go_end0
  refine ⟨rfl, _, (HJ.out.below B4.out HJ.out.lt).set_ 1 _, (W4.out.mono HB.out).kp (Kp.set_ (S := fun i => i = j) rfl _ _) (fun b h e => ?_), (Kp.of_below B4.out).trans (Kp.set_ (S := fun i => i = j) rfl _ _), fun b h => (W4.out.typed b h).1⟩
  have h1 := (W4.out.typed b h).1
  have h2 := HJ.out.lt
  subst e
  omega
end Go.Proofs.YtlogcgeinbefjaaDoor
namespace Go.Proofs.YtlogcgeinbefjaaDoor
open Go.RowKit Go.Proofs.YtlogcgeinbefjaaDoorW.PrintWords Go.Proofs.YtlogcgeinbefjaaDoorW.PrintLast
set_option linter.unusedSimpArgs false
set_option linter.unusedVariables false
set_option maxRecDepth 20000
/-- the joiner's blocks. -/
def JS (j : Nat) (vS vN : Value) (T : List Pl) (i : Nat) : Prop := i = j ∨ vS.ownBlock = some i ∨ vN.ownBlock = some i ∨ ∃ t ∈ T, i = t.x ∨ i = t.p ∨ i = t.c
theorem pushQ_map {α β : Type} (f : α → β) (m : Nat) (xs : List α) (x : α) : (pushQ m xs x).map f = pushQ m (xs.map f) (f x) := by
  unfold pushQ
  rw [List.map_append, List.length_map]
  split <;> simp [List.map_drop]
theorem pushQ_length {α : Type} (m : Nat) (xs : List α) (x : α) (h : 1 ≤ m) (hx : xs.length ≤ m) : (pushQ m xs x).length = min (xs.length + 1) m := by
  unfold pushQ
  split <;> simp <;> omega
theorem pushQ_mem {α : Type} {m : Nat} {xs : List α} {x y : α} (h : y ∈ pushQ m xs x) : y ∈ xs ∨ y = x := by
  unfold pushQ at h
  rcases List.mem_append.1 h with h | h
  · split at h
    · exact .inl (List.mem_of_mem_drop h)
    · exact .inl h
  · exact .inr (List.mem_singleton.1 h)
theorem pushQ_get {α β : Type} {m : Nat} {xs : List α} {ys : List β} {x : α} {y : β} (hl : xs.length = ys.length) {i : Nat} {a : α} {b : β} (ha : (pushQ m xs x)[i]? = some a) (hb : (pushQ m ys y)[i]? = some b) :
    (a = x ∧ b = y) ∨ ∃ k : Nat, xs[k]? = some a ∧ ys[k]? = some b := by
  unfold pushQ at ha hb
  rw [← hl] at hb
  by_cases h : xs.length = m
  · rw [if_pos h] at ha hb
    rw [List.getElem?_append] at ha hb
    rw [List.length_drop] at ha hb
    rw [← hl] at hb
    split at ha
    · rename_i hi
      rw [if_pos hi] at hb
      rw [List.getElem?_drop] at ha hb
      exact .inr ⟨_, ha, hb⟩
    · rename_i hi
      rw [if_neg hi] at hb
      have h0 : i - (xs.length - 1) = 0 := by
        have := (List.getElem?_eq_some_iff.1 ha).1
        simpa using this
      rw [h0] at ha hb
      exact .inl ⟨(Option.some.inj ha).symm, (Option.some.inj hb).symm⟩
  · rw [if_neg h] at ha hb
    rw [List.getElem?_append] at ha hb
    rw [← hl] at hb
    split at ha
    · rename_i hi
      rw [if_pos hi] at hb
      exact .inr ⟨_, ha, hb⟩
    · rename_i hi
      rw [if_neg hi] at hb
      have h0 : i - xs.length = 0 := by
        have := (List.getElem?_eq_some_iff.1 ha).1
        simpa using this
      rw [h0] at ha hb
      exact .inl ⟨(Option.some.inj ha).symm, (Option.some.inj hb).symm⟩
theorem pushQ_nodup {α : Type} {m : Nat} {xs : List α} {x : α} (h : xs.Nodup) (hx : x ∉ xs) : (pushQ m xs x).Nodup := by
  unfold pushQ
  rw [List.nodup_append]
  refine ⟨?_, by simp, fun a ha b hb e => ?_⟩
  · split
    · exact h.sublist (List.drop_sublist 1 xs)
    · exact h
  · rw [List.mem_singleton.1 hb] at e
    subst e
    refine hx ?_
    split at ha
    · exact List.mem_of_mem_drop ha
    · exact ha
theorem ptrX_eq (T : List Pl) : ptrX T = ptrN (T.map (·.x)) := by simp [ptrX, ptrN]
section
variable {B : Nat} {w w' : World} {j : Nat} {vS vN : Value} {T : List Pl} {J : Jn} {t : Pl} {m : Ms} {S : Nat → Prop}
theorem MsA.kp (h : MsA B w t m) (k : Kp S w w') (h1 : ¬ S t.x) (h2 : ¬ S t.p) (h3 : ¬ S t.c) : MsA B w' t m := ⟨h.x.kp k h1, h.p.kp k h2, h.c.kp k h3, h.l, h.b, h.n, h.lf, h.sz⟩
theorem JnA.lt (h : JnA B w j vS vN T J) {i : Nat} (hi : JS j vS vN T i) : B ≤ i ∧ i < w.heap.size := by
  rcases hi with rfl | hi | hi | ⟨t, ht, hi⟩
  · exact ⟨h.bj, h.hj.lt⟩
  · obtain ⟨h1, cs, h2⟩ := h.s.typed i hi; exact ⟨h1, h2.lt⟩
  · obtain ⟨h1, cs, h2⟩ := h.n.typed i hi; exact ⟨h1, h2.lt⟩
  · obtain ⟨k, hk, rfl⟩ := List.mem_iff_getElem.1 ht
    have hm := h.ms k T[k] (J.some[k]'(by rw [← h.len]; exact hk)) (List.getElem?_eq_getElem hk) (List.getElem?_eq_getElem (by rw [← h.len]; exact hk))
    rcases hi with rfl | rfl | rfl
    · exact ⟨hm.b.1, hm.x.lt⟩
    · exact ⟨hm.b.2.1, hm.p.lt⟩
    · exact ⟨hm.b.2.2, hm.c.lt⟩
theorem JnA.mem (h : JnA B w j vS vN T J) {t : Pl} (ht : t ∈ T) : ∃ m, MsA B w t m := by
  obtain ⟨k, hk, rfl⟩ := List.mem_iff_getElem.1 ht
  exact ⟨_, h.ms k T[k] (J.some[k]'(by rw [← h.len]; exact hk)) (List.getElem?_eq_getElem hk) (List.getElem?_eq_getElem (by rw [← h.len]; exact hk))⟩
/-- one message more. -/
theorem JnA.pushed (h : JnA B w j vS vN T J) (ht : MsA B w t m) (fx : ∀ u ∈ T, u.x ≠ t.x ∧ u.p ≠ t.p ∧ u.c ≠ t.c) (fp : vN.ownBlock ≠ some t.p) {v' : Value} (hb : Blk w' j 63 (jC v' vN J)) (hW : Win 70 w' B v' (ptrN (pushQ J.most (T.map (·.x)) t.x)))
    (k : Kp (fun i => i = j ∨ vS.ownBlock = some i) w w') : JnA B w' j v' vN (pushQ J.most T t) { J with some := pushQ J.most J.some m } := by
  have far : ∀ {t : Pl} {m : Ms}, MsA B w t m → ¬ (t.x = j ∨ vS.ownBlock = some t.x) ∧ ¬ (t.p = j ∨ vS.ownBlock = some t.p) ∧ ¬ (t.c = j ∨ vS.ownBlock = some t.c) := by
    intro t m hm
    refine ⟨?_, ?_, ?_⟩ <;> rintro (e | e)
    · exact absurd ((e ▸ hm.x : Blk w j _ _).ty h.hj).1 (by decide)
    · obtain ⟨_, cs, h2⟩ := h.s.typed _ e; exact absurd (hm.x.ty h2).1 (by decide)
    · exact absurd ((e ▸ hm.p : Blk w j _ _).ty h.hj).1 (by decide)
    · obtain ⟨_, cs, h2⟩ := h.s.typed _ e; exact absurd (hm.p.ty h2).1 (by decide)
    · exact absurd ((e ▸ hm.c : Blk w j _ _).ty h.hj).1 (by decide)
    · obtain ⟨_, cs, h2⟩ := h.s.typed _ e; exact absurd (hm.c.ty h2).1 (by decide)
  have hbd := h.bd
  refine ⟨hb, h.bj, by rw [ptrX_eq, pushQ_map]; exact hW, h.n.kp k (fun b hv e => ?_), ?_, fun i t' m' h1 h2 => ?_, ?_, ?_, ?_, fun u hu => ?_, hbd.1, hbd.2.1, ?_, hbd.2.2.2⟩
  · rcases e with rfl | e
    · obtain ⟨_, cs, h2⟩ := h.n.typed _ hv; exact absurd (h2.ty h.hj).1 (by decide)
    · obtain ⟨_, cs, h2⟩ := h.n.typed _ hv; obtain ⟨_, cs', h3⟩ := h.s.typed _ e; exact absurd (h2.ty h3).1 (by decide)
  · show _ = (pushQ J.most J.some m).length
    rw [pushQ_length _ _ _ hbd.1.1 (by rw [h.len]; exact hbd.2.2.1), pushQ_length _ _ _ hbd.1.1 hbd.2.2.1, h.len]
  · rcases pushQ_get h.len h1 h2 with ⟨rfl, rfl⟩ | ⟨q, hq1, hq2⟩
    · obtain ⟨f1, f2, f3⟩ := far ht; exact ht.kp k f1 f2 f3
    · have hm := h.ms q _ _ hq1 hq2
      obtain ⟨f1, f2, f3⟩ := far hm; exact hm.kp k f1 f2 f3
  · rw [pushQ_map]; exact pushQ_nodup h.dx (fun hm => by obtain ⟨u, hu, e⟩ := List.mem_map.1 hm; exact (fx u hu).1 e)
  · rw [pushQ_map]; exact pushQ_nodup h.dp (fun hm => by obtain ⟨u, hu, e⟩ := List.mem_map.1 hm; exact (fx u hu).2.1 e)
  · rw [pushQ_map]; exact pushQ_nodup h.dc (fun hm => by obtain ⟨u, hu, e⟩ := List.mem_map.1 hm; exact (fx u hu).2.2 e)
  · rcases pushQ_mem hu with hu | rfl
    · exact h.np u hu
    · exact fp
  · show (pushQ J.most J.some m).length ≤ J.most
    rw [pushQ_length _ _ _ hbd.1.1 hbd.2.2.1]; omega
theorem nodup_ne {α β : Type} {f : α → β} {l : List α} (h : (l.map f).Nodup) {i k : Nat} {a b : α} (ha : l[i]? = some a) (hb : l[k]? = some b) (hne : i ≠ k) : f a ≠ f b := by
  intro e
  have hi := (List.getElem?_eq_some_iff.1 ha)
  have hk := (List.getElem?_eq_some_iff.1 hb)
  have := (List.getElem_inj (i := i) (j := k) (h₀ := by rw [List.length_map]; exact hi.1) (h₁ := by rw [List.length_map]; exact hk.1) h).1 (by rw [List.getElem_map, List.getElem_map, hi.2, hk.2, e])
  exact hne this
/-- a message after a piece came. -/
def Ms.put (m : Ms) (k : Nat) (s : List UInt8) : Ms := { m with pcs := m.pcs.set k s, came := m.came.set k true, left := m.left - 1 }
theorem bls_set (l : List Bool) (k : Nat) (b : Bool) : (bls l).toArray.setIfInBounds k (.bool b) = (bls (l.set k b)).toArray := by simp [bls, List.map_set]
theorem cstr_set_ (l : List (List UInt8)) (k : Nat) (s : List UInt8) : (cstr l).toArray.setIfInBounds k (.string ⟨s.toArray⟩) = (cstr (l.set k s)).toArray := by simp [cstr, List.map_set]
def putW (w : World) (t : Pl) (k : Nat) (s : List UInt8) (l : Int) : World := (((w.setCell ⟨t.p, k, none⟩ (.string ⟨s.toArray⟩)).setCell ⟨t.c, k, none⟩ (.bool true)).setCell ⟨t.x, 4, none⟩ (.int .i64 l))
theorem putW_kp (w : World) (t : Pl) (k : Nat) (s : List UInt8) (l : Int) : Kp (fun i => i = t.x ∨ i = t.p ∨ i = t.c) w (putW w t k s l) :=
  ((Kp.set_ (S := fun i => i = t.x ∨ i = t.p ∨ i = t.c) (g := t.p) (.inr (.inl rfl)) _ _).trans (Kp.set_ (g := t.c) (.inr (.inr rfl)) _ _)).trans (Kp.set_ (g := t.x) (.inl rfl) _ _)
theorem MsA.put (h : MsA B w t m) (k : Nat) (s : List UInt8) (hs : s.length ≤ 200) (hl : 1 ≤ m.left) : MsA B (putW w t k s (m.left - 1)) t (m.put k s) := by
  have n1 : t.x ≠ t.p := fun e => absurd ((e ▸ h.x : Blk w t.p _ _).ty h.p).1 (by decide)
  have n2 : t.x ≠ t.c := fun e => absurd ((e ▸ h.x : Blk w t.c _ _).ty h.c).1 (by decide)
  have n3 : t.p ≠ t.c := fun e => absurd ((e ▸ h.p : Blk w t.c _ _).ty h.c).1 (by decide)
  have hlf := h.lf
  refine ⟨?_, ?_, ?_, ?_, h.b, ?_, ?_, fun u hu => ?_⟩
  · have := ((h.x.far (p := ⟨t.p, k, none⟩) n1 (.string ⟨s.toArray⟩)).far (p := ⟨t.c, k, none⟩) n2 (.bool true)).set_ 4 (.int .i64 (m.left - 1))
    have e : (msC t m).setIfInBounds 4 (.int .i64 (m.left - 1)) = msC t (m.put k s) := by simp [msC, Ms.put]
    rw [e] at this; exact this
  · have := ((h.p.set_ k (.string ⟨s.toArray⟩)).far (p := ⟨t.c, k, none⟩) n3 (.bool true)).far (p := ⟨t.x, 4, none⟩) n1.symm (.int .i64 (m.left - 1))
    rw [cstr_set_] at this; exact this
  · have := ((h.c.far (p := ⟨t.p, k, none⟩) n3.symm (.string ⟨s.toArray⟩)).set_ k (.bool true)).far (p := ⟨t.x, 4, none⟩) n2.symm (.int .i64 (m.left - 1))
    rw [bls_set] at this; exact this
  · show (m.came.set k true).length = (m.pcs.set k s).length
    rw [List.length_set, List.length_set]; exact h.l
  · show 1 ≤ (m.pcs.set k s).length ∧ (m.pcs.set k s).length ≤ 11
    rw [List.length_set]; exact h.n
  · show 0 ≤ m.left - 1 ∧ m.left - 1 ≤ 11; omega
  · rcases List.mem_or_eq_of_mem_set hu with hu | rfl
    · exact h.sz u hu
    · exact hs
/-- a piece came. -/
theorem JnA.piece (h : JnA B w j vS vN T J) {i : Nat} (hT : T[i]? = some t) (hm : J.some[i]? = some m) (k : Nat) (s : List UInt8) (hs : s.length ≤ 200) (hl : 1 ≤ m.left) : JnA B (putW w t k s (m.left - 1)) j vS vN T { J with some := J.some.set i (m.put k s) } := by
  have hA := h.ms i t m hT hm
  have kp := putW_kp w t k s (m.left - 1)
  have hmem : t ∈ T := List.mem_of_getElem? hT
  refine ⟨h.hj.kp kp ?_, h.bj, h.s.kp kp (fun b hv e => ?_), h.n.kp kp (fun b hv e => ?_), by show _ = (J.some.set i _).length; rw [List.length_set]; exact h.len, fun q t' m' h1 h2 => ?_, h.dx, h.dp, h.dc, h.np, h.bd.1, h.bd.2.1, by show (J.some.set i _).length ≤ _; rw [List.length_set]; exact h.bd.2.2.1, h.bd.2.2.2⟩
  · rintro (e | e | e)
    · exact absurd ((e ▸ h.hj : Blk w t.x _ _).ty hA.x).1 (by decide)
    · exact absurd ((e ▸ h.hj : Blk w t.p _ _).ty hA.p).1 (by decide)
    · exact absurd ((e ▸ h.hj : Blk w t.c _ _).ty hA.c).1 (by decide)
  · obtain ⟨_, cs, h2⟩ := h.s.typed _ hv
    rcases e with rfl | rfl | rfl
    · exact absurd (h2.ty hA.x).1 (by decide)
    · exact absurd (h2.ty hA.p).1 (by decide)
    · exact absurd (h2.ty hA.c).1 (by decide)
  · obtain ⟨_, cs, h2⟩ := h.n.typed _ hv
    rcases e with rfl | rfl | rfl
    · exact absurd (h2.ty hA.x).1 (by decide)
    · exact h.np t hmem hv
    · exact absurd (h2.ty hA.c).1 (by decide)
  · by_cases hq : q = i
    · subst hq
      rw [hT] at h1; cases h1
      have : J.some.set q (m.put k s) = J.some.set q (m.put k s) := rfl
      rw [show ({ J with some := J.some.set q (m.put k s) } : Jn).some = J.some.set q (m.put k s) from rfl, List.getElem?_set_self (List.getElem?_eq_some_iff.1 hm).1] at h2
      cases h2
      exact hA.put k s hs hl
    · rw [show ({ J with some := J.some.set i (m.put k s) } : Jn).some = J.some.set i (m.put k s) from rfl, List.getElem?_set_ne (Ne.symm hq)] at h2
      have hB := h.ms q t' m' h1 h2
      refine hB.kp kp ?_ ?_ ?_
      · rintro (e | e | e)
        · exact nodup_ne h.dx h1 hT hq e
        · exact absurd ((e ▸ hB.x : Blk w t.p _ _).ty hA.p).1 (by decide)
        · exact absurd ((e ▸ hB.x : Blk w t.c _ _).ty hA.c).1 (by decide)
      · rintro (e | e | e)
        · exact absurd ((e ▸ hB.p : Blk w t.x _ _).ty hA.x).1 (by decide)
        · exact nodup_ne h.dp h1 hT hq e
        · exact absurd ((e ▸ hB.p : Blk w t.c _ _).ty hA.c).1 (by decide)
      · rintro (e | e | e)
        · exact absurd ((e ▸ hB.c : Blk w t.x _ _).ty hA.x).1 (by decide)
        · exact absurd ((e ▸ hB.c : Blk w t.p _ _).ty hA.p).1 (by decide)
        · exact nodup_ne h.dc h1 hT hq e
/-- a message is taken out. -/
theorem JnA.cut (h : JnA B w j vS vN T J) (i : Nat) (hi : i < J.some.length) {v' : Value} (hb : Blk w' j 63 (jC v' vN J)) (hW : Win 70 w' B v' (ptrN ((T.map (·.x)).eraseIdx i))) (k : Kp (fun i => i = j) w w') : JnA B w' j v' vN (T.eraseIdx i) { J with some := J.some.eraseIdx i } := by
  have sub := List.eraseIdx_sublist T i
  refine ⟨hb, h.bj, by rw [ptrX_eq]; rw [show (T.eraseIdx i).map (·.x) = (T.map (·.x)).eraseIdx i by rw [List.eraseIdx_eq_take_drop_succ, List.eraseIdx_eq_take_drop_succ, List.map_append, List.map_take, List.map_drop]]; exact hW, h.n.kp k (fun b hv e => ?_), ?_, fun q t' m' h1 h2 => ?_, h.dx.sublist (sub.map _), h.dp.sublist (sub.map _), h.dc.sublist (sub.map _), fun u hu => h.np u (sub.subset hu), h.bd.1, h.bd.2.1, ?_, h.bd.2.2.2⟩
  · subst e
    obtain ⟨_, cs, h2⟩ := h.n.typed _ hv; exact absurd (h2.ty h.hj).1 (by decide)
  · show _ = (J.some.eraseIdx i).length
    rw [List.length_eraseIdx, List.length_eraseIdx, h.len]
  · have h2' : (J.some.eraseIdx i)[q]? = some m' := h2
    rw [List.getElem?_eraseIdx] at h1 h2'
    have : ∃ r : Nat, T[r]? = some t' ∧ J.some[r]? = some m' := by
      split at h1
      · rename_i hq; rw [if_pos hq] at h2'; exact ⟨_, h1, h2'⟩
      · rename_i hq; rw [if_neg hq] at h2'; exact ⟨_, h1, h2'⟩
    obtain ⟨r, h1, h2⟩ := this
    have hm := h.ms r t' m' h1 h2
    exact hm.kp k (fun e => absurd ((e ▸ hm.x : Blk w j _ _).ty h.hj).1 (by decide)) (fun e => absurd ((e ▸ hm.p : Blk w j _ _).ty h.hj).1 (by decide)) (fun e => absurd ((e ▸ hm.c : Blk w j _ _).ty h.hj).1 (by decide))
  · show (J.some.eraseIdx i).length ≤ J.most
    rw [List.length_eraseIdx]; have := h.bd.2.2.1; split <;> omega
/-- an id more. -/
theorem JnA.noted (h : JnA B w j vS vN T J) (id : List UInt8) {v' : Value} (hb : Blk w' j 63 (jC vS v' J)) (hW : Win 9 w' B v' (cstr (pushQ J.noted J.done id))) (k : Kp (fun i => i = j ∨ vN.ownBlock = some i) w w') (hv : v'.ownBlock = vN.ownBlock ∨ ∃ b, v'.ownBlock = some b ∧ w.heap.size ≤ b) :
    JnA B w' j vS v' T { J with done := pushQ J.noted J.done id } := by
  refine ⟨hb, h.bj, h.s.kp k (fun b hv e => ?_), hW, h.len, fun q t' m' h1 h2 => ?_, h.dx, h.dp, h.dc, fun u hu e => ?_, h.bd.1, h.bd.2.1, h.bd.2.2.1, ?_⟩
  · obtain ⟨_, cs, h2⟩ := h.s.typed _ hv
    rcases e with rfl | e
    · exact absurd (h2.ty h.hj).1 (by decide)
    · obtain ⟨_, cs', h3⟩ := h.n.typed _ e; exact absurd (h2.ty h3).1 (by decide)
  · have hm := h.ms q t' m' h1 h2
    refine hm.kp k ?_ ?_ ?_ <;> rintro (e | e)
    · exact absurd ((e ▸ hm.x : Blk w j _ _).ty h.hj).1 (by decide)
    · obtain ⟨_, cs', h3⟩ := h.n.typed _ e; exact absurd (hm.x.ty h3).1 (by decide)
    · exact absurd ((e ▸ hm.p : Blk w j _ _).ty h.hj).1 (by decide)
    · exact h.np t' (List.mem_of_getElem? h1) e
    · exact absurd ((e ▸ hm.c : Blk w j _ _).ty h.hj).1 (by decide)
    · obtain ⟨_, cs', h3⟩ := h.n.typed _ e; exact absurd (hm.c.ty h3).1 (by decide)
  · rcases hv with hv | ⟨b, hv, hb2⟩
    · exact h.np u hu (hv ▸ e)
    · rw [hv] at e
      obtain ⟨m, hm⟩ := h.mem hu
      have := hm.p.lt
      cases e
      omega
  · show (pushQ J.noted J.done id).length ≤ J.noted
    rw [pushQ_length _ _ _ h.bd.2.1.1 h.bd.2.2.2]; omega
end
end Go.Proofs.YtlogcgeinbefjaaDoor
namespace Go.Proofs
open Go.Shelf
def Tryd.lays156_ren : Go.Shelf.Ren := ⟨fun | 156 => 27 | 165 => 37 | 166 => 38 | 169 => 39 | 240 => 44 | 241 => 45 | 276 => 52 | 277 => 53 | n => n, fun | 31 => 22 | 9 => 9 | 3 => 3 | 4 => 4 | 0 => 0 | 20 => 20 | 72 => 97 | 76 => 100 | 70 => 95 | 37 => 42 | 75 => 99 | 127 => 110 | 164 => 117 | 5 => 5 | 80 => 102 | n => n, fun | n => n⟩
theorem Tryd.lays156 : Go.Proofs.Lays.n156 Tryd.prog Tryd.lays156_ren := {
  mixed := by kernel_rfl
  f156 := Tryd.func27.trans (congrArg some (by kernel_rfl))
  f165 := Tryd.func37.trans (congrArg some (by kernel_rfl))
  f166 := Tryd.func38.trans (congrArg some (by kernel_rfl))
  f169 := Tryd.func39.trans (congrArg some (by kernel_rfl))
  f240 := Tryd.func44.trans (congrArg some (by kernel_rfl))
  f241 := Tryd.func45.trans (congrArg some (by kernel_rfl))
  f276 := Tryd.func52.trans (congrArg some (by kernel_rfl))
  f277 := Tryd.func53.trans (congrArg some (by kernel_rfl))
  t0 := Tryd.underlying0
  a0 := Tryd.isAgg0
  z0 := Tryd.sizeOf0
  v0 := Tryd.zeroValue0
  t3 := Tryd.underlying3
  a3 := Tryd.isAgg3
  z3 := Tryd.sizeOf3
  v3 := Tryd.zeroValue3
  t4 := Tryd.underlying4
  a4 := Tryd.isAgg4
  z4 := Tryd.sizeOf4
  v4 := Tryd.zeroValue4
  t9 := Tryd.underlying9
  a9 := Tryd.isAgg9
  z9 := Tryd.sizeOf9
  v9 := Tryd.zeroValue9
  t20 := Tryd.underlying20
  a20 := Tryd.isAgg20
  z20 := Tryd.sizeOf20
  v20 := Tryd.zeroValue20
  t31 := Tryd.underlying22
  a31 := Tryd.isAgg22
  z31 := Tryd.sizeOf22
  v31 := Tryd.zeroValue22
  t37 := Tryd.underlying42
  a37 := Tryd.isAgg42
  z37 := Tryd.sizeOf42
  v37 := Tryd.zeroValue42
  t70 := Tryd.underlying95
  a70 := Tryd.isAgg95
  z70 := Tryd.sizeOf95
  v70 := Tryd.zeroValue95
  t72 := Tryd.underlying97
  a72 := Tryd.isAgg97
  z72 := Tryd.sizeOf97
  v72 := Tryd.zeroValue97
  t75 := Tryd.underlying99
  a75 := Tryd.isAgg99
  z75 := Tryd.sizeOf99
  v75 := Tryd.zeroValue99
  t76 := Tryd.underlying100
  a76 := Tryd.isAgg100
  z76 := Tryd.sizeOf100
  v76 := Tryd.zeroValue100
  t127 := Tryd.underlying110
  a127 := Tryd.isAgg110
  z127 := Tryd.sizeOf110
  v127 := Tryd.zeroValue110
  t164 := Tryd.underlying117
  a164 := Tryd.isAgg117
  z164 := Tryd.sizeOf117
  v164 := Tryd.zeroValue117 }
theorem Tryd.Builder_Extra_156 : Builder.Extra Tryd.prog Tryd.lays156_ren := {
  sizeBuilder := by kernel_rfl
  liesBuilder := by kernel_rfl
  t5 := Tryd.underlying5
  a5 := Tryd.isAgg5
  z5 := Tryd.sizeOf5
  v5 := Tryd.zeroValue5
  infoByte := by kernel_rfl
  cellsByte := by kernel_rfl
  sizeByte := by kernel_rfl
  neB5 := by decide }
open Go.RowKit in
/-- strings.Join: "Join concatenates the elements of its first argument to create a single string. The separator string sep is placed between elements in the resulting string.": HOWEVER MANY ELEMENTS. Below the heap's end the world is as it was. (LAID: no walk: one application.) -/
theorem Tryd.strings_Join (bk o c : Nat) (xs : List ByteArray) (sep : ByteArray) (w : World) (hcells : ∀ (j : Nat) x, xs[j]? = some x → w.cell? ⟨bk, o + j, none⟩ = some (.string x)) (hbk : bk < w.heap.size) (hN : xs.length ≤ 140737488355328) (hcap : xs.length ≤ c) (hlen : (Lib.join (xs.map (·.data.toList)) sep.data.toList).length ≤ 140737488355328) :
    Calls Tryd.prog 27 #[.slice (some ⟨bk, o, none⟩) xs.length c, .string sep] w fun e w' => e = .returned (.string ⟨(Lib.join (xs.map (·.data.toList)) sep.data.toList).toArray⟩) ∧ Below w.heap.size w w' := Any.strings_Join Tryd.lays156 Tryd.Builder_Extra_156 bk o c xs sep w hcells hbk hN hcap hlen
end Go.Proofs
namespace Go.Proofs.YtlogcgeinbefjaaDoor
open Go.RowKit Go.Proofs.YtlogcgeinbefjaaDoorW.PrintWords Go.Proofs.YtlogcgeinbefjaaDoorW.PrintLast
set_option linter.unusedSimpArgs false
set_option linter.unusedVariables false
set_option maxRecDepth 20000
structure Tk where
  id : List UInt8
  body : List UInt8
  whole : Bool
  e : Int
def noTk (e : Int) : Tk := ⟨[], [], false, e⟩
def freshM (p : Pt) : Ms := ⟨p.id, p.sum, List.replicate p.many [], List.replicate p.many false, (p.many : Nat)⟩
def lastIn (J : Jn) (i : Nat) (m : Ms) (p : Pt) : Jn × Tk :=
  if digL p.id m.pcs.flatten = p.sum then ({ J with some := J.some.eraseIdx i, done := pushQ J.noted J.done p.id }, ⟨p.id, m.pcs.flatten, true, 0⟩) else ({ J with some := J.some.eraseIdx i }, noTk 220)
def putIn (J : Jn) (i : Nat) (m : Ms) (p : Pt) : Jn × Tk :=
  if 0 < m.left - 1 then ({ J with some := J.some.set i (m.put p.at_ p.text) }, noTk 0) else lastIn { J with some := J.some.set i (m.put p.at_ p.text) } i (m.put p.at_ p.text) p
def oldIn (J : Jn) (i : Nat) (m : Ms) (p : Pt) : Jn × Tk :=
  if m.sum = p.sum ∧ m.pcs.length = p.many then (if m.came[p.at_]? = some true then (J, noTk 6) else putIn J i m p) else (J, noTk 220)
def takeF (J : Jn) (s : List UInt8) : Jn × Tk :=
  if okP s then
    (if J.done.any (fun x => x == (ptOf s).id) then (J, noTk 6)
     else match J.some[(fstI (fun m : Ms => m.id == (ptOf s).id) J.some).toNat]? with
       | some m => if fstI (fun m : Ms => m.id == (ptOf s).id) J.some < 0 then putIn { J with some := pushQ J.most J.some (freshM (ptOf s)) } ((pushQ J.most J.some (freshM (ptOf s))).length - 1) (freshM (ptOf s)) (ptOf s)
                   else oldIn J (fstI (fun m : Ms => m.id == (ptOf s).id) J.some).toNat m (ptOf s)
       | none => putIn { J with some := pushQ J.most J.some (freshM (ptOf s)) } ((pushQ J.most J.some (freshM (ptOf s))).length - 1) (freshM (ptOf s)) (ptOf s))
  else (J, noTk 220)
def toldC (r : Tk) : Array Value := #[.string ⟨r.id.toArray⟩, .string ⟨r.body.toArray⟩]
def zTold : Array Value := #[.string ⟨#[]⟩, .string ⟨#[]⟩]
structure TkOut (B j : Nat) (vS vN : Value) (T : List Pl) (J' : Jn) (r : Tk) (w w' : World) (e : Ending) : Prop where
  e : e = .returned (.tuple #[.agg (toldC r), .bool r.whole, .int .i64 r.e])
  r : ∃ vS' vN' T', JnA B w' j vS' vN' T' J' ∧ Kp (JS j vS vN T) w w' ∧ ∀ i, JS j vS' vN' T' i → JS j vS vN T i ∨ w.heap.size ≤ i
theorem size_told : (Tryd.prog.info? 36).map (·.size) = some 2 := by kernel_rfl
theorem one_ztold : zTold.all (·.oneCell') = true := by
  refine all_oneCell_toArray (cs := [.string ⟨#[]⟩, .string ⟨#[]⟩]) fun u hu => ?_
  simp only [List.mem_cons, List.not_mem_nil, or_false] at hu
  rcases hu with rfl | rfl <;> rfl
theorem one_told2 (a b : ByteArray) : (#[.string a, .string b] : Array Value).all (·.oneCell') = true := by
  refine all_oneCell_toArray (cs := [.string a, .string b]) fun u hu => ?_
  simp only [List.mem_cons, List.not_mem_nil, or_false] at hu
  rcases hu with rfl | rfl <;> rfl
theorem five (cs : Array Value) (h : cs.size = 5) : ∃ a b c d e, cs = #[a, b, c, d, e] := by
  rcases cs with ⟨l⟩
  match l, h with
  | [a, b, c, d, e], _ => exact ⟨a, b, c, d, e, rfl⟩
theorem Kp.row {S : Nat → Prop} {w w' : World} (h : Kp S w w') {g : Nat} (hg : w.heap.size ≤ g) (cs : Array Value) : Kp S w (w'.setRow g cs) :=
  ⟨h.os, h.tape, h.output, by simpa using h.size, fun i hi hn => (heap_setRow_other w' g cs i (by omega)).trans (h.block i hi hn)⟩
theorem Kp.drewR {S : Nat → Prop} {w w' : World} (h : Kp S w w') : Kp S w w'.drew := ⟨h.os, h.tape, h.output, h.size, h.block⟩
theorem Kp.rowAt {S : Nat → Prop} {w : World} {g : Nat} (hg : S g) (cs : Array Value) : Kp S w (w.setRow g cs) :=
  ⟨rfl, rfl, rfl, by simp, fun i hi hn => heap_setRow_other w g cs i (fun e => hn (e ▸ hg))⟩
theorem JnA.kp {B : Nat} {w w' : World} {j : Nat} {vS vN : Value} {T : List Pl} {J : Jn} {S : Nat → Prop} (h : JnA B w j vS vN T J) (k : Kp S w w') (hn : ∀ i, JS j vS vN T i → ¬ S i) : JnA B w' j vS vN T J :=
  ⟨h.hj.kp k (hn _ (.inl rfl)), h.bj, h.s.kp k (fun b hb => hn _ (.inr (.inl hb))), h.n.kp k (fun b hb => hn _ (.inr (.inr (.inl hb)))), h.len, fun i t m h1 h2 => (h.ms i t m h1 h2).kp k (hn _ (.inr (.inr (.inr ⟨t, List.mem_of_getElem? h1, .inl rfl⟩)))) (hn _ (.inr (.inr (.inr ⟨t, List.mem_of_getElem? h1, .inr (.inl rfl)⟩)))) (hn _ (.inr (.inr (.inr ⟨t, List.mem_of_getElem? h1, .inr (.inr rfl)⟩)))), h.dx, h.dp, h.dc, h.np, h.bd⟩
theorem JnA.notIn {B : Nat} {w : World} {j : Nat} {vS vN : Value} {T : List Pl} {J : Jn} {g : Nat} {u : TypeId} {cs : Array Value} (h : JnA B w j vS vN T J) (hg : Blk w g u cs) (hu : u ∉ [63, 70, 9, 72, 4]) : ¬ JS j vS vN T g := by
  rintro (rfl | e | e | ⟨t, ht, e⟩)
  · exact hu (by rw [(hg.ty h.hj).1]; decide)
  · obtain ⟨_, cs, h2⟩ := h.s.typed _ e; exact hu (by rw [(hg.ty h2).1]; decide)
  · obtain ⟨_, cs, h2⟩ := h.n.typed _ e; exact hu (by rw [(hg.ty h2).1]; decide)
  · obtain ⟨m, hm⟩ := h.mem ht
    rcases e with rfl | rfl | rfl
    · exact hu (by rw [(hg.ty hm.x).1]; decide)
    · exact hu (by rw [(hg.ty hm.p).1]; decide)
    · exact hu (by rw [(hg.ty hm.c).1]; decide)
theorem ptOf_id (s : List UInt8) : (ptOf s).id.length ≤ 140737488355328 := by
  show (s.take 8).length ≤ _
  rw [List.length_take]; omega
theorem okP_text (s : List UInt8) (h : okP s = true) : (ptOf s).text.length ≤ 200 := by
  unfold okP at h
  simp only [Bool.and_eq_true, decide_eq_true_eq] at h
  have h3 := h.2.2
  have : highP (ptOf s) ≤ 200 := by unfold highP; split <;> omega
  show (s.drop 16).length ≤ 200
  omega
theorem beq_dec (a b : List UInt8) : (a == b) = decide (a = b) := by
  by_cases h : a = b
  · rw [decide_eq_true h]; exact beq_iff_eq.mpr h
  · rw [decide_eq_false h]; exact beq_eq_false_iff_ne.mpr h
theorem join_flat (l : List (List UInt8)) : Lib.join ((l.map fun s => (⟨s.toArray⟩ : ByteArray)).map (·.data.toList)) (⟨#[]⟩ : ByteArray).data.toList = l.flatten := by
  have e : (l.map fun s => (⟨s.toArray⟩ : ByteArray)).map (·.data.toList) = l := by
    rw [List.map_map]
    exact (List.map_congr_left (fun s _ => rfl)).trans (List.map_id l)
  rw [e]
  cases l with
  | nil => rfl
  | cons x r => rw [Lib.join_cons]; simp [Lib.joinTail]
theorem flatten_le : ∀ l : List (List UInt8), (∀ s ∈ l, s.length ≤ 200) → l.flatten.length ≤ 200 * l.length
  | [], _ => by simp
  | x :: r, h => by
    have h1 := h x (List.mem_cons_self ..)
    have h2 := flatten_le r (fun s hs => h s (List.mem_cons_of_mem _ hs))
    simp only [List.flatten_cons, List.length_append, List.length_cons]
    omega
theorem joined {B : Nat} {w : World} {t : Pl} {m : Ms} (h : MsA B w t m) : Calls Tryd.prog 27 #[.slice (some ⟨t.p, 0, none⟩) m.pcs.length m.pcs.length, .string ⟨#[]⟩] w fun e w' => e = .returned (.string ⟨m.pcs.flatten.toArray⟩) ∧ Below w.heap.size w w' := by
  have hlen := flatten_le m.pcs h.sz
  have hn := h.n
  have := Tryd.strings_Join t.p 0 m.pcs.length (m.pcs.map fun s => (⟨s.toArray⟩ : ByteArray)) ⟨#[]⟩ w (fun j x hx => by
    rw [Nat.zero_add, h.p.cell j]
    rw [List.getElem?_map] at hx
    cases hs : m.pcs[j]? with
    | none => rw [hs] at hx; cases hx
    | some y => rw [hs] at hx; cases hx; simp [cstr, hs]) h.p.lt (by rw [List.length_map]; omega) (by rw [List.length_map]; exact Nat.le_refl _) (by rw [join_flat]; omega)
  rw [join_flat, List.length_map] at this
  exact this
theorem KsAt.belowB {B : Nat} {w w' : World} (h : KsAt w) (hg : 1 < B) (hb : Below B w w') : KsAt w' := fun i hi => (hb.cell (p := ⟨1, i, none⟩) hg).trans (h i hi)
end Go.Proofs.YtlogcgeinbefjaaDoor
namespace Go.Proofs.YtlogcgeinbefjaaDoor
open Go.RowKit Go.Proofs.YtlogcgeinbefjaaDoorW.PrintWords Go.Proofs.YtlogcgeinbefjaaDoorW.PrintLast
set_option linter.unusedSimpArgs false
set_option linter.unusedVariables false
set_option maxRecDepth 20000
def tk4.T : Bool × List (List Nat × List Nat) := (true, [([], []), ([0], [0]), ([1], [1]), ([2], [2]), ([3], [3]), ([], []), ([5], [5]), ([4, 6], [4, 6])])
def tk4.B : List Nat := [0, 1, 3, 7, 15, 0, 32, 127]
theorem tk4.tab : rtab .any (opsOf Tryd.f15 4) = tk4.T := by kernel_rfl
theorem tk4.bits : waitsOk tk4.T.2 tk4.B = true := by kernel_rfl
def tk8.T : Bool × List (List Nat × List Nat) := (true, [([], []), ([0], [0]), ([1], [1]), ([], []), ([3], [3]), ([], []), ([5], [5]), ([], []), ([7], [7]), ([8, 8], [8]), ([], []), ([10], [10]), ([11, 11], [11]), ([], []), ([13], [13]), ([4, 6, 9, 12, 14], [4, 6, 9, 12, 14]), ([15], [15]), ([2, 16], [2, 16])])
def tk8.B : List Nat := [0, 1, 3, 0, 8, 0, 32, 0, 128, 384, 0, 1024, 3072, 0, 8192, 32760, 65528, 131071]
theorem tk8.tab : rtab .any (opsOf Tryd.f15 8) = tk8.T := by kernel_rfl
theorem tk8.bits : waitsOk tk8.T.2 tk8.B = true := by kernel_rfl
def tk11.T : Bool × List (List Nat × List Nat) := (true, [([], []), ([0], [0]), ([1], [1]), ([2], [2]), ([], []), ([4], [4]), ([3, 5], [3, 5]), ([6], [6]), ([7], [7]), ([8, 7], [7, 8]), ([9, 7], [7, 9]), ([10, 7], [7, 10]), ([11, 7], [7, 11]), ([7], [7]), ([13, 7], [7, 13]), ([12, 14, 7], [7, 12, 14]), ([7, 15], [7, 15]), ([16, 7], [16])])
def tk11.B : List Nat := [0, 1, 3, 7, 0, 16, 63, 127, 255, 511, 1023, 2047, 4095, 255, 8447, 32767, 65535, 131071]
theorem tk11.tab : rtab .any (opsOf Tryd.f15 11) = tk11.T := by kernel_rfl
theorem tk11.bits : waitsOk tk11.T.2 tk11.B = true := by kernel_rfl
def tk13.T : Bool × List (List Nat × List Nat) := (true, [([], []), ([0], [0]), ([1], [1]), ([2], [2]), ([], []), ([4], [4]), ([3, 5], [3, 5]), ([6], [6]), ([7], [7])])
def tk13.B : List Nat := [0, 1, 3, 7, 0, 16, 63, 127, 255]
theorem tk13.tab : rtab .any (opsOf Tryd.f15 13) = tk13.T := by kernel_rfl
theorem tk13.bits : waitsOk tk13.T.2 tk13.B = true := by kernel_rfl
def tk15.T : Bool × List (List Nat × List Nat) := (true, [([], []), ([0], [0]), ([1], [1]), ([2], [2]), ([], []), ([4], [4]), ([], []), ([6], [6]), ([7], [7]), ([8], [8]), ([], []), ([10], [10]), ([], []), ([12], [12]), ([3, 5, 0, 1, 2, 3, 4, 5, 9, 12, 13], [3, 5]), ([14, 13, 0, 1, 2, 3, 4, 5, 9, 12, 13], [13, 14]), ([9, 11, 0, 1, 2, 3, 4, 5, 6, 7, 8, 9, 10, 11, 12, 13, 14, 15], [9, 11]), ([16, 15, 0, 1, 2, 3, 4, 5, 6, 7, 8, 9, 10, 11, 12, 13, 14, 15], [16])])
def tk15.B : List Nat := [0, 1, 3, 7, 0, 16, 0, 64, 192, 448, 0, 1024, 0, 4096, 13311, 29695, 65535, 131071]
theorem tk15.tab : rtab .any (opsOf Tryd.f15 15) = tk15.T := by kernel_rfl
theorem tk15.bits : waitsOk tk15.T.2 tk15.B = true := by kernel_rfl
def tk21.T : Bool × List (List Nat × List Nat) := (true, [([], []), ([0], [0]), ([], []), ([1, 2], [1, 2]), ([], []), ([4], [4]), ([3, 5], [3, 5])])
def tk21.B : List Nat := [0, 1, 0, 7, 0, 16, 63]
theorem tk21.tab : rtab .any (opsOf Tryd.f15 21) = tk21.T := by kernel_rfl
theorem tk21.bits : waitsOk tk21.T.2 tk21.B = true := by kernel_rfl
def tk23.T : Bool × List (List Nat × List Nat) := (true, [([], []), ([0], [0]), ([1], [1]), ([], []), ([3], [3]), ([2, 4], [2, 4])])
def tk23.B : List Nat := [0, 1, 3, 0, 8, 31]
theorem tk23.tab : rtab .any (opsOf Tryd.f15 23) = tk23.T := by kernel_rfl
theorem tk23.bits : waitsOk tk23.T.2 tk23.B = true := by kernel_rfl
set_option maxHeartbeats 1600000 in
theorem take_none (B j : Nat) (vS vN : Value) (T : List Pl) (J : Jn) (s : List UInt8) (w : World) (h : JnA B w j vS vN T J) (hs : s.length ≤ 140737488355328) (ho : okP s = false) :
    Calls Tryd.prog 15 #[.pointer (some ⟨j, 0, none⟩), .string ⟨s.toArray⟩] w fun e w' => TkOut B j vS vN T (takeF J s).1 (takeF J s).2 w w' e := by
  have HTF := Lib.hid (show takeF J s = (J, noTk 220) by unfold takeF; rw [ho]; rfl)
  have HR := Lib.hid (fun W => read_any s W hs)
  have HO := Lib.hid ho
  obtain ⟨sb, SB⟩ : ∃ t : ByteArray, Hid (⟨s.toArray⟩ = t) := ⟨_, Lib.hid rfl⟩
  rw [SB.out] at HR ⊢
  have HJ := Lib.hid h
  clear h hs ho
  go_enter Tryd.func15, Tryd.ntmps15
  go_upto_region 1 with fail
  obtain ⟨gt, hgt⟩ : ∃ g, Hid (w.heap.size = g) := ⟨_, Lib.hid rfl⟩
  refine gworld (fun W => Hid (Blk W gt 36 zTold) ∧ Hid (Below w.heap.size w W)) ⟨Lib.hid (by rw [← hgt.out]; exact Blk.new _ _ _), Lib.hid ((Below.refl _ _).alloc (Nat.le_refl _) _)⟩ ?_
  rintro w0 ⟨M0, B0⟩
  rw [hgt.out]
  go_wp2_with fail
  refine (HR.out w0).mono ?_
  rintro e w1 ⟨b1, cs, hcs, hone, rfl, hcp⟩
  obtain ⟨x0, x1, x2, x3, x4, rfl⟩ := five cs hcs
  clear hcp
  have HONE := Lib.hid hone
  have B1 := Lib.hid (B0.out.trans (b1.mono B0.out.size))
  have M1 := Lib.hid (M0.out.below b1 M0.out.lt)
  rw [HO.out]
  clear hcs hone b1
  go_upto_region 2 with (first
    | ((with_reducible refine gate_store (t := 65) (p := 7) (v := .tmp 15) rfl ?_); refine wpList_store_row rfl 65 (.tmp 7) (.tmp 15) rfl w1.heap.size #[x0, x1, x2, x3, x4] rfl rfl 65 zPt (Blk.new w1 65 zPt) size_part rfl HONE.out ?_))
  obtain ⟨gp, hgp⟩ : ∃ g, Hid (w1.heap.size = g) := ⟨_, Lib.hid rfl⟩
  refine gworld (fun W => Hid (Blk W gt 36 zTold) ∧ Hid (Blk W gp 65 #[x0, x1, x2, x3, x4]) ∧ Hid (Below w.heap.size w W)) ⟨Lib.hid ((M1.out.alloc (.cells zPt 65)).grown (row := some w1.heap.size) (only_setRow (only_refl _ _) _) (by have := M1.out.lt; intro h; cases h; omega)), Lib.hid (by rw [← hgp.out]; exact (Blk.new w1 65 zPt).setRow _), Lib.hid (below_of_only (B1.out.alloc B1.out.size _) (only_setRow (only_refl _ _) _) B1.out.size (by simp; exact Nat.le_succ_of_le B1.out.size))⟩ ?_
  rintro w2 ⟨M2, P2, B2⟩
  rw [hgp.out]
  have SG := Lib.hid (show w.heap.size ≤ gt ∧ w.heap.size ≤ gp from ⟨by rw [← hgt.out]; exact Nat.le_refl _, by rw [← hgp.out]; exact B1.out.size⟩)
  clear M1 B1 M0 B0 HONE
  go_wp2_with (first
    | ((with_reducible refine gate_store (t := 36) (p := 4) (v := .tmp 19) rfl ?_); refine wpList_store_row rfl 36 (.tmp 4) (.tmp 19) rfl gt zTold rfl rfl 36 zTold M2.out size_told rfl one_ztold ?_))
  have MF := Lib.hid (M2.out.setRow zTold)
  refine bodyPost_ret (results_ctt rfl _ _ gt 36 _ (0, 0) _ rfl MF.out Tryd.underlying36 rfl rfl) rfl ?_
  rw [HTF.out]
  have BF := below_of_only B2.out (only_setRow (only_refl _ _) zTold) SG.out.1 B2.out.size
  exact ⟨rfl, vS, vN, T, HJ.out.below BF, Kp.of_below BF, fun i h => .inl h⟩
set_option maxHeartbeats 1600000 in
theorem take_there (B j : Nat) (vS vN : Value) (T : List Pl) (J : Jn) (s : List UInt8) (w : World) (h : JnA B w j vS vN T J) (hs : s.length ≤ 140737488355328) (ho : okP s = true) (hd : J.done.any (fun x => x == (ptOf s).id) = true) :
    Calls Tryd.prog 15 #[.pointer (some ⟨j, 0, none⟩), .string ⟨s.toArray⟩] w fun e w' => TkOut B j vS vN T (takeF J s).1 (takeF J s).2 w w' e := by
  have HTF := Lib.hid (show takeF J s = (J, noTk 6) by unfold takeF; rw [ho, hd]; rfl)
  have hp0 := hd
  have HR := Lib.hid (fun W => read_any s W hs)
  have HO := Lib.hid ho
  obtain ⟨sb, SB⟩ : ∃ t : ByteArray, Hid (⟨s.toArray⟩ = t) := ⟨_, Lib.hid rfl⟩
  rw [SB.out] at HR ⊢
  have HJ := Lib.hid h
  obtain ⟨p, hp⟩ : ∃ p, Hid (ptOf s = p) := ⟨_, Lib.hid rfl⟩
  rw [hp.out] at hp0
  obtain ⟨ib, IB⟩ : ∃ t : ByteArray, Hid (⟨p.id.toArray⟩ = t) := ⟨_, Lib.hid rfl⟩
  obtain ⟨sm, SM⟩ : ∃ t : ByteArray, Hid (⟨p.sum.toArray⟩ = t) := ⟨_, Lib.hid rfl⟩
  obtain ⟨tb, TB⟩ : ∃ t : ByteArray, Hid (⟨p.text.toArray⟩ = t) := ⟨_, Lib.hid rfl⟩
  obtain ⟨A, hA⟩ : ∃ n, Hid (p.at_ = n) := ⟨_, Lib.hid rfl⟩
  obtain ⟨N, hN⟩ : ∃ n, Hid (p.many = n) := ⟨_, Lib.hid rfl⟩
  have HPC := Lib.hid (show ptC p = #[.string ib, .string sm, .string tb, .int .i64 (A : Nat), .int .i64 (N : Nat)] by unfold ptC; rw [IB.out, SM.out, TB.out, hA.out, hN.out])
  have HCON : Hid (∀ W, Win 9 W B vN (cstr J.done) → Calls Tryd.prog 22 #[vN, .string ib] W fun e w' => e = .returned (.bool true) ∧ w' = W) := Lib.hid (fun W hW => by
    have := containsT_any B vN J.done p.id W hW (by have := h.bd; omega)
    rw [IB.out, hp0] at this; exact this)
  clear h hs ho hd hp0
  go_enter Tryd.func15, Tryd.ntmps15
  go_upto_region 1 with fail
  obtain ⟨gt, hgt⟩ : ∃ g, Hid (w.heap.size = g) := ⟨_, Lib.hid rfl⟩
  refine gworld (fun W => Hid (Blk W gt 36 zTold) ∧ Hid (Below w.heap.size w W)) ⟨Lib.hid (by rw [← hgt.out]; exact Blk.new _ _ _), Lib.hid ((Below.refl _ _).alloc (Nat.le_refl _) _)⟩ ?_
  rintro w0 ⟨M0, B0⟩
  rw [hgt.out]
  go_wp2_with fail
  refine (HR.out w0).mono ?_
  rintro e w1 ⟨b1, cs, hcs, hone, rfl, hcp⟩
  have hcp2 := hcp HO.out
  rw [hp.out, HPC.out] at hcp2
  subst hcp2
  clear hcp
  have HONE := Lib.hid hone
  have B1 := Lib.hid (B0.out.trans (b1.mono B0.out.size))
  have M1 := Lib.hid (M0.out.below b1 M0.out.lt)
  rw [HO.out]
  clear hcs hone b1
  go_upto_region 2 with (first
    | ((with_reducible refine gate_store (t := 65) (p := 7) (v := .tmp 15) rfl ?_); refine wpList_store_row rfl 65 (.tmp 7) (.tmp 15) rfl w1.heap.size #[.string ib, .string sm, .string tb, .int .i64 (A : Nat), .int .i64 (N : Nat)] rfl rfl 65 zPt (Blk.new w1 65 zPt) size_part rfl HONE.out ?_))
  obtain ⟨gp, hgp⟩ : ∃ g, Hid (w1.heap.size = g) := ⟨_, Lib.hid rfl⟩
  refine gworld (fun W => Hid (Blk W gt 36 zTold) ∧ Hid (Blk W gp 65 #[.string ib, .string sm, .string tb, .int .i64 (A : Nat), .int .i64 (N : Nat)]) ∧ Hid (Below w.heap.size w W)) ⟨Lib.hid ((M1.out.alloc (.cells zPt 65)).grown (row := some w1.heap.size) (only_setRow (only_refl _ _) _) (by have := M1.out.lt; intro h; cases h; omega)), Lib.hid (by rw [← hgp.out]; exact (Blk.new w1 65 zPt).setRow _), Lib.hid (below_of_only (B1.out.alloc B1.out.size _) (only_setRow (only_refl _ _) _) B1.out.size (by simp; exact Nat.le_succ_of_le B1.out.size))⟩ ?_
  rintro w2 ⟨M2, P2, B2⟩
  rw [hgp.out]
  have SG := Lib.hid (show w.heap.size ≤ gt ∧ w.heap.size ≤ gp from ⟨by rw [← hgt.out]; exact Nat.le_refl _, by rw [← hgp.out]; exact B1.out.size⟩)
  clear M1 B1 M0 B0 HONE
  have J2 := Lib.hid (HJ.out.below B2.out)
  have n3 : w2.drew.cell? ⟨j, 3, none⟩ = some vN := J2.out.hj.cell 3
  have p0 : w2.drew.cell? ⟨gp, 0, none⟩ = some (.string ib) := P2.out.cell 0
  go_upto_region 4 with fail
  refine start_ (n := 8) (S := fun w' => w'.cell? ⟨j, 3, none⟩ = some vN ∧ w'.cell? ⟨gp, 0, none⟩ = some (.string ib)) (ds := []) #[false, false, false, false, false, false, false, false] (by kernel_rfl) rfl rfl ⟨n3, p0⟩ (fun hHeld => ?_)
  refine with_tabW tk4.tab tk4.bits (fun HT_ HW_ => ?_)
  refine pure_ (i := 0) (N := some 20) (v := ?_) (a' := ?_) #[true, false, false, false, false, false, false, false] rfl rfl (any_of HT_.out (by kernel_rfl)) (fun _ _ _ h => h) (Or.inl ⟨by rfl, ?_⟩) ?_ ?_
  rotate_left
  · intro w'
    go_simp
    try with_reducible rfl
  rotate_left
  · simp only [Act.put, List.setIfInBounds_toArray, List.set_cons_zero, List.set_cons_succ]
    rfl
  refine pure_ (i := 1) (N := some 21) (v := ?_) (a' := ?_) #[true, true, false, false, false, false, false, false] rfl rfl (any_of HT_.out (by kernel_rfl)) (fun _ _ _ h => h) (Or.inl ⟨by rfl, ?_⟩) ?_ ?_
  rotate_left
  · intro w'
    go_simp
    try with_reducible rfl
  rotate_left
  · simp only [Act.put, List.setIfInBounds_toArray, List.set_cons_zero, List.set_cons_succ]
    rfl
  refine pure_ (i := 2) (N := some 22) (v := ?_) (a' := ?_) #[true, true, true, false, false, false, false, false] rfl rfl (any_of HT_.out (by kernel_rfl)) (fun _ _ _ h => h) (Or.inl ⟨by rfl, ?_⟩) ?_ ?_
  rotate_left
  · intro w'
    go_simp
    try with_reducible rfl
  rotate_left
  · simp only [Act.put, List.setIfInBounds_toArray, List.set_cons_zero, List.set_cons_succ]
    rfl
  refine pure_ (i := 3) (N := some 23) (v := ?_) (a' := ?_) #[true, true, true, true, false, false, false, false] rfl rfl (any_of HT_.out (by kernel_rfl)) (fun _ _ _ h => h) (Or.inl ⟨by rfl, ?_⟩) ?_ ?_
  rotate_left
  · intro w'
    go_simp
    try with_reducible rfl
  rotate_left
  · simp only [Act.put, List.setIfInBounds_toArray, List.set_cons_zero, List.set_cons_succ]
    rfl
  refine pure_ (i := 5) (N := some 25) (v := ?_) (a' := ?_) #[true, true, true, true, false, true, false, false] rfl rfl (any_of HT_.out (by kernel_rfl)) (fun _ _ _ h => h) (Or.inl ⟨by rfl, ?_⟩) ?_ ?_
  rotate_left
  · intro w'
    go_simp
    try with_reducible rfl
  rotate_left
  · simp only [Act.put, List.setIfInBounds_toArray, List.set_cons_zero, List.set_cons_succ]
    rfl
  refine take_ (i := 4) (N := some 24) (v := ?_) (a' := ?_) #[true, true, true, true, true, true, false, false] rfl rfl (take_ofW HT_.out HW_.out (by kernel_rfl)) (fun _ _ _ h => h) (Or.inl ⟨by rfl, ?_⟩) hHeld ?_ ?_
  rotate_left
  · rintro w' ⟨s0, s1⟩
    go_simp
    try with_reducible rfl
  rotate_left
  · simp only [Act.put, List.setIfInBounds_toArray, List.set_cons_zero, List.set_cons_succ]
    rfl
  refine take_ (i := 6) (N := some 26) (v := ?_) (a' := ?_) #[true, true, true, true, true, true, true, false] rfl rfl (take_ofW HT_.out HW_.out (by kernel_rfl)) (fun _ _ _ h => h) (Or.inl ⟨by rfl, ?_⟩) hHeld ?_ ?_
  rotate_left
  · rintro w' ⟨s0, s1⟩
    go_simp
    try with_reducible rfl
  rotate_left
  · simp only [Act.put, List.setIfInBounds_toArray, List.set_cons_zero, List.set_cons_succ]
    rfl
  refine one_ (i := 7) (N := some 27) #[true, true, true, true, true, true, true, true] rfl rfl (one_of HT_.out (by kernel_rfl)) (by decide) (fun K hK => ?_)
  refine goes_ Tryd.func22 (by kernel_rfl) rfl #[vN, .string ib] (by rfl) rfl rfl (by first | done | rfl | (simp only [List.map_toArray, List.map_cons, List.map_nil]; done) | (simp only [List.map_toArray, List.map_cons, List.map_nil]; rfl)) ?_
  refine (HCON.out w2.drew (J2.out.n.below (below_drewN (Below.refl _ _) 1))).mono ?_
  rintro e' w4 ⟨rfl, rfl⟩
  refine ⟨_, rfl, ?_⟩
  refine hK.out _ _ (⟨n3, p0⟩) (fun hHeld => ?_)
  clear hK K
  refine norm_ (a' := ?_) ?_ ?_
  rotate_left
  · show Act.put _ (some 27) _ = _
    simp only [Act.put, List.setIfInBounds_toArray, List.set_cons_zero, List.set_cons_succ]
    rfl
  refine done_ (done_of HT_.out (by kernel_rfl)) ?_
  clear HT_ HW_
  have M3 := Lib.hid M2.out.drew
  have B3 := Lib.hid (show Below w.heap.size w w2.drew from below_drewN B2.out 1)
  go_wp2_with (first
    | ((with_reducible refine gate_store (t := 36) (p := 4) (v := .tmp 28) rfl ?_); refine wpList_store_row rfl 36 (.tmp 4) (.tmp 28) rfl gt zTold rfl rfl 36 zTold M3.out size_told rfl one_ztold ?_))
  have MF := Lib.hid (M3.out.setRow zTold)
  refine bodyPost_ret (results_ctt rfl _ _ gt 36 _ (0, 0) _ rfl MF.out Tryd.underlying36 rfl rfl) rfl ?_
  rw [HTF.out]
  have BF := below_of_only B3.out (only_setRow (only_refl _ _) zTold) SG.out.1 B3.out.size
  exact ⟨rfl, vS, vN, T, HJ.out.below BF, Kp.of_below BF, fun i h => .inl h⟩
set_option maxHeartbeats 1600000 in
theorem take_old_sum (B j : Nat) (vS vN : Value) (T : List Pl) (J : Jn) (s : List UInt8) (w : World) (h : JnA B w j vS vN T J) (hs : s.length ≤ 140737488355328) (ho : okP s = true) (hd : J.done.any (fun x => x == (ptOf s).id) = false) (i : Nat) (hi : i < J.some.length) (hF : fstI (fun m : Ms => m.id == (ptOf s).id) J.some = (i : Nat)) (hsum : ∀ m, J.some[i]? = some m → m.sum ≠ (ptOf s).sum) :
    Calls Tryd.prog 15 #[.pointer (some ⟨j, 0, none⟩), .string ⟨s.toArray⟩] w fun e w' => TkOut B j vS vN T (takeF J s).1 (takeF J s).2 w w' e := by
  have HTF := Lib.hid (show takeF J s = (J, noTk 220) by
    unfold takeF
    rw [ho, hd, hF]
    simp only [Int.toNat_natCast, List.getElem?_eq_getElem hi]
    rw [if_pos trivial, if_neg (by simp), if_neg (by omega)]
    unfold oldIn
    rw [if_neg (fun h => hsum _ (List.getElem?_eq_getElem hi) h.1)])
  have hp0 := hd
  have hF0 := hF
  have HR := Lib.hid (fun W => read_any s W hs)
  have HO := Lib.hid ho
  obtain ⟨sb, SB⟩ : ∃ t : ByteArray, Hid (⟨s.toArray⟩ = t) := ⟨_, Lib.hid rfl⟩
  rw [SB.out] at HR ⊢
  have HJ := Lib.hid h
  obtain ⟨p, hp⟩ : ∃ p, Hid (ptOf s = p) := ⟨_, Lib.hid rfl⟩
  rw [hp.out] at hp0
  obtain ⟨ib, IB⟩ : ∃ t : ByteArray, Hid (⟨p.id.toArray⟩ = t) := ⟨_, Lib.hid rfl⟩
  obtain ⟨sm, SM⟩ : ∃ t : ByteArray, Hid (⟨p.sum.toArray⟩ = t) := ⟨_, Lib.hid rfl⟩
  obtain ⟨tb, TB⟩ : ∃ t : ByteArray, Hid (⟨p.text.toArray⟩ = t) := ⟨_, Lib.hid rfl⟩
  obtain ⟨A, hA⟩ : ∃ n, Hid (p.at_ = n) := ⟨_, Lib.hid rfl⟩
  obtain ⟨N, hN⟩ : ∃ n, Hid (p.many = n) := ⟨_, Lib.hid rfl⟩
  have HPC := Lib.hid (show ptC p = #[.string ib, .string sm, .string tb, .int .i64 (A : Nat), .int .i64 (N : Nat)] by unfold ptC; rw [IB.out, SM.out, TB.out, hA.out, hN.out])
  have HCON : Hid (∀ W, Win 9 W B vN (cstr J.done) → Calls Tryd.prog 22 #[vN, .string ib] W fun e w' => e = .returned (.bool false) ∧ w' = W) := Lib.hid (fun W hW => by
    have := containsT_any B vN J.done p.id W hW (by have := h.bd; omega)
    rw [IB.out, hp0] at this; exact this)
  have HIX : Hid (∀ (W : World) (g : Nat), JnA B W j vS vN T J → Blk W g 65 #[.string ib, .string sm, .string tb, .int .i64 (A : Nat), .int .i64 (N : Nat)] → Calls Tryd.prog 23 #[vS, .func (Fn.func 24) #[] #[.pointer (some ⟨g, 0, none⟩)]] W fun e w' => e = .returned (.int .i64 (i : Nat)) ∧ Below W.heap.size W w') := Lib.hid (fun W g hW hg => by
    have := indexM_any B j vS vN T J g p.id _ W hW hg (by rw [← IB.out]; rfl)
    rw [← hp.out, hF] at this; exact this)
  rw [hp.out] at hsum
  have HI := Lib.hid hi
  clear h hs ho hd hp0 hF hF0 hi
  go_enter Tryd.func15, Tryd.ntmps15
  go_upto_region 1 with fail
  obtain ⟨gt, hgt⟩ : ∃ g, Hid (w.heap.size = g) := ⟨_, Lib.hid rfl⟩
  refine gworld (fun W => Hid (Blk W gt 36 zTold) ∧ Hid (Below w.heap.size w W)) ⟨Lib.hid (by rw [← hgt.out]; exact Blk.new _ _ _), Lib.hid ((Below.refl _ _).alloc (Nat.le_refl _) _)⟩ ?_
  rintro w0 ⟨M0, B0⟩
  rw [hgt.out]
  go_wp2_with fail
  refine (HR.out w0).mono ?_
  rintro e w1 ⟨b1, cs, hcs, hone, rfl, hcp⟩
  have hcp2 := hcp HO.out
  rw [hp.out, HPC.out] at hcp2
  subst hcp2
  clear hcp
  have HONE := Lib.hid hone
  have B1 := Lib.hid (B0.out.trans (b1.mono B0.out.size))
  have M1 := Lib.hid (M0.out.below b1 M0.out.lt)
  rw [HO.out]
  clear hcs hone b1
  go_upto_region 2 with (first
    | ((with_reducible refine gate_store (t := 65) (p := 7) (v := .tmp 15) rfl ?_); refine wpList_store_row rfl 65 (.tmp 7) (.tmp 15) rfl w1.heap.size #[.string ib, .string sm, .string tb, .int .i64 (A : Nat), .int .i64 (N : Nat)] rfl rfl 65 zPt (Blk.new w1 65 zPt) size_part rfl HONE.out ?_))
  obtain ⟨gp, hgp⟩ : ∃ g, Hid (w1.heap.size = g) := ⟨_, Lib.hid rfl⟩
  refine gworld (fun W => Hid (Blk W gt 36 zTold) ∧ Hid (Blk W gp 65 #[.string ib, .string sm, .string tb, .int .i64 (A : Nat), .int .i64 (N : Nat)]) ∧ Hid (Below w.heap.size w W)) ⟨Lib.hid ((M1.out.alloc (.cells zPt 65)).grown (row := some w1.heap.size) (only_setRow (only_refl _ _) _) (by have := M1.out.lt; intro h; cases h; omega)), Lib.hid (by rw [← hgp.out]; exact (Blk.new w1 65 zPt).setRow _), Lib.hid (below_of_only (B1.out.alloc B1.out.size _) (only_setRow (only_refl _ _) _) B1.out.size (by simp; exact Nat.le_succ_of_le B1.out.size))⟩ ?_
  rintro w2 ⟨M2, P2, B2⟩
  rw [hgp.out]
  have SG := Lib.hid (show w.heap.size ≤ gt ∧ w.heap.size ≤ gp from ⟨by rw [← hgt.out]; exact Nat.le_refl _, by rw [← hgp.out]; exact B1.out.size⟩)
  clear M1 B1 M0 B0 HONE
  have J2 := Lib.hid (HJ.out.below B2.out)
  have n3 : w2.drew.cell? ⟨j, 3, none⟩ = some vN := J2.out.hj.cell 3
  have p0 : w2.drew.cell? ⟨gp, 0, none⟩ = some (.string ib) := P2.out.cell 0
  go_upto_region 4 with fail
  refine start_ (n := 8) (S := fun w' => w'.cell? ⟨j, 3, none⟩ = some vN ∧ w'.cell? ⟨gp, 0, none⟩ = some (.string ib)) (ds := []) #[false, false, false, false, false, false, false, false] (by kernel_rfl) rfl rfl ⟨n3, p0⟩ (fun hHeld => ?_)
  refine with_tabW tk4.tab tk4.bits (fun HT_ HW_ => ?_)
  refine pure_ (i := 0) (N := some 20) (v := ?_) (a' := ?_) #[true, false, false, false, false, false, false, false] rfl rfl (any_of HT_.out (by kernel_rfl)) (fun _ _ _ h => h) (Or.inl ⟨by rfl, ?_⟩) ?_ ?_
  rotate_left
  · intro w'
    go_simp
    try with_reducible rfl
  rotate_left
  · simp only [Act.put, List.setIfInBounds_toArray, List.set_cons_zero, List.set_cons_succ]
    rfl
  refine pure_ (i := 1) (N := some 21) (v := ?_) (a' := ?_) #[true, true, false, false, false, false, false, false] rfl rfl (any_of HT_.out (by kernel_rfl)) (fun _ _ _ h => h) (Or.inl ⟨by rfl, ?_⟩) ?_ ?_
  rotate_left
  · intro w'
    go_simp
    try with_reducible rfl
  rotate_left
  · simp only [Act.put, List.setIfInBounds_toArray, List.set_cons_zero, List.set_cons_succ]
    rfl
  refine pure_ (i := 2) (N := some 22) (v := ?_) (a' := ?_) #[true, true, true, false, false, false, false, false] rfl rfl (any_of HT_.out (by kernel_rfl)) (fun _ _ _ h => h) (Or.inl ⟨by rfl, ?_⟩) ?_ ?_
  rotate_left
  · intro w'
    go_simp
    try with_reducible rfl
  rotate_left
  · simp only [Act.put, List.setIfInBounds_toArray, List.set_cons_zero, List.set_cons_succ]
    rfl
  refine pure_ (i := 3) (N := some 23) (v := ?_) (a' := ?_) #[true, true, true, true, false, false, false, false] rfl rfl (any_of HT_.out (by kernel_rfl)) (fun _ _ _ h => h) (Or.inl ⟨by rfl, ?_⟩) ?_ ?_
  rotate_left
  · intro w'
    go_simp
    try with_reducible rfl
  rotate_left
  · simp only [Act.put, List.setIfInBounds_toArray, List.set_cons_zero, List.set_cons_succ]
    rfl
  refine pure_ (i := 5) (N := some 25) (v := ?_) (a' := ?_) #[true, true, true, true, false, true, false, false] rfl rfl (any_of HT_.out (by kernel_rfl)) (fun _ _ _ h => h) (Or.inl ⟨by rfl, ?_⟩) ?_ ?_
  rotate_left
  · intro w'
    go_simp
    try with_reducible rfl
  rotate_left
  · simp only [Act.put, List.setIfInBounds_toArray, List.set_cons_zero, List.set_cons_succ]
    rfl
  refine take_ (i := 4) (N := some 24) (v := ?_) (a' := ?_) #[true, true, true, true, true, true, false, false] rfl rfl (take_ofW HT_.out HW_.out (by kernel_rfl)) (fun _ _ _ h => h) (Or.inl ⟨by rfl, ?_⟩) hHeld ?_ ?_
  rotate_left
  · rintro w' ⟨s0, s1⟩
    go_simp
    try with_reducible rfl
  rotate_left
  · simp only [Act.put, List.setIfInBounds_toArray, List.set_cons_zero, List.set_cons_succ]
    rfl
  refine take_ (i := 6) (N := some 26) (v := ?_) (a' := ?_) #[true, true, true, true, true, true, true, false] rfl rfl (take_ofW HT_.out HW_.out (by kernel_rfl)) (fun _ _ _ h => h) (Or.inl ⟨by rfl, ?_⟩) hHeld ?_ ?_
  rotate_left
  · rintro w' ⟨s0, s1⟩
    go_simp
    try with_reducible rfl
  rotate_left
  · simp only [Act.put, List.setIfInBounds_toArray, List.set_cons_zero, List.set_cons_succ]
    rfl
  refine one_ (i := 7) (N := some 27) #[true, true, true, true, true, true, true, true] rfl rfl (one_of HT_.out (by kernel_rfl)) (by decide) (fun K hK => ?_)
  refine goes_ Tryd.func22 (by kernel_rfl) rfl #[vN, .string ib] (by rfl) rfl rfl (by first | done | rfl | (simp only [List.map_toArray, List.map_cons, List.map_nil]; done) | (simp only [List.map_toArray, List.map_cons, List.map_nil]; rfl)) ?_
  refine (HCON.out w2.drew (J2.out.n.below (below_drewN (Below.refl _ _) 1))).mono ?_
  rintro e' w4 ⟨rfl, rfl⟩
  refine ⟨_, rfl, ?_⟩
  refine hK.out _ _ (⟨n3, p0⟩) (fun hHeld => ?_)
  clear hK K
  refine norm_ (a' := ?_) ?_ ?_
  rotate_left
  · show Act.put _ (some 27) _ = _
    simp only [Act.put, List.setIfInBounds_toArray, List.set_cons_zero, List.set_cons_succ]
    rfl
  refine done_ (done_of HT_.out (by kernel_rfl)) ?_
  clear HT_ HW_
  have M3 := Lib.hid M2.out.drew
  have P3 := Lib.hid P2.out.drew
  have B3 := Lib.hid (show Below w.heap.size w w2.drew from below_drewN B2.out 1)
  have J3 := Lib.hid (HJ.out.below B3.out)
  have s1 : w2.drew.cell? ⟨j, 1, none⟩ = some vS := J3.out.hj.cell 1
  clear n3 p0
  go_upto_region 6 with fail
  go_wp2_with fail
  refine (HIX.out w2.drew gp J3.out P3.out).mono ?_
  rintro e w4 ⟨rfl, b4⟩
  have B4 := Lib.hid (B3.out.trans (b4.mono B3.out.size))
  have M4 := Lib.hid (M3.out.below b4 M3.out.lt)
  have P4 := Lib.hid (P3.out.below b4 P3.out.lt)
  have J4 := Lib.hid (HJ.out.below B4.out)
  clear b4 s1 J3 B3 P3 M3 J2 B2 P2 M2 HIX HCON HR
  obtain ⟨t, b, off, cap, hT, hv, hcell, hm⟩ := J4.out.at_ i HI.out
  have s1 : w4.cell? ⟨j, 1, none⟩ = some vS := J4.out.hj.cell 1
  rw [hv] at s1
  obtain ⟨n, hn⟩ : ∃ n, Hid (J.some.length = n) := ⟨_, Lib.hid rfl⟩
  rw [hn.out] at s1
  have e1 : 0 ≤ (i : Int) ∧ (i : Int) < (n : Int) := by have := HI.out; have := hn.out; omega
  have HM := Lib.hid hm
  have HT := Lib.hid hT
  obtain ⟨m, hme⟩ : ∃ m, Hid (J.some[i]'HI.out = m) := ⟨_, Lib.hid rfl⟩
  rw [hme.out] at HM
  have HMI : Hid (J.some[i]? = some m) := Lib.hid (by rw [List.getElem?_eq_getElem HI.out, hme.out])
  obtain ⟨mb, MB⟩ : ∃ t : ByteArray, Hid (⟨m.sum.toArray⟩ = t) := ⟨_, Lib.hid rfl⟩
  obtain ⟨L, hL⟩ : ∃ n, Hid (m.pcs.length = n) := ⟨_, Lib.hid rfl⟩
  have xc : ∀ W, Blk W t.x 72 (msC t m) → Blk W t.x 72 #[.string ⟨m.id.toArray⟩, .string mb, .slice (some ⟨t.p, 0, none⟩) L L, .slice (some ⟨t.c, 0, none⟩) L L, .int .i64 m.left] := fun W hW => by rw [← MB.out, ← hL.out]; exact hW
  have X4 := Lib.hid (xc _ HM.out.x)
  clear hT hm hv xc
  go_upto_region 11 with fail
  clear s1 hcell
  have x1 : w4.drew.cell? ⟨t.x, 1, none⟩ = some (.string mb) := X4.out.cell 1
  have p1 : w4.drew.cell? ⟨gp, 1, none⟩ = some (.string sm) := P4.out.cell 1
  have he : (mb.toList == sm.toList) = false := by rw [← MB.out, ← SM.out, ByteArray.toList_eq, ByteArray.toList_eq]; exact beq_eq_false_iff_ne.mpr (hsum m HMI.out)
  refine start_ (n := 18) (S := fun w' => w'.cell? ⟨t.x, 1, none⟩ = some (.string mb) ∧ w'.cell? ⟨gp, 1, none⟩ = some (.string sm)) (ds := []) #[false, false, false, false, false, false, false, false, false, false, false, false, false, false, false, false, false, false] (by kernel_rfl) rfl rfl ⟨x1, p1⟩ (fun hHeld => ?_)
  refine with_tabW tk11.tab tk11.bits (fun HT_ HW_ => ?_)
  refine pure_ (i := 0) (N := some 72) (v := ?_) (a' := ?_) #[true, false, false, false, false, false, false, false, false, false, false, false, false, false, false, false, false, false] rfl rfl (any_of HT_.out (by kernel_rfl)) (fun _ _ _ h => h) (Or.inl ⟨by rfl, ?_⟩) ?_ ?_
  rotate_left
  · intro w'
    go_simp
    try with_reducible rfl
  rotate_left
  · simp only [Act.put, List.setIfInBounds_toArray, List.set_cons_zero, List.set_cons_succ]
    rfl
  refine pure_ (i := 1) (N := some 73) (v := ?_) (a' := ?_) #[true, true, false, false, false, false, false, false, false, false, false, false, false, false, false, false, false, false] rfl rfl (any_of HT_.out (by kernel_rfl)) (fun _ _ _ h => h) (Or.inl ⟨by rfl, ?_⟩) ?_ ?_
  rotate_left
  · intro w'
    go_simp
    try with_reducible rfl
  rotate_left
  · simp only [Act.put, List.setIfInBounds_toArray, List.set_cons_zero, List.set_cons_succ]
    rfl
  refine pure_ (i := 2) (N := some 74) (v := ?_) (a' := ?_) #[true, true, true, false, false, false, false, false, false, false, false, false, false, false, false, false, false, false] rfl rfl (any_of HT_.out (by kernel_rfl)) (fun _ _ _ h => h) (Or.inl ⟨by rfl, ?_⟩) ?_ ?_
  rotate_left
  · intro w'
    go_simp
    try with_reducible rfl
  rotate_left
  · simp only [Act.put, List.setIfInBounds_toArray, List.set_cons_zero, List.set_cons_succ]
    rfl
  refine pure_ (i := 4) (N := some 76) (v := ?_) (a' := ?_) #[true, true, true, false, true, false, false, false, false, false, false, false, false, false, false, false, false, false] rfl rfl (any_of HT_.out (by kernel_rfl)) (fun _ _ _ h => h) (Or.inl ⟨by rfl, ?_⟩) ?_ ?_
  rotate_left
  · intro w'
    go_simp
    try with_reducible rfl
  rotate_left
  · simp only [Act.put, List.setIfInBounds_toArray, List.set_cons_zero, List.set_cons_succ]
    rfl
  refine take_ (i := 3) (N := some 75) (v := ?_) (a' := ?_) #[true, true, true, true, true, false, false, false, false, false, false, false, false, false, false, false, false, false] rfl rfl (take_ofW HT_.out HW_.out (by kernel_rfl)) (fun _ _ _ h => h) (Or.inl ⟨by rfl, ?_⟩) hHeld ?_ ?_
  rotate_left
  · rintro w' ⟨s0, s1⟩
    go_simp
    try with_reducible rfl
  rotate_left
  · simp only [Act.put, List.setIfInBounds_toArray, List.set_cons_zero, List.set_cons_succ]
    rfl
  refine take_ (i := 5) (N := some 77) (v := ?_) (a' := ?_) #[true, true, true, true, true, true, false, false, false, false, false, false, false, false, false, false, false, false] rfl rfl (take_ofW HT_.out HW_.out (by kernel_rfl)) (fun _ _ _ h => h) (Or.inl ⟨by rfl, ?_⟩) hHeld ?_ ?_
  rotate_left
  · rintro w' ⟨s0, s1⟩
    go_simp
    try with_reducible rfl
  rotate_left
  · simp only [Act.put, List.setIfInBounds_toArray, List.set_cons_zero, List.set_cons_succ]
    rfl
  refine pure_ (i := 6) (N := some 78) (v := ?_) (a' := ?_) #[true, true, true, true, true, true, true, false, false, false, false, false, false, false, false, false, false, false] rfl rfl (any_of HT_.out (by kernel_rfl)) (fun _ _ _ h => h) (Or.inl ⟨by rfl, ?_⟩) ?_ ?_
  rotate_left
  · intro w'
    go_simp
    try with_reducible rfl
  rotate_left
  · simp only [Act.put, List.setIfInBounds_toArray, List.set_cons_zero, List.set_cons_succ]
    rfl
  refine pure_ (i := 7) (N := some 79) (v := ?_) (a' := ?_) #[true, true, true, true, true, true, true, true, false, false, false, false, false, false, false, false, false, false] rfl rfl (any_of HT_.out (by kernel_rfl)) (fun _ _ _ h => h) (Or.inl ⟨by rfl, ?_⟩) ?_ ?_
  rotate_left
  · intro w'
    go_simp
    try with_reducible rfl
  rotate_left
  · simp only [Act.put, List.setIfInBounds_toArray, List.set_cons_zero, List.set_cons_succ]
    rfl
  refine pure_ (i := 8) (N := some 80) (v := undef) (a' := ?_) #[true, true, true, true, true, true, true, true, true, false, false, false, false, false, false, false, false, false] rfl rfl (any_of HT_.out (by kernel_rfl)) (fun _ _ _ h => h) (Or.inr ⟨by rfl, rfl⟩) ?_ ?_
  rotate_left
  · simp only [Act.put, List.setIfInBounds_toArray, List.set_cons_zero, List.set_cons_succ]
    rfl
  refine pure_ (i := 9) (N := some 81) (v := undef) (a' := ?_) #[true, true, true, true, true, true, true, true, true, true, false, false, false, false, false, false, false, false] rfl rfl (any_of HT_.out (by kernel_rfl)) (fun _ _ _ h => h) (Or.inr ⟨by rfl, rfl⟩) ?_ ?_
  rotate_left
  · simp only [Act.put, List.setIfInBounds_toArray, List.set_cons_zero, List.set_cons_succ]
    rfl
  refine pure_ (i := 10) (N := some 82) (v := undef) (a' := ?_) #[true, true, true, true, true, true, true, true, true, true, true, false, false, false, false, false, false, false] rfl rfl (any_of HT_.out (by kernel_rfl)) (fun _ _ _ h => h) (Or.inr ⟨by rfl, rfl⟩) ?_ ?_
  rotate_left
  · simp only [Act.put, List.setIfInBounds_toArray, List.set_cons_zero, List.set_cons_succ]
    rfl
  refine pure_ (i := 13) (N := some 85) (v := undef) (a' := ?_) #[true, true, true, true, true, true, true, true, true, true, true, false, false, true, false, false, false, false] rfl rfl (any_of HT_.out (by kernel_rfl)) (fun _ _ _ h => h) (Or.inr ⟨by rfl, rfl⟩) ?_ ?_
  rotate_left
  · simp only [Act.put, List.setIfInBounds_toArray, List.set_cons_zero, List.set_cons_succ]
    rfl
  refine take_ (i := 11) (N := some 83) (v := undef) (a' := ?_) #[true, true, true, true, true, true, true, true, true, true, true, true, false, true, false, false, false, false] rfl rfl (take_ofW HT_.out HW_.out (by kernel_rfl)) (fun _ _ _ h => h) (Or.inr ⟨by rfl, rfl⟩) hHeld ?_ ?_
  rotate_left
  · simp only [Act.put, List.setIfInBounds_toArray, List.set_cons_zero, List.set_cons_succ]
    rfl
  refine pure_ (i := 12) (N := some 84) (v := undef) (a' := ?_) #[true, true, true, true, true, true, true, true, true, true, true, true, true, true, false, false, false, false] rfl rfl (any_of HT_.out (by kernel_rfl)) (fun _ _ _ h => h) (Or.inr ⟨by rfl, rfl⟩) ?_ ?_
  rotate_left
  · simp only [Act.put, List.setIfInBounds_toArray, List.set_cons_zero, List.set_cons_succ]
    rfl
  refine take_ (i := 14) (N := some 86) (v := undef) (a' := ?_) #[true, true, true, true, true, true, true, true, true, true, true, true, true, true, true, false, false, false] rfl rfl (take_ofW HT_.out HW_.out (by kernel_rfl)) (fun _ _ _ h => h) (Or.inr ⟨by rfl, rfl⟩) hHeld ?_ ?_
  rotate_left
  · simp only [Act.put, List.setIfInBounds_toArray, List.set_cons_zero, List.set_cons_succ]
    rfl
  refine pure_ (i := 15) (N := some 87) (v := undef) (a' := ?_) #[true, true, true, true, true, true, true, true, true, true, true, true, true, true, true, true, false, false] rfl rfl (any_of HT_.out (by kernel_rfl)) (fun _ _ _ h => h) (Or.inr ⟨by rfl, rfl⟩) ?_ ?_
  rotate_left
  · simp only [Act.put, List.setIfInBounds_toArray, List.set_cons_zero, List.set_cons_succ]
    rfl
  refine pure_ (i := 16) (N := some 88) (v := ?_) (a' := ?_) #[true, true, true, true, true, true, true, true, true, true, true, true, true, true, true, true, true, false] rfl rfl (any_of HT_.out (by kernel_rfl)) (fun _ _ _ h => h) (Or.inl ⟨by rfl, ?_⟩) ?_ ?_
  rotate_left
  · intro w'
    go_simp
    try with_reducible rfl
  rotate_left
  · simp only [Act.put, List.setIfInBounds_toArray, List.set_cons_zero, List.set_cons_succ]
    rfl
  refine pure_ (i := 17) (N := some 71) (v := ?_) (a' := ?_) #[true, true, true, true, true, true, true, true, true, true, true, true, true, true, true, true, true, true] rfl rfl (any_of HT_.out (by kernel_rfl)) (fun _ _ _ h => h) (Or.inl ⟨by rfl, ?_⟩) ?_ ?_
  rotate_left
  · intro w'
    go_simp
    try with_reducible rfl
  rotate_left
  · simp only [Act.put, List.setIfInBounds_toArray, List.set_cons_zero, List.set_cons_succ]
    rfl
  refine done_ (done_of HT_.out (by kernel_rfl)) ?_
  clear HT_ HW_
  try simp only [Bool.not_false, Bool.not_true]
  have M5 := Lib.hid M4.out.drew
  have B5 := Lib.hid (show Below w.heap.size w w4.drew from below_drewN B4.out 1)
  go_wp2_with (first
    | ((with_reducible refine gate_store (t := 36) (p := 4) (v := .tmp 89) rfl ?_); refine wpList_store_row rfl 36 (.tmp 4) (.tmp 89) rfl gt zTold rfl rfl 36 zTold M5.out size_told rfl one_ztold ?_))
  have MF := Lib.hid (M5.out.setRow zTold)
  refine bodyPost_ret (results_ctt rfl _ _ gt 36 _ (0, 0) _ rfl MF.out Tryd.underlying36 rfl rfl) rfl ?_
  rw [HTF.out]
  have BF := below_of_only B5.out (only_setRow (only_refl _ _) zTold) SG.out.1 B5.out.size
  exact ⟨rfl, vS, vN, T, HJ.out.below BF, Kp.of_below BF, fun i h => .inl h⟩
end Go.Proofs.YtlogcgeinbefjaaDoor
namespace Go.Proofs.YtlogcgeinbefjaaDoor
open Go.RowKit Go.Proofs.YtlogcgeinbefjaaDoorW.PrintWords Go.Proofs.YtlogcgeinbefjaaDoorW.PrintLast
set_option linter.unusedSimpArgs false
set_option linter.unusedVariables false
set_option maxRecDepth 20000

set_option maxHeartbeats 1600000 in
theorem take_old_len (B j : Nat) (vS vN : Value) (T : List Pl) (J : Jn) (s : List UInt8) (w : World) (h : JnA B w j vS vN T J) (hs : s.length ≤ 140737488355328) (ho : okP s = true) (hd : J.done.any (fun x => x == (ptOf s).id) = false) (i : Nat) (hi : i < J.some.length) (hF : fstI (fun m : Ms => m.id == (ptOf s).id) J.some = (i : Nat)) (hm0 : ∀ m, J.some[i]? = some m → m.sum = (ptOf s).sum ∧ m.pcs.length ≠ (ptOf s).many) :
    Calls Tryd.prog 15 #[.pointer (some ⟨j, 0, none⟩), .string ⟨s.toArray⟩] w fun e w' => TkOut B j vS vN T (takeF J s).1 (takeF J s).2 w w' e := by
  have HTF := Lib.hid (show takeF J s = (J, noTk 220) by
    unfold takeF
    rw [ho, hd, hF]
    simp only [Int.toNat_natCast, List.getElem?_eq_getElem hi]
    rw [if_pos trivial, if_neg (by simp), if_neg (by omega)]
    unfold oldIn
    rw [if_neg (fun h => (hm0 _ (List.getElem?_eq_getElem hi)).2 h.2)])
  have hp0 := hd
  have hF0 := hF
  have HR := Lib.hid (fun W => read_any s W hs)
  have HO := Lib.hid ho
  obtain ⟨sb, SB⟩ : ∃ t : ByteArray, Hid (⟨s.toArray⟩ = t) := ⟨_, Lib.hid rfl⟩
  rw [SB.out] at HR ⊢
  have HJ := Lib.hid h
  obtain ⟨p, hp⟩ : ∃ p, Hid (ptOf s = p) := ⟨_, Lib.hid rfl⟩
  rw [hp.out] at hp0
  obtain ⟨ib, IB⟩ : ∃ t : ByteArray, Hid (⟨p.id.toArray⟩ = t) := ⟨_, Lib.hid rfl⟩
  obtain ⟨sm, SM⟩ : ∃ t : ByteArray, Hid (⟨p.sum.toArray⟩ = t) := ⟨_, Lib.hid rfl⟩
  obtain ⟨tb, TB⟩ : ∃ t : ByteArray, Hid (⟨p.text.toArray⟩ = t) := ⟨_, Lib.hid rfl⟩
  obtain ⟨A, hA⟩ : ∃ n, Hid (p.at_ = n) := ⟨_, Lib.hid rfl⟩
  obtain ⟨N, hN⟩ : ∃ n, Hid (p.many = n) := ⟨_, Lib.hid rfl⟩
  have HPC := Lib.hid (show ptC p = #[.string ib, .string sm, .string tb, .int .i64 (A : Nat), .int .i64 (N : Nat)] by unfold ptC; rw [IB.out, SM.out, TB.out, hA.out, hN.out])
  have HCON : Hid (∀ W, Win 9 W B vN (cstr J.done) → Calls Tryd.prog 22 #[vN, .string ib] W fun e w' => e = .returned (.bool false) ∧ w' = W) := Lib.hid (fun W hW => by
    have := containsT_any B vN J.done p.id W hW (by have := h.bd; omega)
    rw [IB.out, hp0] at this; exact this)
  have HIX : Hid (∀ (W : World) (g : Nat), JnA B W j vS vN T J → Blk W g 65 #[.string ib, .string sm, .string tb, .int .i64 (A : Nat), .int .i64 (N : Nat)] → Calls Tryd.prog 23 #[vS, .func (Fn.func 24) #[] #[.pointer (some ⟨g, 0, none⟩)]] W fun e w' => e = .returned (.int .i64 (i : Nat)) ∧ Below W.heap.size W w') := Lib.hid (fun W g hW hg => by
    have := indexM_any B j vS vN T J g p.id _ W hW hg (by rw [← IB.out]; rfl)
    rw [← hp.out, hF] at this; exact this)
  rw [hp.out] at hm0
  have HI := Lib.hid hi
  clear h hs ho hd hp0 hF hF0 hi
  go_enter Tryd.func15, Tryd.ntmps15
  go_upto_region 1 with fail
  obtain ⟨gt, hgt⟩ : ∃ g, Hid (w.heap.size = g) := ⟨_, Lib.hid rfl⟩
  refine gworld (fun W => Hid (Blk W gt 36 zTold) ∧ Hid (Below w.heap.size w W)) ⟨Lib.hid (by rw [← hgt.out]; exact Blk.new _ _ _), Lib.hid ((Below.refl _ _).alloc (Nat.le_refl _) _)⟩ ?_
  rintro w0 ⟨M0, B0⟩
  rw [hgt.out]
  go_wp2_with fail
  refine (HR.out w0).mono ?_
  rintro e w1 ⟨b1, cs, hcs, hone, rfl, hcp⟩
  have hcp2 := hcp HO.out
  rw [hp.out, HPC.out] at hcp2
  subst hcp2
  clear hcp
  have HONE := Lib.hid hone
  have B1 := Lib.hid (B0.out.trans (b1.mono B0.out.size))
  have M1 := Lib.hid (M0.out.below b1 M0.out.lt)
  rw [HO.out]
  clear hcs hone b1
  go_upto_region 2 with (first
    | ((with_reducible refine gate_store (t := 65) (p := 7) (v := .tmp 15) rfl ?_); refine wpList_store_row rfl 65 (.tmp 7) (.tmp 15) rfl w1.heap.size #[.string ib, .string sm, .string tb, .int .i64 (A : Nat), .int .i64 (N : Nat)] rfl rfl 65 zPt (Blk.new w1 65 zPt) size_part rfl HONE.out ?_))
  obtain ⟨gp, hgp⟩ : ∃ g, Hid (w1.heap.size = g) := ⟨_, Lib.hid rfl⟩
  refine gworld (fun W => Hid (Blk W gt 36 zTold) ∧ Hid (Blk W gp 65 #[.string ib, .string sm, .string tb, .int .i64 (A : Nat), .int .i64 (N : Nat)]) ∧ Hid (Below w.heap.size w W)) ⟨Lib.hid ((M1.out.alloc (.cells zPt 65)).grown (row := some w1.heap.size) (only_setRow (only_refl _ _) _) (by have := M1.out.lt; intro h; cases h; omega)), Lib.hid (by rw [← hgp.out]; exact (Blk.new w1 65 zPt).setRow _), Lib.hid (below_of_only (B1.out.alloc B1.out.size _) (only_setRow (only_refl _ _) _) B1.out.size (by simp; exact Nat.le_succ_of_le B1.out.size))⟩ ?_
  rintro w2 ⟨M2, P2, B2⟩
  rw [hgp.out]
  have SG := Lib.hid (show w.heap.size ≤ gt ∧ w.heap.size ≤ gp from ⟨by rw [← hgt.out]; exact Nat.le_refl _, by rw [← hgp.out]; exact B1.out.size⟩)
  clear M1 B1 M0 B0 HONE
  have J2 := Lib.hid (HJ.out.below B2.out)
  have n3 : w2.drew.cell? ⟨j, 3, none⟩ = some vN := J2.out.hj.cell 3
  have p0 : w2.drew.cell? ⟨gp, 0, none⟩ = some (.string ib) := P2.out.cell 0
  go_upto_region 4 with fail
  refine start_ (n := 8) (S := fun w' => w'.cell? ⟨j, 3, none⟩ = some vN ∧ w'.cell? ⟨gp, 0, none⟩ = some (.string ib)) (ds := []) #[false, false, false, false, false, false, false, false] (by kernel_rfl) rfl rfl ⟨n3, p0⟩ (fun hHeld => ?_)
  refine with_tabW tk4.tab tk4.bits (fun HT_ HW_ => ?_)
  refine pure_ (i := 0) (N := some 20) (v := ?_) (a' := ?_) #[true, false, false, false, false, false, false, false] rfl rfl (any_of HT_.out (by kernel_rfl)) (fun _ _ _ h => h) (Or.inl ⟨by rfl, ?_⟩) ?_ ?_
  rotate_left
  · intro w'
    go_simp
    try with_reducible rfl
  rotate_left
  · simp only [Act.put, List.setIfInBounds_toArray, List.set_cons_zero, List.set_cons_succ]
    rfl
  refine pure_ (i := 1) (N := some 21) (v := ?_) (a' := ?_) #[true, true, false, false, false, false, false, false] rfl rfl (any_of HT_.out (by kernel_rfl)) (fun _ _ _ h => h) (Or.inl ⟨by rfl, ?_⟩) ?_ ?_
  rotate_left
  · intro w'
    go_simp
    try with_reducible rfl
  rotate_left
  · simp only [Act.put, List.setIfInBounds_toArray, List.set_cons_zero, List.set_cons_succ]
    rfl
  refine pure_ (i := 2) (N := some 22) (v := ?_) (a' := ?_) #[true, true, true, false, false, false, false, false] rfl rfl (any_of HT_.out (by kernel_rfl)) (fun _ _ _ h => h) (Or.inl ⟨by rfl, ?_⟩) ?_ ?_
  rotate_left
  · intro w'
    go_simp
    try with_reducible rfl
  rotate_left
  · simp only [Act.put, List.setIfInBounds_toArray, List.set_cons_zero, List.set_cons_succ]
    rfl
  refine pure_ (i := 3) (N := some 23) (v := ?_) (a' := ?_) #[true, true, true, true, false, false, false, false] rfl rfl (any_of HT_.out (by kernel_rfl)) (fun _ _ _ h => h) (Or.inl ⟨by rfl, ?_⟩) ?_ ?_
  rotate_left
  · intro w'
    go_simp
    try with_reducible rfl
  rotate_left
  · simp only [Act.put, List.setIfInBounds_toArray, List.set_cons_zero, List.set_cons_succ]
    rfl
  refine pure_ (i := 5) (N := some 25) (v := ?_) (a' := ?_) #[true, true, true, true, false, true, false, false] rfl rfl (any_of HT_.out (by kernel_rfl)) (fun _ _ _ h => h) (Or.inl ⟨by rfl, ?_⟩) ?_ ?_
  rotate_left
  · intro w'
    go_simp
    try with_reducible rfl
  rotate_left
  · simp only [Act.put, List.setIfInBounds_toArray, List.set_cons_zero, List.set_cons_succ]
    rfl
  refine take_ (i := 4) (N := some 24) (v := ?_) (a' := ?_) #[true, true, true, true, true, true, false, false] rfl rfl (take_ofW HT_.out HW_.out (by kernel_rfl)) (fun _ _ _ h => h) (Or.inl ⟨by rfl, ?_⟩) hHeld ?_ ?_
  rotate_left
  · rintro w' ⟨s0, s1⟩
    go_simp
    try with_reducible rfl
  rotate_left
  · simp only [Act.put, List.setIfInBounds_toArray, List.set_cons_zero, List.set_cons_succ]
    rfl
  refine take_ (i := 6) (N := some 26) (v := ?_) (a' := ?_) #[true, true, true, true, true, true, true, false] rfl rfl (take_ofW HT_.out HW_.out (by kernel_rfl)) (fun _ _ _ h => h) (Or.inl ⟨by rfl, ?_⟩) hHeld ?_ ?_
  rotate_left
  · rintro w' ⟨s0, s1⟩
    go_simp
    try with_reducible rfl
  rotate_left
  · simp only [Act.put, List.setIfInBounds_toArray, List.set_cons_zero, List.set_cons_succ]
    rfl
  refine one_ (i := 7) (N := some 27) #[true, true, true, true, true, true, true, true] rfl rfl (one_of HT_.out (by kernel_rfl)) (by decide) (fun K hK => ?_)
  refine goes_ Tryd.func22 (by kernel_rfl) rfl #[vN, .string ib] (by rfl) rfl rfl (by first | done | rfl | (simp only [List.map_toArray, List.map_cons, List.map_nil]; done) | (simp only [List.map_toArray, List.map_cons, List.map_nil]; rfl)) ?_
  refine (HCON.out w2.drew (J2.out.n.below (below_drewN (Below.refl _ _) 1))).mono ?_
  rintro e' w4 ⟨rfl, rfl⟩
  refine ⟨_, rfl, ?_⟩
  refine hK.out _ _ (⟨n3, p0⟩) (fun hHeld => ?_)
  clear hK K
  refine norm_ (a' := ?_) ?_ ?_
  rotate_left
  · show Act.put _ (some 27) _ = _
    simp only [Act.put, List.setIfInBounds_toArray, List.set_cons_zero, List.set_cons_succ]
    rfl
  refine done_ (done_of HT_.out (by kernel_rfl)) ?_
  clear HT_ HW_
  have M3 := Lib.hid M2.out.drew
  have P3 := Lib.hid P2.out.drew
  have B3 := Lib.hid (show Below w.heap.size w w2.drew from below_drewN B2.out 1)
  have J3 := Lib.hid (HJ.out.below B3.out)
  have s1 : w2.drew.cell? ⟨j, 1, none⟩ = some vS := J3.out.hj.cell 1
  clear n3 p0
  go_upto_region 6 with fail
  go_wp2_with fail
  refine (HIX.out w2.drew gp J3.out P3.out).mono ?_
  rintro e w4 ⟨rfl, b4⟩
  have B4 := Lib.hid (B3.out.trans (b4.mono B3.out.size))
  have M4 := Lib.hid (M3.out.below b4 M3.out.lt)
  have P4 := Lib.hid (P3.out.below b4 P3.out.lt)
  have J4 := Lib.hid (HJ.out.below B4.out)
  clear b4 s1 J3 B3 P3 M3 J2 B2 P2 M2 HIX HCON HR
  obtain ⟨t, b, off, cap, hT, hv, hcell, hm⟩ := J4.out.at_ i HI.out
  have s1 : w4.cell? ⟨j, 1, none⟩ = some vS := J4.out.hj.cell 1
  rw [hv] at s1
  obtain ⟨n, hn⟩ : ∃ n, Hid (J.some.length = n) := ⟨_, Lib.hid rfl⟩
  rw [hn.out] at s1
  have e1 : 0 ≤ (i : Int) ∧ (i : Int) < (n : Int) := by have := HI.out; have := hn.out; omega
  have HM := Lib.hid hm
  have HT := Lib.hid hT
  obtain ⟨m, hme⟩ : ∃ m, Hid (J.some[i]'HI.out = m) := ⟨_, Lib.hid rfl⟩
  rw [hme.out] at HM
  have HMI : Hid (J.some[i]? = some m) := Lib.hid (by rw [List.getElem?_eq_getElem HI.out, hme.out])
  obtain ⟨mb, MB⟩ : ∃ t : ByteArray, Hid (⟨m.sum.toArray⟩ = t) := ⟨_, Lib.hid rfl⟩
  obtain ⟨L, hL⟩ : ∃ n, Hid (m.pcs.length = n) := ⟨_, Lib.hid rfl⟩
  have xc : ∀ W, Blk W t.x 72 (msC t m) → Blk W t.x 72 #[.string ⟨m.id.toArray⟩, .string mb, .slice (some ⟨t.p, 0, none⟩) L L, .slice (some ⟨t.c, 0, none⟩) L L, .int .i64 m.left] := fun W hW => by rw [← MB.out, ← hL.out]; exact hW
  have X4 := Lib.hid (xc _ HM.out.x)
  clear hT hm hv xc
  go_upto_region 11 with fail
  clear s1 hcell
  have x1 : w4.drew.cell? ⟨t.x, 1, none⟩ = some (.string mb) := X4.out.cell 1
  have x2 : w4.drew.cell? ⟨t.x, 2, none⟩ = some (.slice (some ⟨t.p, 0, none⟩) L L) := X4.out.cell 2
  have p1 : w4.drew.cell? ⟨gp, 1, none⟩ = some (.string sm) := P4.out.cell 1
  have p4 : w4.drew.cell? ⟨gp, 4, none⟩ = some (.int .i64 (N : Nat)) := P4.out.cell 4
  have hm1 := hm0 m HMI.out
  rw [hL.out, hN.out] at hm1
  have he : (mb.toList == sm.toList) = true := by rw [← MB.out, ← SM.out, ByteArray.toList_eq, ByteArray.toList_eq]; exact beq_iff_eq.mpr hm1.1
  have hl : ((L : Int) != (N : Int)) = true := by have := hm1.2; (exact bne_iff_ne.mpr (by omega))
  have HM1 := Lib.hid hm1
  clear hm1
  refine start_ (n := 18) (S := fun w' => w'.cell? ⟨t.x, 1, none⟩ = some (.string mb) ∧ w'.cell? ⟨t.x, 2, none⟩ = some (.slice (some ⟨t.p, 0, none⟩) L L) ∧ w'.cell? ⟨gp, 1, none⟩ = some (.string sm) ∧ w'.cell? ⟨gp, 4, none⟩ = some (.int .i64 (N : Nat))) (ds := []) #[false, false, false, false, false, false, false, false, false, false, false, false, false, false, false, false, false, false] (by kernel_rfl) rfl rfl ⟨x1, x2, p1, p4⟩ (fun hHeld => ?_)
  refine with_tabW tk11.tab tk11.bits (fun HT_ HW_ => ?_)
  refine pure_ (i := 0) (N := some 72) (v := ?_) (a' := ?_) #[true, false, false, false, false, false, false, false, false, false, false, false, false, false, false, false, false, false] rfl rfl (any_of HT_.out (by kernel_rfl)) (fun _ _ _ h => h) (Or.inl ⟨by rfl, ?_⟩) ?_ ?_
  rotate_left
  · intro w'
    go_simp
    try with_reducible rfl
  rotate_left
  · simp only [Act.put, List.setIfInBounds_toArray, List.set_cons_zero, List.set_cons_succ]
    rfl
  refine pure_ (i := 1) (N := some 73) (v := ?_) (a' := ?_) #[true, true, false, false, false, false, false, false, false, false, false, false, false, false, false, false, false, false] rfl rfl (any_of HT_.out (by kernel_rfl)) (fun _ _ _ h => h) (Or.inl ⟨by rfl, ?_⟩) ?_ ?_
  rotate_left
  · intro w'
    go_simp
    try with_reducible rfl
  rotate_left
  · simp only [Act.put, List.setIfInBounds_toArray, List.set_cons_zero, List.set_cons_succ]
    rfl
  refine pure_ (i := 2) (N := some 74) (v := ?_) (a' := ?_) #[true, true, true, false, false, false, false, false, false, false, false, false, false, false, false, false, false, false] rfl rfl (any_of HT_.out (by kernel_rfl)) (fun _ _ _ h => h) (Or.inl ⟨by rfl, ?_⟩) ?_ ?_
  rotate_left
  · intro w'
    go_simp
    try with_reducible rfl
  rotate_left
  · simp only [Act.put, List.setIfInBounds_toArray, List.set_cons_zero, List.set_cons_succ]
    rfl
  refine pure_ (i := 4) (N := some 76) (v := ?_) (a' := ?_) #[true, true, true, false, true, false, false, false, false, false, false, false, false, false, false, false, false, false] rfl rfl (any_of HT_.out (by kernel_rfl)) (fun _ _ _ h => h) (Or.inl ⟨by rfl, ?_⟩) ?_ ?_
  rotate_left
  · intro w'
    go_simp
    try with_reducible rfl
  rotate_left
  · simp only [Act.put, List.setIfInBounds_toArray, List.set_cons_zero, List.set_cons_succ]
    rfl
  refine take_ (i := 3) (N := some 75) (v := ?_) (a' := ?_) #[true, true, true, true, true, false, false, false, false, false, false, false, false, false, false, false, false, false] rfl rfl (take_ofW HT_.out HW_.out (by kernel_rfl)) (fun _ _ _ h => h) (Or.inl ⟨by rfl, ?_⟩) hHeld ?_ ?_
  rotate_left
  · rintro w' ⟨s0, s1, s2, s3⟩
    go_simp
    try with_reducible rfl
  rotate_left
  · simp only [Act.put, List.setIfInBounds_toArray, List.set_cons_zero, List.set_cons_succ]
    rfl
  refine take_ (i := 5) (N := some 77) (v := ?_) (a' := ?_) #[true, true, true, true, true, true, false, false, false, false, false, false, false, false, false, false, false, false] rfl rfl (take_ofW HT_.out HW_.out (by kernel_rfl)) (fun _ _ _ h => h) (Or.inl ⟨by rfl, ?_⟩) hHeld ?_ ?_
  rotate_left
  · rintro w' ⟨s0, s1, s2, s3⟩
    go_simp
    try with_reducible rfl
  rotate_left
  · simp only [Act.put, List.setIfInBounds_toArray, List.set_cons_zero, List.set_cons_succ]
    rfl
  refine pure_ (i := 6) (N := some 78) (v := ?_) (a' := ?_) #[true, true, true, true, true, true, true, false, false, false, false, false, false, false, false, false, false, false] rfl rfl (any_of HT_.out (by kernel_rfl)) (fun _ _ _ h => h) (Or.inl ⟨by rfl, ?_⟩) ?_ ?_
  rotate_left
  · intro w'
    go_simp
    try with_reducible rfl
  rotate_left
  · simp only [Act.put, List.setIfInBounds_toArray, List.set_cons_zero, List.set_cons_succ]
    rfl
  refine pure_ (i := 7) (N := some 79) (v := ?_) (a' := ?_) #[true, true, true, true, true, true, true, true, false, false, false, false, false, false, false, false, false, false] rfl rfl (any_of HT_.out (by kernel_rfl)) (fun _ _ _ h => h) (Or.inl ⟨by rfl, ?_⟩) ?_ ?_
  rotate_left
  · intro w'
    go_simp
    try with_reducible rfl
  rotate_left
  · simp only [Act.put, List.setIfInBounds_toArray, List.set_cons_zero, List.set_cons_succ]
    rfl
  refine pure_ (i := 8) (N := some 80) (v := ?_) (a' := ?_) #[true, true, true, true, true, true, true, true, true, false, false, false, false, false, false, false, false, false] rfl rfl (any_of HT_.out (by kernel_rfl)) (fun _ _ _ h => h) (Or.inl ⟨by rfl, ?_⟩) ?_ ?_
  rotate_left
  · intro w'
    go_simp
    try with_reducible rfl
  rotate_left
  · simp only [Act.put, List.setIfInBounds_toArray, List.set_cons_zero, List.set_cons_succ]
    rfl
  refine pure_ (i := 9) (N := some 81) (v := ?_) (a' := ?_) #[true, true, true, true, true, true, true, true, true, true, false, false, false, false, false, false, false, false] rfl rfl (any_of HT_.out (by kernel_rfl)) (fun _ _ _ h => h) (Or.inl ⟨by rfl, ?_⟩) ?_ ?_
  rotate_left
  · intro w'
    go_simp
    try with_reducible rfl
  rotate_left
  · simp only [Act.put, List.setIfInBounds_toArray, List.set_cons_zero, List.set_cons_succ]
    rfl
  refine pure_ (i := 10) (N := some 82) (v := ?_) (a' := ?_) #[true, true, true, true, true, true, true, true, true, true, true, false, false, false, false, false, false, false] rfl rfl (any_of HT_.out (by kernel_rfl)) (fun _ _ _ h => h) (Or.inl ⟨by rfl, ?_⟩) ?_ ?_
  rotate_left
  · intro w'
    go_simp
    try with_reducible rfl
  rotate_left
  · simp only [Act.put, List.setIfInBounds_toArray, List.set_cons_zero, List.set_cons_succ]
    rfl
  refine pure_ (i := 13) (N := some 85) (v := ?_) (a' := ?_) #[true, true, true, true, true, true, true, true, true, true, true, false, false, true, false, false, false, false] rfl rfl (any_of HT_.out (by kernel_rfl)) (fun _ _ _ h => h) (Or.inl ⟨by rfl, ?_⟩) ?_ ?_
  rotate_left
  · intro w'
    go_simp
    try with_reducible rfl
  rotate_left
  · simp only [Act.put, List.setIfInBounds_toArray, List.set_cons_zero, List.set_cons_succ]
    rfl
  refine take_ (i := 11) (N := some 83) (v := ?_) (a' := ?_) #[true, true, true, true, true, true, true, true, true, true, true, true, false, true, false, false, false, false] rfl rfl (take_ofW HT_.out HW_.out (by kernel_rfl)) (fun _ _ _ h => h) (Or.inl ⟨by rfl, ?_⟩) hHeld ?_ ?_
  rotate_left
  · rintro w' ⟨s0, s1, s2, s3⟩
    go_simp
    try with_reducible rfl
  rotate_left
  · simp only [Act.put, List.setIfInBounds_toArray, List.set_cons_zero, List.set_cons_succ]
    rfl
  refine pure_ (i := 12) (N := some 84) (v := ?_) (a' := ?_) #[true, true, true, true, true, true, true, true, true, true, true, true, true, true, false, false, false, false] rfl rfl (any_of HT_.out (by kernel_rfl)) (fun _ _ _ h => h) (Or.inl ⟨by rfl, ?_⟩) ?_ ?_
  rotate_left
  · intro w'
    go_simp
    try with_reducible rfl
  rotate_left
  · simp only [Act.put, List.setIfInBounds_toArray, List.set_cons_zero, List.set_cons_succ]
    rfl
  refine take_ (i := 14) (N := some 86) (v := ?_) (a' := ?_) #[true, true, true, true, true, true, true, true, true, true, true, true, true, true, true, false, false, false] rfl rfl (take_ofW HT_.out HW_.out (by kernel_rfl)) (fun _ _ _ h => h) (Or.inl ⟨by rfl, ?_⟩) hHeld ?_ ?_
  rotate_left
  · rintro w' ⟨s0, s1, s2, s3⟩
    go_simp
    try with_reducible rfl
  rotate_left
  · simp only [Act.put, List.setIfInBounds_toArray, List.set_cons_zero, List.set_cons_succ]
    rfl
  refine pure_ (i := 15) (N := some 87) (v := ?_) (a' := ?_) #[true, true, true, true, true, true, true, true, true, true, true, true, true, true, true, true, false, false] rfl rfl (any_of HT_.out (by kernel_rfl)) (fun _ _ _ h => h) (Or.inl ⟨by rfl, ?_⟩) ?_ ?_
  rotate_left
  · intro w'
    go_simp
    try with_reducible rfl
  rotate_left
  · simp only [Act.put, List.setIfInBounds_toArray, List.set_cons_zero, List.set_cons_succ]
    rfl
  refine pure_ (i := 16) (N := some 88) (v := ?_) (a' := ?_) #[true, true, true, true, true, true, true, true, true, true, true, true, true, true, true, true, true, false] rfl rfl (any_of HT_.out (by kernel_rfl)) (fun _ _ _ h => h) (Or.inl ⟨by rfl, ?_⟩) ?_ ?_
  rotate_left
  · intro w'
    go_simp
    try with_reducible rfl
  rotate_left
  · simp only [Act.put, List.setIfInBounds_toArray, List.set_cons_zero, List.set_cons_succ]
    rfl
  refine pure_ (i := 17) (N := some 71) (v := ?_) (a' := ?_) #[true, true, true, true, true, true, true, true, true, true, true, true, true, true, true, true, true, true] rfl rfl (any_of HT_.out (by kernel_rfl)) (fun _ _ _ h => h) (Or.inl ⟨by rfl, ?_⟩) ?_ ?_
  rotate_left
  · intro w'
    go_simp
    try with_reducible rfl
  rotate_left
  · simp only [Act.put, List.setIfInBounds_toArray, List.set_cons_zero, List.set_cons_succ]
    rfl
  refine done_ (done_of HT_.out (by kernel_rfl)) ?_
  clear HT_ HW_
  try simp only [hl, Bool.not_false, Bool.not_true]
  have M5 := Lib.hid M4.out.drew
  have P5 := Lib.hid P4.out.drew
  have X5 := Lib.hid X4.out.drew
  have B5 := Lib.hid (show Below w.heap.size w w4.drew from below_drewN B4.out 1)
  clear x1 x2 p1 p4 he hl
  go_wp2_with (first
    | ((with_reducible refine gate_store (t := 36) (p := 4) (v := .tmp 89) rfl ?_); refine wpList_store_row rfl 36 (.tmp 4) (.tmp 89) rfl gt zTold rfl rfl 36 zTold M5.out size_told rfl one_ztold ?_))
  have MF := Lib.hid (M5.out.setRow zTold)
  refine bodyPost_ret (results_ctt rfl _ _ gt 36 _ (0, 0) _ rfl MF.out Tryd.underlying36 rfl rfl) rfl ?_
  rw [HTF.out]
  have BF := below_of_only B5.out (only_setRow (only_refl _ _) zTold) SG.out.1 B5.out.size
  exact ⟨rfl, vS, vN, T, HJ.out.below BF, Kp.of_below BF, fun i h => .inl h⟩
set_option maxHeartbeats 1600000 in
theorem take_old_came (B j : Nat) (vS vN : Value) (T : List Pl) (J : Jn) (s : List UInt8) (w : World) (h : JnA B w j vS vN T J) (hs : s.length ≤ 140737488355328) (ho : okP s = true) (hd : J.done.any (fun x => x == (ptOf s).id) = false) (i : Nat) (hi : i < J.some.length) (hF : fstI (fun m : Ms => m.id == (ptOf s).id) J.some = (i : Nat)) (hm0 : ∀ m, J.some[i]? = some m → (m.sum = (ptOf s).sum ∧ m.pcs.length = (ptOf s).many) ∧ m.came[(ptOf s).at_]? = some true) :
    Calls Tryd.prog 15 #[.pointer (some ⟨j, 0, none⟩), .string ⟨s.toArray⟩] w fun e w' => TkOut B j vS vN T (takeF J s).1 (takeF J s).2 w w' e := by
  have HTF := Lib.hid (show takeF J s = (J, noTk 6) by
    unfold takeF
    rw [ho, hd, hF]
    simp only [Int.toNat_natCast, List.getElem?_eq_getElem hi]
    rw [if_pos trivial, if_neg (by simp), if_neg (by omega)]
    unfold oldIn
    rw [if_pos (hm0 _ (List.getElem?_eq_getElem hi)).1, if_pos (hm0 _ (List.getElem?_eq_getElem hi)).2])
  have hp0 := hd
  have hF0 := hF
  have HR := Lib.hid (fun W => read_any s W hs)
  have HO := Lib.hid ho
  obtain ⟨sb, SB⟩ : ∃ t : ByteArray, Hid (⟨s.toArray⟩ = t) := ⟨_, Lib.hid rfl⟩
  rw [SB.out] at HR ⊢
  have HJ := Lib.hid h
  obtain ⟨p, hp⟩ : ∃ p, Hid (ptOf s = p) := ⟨_, Lib.hid rfl⟩
  rw [hp.out] at hp0
  obtain ⟨ib, IB⟩ : ∃ t : ByteArray, Hid (⟨p.id.toArray⟩ = t) := ⟨_, Lib.hid rfl⟩
  obtain ⟨sm, SM⟩ : ∃ t : ByteArray, Hid (⟨p.sum.toArray⟩ = t) := ⟨_, Lib.hid rfl⟩
  obtain ⟨tb, TB⟩ : ∃ t : ByteArray, Hid (⟨p.text.toArray⟩ = t) := ⟨_, Lib.hid rfl⟩
  obtain ⟨A, hA⟩ : ∃ n, Hid (p.at_ = n) := ⟨_, Lib.hid rfl⟩
  obtain ⟨N, hN⟩ : ∃ n, Hid (p.many = n) := ⟨_, Lib.hid rfl⟩
  have HPC := Lib.hid (show ptC p = #[.string ib, .string sm, .string tb, .int .i64 (A : Nat), .int .i64 (N : Nat)] by unfold ptC; rw [IB.out, SM.out, TB.out, hA.out, hN.out])
  have HCON : Hid (∀ W, Win 9 W B vN (cstr J.done) → Calls Tryd.prog 22 #[vN, .string ib] W fun e w' => e = .returned (.bool false) ∧ w' = W) := Lib.hid (fun W hW => by
    have := containsT_any B vN J.done p.id W hW (by have := h.bd; omega)
    rw [IB.out, hp0] at this; exact this)
  have HIX : Hid (∀ (W : World) (g : Nat), JnA B W j vS vN T J → Blk W g 65 #[.string ib, .string sm, .string tb, .int .i64 (A : Nat), .int .i64 (N : Nat)] → Calls Tryd.prog 23 #[vS, .func (Fn.func 24) #[] #[.pointer (some ⟨g, 0, none⟩)]] W fun e w' => e = .returned (.int .i64 (i : Nat)) ∧ Below W.heap.size W w') := Lib.hid (fun W g hW hg => by
    have := indexM_any B j vS vN T J g p.id _ W hW hg (by rw [← IB.out]; rfl)
    rw [← hp.out, hF] at this; exact this)
  rw [hp.out] at hm0
  have HI := Lib.hid hi
  clear h hs ho hd hp0 hF hF0 hi
  go_enter Tryd.func15, Tryd.ntmps15
  go_upto_region 1 with fail
  obtain ⟨gt, hgt⟩ : ∃ g, Hid (w.heap.size = g) := ⟨_, Lib.hid rfl⟩
  refine gworld (fun W => Hid (Blk W gt 36 zTold) ∧ Hid (Below w.heap.size w W)) ⟨Lib.hid (by rw [← hgt.out]; exact Blk.new _ _ _), Lib.hid ((Below.refl _ _).alloc (Nat.le_refl _) _)⟩ ?_
  rintro w0 ⟨M0, B0⟩
  rw [hgt.out]
  go_wp2_with fail
  refine (HR.out w0).mono ?_
  rintro e w1 ⟨b1, cs, hcs, hone, rfl, hcp⟩
  have hcp2 := hcp HO.out
  rw [hp.out, HPC.out] at hcp2
  subst hcp2
  clear hcp
  have HONE := Lib.hid hone
  have B1 := Lib.hid (B0.out.trans (b1.mono B0.out.size))
  have M1 := Lib.hid (M0.out.below b1 M0.out.lt)
  rw [HO.out]
  clear hcs hone b1
  go_upto_region 2 with (first
    | ((with_reducible refine gate_store (t := 65) (p := 7) (v := .tmp 15) rfl ?_); refine wpList_store_row rfl 65 (.tmp 7) (.tmp 15) rfl w1.heap.size #[.string ib, .string sm, .string tb, .int .i64 (A : Nat), .int .i64 (N : Nat)] rfl rfl 65 zPt (Blk.new w1 65 zPt) size_part rfl HONE.out ?_))
  obtain ⟨gp, hgp⟩ : ∃ g, Hid (w1.heap.size = g) := ⟨_, Lib.hid rfl⟩
  refine gworld (fun W => Hid (Blk W gt 36 zTold) ∧ Hid (Blk W gp 65 #[.string ib, .string sm, .string tb, .int .i64 (A : Nat), .int .i64 (N : Nat)]) ∧ Hid (Below w.heap.size w W)) ⟨Lib.hid ((M1.out.alloc (.cells zPt 65)).grown (row := some w1.heap.size) (only_setRow (only_refl _ _) _) (by have := M1.out.lt; intro h; cases h; omega)), Lib.hid (by rw [← hgp.out]; exact (Blk.new w1 65 zPt).setRow _), Lib.hid (below_of_only (B1.out.alloc B1.out.size _) (only_setRow (only_refl _ _) _) B1.out.size (by simp; exact Nat.le_succ_of_le B1.out.size))⟩ ?_
  rintro w2 ⟨M2, P2, B2⟩
  rw [hgp.out]
  have SG := Lib.hid (show w.heap.size ≤ gt ∧ w.heap.size ≤ gp from ⟨by rw [← hgt.out]; exact Nat.le_refl _, by rw [← hgp.out]; exact B1.out.size⟩)
  clear M1 B1 M0 B0 HONE
  have J2 := Lib.hid (HJ.out.below B2.out)
  have n3 : w2.drew.cell? ⟨j, 3, none⟩ = some vN := J2.out.hj.cell 3
  have p0 : w2.drew.cell? ⟨gp, 0, none⟩ = some (.string ib) := P2.out.cell 0
  go_upto_region 4 with fail
  refine start_ (n := 8) (S := fun w' => w'.cell? ⟨j, 3, none⟩ = some vN ∧ w'.cell? ⟨gp, 0, none⟩ = some (.string ib)) (ds := []) #[false, false, false, false, false, false, false, false] (by kernel_rfl) rfl rfl ⟨n3, p0⟩ (fun hHeld => ?_)
  refine with_tabW tk4.tab tk4.bits (fun HT_ HW_ => ?_)
  refine pure_ (i := 0) (N := some 20) (v := ?_) (a' := ?_) #[true, false, false, false, false, false, false, false] rfl rfl (any_of HT_.out (by kernel_rfl)) (fun _ _ _ h => h) (Or.inl ⟨by rfl, ?_⟩) ?_ ?_
  rotate_left
  · intro w'
    go_simp
    try with_reducible rfl
  rotate_left
  · simp only [Act.put, List.setIfInBounds_toArray, List.set_cons_zero, List.set_cons_succ]
    rfl
  refine pure_ (i := 1) (N := some 21) (v := ?_) (a' := ?_) #[true, true, false, false, false, false, false, false] rfl rfl (any_of HT_.out (by kernel_rfl)) (fun _ _ _ h => h) (Or.inl ⟨by rfl, ?_⟩) ?_ ?_
  rotate_left
  · intro w'
    go_simp
    try with_reducible rfl
  rotate_left
  · simp only [Act.put, List.setIfInBounds_toArray, List.set_cons_zero, List.set_cons_succ]
    rfl
  refine pure_ (i := 2) (N := some 22) (v := ?_) (a' := ?_) #[true, true, true, false, false, false, false, false] rfl rfl (any_of HT_.out (by kernel_rfl)) (fun _ _ _ h => h) (Or.inl ⟨by rfl, ?_⟩) ?_ ?_
  rotate_left
  · intro w'
    go_simp
    try with_reducible rfl
  rotate_left
  · simp only [Act.put, List.setIfInBounds_toArray, List.set_cons_zero, List.set_cons_succ]
    rfl
  refine pure_ (i := 3) (N := some 23) (v := ?_) (a' := ?_) #[true, true, true, true, false, false, false, false] rfl rfl (any_of HT_.out (by kernel_rfl)) (fun _ _ _ h => h) (Or.inl ⟨by rfl, ?_⟩) ?_ ?_
  rotate_left
  · intro w'
    go_simp
    try with_reducible rfl
  rotate_left
  · simp only [Act.put, List.setIfInBounds_toArray, List.set_cons_zero, List.set_cons_succ]
    rfl
  refine pure_ (i := 5) (N := some 25) (v := ?_) (a' := ?_) #[true, true, true, true, false, true, false, false] rfl rfl (any_of HT_.out (by kernel_rfl)) (fun _ _ _ h => h) (Or.inl ⟨by rfl, ?_⟩) ?_ ?_
  rotate_left
  · intro w'
    go_simp
    try with_reducible rfl
  rotate_left
  · simp only [Act.put, List.setIfInBounds_toArray, List.set_cons_zero, List.set_cons_succ]
    rfl
  refine take_ (i := 4) (N := some 24) (v := ?_) (a' := ?_) #[true, true, true, true, true, true, false, false] rfl rfl (take_ofW HT_.out HW_.out (by kernel_rfl)) (fun _ _ _ h => h) (Or.inl ⟨by rfl, ?_⟩) hHeld ?_ ?_
  rotate_left
  · rintro w' ⟨s0, s1⟩
    go_simp
    try with_reducible rfl
  rotate_left
  · simp only [Act.put, List.setIfInBounds_toArray, List.set_cons_zero, List.set_cons_succ]
    rfl
  refine take_ (i := 6) (N := some 26) (v := ?_) (a' := ?_) #[true, true, true, true, true, true, true, false] rfl rfl (take_ofW HT_.out HW_.out (by kernel_rfl)) (fun _ _ _ h => h) (Or.inl ⟨by rfl, ?_⟩) hHeld ?_ ?_
  rotate_left
  · rintro w' ⟨s0, s1⟩
    go_simp
    try with_reducible rfl
  rotate_left
  · simp only [Act.put, List.setIfInBounds_toArray, List.set_cons_zero, List.set_cons_succ]
    rfl
  refine one_ (i := 7) (N := some 27) #[true, true, true, true, true, true, true, true] rfl rfl (one_of HT_.out (by kernel_rfl)) (by decide) (fun K hK => ?_)
  refine goes_ Tryd.func22 (by kernel_rfl) rfl #[vN, .string ib] (by rfl) rfl rfl (by first | done | rfl | (simp only [List.map_toArray, List.map_cons, List.map_nil]; done) | (simp only [List.map_toArray, List.map_cons, List.map_nil]; rfl)) ?_
  refine (HCON.out w2.drew (J2.out.n.below (below_drewN (Below.refl _ _) 1))).mono ?_
  rintro e' w4 ⟨rfl, rfl⟩
  refine ⟨_, rfl, ?_⟩
  refine hK.out _ _ (⟨n3, p0⟩) (fun hHeld => ?_)
  clear hK K
  refine norm_ (a' := ?_) ?_ ?_
  rotate_left
  · show Act.put _ (some 27) _ = _
    simp only [Act.put, List.setIfInBounds_toArray, List.set_cons_zero, List.set_cons_succ]
    rfl
  refine done_ (done_of HT_.out (by kernel_rfl)) ?_
  clear HT_ HW_
  have M3 := Lib.hid M2.out.drew
  have P3 := Lib.hid P2.out.drew
  have B3 := Lib.hid (show Below w.heap.size w w2.drew from below_drewN B2.out 1)
  have J3 := Lib.hid (HJ.out.below B3.out)
  have s1 : w2.drew.cell? ⟨j, 1, none⟩ = some vS := J3.out.hj.cell 1
  clear n3 p0
  go_upto_region 6 with fail
  go_wp2_with fail
  refine (HIX.out w2.drew gp J3.out P3.out).mono ?_
  rintro e w4 ⟨rfl, b4⟩
  have B4 := Lib.hid (B3.out.trans (b4.mono B3.out.size))
  have M4 := Lib.hid (M3.out.below b4 M3.out.lt)
  have P4 := Lib.hid (P3.out.below b4 P3.out.lt)
  have J4 := Lib.hid (HJ.out.below B4.out)
  clear b4 s1 J3 B3 P3 M3 J2 B2 P2 M2 HIX HCON HR
  obtain ⟨t, b, off, cap, hT, hv, hcell, hm⟩ := J4.out.at_ i HI.out
  have s1 : w4.cell? ⟨j, 1, none⟩ = some vS := J4.out.hj.cell 1
  rw [hv] at s1
  obtain ⟨n, hn⟩ : ∃ n, Hid (J.some.length = n) := ⟨_, Lib.hid rfl⟩
  rw [hn.out] at s1
  have e1 : 0 ≤ (i : Int) ∧ (i : Int) < (n : Int) := by have := HI.out; have := hn.out; omega
  have HM := Lib.hid hm
  have HT := Lib.hid hT
  obtain ⟨m, hme⟩ : ∃ m, Hid (J.some[i]'HI.out = m) := ⟨_, Lib.hid rfl⟩
  rw [hme.out] at HM
  have HMI : Hid (J.some[i]? = some m) := Lib.hid (by rw [List.getElem?_eq_getElem HI.out, hme.out])
  obtain ⟨mb, MB⟩ : ∃ t : ByteArray, Hid (⟨m.sum.toArray⟩ = t) := ⟨_, Lib.hid rfl⟩
  obtain ⟨L, hL⟩ : ∃ n, Hid (m.pcs.length = n) := ⟨_, Lib.hid rfl⟩
  have xc : ∀ W, Blk W t.x 72 (msC t m) → Blk W t.x 72 #[.string ⟨m.id.toArray⟩, .string mb, .slice (some ⟨t.p, 0, none⟩) L L, .slice (some ⟨t.c, 0, none⟩) L L, .int .i64 m.left] := fun W hW => by rw [← MB.out, ← hL.out]; exact hW
  have X4 := Lib.hid (xc _ HM.out.x)
  clear hT hm hv xc
  go_upto_region 11 with fail
  clear s1 hcell
  have x1 : w4.drew.cell? ⟨t.x, 1, none⟩ = some (.string mb) := X4.out.cell 1
  have x2 : w4.drew.cell? ⟨t.x, 2, none⟩ = some (.slice (some ⟨t.p, 0, none⟩) L L) := X4.out.cell 2
  have p1 : w4.drew.cell? ⟨gp, 1, none⟩ = some (.string sm) := P4.out.cell 1
  have p4 : w4.drew.cell? ⟨gp, 4, none⟩ = some (.int .i64 (N : Nat)) := P4.out.cell 4
  have hm1 := (hm0 m HMI.out).1
  rw [hL.out, hN.out] at hm1
  have he : (mb.toList == sm.toList) = true := by rw [← MB.out, ← SM.out, ByteArray.toList_eq, ByteArray.toList_eq]; exact beq_iff_eq.mpr hm1.1
  have hl : ((L : Int) != (N : Int)) = false := by have := hm1.2; (rw [bne_eq_false_iff_eq]; omega)
  have HM1 := Lib.hid hm1
  clear hm1
  refine start_ (n := 18) (S := fun w' => w'.cell? ⟨t.x, 1, none⟩ = some (.string mb) ∧ w'.cell? ⟨t.x, 2, none⟩ = some (.slice (some ⟨t.p, 0, none⟩) L L) ∧ w'.cell? ⟨gp, 1, none⟩ = some (.string sm) ∧ w'.cell? ⟨gp, 4, none⟩ = some (.int .i64 (N : Nat))) (ds := []) #[false, false, false, false, false, false, false, false, false, false, false, false, false, false, false, false, false, false] (by kernel_rfl) rfl rfl ⟨x1, x2, p1, p4⟩ (fun hHeld => ?_)
  refine with_tabW tk11.tab tk11.bits (fun HT_ HW_ => ?_)
  refine pure_ (i := 0) (N := some 72) (v := ?_) (a' := ?_) #[true, false, false, false, false, false, false, false, false, false, false, false, false, false, false, false, false, false] rfl rfl (any_of HT_.out (by kernel_rfl)) (fun _ _ _ h => h) (Or.inl ⟨by rfl, ?_⟩) ?_ ?_
  rotate_left
  · intro w'
    go_simp
    try with_reducible rfl
  rotate_left
  · simp only [Act.put, List.setIfInBounds_toArray, List.set_cons_zero, List.set_cons_succ]
    rfl
  refine pure_ (i := 1) (N := some 73) (v := ?_) (a' := ?_) #[true, true, false, false, false, false, false, false, false, false, false, false, false, false, false, false, false, false] rfl rfl (any_of HT_.out (by kernel_rfl)) (fun _ _ _ h => h) (Or.inl ⟨by rfl, ?_⟩) ?_ ?_
  rotate_left
  · intro w'
    go_simp
    try with_reducible rfl
  rotate_left
  · simp only [Act.put, List.setIfInBounds_toArray, List.set_cons_zero, List.set_cons_succ]
    rfl
  refine pure_ (i := 2) (N := some 74) (v := ?_) (a' := ?_) #[true, true, true, false, false, false, false, false, false, false, false, false, false, false, false, false, false, false] rfl rfl (any_of HT_.out (by kernel_rfl)) (fun _ _ _ h => h) (Or.inl ⟨by rfl, ?_⟩) ?_ ?_
  rotate_left
  · intro w'
    go_simp
    try with_reducible rfl
  rotate_left
  · simp only [Act.put, List.setIfInBounds_toArray, List.set_cons_zero, List.set_cons_succ]
    rfl
  refine pure_ (i := 4) (N := some 76) (v := ?_) (a' := ?_) #[true, true, true, false, true, false, false, false, false, false, false, false, false, false, false, false, false, false] rfl rfl (any_of HT_.out (by kernel_rfl)) (fun _ _ _ h => h) (Or.inl ⟨by rfl, ?_⟩) ?_ ?_
  rotate_left
  · intro w'
    go_simp
    try with_reducible rfl
  rotate_left
  · simp only [Act.put, List.setIfInBounds_toArray, List.set_cons_zero, List.set_cons_succ]
    rfl
  refine take_ (i := 3) (N := some 75) (v := ?_) (a' := ?_) #[true, true, true, true, true, false, false, false, false, false, false, false, false, false, false, false, false, false] rfl rfl (take_ofW HT_.out HW_.out (by kernel_rfl)) (fun _ _ _ h => h) (Or.inl ⟨by rfl, ?_⟩) hHeld ?_ ?_
  rotate_left
  · rintro w' ⟨s0, s1, s2, s3⟩
    go_simp
    try with_reducible rfl
  rotate_left
  · simp only [Act.put, List.setIfInBounds_toArray, List.set_cons_zero, List.set_cons_succ]
    rfl
  refine take_ (i := 5) (N := some 77) (v := ?_) (a' := ?_) #[true, true, true, true, true, true, false, false, false, false, false, false, false, false, false, false, false, false] rfl rfl (take_ofW HT_.out HW_.out (by kernel_rfl)) (fun _ _ _ h => h) (Or.inl ⟨by rfl, ?_⟩) hHeld ?_ ?_
  rotate_left
  · rintro w' ⟨s0, s1, s2, s3⟩
    go_simp
    try with_reducible rfl
  rotate_left
  · simp only [Act.put, List.setIfInBounds_toArray, List.set_cons_zero, List.set_cons_succ]
    rfl
  refine pure_ (i := 6) (N := some 78) (v := ?_) (a' := ?_) #[true, true, true, true, true, true, true, false, false, false, false, false, false, false, false, false, false, false] rfl rfl (any_of HT_.out (by kernel_rfl)) (fun _ _ _ h => h) (Or.inl ⟨by rfl, ?_⟩) ?_ ?_
  rotate_left
  · intro w'
    go_simp
    try with_reducible rfl
  rotate_left
  · simp only [Act.put, List.setIfInBounds_toArray, List.set_cons_zero, List.set_cons_succ]
    rfl
  refine pure_ (i := 7) (N := some 79) (v := ?_) (a' := ?_) #[true, true, true, true, true, true, true, true, false, false, false, false, false, false, false, false, false, false] rfl rfl (any_of HT_.out (by kernel_rfl)) (fun _ _ _ h => h) (Or.inl ⟨by rfl, ?_⟩) ?_ ?_
  rotate_left
  · intro w'
    go_simp
    try with_reducible rfl
  rotate_left
  · simp only [Act.put, List.setIfInBounds_toArray, List.set_cons_zero, List.set_cons_succ]
    rfl
  refine pure_ (i := 8) (N := some 80) (v := ?_) (a' := ?_) #[true, true, true, true, true, true, true, true, true, false, false, false, false, false, false, false, false, false] rfl rfl (any_of HT_.out (by kernel_rfl)) (fun _ _ _ h => h) (Or.inl ⟨by rfl, ?_⟩) ?_ ?_
  rotate_left
  · intro w'
    go_simp
    try with_reducible rfl
  rotate_left
  · simp only [Act.put, List.setIfInBounds_toArray, List.set_cons_zero, List.set_cons_succ]
    rfl
  refine pure_ (i := 9) (N := some 81) (v := ?_) (a' := ?_) #[true, true, true, true, true, true, true, true, true, true, false, false, false, false, false, false, false, false] rfl rfl (any_of HT_.out (by kernel_rfl)) (fun _ _ _ h => h) (Or.inl ⟨by rfl, ?_⟩) ?_ ?_
  rotate_left
  · intro w'
    go_simp
    try with_reducible rfl
  rotate_left
  · simp only [Act.put, List.setIfInBounds_toArray, List.set_cons_zero, List.set_cons_succ]
    rfl
  refine pure_ (i := 10) (N := some 82) (v := ?_) (a' := ?_) #[true, true, true, true, true, true, true, true, true, true, true, false, false, false, false, false, false, false] rfl rfl (any_of HT_.out (by kernel_rfl)) (fun _ _ _ h => h) (Or.inl ⟨by rfl, ?_⟩) ?_ ?_
  rotate_left
  · intro w'
    go_simp
    try with_reducible rfl
  rotate_left
  · simp only [Act.put, List.setIfInBounds_toArray, List.set_cons_zero, List.set_cons_succ]
    rfl
  refine pure_ (i := 13) (N := some 85) (v := ?_) (a' := ?_) #[true, true, true, true, true, true, true, true, true, true, true, false, false, true, false, false, false, false] rfl rfl (any_of HT_.out (by kernel_rfl)) (fun _ _ _ h => h) (Or.inl ⟨by rfl, ?_⟩) ?_ ?_
  rotate_left
  · intro w'
    go_simp
    try with_reducible rfl
  rotate_left
  · simp only [Act.put, List.setIfInBounds_toArray, List.set_cons_zero, List.set_cons_succ]
    rfl
  refine take_ (i := 11) (N := some 83) (v := ?_) (a' := ?_) #[true, true, true, true, true, true, true, true, true, true, true, true, false, true, false, false, false, false] rfl rfl (take_ofW HT_.out HW_.out (by kernel_rfl)) (fun _ _ _ h => h) (Or.inl ⟨by rfl, ?_⟩) hHeld ?_ ?_
  rotate_left
  · rintro w' ⟨s0, s1, s2, s3⟩
    go_simp
    try with_reducible rfl
  rotate_left
  · simp only [Act.put, List.setIfInBounds_toArray, List.set_cons_zero, List.set_cons_succ]
    rfl
  refine pure_ (i := 12) (N := some 84) (v := ?_) (a' := ?_) #[true, true, true, true, true, true, true, true, true, true, true, true, true, true, false, false, false, false] rfl rfl (any_of HT_.out (by kernel_rfl)) (fun _ _ _ h => h) (Or.inl ⟨by rfl, ?_⟩) ?_ ?_
  rotate_left
  · intro w'
    go_simp
    try with_reducible rfl
  rotate_left
  · simp only [Act.put, List.setIfInBounds_toArray, List.set_cons_zero, List.set_cons_succ]
    rfl
  refine take_ (i := 14) (N := some 86) (v := ?_) (a' := ?_) #[true, true, true, true, true, true, true, true, true, true, true, true, true, true, true, false, false, false] rfl rfl (take_ofW HT_.out HW_.out (by kernel_rfl)) (fun _ _ _ h => h) (Or.inl ⟨by rfl, ?_⟩) hHeld ?_ ?_
  rotate_left
  · rintro w' ⟨s0, s1, s2, s3⟩
    go_simp
    try with_reducible rfl
  rotate_left
  · simp only [Act.put, List.setIfInBounds_toArray, List.set_cons_zero, List.set_cons_succ]
    rfl
  refine pure_ (i := 15) (N := some 87) (v := ?_) (a' := ?_) #[true, true, true, true, true, true, true, true, true, true, true, true, true, true, true, true, false, false] rfl rfl (any_of HT_.out (by kernel_rfl)) (fun _ _ _ h => h) (Or.inl ⟨by rfl, ?_⟩) ?_ ?_
  rotate_left
  · intro w'
    go_simp
    try with_reducible rfl
  rotate_left
  · simp only [Act.put, List.setIfInBounds_toArray, List.set_cons_zero, List.set_cons_succ]
    rfl
  refine pure_ (i := 16) (N := some 88) (v := ?_) (a' := ?_) #[true, true, true, true, true, true, true, true, true, true, true, true, true, true, true, true, true, false] rfl rfl (any_of HT_.out (by kernel_rfl)) (fun _ _ _ h => h) (Or.inl ⟨by rfl, ?_⟩) ?_ ?_
  rotate_left
  · intro w'
    go_simp
    try with_reducible rfl
  rotate_left
  · simp only [Act.put, List.setIfInBounds_toArray, List.set_cons_zero, List.set_cons_succ]
    rfl
  refine pure_ (i := 17) (N := some 71) (v := ?_) (a' := ?_) #[true, true, true, true, true, true, true, true, true, true, true, true, true, true, true, true, true, true] rfl rfl (any_of HT_.out (by kernel_rfl)) (fun _ _ _ h => h) (Or.inl ⟨by rfl, ?_⟩) ?_ ?_
  rotate_left
  · intro w'
    go_simp
    try with_reducible rfl
  rotate_left
  · simp only [Act.put, List.setIfInBounds_toArray, List.set_cons_zero, List.set_cons_succ]
    rfl
  refine done_ (done_of HT_.out (by kernel_rfl)) ?_
  clear HT_ HW_
  try simp only [hl, Bool.not_false, Bool.not_true]
  have M5 := Lib.hid M4.out.drew
  have P5 := Lib.hid P4.out.drew
  have X5 := Lib.hid X4.out.drew
  have B5 := Lib.hid (show Below w.heap.size w w4.drew from below_drewN B4.out 1)
  clear x1 x2 p1 p4 he hl
  obtain ⟨c5, c5'⟩ : w4.drew.cell? ⟨t.c, A, none⟩ = some (.bool true) ∧ A < L := by
    have hc := hm0 m HMI.out
    obtain ⟨⟨_, hc2⟩, hc3⟩ := hc
    rw [hA.out] at hc3
    have := (HM.out.c.drew.cell A)
    refine ⟨this.trans ?_, ?_⟩
    · simp [bls, hc3]
    · have := (List.getElem?_eq_some_iff.1 hc3).1; have := HM.out.l; have := hL.out; omega
  have x3 : w4.drew.cell? ⟨t.x, 3, none⟩ = some (.slice (some ⟨t.c, 0, none⟩) L L) := X5.out.cell 3
  have p3 : w4.drew.cell? ⟨gp, 3, none⟩ = some (.int .i64 (A : Nat)) := P5.out.cell 3
  have e3 : 0 ≤ (A : Int) ∧ (A : Int) < (L : Int) := by omega
  go_upto_region 13 with fail
  refine start_ (n := 9) (S := fun w' => w'.cell? ⟨t.x, 3, none⟩ = some (.slice (some ⟨t.c, 0, none⟩) L L) ∧ w'.cell? ⟨gp, 3, none⟩ = some (.int .i64 (A : Nat)) ∧ w'.cell? ⟨t.c, A, none⟩ = some (.bool true)) (ds := []) #[false, false, false, false, false, false, false, false, false] (by kernel_rfl) rfl rfl ⟨x3, p3, c5⟩ (fun hHeld => ?_)
  refine with_tabW tk13.tab tk13.bits (fun HT_ HW_ => ?_)
  refine pure_ (i := 0) (N := some 91) (v := ?_) (a' := ?_) #[true, false, false, false, false, false, false, false, false] rfl rfl (any_of HT_.out (by kernel_rfl)) (fun _ _ _ h => h) (Or.inl ⟨by rfl, ?_⟩) ?_ ?_
  rotate_left
  · intro w'
    go_simp
    try with_reducible rfl
  rotate_left
  · simp only [Act.put, List.setIfInBounds_toArray, List.set_cons_zero, List.set_cons_succ]
    rfl
  refine pure_ (i := 1) (N := some 92) (v := ?_) (a' := ?_) #[true, true, false, false, false, false, false, false, false] rfl rfl (any_of HT_.out (by kernel_rfl)) (fun _ _ _ h => h) (Or.inl ⟨by rfl, ?_⟩) ?_ ?_
  rotate_left
  · intro w'
    go_simp
    try with_reducible rfl
  rotate_left
  · simp only [Act.put, List.setIfInBounds_toArray, List.set_cons_zero, List.set_cons_succ]
    rfl
  refine pure_ (i := 2) (N := some 93) (v := ?_) (a' := ?_) #[true, true, true, false, false, false, false, false, false] rfl rfl (any_of HT_.out (by kernel_rfl)) (fun _ _ _ h => h) (Or.inl ⟨by rfl, ?_⟩) ?_ ?_
  rotate_left
  · intro w'
    go_simp
    try with_reducible rfl
  rotate_left
  · simp only [Act.put, List.setIfInBounds_toArray, List.set_cons_zero, List.set_cons_succ]
    rfl
  refine pure_ (i := 4) (N := some 95) (v := ?_) (a' := ?_) #[true, true, true, false, true, false, false, false, false] rfl rfl (any_of HT_.out (by kernel_rfl)) (fun _ _ _ h => h) (Or.inl ⟨by rfl, ?_⟩) ?_ ?_
  rotate_left
  · intro w'
    go_simp
    try with_reducible rfl
  rotate_left
  · simp only [Act.put, List.setIfInBounds_toArray, List.set_cons_zero, List.set_cons_succ]
    rfl
  refine take_ (i := 3) (N := some 94) (v := ?_) (a' := ?_) #[true, true, true, true, true, false, false, false, false] rfl rfl (take_ofW HT_.out HW_.out (by kernel_rfl)) (fun _ _ _ h => h) (Or.inl ⟨by rfl, ?_⟩) hHeld ?_ ?_
  rotate_left
  · rintro w' ⟨s0, s1, s2⟩
    go_simp
    try with_reducible rfl
  rotate_left
  · simp only [Act.put, List.setIfInBounds_toArray, List.set_cons_zero, List.set_cons_succ]
    rfl
  refine take_ (i := 5) (N := some 96) (v := ?_) (a' := ?_) #[true, true, true, true, true, true, false, false, false] rfl rfl (take_ofW HT_.out HW_.out (by kernel_rfl)) (fun _ _ _ h => h) (Or.inl ⟨by rfl, ?_⟩) hHeld ?_ ?_
  rotate_left
  · rintro w' ⟨s0, s1, s2⟩
    go_simp
    try with_reducible rfl
  rotate_left
  · simp only [Act.put, List.setIfInBounds_toArray, List.set_cons_zero, List.set_cons_succ]
    rfl
  refine pure_ (i := 6) (N := some 97) (v := ?_) (a' := ?_) #[true, true, true, true, true, true, true, false, false] rfl rfl (any_of HT_.out (by kernel_rfl)) (fun _ _ _ h => h) (Or.inl ⟨by rfl, ?_⟩) ?_ ?_
  rotate_left
  · intro w'
    go_simp
    try with_reducible rfl
  rotate_left
  · simp only [Act.put, List.setIfInBounds_toArray, List.set_cons_zero, List.set_cons_succ]
    rfl
  refine take_ (i := 7) (N := some 98) (v := ?_) (a' := ?_) #[true, true, true, true, true, true, true, true, false] rfl rfl (take_ofW HT_.out HW_.out (by kernel_rfl)) (fun _ _ _ h => h) (Or.inl ⟨by rfl, ?_⟩) hHeld ?_ ?_
  rotate_left
  · rintro w' ⟨s0, s1, s2⟩
    go_simp
    try with_reducible rfl
  rotate_left
  · simp only [Act.put, List.setIfInBounds_toArray, List.set_cons_zero, List.set_cons_succ]
    rfl
  refine pure_ (i := 8) (N := some 90) (v := ?_) (a' := ?_) #[true, true, true, true, true, true, true, true, true] rfl rfl (any_of HT_.out (by kernel_rfl)) (fun _ _ _ h => h) (Or.inl ⟨by rfl, ?_⟩) ?_ ?_
  rotate_left
  · intro w'
    go_simp
    try with_reducible rfl
  rotate_left
  · simp only [Act.put, List.setIfInBounds_toArray, List.set_cons_zero, List.set_cons_succ]
    rfl
  refine done_ (done_of HT_.out (by kernel_rfl)) ?_
  clear HT_ HW_
  have M6 := Lib.hid M5.out.drew
  have P6 := Lib.hid P5.out.drew
  have X6 := Lib.hid X5.out.drew
  have B6 := Lib.hid (show Below w.heap.size w w4.drew.drew from below_drewN B5.out 1)
  go_wp2_with (first
    | ((with_reducible refine gate_store (t := 36) (p := 4) (v := .tmp 99) rfl ?_); refine wpList_store_row rfl 36 (.tmp 4) (.tmp 99) rfl gt zTold rfl rfl 36 zTold M6.out size_told rfl one_ztold ?_))
  have MF := Lib.hid (M6.out.setRow zTold)
  refine bodyPost_ret (results_ctt rfl _ _ gt 36 _ (0, 0) _ rfl MF.out Tryd.underlying36 rfl rfl) rfl ?_
  rw [HTF.out]
  have BF := below_of_only B6.out (only_setRow (only_refl _ _) zTold) SG.out.1 B6.out.size
  exact ⟨rfl, vS, vN, T, HJ.out.below BF, Kp.of_below BF, fun i h => .inl h⟩
end Go.Proofs.YtlogcgeinbefjaaDoor

/- Words of this session for memory and for machine words: a block known whole, only one block has turned, 32-bit words as BitVec 32, bytes as UInt8. From a law's walk ('returns true; below the call's own memory nothing has turned') to its row: what is alike for every law of a seat. SHA-256 as plain functions on lists of 32-bit words and bytes, in the program's own order of work; no program in sight. The walks of package hash's inner functions: words.at, words.grow, hasher.mix. The walk of package hash's hasher.mix. The walks of package hash's hasher.take, begin, eight. The walks of package hash's begin, eight, hasher.end. The walk of package hash's hasher.end. The walks of package hash's Sum, Bind, Short. Words of this session for a slice that the call itself made: append, make, store, read, 'string(b)', each as the equation of its run. Openers for slices of strings, of numbers, of truths among a law's arguments: what they hold, and how long together. DERIVED: THE SHELF's CONTRACTS AT THIS DUMP, IN PLAIN WORDS (tools/lay-plain.mjs out of 'TrydShelf.lean', which tools/lay-shelf.mjs wrote): THE SAME DECLARATIONS UNDER THE SAME NAMES: 'import', 'namespace', 'open', 'def', 'theorem' AND NOTHING ELSE: no command of the shelf's: FOR A HAND-IN. Each laying: the table of numbers ('.._ren') and one theorem, a field a fact of the dump's own or the kernel's comparison; each contract: ONE APPLICATION. Two equations that the printed texts of this session normalise by: a wrapped word, a wrapped byte. A row of the call's own lies in a block of its type: for printed texts that lost that fact. Printed by a program of this session (hook.py, by way of the kit's print): the functions as Lean functions, each with the proof that the Go code comes to its answers; conditions: as each theorem states. What the print does not take in layer 11: strings.Repeat, mail.join, mail.filled, mail.stranger, in the print's own form. Bytes at hand: a row of bytes that '[]byte(s)' made, read and written in place. What laws over hash share: the table below a call, slice literals of texts, joined texts. HMAC-SHA-256 as plain functions on bytes; no program in sight. An append to a slice that the call made, whatever the region: what stood in it stands as it did; as one step of a region that draws. An append of any slice's elements (wherever they lie) to a slice that the call made; of none; a made slice without elements. Slices of texts: what the call made, what it read, a copy. A slice literal as the call's own; an append of whatever slice of texts to it. The walks of package keyed: padded, Tag, Extract. The walk of keyed.Same. The gate in memory; who has an account: the walks of find, Last, Has. gate.Check: which accounts may be. gate.New. The reference's slots in the print's own form. -/
import Derived.WalkKit
import Derived.Below
import Derived.Deep.Draws
import Derived.Deep.QuietTactic
import Derived.BigQuiet
import Derived.StillTailTactics
import Derived.IntWalk
import Derived.Laws.BitsAllLaws
import Derived.Laws.Rows
import Derived.Laws.CopyRow
import Derived.Laws.BytesArg
import Derived.Lib.Hide
import Derived.Test.YtjmgkjjcdnaapaaDoorProg
import Derived.ProofKit
import Derived.OpenShut
import Derived.ChangeSame
import Derived.Carry
import Derived.SliceStrings
import Derived.SizedLaws
import Derived.Deep.DeepHandedRow
import Derived.Lib.LaidTab
import Derived.Outline
import Derived.Deep.LoopGhost
import Derived.Lib.AppendStr
import Derived.Laws.OwnMore
import Derived.OwnWalk
import Derived.Test.YtjmgkjjcdnaapaaDoorRows
import Derived.Shelf.Strings.OnBuilder
import Derived.Shelf.Strings.Repeat
import Derived.Test.YtjmgkjjcdnaapaaDoorWWords
import Derived.Deep.AppendLies
import Derived.Maps.AppendAt
import Derived.Laws.MakeOwn
import Derived.Deep.OwnRows
import Derived.Tactics
import Derived.Lib.ConvBytes
import Derived.Laws.Slices
import Derived.KernelRfl
import Derived.RowKit3
import Derived.WideLaws
import Derived.Deep.DeepCutAuto
import Derived.Deep.CutBlock
import Derived.Deep.RegionHeld3
import Derived.ArgAppend
import Derived.Laws.IdiomCopy
import Derived.OrdersHeld
import Derived.Laws.BitsLemmas
import Derived.RowKit
import Derived.Test.YtjmgkjjcdnaapaaDoorWLast
import Derived.Test.YtjmgkjjcdnaapaaDoorWTab
import Derived.Test.YtjmgkjjcdnaapaaDoorWQPut
import Derived.Test.YtjmgkjjcdnaapaaDoorWApart
import Derived.Test.YtjmgkjjcdnaapaaDoorWArr
import Derived.Test.YtjmgkjjcdnaapaaDoorWZeros
import Derived.Test.YtjmgkjjcdnaapaaDoorWFoot
import Derived.Test.YtjmgkjjcdnaapaaDoorWKept
import Derived.Test.YtjmgkjjcdnaapaaDoorWShare
import Derived.Test.YtjmgkjjcdnaapaaDoorWN
import Derived.Test.YtjmgkjjcdnaapaaDoorWEqStruct
import Derived.Test.YtjmgkjjcdnaapaaDoorWRepsOne
import Derived.Test.YtjmgkjjcdnaapaaDoorWInv
import Derived.Test.YtjmgkjjcdnaapaaDoorWNEv
import Derived.Test.YtjmgkjjcdnaapaaDoorWMore
import Derived.RegionTactic
import Derived.BigRegion
namespace Go.Proofs.YtjmgkjjcdnaapaaDoor
open Go.RowKit

/-! ### blocks -/
def Blk (w : World) (g : Nat) (t : TypeId) (cs : Array Value) : Prop := w.heap[g]? = some (.cells cs t (0, 0))

section
variable {w w' : World} {g : Nat} {t : TypeId} {cs : Array Value}
theorem Blk.lt (h : Blk w g t cs) : g < w.heap.size := by
  rcases Nat.lt_or_ge g w.heap.size with hlt | hge
  · exact hlt
  · unfold Blk at h; rw [Array.getElem?_eq_none hge] at h; cases h
theorem Blk.cell (h : Blk w g t cs) (i : Nat) : w.cell? ⟨g, i, none⟩ = cs[i]? := cell_of_row w g i cs t (0, 0) h
theorem Blk.frozen (h : Blk w g t cs) (i : Nat) : w.frozen? ⟨g, i, none⟩ = false := by
  unfold Blk at h
  simp [World.frozen?, h]
theorem Blk.new (w : World) (t : TypeId) (cs : Array Value) : Blk (w.alloc (.cells cs t)) w.heap.size t cs := heap_alloc_new w _
theorem Blk.drew (h : Blk w g t cs) : Blk w.drew g t cs := h
theorem Blk.drewN (h : Blk w g t cs) (n : Nat) : Blk (w.drewN n) g t cs := h
theorem Blk.alloc (h : Blk w g t cs) (o : Obj) : Blk (w.alloc o) g t cs := (Below.heap_alloc w o g h.lt).trans h
theorem Blk.set_ (h : Blk w g t cs) (i : Nat) (u : Value) : Blk (w.setCell ⟨g, i, none⟩ u) g t (cs.setIfInBounds i u) := by
  unfold Blk at h ⊢
  simp [World.setCell, Array.getElem?_modify, h]
theorem Blk.far (h : Blk w g t cs) {p : Addr} (hp : g ≠ p.block) (u : Value) : Blk (w.setCell p u) g t cs := (Below.heap_setCell w p u g hp).trans h
theorem Blk.below {B : Nat} (h : Blk w g t cs) (hb : Below B w w') (hg : g < B) : Blk w' g t cs := (hb.block g hg).trans h
theorem Blk.grown {row : Option Nat} (h : Blk w g t cs) (hb : w.grownBy w' row) (hg : some g ≠ row) : Blk w' g t cs := (hb.block g h.lt hg).trans h
end

theorem below_drewN {B : Nat} {a w : World} (h : Below B a w) (n : Nat) : Below B a (w.drewN n) := ⟨h.os, h.tape, h.output, h.size, h.block⟩
theorem only_refl (w : World) (row : Option Nat) : w.grownBy w row := ⟨rfl, rfl, rfl, Nat.le_refl _, fun _ _ _ => rfl⟩
theorem only_trans {a b c : World} {row : Option Nat} (h : a.grownBy b row) (k : b.grownBy c row) : a.grownBy c row :=
  ⟨k.os.trans h.os, k.tape.trans h.tape, k.output.trans h.output, Nat.le_trans h.size k.size, fun i hi hn => (k.block i (Nat.lt_of_lt_of_le hi h.size) hn).trans (h.block i hi hn)⟩
theorem only_drewN {a w : World} {row : Option Nat} (h : a.grownBy w row) (n : Nat) : a.grownBy (w.drewN n) row := ⟨h.os, h.tape, h.output, h.size, h.block⟩
theorem only_drew {a w : World} {row : Option Nat} (h : a.grownBy w row) : a.grownBy w.drew row := ⟨h.os, h.tape, h.output, h.size, h.block⟩
theorem only_alloc {a w : World} {row : Option Nat} (h : a.grownBy w row) (o : Obj) : a.grownBy (w.alloc o) row :=
  ⟨h.os, h.tape, h.output, Nat.le_trans h.size (by simp), fun i hi hne => (Below.heap_alloc w o i (Nat.lt_of_lt_of_le hi h.size)).trans (h.block i hi hne)⟩
theorem only_set {a w : World} {g : Nat} (h : a.grownBy w (some g)) {p : Addr} (hp : p.block = g ∨ a.heap.size ≤ p.block) (u : Value) : a.grownBy (w.setCell p u) (some g) :=
  ⟨h.os, h.tape, h.output, by simpa [World.setCell] using h.size, fun i hi hne => (Below.heap_setCell w p u i (by
    rintro rfl
    rcases hp with hp | hp
    · exact hne (by rw [hp])
    · omega)).trans (h.block i hi hne)⟩
/-- a block that is new since a: what turns in it does not count. -/
theorem only_new {a w w' : World} {row : Option Nat} {g : Nat} (h : a.grownBy w row) (k : w.grownBy w' (some g)) (hg : a.heap.size ≤ g) : a.grownBy w' row :=
  ⟨k.os.trans h.os, k.tape.trans h.tape, k.output.trans h.output, Nat.le_trans h.size k.size, fun i hi hn => (k.block i (Nat.lt_of_lt_of_le hi h.size) (by
    intro e
    injection e with e
    omega)).trans (h.block i hi hn)⟩
theorem only_of_below {a w w' : World} {row : Option Nat} (h : a.grownBy w row) (k : Below w.heap.size w w') : a.grownBy w' row :=
  ⟨k.os.trans h.os, k.tape.trans h.tape, k.output.trans h.output, Nat.le_trans h.size k.size, fun i hi hn => (k.block i (Nat.lt_of_lt_of_le hi h.size)).trans (h.block i hi hn)⟩
theorem below_of_only {B : Nat} {a w w' : World} {g : Nat} (h : Below B a w) (k : w.grownBy w' (some g)) (hg : B ≤ g) (hB : B ≤ w.heap.size) : Below B a w' :=
  ⟨k.os.trans h.os, k.tape.trans h.tape, k.output.trans h.output, Nat.le_trans h.size k.size, fun i hi => (k.block i (Nat.lt_of_lt_of_le hi hB) (by
    intro e
    injection e with e
    omega)).trans (h.block i hi)⟩

theorem Blk.setRow {w : World} {g : Nat} {t : TypeId} {cs : Array Value} (h : Blk w g t cs) (cs' : Array Value) : Blk (w.setRow g cs') g t cs' := setRow_heap w g cs cs' t (0, 0) h
theorem heap_setRow_other (w : World) (g : Nat) (cs : Array Value) (k : Nat) (h : k ≠ g) : (w.setRow g cs).heap[k]? = w.heap[k]? := by
  unfold World.setRow
  simp [Array.getElem?_modify, Ne.symm h]
theorem only_setRow {a w : World} {g : Nat} (h : a.grownBy w (some g)) (cs : Array Value) : a.grownBy (w.setRow g cs) (some g) :=
  ⟨h.os, h.tape, h.output, by simpa using h.size, fun i hi hne => (heap_setRow_other w g cs i (fun e => hne (by rw [e]))).trans (h.block i hi hne)⟩

/-- a region that draws, reads, and ends in one forced tail: in the spelling 'w.drew'. -/
theorem still_tail {P : Program} {id : Nat} {Q : Exit → Act → World → Prop} {a : Act} {w : World} {l : List Oper} (n : Nat) (hm : P.follows .mixedOrders = true) (hB : Region.lexTailB .any l.toArray n = true)
    (h : wpStill P l.toArray w.drew (fun a' => wpList P l.toArray Q (l.drop n) a' w.drew) (l.take n) a) : (Code.region id l.toArray true).wp P Q a w := wp_region_still_tail n hm hB h

theorem quiet_add_same {P : Program} {f : FuncId} {args : Array Value} {w : World} {a n : Nat} {v : Value}
    (h : Calls P f args (w.drewN (a + n)) fun e w' => e = .returned v ∧ w' = w.drewN (a + n)) :
    Calls P f args (w.drewN (a + n)) fun e w'' => e = .returned v ∧ ∃ m, w'' = w.drewN (a + m) :=
  h.mono fun _ _ ⟨he, hm⟩ => ⟨he, n, hm⟩

/-! ### words -/
theorem wrap_u64e (n : Int) : IntKind.u64.wrap n = n % 18446744073709551616 := by simp [IntKind.wrap, IntKind.bits, IntKind.signed]
/-- a word as the machine's number; its own name, so that no rule of the walk's turns it. -/
def n32 (x : BitVec 32) : Int := x.toNat
theorem v32_add (x y : BitVec 32) : (n32 x + n32 y) % 4294967296 = n32 (x + y) := by
  unfold n32; rw [BitVec.toNat_add]; omega
theorem v32_xor (x y : BitVec 32) : bits .xor .u32 (n32 x) (n32 y) = n32 (x ^^^ y) := by
  unfold n32; rw [u32_xor_nat _ _ x.isLt y.isLt, BitVec.toNat_xor]
theorem v32_or (x y : BitVec 32) : bits .or .u32 (n32 x) (n32 y) = n32 (x ||| y) := by
  unfold n32; rw [u32_or_nat _ _ x.isLt y.isLt, BitVec.toNat_or]
theorem v32_and (x y : BitVec 32) : bits .and .u32 (n32 x) (n32 y) = n32 (x &&& y) := by
  unfold n32; rw [u32_and_nat _ _ x.isLt y.isLt, BitVec.toNat_and]
theorem v32_shr_nat (x : BitVec 32) (n : Nat) : n32 x / (2 ^ n : Nat) = n32 (x >>> n) := by
  unfold n32; rw [BitVec.toNat_ushiftRight, Nat.shiftRight_eq_div_pow]; omega
theorem v32_shl_nat (x : BitVec 32) (n : Nat) : (n32 x * (2 ^ n : Nat)) % 4294967296 = n32 (x <<< n) := by
  unfold n32
  rw [BitVec.toNat_shiftLeft, Nat.shiftLeft_eq, ← Int.natCast_mul]
  generalize x.toNat * 2 ^ n = m
  omega
theorem v32_shr3 (x : BitVec 32) : n32 x / (8 : Int) = n32 (x >>> 3) := v32_shr_nat x 3
theorem v32_shr10 (x : BitVec 32) : n32 x / (1024 : Int) = n32 (x >>> 10) := v32_shr_nat x 10
theorem v32_shl8 (x : BitVec 32) : n32 x * (256 : Int) % (4294967296 : Int) = n32 (x <<< 8) := v32_shl_nat x 8
def bd (l : List UInt8) (i : Nat) : UInt8 := l.getD i 0
/-- a byte as the machine's number. -/
def n8 (b : UInt8) : Int := b.toNat
theorem n8_bd (x : UInt8) : 0 ≤ n8 x ∧ n8 x < 256 := ⟨by unfold n8; omega, by unfold n8; have := x.toNat_lt; omega⟩
/-- a byte as a word. -/
def u8w (b : UInt8) : BitVec 32 := BitVec.ofNat 32 b.toNat
theorem u8w_n32 (b : UInt8) : n32 (u8w b) = n8 b := by
  unfold n32 n8 u8w; rw [BitVec.toNat_ofNat, Nat.mod_eq_of_lt (by have := b.toNat_lt; omega)]
theorem n8_m32 (b : UInt8) : n8 b % (4294967296 : Int) = n32 (u8w b) := by rw [u8w_n32]; have := n8_bd b; omega
/-- the lowest byte of a word. -/
def w8 (x : BitVec 32) : UInt8 := UInt8.ofNat x.toNat
theorem w8_n8 (x : BitVec 32) : n32 x % 256 = n8 (w8 x) := by
  unfold n32 n8 w8; simp
/-- a shift by a count within the width, as the walk has it. -/
theorem v32_shl_var (x : BitVec 32) (c : Int) (k : Nat) (hc : c = k) (hk : k ≤ 32) : IntKind.u32.wrap (n32 x * 2 ^ min c.toNat 32) = n32 (x <<< k) := by
  subst hc
  rw [IntKind.wrap_u32', Int.toNat_natCast, Nat.min_eq_left hk, ← v32_shl_nat, Int.natCast_pow]
  rfl
theorem v32_shr_var (x : BitVec 32) (c : Int) (k : Nat) (hc : c = k) (hk : k ≤ 32) : n32 x / 2 ^ min c.toNat 32 = n32 (x >>> k) := by
  subst hc
  rw [Int.toNat_natCast, Nat.min_eq_left hk, ← v32_shr_nat, Int.natCast_pow]
  rfl
/-- bytes as cells. -/
def cb (l : List UInt8) : List Value := l.map fun x => .int .u8 (n8 x)
/-- 'copy(dst, s)', dst lying in a block that is known whole. -/
theorem run_copy_str {P : Program} (w : World) (dT sT ty elem : TypeId) (g o dLen dCap : Nat) (l : List UInt8) (cur : Array Value) (t : TypeId) (m : Nat)
    (hu : P.underlying dT = some (.slice elem)) (hs : (P.info? elem).map (·.size) = some 1) (hg : Blk w g t cur) (hm : m = Nat.min l.length dLen) (hfit : o + m ≤ cur.size) :
    (Builtin.copy_ #[dT, sT] ty #[.slice (some ⟨g, o, none⟩) dLen dCap, .string ⟨l.toArray⟩]).run P w =
      .ok (goInt m) (w.setRow g (cur.toList.take o ++ cb (l.take m) ++ cur.toList.drop (o + m)).toArray) := by
  have hlen : (cb (l.take m)).length = m := by rw [hm]; simp [cb, Nat.min_def]; split <;> omega
  have hst := run_storeCells_at (P := P) g o t (cb (l.take m)) 0 cur w hg (by rw [hlen]; simpa using hfit) (by
    intro v hv
    obtain ⟨b, _, rfl⟩ := List.mem_map.1 hv
    rfl)
  rw [hlen] at hst
  simp only [Nat.add_zero] at hst
  have htk : List.take m (List.map (fun b : UInt8 => Value.int IntKind.u8 (b.toNat : Int)) l) = cb (l.take m) := by
    rw [← List.map_take]; rfl
  cases hq : P.info? elem with
  | none => simp [hq] at hs
  | some i =>
    have hsz : (⟨l.toArray⟩ : ByteArray).size = l.length := by simp [ByteArray.size]
    simp [Builtin.copy_, run_underlying hu, Builtin.lenOf, Builtin.firstCells, sizeOf, typeInfo, hq, hsz, ← hm]
    rw [htk, hst]
    simp [Result.andThen]
theorem strOfNums_n8 (l : List UInt8) : strOfNums (l.map n8) = ⟨l.toArray⟩ := by
  unfold strOfNums
  rw [List.map_map]
  congr 2
  rw [show ((fun n : Int => UInt8.ofNat n.toNat) ∘ n8) = id from by
    funext b
    simp [n8]]
  simp
/-- 'string(b)', b a slice over bytes that are known. -/
theorem run_bytes_cells {P : Program} (w : World) (src dst e : TypeId) (hs : P.underlying src = some (.slice e)) (he : P.underlying e = some (.int .u8)) (hd : P.underlying dst = some .string)
    (g off cap : Nat) (l : List UInt8) (n : Nat) (hn : l.length = n) (hc : ∀ i, i < n → w.cell? ⟨g, off + i, none⟩ = some (.int .u8 (n8 (bd l i)))) :
    (convert src dst (.slice (some ⟨g, off, none⟩) n cap)).run P w = .ok (.string ⟨l.toArray⟩) w := by
  have := run_convert_bytes_arg (P := P) (w := w) src e hs he g off n cap (l.map n8) (by simpa using hn) (by
    intro i hi
    rw [hc i hi]
    simp [bd, List.getElem?_eq_getElem (show i < l.length by omega)]) dst hd
  rw [this, strOfNums_n8]
theorem cb_get (l : List UInt8) (i : Nat) (h : i < l.length) : (cb l).toArray[i]? = some (.int .u8 (n8 (bd l i))) := by
  simp [cb, bd, List.getElem?_eq_getElem h]
theorem cb_set (l : List UInt8) (i : Nat) (x : UInt8) : (cb l).toArray.setIfInBounds i (.int .u8 (n8 x)) = (cb (l.set i x)).toArray := by
  simp [cb, List.map_set]
theorem n8_shr (n k : Nat) : ((n : Int) / 2 ^ k) % 256 = n8 (UInt8.ofNat (n / 2 ^ k)) := by
  unfold n8
  rw [UInt8.toNat_ofNat']
  have : ((2 : Int) ^ k) = ((2 ^ k : Nat) : Int) := by rw [Int.natCast_pow]; rfl
  rw [this]
  omega
theorem extract_eq (l : List UInt8) (m : Nat) : (⟨l.toArray⟩ : ByteArray).extract m l.length = ⟨(l.drop m).toArray⟩ := by
  apply ByteArray.ext
  rw [ByteArray.data_extract]
  simp [List.take_of_length_le]
end Go.Proofs.YtjmgkjjcdnaapaaDoor
namespace Go.Proofs.YtjmgkjjcdnaapaaDoor
open Go.ChangeShapes Go.WideShapes Go.ChangeAt Go.RowKit
open Go.ChangeMaps (open_string shut_string)
set_option linter.unusedSimpArgs false
set_option linter.unusedVariables false

theorem own : ownKnob Tryd.prog.godebug = none := by kernel_rfl
theorem laidOut : laidOutB Tryd.prog = true := by kernel_rfl

theorem trodAll_below {H : Type} {enc : TypeId × Value → H} {P : Program} (hl : laidOutB P = true) {W W' : World} (hb : Below W.heap.size W W') :
    ∀ (ts : List TypeId) (vs : List Value) (ds : List (DataW H)) (ps : List MemPlace), (∀ t ∈ ts, P.readableRec t = true ∧ t < P.types.size) →
      DataW.TrodAll enc P W 0 (fun _ => true) true ts vs ds ps → (∀ x ∈ ps, x.block < W.heap.size) → DataW.TrodAll enc P W' 0 (fun b => decide (b < W.heap.size)) true ts vs ds ps
  | [], vs, ds, ps, _, h, _ => by
    obtain ⟨rfl, rfl, rfl⟩ := trodAll_nil h
    exact trodAll_mk0
  | t :: ts, vs, ds, ps, ht, h, hlt => by
    obtain ⟨v, vs, d, ds, p, q, rfl, rfl, rfl, h0, hr⟩ := trodAll_cons h
    obtain ⟨h1, h2⟩ := ht t (List.mem_cons_self ..)
    exact trodAll_cons_mk (Below.trod hl h1 h2 h0 hb (fun x hx => hlt x (List.mem_append.2 (.inl hx))))
      (trodAll_below hl hb ts vs ds q (fun t' h' => ht t' (List.mem_cons_of_mem _ h')) hr (fun x hx => hlt x (List.mem_append.2 (.inr hx))))

/-- A LAW's POST: true, the arguments read as they did, nothing old has turned. -/
theorem post_law {H : Type} {enc : TypeId × Value → H} {P : Program} {f : Func} {s : ChangeSpec} {apart fresh handsOn : Bool} {W W' : World} {args : Array Value} {ds gs : List (DataW H)} {before : List MemPlace}
    (hl : laidOutB P = true) (hts : ∀ t ∈ f.params.toList, P.readableRec t = true ∧ t < P.types.size)
    (hW : DataW.Whole enc P f.params.toList s.vars apart W args.toList ds gs before) (hv : s.vars = []) (b : TypeId) (hb1 : f.resultTypes = #[b]) (hb2 : P.underlying b = some .bool)
    (hf1 : (s.fn H (ds ++ gs)).results = [.lit (.bool true)]) (hf2 : (s.fn H (ds ++ gs)).args = ds) (hf3 : (s.fn H (ds ++ gs)).vars = []) (hb : Below W.heap.size W W') :
    s.post enc P f apart fresh handsOn false W args (.bool true) W' := by
  have hW' := hW
  have hlt : ∀ x ∈ before, x.block < W.heap.size := fun x hx => hW.lt x hx
  obtain ⟨p, q, hA0, hV, hpq, hfz, hnd⟩ := hW
  have hA : DataW.TrodAll enc P W 0 (fun _ => true) true f.params.toList args.toList ds p := hA0
  rw [hv] at hV
  obtain ⟨rfl, rfl⟩ := trodVars_none hV
  refine ⟨ds, [], before, [], p, [], hW', ?_, ?_, ?_, hb.frame _, fun h => by cases h⟩
  · rw [hf1, hb1]
    exact trodAll_mk1 (shut_bool hb2 _)
  · rw [hf2]
    refine trodAll_below hl hb _ _ _ _ hts hA (fun x hx => hlt x ?_)
    rw [hpq]
    exact List.mem_append.2 (.inl hx)
  · rw [hv, hf3]
    rfl

/-! ### opening arguments -/
section
variable {H : Type} {enc : TypeId × Value → H} {P : Program} {w : World} {base : Nat} {sp : Nat → Bool} {held : Bool} {r : Reach} {b0 : Nat} {t : TypeId} {v : Value} {d : DataW H} {ps : List MemPlace}
end
end Go.Proofs.YtjmgkjjcdnaapaaDoor
namespace Go.Proofs.YtjmgkjjcdnaapaaDoor
set_option maxRecDepth 100000

def ksL : List (BitVec 32) := [0x428a2f98#32, 0x71374491#32, 0xb5c0fbcf#32, 0xe9b5dba5#32, 0x3956c25b#32, 0x59f111f1#32, 0x923f82a4#32, 0xab1c5ed5#32,
  0xd807aa98#32, 0x12835b01#32, 0x243185be#32, 0x550c7dc3#32, 0x72be5d74#32, 0x80deb1fe#32, 0x9bdc06a7#32, 0xc19bf174#32,
  0xe49b69c1#32, 0xefbe4786#32, 0x0fc19dc6#32, 0x240ca1cc#32, 0x2de92c6f#32, 0x4a7484aa#32, 0x5cb0a9dc#32, 0x76f988da#32,
  0x983e5152#32, 0xa831c66d#32, 0xb00327c8#32, 0xbf597fc7#32, 0xc6e00bf3#32, 0xd5a79147#32, 0x06ca6351#32, 0x14292967#32,
  0x27b70a85#32, 0x2e1b2138#32, 0x4d2c6dfc#32, 0x53380d13#32, 0x650a7354#32, 0x766a0abb#32, 0x81c2c92e#32, 0x92722c85#32,
  0xa2bfe8a1#32, 0xa81a664b#32, 0xc24b8b70#32, 0xc76c51a3#32, 0xd192e819#32, 0xd6990624#32, 0xf40e3585#32, 0x106aa070#32,
  0x19a4c116#32, 0x1e376c08#32, 0x2748774c#32, 0x34b0bcb5#32, 0x391c0cb3#32, 0x4ed8aa4a#32, 0x5b9cca4f#32, 0x682e6ff3#32,
  0x748f82ee#32, 0x78a5636f#32, 0x84c87814#32, 0x8cc70208#32, 0x90befffa#32, 0xa4506ceb#32, 0xbef9a3f7#32, 0xc67178f2#32]
def iv : List (BitVec 32) := [0x6a09e667#32, 0xbb67ae85#32, 0x3c6ef372#32, 0xa54ff53a#32, 0x510e527f#32, 0x9b05688c#32, 0x1f83d9ab#32, 0x5be0cd19#32]

/-- turned to the right by n, as the code has it: to the left by 32 - n. -/
def rr (x : BitVec 32) (n : Nat) : BitVec 32 := x <<< (32 - n) ||| x >>> n
def sig0 (x : BitVec 32) : BitVec 32 := rr x 7 ^^^ rr x 18 ^^^ x >>> 3
def sig1 (x : BitVec 32) : BitVec 32 := rr x 17 ^^^ rr x 19 ^^^ x >>> 10
def wd (L : List (BitVec 32)) (i : Nat) : BitVec 32 := L.getD i 0
def growW (L : List (BitVec 32)) (i : Nat) : List (BitVec 32) :=
  L.set (i % 16) (wd L (i % 16) + (sig0 (wd L ((i - 15) % 16)) + wd L ((i - 7) % 16) + sig1 (wd L ((i - 2) % 16))))
def loadW (r : List UInt8) : Nat → List (BitVec 32)
  | 0 => List.replicate 16 0
  | k + 1 => (loadW r k).set (k / 4) (wd (loadW r k) (k / 4) <<< 8 ||| u8w (bd r k))
structure R8 where
  (a b c d e f g k : BitVec 32)
def R8.list (s : R8) : List (BitVec 32) := [s.a, s.b, s.c, s.d, s.e, s.f, s.g, s.k]
def R8.of (v : List (BitVec 32)) : R8 := ⟨wd v 0, wd v 1, wd v 2, wd v 3, wd v 4, wd v 5, wd v 6, wd v 7⟩
def rndT (s : R8) (ki wi : BitVec 32) : BitVec 32 := s.k + (rr s.e 6 ^^^ rr s.e 11 ^^^ rr s.e 25) + (s.g ^^^ s.e &&& (s.f ^^^ s.g)) + ki + wi
def rndU (s : R8) : BitVec 32 := (rr s.a 2 ^^^ rr s.a 13 ^^^ rr s.a 22) + (s.a &&& s.b ||| s.c &&& (s.a ||| s.b))
def rnd (s : R8) (t u : BitVec 32) : R8 := ⟨t + u, s.a, s.b, s.c, s.d + t, s.e, s.f, s.g⟩
def atRound (W : List (BitVec 32)) (i : Nat) : List (BitVec 32) := if 16 ≤ i then growW W i else W
def rounds (s : R8) (W : List (BitVec 32)) : Nat → R8 × List (BitVec 32)
  | 0 => (s, W)
  | i + 1 =>
    let p := rounds s W i
    let W' := atRound p.2 i
    (rnd p.1 (rndT p.1 (wd ksL i) (wd W' (i % 16))) (rndU p.1), W')
def addTo (v x : List (BitVec 32)) : Nat → List (BitVec 32)
  | 0 => v
  | i + 1 => (addTo v x i).set i (wd (addTo v x i) i + wd x i)
def mixv (v : List (BitVec 32)) (r : List UInt8) : List (BitVec 32) := addTo v (rounds (R8.of v) (loadW r 64) 64).1.list 8

/-- a hasher: eight words, what waits, and how much of that. -/
structure St where
  v : List (BitVec 32)
  r : List UInt8
  n : Nat
def St.ok (s : St) : Prop := s.v.length = 8 ∧ s.r.length = 64 ∧ s.n < 64
def St.okL (s : St) : Prop := s.v.length = 8 ∧ s.r.length = 64
theorem St.ok.l {s : St} (h : s.ok) : s.okL := ⟨h.1, h.2.1⟩
def push (s : St) (b : UInt8) : St := if s.n + 1 = 64 then ⟨mixv s.v (s.r.set s.n b), s.r.set s.n b, 0⟩ else ⟨s.v, s.r.set s.n b, s.n + 1⟩
def pushes (s : St) (l : List UInt8) : St := l.foldl push s
def st0 : St := ⟨iv, List.replicate 64 0, 0⟩
def eightL (n : Nat) : List UInt8 := [UInt8.ofNat (n / 2 ^ 56), UInt8.ofNat (n / 2 ^ 48), UInt8.ofNat (n / 2 ^ 40), UInt8.ofNat (n / 2 ^ 32), UInt8.ofNat (n / 2 ^ 24), UInt8.ofNat (n / 2 ^ 16), UInt8.ofNat (n / 2 ^ 8), UInt8.ofNat n]
def wordL (x : BitVec 32) : List UInt8 := [w8 (x >>> 24), w8 (x >>> 16), w8 (x >>> 8), w8 (x >>> 0)]
def outL (v : List (BitVec 32)) : List UInt8 := v.flatMap wordL
def padZ (s : St) : St := pushes s (List.replicate ((120 - s.n) % 64) 0)
/-- what 'end' tells of a hasher that has taken so many bytes. -/
def finish (s : St) (t : Nat) : List UInt8 := outL (pushes (padZ (push s 128)) (eightL (t * 8 % 18446744073709551616))).v
/-- THE DIGEST of a text. -/
def sha (l : List UInt8) : List UInt8 := finish (pushes st0 l) l.length

theorem rounds_zero (s : R8) (W : List (BitVec 32)) : rounds s W 0 = (s, W) := rfl
theorem rounds_succ (s : R8) (W : List (BitVec 32)) (i : Nat) : rounds s W (i + 1) = (rnd (rounds s W i).1 (rndT (rounds s W i).1 (wd ksL i) (wd (atRound (rounds s W i).2 i) (i % 16))) (rndU (rounds s W i).1), atRound (rounds s W i).2 i) := rfl
/-! ### lengths -/
theorem growW_length (L : List (BitVec 32)) (i : Nat) : (growW L i).length = L.length := by simp [growW]
theorem atRound_length (L : List (BitVec 32)) (i : Nat) : (atRound L i).length = L.length := by
  unfold atRound; split
  · exact growW_length _ _
  · rfl
theorem loadW_length (r : List UInt8) (k : Nat) : (loadW r k).length = 16 := by
  induction k with
  | zero => rfl
  | succ k ih => simp [loadW, ih]
theorem rounds_length (s : R8) (W : List (BitVec 32)) (k : Nat) : (rounds s W k).2.length = W.length := by
  induction k with
  | zero => rfl
  | succ k ih => simp only [rounds]; rw [atRound_length, ih]
theorem addTo_length (v x : List (BitVec 32)) (k : Nat) : (addTo v x k).length = v.length := by
  induction k with
  | zero => rfl
  | succ k ih => simp [addTo, ih]
theorem mixv_length (v : List (BitVec 32)) (r : List UInt8) : (mixv v r).length = v.length := addTo_length _ _ _
theorem push_ok {s : St} (h : s.ok) (b : UInt8) : (push s b).ok := by
  obtain ⟨h1, h2, h3⟩ := h
  unfold push
  split
  · exact ⟨by rw [mixv_length]; exact h1, by simpa using h2, by show 0 < 64; decide⟩
  · exact ⟨h1, by simpa using h2, by show s.n + 1 < 64; omega⟩
theorem pushes_ok {s : St} (h : s.ok) (l : List UInt8) : (pushes s l).ok := by
  induction l generalizing s with
  | nil => exact h
  | cons b l ih => exact ih (push_ok h b)
theorem st0_ok : st0.ok := ⟨rfl, by simp [st0], by decide⟩
theorem pushes_append (s : St) (a b : List UInt8) : pushes s (a ++ b) = pushes (pushes s a) b := by simp [pushes]
theorem eightL_length (n : Nat) : (eightL n).length = 8 := rfl
theorem outL_length (v : List (BitVec 32)) : (outL v).length = 4 * v.length := by
  induction v with
  | nil => rfl
  | cons x v ih =>
    have : outL (x :: v) = wordL x ++ outL v := rfl
    rw [this, List.length_append, ih]; simp [wordL]; omega
theorem sha_length (l : List UInt8) : (sha l).length = 32 := by
  unfold sha finish
  rw [outL_length]
  have := (pushes_ok (pushes_ok (push_ok (pushes_ok st0_ok l) 128) (List.replicate ((120 - (push (pushes st0 l) 128).n) % 64) 0)) (eightL (l.length * 8 % 18446744073709551616))).1
  unfold padZ
  omega

/-! ### several bytes at once: no more than fit -/
theorem pushes_n (l : List UInt8) : ∀ s : St, s.n < 64 → s.n + l.length < 64 → (pushes s l).n = s.n + l.length ∧ (pushes s l).v = s.v := by
  induction l with
  | nil => intro s _ _; exact ⟨rfl, rfl⟩
  | cons b l ih =>
    intro s h1 h2
    simp only [List.length_cons] at h2 ⊢
    have e : push s b = ⟨s.v, s.r.set s.n b, s.n + 1⟩ := by unfold push; rw [if_neg (by omega)]
    show (pushes (push s b) l).n = _ ∧ (pushes (push s b) l).v = _
    rw [e]
    have := ih ⟨s.v, s.r.set s.n b, s.n + 1⟩ (by show s.n + 1 < 64; omega) (by show s.n + 1 + l.length < 64; omega)
    refine ⟨by rw [this.1]; show s.n + 1 + l.length = _; omega, this.2⟩
theorem pushes_r (l : List UInt8) : ∀ s : St, s.ok → s.n + l.length < 64 → (pushes s l).r = s.r.take s.n ++ l ++ s.r.drop (s.n + l.length) := by
  induction l with
  | nil => intro s h _; simp [pushes]
  | cons b l ih =>
    intro s h h2
    simp only [List.length_cons] at h2 ⊢
    have e : push s b = ⟨s.v, s.r.set s.n b, s.n + 1⟩ := by unfold push; rw [if_neg (by omega)]
    show (pushes (push s b) l).r = _
    have hok := push_ok h b
    rw [ih _ hok (by rw [e]; show s.n + 1 + l.length < 64; omega), e]
    show (s.r.set s.n b).take (s.n + 1) ++ l ++ (s.r.set s.n b).drop (s.n + 1 + l.length) = _
    have hl := h.2.1
    rw [List.drop_set_of_lt (by omega), List.take_set, List.take_succ_eq_append_getElem (by omega), List.set_append_right _ _ (by simp; omega)]
    simp [List.length_take, Nat.min_eq_left (show s.n ≤ s.r.length by omega)]
    rw [show s.n + 1 + l.length = s.n + (l.length + 1) from by omega]
/-- as many as fill the block: it is mixed. -/
theorem pushes_full (l : List UInt8) : ∀ s : St, s.ok → s.n + l.length = 64 → pushes s l = ⟨mixv s.v (s.r.take s.n ++ l ++ s.r.drop (s.n + l.length)), s.r.take s.n ++ l ++ s.r.drop (s.n + l.length), 0⟩ := by
  intro s h h2
  have hne : l ≠ [] := by rintro rfl; have := h.2.2; simp at h2; omega
  obtain ⟨a, b, rfl⟩ : ∃ a b, l = a ++ [b] := ⟨l.dropLast, l.getLast hne, (List.dropLast_concat_getLast hne).symm⟩
  simp only [List.length_append, List.length_singleton] at h2
  rw [pushes_append]
  have e1 := pushes_n a s h.2.2 (by omega)
  have e2 := pushes_r a s h (by omega)
  have e3 : pushes (pushes s a) [b] = push (pushes s a) b := rfl
  rw [e3]
  unfold push
  rw [if_pos (by rw [e1.1]; omega), e1.2, e2, e1.1]
  have hl := h.2.1
  have e4 : (s.r.take s.n ++ a ++ s.r.drop (s.n + a.length)).set (s.n + a.length) b = s.r.take s.n ++ (a ++ [b]) ++ s.r.drop (s.n + (a ++ [b]).length) := by
    rw [List.set_append_right _ _ (by simp; omega)]
    have e5 : s.n + a.length - (s.r.take s.n ++ a).length = 0 := by simp; omega
    rw [e5]
    have hd : s.r.drop (s.n + a.length) = s.r[s.n + a.length] :: s.r.drop (s.n + a.length + 1) := (List.drop_eq_getElem_cons (by omega))
    rw [hd]
    simp [List.append_assoc, Nat.add_assoc]
  rw [e4]
/-- what one copy brings, in both cases. -/
theorem pushes_part (s : St) (h : s.ok) (l : List UInt8) (hle : s.n + l.length ≤ 64) :
    pushes s l = if s.n + l.length = 64 then ⟨mixv s.v (s.r.take s.n ++ l ++ s.r.drop (s.n + l.length)), s.r.take s.n ++ l ++ s.r.drop (s.n + l.length), 0⟩ else ⟨s.v, s.r.take s.n ++ l ++ s.r.drop (s.n + l.length), s.n + l.length⟩ := by
  split
  · exact pushes_full l s h (by assumption)
  · have e1 := pushes_n l s h.2.2 (by omega)
    have e2 := pushes_r l s h (by omega)
    calc pushes s l = ⟨(pushes s l).v, (pushes s l).r, (pushes s l).n⟩ := rfl
      _ = _ := by rw [e1.1, e1.2, e2]
end Go.Proofs.YtjmgkjjcdnaapaaDoor
namespace Go.Proofs.YtjmgkjjcdnaapaaDoor
set_option maxRecDepth 100000
open Go.RowKit

def cw (l : List (BitVec 32)) : List Value := l.map fun x => .int .u32 (n32 x)
def wc (l : List (BitVec 32)) : Array Value := (cw l).toArray
theorem wc_get (l : List (BitVec 32)) (i : Nat) (h : i < l.length) : (wc l)[i]? = some (.int .u32 (n32 (wd l i))) := by
  simp [wc, cw, wd, List.getElem?_eq_getElem h]
theorem wc_set (l : List (BitVec 32)) (i : Nat) (x : BitVec 32) : (wc l).setIfInBounds i (.int .u32 (n32 x)) = wc (l.set i x) := by
  simp [wc, cw, List.map_set]

theorem and15 (i : Nat) (hi : i < 1000) : bits BinOp.and IntKind.i64 (i : Int) 15 = ((i % 16 : Nat) : Int) := by
  show IntKind.i64.wrap ((BitVec.ofInt 64 (i : Int) &&& BitVec.ofInt 64 15).toNat : Int) = _
  have h1 : (BitVec.ofInt 64 (i : Int)).toNat = i := by rw [BitVec.ofInt_natCast, BitVec.toNat_ofNat]; exact Nat.mod_eq_of_lt (by omega)
  have h2 : (BitVec.ofInt 64 15).toNat = 2 ^ 4 - 1 := by decide
  rw [BitVec.toNat_and, h1, h2, Nat.and_two_pow_sub_one_eq_mod]
  exact (IntWalk.i64_in _ (by omega)).trans rfl

/-- how far a count turns to the left. -/
def rotm (k : Int) : Nat := (bits .and .u64 (IntKind.u64.wrap k) 31).toNat
theorem rotm_eq (k : Int) : bits .and .u64 (IntKind.u64.wrap k) 31 = (rotm k : Int) ∧ rotm k ≤ 31 := by
  have h1 : 0 ≤ IntKind.u64.wrap k ∧ IntKind.u64.wrap k < 18446744073709551616 := by
    simp [IntKind.wrap, IntKind.bits, IntKind.signed]; omega
  have h := u64_and (IntKind.u64.wrap k) 31 h1.1 h1.2 (by decide) (by decide)
  have hle : (IntKind.u64.wrap k).toNat &&& (31 : Int).toNat ≤ 31 := Nat.and_le_right
  unfold rotm
  omega
def rrK (x : BitVec 32) (k : Int) : BitVec 32 := x <<< rotm k ||| x >>> (32 - rotm k)
theorem rrK_neg (x : BitVec 32) (n : Nat) (k : Int) (hk : rotm k = 32 - n) (hn : n ≤ 32) : rrK x k = rr x n := by
  unfold rrK rr; rw [hk, show 32 - (32 - n) = n from by omega]

set_option maxHeartbeats 400000 in
theorem rot_any (x : BitVec 32) (k : Int) (w : World) :
    Calls Tryd.prog 87 #[.int .u32 (n32 x), .int .i64 k] w fun e w' => e = .returned (.int .u32 (n32 (rrK x k))) ∧ w' = w := by
  obtain ⟨hk, hm⟩ := rotm_eq k
  have h0 : 0 ≤ bits .and .u64 (IntKind.u64.wrap k) 31 := by omega
  have hs : IntKind.u64.wrap (32 - bits .and .u64 (IntKind.u64.wrap k) 31) = ((32 - rotm k : Nat) : Int) := by
    rw [hk, wrap_u64e]; omega
  have h1 : 0 ≤ IntKind.u64.wrap (32 - bits .and .u64 (IntKind.u64.wrap k) 31) := by omega
  have E1 := v32_shl_var x _ (rotm k) hk (by omega)
  have E2 := v32_shr_var x _ (32 - rotm k) hs (by omega)
  have E3 : rrK x k = x <<< rotm k ||| x >>> (32 - rotm k) := rfl
  have H1 := Lib.hid hk
  have H2 := Lib.hid hs
  have H3 := Lib.hid E1
  have H4 := Lib.hid E2
  have H5 := Lib.hid E3
  clear hk hs E1 E2 E3 hm
  go_enter Tryd.func87, Tryd.ntmps87
  go_wp2
  go_ret
  refine ⟨?_, rfl⟩
  simp only [Array.getD_eq_getD_getElem?]
  simp only [H5.out, ← v32_or, ← H3.out, ← H4.out]
  rfl
set_option maxHeartbeats 400000 in
theorem at_any (b i : Nat) (w : World) (hi : i < 1000) :
    Calls Tryd.prog 88 #[.pointer (some ⟨b, 0, none⟩), .int .i64 i] w fun e w' => e = .returned (.pointer (some ⟨b, i % 16, none⟩)) ∧ w' = w := by
  have h1 := and15 i hi
  have h2 : 0 ≤ ((i % 16 : Nat) : Int) ∧ ((i % 16 : Nat) : Int) < 16 := by omega
  go_enter Tryd.func88, Tryd.ntmps88
  go_wp2
  go_ret
  exact ⟨rfl, rfl⟩

theorem rr7 (x : BitVec 32) : rrK x (-7) = rr x 7 := rrK_neg x 7 _ (by decide +kernel) (by decide)
theorem rr18 (x : BitVec 32) : rrK x (-18) = rr x 18 := rrK_neg x 18 _ (by decide +kernel) (by decide)
theorem rr17 (x : BitVec 32) : rrK x (-17) = rr x 17 := rrK_neg x 17 _ (by decide +kernel) (by decide)
theorem rr19 (x : BitVec 32) : rrK x (-19) = rr x 19 := rrK_neg x 19 _ (by decide +kernel) (by decide)
theorem rr6 (x : BitVec 32) : rrK x (-6) = rr x 6 := rrK_neg x 6 _ (by decide +kernel) (by decide)
theorem rr11 (x : BitVec 32) : rrK x (-11) = rr x 11 := rrK_neg x 11 _ (by decide +kernel) (by decide)
theorem rr25 (x : BitVec 32) : rrK x (-25) = rr x 25 := rrK_neg x 25 _ (by decide +kernel) (by decide)
theorem rr2 (x : BitVec 32) : rrK x (-2) = rr x 2 := rrK_neg x 2 _ (by decide +kernel) (by decide)
theorem rr13 (x : BitVec 32) : rrK x (-13) = rr x 13 := rrK_neg x 13 _ (by decide +kernel) (by decide)
theorem rr22 (x : BitVec 32) : rrK x (-22) = rr x 22 := rrK_neg x 22 _ (by decide +kernel) (by decide)

section
attribute [local go_sem] v32_add v32_xor v32_and v32_or v32_shr3 v32_shr10 v32_shl8 rr7 rr18 rr17 rr19 rr6 rr11 rr25 rr2 rr13 rr22
set_option maxHeartbeats 800000 in
theorem grow_any (b i : Nat) (w : World) (L : List (BitVec 32)) (hL : L.length = 16) (hb : Blk w b 133 (wc L)) (hi : 16 ≤ i) (hi2 : i < 64) :
    Calls Tryd.prog 86 #[.pointer (some ⟨b, 0, none⟩), .int .i64 i] w fun e w' => e = .returned (.tuple #[]) ∧
      Blk w' b 133 (wc (growW L i)) ∧ w.grownBy w' (some b) := by
  have c1 := (hb.cell ((i - 15) % 16)).trans (wc_get L _ (by omega))
  have c2 := (hb.cell ((i - 2) % 16)).trans (wc_get L _ (by omega))
  have c3 := (hb.cell (i % 16)).trans (wc_get L _ (by omega))
  have c4 := (hb.cell ((i - 7) % 16)).trans (wc_get L _ (by omega))
  have f3 := hb.frozen (i % 16)
  have hfin : ∀ n, Blk ((w.drewN n).setCell ⟨b, i % 16, none⟩ (.int .u32 (n32 (wd L (i % 16) + (sig0 (wd L ((i - 15) % 16)) + wd L ((i - 7) % 16) + sig1 (wd L ((i - 2) % 16))))))) b 133 (wc (growW L i)) ∧
      w.grownBy ((w.drewN n).setCell ⟨b, i % 16, none⟩ (.int .u32 (n32 (wd L (i % 16) + (sig0 (wd L ((i - 15) % 16)) + wd L ((i - 7) % 16) + sig1 (wd L ((i - 2) % 16))))))) (some b) := by
    intro n
    refine ⟨?_, only_set (only_drewN (only_refl _ _) n) (.inl rfl) _⟩
    have := (hb.drewN n).set_ (i % 16) (.int .u32 (n32 (wd L (i % 16) + (sig0 (wd L ((i - 15) % 16)) + wd L ((i - 7) % 16) + sig1 (wd L ((i - 2) % 16))))))
    rw [wc_set] at this
    exact this
  unfold sig0 sig1 at hfin
  have HF := Lib.hid hfin
  clear hfin
  have HB := Lib.hid hb
  clear hb hL
  have e1 : IntKind.i64.wrap ((i : Int) - 15) = ((i - 15 : Nat) : Int) := (IntWalk.i64_in _ (by omega)).trans (by omega)
  have e2 : IntKind.i64.wrap ((i : Int) - 2) = ((i - 2 : Nat) : Int) := (IntWalk.i64_in _ (by omega)).trans (by omega)
  have e3 : IntKind.i64.wrap ((i : Int) - 7) = ((i - 7 : Nat) : Int) := (IntWalk.i64_in _ (by omega)).trans (by omega)
  go_enter Tryd.func86, Tryd.ntmps86
  go_wp2_with fail
  go_quiet ((go_at_call 88; exact Calls.quiet_of_same (at_any _ _ _ (by omega))))
  go_wp2_with (go_at_call 87; refine (rot_any _ _ _).mono ?_; rintro e w' ⟨rfl, rfl⟩)
  refine still_tail 17 (by kernel_rfl) (by kernel_rfl) ?_
  simp only [List.take_succ_cons, List.take_zero, List.drop_succ_cons, List.drop_zero]
  repeat still_step
  still_call (at_any _ _ _ (by omega))
  repeat still_step
  still_call (at_any _ _ _ (by omega))
  repeat still_step
  refine wpStill_nil ?_
  go_wp2
  go_end0
  refine ⟨rfl, ?_⟩
  simp only [v32_add]
  exact HF.out _
end
end Go.Proofs.YtjmgkjjcdnaapaaDoor
namespace Go.Proofs.YtjmgkjjcdnaapaaDoor
open Go.RowKit
set_option linter.unusedSimpArgs false
set_option linter.unusedVariables false
set_option maxRecDepth 100000

/-- a hasher's cells. -/
def hc (s : St) (t : BitVec 64) : Array Value := (cw s.v ++ cb s.r ++ [Value.int .i64 (s.n : Int), Value.int .u64 (t.toNat : Int)]).toArray
theorem hc_v {s : St} (h : s.okL) (t : BitVec 64) (i : Nat) (hi : i < 8) : (hc s t)[i]? = some (.int .u32 (n32 (wd s.v i))) := by
  have := h.1
  simp only [hc, List.getElem?_toArray, List.append_assoc]
  rw [List.getElem?_append_left (by simp [cw]; omega)]
  simp [cw, wd, List.getElem?_eq_getElem (show i < s.v.length by omega)]
theorem hc_r {s : St} (h : s.okL) (t : BitVec 64) (i : Nat) (hi : i < 64) : (hc s t)[8 + i]? = some (.int .u8 (n8 (bd s.r i))) := by
  have := h.1; have := h.2
  simp only [hc, List.getElem?_toArray, List.append_assoc]
  rw [List.getElem?_append_right (by simp [cw]; omega), List.getElem?_append_left (by simp [cw, cb]; omega)]
  simp only [cw, cb, List.length_map, h.1, Nat.add_sub_cancel_left]
  simp [bd, List.getElem?_eq_getElem (show i < s.r.length by omega)]
theorem hc_n {s : St} (h : s.okL) (t : BitVec 64) : (hc s t)[72]? = some (.int .i64 (s.n : Int)) := by
  simp only [hc, List.getElem?_toArray]
  rw [List.getElem?_append_right (by simp [cw, cb, h.1, h.2])]
  simp [cw, cb, h.1, h.2]
theorem hc_t {s : St} (h : s.okL) (t : BitVec 64) : (hc s t)[73]? = some (.int .u64 (t.toNat : Int)) := by
  simp only [hc, List.getElem?_toArray]
  rw [List.getElem?_append_right (by simp [cw, cb, h.1, h.2])]
  simp [cw, cb, h.1, h.2]
theorem hc_size {s : St} (h : s.okL) (t : BitVec 64) : (hc s t).size = 74 := by simp [hc, cw, cb, h.1, h.2]
theorem hc_set_v {s : St} (h : s.okL) (t : BitVec 64) (i : Nat) (hi : i < 8) (x : BitVec 32) : (hc s t).setIfInBounds i (.int .u32 (n32 x)) = hc ⟨s.v.set i x, s.r, s.n⟩ t := by
  have := h.1
  simp only [hc, List.setIfInBounds_toArray, List.append_assoc]
  rw [List.set_append_left _ _ (by simp [cw]; omega)]
  simp [cw, List.map_set]
theorem hc_set_n {s : St} (h : s.okL) (t : BitVec 64) (k : Nat) : (hc s t).setIfInBounds 72 (.int .i64 (k : Int)) = hc ⟨s.v, s.r, k⟩ t := by
  simp only [hc, List.setIfInBounds_toArray]
  rw [List.set_append_right _ _ (by simp [cw, cb, h.1, h.2])]
  simp [cw, cb, h.1, h.2]
theorem hc_set_t {s : St} (h : s.okL) (t u : BitVec 64) : (hc s t).setIfInBounds 73 (.int .u64 (u.toNat : Int)) = hc s u := by
  simp only [hc, List.setIfInBounds_toArray]
  rw [List.set_append_right _ _ (by simp [cw, cb, h.1, h.2])]
  simp [cw, cb, h.1, h.2]
/-- the table of constants lies where the program has it. -/
def KsAt (w : World) : Prop := ∀ i, i < 64 → w.cell? ⟨0, i, none⟩ = some (.int .u32 (n32 (wd ksL i)))

theorem ix8_0 (R : R8) (w : World) : (Instr.index 118 (.agg #[.int .u32 (n32 R.a), .int .u32 (n32 R.b), .int .u32 (n32 R.c), .int .u32 (n32 R.d), .int .u32 (n32 R.e), .int .u32 (n32 R.f), .int .u32 (n32 R.g), .int .u32 (n32 R.k)]) (.int .i64 0)).run Tryd.prog w = .ok (.int .u32 (n32 R.a)) w := by kernel_rfl
theorem ix8_1 (R : R8) (w : World) : (Instr.index 118 (.agg #[.int .u32 (n32 R.a), .int .u32 (n32 R.b), .int .u32 (n32 R.c), .int .u32 (n32 R.d), .int .u32 (n32 R.e), .int .u32 (n32 R.f), .int .u32 (n32 R.g), .int .u32 (n32 R.k)]) (.int .i64 1)).run Tryd.prog w = .ok (.int .u32 (n32 R.b)) w := by kernel_rfl
theorem ix8_2 (R : R8) (w : World) : (Instr.index 118 (.agg #[.int .u32 (n32 R.a), .int .u32 (n32 R.b), .int .u32 (n32 R.c), .int .u32 (n32 R.d), .int .u32 (n32 R.e), .int .u32 (n32 R.f), .int .u32 (n32 R.g), .int .u32 (n32 R.k)]) (.int .i64 2)).run Tryd.prog w = .ok (.int .u32 (n32 R.c)) w := by kernel_rfl
theorem ix8_3 (R : R8) (w : World) : (Instr.index 118 (.agg #[.int .u32 (n32 R.a), .int .u32 (n32 R.b), .int .u32 (n32 R.c), .int .u32 (n32 R.d), .int .u32 (n32 R.e), .int .u32 (n32 R.f), .int .u32 (n32 R.g), .int .u32 (n32 R.k)]) (.int .i64 3)).run Tryd.prog w = .ok (.int .u32 (n32 R.d)) w := by kernel_rfl
theorem ix8_4 (R : R8) (w : World) : (Instr.index 118 (.agg #[.int .u32 (n32 R.a), .int .u32 (n32 R.b), .int .u32 (n32 R.c), .int .u32 (n32 R.d), .int .u32 (n32 R.e), .int .u32 (n32 R.f), .int .u32 (n32 R.g), .int .u32 (n32 R.k)]) (.int .i64 4)).run Tryd.prog w = .ok (.int .u32 (n32 R.e)) w := by kernel_rfl
theorem ix8_5 (R : R8) (w : World) : (Instr.index 118 (.agg #[.int .u32 (n32 R.a), .int .u32 (n32 R.b), .int .u32 (n32 R.c), .int .u32 (n32 R.d), .int .u32 (n32 R.e), .int .u32 (n32 R.f), .int .u32 (n32 R.g), .int .u32 (n32 R.k)]) (.int .i64 5)).run Tryd.prog w = .ok (.int .u32 (n32 R.f)) w := by kernel_rfl
theorem ix8_6 (R : R8) (w : World) : (Instr.index 118 (.agg #[.int .u32 (n32 R.a), .int .u32 (n32 R.b), .int .u32 (n32 R.c), .int .u32 (n32 R.d), .int .u32 (n32 R.e), .int .u32 (n32 R.f), .int .u32 (n32 R.g), .int .u32 (n32 R.k)]) (.int .i64 6)).run Tryd.prog w = .ok (.int .u32 (n32 R.g)) w := by kernel_rfl
theorem ix8_7 (R : R8) (w : World) : (Instr.index 118 (.agg #[.int .u32 (n32 R.a), .int .u32 (n32 R.b), .int .u32 (n32 R.c), .int .u32 (n32 R.d), .int .u32 (n32 R.e), .int .u32 (n32 R.f), .int .u32 (n32 R.g), .int .u32 (n32 R.k)]) (.int .i64 7)).run Tryd.prog w = .ok (.int .u32 (n32 R.k)) w := by kernel_rfl
theorem ix8 (R : R8) (j : Nat) (hj : j < 8) (w : World) : (Instr.index 118 (.agg #[.int .u32 (n32 R.a), .int .u32 (n32 R.b), .int .u32 (n32 R.c), .int .u32 (n32 R.d), .int .u32 (n32 R.e), .int .u32 (n32 R.f), .int .u32 (n32 R.g), .int .u32 (n32 R.k)]) (.int .i64 (j : Int))).run Tryd.prog w = .ok (.int .u32 (n32 (wd R.list j))) w := by
  match j, hj with
  | 0, _ => exact ix8_0 R w
  | 1, _ => exact ix8_1 R w
  | 2, _ => exact ix8_2 R w
  | 3, _ => exact ix8_3 R w
  | 4, _ => exact ix8_4 R w
  | 5, _ => exact ix8_5 R w
  | 6, _ => exact ix8_6 R w
  | 7, _ => exact ix8_7 R w
section
attribute [local go_sem] v32_add v32_xor v32_and v32_or v32_shr3 v32_shr10 v32_shl8 rr7 rr18 rr17 rr19 rr6 rr11 rr25 rr2 rr13 rr22
set_option maxHeartbeats 1600000 in
set_option maxRecDepth 100000 in
theorem mix_any (b : Nat) (w : World) (s : St) (t : BitVec 64) (hs : s.v.length = 8) (hr : s.r.length = 64) (hb : Blk w b 121 (hc s t)) (hk : KsAt w) (hg : 0 < b) :
    Calls Tryd.prog 74 #[.pointer (some ⟨b, 0, none⟩)] w fun e w' => e = .returned (.tuple #[]) ∧
      Blk w' b 121 (hc ⟨mixv s.v s.r, s.r, 0⟩ t) ∧ w.grownBy w' (some b) := by
  have HB := Lib.hid hb
  have HK := Lib.hid hk
  clear hk hb
  go_enter Tryd.func74, Tryd.ntmps74
  go_wp2_with fail
  go_loopw [17] (fun v17 wr => ∃ k : Nat, k ≤ 64 ∧ v17 = .int .i64 k ∧ Blk wr w.heap.size 133 (wc (loadW s.r k)) ∧ w.grownBy wr none) (fun v17 _ => 64 - (intOf v17).toNat)
  case atStart => exact ⟨0, by omega, rfl, Blk.new _ _ _, only_alloc (only_refl _ _) _⟩
  case round =>
    obtain ⟨k, hk, rfl, hW, hG⟩ := hrel
    have hWl := loadW_length s.r k
    by_cases hlt : k < 64
    · have ej : ((k : Int) / 4).toNat = k / 4 := by omega
      have c1 : wr.cell? ⟨w.heap.size, ((k : Int) / 4).toNat, none⟩ = some (.int .u32 (n32 (wd (loadW s.r k) (k / 4)))) := by rw [ej]; exact (hW.cell (k / 4)).trans (wc_get (loadW s.r k) (k / 4) (by omega))
      have f1 : wr.frozen? ⟨w.heap.size, ((k : Int) / 4).toNat, none⟩ = false := by rw [ej]; exact hW.frozen (k / 4)
      have EJ := Lib.hid ej
      clear ej
      have c2 := ((HB.out.grown hG (by simp)).cell (8 + k)).trans (hc_r ⟨hs, hr⟩ t k hlt)
      have hfin : Blk (wr.drew.setCell ⟨w.heap.size, k / 4, none⟩ (.int .u32 (n32 (wd (loadW s.r k) (k / 4) <<< 8 ||| u8w (bd s.r k))))) w.heap.size 133 (wc (loadW s.r (k + 1))) ∧
          w.grownBy (wr.drew.setCell ⟨w.heap.size, k / 4, none⟩ (.int .u32 (n32 (wd (loadW s.r k) (k / 4) <<< 8 ||| u8w (bd s.r k))))) none := by
        have := hW.drew.set_ (k / 4) (.int .u32 (n32 (wd (loadW s.r k) (k / 4) <<< 8 ||| u8w (bd s.r k))))
        rw [wc_set] at this
        exact ⟨this, only_new hG (only_set (only_drew (only_refl _ _)) (.inl rfl) _) (Nat.le_refl _)⟩
      have HF := Lib.hid hfin
      clear hfin hW hG hWl
      have e1 : IntKind.i64.wrap ((k : Int) / 4) = (k : Int) / 4 := IntWalk.i64_in _ (by omega)
      have e2 : 0 ≤ (k : Int) / 4 ∧ (k : Int) / 4 < 16 := by omega
      have e3 : 0 ≤ (k : Int) ∧ (k : Int) < 64 := by omega
      go_wp2_with fail
      refine still_tail 16 (by kernel_rfl) (by kernel_rfl) ?_
      simp only [List.take_succ_cons, List.take_zero, List.drop_succ_cons, List.drop_zero]
      repeat still_step
      refine wpStill_nil ?_
      go_wp2
      go_roundw
      case rel =>
        refine ⟨k + 1, by omega, by go_num, ?_⟩
        simp only [n8_m32, v32_or, EJ.out]
        exact HF.out
      case measure => simp [intOf]; omega
    · obtain rfl : k = 64 := by omega
      rw [show ((64 : Nat) : Int) = 64 from rfl]
      have hB := HB.out.grown hG (by simp)
      have d0 := (hB.cell 0).trans (hc_v ⟨hs, hr⟩ t 0 (by omega))
      have d1 := (hB.cell 1).trans (hc_v ⟨hs, hr⟩ t 1 (by omega))
      have d2 := (hB.cell 2).trans (hc_v ⟨hs, hr⟩ t 2 (by omega))
      have d3 := (hB.cell 3).trans (hc_v ⟨hs, hr⟩ t 3 (by omega))
      have d4 := (hB.cell 4).trans (hc_v ⟨hs, hr⟩ t 4 (by omega))
      have d5 := (hB.cell 5).trans (hc_v ⟨hs, hr⟩ t 5 (by omega))
      have d6 := (hB.cell 6).trans (hc_v ⟨hs, hr⟩ t 6 (by omega))
      have d7 := (hB.cell 7).trans (hc_v ⟨hs, hr⟩ t 7 (by omega))
      have HW := Lib.hid hW
      have HG := Lib.hid hG
      clear hW hG hB hWl hlt hk
      go_wp2_with fail
      go_quiet (fail)
      go_wp2_with fail
      clear d0 d1 d2 d3 d4 d5 d6 d7
      obtain ⟨P, HP⟩ : ∃ P, Hid (P = rounds (R8.of s.v) (loadW s.r 64)) := ⟨_, rfl⟩
      go_loopw [4, 5, 6, 7, 8, 9, 10, 11, 77] (fun v4 v5 v6 v7 v8 v9 v10 v11 v77 wx => ∃ i : Nat, i ≤ 64 ∧ v77 = .int .i64 i ∧ v4 = .int .u32 (n32 (P i).1.a) ∧ v5 = .int .u32 (n32 (P i).1.b) ∧ v6 = .int .u32 (n32 (P i).1.c) ∧
          v7 = .int .u32 (n32 (P i).1.d) ∧ v8 = .int .u32 (n32 (P i).1.e) ∧ v9 = .int .u32 (n32 (P i).1.f) ∧ v10 = .int .u32 (n32 (P i).1.g) ∧ v11 = .int .u32 (n32 (P i).1.k) ∧
          Blk wx w.heap.size 133 (wc (P i).2) ∧ w.grownBy wx none) (fun _ _ _ _ _ _ _ _ v77 _ => 64 - (intOf v77).toNat)
      case atStart =>
        refine ⟨0, by omega, rfl, ?_⟩
        rw [HP.out, rounds_zero]
        simp only [R8.of, true_and]
        exact ⟨HW.out.drewN _, only_drewN HG.out _⟩
      case round =>
        obtain ⟨i, hi, rfl, rfl, rfl, rfl, rfl, rfl, rfl, rfl, rfl, hW2, hG2⟩ := hrel
        have hPl : (P i).2.length = 16 := by rw [HP.out, rounds_length, loadW_length]
        by_cases hlt : i < 64
        · have hks : wr.cell? ⟨0, i, none⟩ = some (.int .u32 (n32 (wd ksL i))) := hG2.cell (HK.out i hlt) (by simp)
          have HS := Lib.hid (rounds_succ (R8.of s.v) (loadW s.r 64) i)
          have e3 : 0 ≤ (i : Int) ∧ (i : Int) < 64 := by omega
          have hbw := HB.out.lt
          by_cases h16 : 16 ≤ i
          · have hA : atRound (P i).2 i = growW (P i).2 i := if_pos h16
            have HA := Lib.hid hA
            have HW2 := Lib.hid hW2
            have HG2 := Lib.hid hG2
            have HPl := Lib.hid hPl
            have HKS := Lib.hid hks
            clear hA hW2 hG2 hPl hks
            have hd : decide ((16 : Int) ≤ i) = true := by simp; omega
            go_wp2_with (go_at_call 86; refine (grow_any _ i _ _ HPl.out HW2.out h16 hlt).mono ?_; rintro e w1 ⟨rfl, hW3, hG3⟩)
            have c1 := (hW3.cell (i % 16)).trans (wc_get _ _ (by rw [growW_length, HPl.out]; omega))
            rw [← HA.out] at c1 hW3
            have k1 : w1.cell? ⟨0, i, none⟩ = some (.int .u32 (n32 (wd ksL i))) := hG3.cell HKS.out (by simp; omega)
            have HG3 := Lib.hid (only_new HG2.out hG3 (Nat.le_refl _))
            have HW3 := Lib.hid hW3
            clear hG3 hW3 HG2 HW2 HKS hd
            go_wp2_with fail
            go_quiet ((first | (go_at_call 87; exact Calls.quiet_of_same (rot_any _ _ _)) | (go_at_call 87; exact quiet_add_same (rot_any _ _ _)) | (go_at_call 88; exact Calls.quiet_of_same (at_any _ _ _ (by omega)))))
            go_wp2_with (go_at_call 87; refine (rot_any _ _ _).mono ?_; rintro e w' ⟨rfl, rfl⟩)
            go_roundw
            case rel =>
              refine ⟨i + 1, by omega, by go_num, ?_⟩
              rw [HP.out, HS.out, ← HP.out]
              simp only [v32_add, v32_xor, v32_and, v32_or, rnd, rndT, rndU, true_and]
              exact ⟨HW3.out.drewN _, only_drewN HG3.out _⟩
            case measure => simp [intOf]; omega
          · have hA : atRound (P i).2 i = (P i).2 := if_neg h16
            have c1 := (hW2.cell (i % 16)).trans (wc_get _ _ (by rw [hPl]; omega))
            rw [← hA] at c1 hW2
            have HG3 := Lib.hid hG2
            have HW3 := Lib.hid hW2
            clear hA hW2 hG2 hPl
            have hd : decide ((16 : Int) ≤ i) = false := by simp; omega
            go_wp2_with fail
            go_quiet ((first | (go_at_call 87; exact Calls.quiet_of_same (rot_any _ _ _)) | (go_at_call 87; exact quiet_add_same (rot_any _ _ _)) | (go_at_call 88; exact Calls.quiet_of_same (at_any _ _ _ (by omega)))))
            go_wp2_with (go_at_call 87; refine (rot_any _ _ _).mono ?_; rintro e w' ⟨rfl, rfl⟩)
            go_roundw
            case rel =>
              refine ⟨i + 1, by omega, by go_num, ?_⟩
              rw [HP.out, HS.out, ← HP.out]
              simp only [v32_add, v32_xor, v32_and, v32_or, rnd, rndT, rndU, true_and]
              exact ⟨HW3.out.drewN _, only_drewN HG3.out _⟩
            case measure => simp [intOf]; omega
        · obtain rfl : i = 64 := by omega
          rw [show ((64 : Nat) : Int) = 64 from rfl]
          have hB2 := HB.out.grown hG2 (by simp)
          have hbw := HB.out.lt
          have HM := Lib.hid (show mixv s.v s.r = addTo s.v (P 64).1.list 8 by rw [HP.out]; rfl)
          have HG2 := Lib.hid hG2
          have HB2 := Lib.hid hB2
          clear hG2 hB2 hW2 hPl hlt hi
          obtain ⟨R, HR⟩ : ∃ R, Hid (R = (P 64).1) := ⟨_, rfl⟩
          rw [← HR.out]
          rw [← HR.out] at HM
          have z45 : ∀ w, (zeroValue 118).run Tryd.prog w = .ok (.agg #[.int .u32 0, .int .u32 0, .int .u32 0, .int .u32 0, .int .u32 0, .int .u32 0, .int .u32 0, .int .u32 0]) w := fun _ => by kernel_rfl
          go_wp2_with fail
          go_loopw [151] (fun v wx => ∃ j : Nat, j ≤ 8 ∧ v = .int .i64 j ∧ Blk wx b 121 (hc ⟨addTo s.v R.list j, s.r, s.n⟩ t) ∧ w.grownBy wx (some b)) (fun v _ => 8 - (intOf v).toNat)
          case atStart => exact ⟨0, by omega, rfl, HB2.out, ⟨HG2.out.os, HG2.out.tape, HG2.out.output, HG2.out.size, fun i h _ => HG2.out.block i h (by simp)⟩⟩
          case round =>
            obtain ⟨j, hj, rfl, hB3, hG3⟩ := hrel
            have hok : St.okL ⟨addTo s.v R.list j, s.r, s.n⟩ := ⟨by rw [addTo_length]; exact hs, hr⟩
            by_cases hlt : j < 8
            · have c1 := (hB3.cell j).trans (hc_v hok t j hlt)
              have f1 := hB3.frozen j
              have hix := ix8 R j hlt
              have hfin : Blk ((wr.setCell ⟨b, j, none⟩ (.int .u32 (n32 (wd (addTo s.v R.list j) j + wd R.list j)))).drew) b 121 (hc ⟨addTo s.v R.list (j + 1), s.r, s.n⟩ t) ∧
                  w.grownBy ((wr.setCell ⟨b, j, none⟩ (.int .u32 (n32 (wd (addTo s.v R.list j) j + wd R.list j)))).drew) (some b) := by
                have := hB3.set_ j (.int .u32 (n32 (wd (addTo s.v R.list j) j + wd R.list j)))
                rw [hc_set_v hok t j hlt] at this
                exact ⟨this, only_drew (only_set hG3 (.inl rfl) _)⟩
              have HF := Lib.hid hfin
              clear hfin hB3 hG3 hok
              have e3 : 0 ≤ (j : Int) ∧ (j : Int) < 8 := by omega
              go_wp2_with fail
              refine still_tail 11 (by kernel_rfl) (by kernel_rfl) ?_
              simp only [List.take_succ_cons, List.take_zero, List.drop_succ_cons, List.drop_zero]
              repeat still_step
              refine wpStill_nil ?_
              go_wp2
              go_roundw
              case rel =>
                refine ⟨j + 1, by omega, by go_num, ?_⟩
                try simp only [v32_add]
                exact HF.out
              case measure => simp [intOf]; omega
            · obtain rfl : j = 8 := by omega
              have c1 := (hB3.cell 72).trans (hc_n hok t)
              have f1 := hB3.frozen 72
              have hfin : Blk (wr.setCell ⟨b, 72, none⟩ (.int .i64 0)) b 121 (hc ⟨mixv s.v s.r, s.r, 0⟩ t) ∧ w.grownBy (wr.setCell ⟨b, 72, none⟩ (.int .i64 0)) (some b) := by
                have := hB3.set_ 72 (.int .i64 ((0 : Nat) : Int))
                rw [hc_set_n hok] at this
                rw [HM.out]
                exact ⟨this, only_set hG3 (.inl rfl) _⟩
              have HF := Lib.hid hfin
              clear hfin hB3 hG3 hok
              go_wp2
              go_end0
              exact ⟨rfl, HF.out⟩
end
end Go.Proofs.YtjmgkjjcdnaapaaDoor
namespace Go.Proofs.YtjmgkjjcdnaapaaDoor
open Go.RowKit
set_option linter.unusedSimpArgs false
set_option linter.unusedVariables false
set_option maxRecDepth 100000

theorem hc_splice {s : St} (h : s.okL) (t : BitVec 64) (n m : Nat) (hn : n + m ≤ 64) (l : List UInt8) (hl : l.length = m) :
    ((hc s t).toList.take (8 + n) ++ cb l ++ (hc s t).toList.drop (8 + n + m)).toArray = hc ⟨s.v, s.r.take n ++ l ++ s.r.drop (n + m), s.n⟩ t := by
  have h1 := h.1; have h2 := h.2
  have e1 : (cw s.v).length = 8 := by simp [cw, h1]
  have e2 : (cb s.r).length = 64 := by simp [cb, h2]
  simp only [hc, List.append_assoc]
  congr 1
  rw [List.take_append, List.take_of_length_le (by omega), List.append_assoc, List.drop_append, List.drop_eq_nil_of_le (by omega), e1]
  rw [List.take_append_of_le_length (by omega), show 8 + n + m - 8 = n + m from by omega, show 8 + n - 8 = n from by omega, List.drop_append_of_le_length (by omega)]
  simp [cb, List.map_take, List.map_drop]

def strLen : Value → Nat | .string s => s.size | _ => 0

set_option maxHeartbeats 1600000 in
set_option maxRecDepth 100000 in
theorem take_any (b : Nat) (w : World) (s : St) (t : BitVec 64) (l : List UInt8) (hs : s.ok) (hl : l.length ≤ 140737488355328) (hb : Blk w b 121 (hc s t)) (hk : KsAt w) (hg : 0 < b) :
    Calls Tryd.prog 56 #[.pointer (some ⟨b, 0, none⟩), .string ⟨l.toArray⟩] w fun e w' => e = .returned (.tuple #[]) ∧
      Blk w' b 121 (hc (pushes s l) (t + BitVec.ofNat 64 l.length)) ∧ w.grownBy w' (some b) := by
  have c1 := (hb.cell 73).trans (hc_t hs.l t)
  have f1 := hb.frozen 73
  have hsz : (⟨l.toArray⟩ : ByteArray).size = l.length := by simp [ByteArray.size]
  have ht : IntKind.u64.wrap ((t.toNat : Int) + (l.length : Int)) = ((t + BitVec.ofNat 64 l.length).toNat : Int) := by
    rw [wrap_u64e, BitVec.toNat_add, BitVec.toNat_ofNat]; omega
  obtain ⟨W1, hW1⟩ : ∃ W, Hid (W = w.setCell ⟨b, 73, none⟩ (.int .u64 ((t + BitVec.ofNat 64 l.length).toNat : Int))) := ⟨_, rfl⟩
  have hB1 : Blk W1 b 121 (hc s (t + BitVec.ofNat 64 l.length)) ∧ w.grownBy W1 (some b) := by
    have := hb.set_ 73 (.int .u64 ((t + BitVec.ofNat 64 l.length).toNat : Int))
    rw [hc_set_t hs.l] at this
    rw [hW1.out]
    exact ⟨this, only_set (only_refl _ _) (.inl rfl) _⟩
  have HB1 := Lib.hid hB1
  have HT := Lib.hid ht
  have HK := Lib.hid hk
  obtain ⟨u, hu⟩ : ∃ u, Hid (u = t + BitVec.ofNat 64 l.length) := ⟨_, rfl⟩
  rw [← hu.out] at HT HB1 hW1
  rw [← hu.out]
  clear hb hk hB1 ht
  go_enter Tryd.func56, Tryd.ntmps56
  go_wp2_with fail
  rw [HT.out, ← hW1.out]
  go_loopw [1] (fun v wr => ∃ l1 l2, l = l1 ++ l2 ∧ v = .string ⟨l2.toArray⟩ ∧ Blk wr b 121 (hc (pushes s l1) u) ∧ w.grownBy wr (some b)) (fun v _ => strLen v)
  case atStart => exact ⟨[], l, rfl, rfl, HB1.out.1, HB1.out.2⟩
  case round =>
    obtain ⟨l1, l2, hl12, rfl, hB, hG⟩ := hrel
    have HL := Lib.hid hl12
    clear hl12
    have hok := pushes_ok hs l1
    obtain ⟨s1, hs1⟩ : ∃ s1, Hid (s1 = pushes s l1) := ⟨_, rfl⟩
    rw [← hs1.out] at hok hB
    by_cases hne : l2 = []
    · subst hne
      have he : l = l1 := by rw [HL.out, List.append_nil]
      have HF := Lib.hid (show Blk wr b 121 (hc (pushes s l) u) ∧ w.grownBy wr (some b) by rw [he, ← hs1.out]; exact ⟨hB, hG⟩)
      clear hB hG he
      go_wp2_with fail
      go_end0
      exact ⟨rfl, HF.out⟩
    · have hl2 : 0 < l2.length := List.length_pos_iff.2 hne
      have c1 := (hB.cell 72).trans (hc_n hok.l u)
      have f1 := hB.frozen 72
      have he : l2.isEmpty = false := by simpa using hne
      have hn64 : ¬ (64 = s1.n) := by have := hok.2.2; omega
      obtain ⟨m, hm⟩ : ∃ m, Hid (m = Nat.min l2.length (64 - s1.n)) := ⟨_, rfl⟩
      have hmm : m = min l2.length (64 - s1.n) := hm.out
      have hm0 : 0 < m := by have := hok.2.2; omega
      have hm1 : m ≤ l2.length := by omega
      have hm2 : s1.n + m ≤ 64 := by have := hok.2.2; omega
      have hm3 : s1.n + m = 64 ∨ l2.drop m = [] := by
        rcases Nat.lt_or_ge m l2.length with h | h
        · left; have := hok.2.2; omega
        · right; exact List.drop_eq_nil_of_le h
      have hlen : (l2.take m).length = m := by simp; omega
      obtain ⟨r2, hr2⟩ : ∃ r2, Hid (r2 = s1.r.take s1.n ++ l2.take m ++ s1.r.drop (s1.n + m)) := ⟨_, rfl⟩
      obtain ⟨W2, hW2⟩ : ∃ W2, Hid (W2 = wr.drew.setRow b ((hc s1 u).toList.take (8 + s1.n) ++ cb (l2.take m) ++ (hc s1 u).toList.drop (8 + s1.n + m)).toArray) := ⟨_, rfl⟩
      have hcp : (Builtin.copy_ #[61, 9] 3 #[.slice (some ⟨b, 8 + s1.n, none⟩) (64 - s1.n) (64 - s1.n), .string ⟨l2.toArray⟩]).run Tryd.prog wr.drew = .ok (.int .i64 (m : Int)) W2 := by
        rw [hW2.out]
        exact run_copy_str wr.drew _ _ _ 5 b (8 + s1.n) _ _ l2 _ _ m Tryd.underlying61 (by kernel_rfl) hB.drew hm.out (by rw [hc_size hok.l]; omega)
      have hB2 : Blk W2 b 121 (hc ⟨s1.v, r2, s1.n⟩ u) ∧ w.grownBy W2 (some b) := by
        rw [hW2.out, hr2.out]
        refine ⟨?_, only_setRow (only_drew hG) _⟩
        rw [← hc_splice hok.l u s1.n m hm2 (l2.take m) hlen]
        exact hB.drew.setRow _
      have hok2 : St.okL ⟨s1.v, r2, s1.n⟩ := ⟨hok.1, by rw [hr2.out]; have := hok.2.1; simp; omega⟩
      obtain ⟨W3, hW3⟩ : ∃ W3, Hid (W3 = W2.setCell ⟨b, 72, none⟩ (.int .i64 ((s1.n : Int) + (m : Int)))) := ⟨_, rfl⟩
      have hB3 : Blk W3 b 121 (hc ⟨s1.v, r2, s1.n + m⟩ u) ∧ w.grownBy W3 (some b) := by
        have := hB2.1.set_ 72 (.int .i64 (((s1.n + m : Nat)) : Int))
        rw [hc_set_n hok2] at this
        rw [hW3.out]
        rw [Int.natCast_add] at this
        exact ⟨this, only_set hB2.2 (.inl rfl) _⟩
      have c2 := (hB2.1.cell 72).trans (hc_n hok2 u)
      have f2 := hB2.1.frozen 72
      have hpt := pushes_part s1 hok (l2.take m) (by rw [hlen]; exact hm2)
      rw [hlen, ← hr2.out] at hpt
      have HPT := Lib.hid hpt
      have hx : (⟨l2.toArray⟩ : ByteArray).extract m l2.length = ⟨(l2.drop m).toArray⟩ := extract_eq l2 m
      have HX := Lib.hid hx
      have HB3 := Lib.hid hB3
      have HM3 := Lib.hid hm3
      have hdl : (l2.drop m).length < l2.length := by rw [List.length_drop]; omega
      have HDL := Lib.hid hdl
      have hm4 : (m : Int) ≤ (l2.length : Int) := by omega
      have HKW := Lib.hid (show KsAt W3 from fun i hi => hB3.2.cell (HK.out i hi) (by simp; omega))
      have hl' : l = (l1 ++ l2.take m) ++ l2.drop m := by rw [HL.out, List.append_assoc, List.take_append_drop]
      have HL' := Lib.hid hl'
      have hp' : pushes s (l1 ++ l2.take m) = pushes s1 (l2.take m) := by rw [pushes_append, ← hs1.out]
      have HP' := Lib.hid hp'
      have HR2 := Lib.hid hok2.2
      clear hB hG hB2 hpt hx hmm hm3 hB3 hm1 hdl hl' hp' hlen
      have e3 : 0 ≤ (s1.n : Int) ∧ (s1.n : Int) ≤ 64 := ⟨by omega, by omega⟩
      by_cases hf : s1.n + m = 64
      · have hfull : ((s1.n : Int) + (m : Int) == 64) = true := by simp; omega
        have HF := Lib.hid hf
        clear hf
        go_wp2_with fail
        refine still_tail 9 (by kernel_rfl) (by kernel_rfl) ?_
        simp only [List.take_succ_cons, List.take_zero, List.drop_succ_cons, List.drop_zero]
        repeat still_step
        refine wpStill_nil ?_
        go_wp2_with fail
        rw [← hW3.out]
        refine (mix_any b W3 ⟨s1.v, r2, s1.n + m⟩ u hok.1 HR2.out HB3.out.1 HKW.out hg).mono ?_
        rintro e w4 ⟨rfl, h4, g4⟩
        have hfin : Blk w4 b 121 (hc (pushes s (l1 ++ l2.take m)) u) ∧ w.grownBy w4 (some b) := by
          rw [HP'.out, HPT.out, if_pos HF.out]
          exact ⟨h4, only_trans HB3.out.2 g4⟩
        have HFI := Lib.hid hfin
        clear hfin h4 g4
        go_wp2_with fail
        rw [HX.out]
        exact ⟨⟨_, _, HL'.out, rfl, HFI.out.1, HFI.out.2⟩, by simpa [strLen, ByteArray.size] using HDL.out⟩
      · have hfull : ((s1.n : Int) + (m : Int) == 64) = false := by simp; omega
        have hd0 : l2.drop m = [] := HM3.out.resolve_left hf
        have hfin : Blk W3 b 121 (hc (pushes s (l1 ++ l2.take m)) u) ∧ w.grownBy W3 (some b) := by
          rw [HP'.out, HPT.out, if_neg hf]
          exact HB3.out
        have HFI := Lib.hid hfin
        clear hfin hf hd0
        go_wp2_with fail
        refine still_tail 9 (by kernel_rfl) (by kernel_rfl) ?_
        simp only [List.take_succ_cons, List.take_zero, List.drop_succ_cons, List.drop_zero]
        repeat still_step
        refine wpStill_nil ?_
        go_wp2_with fail
        rw [HX.out, ← hW3.out]
        exact ⟨⟨_, _, HL'.out, rfl, HFI.out.1, HFI.out.2⟩, by simpa [strLen, ByteArray.size] using HDL.out⟩
end Go.Proofs.YtjmgkjjcdnaapaaDoor
namespace Go.Proofs.YtjmgkjjcdnaapaaDoor
open Go.RowKit
set_option linter.unusedSimpArgs false
set_option linter.unusedVariables false
set_option maxRecDepth 100000

set_option maxHeartbeats 800000 in
set_option maxRecDepth 100000 in
theorem begin_any (w : World) :
    Calls Tryd.prog 55 #[] w fun e w' => e = .returned (.pointer (some ⟨w.heap.size, 0, none⟩)) ∧ w' = w.alloc (.cells (hc st0 0) 121) := by
  have z45 : ∀ w, (zeroValue 118).run Tryd.prog w = .ok (.agg #[.int .u32 0, .int .u32 0, .int .u32 0, .int .u32 0, .int .u32 0, .int .u32 0, .int .u32 0, .int .u32 0]) w := fun _ => by kernel_rfl
  obtain ⟨Z, hZ⟩ : ∃ Z, Hid (Z = hc ⟨List.replicate 8 0, List.replicate 64 0, 0⟩ 0) := ⟨_, rfl⟩
  have z58 : ∀ w, (zeroValue 121).run Tryd.prog w = .ok (.agg Z) w := by rw [hZ.out]; exact fun _ => by kernel_rfl
  have hsz : ¬ (Z.size < 8) := by rw [hZ.out]; decide
  go_enter Tryd.func55, Tryd.ntmps55
  go_wp2
  go_ret
  refine ⟨rfl, ?_⟩
  have hfin : ((((((((Z.setIfInBounds 0 (.int .u32 1779033703)).setIfInBounds 1 (.int .u32 3144134277)).setIfInBounds 2 (.int .u32 1013904242)).setIfInBounds 3 (.int .u32 2773480762)).setIfInBounds
      4 (.int .u32 1359893119)).setIfInBounds 5 (.int .u32 2600822924)).setIfInBounds 6 (.int .u32 528734635)).setIfInBounds 7 (.int .u32 1541459225)) = hc st0 0 := by
    rw [hZ.out]
    kernel_rfl
  rw [hfin]
def eightAt (n k : Nat) : UInt8 := UInt8.ofNat (n / 2 ^ (56 - 8 * k))
def eightTo (n : Nat) : Nat → List UInt8
  | 0 => List.replicate 8 0
  | k + 1 => (eightTo n k).set k (eightAt n k)
theorem eightTo_length (n k : Nat) : (eightTo n k).length = 8 := by
  induction k with
  | zero => rfl
  | succ k ih => simp [eightTo, ih]
theorem eightTo_8 (n : Nat) : eightTo n 8 = eightL n := by
  simp [eightTo, eightL, eightAt, List.replicate]
set_option maxHeartbeats 800000 in
set_option maxRecDepth 100000 in
theorem eight_any (n : Nat) (w : World) (hn : n < 18446744073709551616) :
    Calls Tryd.prog 75 #[.int .u64 n] w fun e w' => e = .returned (.string ⟨(eightL n).toArray⟩) ∧ Below w.heap.size w w' := by
  go_enter Tryd.func75, Tryd.ntmps75
  go_wp2_with fail
  go_loopw [5] (fun v wr => ∃ k : Nat, k ≤ 8 ∧ v = .int .i64 k ∧ Blk wr w.heap.size 138 (cb (eightTo n k)).toArray ∧ Below w.heap.size w wr) (fun v _ => 8 - (intOf v).toNat)
  case atStart => exact ⟨0, by omega, rfl, Blk.new _ _ _, (Below.refl _ _).alloc (Nat.le_refl _) _⟩
  case round =>
    obtain ⟨k, hk, rfl, hB, hG⟩ := hrel
    by_cases hlt : k < 8
    · have c1 := (hB.cell k).trans (cb_get (eightTo n k) k (by rw [eightTo_length]; omega))
      have f1 := hB.frozen k
      have e1 := n8_shr n (56 - 8 * k)
      have hfin : Blk (wr.setCell ⟨w.heap.size, k, none⟩ (.int .u8 (((n : Int) / 2 ^ (56 - 8 * k)) % 256))) w.heap.size 138 (cb (eightTo n (k + 1))).toArray ∧
          Below w.heap.size w (wr.setCell ⟨w.heap.size, k, none⟩ (.int .u8 (((n : Int) / 2 ^ (56 - 8 * k)) % 256))) := by
        have := hB.set_ k (.int .u8 (n8 (eightAt n k)))
        rw [cb_set] at this
        rw [e1]
        exact ⟨this, hG.setCell (Nat.le_refl _) _⟩
      have HF := Lib.hid hfin
      have e2 : 0 ≤ 56 - 8 * (k : Int) := by omega
      have e3 : 0 ≤ (k : Int) ∧ (k : Int) < 8 := by omega
      clear hfin hB hG e1
      go_wp2_with fail
      exact ⟨⟨k + 1, by omega, by go_num, HF.out⟩, by simp [intOf]; omega⟩
    · obtain rfl : k = 8 := by omega
      have hcv := run_bytes_cells (P := Tryd.prog) wr 61 9 5 Tryd.underlying61 Tryd.underlying5 Tryd.underlying9 w.heap.size 0 8 (eightTo n 8) 8 (eightTo_length n 8) (fun i hi => by
        rw [Nat.zero_add]; exact (hB.cell i).trans (cb_get _ i (by rw [eightTo_length]; omega)))
      rw [eightTo_8] at hcv
      have HG := Lib.hid hG
      clear hB hG
      go_wp2_with fail
      go_ret
      exact ⟨rfl, HG.out⟩
end Go.Proofs.YtjmgkjjcdnaapaaDoor
namespace Go.Proofs.YtjmgkjjcdnaapaaDoor
open Go.RowKit
set_option linter.unusedSimpArgs false
set_option linter.unusedVariables false
set_option maxRecDepth 100000

theorem push_n {s : St} (h : s.ok) (b : UInt8) : (push s b).n = (s.n + 1) % 64 := by
  have := h.2.2
  unfold push
  split
  · show 0 = _; omega
  · show s.n + 1 = _; omega
theorem pushes_count (l : List UInt8) : ∀ {s : St}, s.ok → (pushes s l).n = (s.n + l.length) % 64 := by
  induction l with
  | nil => intro s h; have := h.2.2; show s.n = (s.n + 0) % 64; omega
  | cons b l ih =>
    intro s h
    show (pushes (push s b) l).n = _
    rw [ih (push_ok h b), push_n h]
    simp only [List.length_cons]
    omega
def outAt (v : List (BitVec 32)) (i : Nat) : UInt8 := w8 (wd v (i / 4) >>> (24 - i % 4 * 8))
def outTo (v : List (BitVec 32)) : Nat → List UInt8
  | 0 => List.replicate 32 0
  | k + 1 => (outTo v k).set k (outAt v k)
theorem outTo_length (v : List (BitVec 32)) (k : Nat) : (outTo v k).length = 32 := by
  induction k with
  | zero => rfl
  | succ k ih => simp [outTo, ih]
theorem outTo_32 (v : List (BitVec 32)) (h : v.length = 8) : outTo v 32 = outL v := by
  match v, h with
  | [a, b, c, d, e, f, g, k], _ => simp [outTo, outL, outAt, wordL, wd, List.replicate]
theorem v32_shrz (x : BitVec 32) (k : Nat) (hk : k ≤ 32) : n32 x / 2 ^ k = n32 (x >>> k) := by
  rw [← v32_shr_nat, Int.natCast_pow]; rfl

set_option maxHeartbeats 1600000 in
set_option maxRecDepth 100000 in
theorem end_any (b : Nat) (w : World) (s : St) (t : BitVec 64) (hs : s.ok) (hb : Blk w b 121 (hc s t)) (hk : KsAt w) (hg : 0 < b) :
    Calls Tryd.prog 57 #[.pointer (some ⟨b, 0, none⟩)] w fun e w' => e = .returned (.string ⟨(finish s t.toNat).toArray⟩) ∧ w.grownBy w' (some b) := by
  have c1 := (hb.cell 73).trans (hc_t hs.l t)
  have ht : IntKind.u64.wrap ((t.toNat : Int) * 8) = ((t.toNat * 8 % 18446744073709551616 : Nat) : Int) := by
    rw [wrap_u64e]; omega
  obtain ⟨q8, hq8⟩ : ∃ q, Hid (q = t.toNat * 8 % 18446744073709551616) := ⟨_, rfl⟩
  have hq9 : q8 < 18446744073709551616 := by rw [hq8.out]; omega
  rw [← hq8.out] at ht
  have HT := Lib.hid ht
  have HB := Lib.hid hb
  have HK := Lib.hid hk
  clear hb hk ht
  have HS1 := Lib.hid (push_ok hs 128)
  obtain ⟨s1, hs1⟩ : ∃ s1, Hid (s1 = push s 128) := ⟨_, rfl⟩
  rw [← hs1.out] at HS1
  obtain ⟨z, hz⟩ : ∃ z, Hid (z = (120 - s1.n) % 64) := ⟨_, rfl⟩
  go_enter Tryd.func57, Tryd.ntmps57
  go_wp2_with fail
  rw [HT.out]
  refine (take_any b _ s t [128] hs (by decide) HB.out HK.out hg).mono ?_
  rintro e w1 ⟨rfl, h1, g1⟩
  have H1 := Lib.hid (show Blk w1 b 121 (hc (pushes s1 (List.replicate 0 0)) (t + BitVec.ofNat 64 1)) by rw [hs1.out]; exact h1)
  have G1 := Lib.hid g1
  clear h1 g1
  go_wp2_with fail
  go_loopg [] z (fun q wr => q ≤ z ∧ (∃ tj, Blk wr b 121 (hc (pushes s1 (List.replicate (z - q) 0)) tj)) ∧ w.grownBy wr (some b))
  case atStart => exact ⟨Nat.le_refl _, ⟨_, by rw [Nat.sub_self]; exact H1.out⟩, G1.out⟩
  case round =>
    obtain ⟨hq, ⟨tj, hB⟩, hG⟩ := hrel
    have hok := pushes_ok HS1.out (List.replicate (z - gk) 0)
    have hcnt := pushes_count (List.replicate (z - gk) 0) HS1.out
    rw [List.length_replicate] at hcnt
    have hz' := hz.out
    have hsn := HS1.out.2.2
    have c2 := (hB.cell 72).trans (hc_n hok.l tj)
    rw [hcnt] at c2
    have HKW := Lib.hid (show KsAt wr from fun i hi => hG.cell (HK.out i hi) (by simp; omega))
    cases gk with
    | zero =>
      have he : (((s1.n + (z - 0)) % 64 : Nat) : Int) = 56 := by omega
      rw [he] at c2
      have hp : pushes s1 (List.replicate (z - 0) 0) = padZ s1 := by rw [Nat.sub_zero, hz.out]; rfl
      rw [hp] at hB hok
      have HB2 := Lib.hid hB
      have HG2 := Lib.hid hG
      have HOK := Lib.hid hok
      clear hB hG hcnt hz' hsn hp hok he hq
      go_wp2_with fail
      refine (eight_any q8 _ hq9).mono ?_
      rintro e w2 ⟨rfl, hb2⟩
      have H2 := Lib.hid hb2
      clear hb2
      go_wp2_with fail
      refine (take_any b _ (padZ s1) tj (eightL q8) HOK.out (by rw [eightL_length]; decide) (HB2.out.below H2.out HB2.out.lt) (fun i hi => (H2.out.cell (by have := HB2.out.lt; show 0 < _; omega)).trans (HKW.out i hi)) hg).mono ?_
      rintro e w3 ⟨rfl, hb3, hg3⟩
      obtain ⟨s3, hs3⟩ : ∃ s3, Hid (s3 = pushes (padZ s1) (eightL q8)) := ⟨_, rfl⟩
      have HV := Lib.hid (pushes_ok HOK.out (eightL q8)).l
      rw [← hs3.out] at hb3 HV
      have HB3 := Lib.hid hb3
      have HG3 := Lib.hid (only_trans (only_of_below HG2.out H2.out) hg3)
      have hfi : (finish s t.toNat) = outL s3.v := by
        rw [hs3.out, hq8.out, hs1.out]; rfl
      have HFI := Lib.hid hfi
      clear hb3 hg3 hfi c2
      go_wp2_with fail
      go_loopw [24] (fun v wr => ∃ k : Nat, k ≤ 32 ∧ v = .int .i64 k ∧ Blk wr w3.heap.size 123 (cb (outTo s3.v k)).toArray ∧ Below w3.heap.size w3 wr) (fun v _ => 32 - (intOf v).toNat)
      case atStart => exact ⟨0, by omega, rfl, Blk.new _ _ _, (Below.refl _ _).alloc (Nat.le_refl _) _⟩
      case round =>
        obtain ⟨k, hk, rfl, hB4, hG4⟩ := hrel
        by_cases hlt : k < 32
        · have d1 := ((HB3.out.below hG4 HB3.out.lt).cell (k / 4)).trans (hc_v HV.out _ (k / 4) (by omega))
          have d2 := (hB4.cell k).trans (cb_get (outTo s3.v k) k (by rw [outTo_length]; omega))
          have f2 := hB4.frozen k
          have hsh := v32_shrz (wd s3.v (k / 4)) (24 - k % 4 * 8) (by omega)
          have hfin : Blk (wr.setCell ⟨w3.heap.size, k, none⟩ (.int .u8 (n8 (outAt s3.v k)))) w3.heap.size 123 (cb (outTo s3.v (k + 1))).toArray ∧
              Below w3.heap.size w3 (wr.setCell ⟨w3.heap.size, k, none⟩ (.int .u8 (n8 (outAt s3.v k)))) := by
            have := hB4.set_ k (.int .u8 (n8 (outAt s3.v k)))
            rw [cb_set] at this
            exact ⟨this, hG4.setCell (Nat.le_refl _) _⟩
          have HF := Lib.hid hfin
          have HSH := Lib.hid hsh
          clear hfin hB4 hG4 hsh
          have e2 : 0 ≤ 24 - (k : Int) % 4 * 8 := by omega
          have e3 : 0 ≤ (k : Int) ∧ (k : Int) < 32 := by omega
          have e4 : 0 ≤ (k : Int) / 4 ∧ (k : Int) / 4 < 8 := by omega
          go_wp2_with fail
          rw [HSH.out, w8_n8]
          exact ⟨⟨k + 1, by omega, by go_num, HF.out⟩, by simp [intOf]; omega⟩
        · obtain rfl : k = 32 := by omega
          have hcv := run_bytes_cells (P := Tryd.prog) wr 61 9 5 Tryd.underlying61 Tryd.underlying5 Tryd.underlying9 w3.heap.size 0 32 (outTo s3.v 32) 32 (outTo_length _ _) (fun i hi => by
            rw [Nat.zero_add]; exact (hB4.cell i).trans (cb_get _ i (by rw [outTo_length]; omega)))
          rw [outTo_32 _ HV.out.1, ← HFI.out] at hcv
          have HG5 := Lib.hid (only_of_below HG3.out hG4)
          clear hB4 hG4
          go_wp2_with fail
          go_ret
          exact ⟨rfl, HG5.out⟩
    | succ k1 =>
      have he : ((((s1.n + (z - (k1 + 1))) % 64 : Nat) : Int) == 56) = false := by simp; omega
      have he2 : ((((s1.n + (z - (k1 + 1))) % 64 : Nat) : Int) != 56) = true := by simp; omega
      have hp : pushes s1 (List.replicate (z - k1) 0) = pushes (pushes s1 (List.replicate (z - (k1 + 1)) 0)) [0] := by
        rw [← pushes_append, show z - k1 = (z - (k1 + 1)) + 1 from by omega, List.replicate_succ']
      have HP := Lib.hid hp
      have HB2 := Lib.hid hB
      have HG2 := Lib.hid hG
      have HOK := Lib.hid hok
      obtain ⟨n1, hn1⟩ : ∃ n1, Hid (n1 = (s1.n + (z - (k1 + 1))) % 64) := ⟨_, rfl⟩
      rw [← hn1.out] at c2 he he2
      clear hB hG hcnt hz' hsn hp hok
      go_wp2_with fail
      refine (take_any b _ _ tj [0] HOK.out (by decide) HB2.out HKW.out hg).mono ?_
      rintro e w2 ⟨rfl, h2, g2⟩
      rw [← HP.out] at h2
      have H2 := Lib.hid h2
      have G2 := Lib.hid (only_trans HG2.out g2)
      clear h2 g2
      go_wp2_with fail
      go_roundg k1
      case measure => omega
      case rel => exact ⟨by omega, ⟨_, H2.out⟩, G2.out⟩
end Go.Proofs.YtjmgkjjcdnaapaaDoor
namespace Go.Proofs.YtjmgkjjcdnaapaaDoor
open Go.RowKit
set_option linter.unusedSimpArgs false
set_option linter.unusedVariables false
set_option maxRecDepth 100000

/-- a slice of texts. -/
def Strs (w : World) (A : Option Addr) (n : Nat) (ls : List (List UInt8)) : Prop :=
  ls.length = n ∧ (0 < n → ∃ g o, A = some ⟨g, o, none⟩ ∧ g < w.heap.size ∧ ∀ i, i < n → w.cell? ⟨g, o + i, none⟩ = some (.string ⟨(ls.getD i []).toArray⟩))
theorem Strs.below {w w' : World} {A : Option Addr} {n : Nat} {ls : List (List UInt8)} (h : Strs w A n ls) (hb : Below w.heap.size w w') : Strs w' A n ls :=
  ⟨h.1, fun hn => by
    obtain ⟨g, o, e, hg, hc⟩ := h.2 hn
    exact ⟨g, o, e, Nat.lt_of_lt_of_le hg hb.size, fun i hi => (hb.cell (p := ⟨g, o + i, none⟩) hg).trans (hc i hi)⟩⟩
def sumTo (ls : List (List UInt8)) (k : Nat) : List UInt8 := (ls.take k).flatten
theorem sumTo_succ (ls : List (List UInt8)) (k : Nat) (h : k < ls.length) : sumTo ls (k + 1) = sumTo ls k ++ ls.getD k [] := by
  unfold sumTo
  rw [List.take_succ_eq_append_getElem h, List.flatten_append]
  simp [List.getElem?_eq_getElem h]
theorem ofNat_add64 (a b : Nat) : BitVec.ofNat 64 a + BitVec.ofNat 64 b = BitVec.ofNat 64 (a + b) := by
  rw [BitVec.ofNat_add]
theorem finish_mod (s : St) (n : Nat) : finish s (BitVec.ofNat 64 n).toNat = finish s n := by
  unfold finish
  rw [BitVec.toNat_ofNat, show n % 2 ^ 64 * 8 % 18446744073709551616 = n * 8 % 18446744073709551616 from by omega]
set_option maxHeartbeats 1600000 in
set_option maxRecDepth 100000 in
theorem sum_any (A : Option Addr) (n c : Nat) (w : World) (ls : List (List UInt8)) (h : Strs w A n ls) (hlen : ∀ l ∈ ls, l.length ≤ 140737488355328) (hn : n ≤ 9223372036854775807) (hk : KsAt w) (hg : 0 < w.heap.size) :
    Calls Tryd.prog 43 #[.slice A n c] w fun e w' => e = .returned (.string ⟨(sha ls.flatten).toArray⟩) ∧ Below w.heap.size w w' := by
  have H := Lib.hid h
  have HL := Lib.hid hlen
  have HK := Lib.hid hk
  clear h hlen hk
  go_enter Tryd.func43, Tryd.ntmps43
  go_wp2_with fail
  refine (begin_any w).mono ?_
  rintro e w1 ⟨rfl, hw1⟩
  have h1 := Lib.hid (show Blk w1 w.heap.size 121 (hc (pushes st0 (sumTo ls 0)) (BitVec.ofNat 64 (sumTo ls 0).length)) by rw [hw1]; exact Blk.new _ _ _)
  have b1 := Lib.hid (show Below w.heap.size w w1 by rw [hw1]; exact (Below.refl _ _).alloc (Nat.le_refl _) _)
  clear hw1
  go_wp2_with fail
  go_loopw [9] (fun v wr => ∃ k : Nat, k ≤ n ∧ v = .int .i64 k ∧ Blk wr w.heap.size 121 (hc (pushes st0 (sumTo ls k)) (BitVec.ofNat 64 (sumTo ls k).length)) ∧ Below w.heap.size w wr) (fun v _ => n - (intOf v).toNat)
  case atStart => exact ⟨0, by omega, rfl, h1.out, b1.out⟩
  case round =>
    obtain ⟨k, hk, rfl, hB, hG⟩ := hrel
    have HKW := Lib.hid (show KsAt wr from fun i hi => (hG.cell (p := ⟨0, i, none⟩) hg).trans (HK.out i hi))
    by_cases hlt : k < n
    · obtain ⟨g, o, rfl, hgb, hcell⟩ := (H.out.below hG).2 (by omega)
      have c1 := hcell k hlt
      have hll : (ls.getD k []).length ≤ 140737488355328 := by
        have : k < ls.length := by rw [H.out.1]; exact hlt
        rw [List.getD_eq_getElem?_getD, List.getElem?_eq_getElem this]
        exact HL.out _ (List.getElem_mem this)
      have HLL := Lib.hid hll
      have hsu := sumTo_succ ls k (by rw [H.out.1]; exact hlt)
      have HSU := Lib.hid hsu
      obtain ⟨lk, hlk⟩ : ∃ lk, Hid (lk = ls.getD k []) := ⟨_, rfl⟩
      rw [← hlk.out] at c1 HLL HSU
      have HB := Lib.hid hB
      have HG := Lib.hid hG
      clear hcell hll hsu hB hG
      go_wp2_with fail
      refine (take_any w.heap.size _ _ _ lk (pushes_ok st0_ok _) HLL.out HB.out HKW.out hg).mono ?_
      rintro e w2 ⟨rfl, h2, g2⟩
      rw [← pushes_append, ← HSU.out, ofNat_add64, ← List.length_append, ← HSU.out] at h2
      have H2 := Lib.hid h2
      have G2 := Lib.hid (below_of_only HG.out g2 (Nat.le_refl _) HG.out.size)
      clear h2 g2
      go_wp2_with fail
      exact ⟨⟨k + 1, by omega, by go_num, H2.out, G2.out⟩, by simp [intOf]; omega⟩
    · obtain rfl : k = n := by omega
      have hfl : sumTo ls k = ls.flatten := by unfold sumTo; rw [← H.out.1, List.take_length]
      rw [hfl] at hB
      have HB := Lib.hid hB
      have HG := Lib.hid hG
      clear hB hG hfl
      go_wp2_with fail
      refine (end_any w.heap.size _ _ _ (pushes_ok st0_ok _) HB.out HKW.out hg).mono ?_
      rintro e w2 ⟨rfl, g2⟩
      obtain ⟨R, hR⟩ : ∃ R, Hid (R = sha ls.flatten) := ⟨_, rfl⟩
      rw [finish_mod, show finish (pushes st0 ls.flatten) ls.flatten.length = R from hR.out.symm]
      have G2 := Lib.hid (below_of_only HG.out g2 (Nat.le_refl _) HG.out.size)
      clear g2
      go_wp2_with fail
      go_ret
      refine ⟨?_, G2.out⟩
      rw [hR.out]
      rfl

end Go.Proofs.YtjmgkjjcdnaapaaDoor
namespace Go.Proofs.YtjmgkjjcdnaapaaDoor
open Go.RowKit
set_option linter.unusedSimpArgs false
set_option linter.unusedVariables false

/-- a slice of one-cell elements, made by the call since block B. -/
def Own (e : TypeId) (w : World) (B : Nat) (v : Value) (xs : List Value) : Prop := w.ownsRow B e 1 v xs.length xs
/-- what is known of the elements' type. -/
def Elem (P : Program) (t e : TypeId) (z : Value) (by_ : Nat) : Prop :=
  P.underlying t = some (.slice e) ∧ (P.info? e).map (fun i => (i.zero, i.size, i.bytes)) = some (some z, 1, by_) ∧ z.cells.size = 1

section
variable {P : Program} {t e ty : TypeId} {z : Value} {by_ : Nat} {w w' : World} {B : Nat} {v : Value} {xs : List Value}
theorem my_own_nil (e : TypeId) (w : World) (B : Nat) : Own e w B (.slice none 0 0) [] := World.ownsRow_nil w B e 1
theorem Own.form (h : Own e w B v xs) : ∃ A c, v = .slice A xs.length c := by
  rcases h.2 with ⟨h1, h2⟩ | ⟨g, cap, cur, h1, _⟩
  · exact ⟨none, 0, by rw [h1, h2]⟩
  · exact ⟨_, _, h1⟩
theorem Own.alloc (h : Own e w B v xs) (o : Obj) : Own e (w.alloc o) B v xs := World.ownsRow.alloc h o
theorem Own.drew (h : Own e w B v xs) : Own e w.drew B v xs := h
theorem Own.drewN (h : Own e w B v xs) (n : Nat) : Own e (w.drewN n) B v xs := h
theorem Own.lt (h : Own e w B v xs) : ∀ k, v.ownBlock = some k → B ≤ k ∧ k < w.heap.size := World.ownsRow.lt h
theorem Own.below (h : Own e w B v xs) (hb : Below w.heap.size w w') : Own e w' B v xs := by
  refine World.ownsRow.kept (row := none) h ⟨hb.os, hb.tape, hb.output, hb.size, fun k hk _ => hb.block k hk⟩ ?_
  cases hv : v.ownBlock with
  | none => exact .inl rfl
  | some g => exact .inr (by simp)
theorem Own.grown (h : Own e w B v xs) {row : Option Nat} (hg : w.grownBy w' row) (hne : v.ownBlock = none ∨ v.ownBlock ≠ row) : Own e w' B v xs := World.ownsRow.kept h hg hne
theorem Own.setFar (h : Own e w B v xs) {p : Addr} (hp : v.ownBlock ≠ some p.block) (u : Value) : Own e (w.setCell p u) B v xs :=
  h.grown (row := some p.block) ⟨rfl, rfl, rfl, by simp, fun k _ hk => heap_setCell_other w p k u (fun e => hk (by rw [e]))⟩ (.inr hp)
theorem Own.below_grown (h : Own e w B v xs) {a : World} (ha : Below B a w) (hB : B ≤ w.heap.size) (hg : w.grownBy w' v.ownBlock) : Below B a w' :=
  ha.grown hg hB (fun k hk => (h.lt k hk).1)

/-- 'append(v, x, ..)', the elements lying in a block of their own. -/
theorem own_append (he : Elem P t e z by_) (h : Own e w B v xs) (g m c : Nat) (news : List Value) (hm : news.length = m) (hb : ∀ j u, news[j]? = some u → w.cell? ⟨g, j, none⟩ = some u) (h1 : ∀ u ∈ news, u.oneCell' = true)
    (hl : (xs.length + m) * by_ ≤ 140737488355328) (hl2 : xs.length + m ≤ 9223372036854775807) (hB : B ≤ w.heap.size) :
    ∃ A c' w', (Builtin.append_ #[t, t] ty #[v, .slice (some ⟨g, 0, none⟩) m c]).run P w = .ok (.slice A (xs.length + m) c') w' ∧ Own e w' B (.slice A (xs.length + m) c') (xs ++ news) ∧ w.grownBy w' v.ownBlock := by
  obtain ⟨i, hi, hz, hs, hby⟩ := info_parts he.2.1
  obtain ⟨v', w', hr, h2, h3, _⟩ := run_append_own (P := P) w B t ty e i z 1 by_ he.1 hi hz hs hby he.2.2 (by decide) v xs.length xs h ⟨g, 0, none⟩ m c news (by rw [hm, Nat.mul_one]) (fun j u hj => by
    have := hb j u hj
    unfold Addr.add
    split
    · rename_i h0; subst h0; exact this
    · simpa using this) h1 hl2 hl hB
  have ho : Own e w' B v' (xs ++ news) := by
    unfold Own
    rw [List.length_append, hm]
    exact h2
  obtain ⟨A, c', rfl⟩ := ho.form
  rw [List.length_append, hm] at ho hr
  exact ⟨A, c', w', hr, ho, h3⟩
/-- 'make([]T, n)'. -/
theorem own_make (he : Elem P t e z by_) (w : World) (kl kc : IntKind) (n : Nat) (hb : by_ * n ≤ 281474976710656) (hl : n ≤ 9223372036854775807) (hB : B ≤ w.heap.size) :
    ∃ w', (Instr.makeSlice t (.int kl (n : Int)) (.int kc (n : Int))).run P w = .ok (.slice (some ⟨w.heap.size, 0, none⟩) n n) w' ∧ Own e w' B (.slice (some ⟨w.heap.size, 0, none⟩) n n) (List.replicate n z.cells[0]!) ∧ w.grownBy w' none := by
  obtain ⟨i, hi, hz, hs, hby⟩ := info_parts he.2.1
  obtain ⟨w', hr, h2, h3⟩ := run_make_full (P := P) w B t e i z 1 he.1 hi hz hs kl kc n (by rw [hby]; exact hb) hl hB
  refine ⟨w', hr, ?_, h3⟩
  have hz1 : z.cells = #[z.cells[0]!] := by
    have := he.2.2
    match hc : z.cells, this with
    | ⟨[x]⟩, _ => rfl
  rw [hz1, Nat.mul_one, toList_madeCells_one] at h2
  unfold Own
  rw [List.length_replicate]
  exact h2
theorem Own.cell {g cap : Nat} {n : Nat} (h : Own e w B (.slice (some ⟨g, 0, none⟩) n cap) xs) (j : Nat) (hj : j < xs.length) : w.cell? ⟨g, j, none⟩ = xs[j]? := by
  obtain ⟨A, c, hv⟩ := h.form
  injection hv with h1 h2 h3
  subst h2
  exact World.ownsRow.cellAt h j (by omega)
theorem Own.frozen {g cap n : Nat} (h : Own e w B (.slice (some ⟨g, 0, none⟩) n cap) xs) (j : Nat) : w.frozen? ⟨g, j, none⟩ = false := by
  obtain ⟨A, c, hv⟩ := h.form
  injection hv with h1 h2 h3
  subst h2
  exact World.ownsRow.frozenAt h j
theorem Own.set_ {g cap n : Nat} (h : Own e w B (.slice (some ⟨g, 0, none⟩) n cap) xs) (j : Nat) (u : Value) : Own e (w.setCell ⟨g, j, none⟩ u) B (.slice (some ⟨g, 0, none⟩) n cap) (xs.set j u) := by
  obtain ⟨A, c, hv⟩ := h.form
  injection hv with h1 h2 h3
  subst h2
  have := (World.ownsRow.stored h j u).1
  unfold Own
  rw [List.length_set]
  exact this
theorem Own.at_ {A : Option Addr} {n cap : Nat} (h : Own e w B (.slice A n cap) xs) (hn : 0 < xs.length) : ∃ g, A = some ⟨g, 0, none⟩ ∧ B ≤ g ∧ g < w.heap.size := by
  rcases h.2 with ⟨h1, h2⟩ | ⟨g, cap', cur, h1, hB, hg, h3⟩
  · omega
  · injection h1 with h1 _ _
    refine ⟨g, h1, hB, ?_⟩
    rcases Nat.lt_or_ge g w.heap.size with hlt | hge
    · exact hlt
    · rw [Array.getElem?_eq_none hge] at hg; cases hg
/-- 'string(b)'. -/
theorem my_own_string (hs : P.underlying t = some (.slice e)) (he : P.underlying e = some (.int .u8)) {d : TypeId} (hd : P.underlying d = some .string) {l : List UInt8} (h : Own e w B v (cb l)) :
    (convert t d v).run P w = .ok (.string ⟨l.toArray⟩) w := by
  rcases h.2 with ⟨h1, h2⟩ | ⟨g, cap, cur, h1, _⟩
  · have hl : l = [] := by simpa [cb] using h2
    subst hl; subst h1
    exact run_convert_bytes_nil w t e hs he 0 0 d hd
  · subst h1
    have hl : l.length = (cb l).length := by simp [cb]
    refine run_bytes_cells w t d e hs he hd g 0 cap l _ hl (fun i hi => ?_)
    rw [Nat.zero_add, h.cell i hi]
    rw [← hl] at hi
    simp [cb, bd, List.getElem?_eq_getElem hi]
end
/-- an append whose run is known, in a plain region. -/
theorem wpList_append_run {P : Program} {w w' : World} {ops : Array Oper} {rest : List Oper} {o : Oper} {a : Act} {Q : Exit → Act → World → Prop} {v sv xv : Value} (hgd : o.guard = none) (s x : Operand) (t u : TypeId)
    (ho : o.op = .call { callee := .builtin .append, args := #[s, x], argTypes := #[t, u] }) (hs : a.eval s = sv) (hx : a.eval x = xv)
    (hrun : (Builtin.append_ #[t, u] o.type #[sv, xv]).run P w = .ok v w') (h : wpList P ops Q rest (a.put o.dst v) w') : wpList P ops Q (o :: rest) a w := by
  refine wpList_plain hgd fun K hK => ?_
  unfold Oper.wp execOp
  simp only [ho, resolve, invoke, builtin, Sem.run_bind, Sem.run_pure, Result.andThen_ok, List.map_toArray, List.map_cons, List.map_nil, hs, hx, hrun]
  exact hK _ _ h
/-- .. as a step of a region that draws. -/
theorem step_append_run {P : Program} {w w' : World} {ops : Array Oper} {o : Oper} {a : Act} {K : Act → World → Prop} {Q : Exit → Act → World → Prop} {E : Prop} {v sv xv : Value} (hgd : o.guard = none) (s x : Operand) (t u : TypeId)
    (ho : o.op = .call { callee := .builtin .append, args := #[s, x], argTypes := #[t, u] }) (hs : a.eval s = sv) (hx : a.eval x = xv)
    (hrun : (Builtin.append_ #[t, u] o.type #[sv, xv]).run P w = .ok v w') (h : K (a.put o.dst v) w') : if Region.wanted o (yielded ops a.tmps) = true then Oper.wp P o a w K Q else E := by
  have hw : Region.wanted o (yielded ops a.tmps) = true := by simp [Region.wanted, hgd]
  rw [if_pos hw]
  unfold Oper.wp execOp
  simp only [ho, resolve, invoke, builtin, Sem.run_bind, Sem.run_pure, Result.andThen_ok, List.map_toArray, List.map_cons, List.map_nil, hs, hx, hrun]
  exact h
/-- texts as cells. -/
def cstr (ls : List (List UInt8)) : List Value := ls.map fun l => .string ⟨l.toArray⟩
theorem cstr_append (a b : List (List UInt8)) : cstr (a ++ b) = cstr a ++ cstr b := by simp [cstr]
theorem cstr_length (a : List (List UInt8)) : (cstr a).length = a.length := by simp [cstr]
theorem cstr_get (a : List (List UInt8)) (i : Nat) (h : i < a.length) : (cstr a)[i]? = some (.string ⟨(a.getD i []).toArray⟩) := by simp [cstr, List.getElem?_eq_getElem h]
/-- a slice of ints that came in. -/
def Ints (w : World) (A : Option Addr) (n : Nat) (zs : List Int) : Prop :=
  zs.length = n ∧ (0 < n → ∃ g o, A = some ⟨g, o, none⟩ ∧ g < w.heap.size ∧ ∀ i, i < n → w.cell? ⟨g, o + i, none⟩ = some (.int .i64 (zs.getD i 0)))
theorem Ints.below {w w' : World} {A : Option Addr} {n : Nat} {ls : List Int} (h : Ints w A n ls) (hb : Below w.heap.size w w') : Ints w' A n ls :=
  ⟨h.1, fun hn => by
    obtain ⟨g, o, e, hg, hc⟩ := h.2 hn
    exact ⟨g, o, e, Nat.lt_of_lt_of_le hg hb.size, fun i hi => (hb.cell (p := ⟨g, o + i, none⟩) hg).trans (hc i hi)⟩⟩
/-- a new block's cells. -/
theorem new_cells (w : World) (t : TypeId) (xs : List Value) (j : Nat) (u : Value) (h : xs[j]? = some u) : (w.alloc (.cells xs.toArray t)).cell? ⟨w.heap.size, j, none⟩ = some u := by
  rw [(Blk.new w t xs.toArray).cell j]
  simpa using h
end Go.Proofs.YtjmgkjjcdnaapaaDoor
namespace Go.Proofs.YtjmgkjjcdnaapaaDoor
open Go.ChangeShapes Go.WideShapes Go.ChangeAt Go.RowKit
set_option linter.unusedSimpArgs false
set_option linter.unusedVariables false
theorem spot_none {w : World} {a : Addr} {v : Value} (h : w.cell? a = some v) : a.spot = none := by
  unfold World.cell? at h
  split at h
  · split at h
    · cases h
    · rename_i hs
      cases hh : a.spot with
      | none => rfl
      | some k => rw [hh] at hs; simp at hs
  · cases h
theorem my_add_plain {a : Addr} (h : a.spot = none) (i : Nat) : a.add i = ⟨a.block, a.off + i, none⟩ := by
  unfold Addr.add
  split
  · rename_i h0
    subst h0
    cases a
    simp_all
  · rfl
section
variable {H : Type} {enc : TypeId × Value → H} {P : Program} {w : World} {base : Nat} {sp : Nat → Bool} {held : Bool} {r : Reach} {b0 : Nat} {t e : TypeId} {v : Value} {d : DataW H} {ps : List MemPlace}
/-- a slice of numbers of one kind. -/
def Nums (k : IntKind) (w : World) (A : Option Addr) (n : Nat) (zs : List Int) : Prop :=
  zs.length = n ∧ (0 < n → ∃ g o, A = some ⟨g, o, none⟩ ∧ g < w.heap.size ∧ ∀ i, i < n → w.cell? ⟨g, o + i, none⟩ = some (.int k (zs.getD i 0)))
/-- what a slice of literals reads as. -/
def SlD (d : DataW H) (n c : Nat) (es : List (DataW H)) : Prop :=
  (n = 0 ∧ c = 0 ∧ es = [] ∧ d = .nil) ∨ ∃ sp : List (DataW H), d = .slice es sp ∧ es.length = n ∧ n ≤ c ∧ c ≤ maxLen
theorem getD_take' {α : Type} (l : List α) (n i : Nat) (x : α) (h : i < n) : (l.take n).getD i x = l.getD i x := by
  simp [List.getD, List.getElem?_take, h]
theorem open_nums {k : IntKind} (ht : P.underlying t = some (.slice e)) (he : P.underlying e = some (.int k)) (hc : P.cellsOf e = 1) (hval : Value.okWide P w r b0 t v) (hd : DataW.Trod enc P w base sp held t v d ps) :
    ∃ A n c zs, v = .slice A n c ∧ Nums k w A n zs ∧ SlD d n c (lits k zs) ∧ (∀ z ∈ zs, (Lit.int k z).wf = true) := by
  obtain ⟨a0, len, cap, rfl⟩ := okWide_slice ht hval
  obtain ⟨fuel, hf⟩ := hd
  rcases open_ints ht he hc hf with ⟨hcs, hx⟩ | ⟨a, len', cap', zs, hcs, _, hl, hm, hz, hx, hcell, hwf⟩
  · simp [Value.cells] at hcs
    simp only [Prod.mk.injEq] at hx
    obtain ⟨rfl, rfl, rfl⟩ := hcs
    exact ⟨none, 0, 0, [], rfl, ⟨rfl, fun h => absurd h (by decide)⟩, Or.inl ⟨rfl, rfl, rfl, hx.1⟩, by simp⟩
  · simp [Value.cells] at hcs
    obtain ⟨rfl, rfl, rfl⟩ := hcs
    simp only [Prod.mk.injEq] at hx
    have hlen : len ≤ zs.length := by rw [hz]; split <;> omega
    refine ⟨some a, len, cap, zs.take len, rfl, ⟨by simp; omega, fun hn => ?_⟩, Or.inr ⟨_, hx.1, by simp [lits]; omega, hl, hm⟩, fun z h => hwf z (List.mem_of_mem_take h)⟩
    have c0 := hcell 0 (by omega)
    have hs : a.spot = none := by have := spot_none c0; rwa [Addr.add, if_pos rfl] at this
    refine ⟨a.block, a.off, by cases a; simp_all, ?_, fun i hi => ?_⟩
    · rw [my_add_plain hs] at c0
      exact block_lt_of_cell (a := ⟨a.block, a.off + 0, none⟩) c0
    · have ci := hcell i (by omega)
      rw [my_add_plain hs] at ci
      rw [ci, getD_take' _ _ _ _ hi]
theorem open_intsl (ht : P.underlying t = some (.slice e)) (he : P.underlying e = some (.int .i64)) (hc : P.cellsOf e = 1) (hval : Value.okWide P w r b0 t v) (hd : DataW.Trod enc P w base sp held t v d ps) :
    ∃ A n c zs, v = .slice A n c ∧ Ints w A n zs ∧ SlD d n c (lits .i64 zs) := by
  obtain ⟨A, n, c, zs, h1, h2, h3, _⟩ := open_nums ht he hc hval hd
  exact ⟨A, n, c, zs, h1, h2, h3⟩
end
end Go.Proofs.YtjmgkjjcdnaapaaDoor
namespace Go.Proofs
open Go.Shelf
def Tryd.lays156_ren : Go.Shelf.Ren := ⟨fun | 156 => 54 | 165 => 60 | 166 => 61 | 169 => 63 | 240 => 79 | 241 => 80 | 276 => 89 | 277 => 90 | n => n, fun | 31 => 23 | 9 => 9 | 3 => 3 | 4 => 4 | 0 => 0 | 20 => 20 | 72 => 105 | 76 => 109 | 70 => 103 | 37 => 61 | 75 => 108 | 127 => 128 | 164 => 139 | 5 => 5 | 80 => 100 | n => n, fun | n => n⟩
theorem Tryd.lays156 : Go.Proofs.Lays.n156 Tryd.prog Tryd.lays156_ren := {
  mixed := by kernel_rfl
  f156 := Tryd.func54.trans (congrArg some (by kernel_rfl))
  f165 := Tryd.func60.trans (congrArg some (by kernel_rfl))
  f166 := Tryd.func61.trans (congrArg some (by kernel_rfl))
  f169 := Tryd.func63.trans (congrArg some (by kernel_rfl))
  f240 := Tryd.func79.trans (congrArg some (by kernel_rfl))
  f241 := Tryd.func80.trans (congrArg some (by kernel_rfl))
  f276 := Tryd.func89.trans (congrArg some (by kernel_rfl))
  f277 := Tryd.func90.trans (congrArg some (by kernel_rfl))
  t0 := Tryd.underlying0
  a0 := Tryd.isAgg0
  z0 := Tryd.sizeOf0
  v0 := Tryd.zeroValue0
  t3 := Tryd.underlying3
  a3 := Tryd.isAgg3
  z3 := Tryd.sizeOf3
  v3 := Tryd.zeroValue3
  t4 := Tryd.underlying4
  a4 := Tryd.isAgg4
  z4 := Tryd.sizeOf4
  v4 := Tryd.zeroValue4
  t9 := Tryd.underlying9
  a9 := Tryd.isAgg9
  z9 := Tryd.sizeOf9
  v9 := Tryd.zeroValue9
  t20 := Tryd.underlying20
  a20 := Tryd.isAgg20
  z20 := Tryd.sizeOf20
  v20 := Tryd.zeroValue20
  t31 := Tryd.underlying23
  a31 := Tryd.isAgg23
  z31 := Tryd.sizeOf23
  v31 := Tryd.zeroValue23
  t37 := Tryd.underlying61
  a37 := Tryd.isAgg61
  z37 := Tryd.sizeOf61
  v37 := Tryd.zeroValue61
  t70 := Tryd.underlying103
  a70 := Tryd.isAgg103
  z70 := Tryd.sizeOf103
  v70 := Tryd.zeroValue103
  t72 := Tryd.underlying105
  a72 := Tryd.isAgg105
  z72 := Tryd.sizeOf105
  v72 := Tryd.zeroValue105
  t75 := Tryd.underlying108
  a75 := Tryd.isAgg108
  z75 := Tryd.sizeOf108
  v75 := Tryd.zeroValue108
  t76 := Tryd.underlying109
  a76 := Tryd.isAgg109
  z76 := Tryd.sizeOf109
  v76 := Tryd.zeroValue109
  t127 := Tryd.underlying128
  a127 := Tryd.isAgg128
  z127 := Tryd.sizeOf128
  v127 := Tryd.zeroValue128
  t164 := Tryd.underlying139
  a164 := Tryd.isAgg139
  z164 := Tryd.sizeOf139
  v164 := Tryd.zeroValue139 }
theorem Tryd.Builder_Extra_156 : Builder.Extra Tryd.prog Tryd.lays156_ren := {
  sizeBuilder := by kernel_rfl
  liesBuilder := by kernel_rfl
  t5 := Tryd.underlying5
  a5 := Tryd.isAgg5
  z5 := Tryd.sizeOf5
  v5 := Tryd.zeroValue5
  infoByte := by kernel_rfl
  cellsByte := by kernel_rfl
  sizeByte := by kernel_rfl
  neB5 := by decide }
open Go.RowKit in
/-- No element: the empty string; the world is as it was. (Whatever the slice's address and capacity: a nil slice too.) (LAID: no walk: one application.) -/
theorem Tryd.strings_Join_none (a : Option Addr) (c : Nat) (sep : ByteArray) (w : World) :
    Calls Tryd.prog 54 #[.slice a 0 c, .string sep] w fun e w' => e = .returned (.string ⟨#[]⟩) ∧ w' = w := Any.strings_Join_none Tryd.lays156 Tryd.Builder_Extra_156 a c sep w
open Go.RowKit in
/-- strings.Join: "Join concatenates the elements of its first argument to create a single string. The separator string sep is placed between elements in the resulting string.": HOWEVER MANY ELEMENTS. Below the heap's end the world is as it was. (LAID: no walk: one application.) -/
theorem Tryd.strings_Join (bk o c : Nat) (xs : List ByteArray) (sep : ByteArray) (w : World) (hcells : ∀ (j : Nat) x, xs[j]? = some x → w.cell? ⟨bk, o + j, none⟩ = some (.string x)) (hbk : bk < w.heap.size) (hN : xs.length ≤ 140737488355328) (hcap : xs.length ≤ c) (hlen : (Lib.join (xs.map (·.data.toList)) sep.data.toList).length ≤ 140737488355328) :
    Calls Tryd.prog 54 #[.slice (some ⟨bk, o, none⟩) xs.length c, .string sep] w fun e w' => e = .returned (.string ⟨(Lib.join (xs.map (·.data.toList)) sep.data.toList).toArray⟩) ∧ Below w.heap.size w w' := Any.strings_Join Tryd.lays156 Tryd.Builder_Extra_156 bk o c xs sep w hcells hbk hN hcap hlen
def Tryd.lays105_ren : Go.Shelf.Ren := ⟨fun | 105 => 45 | 212 => 58 | 99 => 59 | 165 => 60 | 166 => 61 | 170 => 62 | 169 => 63 | 263 => 76 | 264 => 77 | 206 => 78 | 240 => 79 | 241 => 80 | 276 => 89 | 277 => 90 | n => n, fun | 9 => 9 | 3 => 3 | 4 => 4 | 20 => 20 | 0 => 0 | 46 => 84 | 109 => 101 | 5 => 5 | 72 => 105 | 76 => 109 | 51 => 117 | 146 => 124 | 53 => 55 | 148 => 126 | 70 => 103 | 37 => 61 | 75 => 108 | 127 => 128 | 164 => 139 | 80 => 100 | n => n, fun | n => n⟩
theorem Tryd.lays105 : Go.Proofs.Lays.n105 Tryd.prog Tryd.lays105_ren := {
  mixed := by kernel_rfl
  f99 := Tryd.func59.trans (congrArg some (by kernel_rfl))
  f105 := Tryd.func45.trans (congrArg some (by kernel_rfl))
  f165 := Tryd.func60.trans (congrArg some (by kernel_rfl))
  f166 := Tryd.func61.trans (congrArg some (by kernel_rfl))
  f169 := Tryd.func63.trans (congrArg some (by kernel_rfl))
  f170 := Tryd.func62.trans (congrArg some (by kernel_rfl))
  f206 := Tryd.func78.trans (congrArg some (by kernel_rfl))
  f212 := Tryd.func58.trans (congrArg some (by kernel_rfl))
  f240 := Tryd.func79.trans (congrArg some (by kernel_rfl))
  f241 := Tryd.func80.trans (congrArg some (by kernel_rfl))
  f263 := Tryd.func76.trans (congrArg some (by kernel_rfl))
  f264 := Tryd.func77.trans (congrArg some (by kernel_rfl))
  f276 := Tryd.func89.trans (congrArg some (by kernel_rfl))
  f277 := Tryd.func90.trans (congrArg some (by kernel_rfl))
  t0 := Tryd.underlying0
  a0 := Tryd.isAgg0
  z0 := Tryd.sizeOf0
  v0 := Tryd.zeroValue0
  t3 := Tryd.underlying3
  a3 := Tryd.isAgg3
  z3 := Tryd.sizeOf3
  v3 := Tryd.zeroValue3
  t4 := Tryd.underlying4
  a4 := Tryd.isAgg4
  z4 := Tryd.sizeOf4
  v4 := Tryd.zeroValue4
  t5 := Tryd.underlying5
  a5 := Tryd.isAgg5
  z5 := Tryd.sizeOf5
  v5 := Tryd.zeroValue5
  t9 := Tryd.underlying9
  a9 := Tryd.isAgg9
  z9 := Tryd.sizeOf9
  v9 := Tryd.zeroValue9
  t20 := Tryd.underlying20
  a20 := Tryd.isAgg20
  z20 := Tryd.sizeOf20
  v20 := Tryd.zeroValue20
  t37 := Tryd.underlying61
  a37 := Tryd.isAgg61
  z37 := Tryd.sizeOf61
  v37 := Tryd.zeroValue61
  t46 := Tryd.underlying84
  a46 := Tryd.isAgg84
  z46 := Tryd.sizeOf84
  v46 := Tryd.zeroValue84
  t51 := Tryd.underlying117
  a51 := Tryd.isAgg117
  z51 := Tryd.sizeOf117
  v51 := Tryd.zeroValue117
  t53 := Tryd.underlying55
  a53 := Tryd.isAgg55
  z53 := Tryd.sizeOf55
  v53 := Tryd.zeroValue55
  t70 := Tryd.underlying103
  a70 := Tryd.isAgg103
  z70 := Tryd.sizeOf103
  v70 := Tryd.zeroValue103
  t72 := Tryd.underlying105
  a72 := Tryd.isAgg105
  z72 := Tryd.sizeOf105
  v72 := Tryd.zeroValue105
  t75 := Tryd.underlying108
  a75 := Tryd.isAgg108
  z75 := Tryd.sizeOf108
  v75 := Tryd.zeroValue108
  t76 := Tryd.underlying109
  a76 := Tryd.isAgg109
  z76 := Tryd.sizeOf109
  v76 := Tryd.zeroValue109
  t109 := Tryd.underlying101
  a109 := Tryd.isAgg101
  z109 := Tryd.sizeOf101
  v109 := Tryd.zeroValue101
  t127 := Tryd.underlying128
  a127 := Tryd.isAgg128
  z127 := Tryd.sizeOf128
  v127 := Tryd.zeroValue128
  t146 := Tryd.underlying124
  a146 := Tryd.isAgg124
  z146 := Tryd.sizeOf124
  v146 := Tryd.zeroValue124
  t148 := Tryd.underlying126
  a148 := Tryd.isAgg126
  z148 := Tryd.sizeOf126
  v148 := Tryd.zeroValue126
  t164 := Tryd.underlying139
  a164 := Tryd.isAgg139
  z164 := Tryd.sizeOf139
  v164 := Tryd.zeroValue139 }
theorem Tryd.Builder_Extra_105 : Builder.Extra Tryd.prog Tryd.lays105_ren := {
  sizeBuilder := by kernel_rfl
  liesBuilder := by kernel_rfl
  t5 := Tryd.underlying5
  a5 := Tryd.isAgg5
  z5 := Tryd.sizeOf5
  v5 := Tryd.zeroValue5
  infoByte := by kernel_rfl
  cellsByte := by kernel_rfl
  sizeByte := by kernel_rfl
  neB5 := by decide }
open Go.RowKit Go.Lib in
/-- **strings.Repeat: count ≥ 0, the result within one allocation: count copies of s.** (LAID: no walk: one application.) -/
theorem Tryd.strings_Repeat (s : ByteArray) (c : Nat) (w : World) (hc : c ≤ 9223372036854775807) (hlen : s.size * c ≤ 140737488355328) :
    Calls Tryd.prog 45 #[.string s, .int .i64 c] w fun e w' => e = .returned (.string ⟨(Lib.repeatL s.data.toList c).toArray⟩) ∧ Below w.heap.size w w' := Any.strings_Repeat Tryd.lays105 Tryd.Builder_Extra_105 s c w hc hlen
end Go.Proofs
namespace Go.Proofs.YtjmgkjjcdnaapaaDoor
end Go.Proofs.YtjmgkjjcdnaapaaDoor
namespace Go.Proofs.YtjmgkjjcdnaapaaDoor
open Go.Proofs.YtjmgkjjcdnaapaaDoorW.PrintWords
end Go.Proofs.YtjmgkjjcdnaapaaDoor
namespace Go.Proofs.YtjmgkjjcdnaapaaDoor
open Go.RowKit Go.Proofs.YtjmgkjjcdnaapaaDoorW.PrintWords Go.Proofs.YtjmgkjjcdnaapaaDoorW.PrintLast Go.Proofs.YtjmgkjjcdnaapaaDoorW.PrintMore
attribute [local go_sem] max2_int min2_int max_two min_two max_three min_three max_four min_four   -- for this text's walks alone
set_option linter.unusedVariables false
set_option linter.unusedSimpArgs false
-- the values' own types
/-! #### struct type 68 -/
structure S68 where
  f0 : ByteArray
  f1 : ByteArray
def z68 : S68 := ⟨(⟨#[]⟩ : ByteArray), (⟨#[]⟩ : ByteArray)⟩
def k68 : Kd S68 := Kd.iso (Kd.pair Kd.string Kd.string) (fun x : S68 => (x.f0, x.f1))
theorem k68_open {w : World} {x : S68} {cs : List Value} (h : k68.K w x cs) : cs = [.string x.f0, .string x.f1] := by
  obtain ⟨_, _, rfl, rfl, rfl⟩ := h
  exact rfl
theorem k68_mk (w : World) (x : S68)  : k68.K w x [.string x.f0, .string x.f1] := ⟨[.string x.f0], [.string x.f1], rfl, rfl, rfl⟩
def rd_T68 (xs : List S68) (i : Int) : S68 := xs.getD i.toNat z68
theorem at_T68 {w : World} {A : Option Addr} {n : Nat} {xs : List S68} (h : Kd.C k68 w A n xs) (i : Int) (h0 : 0 ≤ i) (h1 : i < n) : ∃ ad , A = some ad ∧ w.cell? (ad.add (i.toNat * 2)) = some (.string (rd_T68 xs i).f0) ∧ w.cell? ⟨(ad.add (i.toNat * 2)).block, (ad.add (i.toNat * 2)).off + 1, none⟩ = some (.string (rd_T68 xs i).f1) := by
  obtain ⟨ad, c, e, _, hK, hc0⟩ := Kd.C_get h z68 i h0 h1
  have hc : ∀ j u, c[j]? = some u → w.cell? (ad.add (i.toNat * 2 + j)) = some u := hc0
  obtain rfl := k68_open hK
  exact ⟨ad, e, hc 0 _ rfl, by rw [← add_field _ _ 1 (by omega)]; exact hc 1 _ rfl⟩

end Go.Proofs.YtjmgkjjcdnaapaaDoor
namespace Go.Proofs.YtjmgkjjcdnaapaaDoor
open Go.RowKit Go.Proofs.YtjmgkjjcdnaapaaDoorW.PrintWords Go.Proofs.YtjmgkjjcdnaapaaDoorW.PrintLast
set_option linter.unusedSimpArgs false
set_option linter.unusedVariables false
/-! ### strings.Repeat, mail.join -/
theorem repeat_zero20 (m : Nat) : Lib.repeatL (⟨#[0]⟩ : ByteArray).data.toList m = List.replicate m 0 := by
  induction m with
  | zero => rfl
  | succ m ih => rw [Lib.repeatL, ih]; rfl
def strings_Repeat.f (a0 : ByteArray) (a1 : Int) : Option ByteArray := if 0 ≤ a1 ∧ a1 ≤ 140737488355328 ∧ a0.size * a1.toNat ≤ 140737488355328 then some ⟨(Lib.repeatL a0.data.toList a1.toNat).toArray⟩ else none
theorem strings_Repeat.calls (a0 : ByteArray) (a1 : Int) (r : ByteArray) (w : World) (h : strings_Repeat.f a0 a1 = some r) :
    Calls Tryd.prog 45 #[.string a0, .int .i64 a1] w fun e w' => e = .returned (.string r) ∧ Below w.heap.size w w' := by
  unfold strings_Repeat.f at h
  split at h
  · rename_i hs
    simp only [Option.some.injEq] at h
    subst h
    have := Tryd.strings_Repeat a0 a1.toNat w (by omega) hs.2.2
    rw [show ((a1.toNat : Nat) : Int) = a1 by omega] at this
    exact this
  · cases h
/-- a row of texts that is read: its address has no spot, its cells. -/
theorem texts_at {w : World} {A : Option Addr} {l : List ByteArray} (h : Kd.C Kd.string w A l.length l) (hp : 0 < l.length) :
    ∃ b o, A = some ⟨b, o, none⟩ ∧ b < w.heap.size ∧ ∀ (j : Nat) x, l[j]? = some x → w.cell? ⟨b, o + j, none⟩ = some (.string x) := by
  obtain ⟨ad, e, hc⟩ := h.2.2 hp
  have hcell : ∀ (j : Nat) x, l[j]? = some x → w.cell? (ad.add j) = some (.string x) := fun j x hj => by
    obtain ⟨c, hs, hr, hcc⟩ := hc j x hj
    have hr' : c = [.string x] := hr
    subst hr'
    have := hcc 0 _ rfl
    simpa [Kd.string, Kd.scalar] using this
  obtain ⟨b, o, s⟩ := ad
  have h0 := hcell 0 l[0] (List.getElem?_eq_getElem hp)
  have e0 : (⟨b, o, s⟩ : Addr).add 0 = ⟨b, o, s⟩ := by simp [Addr.add]
  rw [e0] at h0
  have hs : s = none := by
    cases s with
    | none => rfl
    | some q => simp [World.cell?] at h0; split at h0 <;> simp at h0
  subst hs
  refine ⟨b, o, e, World.block_lt_of_cell? w _ h0, fun j x hj => ?_⟩
  have := hcell j x hj
  unfold Addr.add at this
  split at this
  · rename_i hj0; subst hj0; simpa using this
  · exact this
def mail_join.f (l : List ByteArray) : Option ByteArray := if l.length ≤ 140737488355328 ∧ (Lib.join (l.map (·.data.toList)) []).length ≤ 140737488355328 then some ⟨(Lib.join (l.map (·.data.toList)) []).toArray⟩ else none
set_option maxHeartbeats 400000 in
theorem mail_join.calls (A0 : Option Addr) (c0 : Nat) (l0 : List ByteArray) (r : ByteArray) (w : World) (hr0 : Kd.C Kd.string w A0 l0.length l0) (hc0 : l0.length ≤ c0) (h : mail_join.f l0 = some r) :
    Calls Tryd.prog 39 #[.slice A0 l0.length c0] w fun e w' => e = .returned (.string r) ∧ Below w.heap.size w w' := by
  unfold mail_join.f at h
  split at h
  · rename_i hs
    simp only [Option.some.injEq] at h
    subst h
    have hJ : Calls Tryd.prog 54 #[.slice A0 l0.length c0, .string ⟨#[]⟩] w fun e w' => e = .returned (.string ⟨(Lib.join (l0.map (·.data.toList)) []).toArray⟩) ∧ Below w.heap.size w w' := by
      rcases Nat.eq_zero_or_pos l0.length with h0 | h0
      · have hl : l0 = [] := List.eq_nil_of_length_eq_zero h0
        subst hl
        exact (Tryd.strings_Join_none A0 c0 ⟨#[]⟩ w).mono fun e w' ⟨he, hw⟩ => ⟨he, by rw [hw]; exact Below.refl _ _⟩
      · obtain ⟨b, o, rfl, hb, hc⟩ := texts_at hr0 h0
        exact Tryd.strings_Join b o c0 l0 ⟨#[]⟩ w hc hb hs.1 hc0 hs.2
    have HJ := Lib.hid hJ
    clear hJ hr0 hs
    go_enter Tryd.func39, Tryd.ntmps39
    go_wp2_with fail
    refine HJ.out.mono ?_
    rintro e w' ⟨rfl, hb⟩
    have HB := Lib.hid hb
    clear hb
    go_wp2_with fail
    go_ret
    exact ⟨rfl, HB.out⟩
  · cases h
/-! ### ids, entries -/
def noIdL : List UInt8 := [0, 0, 0, 0, 0, 0, 0, 0, 0, 0, 0, 0, 0, 0, 0, 0]
def idB (a : ByteArray) : Bool := (a.size == 16) && (a.toList != noIdL)
set_option maxHeartbeats 400000 in
theorem isId_any (a : ByteArray) (w : World) : Calls Tryd.prog 73 #[.string a] w fun e w' => e = .returned (.bool (idB a)) ∧ w' = w := by
  by_cases h : a.size = 16
  · have e1 : ((a.size : Int) == 16) = true := by simp; omega
    have e2 := Lib.hid (show idB a = (a.toList != noIdL) by unfold idB; rw [h]; rfl)
    clear h
    go_enter Tryd.func73, Tryd.ntmps73
    go_wp2_with fail
    go_ret
    exact ⟨by rw [e2.out]; rfl, rfl⟩
  · have e1 : ((a.size : Int) == 16) = false := by simp; omega
    have e2 := Lib.hid (show idB a = false by unfold idB; rw [show (a.size == 16) = false by simpa using h]; rfl)
    clear h
    go_enter Tryd.func73, Tryd.ntmps73
    go_wp2_with fail
    go_ret
    exact ⟨by rw [e2.out]; rfl, rfl⟩
/-! ### slices.ContainsFunc -/
set_option maxHeartbeats 400000 in
theorem strangerF_any (a : ByteArray) (w : World) : Calls Tryd.prog 72 #[.string a] w fun e w' => e = .returned (.bool (!idB a)) ∧ w' = w := by
  go_enter Tryd.func72, Tryd.ntmps72
  go_wp2_with fail
  refine (isId_any a w).mono ?_
  rintro e w' ⟨rfl, rfl⟩
  go_wp2_with fail
  go_ret
  exact ⟨rfl, rfl⟩
set_option maxHeartbeats 400000 in
theorem filledF_any (a : S68) (w : World) : Calls Tryd.prog 70 #[.agg #[.string a.f0, .string a.f1]] w fun e w' => e = .returned (.bool (!((a.f0.toList == []) && (a.f1.toList == [])))) ∧ Below w.heap.size w w' := by
  go_enter Tryd.func70, Tryd.ntmps70
  go_wp2_with fail
  all_goals (go_ret; exact ⟨by simp [*], (Below.refl _ _).alloc (Nat.le_refl _) _⟩)
/-- the first one of whom it is said; the length: there is none. -/
def fstI {α : Type} (p : α → Bool) (l : List α) : Int := if l.any p then ((l.findIdx p : Nat) : Int) else -1
theorem fstI_hit {α : Type} (p : α → Bool) (l : List α) (k : Nat) (a : α) (ha : l[k]? = some a) (h1 : p a = true) (h0 : ∀ j x, j < k → l[j]? = some x → p x = false) : fstI p l = (k : Int) := by
  have hk : k < l.length := (List.getElem?_eq_some_iff.1 ha).1
  have hm : a ∈ l := List.mem_of_getElem? ha
  have hany : l.any p = true := List.any_eq_true.2 ⟨a, hm, h1⟩
  unfold fstI
  rw [if_pos hany]
  have : l.findIdx p = k := by
    rw [List.findIdx_eq hk]
    refine ⟨by rw [← h1]; congr 1; exact (List.getElem?_eq_some_iff.1 ha).2, fun j hj => ?_⟩
    exact h0 j _ hj (List.getElem?_eq_getElem (by omega))
  rw [this]
theorem fstI_none {α : Type} (p : α → Bool) (l : List α) (h0 : ∀ j x, j < l.length → l[j]? = some x → p x = false) : fstI p l = -1 := by
  unfold fstI
  rw [if_neg]
  intro h
  obtain ⟨x, hx, hp⟩ := List.any_eq_true.1 h
  obtain ⟨j, hj, rfl⟩ := List.mem_iff_getElem.1 hx
  have := h0 j _ hj (List.getElem?_eq_getElem hj)
  rw [this] at hp
  cases hp
theorem fstI_ge {α : Type} (p : α → Bool) (l : List α) : decide (0 ≤ fstI p l) = l.any p := by
  unfold fstI
  cases h : l.any p with
  | true => rw [if_pos rfl]; simp
  | false => rw [if_neg (by simp)]; simp
set_option maxHeartbeats 800000 in
theorem indexS_any (A0 : Option Addr) (c0 : Nat) (l0 : List ByteArray) (w : World) (hr0 : Kd.C Kd.string w A0 l0.length l0) (hc0 : l0.length ≤ c0) :
    Calls Tryd.prog 85 #[.slice A0 l0.length c0, .func (Fn.func 72) #[] #[]] w fun e w' => e = .returned (.int .i64 (fstI (fun a => !idB a) l0)) ∧ w' = w := by
  have hl := hr0.2.1
  have HR := Lib.hid hr0
  clear hr0
  obtain ⟨n, hn⟩ : ∃ n, n = l0.length := ⟨_, rfl⟩
  go_enter Tryd.func85, Tryd.ntmps85
  go_wp2_with fail
  go_loop [8] (fun v => ∃ k : Nat, k ≤ l0.length ∧ v = .int .i64 k ∧ Hid (∀ j x, j < k → l0[j]? = some x → (!idB x) = false)) (fun v => l0.length - (intOf v).toNat)
  case atStart => exact ⟨0, by omega, rfl, Lib.hid (fun j x hj => by omega)⟩
  case round =>
    obtain ⟨k, hk, rfl, H0⟩ := hrel
    by_cases hlt : k < l0.length
    · obtain ⟨b, o, rfl, hb, hc⟩ := texts_at HR.out (by omega)
      have hget := List.getElem?_eq_getElem hlt
      obtain ⟨a, ha⟩ : ∃ a, a = l0[k] := ⟨_, rfl⟩
      rw [← ha] at hget
      have HG := Lib.hid hget
      have c1 := hc k a hget
      have e1 : 0 ≤ (k : Int) ∧ (k : Int) < (l0.length : Int) := by omega
      clear hc hget ha
      go_wp2_with fail
      refine (strangerF_any a w).mono ?_
      rintro e w' ⟨rfl, rfl⟩
      cases hp : !idB a with
      | true =>
        have HF := Lib.hid (fstI_hit (fun a => !idB a) l0 k a HG.out hp H0.out)
        clear hp
        go_wp2_with fail
        go_ret
        exact ⟨by rw [HF.out]; rfl, rfl⟩
      | false =>
        have H1 : Hid (∀ j x, j < k + 1 → l0[j]? = some x → (!idB x) = false) := Lib.hid (fun j x hj hx => by
          rcases Nat.lt_or_ge j k with h | h
          · exact H0.out j x h hx
          · obtain rfl : j = k := by omega
            rw [HG.out] at hx
            cases hx
            exact hp)
        clear hp
        go_wp2_with fail
        go_round
        case rel => exact ⟨k + 1, by omega, by go_num, H1⟩
        case measure => simp [intOf]; omega
    · obtain rfl : k = l0.length := by omega
      have HF := Lib.hid (fstI_none (fun a => !idB a) l0 H0.out)
      go_wp2_with fail
      go_ret
      exact ⟨by rw [HF.out]; rfl, rfl⟩
set_option maxHeartbeats 400000 in
theorem containsS_any (A0 : Option Addr) (c0 : Nat) (l0 : List ByteArray) (w : World) (hr0 : Kd.C Kd.string w A0 l0.length l0) (hc0 : l0.length ≤ c0) :
    Calls Tryd.prog 71 #[.slice A0 l0.length c0, .func (Fn.func 72) #[] #[]] w fun e w' => e = .returned (.bool (l0.any fun a => !idB a)) ∧ w' = w := by
  have HC := Lib.hid (indexS_any A0 c0 l0 w hr0 hc0)
  have HE := Lib.hid (fstI_ge (fun a => !idB a) l0)
  clear hr0
  go_enter Tryd.func71, Tryd.ntmps71
  go_wp2_with fail
  refine HC.out.mono ?_
  rintro e w' ⟨rfl, rfl⟩
  go_wp2_with fail
  go_ret
  exact ⟨by rw [← HE.out]; rfl, rfl⟩
set_option maxHeartbeats 400000 in
theorem stranger_any (A0 : Option Addr) (c0 : Nat) (l0 : List ByteArray) (w : World) (hr0 : Kd.C Kd.string w A0 l0.length l0) (hc0 : l0.length ≤ c0) :
    Calls Tryd.prog 53 #[.slice A0 l0.length c0] w fun e w' => e = .returned (.bool (l0.any fun a => !idB a)) ∧ w' = w := by
  have HC := Lib.hid (containsS_any A0 c0 l0 w hr0 hc0)
  clear hr0
  go_enter Tryd.func53, Tryd.ntmps53
  go_wp2_with fail
  refine HC.out.mono ?_
  rintro e w' ⟨rfl, rfl⟩
  go_wp2_with fail
  go_ret
  exact ⟨rfl, rfl⟩
def mail_stranger.f (l : List ByteArray) : Option Bool := some (l.any fun a => !idB a)
theorem mail_stranger.calls (A0 : Option Addr) (c0 : Nat) (l0 : List ByteArray) (r : Bool) (w : World) (hr0 : Kd.C Kd.string w A0 l0.length l0) (hc0 : l0.length ≤ c0) (h : mail_stranger.f l0 = some r) :
    Calls Tryd.prog 53 #[.slice A0 l0.length c0] w fun e w' => e = .returned (.bool r) ∧ Drawn0 w w' := by
  simp only [mail_stranger.f, Option.some.injEq] at h
  subst h
  exact (stranger_any A0 c0 l0 w hr0 hc0).mono fun e w' ⟨he, hw⟩ => ⟨he, by rw [hw]; exact Drawn0.refl w⟩
/-! ### entries of a reply -/
def entryB (a : S68) : Bool := idB a.f0 && decide (a.f1.size ≤ 222)
def someB (a : S68) : Bool := !((a.f0.toList == []) && (a.f1.toList == []))
set_option maxHeartbeats 400000 in
theorem entry_any (a : S68) (w : World) : Calls Tryd.prog 68 #[.agg #[.string a.f0, .string a.f1]] w fun e w' => e = .returned (.bool (entryB a)) ∧ Below w.heap.size w w' := by
  cases h : idB a.f0 with
  | true =>
    have e2 := Lib.hid (show entryB a = decide ((a.f1.size : Int) ≤ 222) by
      unfold entryB; rw [h, Bool.true_and, Bool.eq_iff_iff]; simp; omega)
    have e3 := Lib.hid h
    clear h
    go_enter Tryd.func68, Tryd.ntmps68
    go_wp2_with fail
    refine (isId_any a.f0 _).mono ?_
    rintro e w' ⟨rfl, rfl⟩
    rw [e3.out]
    go_wp2_with fail
    go_ret
    exact ⟨by rw [e2.out]; rfl, (Below.refl _ _).alloc (Nat.le_refl _) _⟩
  | false =>
    have e2 := Lib.hid (show entryB a = false by unfold entryB; rw [h, Bool.false_and])
    have e3 := Lib.hid h
    clear h
    go_enter Tryd.func68, Tryd.ntmps68
    go_wp2_with fail
    refine (isId_any a.f0 _).mono ?_
    rintro e w' ⟨rfl, rfl⟩
    rw [e3.out]
    go_wp2_with fail
    go_ret
    exact ⟨by rw [e2.out]; rfl, (Below.refl _ _).alloc (Nat.le_refl _) _⟩
/-- a row of slots that is read: its address has no spot, its cells. -/
theorem slots_at {w : World} {A : Option Addr} {n : Nat} {l : List S68} (h : Kd.C k68 w A n l) (hp : 0 < n) :
    ∃ b o, A = some ⟨b, o, none⟩ ∧ b < w.heap.size ∧ ∀ (j : Nat) x, l[j]? = some x → w.cell? ⟨b, o + j * 2, none⟩ = some (.string x.f0) ∧ w.cell? ⟨b, o + j * 2 + 1, none⟩ = some (.string x.f1) := by
  obtain ⟨ad, e, hc⟩ := h.2.2 hp
  have hln : l.length = n := h.1
  have hcell : ∀ (j : Nat) x, l[j]? = some x → w.cell? (ad.add (j * 2)) = some (.string x.f0) ∧ w.cell? (ad.add (j * 2 + 1)) = some (.string x.f1) := fun j x hj => by
    obtain ⟨c, hs, hr, hcc⟩ := hc j x hj
    obtain rfl := k68_open hr
    exact ⟨hcc 0 _ rfl, hcc 1 _ rfl⟩
  obtain ⟨b, o, s⟩ := ad
  have h0 := (hcell 0 l[0] (List.getElem?_eq_getElem (by omega))).1
  have e0 : (⟨b, o, s⟩ : Addr).add (0 * 2) = ⟨b, o, s⟩ := by simp [Addr.add]
  rw [e0] at h0
  have hs : s = none := by
    cases s with
    | none => rfl
    | some q => simp [World.cell?] at h0; split at h0 <;> simp at h0
  subst hs
  have ha : ∀ m, (⟨b, o, none⟩ : Addr).add m = ⟨b, o + m, none⟩ := fun m => by unfold Addr.add; split <;> simp_all
  refine ⟨b, o, e, World.block_lt_of_cell? w _ h0, fun j x hj => ?_⟩
  have := hcell j x hj
  rw [ha, ha] at this
  exact this
set_option maxHeartbeats 800000 in
theorem indexF_any (A0 : Option Addr) (c0 n : Nat) (l0 : List S68) (w : World) (hr0 : Kd.C k68 w A0 n l0) (hc0 : n ≤ c0) :
    Calls Tryd.prog 84 #[.slice A0 n c0, .func (Fn.func 70) #[] #[]] w fun e w' => e = .returned (.int .i64 (fstI someB l0)) ∧ Below w.heap.size w w' := by
  have hl := hr0.2.1
  have hln : l0.length = n := hr0.1
  have HR := Lib.hid hr0
  have HLN := Lib.hid hln
  clear hr0 hln
  go_enter Tryd.func84, Tryd.ntmps84
  go_wp2_with fail
  go_loopw [8] (fun v wr => ∃ k : Nat, k ≤ n ∧ v = .int .i64 k ∧ Hid (∀ j x, j < k → l0[j]? = some x → someB x = false) ∧ Below w.heap.size w wr) (fun v _ => n - (intOf v).toNat)
  case atStart => exact ⟨0, by omega, rfl, Lib.hid (fun j x hj => by omega), Below.refl _ _⟩
  case round =>
    obtain ⟨k, hk, rfl, H0, hb0⟩ := hrel
    have HB := Lib.hid hb0
    clear hb0
    by_cases hlt : k < n
    · obtain ⟨b, o, rfl, hb, hc⟩ := slots_at HR.out (by omega)
      have hget := List.getElem?_eq_getElem (show k < l0.length by rw [HLN.out]; exact hlt)
      obtain ⟨a, ha⟩ : ∃ a, a = l0[k]'(by rw [HLN.out]; exact hlt) := ⟨_, rfl⟩
      rw [← ha] at hget
      have HG := Lib.hid hget
      have c1 := (HB.out.cell (p := ⟨b, o + k * 2, none⟩) hb).trans (hc k a hget).1
      have c2 := (HB.out.cell (p := ⟨b, o + k * 2 + 1, none⟩) hb).trans (hc k a hget).2
      have e1 : 0 ≤ (k : Int) ∧ (k : Int) < (n : Int) := by omega
      clear hc hget ha
      go_wp2_with fail
      refine (filledF_any a wr).mono ?_
      rintro e w' ⟨rfl, hb2⟩
      have HB2 := Lib.hid (HB.out.trans (hb2.mono HB.out.size))
      clear hb2
      change Hid _ at HG
      rw [show (!((a.f0.toList == []) && (a.f1.toList == []))) = someB a from rfl]
      cases hp : someB a with
      | true =>
        have HF := Lib.hid (fstI_hit someB l0 k a HG.out hp H0.out)
        clear hp
        go_wp2_with fail
        go_ret
        exact ⟨by rw [HF.out]; rfl, HB2.out⟩
      | false =>
        have H1 : Hid (∀ j x, j < k + 1 → l0[j]? = some x → someB x = false) := Lib.hid (fun j x hj hx => by
          rcases Nat.lt_or_ge j k with h | h
          · exact H0.out j x h hx
          · obtain rfl : j = k := by omega
            rw [HG.out] at hx
            cases hx
            exact hp)
        clear hp
        go_wp2_with fail
        go_roundw
        case rel => exact ⟨k + 1, by omega, by go_num, H1, HB2.out⟩
        case measure => simp [intOf]; omega
    · obtain rfl : k = n := by omega
      have HF := Lib.hid (fstI_none someB l0 (by rw [HLN.out]; exact H0.out))
      go_wp2_with fail
      go_ret
      exact ⟨by rw [HF.out]; rfl, HB.out⟩
set_option maxHeartbeats 400000 in
theorem containsF_any (A0 : Option Addr) (c0 n : Nat) (l0 : List S68) (w : World) (hr0 : Kd.C k68 w A0 n l0) (hc0 : n ≤ c0) :
    Calls Tryd.prog 69 #[.slice A0 n c0, .func (Fn.func 70) #[] #[]] w fun e w' => e = .returned (.bool (l0.any someB)) ∧ Below w.heap.size w w' := by
  have HC := Lib.hid (indexF_any A0 c0 n l0 w hr0 hc0)
  have HE := Lib.hid (fstI_ge someB l0)
  clear hr0
  go_enter Tryd.func69, Tryd.ntmps69
  go_wp2_with fail
  refine HC.out.mono ?_
  rintro e w' ⟨rfl, hb⟩
  have HB := Lib.hid hb
  clear hb
  go_wp2_with fail
  go_ret
  exact ⟨by rw [← HE.out]; rfl, HB.out⟩
/-- how many entries stand ahead. -/
def leadN (l : List S68) : Nat := (l.takeWhile entryB).length
def filledB (l : List S68) : Bool := (l.length == 4) && !((l.drop (leadN l)).any someB)
theorem leadN_at (l : List S68) (k : Nat) (hk : k ≤ l.length) (h0 : ∀ j x, j < k → l[j]? = some x → entryB x = true) (h1 : ∀ x, l[k]? = some x → entryB x = false) : leadN l = k := by
  induction l generalizing k with
  | nil => simp at hk; subst hk; rfl
  | cons a l ih =>
    unfold leadN
    cases k with
    | zero =>
      have := h1 a rfl
      simp [List.takeWhile_cons, this]
    | succ k =>
      have := h0 0 a (by omega) rfl
      simp only [List.takeWhile_cons, this, if_true, List.length_cons]
      congr 1
      exact ih k (by simpa using hk) (fun j x hj hx => h0 (j + 1) x (by omega) (by simpa using hx)) (fun x hx => h1 x (by simpa using hx))
theorem kdC_drop {w : World} {b o n : Nat} {l : List S68} (h : Kd.C k68 w (some ⟨b, o, none⟩) n l) (k : Nat) (hk : k < n) : Kd.C k68 w (some ⟨b, o + k * 2, none⟩) (n - k) (l.drop k) := by
  refine ⟨by rw [List.length_drop, h.1], by have := h.2.1; omega, fun hp => ⟨_, rfl, fun j p hj => ?_⟩⟩
  obtain ⟨b', o', e, hb, hc⟩ := slots_at h (by omega)
  injection e with e
  injection e with e1 e2
  subst e1; subst e2
  rw [List.getElem?_drop] at hj
  refine ⟨_, rfl, k68_mk w p, fun i u hi => ?_⟩
  have ha : ∀ m, (⟨b, o + k * 2, none⟩ : Addr).add m = ⟨b, o + k * 2 + m, none⟩ := fun m => by unfold Addr.add; split <;> simp_all
  have hsz : k68.sz = 2 := rfl
  rw [ha, hsz]
  have := hc (k + j) p hj
  rw [show o + (k + j) * 2 = o + k * 2 + j * 2 by omega] at this
  match i, hi with
  | 0, hi => simp at hi; subst hi; exact this.1
  | 1, hi => simp at hi; subst hi; exact this.2
  | i + 2, hi => simp at hi
set_option maxHeartbeats 1600000 in
theorem filled_any (A0 : Option Addr) (c0 : Nat) (l0 : List S68) (w : World) (hr0 : Kd.C k68 w A0 l0.length l0) (hc0 : l0.length ≤ c0) :
    Calls Tryd.prog 52 #[.slice A0 l0.length c0] w fun e w' => e = .returned (.bool (filledB l0)) ∧ Below w.heap.size w w' := by
  have hl := hr0.2.1
  have HR := Lib.hid hr0
  clear hr0
  go_enter Tryd.func52, Tryd.ntmps52
  go_wp2_with fail
  go_loopw [3] (fun v wr => ∃ k : Nat, k ≤ l0.length ∧ v = .int .i64 k ∧ Hid (∀ j x, j < k → l0[j]? = some x → entryB x = true) ∧ Below w.heap.size w wr) (fun v _ => l0.length - (intOf v).toNat)
  case atStart => exact ⟨0, by omega, rfl, Lib.hid (fun j x hj => by omega), Below.refl _ _⟩
  case round =>
    obtain ⟨k, hk, rfl, H0, hb0⟩ := hrel
    have HB := Lib.hid hb0
    clear hb0
    have key : ∀ wz : World, Below w.heap.size w wz → (∀ x, l0[k]? = some x → entryB x = false) → True := fun _ _ _ => trivial
    by_cases hlt : k < l0.length
    · obtain ⟨b, o, rfl, hb, hc⟩ := slots_at HR.out (by omega)
      have hget := List.getElem?_eq_getElem hlt
      obtain ⟨a, ha⟩ : ∃ a, a = l0[k] := ⟨_, rfl⟩
      rw [← ha] at hget
      have HG := Lib.hid hget
      have c1 := (HB.out.cell (p := ⟨b, o + k * 2, none⟩) hb).trans (hc k a hget).1
      have c2 := (HB.out.cell (p := ⟨b, o + k * 2 + 1, none⟩) hb).trans (hc k a hget).2
      have e1 : 0 ≤ (k : Int) ∧ (k : Int) < (l0.length : Int) := by omega
      clear hc hget ha key
      go_wp2_with fail
      refine (entry_any a wr).mono ?_
      rintro e w1 ⟨rfl, hb2⟩
      have HB2 := Lib.hid (HB.out.trans (hb2.mono HB.out.size))
      clear hb2 c1 c2
      cases hp : entryB a with
      | true =>
        have H1 : Hid (∀ j x, j < k + 1 → l0[j]? = some x → entryB x = true) := Lib.hid (fun j x hj hx => by
          rcases Nat.lt_or_ge j k with h | h
          · exact H0.out j x h hx
          · obtain rfl : j = k := by omega
            rw [HG.out] at hx
            cases hx
            exact hp)
        clear hp
        go_wp2_with fail
        go_roundw
        case rel => exact ⟨k + 1, by omega, by go_num, H1, HB2.out⟩
        case measure => simp [intOf]; omega
      | false =>
        have hk2 := leadN_at l0 k hk H0.out (fun x hx => by rw [HG.out] at hx; cases hx; exact hp)
        have HL := Lib.hid hk2
        clear hk2 hp
        by_cases h4 : l0.length = 4
        · have e4 : ((l0.length : Int) == 4) = true := by simp; omega
          have HF := Lib.hid (show filledB l0 = !((l0.drop k).any someB) by unfold filledB; rw [HL.out, h4]; rfl)
          have HC : ∀ c1, l0.length - k ≤ c1 → Calls Tryd.prog 69 #[.slice (some ⟨b, o + k * 2, none⟩) (l0.length - k) c1, .func (Fn.func 70) #[] #[]] w1 fun e w' => e = .returned (.bool ((l0.drop k).any someB)) ∧ Below w1.heap.size w1 w' :=
            fun c1 hc1 => containsF_any _ c1 _ _ w1 (Kd.C_below (kdC_drop HR.out k hlt) (HB2.out)) hc1
          have HC2 := Lib.hid HC
          have e5 : (k : Int) ≤ (l0.length : Int) := by omega
          have e6 : ¬ c0 = k := by omega
          clear h4 HC
          go_wp2_with fail
          refine (HC2.out _ (by omega)).mono ?_
          rintro e w2 ⟨rfl, hb3⟩
          have HB3 := Lib.hid (HB2.out.trans (hb3.mono HB2.out.size))
          clear hb3
          go_wp2_with fail
          go_ret
          exact ⟨by rw [HF.out]; rfl, HB3.out⟩
        · have e4 : ((l0.length : Int) == 4) = false := by simp; omega
          have HF := Lib.hid (show filledB l0 = false by unfold filledB; rw [show (l0.length == 4) = false by simpa using h4]; rfl)
          clear h4
          go_wp2_with fail
          go_ret
          exact ⟨by rw [HF.out]; rfl, HB2.out⟩
    · obtain rfl : k = l0.length := by omega
      have hk2 := leadN_at l0 l0.length (Nat.le_refl _) H0.out (fun x hx => by rw [List.getElem?_eq_none (Nat.le_refl _)] at hx; cases hx)
      have HL := Lib.hid hk2
      clear hk2 key
      by_cases h4 : l0.length = 4
      · have e4 : ((l0.length : Int) == 4) = true := by simp; omega
        have HF := Lib.hid (show filledB l0 = !(([] : List S68).any someB) by unfold filledB; rw [HL.out, List.drop_length, h4]; rfl)
        have HC : ∀ A c1, Calls Tryd.prog 69 #[.slice A 0 c1, .func (Fn.func 70) #[] #[]] wr fun e w' => e = .returned (.bool (([] : List S68).any someB)) ∧ Below wr.heap.size wr w' :=
          fun A c1 => containsF_any A c1 0 [] wr ⟨rfl, by omega, fun h => absurd h (by omega)⟩ (by omega)
        have HC2 := Lib.hid HC
        obtain ⟨g, hg, hg2⟩ : ∃ g, g = l0.length ∧ 0 < g := ⟨_, rfl, by omega⟩
        obtain ⟨b, o, rfl, hb, hc⟩ := slots_at HR.out (by omega)
        clear HC hc hg hg2 h4
        by_cases h5 : c0 = l0.length
        · subst h5
          go_wp2_with fail
          refine (HC2.out _ _).mono ?_
          rintro e w2 ⟨rfl, hb3⟩
          have HB3 := Lib.hid (HB.out.trans (hb3.mono HB.out.size))
          clear hb3
          go_wp2_with fail
          go_ret
          exact ⟨by rw [HF.out]; rfl, HB3.out⟩
        · go_wp2_with fail
          refine (HC2.out _ _).mono ?_
          rintro e w2 ⟨rfl, hb3⟩
          have HB3 := Lib.hid (HB.out.trans (hb3.mono HB.out.size))
          clear hb3
          go_wp2_with fail
          go_ret
          exact ⟨by rw [HF.out]; rfl, HB3.out⟩
      · have e4 : ((l0.length : Int) == 4) = false := by simp; omega
        have HF := Lib.hid (show filledB l0 = false by unfold filledB; rw [show (l0.length == 4) = false by simpa using h4]; rfl)
        clear h4
        go_wp2_with fail
        go_ret
        exact ⟨by rw [HF.out]; rfl, HB.out⟩
def mail_filled.f (l : List S68) : Option Bool := some (filledB l)
theorem mail_filled.calls (A0 : Option Addr) (c0 : Nat) (l0 : List S68) (r : Bool) (w : World) (hr0 : Kd.C k68 w A0 l0.length l0) (hc0 : l0.length ≤ c0) (h : mail_filled.f l0 = some r) :
    Calls Tryd.prog 52 #[.slice A0 l0.length c0] w fun e w' => e = .returned (.bool r) ∧ Below w.heap.size w w' := by
  simp only [mail_filled.f, Option.some.injEq] at h
  subst h
  exact filled_any A0 c0 l0 w hr0 hc0
end Go.Proofs.YtjmgkjjcdnaapaaDoor
namespace Go.Proofs.YtjmgkjjcdnaapaaDoor
open Go.RowKit
set_option linter.unusedSimpArgs false
set_option linter.unusedVariables false
set_option maxRecDepth 100000
/-- a block's cells are these bytes, and may be written. -/
def Cb (w : World) (g : Nat) (l : List UInt8) : Prop := g < w.heap.size ∧ ∀ i, i < l.length → w.cell? ⟨g, i, none⟩ = some (.int .u8 (n8 (bd l i))) ∧ w.frozen? ⟨g, i, none⟩ = false
theorem bd_set_eq (l : List UInt8) (i : Nat) (x : UInt8) (h : i < l.length) : bd (l.set i x) i = x := by
  simp [bd, List.getD, List.getElem?_set, h]
theorem bd_set_ne (l : List UInt8) (i j : Nat) (x : UInt8) (h : i ≠ j) : bd (l.set i x) j = bd l j := by
  simp [bd, List.getD, List.getElem?_set, h]
theorem Cb.set_ {w : World} {g : Nat} {l : List UInt8} (h : Cb w g l) (i : Nat) (hi : i < l.length) (x : UInt8) : Cb (w.setCell ⟨g, i, none⟩ (.int .u8 (n8 x))) g (l.set i x) := by
  refine ⟨by simpa using h.1, fun j hj => ?_⟩
  rw [List.length_set] at hj
  refine ⟨?_, by rw [World.frozen?_setCell]; exact (h.2 j hj).2⟩
  by_cases hij : i = j
  · subst hij
    rw [bd_set_eq _ _ _ hi]
    exact World.cell?_setCell_same _ _ _ (h.2 i hi).1
  · rw [bd_set_ne _ _ _ _ hij, World.cell?_setCell_other _ _ _ _ (by simp [hij])]
    exact (h.2 j hj).1
theorem Cb.drew {w : World} {g : Nat} {l : List UInt8} (h : Cb w g l) : Cb w.drew g l := h
theorem Cb.drewN {w : World} {g : Nat} {l : List UInt8} (h : Cb w g l) (n : Nat) : Cb (w.drewN n) g l := h
theorem cb_of_string {P : Program} (w : World) (src dst e : TypeId) (l : List UInt8) (hs : P.underlying src = some .string) (hd : P.underlying dst = some (.slice e)) (he : P.underlying e = some (.int .u8)) (B : Nat) (hB : B ≤ w.heap.size) :
    ∃ cap w', (convert src dst (.string ⟨l.toArray⟩)).run P w = .ok (.slice (some ⟨w.heap.size, 0, none⟩) l.length cap) w' ∧ Cb w' w.heap.size l ∧ Below B w w' := by
  have hsz : (⟨l.toArray⟩ : ByteArray).size = l.length := by simp [ByteArray.size]
  have hr := run_bytes_of_string w src dst e ⟨l.toArray⟩ hs hd he
  rw [hsz] at hr
  refine ⟨_, _, hr, ⟨by simp, fun i hi => ⟨?_, ?_⟩⟩, ((Below.refl B w).drew).alloc (by simpa using hB) _⟩
  · have hh := heap_alloc_new w.drew (.cells (bytesRow ⟨l.toArray⟩ (grownCap w l.length 0 e)) e ((bytesRow ⟨l.toArray⟩ (grownCap w l.length 0 e)).size, (bytesRow ⟨l.toArray⟩ (grownCap w l.length 0 e)).size + 1))
    have hc := bytesRow_at ⟨l.toArray⟩ (grownCap w l.length 0 e) i (by simpa using hi)
    have hh' : (w.drew.alloc (.cells (bytesRow ⟨l.toArray⟩ (grownCap w l.length 0 e)) e ((bytesRow ⟨l.toArray⟩ (grownCap w l.length 0 e)).size, (bytesRow ⟨l.toArray⟩ (grownCap w l.length 0 e)).size + 1))).heap[w.heap.size]? = some (.cells (bytesRow ⟨l.toArray⟩ (grownCap w l.length 0 e)) e ((bytesRow ⟨l.toArray⟩ (grownCap w l.length 0 e)).size, (bytesRow ⟨l.toArray⟩ (grownCap w l.length 0 e)).size + 1)) := hh
    unfold World.cell?
    simp only [hh', Option.isSome_none, Bool.false_eq_true, if_false]
    rw [hc]
    simp [bd, n8, List.getElem?_eq_getElem hi]
  · have hh' : (w.drew.alloc (.cells (bytesRow ⟨l.toArray⟩ (grownCap w l.length 0 e)) e ((bytesRow ⟨l.toArray⟩ (grownCap w l.length 0 e)).size, (bytesRow ⟨l.toArray⟩ (grownCap w l.length 0 e)).size + 1))).heap[w.heap.size]? = some (.cells (bytesRow ⟨l.toArray⟩ (grownCap w l.length 0 e)) e ((bytesRow ⟨l.toArray⟩ (grownCap w l.length 0 e)).size, (bytesRow ⟨l.toArray⟩ (grownCap w l.length 0 e)).size + 1)) := heap_alloc_new w.drew _
    unfold World.frozen?
    simp only [hh']
    have hb : l.length ≤ (bytesRow ⟨l.toArray⟩ (grownCap w l.length 0 e)).size := by simp [bytesRow]
    simp
    omega
theorem Cb.string {P : Program} {w : World} {g : Nat} {l : List UInt8} (h : Cb w g l) (src dst e : TypeId) (cap : Nat) (hs : P.underlying src = some (.slice e)) (he : P.underlying e = some (.int .u8)) (hd : P.underlying dst = some .string) :
    (convert src dst (.slice (some ⟨g, 0, none⟩) l.length cap)).run P w = .ok (.string ⟨l.toArray⟩) w :=
  run_convert_bytes_back w src dst e ⟨g, 0, none⟩ cap l hs he hd (fun j hj => by
    have := (h.2 j hj).1
    rw [bd, List.getD, List.getElem?_eq_getElem hj] at this
    unfold Addr.add
    split
    · rename_i h0; subst h0; exact this
    · simpa [n8] using this)
theorem n8_xor (x y : UInt8) : bits .xor .u8 (n8 x) (n8 y) = n8 (x ^^^ y) := by
  show IntKind.u8.wrap ((BitVec.ofInt 8 (n8 x) ^^^ BitVec.ofInt 8 (n8 y)).toNat : Int) = _
  have e : ∀ z : UInt8, BitVec.ofInt 8 (n8 z) = z.toBitVec := fun z => by
    unfold n8
    rw [BitVec.ofInt_natCast]
    simp
  rw [e, e, ← UInt8.toBitVec_xor]
  show IntKind.u8.wrap ((x ^^^ y).toNat : Int) = _
  rw [IntKind.wrap_u8']
  have := (x ^^^ y).toNat_lt
  show _ = ((x ^^^ y).toNat : Int)
  omega
end Go.Proofs.YtjmgkjjcdnaapaaDoor
namespace Go.Proofs.YtjmgkjjcdnaapaaDoor
open Go.RowKit
set_option linter.unusedSimpArgs false
set_option linter.unusedVariables false
set_option maxRecDepth 100000
theorem KsAt.below {w w' : World} (h : KsAt w) (hg : 0 < w.heap.size) (hb : Below w.heap.size w w') : KsAt w' := fun i hi => (hb.cell (p := ⟨0, i, none⟩) hg).trans (h i hi)
theorem strs_one (w : World) (t : TypeId) (a : List UInt8) : Strs (w.alloc (.cells #[.string ⟨a.toArray⟩] t)) (some ⟨w.heap.size, 0, none⟩) 1 [a] :=
  ⟨rfl, fun _ => ⟨w.heap.size, 0, rfl, by simp, fun i hi => by
    obtain rfl : i = 0 := by omega
    exact (Blk.new w t #[.string ⟨a.toArray⟩]).cell 0⟩⟩
theorem strs_two (w : World) (t : TypeId) (a b : List UInt8) : Strs (w.alloc (.cells #[.string ⟨a.toArray⟩, .string ⟨b.toArray⟩] t)) (some ⟨w.heap.size, 0, none⟩) 2 [a, b] :=
  ⟨rfl, fun _ => ⟨w.heap.size, 0, rfl, by simp, fun i hi => by
    rcases (show i = 0 ∨ i = 1 by omega) with rfl | rfl
    · exact (Blk.new w t #[.string ⟨a.toArray⟩, .string ⟨b.toArray⟩]).cell 0
    · exact (Blk.new w t #[.string ⟨a.toArray⟩, .string ⟨b.toArray⟩]).cell 1⟩⟩
theorem cat_eq (a b : List UInt8) : (⟨a.toArray⟩ : ByteArray) ++ (⟨b.toArray⟩ : ByteArray) = ⟨(a ++ b).toArray⟩ := by
  apply ByteArray.ext
  simp
end Go.Proofs.YtjmgkjjcdnaapaaDoor
namespace Go.Proofs.YtjmgkjjcdnaapaaDoor
set_option linter.unusedSimpArgs false
set_option linter.unusedVariables false
set_option maxRecDepth 100000
/-- the key, or its digest. -/
def keyL (k : List UInt8) : List UInt8 := if 64 < k.length then sha k else k
/-- .. and bytes 0 behind it. -/
def key64 (k : List UInt8) : List UInt8 := keyL k ++ List.replicate (64 - (keyL k).length) 0
def padL (k : List UInt8) (b : UInt8) : List UInt8 := (key64 k).map (· ^^^ b)
def tagL (k t : List UInt8) : List UInt8 := sha (padL k 92 ++ sha (padL k 54 ++ t))
theorem keyL_le (k : List UInt8) : (keyL k).length ≤ 64 := by
  unfold keyL
  split
  · rw [sha_length]; omega
  · omega
theorem key64_length (k : List UInt8) : (key64 k).length = 64 := by
  have := keyL_le k
  simp [key64]
  omega
theorem padL_length (k : List UInt8) (b : UInt8) : (padL k b).length = 64 := by simp [padL, key64_length]
theorem tagL_length (k t : List UInt8) : (tagL k t).length = 32 := sha_length _
end Go.Proofs.YtjmgkjjcdnaapaaDoor
namespace Go.Proofs.YtjmgkjjcdnaapaaDoor
open Go.RowKit
set_option linter.unusedSimpArgs false
set_option linter.unusedVariables false
set_option maxRecDepth 100000
section
variable {P : Program} {t e ty : TypeId} {z : Value} {by_ : Nat} {w w' : World} {B : Nat} {v : Value} {xs : List Value}
end
end Go.Proofs.YtjmgkjjcdnaapaaDoor
namespace Go.Proofs.YtjmgkjjcdnaapaaDoor
open Go.RowKit
set_option linter.unusedSimpArgs false
set_option linter.unusedVariables false
set_option maxRecDepth 100000
section
variable {P : Program} {t e ty : TypeId} {z : Value} {by_ : Nat} {w w' : World} {B : Nat} {v : Value} {xs : List Value}
theorem own_append_from (he : Elem P t e z by_) (h : Own e w B v xs) (g o m c : Nat) (news : List Value) (hm : news.length = m) (hb : ∀ j u, news[j]? = some u → w.cell? ⟨g, o + j, none⟩ = some u) (h1 : ∀ u ∈ news, u.oneCell' = true)
    (hl : (xs.length + m) * by_ ≤ 140737488355328) (hl2 : xs.length + m ≤ 9223372036854775807) (hB : B ≤ w.heap.size) :
    ∃ A c' w', (Builtin.append_ #[t, t] ty #[v, .slice (some ⟨g, o, none⟩) m c]).run P w = .ok (.slice A (xs.length + m) c') w' ∧ Own e w' B (.slice A (xs.length + m) c') (xs ++ news) ∧ w.grownBy w' v.ownBlock := by
  obtain ⟨i, hi, hz, hs, hby⟩ := info_parts he.2.1
  obtain ⟨v', w', hr, h2, h3, _⟩ := run_append_own (P := P) w B t ty e i z 1 by_ he.1 hi hz hs hby he.2.2 (by decide) v xs.length xs h ⟨g, o, none⟩ m c news (by rw [hm, Nat.mul_one]) (fun j u hj => by
    have := hb j u hj
    unfold Addr.add
    split
    · rename_i h0; subst h0; exact this
    · exact this) h1 hl2 hl hB
  have ho : Own e w' B v' (xs ++ news) := by
    unfold Own
    rw [List.length_append, hm]
    exact h2
  obtain ⟨A, c', rfl⟩ := ho.form
  rw [List.length_append, hm] at ho hr
  exact ⟨A, c', w', hr, ho, h3⟩
end
end Go.Proofs.YtjmgkjjcdnaapaaDoor
namespace Go.Proofs.YtjmgkjjcdnaapaaDoor
open Go.RowKit
set_option linter.unusedSimpArgs false
set_option linter.unusedVariables false
set_option maxRecDepth 100000
theorem elemStr : Elem Tryd.prog 23 9 (.string ⟨#[]⟩) 16 := ⟨Tryd.underlying23, by kernel_rfl, rfl⟩
theorem Own.strs {w : World} {B : Nat} {A : Option Addr} {n c : Nat} {ls : List (List UInt8)} (h : Own 9 w B (.slice A n c) (cstr ls)) : Strs w A n ls := by
  obtain ⟨A', c', hv⟩ := h.form
  injection hv with h1 h2 h3
  refine ⟨by rw [h2, cstr_length], fun hn => ?_⟩
  obtain ⟨g, hA, hB, hg⟩ := h.at_ (by omega)
  subst hA
  refine ⟨g, 0, rfl, hg, fun i hi => ?_⟩
  rw [Nat.zero_add, h.cell i (by omega), cstr_get _ _ (by rw [← cstr_length, ← h2]; exact hi)]

theorem Strs.at_ {w : World} {g o n : Nat} {ls : List (List UInt8)} (h : Strs w (some ⟨g, o, none⟩) n ls) (k : Nat) (hk : k < n) : w.cell? ⟨g, o + k, none⟩ = some (.string ⟨(ls.getD k []).toArray⟩) := by
  obtain ⟨g', o', e, _, hc⟩ := h.2 (by omega)
  injection e with e
  injection e with e1 e2
  subst e1; subst e2
  exact hc k hk
end Go.Proofs.YtjmgkjjcdnaapaaDoor
namespace Go.Proofs.YtjmgkjjcdnaapaaDoor
open Go.RowKit
set_option linter.unusedSimpArgs false
set_option linter.unusedVariables false
set_option maxRecDepth 100000
section
variable {P : Program} {t e ty : TypeId} {z : Value} {by_ : Nat} {w w' : World} {B : Nat} {v : Value} {xs : List Value}
theorem my_own_lit (w : World) (e : TypeId) (xs : List Value) (hB : B ≤ w.heap.size) (hl : xs.length ≤ 9223372036854775807) : Own e (w.alloc (.cells xs.toArray e)) B (.slice (some ⟨w.heap.size, 0, none⟩) xs.length xs.length) xs :=
  ⟨by simp, .inr ⟨w.heap.size, xs.length, xs.toArray, rfl, hB, heap_alloc_new w _, Nat.le_refl _, hl, by simp, by simp⟩⟩
/-- nothing appended. -/
theorem run_append_zero (he : Elem P t e z by_) (w : World) (v : Value) (q : Option Addr) (n cap : Nat) (hv : v = .slice q n cap) (A : Option Addr) (c : Nat) :
    (Builtin.append_ #[t, t] ty #[v, .slice A 0 c]).run P w = .ok v w ∨ (n = 0 ∧ cap = 0 ∧ q = none) ∨ cap < n := by
  subst hv
  obtain ⟨i, hi, hz, hs, hby⟩ := info_parts he.2.1
  by_cases hc : cap < n
  · exact .inr (.inr hc)
  · left
    have hc' : n ≤ cap := by omega
    cases q <;> cases A <;> simp [Builtin.append_, run_underlying he.1, sizeOf, typeInfo, hi, Builtin.lenOf, Builtin.firstCells, loadCells, loadCellsFrom, storeCells, hc']
end
end Go.Proofs.YtjmgkjjcdnaapaaDoor
namespace Go.Proofs.YtjmgkjjcdnaapaaDoor
open Go.RowKit
set_option linter.unusedSimpArgs false
set_option linter.unusedVariables false
set_option maxRecDepth 100000
theorem repeat_zero (m : Nat) : Lib.repeatL (⟨#[0]⟩ : ByteArray).data.toList m = List.replicate m 0 := by
  induction m with
  | zero => rfl
  | succ m ih => rw [Lib.repeatL, ih]; rfl
/-- so many of them xor a byte. -/
def xorTo (l : List UInt8) (b : UInt8) (i : Nat) : List UInt8 := (l.take i).map (· ^^^ b) ++ l.drop i
theorem xorTo_length (l : List UInt8) (b : UInt8) (i : Nat) : (xorTo l b i).length = l.length := by
  simp [xorTo]
  omega
theorem xorTo_get (l : List UInt8) (b : UInt8) (i : Nat) (h : i < l.length) : bd (xorTo l b i) i = bd l i := by
  have hl : ((l.take i).map (· ^^^ b)).length = i := by simp; omega
  simp only [xorTo, bd, List.getD]
  rw [List.getElem?_append_right (by omega), hl, Nat.sub_self, List.getElem?_drop]
  simp
theorem xorTo_set (l : List UInt8) (b : UInt8) (i : Nat) (h : i < l.length) : (xorTo l b i).set i (bd l i ^^^ b) = xorTo l b (i + 1) := by
  have hl : ((l.take i).map (· ^^^ b)).length = i := by simp; omega
  unfold xorTo
  rw [List.set_append_right _ _ (by omega), hl, Nat.sub_self, List.drop_eq_getElem_cons h, List.set_cons_zero, List.take_succ_eq_append_getElem h, List.map_append, List.append_assoc]
  simp [bd, List.getD, List.getElem?_eq_getElem h]
set_option maxHeartbeats 1600000 in
set_option maxRecDepth 100000 in
theorem padded_any (k : List UInt8) (b : UInt8) (w : World) (hkl : k.length ≤ 140737488351232) (hk : KsAt w) (hg : 0 < w.heap.size) :
    Calls Tryd.prog 44 #[.string ⟨k.toArray⟩, .int .u8 (n8 b)] w fun e w' => e = .returned (.string ⟨(padL k b).toArray⟩) ∧ Below w.heap.size w w' := by
  have HK := Lib.hid hk
  clear hk
  have hszk : (⟨k.toArray⟩ : ByteArray).size = k.length := by simp [ByteArray.size]
  obtain ⟨x, hx⟩ : ∃ x, Hid (x = keyL k) := ⟨_, rfl⟩
  have hxl : x.length ≤ 64 := by rw [hx.out]; exact keyL_le k
  have hszx : (⟨x.toArray⟩ : ByteArray).size = x.length := by simp [ByteArray.size]
  obtain ⟨m, hm⟩ : ∃ m, Hid (m = 64 - x.length) := ⟨_, rfl⟩
  have e3 := Lib.hid (show (64 : Int) - (x.length : Int) = (m : Int) by rw [hm.out]; omega)
  obtain ⟨y, hy⟩ : ∃ y, Hid (y = key64 k) := ⟨_, rfl⟩
  have hyl : y.length = 64 := by rw [hy.out]; exact key64_length k
  have HY := Lib.hid (show x ++ List.replicate m 0 = y by rw [hy.out, key64, hm.out, hx.out])
  obtain ⟨zr, hzr⟩ : ∃ zr, Hid (zr = List.replicate m (0 : UInt8)) := ⟨_, rfl⟩
  have hszr : (⟨zr.toArray⟩ : ByteArray).size = m := by rw [hzr.out]; simp [ByteArray.size]
  have hm64 : m ≤ 64 := by rw [hm.out]; omega
  go_enter Tryd.func44, Tryd.ntmps44
  by_cases h64 : 64 < k.length
  · have h64i : (64 : Int) < (k.length : Int) := by omega
    have HX : Hid (sha k = x) := Lib.hid (by rw [hx.out, keyL, if_pos h64])
    go_wp2_with fail
    have B1 := Lib.hid ((Below.refl w.heap.size w).alloc (Nat.le_refl _) (.cells #[.string ⟨k.toArray⟩] 9))
    refine (sum_any _ 1 1 _ [k] (strs_one w 9 k) (by intro l hl; simp at hl; subst hl; omega) (by decide) (HK.out.below hg B1.out) (Nat.lt_of_lt_of_le hg B1.out.size)).mono ?_
    rintro e w2 ⟨rfl, b2⟩
    rw [show sha ([k] : List (List UInt8)).flatten = x by rw [← HX.out]; simp]
    have B2 := Lib.hid (B1.out.trans (b2.mono B1.out.size))
    clear b2
    go_wp2_with fail
    simp only [e3.out]
    refine (Tryd.strings_Repeat ⟨#[0]⟩ m w2 (by omega) (by simp [ByteArray.size]; omega)).mono ?_
    rintro e w3 ⟨rfl, b3⟩
    rw [repeat_zero, ← hzr.out]
    have B3 := Lib.hid (B2.out.trans (b3.mono B2.out.size))
    clear b3
    obtain ⟨cap, w4, hcv, hcb, hbl⟩ := cb_of_string (P := Tryd.prog) w3 9 61 5 y Tryd.underlying9 Tryd.underlying61 Tryd.underlying5 w.heap.size B3.out.size
    have B4 := Lib.hid (B3.out.trans hbl)
    have HC := Lib.hid hcb
    have hw34 := B3.out.size
    clear hcb hbl
    have hcat : (⟨x.toArray⟩ : ByteArray) ++ ⟨zr.toArray⟩ = ⟨y.toArray⟩ := by rw [cat_eq, hzr.out, HY.out]
    obtain ⟨g, hgw⟩ : ∃ g, g = w3.heap.size := ⟨_, rfl⟩
    rw [← hgw] at hcv HC hw34
    clear hgw
    go_wp2_with fail
    clear hcv
    go_loopw [6, 22] (fun v6 v22 wx => ∃ i : Nat, i ≤ 64 ∧ v22 = .int .i64 i ∧ Cb wx g (xorTo y b i) ∧ Below w.heap.size w wx) (fun _ v _ => 64 - (intOf v).toNat)
    case atStart => exact ⟨0, by omega, rfl, HC.out, B4.out⟩
    case round =>
      obtain ⟨i, hi, rfl, hC, hG⟩ := hrel
      have HC5 := Lib.hid hC
      have HG5 := Lib.hid hG
      clear hC hG
      have hxy := xorTo_length y b i
      by_cases hlt : i < 64
      · obtain ⟨z, hz⟩ : ∃ z, Hid (z = bd y i) := ⟨_, rfl⟩
        have c1 := (HC5.out.2 i (by omega)).1
        have f1 := (HC5.out.2 i (by omega)).2
        rw [xorTo_get y b i (by omega), ← hz.out] at c1
        have hn := n8_xor z b
        have hi64 : (0 : Int) ≤ (i : Int) ∧ (i : Int) < 64 := by omega
        have hfin : Cb (wr.setCell ⟨g, i, none⟩ (.int .u8 (n8 (z ^^^ b)))) g (xorTo y b (i + 1)) ∧ Below w.heap.size w (wr.setCell ⟨g, i, none⟩ (.int .u8 (n8 (z ^^^ b)))) := by
          have := HC5.out.set_ i (by omega) (z ^^^ b)
          rw [hz.out, xorTo_set y b i (by omega), ← hz.out] at this
          exact ⟨this, below_of_only HG5.out (only_set (only_refl _ (some g)) (.inl rfl) _) hw34 HG5.out.size⟩
        have HF := Lib.hid hfin
        clear hfin
        have hyl' : y.length = 64 := hyl
        go_wp2_with fail
        go_roundw
        case rel => exact ⟨i + 1, by omega, by go_num, HF.out⟩
        case measure => simp [intOf]; omega
      · obtain rfl : i = 64 := by omega
        have hp : xorTo y b 64 = padL k b := by rw [xorTo, List.take_of_length_le (by omega), List.drop_of_length_le (by omega), List.append_nil, hy.out]; rfl
        rw [hp] at HC5
        have hpl := padL_length k b
        obtain ⟨p, hpp⟩ : ∃ p, Hid (p = padL k b) := ⟨_, rfl⟩
        rw [← hpp.out] at HC5 hpl
        have hcv := HC5.out.string 61 9 5 cap Tryd.underlying61 Tryd.underlying5 Tryd.underlying9
        rw [hpl] at hcv
        clear hp hpl
        go_wp2_with fail
        go_ret
        exact ⟨by rw [← hpp.out]; rfl, HG5.out⟩
  · have h64i : (k.length : Int) ≤ 64 := by omega
    have hxk : x = k := by rw [hx.out, keyL, if_neg h64]
    subst hxk
    have B2 := Lib.hid (Below.refl w.heap.size w)
    go_wp2_with fail
    simp only [e3.out]
    refine (Tryd.strings_Repeat ⟨#[0]⟩ m w (by omega) (by simp [ByteArray.size]; omega)).mono ?_
    rintro e w3 ⟨rfl, b3⟩
    rw [repeat_zero, ← hzr.out]
    have B3 := Lib.hid (B2.out.trans (b3.mono B2.out.size))
    clear b3
    obtain ⟨cap, w4, hcv, hcb, hbl⟩ := cb_of_string (P := Tryd.prog) w3 9 61 5 y Tryd.underlying9 Tryd.underlying61 Tryd.underlying5 w.heap.size B3.out.size
    have B4 := Lib.hid (B3.out.trans hbl)
    have HC := Lib.hid hcb
    have hw34 := B3.out.size
    clear hcb hbl
    have hcat : (⟨x.toArray⟩ : ByteArray) ++ ⟨zr.toArray⟩ = ⟨y.toArray⟩ := by rw [cat_eq, hzr.out, HY.out]
    obtain ⟨g, hgw⟩ : ∃ g, g = w3.heap.size := ⟨_, rfl⟩
    rw [← hgw] at hcv HC hw34
    clear hgw
    go_wp2_with fail
    clear hcv
    go_loopw [6, 22] (fun v6 v22 wx => ∃ i : Nat, i ≤ 64 ∧ v22 = .int .i64 i ∧ Cb wx g (xorTo y b i) ∧ Below w.heap.size w wx) (fun _ v _ => 64 - (intOf v).toNat)
    case atStart => exact ⟨0, by omega, rfl, HC.out, B4.out⟩
    case round =>
      obtain ⟨i, hi, rfl, hC, hG⟩ := hrel
      have HC5 := Lib.hid hC
      have HG5 := Lib.hid hG
      clear hC hG
      have hxy := xorTo_length y b i
      by_cases hlt : i < 64
      · obtain ⟨z, hz⟩ : ∃ z, Hid (z = bd y i) := ⟨_, rfl⟩
        have c1 := (HC5.out.2 i (by omega)).1
        have f1 := (HC5.out.2 i (by omega)).2
        rw [xorTo_get y b i (by omega), ← hz.out] at c1
        have hn := n8_xor z b
        have hi64 : (0 : Int) ≤ (i : Int) ∧ (i : Int) < 64 := by omega
        have hfin : Cb (wr.setCell ⟨g, i, none⟩ (.int .u8 (n8 (z ^^^ b)))) g (xorTo y b (i + 1)) ∧ Below w.heap.size w (wr.setCell ⟨g, i, none⟩ (.int .u8 (n8 (z ^^^ b)))) := by
          have := HC5.out.set_ i (by omega) (z ^^^ b)
          rw [hz.out, xorTo_set y b i (by omega), ← hz.out] at this
          exact ⟨this, below_of_only HG5.out (only_set (only_refl _ (some g)) (.inl rfl) _) hw34 HG5.out.size⟩
        have HF := Lib.hid hfin
        clear hfin
        have hyl' : y.length = 64 := hyl
        go_wp2_with fail
        go_roundw
        case rel => exact ⟨i + 1, by omega, by go_num, HF.out⟩
        case measure => simp [intOf]; omega
      · obtain rfl : i = 64 := by omega
        have hp : xorTo y b 64 = padL x b := by rw [xorTo, List.take_of_length_le (by omega), List.drop_of_length_le (by omega), List.append_nil, hy.out]; rfl
        rw [hp] at HC5
        have hpl := padL_length x b
        obtain ⟨p, hpp⟩ : ∃ p, Hid (p = padL x b) := ⟨_, rfl⟩
        rw [← hpp.out] at HC5 hpl
        have hcv := HC5.out.string 61 9 5 cap Tryd.underlying61 Tryd.underlying5 Tryd.underlying9
        rw [hpl] at hcv
        clear hp hpl
        go_wp2_with fail
        go_ret
        exact ⟨by rw [← hpp.out]; rfl, HG5.out⟩

/-- 'append(own, l...)': the call's own slice of texts, and whatever slice behind it. -/
theorem own_append_strs {w : World} {B q n0 cap0 : Nat} {xs : List (List UInt8)} (ho : Own 9 w B (.slice (some ⟨q, 0, none⟩) n0 cap0) (cstr xs)) (A : Option Addr) (n c : Nat) (ls : List (List UInt8)) (h : Strs w A n ls) (hB : B ≤ w.heap.size) (hn : xs.length + n ≤ 1048577) (hx : 0 < xs.length) :
    ∃ A' c' w', (Builtin.append_ #[23, 23] 23 #[.slice (some ⟨q, 0, none⟩) n0 cap0, .slice A n c]).run Tryd.prog w = .ok (.slice A' (xs.length + n) c') w' ∧ Strs w' A' (xs.length + n) (xs ++ ls) ∧ w.grownBy w' (some q) := by
  have hl0 : (cstr xs).length = xs.length := cstr_length xs
  obtain ⟨A0, c0, hv⟩ := ho.form
  injection hv with e1 e2 e3
  rcases Nat.eq_zero_or_pos n with rfl | hpos
  · have hcap : n0 ≤ cap0 := by
      rcases ho.2 with ⟨h0, _⟩ | ⟨g, cap, cur, h1, _, _, hnc, _⟩
      · cases h0
      · injection h1 with _ a1 a2
        omega
    rcases run_append_zero (ty := 23) elemStr w (.slice (some ⟨q, 0, none⟩) n0 cap0) _ _ _ rfl A c with hr | ⟨_, _, h3⟩ | hc
    · have hls : ls = [] := List.eq_nil_of_length_eq_zero h.1
      subst hls
      rw [hl0] at e2
      subst e2
      exact ⟨_, _, _, hr, by simpa using ho.strs, only_refl _ _⟩
    · cases h3
    · omega
  · obtain ⟨g, o, rfl, hg, hcell⟩ := h.2 hpos
    obtain ⟨A', c', w', hrun, hown, hgr⟩ := own_append_from (ty := 23) elemStr ho g o n c (cstr ls) (by rw [cstr_length]; exact h.1) (fun j u hj => by
        have hjl : j < ls.length := by have := (List.getElem?_eq_some_iff.1 hj).1; rwa [cstr_length] at this
        rw [cstr_get _ _ hjl] at hj
        rw [hcell j (by rw [← h.1]; exact hjl)]
        exact hj) (by
        intro u hu
        obtain ⟨l, _, rfl⟩ := List.mem_map.1 hu
        rfl) (by rw [hl0]; omega) (by rw [hl0]; omega) hB
    rw [hl0] at hrun hown
    rw [← cstr_append] at hown
    exact ⟨A', c', w', hrun, hown.strs, hgr⟩
theorem own_one (w : World) (B : Nat) (a : List UInt8) (hB : B ≤ w.heap.size) : Own 9 (w.alloc (.cells #[.string ⟨a.toArray⟩] 9)) B (.slice (some ⟨w.heap.size, 0, none⟩) 1 1) (cstr [a]) :=
  my_own_lit w 9 [.string ⟨a.toArray⟩] hB (by simp)
set_option maxHeartbeats 1600000 in
set_option maxRecDepth 100000 in
theorem tag_any (k : List UInt8) (A : Option Addr) (n c : Nat) (ls : List (List UInt8)) (w : World) (h : Strs w A n ls) (hkl : k.length ≤ 140737488351232) (hlen : ∀ l ∈ ls, l.length ≤ 140737488355328) (hn : n ≤ 1048576) (hk : KsAt w) (hg : 0 < w.heap.size) :
    Calls Tryd.prog 25 #[.string ⟨k.toArray⟩, .slice A n c] w fun e w' => e = .returned (.string ⟨(tagL k ls.flatten).toArray⟩) ∧ Below w.heap.size w w' := by
  have HK := Lib.hid hk
  have H := Lib.hid h
  have HL := Lib.hid hlen
  clear hk h hlen
  obtain ⟨p, hp⟩ : ∃ p, Hid (p = padL k 54) := ⟨_, rfl⟩
  obtain ⟨q, hq⟩ : ∃ q, Hid (q = padL k 92) := ⟨_, rfl⟩
  have hpl := Lib.hid (show p.length = 64 by rw [hp.out]; exact padL_length _ _)
  have hql := Lib.hid (show q.length = 64 by rw [hq.out]; exact padL_length _ _)
  go_enter Tryd.func25, Tryd.ntmps25
  go_wp2_with fail
  refine (padded_any k 54 w hkl HK.out hg).mono ?_
  rintro e w1 ⟨rfl, b1⟩
  rw [← hp.out]
  have B1 := Lib.hid b1
  clear b1
  have B2 := Lib.hid (B1.out.alloc B1.out.size (.cells #[.string ⟨p.toArray⟩] 9))
  obtain ⟨A', c', w3, hrun, hst, hgr⟩ := own_append_strs (own_one w1 w.heap.size p B1.out.size) A n c ls (H.out.below B2.out) B2.out.size (by simp; omega) (by simp)
  have B3 := Lib.hid (below_of_only B2.out hgr B1.out.size B2.out.size)
  have HR := Lib.hid hrun
  have HS := Lib.hid hst
  clear hrun hst hgr
  go_wp2_with (at_builtin; refine wpList_append_run rfl _ _ _ _ rfl rfl rfl HR.out ?_)
  refine (sum_any A' ([p].length + n) c' w3 ([p] ++ ls) HS.out (fun l hl => by
    rcases List.mem_append.1 hl with h | h
    · simp at h; subst h; rw [hpl.out]; omega
    · exact HL.out l h) (by simp; omega) (HK.out.below hg B3.out) (Nat.lt_of_lt_of_le hg B3.out.size)).mono ?_
  rintro e w4 ⟨rfl, b4⟩
  obtain ⟨S, hS⟩ : ∃ S, Hid (S = sha (padL k 54 ++ ls.flatten)) := ⟨_, rfl⟩
  have hSl := Lib.hid (show S.length = 32 by rw [hS.out]; exact sha_length _)
  rw [show sha ([p] ++ ls).flatten = S by rw [hS.out, hp.out]; simp]
  have B4 := Lib.hid (B3.out.trans (b4.mono B3.out.size))
  clear b4
  go_wp2_with fail
  refine (padded_any k 92 w4 hkl (HK.out.below hg B4.out) (Nat.lt_of_lt_of_le hg B4.out.size)).mono ?_
  rintro e w5 ⟨rfl, b5⟩
  rw [← hq.out]
  have B5 := Lib.hid (B4.out.trans (b5.mono B4.out.size))
  clear b5
  go_wp2_with fail
  have B6 := Lib.hid (B5.out.alloc B5.out.size (.cells #[.string ⟨q.toArray⟩, .string ⟨S.toArray⟩] 9))
  refine (sum_any _ 2 2 _ [q, S] (strs_two w5 9 q S) (by intro l hl; simp at hl; have h1 := hql.out; have h2 := hSl.out; rcases hl with rfl | rfl <;> omega) (by decide) (HK.out.below hg B6.out) (Nat.lt_of_lt_of_le hg B6.out.size)).mono ?_
  rintro e w7 ⟨rfl, b7⟩
  have B7 := Lib.hid (B6.out.trans (b7.mono B6.out.size))
  clear b7
  go_wp2_with fail
  go_ret
  refine ⟨?_, B7.out⟩
  rw [tagL, ← hS.out, ← hq.out]
  simp
end Go.Proofs.YtjmgkjjcdnaapaaDoor
namespace Go.Proofs.YtjmgkjjcdnaapaaDoor
open Go.RowKit
set_option linter.unusedSimpArgs false
set_option linter.unusedVariables false
set_option maxRecDepth 100000
theorem toNat64 (m : Nat) (h : m < 4611686018427387904) : (BitVec.ofInt 64 (m : Int)).toNat = m := by
  rw [BitVec.ofInt_natCast, BitVec.toNat_ofNat]
  exact Nat.mod_eq_of_lt (by omega)
theorem bits_or_nat (m n : Nat) (hm : m < 4611686018427387904) (hn : n < 4611686018427387904) : bits .or .i64 (m : Int) (n : Int) = ((m ||| n : Nat) : Int) := by
  show IntKind.i64.wrap ((BitVec.ofInt 64 (m : Int) ||| BitVec.ofInt 64 (n : Int)).toNat : Int) = _
  rw [BitVec.toNat_or, toNat64 m hm, toNat64 n hn]
  have := Nat.or_lt_two_pow (n := 62) hm hn
  rw [IntKind.wrap_i64]
  omega
theorem bits_xor_nat (m n : Nat) (hm : m < 4611686018427387904) (hn : n < 4611686018427387904) : bits .xor .i64 (m : Int) (n : Int) = ((m ^^^ n : Nat) : Int) := by
  show IntKind.i64.wrap ((BitVec.ofInt 64 (m : Int) ^^^ BitVec.ofInt 64 (n : Int)).toNat : Int) = _
  rw [BitVec.toNat_xor, toNat64 m hm, toNat64 n hn]
  have := Nat.xor_lt_two_pow (n := 62) hm hn
  rw [IntKind.wrap_i64]
  omega
theorem or_zero_iff (m n : Nat) : m ||| n = 0 ↔ m = 0 ∧ n = 0 := by
  constructor
  · intro h
    constructor
    · have := Nat.left_le_or (m := n) (n := m); omega
    · have := Nat.right_le_or (m := n) (n := m); omega
  · rintro ⟨rfl, rfl⟩; rfl
theorem xor_zero_iff (m n : Nat) : m ^^^ n = 0 ↔ m = n := by
  constructor
  · intro h
    have h1 : (m ^^^ n) ^^^ n = 0 ^^^ n := by rw [h]
    rw [Nat.xor_assoc, Nat.xor_self, Nat.xor_zero, Nat.zero_xor] at h1
    exact h1
  · rintro rfl; exact Nat.xor_self _
set_option maxHeartbeats 1000000 in
set_option maxRecDepth 100000 in
theorem same_any (a b : List UInt8) (w : World) (ha : a.length ≤ 140737488355328) (hb : b.length ≤ 140737488355328) :
    Calls Tryd.prog 37 #[.string ⟨a.toArray⟩, .string ⟨b.toArray⟩] w fun e w' => e = .returned (.bool (a == b)) ∧ Below w.heap.size w w' := by
  have hsa : (⟨a.toArray⟩ : ByteArray).size = a.length := by simp [ByteArray.size]
  have hsb : (⟨b.toArray⟩ : ByteArray).size = b.length := by simp [ByteArray.size]
  obtain ⟨n, hn⟩ : ∃ n, Hid (n = min a.length b.length) := ⟨_, rfl⟩
  have hmin : min (a.length : Int) (b.length : Int) = (n : Int) := by rw [hn.out]; omega
  have hnb : n ≤ 140737488355328 := by rw [hn.out]; omega
  have hxl := bits_xor_nat a.length b.length (by omega) (by omega)
  obtain ⟨u0, hu0⟩ : ∃ u0, Hid (u0 = a.length ^^^ b.length) := ⟨_, rfl⟩
  rw [← hu0.out] at hxl
  have hu0l : u0 < 281474976710656 := by rw [hu0.out]; exact Nat.xor_lt_two_pow (n := 48) (by omega) (by omega)
  go_enter Tryd.func37, Tryd.ntmps37
  go_wp2_with fail
  go_loopw [5, 6, 17] (fun v5 v6 v17 wx => ∃ i u : Nat, i ≤ n ∧ v17 = .int .i64 i ∧ v5 = .int .i64 u ∧ u < 281474976710656 ∧ (u = 0 ↔ a.length = b.length ∧ a.take i = b.take i) ∧ Below w.heap.size w wx) (fun _ _ v _ => n - (intOf v).toNat)
  case atStart => exact ⟨0, u0, by omega, rfl, rfl, hu0l, by rw [hu0.out, xor_zero_iff]; simp, Below.refl _ _⟩
  case round =>
    obtain ⟨i, u, hi, rfl, rfl, hu, hiff, hG⟩ := hrel
    have HI := Lib.hid hiff
    have HG := Lib.hid hG
    clear hiff hG
    by_cases hlt : i < n
    · have hia : i < a.length := by have := hn.out; omega
      have hib : i < b.length := by have := hn.out; omega
      obtain ⟨x, hx⟩ : ∃ x, Hid (x = a[i]) := ⟨a[i], Lib.hid rfl⟩
      obtain ⟨y, hy⟩ : ∃ y, Hid (y = b[i]) := ⟨b[i], Lib.hid rfl⟩
      have hbx : ∀ h, (⟨a.toArray⟩ : ByteArray)[i]'h = x := fun h => hx.out.symm
      have hby : ∀ h, (⟨b.toArray⟩ : ByteArray)[i]'h = y := fun h => hy.out.symm
      obtain ⟨d, hd⟩ : ∃ d, Hid (d = (x ^^^ y).toNat) := ⟨_, rfl⟩
      have hxor : bits .xor .u8 (x.toNat : Int) (y.toNat : Int) = (d : Int) := by rw [hd.out]; exact n8_xor x y
      have hd8 : d < 256 := by rw [hd.out]; exact (x ^^^ y).toNat_lt
      have hor := bits_or_nat u d (by omega) (by omega)
      obtain ⟨u2, hu2⟩ : ∃ u2, Hid (u2 = u ||| d) := ⟨_, rfl⟩
      rw [← hu2.out] at hor
      have hu2l : u2 < 281474976710656 := by rw [hu2.out]; exact Nat.or_lt_two_pow (n := 48) (by omega) (by omega)
      have hiI : (0 : Int) ≤ (i : Int) ∧ (i : Int) < (n : Int) := by omega
      have hiaI : (i : Int) < (a.length : Int) := by omega
      have hibI : (i : Int) < (b.length : Int) := by omega
      go_wp2_with fail
      go_quiet (fail)
      go_wp2_with fail
      go_roundw
      case rel =>
        refine ⟨i + 1, u2, by omega, by go_num, rfl, hu2l, ?_, below_drewN HG.out _⟩
        rw [hu2.out, hd.out, or_zero_iff, HI.out, List.take_succ_eq_append_getElem hia, List.take_succ_eq_append_getElem hib, ← hx.out, ← hy.out]
        have hxy : (x ^^^ y).toNat = 0 ↔ x = y := by
          rw [UInt8.toNat_xor, xor_zero_iff]
          exact ⟨fun h => UInt8.toNat_inj.1 h, fun h => by rw [h]⟩
        rw [hxy]
        constructor
        · rintro ⟨⟨h1, h2⟩, h3⟩
          exact ⟨h1, by rw [h2, h3]⟩
        · rintro ⟨h1, h2⟩
          have := List.append_inj h2 (by simp; omega)
          simp at this
          exact ⟨⟨h1, this.1⟩, this.2⟩
      case measure => simp [intOf]; omega
    · obtain rfl : i = n := by omega
      have hres : ((u : Int) == 0) = (a == b) := by
        have hu00 : ((u : Int) = 0) ↔ u = 0 := by omega
        rw [Bool.eq_iff_iff, beq_iff_eq, beq_iff_eq, hu00, HI.out]
        constructor
        · rintro ⟨h1, h2⟩
          have := hn.out
          rwa [List.take_of_length_le (by omega), List.take_of_length_le (by omega)] at h2
        · rintro rfl; exact ⟨rfl, rfl⟩
      have HR := Lib.hid hres
      clear hres
      go_wp2_with fail
      go_ret
      refine ⟨?_, HG.out⟩
      rw [← HR.out]
      rfl
end Go.Proofs.YtjmgkjjcdnaapaaDoor
namespace Go.Proofs.YtjmgkjjcdnaapaaDoor
open Go.RowKit
set_option linter.unusedSimpArgs false
set_option linter.unusedVariables false
set_option maxRecDepth 20000
theorem gworld {P : Program} {c : Code} {Q : Exit → Act → World → Prop} {a : Act} {W : World} (D : World → Prop) (h : D W) (k : ∀ W', D W' → c.wp P Q a W') : c.wp P Q a W := k W h
/-- a signer: the account's user and key, and the greatest number admitted. -/
structure Sg where
  u : Int
  k : List UInt8
  q : Int
def sgC (s : Sg) : Array Value := #[.int .i64 s.u, .string ⟨s.k.toArray⟩, .int .i64 s.q]
def ptrs (gs : List Nat) : List Value := gs.map fun x => .pointer (some ⟨x, 0, none⟩)
/-- a gate in memory: its block, the slice's value, its signers' blocks. -/
structure GtA (B : Nat) (w : World) (g : Nat) (v : Value) (gs : List Nat) (l : List Sg) : Prop where
  hg : Blk w g 77 #[v]
  bg : B ≤ g
  vo : Own 78 w B v (ptrs gs)
  len : gs.length = l.length
  sg : ∀ (j x : Nat) (s : Sg), gs[j]? = some x → l[j]? = some s → B ≤ x ∧ Blk w x 80 (sgC s)
  nd : gs.Nodup
  few : l.length ≤ 1000
section
variable {B : Nat} {w w' : World} {g : Nat} {v : Value} {gs : List Nat} {l : List Sg}
theorem GtA.below (h : GtA B w g v gs l) (hb : Below w.heap.size w w') : GtA B w' g v gs l :=
  ⟨h.hg.below hb h.hg.lt, h.bg, h.vo.below hb, h.len, fun j x s h1 h2 => ⟨(h.sg j x s h1 h2).1, (h.sg j x s h1 h2).2.below hb (h.sg j x s h1 h2).2.lt⟩, h.nd, h.few⟩
theorem GtA.form (h : GtA B w g v gs l) : ∃ A c, v = .slice A l.length c := by
  obtain ⟨A, c, e⟩ := h.vo.form
  exact ⟨A, c, by rw [e]; simp [ptrs, h.len]⟩
theorem GtA.at_ (h : GtA B w g v gs l) (j : Nat) (hj : j < l.length) : ∃ A c b x, v = .slice A l.length c ∧ A = some ⟨b, 0, none⟩ ∧ gs[j]? = some x ∧ w.cell? ⟨b, j, none⟩ = some (.pointer (some ⟨x, 0, none⟩)) ∧ B ≤ x ∧ Blk w x 80 (sgC l[j]) := by
  obtain ⟨A, c, rfl⟩ := h.form
  have hl : (ptrs gs).length = l.length := by simp [ptrs, h.len]
  have hjg : j < gs.length := by rw [h.len]; exact hj
  obtain ⟨b, rfl, hb, hlt⟩ := Own.at_ h.vo (by omega)
  have hx : gs[j]? = some gs[j] := List.getElem?_eq_getElem (by rw [h.len]; exact hj)
  have hc := Own.cell h.vo j (by omega)
  have := h.sg j gs[j] l[j] hx (List.getElem?_eq_getElem hj)
  exact ⟨_, c, b, gs[j], rfl, rfl, hx, by rw [hc]; simp [ptrs, hx], this.1, this.2⟩
end
theorem finder_any (x b : Nat) (s : Sg) (u : Int) (w : World) (hx : Blk w x 80 (sgC s)) (hb : Blk w b 3 #[.int .i64 u]) :
    Calls Tryd.prog 51 #[.pointer (some ⟨x, 0, none⟩), .pointer (some ⟨b, 0, none⟩)] w fun e w' => e = .returned (.bool (s.u == u)) ∧ Below w.heap.size w w' := by
  have nb : ∀ n, Below w.heap.size w (w.drewN n) := fun n => below_drewN (Below.refl _ _) n
  have c0 : w.cell? ⟨x, 0, none⟩ = some (.int .i64 s.u) := hx.cell 0
  have c1 : w.cell? ⟨b, 0, none⟩ = some (.int .i64 u) := hb.cell 0
  go_enter Tryd.func51, Tryd.ntmps51
  go_wp2_with fail
  go_quiet (fail)
  go_wp2_with fail
  go_ret
  exact ⟨rfl, nb _⟩
def fN (l : List Sg) (u : Int) : Option Nat := if l.any (fun s => s.u == u) then some (l.findIdx (fun s => s.u == u)) else none
def ixV : Option Nat → Int
  | none => -1
  | some j => (j : Nat)
theorem fN_I (l : List Sg) (u : Int) : fstI (fun s : Sg => s.u == u) l = ixV (fN l u) := by
  unfold fstI fN
  split <;> rfl
theorem fN_some {l : List Sg} {u : Int} {j : Nat} (h : fN l u = some j) : ∃ hj : j < l.length, l[j].u = u := by
  unfold fN at h
  split at h
  · rename_i ha
    obtain rfl := Option.some.inj h
    have hf : l.findIdx (fun s => s.u == u) < l.length := List.findIdx_lt_length_of_exists (by simpa using ha)
    exact ⟨hf, by simpa using List.findIdx_getElem (w := hf)⟩
  · cases h
/-- what find gives. -/
def fndV (gs : List Nat) : Option Nat → Value
  | none => .pointer none
  | some j => .pointer (some ⟨gs.getD j 0, 0, none⟩)
set_option maxHeartbeats 800000 in
theorem indexG_any (g : Nat) (B : Nat) (v : Value) (gs : List Nat) (l : List Sg) (b : Nat) (u : Int) (w : World) (h : GtA B w g v gs l) (hb : Blk w b 3 #[.int .i64 u]) :
    Calls Tryd.prog 50 #[v, .func (Fn.func 51) #[] #[.pointer (some ⟨b, 0, none⟩)]] w fun e w' => e = .returned (.int .i64 (ixV (fN l u))) ∧ Below w.heap.size w w' := by
  obtain ⟨A, c, rfl⟩ := h.form
  have hl := h.few
  have H := Lib.hid h
  have HBB := Lib.hid hb
  clear h hb
  go_enter Tryd.func50, Tryd.ntmps50
  go_wp2_with fail
  go_loopg [8] (l.length + 1) (fun kq v wr => ∃ k : Nat, k + kq = l.length + 1 ∧ k ≤ l.length ∧ v = .int .i64 k ∧ Hid (Below w.heap.size w wr) ∧ Hid (∀ j x, j < k → l[j]? = some x → (x.u == u) = false))
  case atStart => exact ⟨0, by omega, by omega, rfl, Lib.hid (Below.refl _ _), Lib.hid (fun j x hj => by omega)⟩
  case round =>
    obtain ⟨k, hk, hk2, rfl, HW, H0⟩ := hrel
    by_cases hlt : k < l.length
    · obtain ⟨A', c', b', x, e', rfl, hx, hc, hBx, hsx⟩ := (H.out.below HW.out).at_ k hlt
      cases e'
      have e1 : 0 ≤ (k : Int) ∧ (k : Int) < (l.length : Int) := by omega
      have HG := Lib.hid (List.getElem?_eq_getElem hlt)
      obtain ⟨a, ha⟩ : ∃ a, a = l[k] := ⟨_, rfl⟩
      rw [← ha] at hsx HG
      have HX := Lib.hid hsx
      have HB2 := Lib.hid (HBB.out.below HW.out HBB.out.lt)
      clear hsx hx hBx ha
      go_wp2_with fail
      refine (finder_any x b a u wr HX.out HB2.out).mono ?_
      rintro e w' ⟨rfl, bw⟩
      have HW2 := Lib.hid (HW.out.trans (bw.mono HW.out.size))
      clear bw HW hc HX HB2
      cases hp : a.u == u with
      | true =>
        have HF := Lib.hid ((fN_I l u).symm.trans (fstI_hit (fun s : Sg => s.u == u) l k a HG.out hp H0.out))
        clear hp
        go_wp2_with fail
        go_ret
        exact ⟨by rw [HF.out]; rfl, HW2.out⟩
      | false =>
        have H1 : Hid (∀ j x, j < k + 1 → l[j]? = some x → (x.u == u) = false) := Lib.hid (fun j x hj hx => by
          rcases Nat.lt_or_ge j k with h | h
          · exact H0.out j x h hx
          · obtain rfl : j = k := by omega
            rw [HG.out] at hx
            cases hx
            exact hp)
        clear hp
        go_wp2_with fail
        go_roundg (l.length - k)
        case measure => omega
        case rel => exact ⟨k + 1, by omega, by omega, by go_num, HW2, H1⟩
    · obtain rfl : k = l.length := by omega
      have HF := Lib.hid ((fN_I l u).symm.trans (fstI_none (fun s : Sg => s.u == u) l H0.out))
      have hq : gk = 1 := by omega
      subst hq
      clear hlt hk2 hk
      go_wp2_with fail
      go_ret
      exact ⟨by rw [HF.out]; rfl, HW.out⟩
set_option maxHeartbeats 800000 in
theorem find_any (g : Nat) (B : Nat) (v : Value) (gs : List Nat) (l : List Sg) (u : Int) (w : World) (h : GtA B w g v gs l) (o : Option Nat) (ho : fN l u = o) :
    Calls Tryd.prog 36 #[.pointer (some ⟨g, 0, none⟩), .int .i64 u] w fun e w' => e = .returned (fndV gs o) ∧ Below w.heap.size w w' := by
  obtain ⟨A, c, rfl⟩ := h.form
  have H := Lib.hid h
  have HO := Lib.hid ho
  clear h ho
  go_enter Tryd.func36, Tryd.ntmps36
  go_upto_region 1 with fail
  refine gworld (fun W => Hid (Blk W w.heap.size 3 #[.int .i64 u]) ∧ Hid (Below w.heap.size w W)) ⟨Lib.hid (Blk.new w _ _), Lib.hid ((Below.refl _ _).alloc (Nat.le_refl _) _)⟩ ?_
  rintro w1 ⟨HB1, HW1⟩
  obtain ⟨b, hb⟩ : ∃ b, Hid (w.heap.size = b) := ⟨_, Lib.hid rfl⟩
  have HB1 := Lib.hid (show Blk w1 b 3 #[.int .i64 u] by rw [← hb.out]; exact HB1.out)
  rw [hb.out]
  have H1 := Lib.hid (H.out.below HW1.out)
  have m0 : w1.cell? ⟨g, 0, none⟩ = some (.slice A l.length c) := H1.out.hg.cell 0
  go_wp2_with fail
  refine (indexG_any g B _ gs l b u w1 H1.out HB1.out).mono ?_
  rintro e w2 ⟨rfl, b2⟩
  have HW2 := Lib.hid (HW1.out.trans (b2.mono HW1.out.size))
  have H2 := Lib.hid (H1.out.below b2)
  clear m0 b2 H1 HW1 HB1
  rw [HO.out]
  cases o with
  | none =>
    have e1 : ixV none = -1 := rfl
    rw [e1]
    go_wp2_with fail
    go_ret
    exact ⟨by rfl, HW2.out⟩
  | some j =>
    obtain ⟨hj, _⟩ := fN_some HO.out
    obtain ⟨A', c', b', x, e', rfl, hx, hc, hBx, hsx⟩ := H2.out.at_ j hj
    cases e'
    have e1 : ixV (some j) = (j : Int) := rfl
    rw [e1]
    have e2 : 0 ≤ (j : Int) ∧ (j : Int) < (l.length : Int) := by omega
    have hgx := Lib.hid (show gs.getD j 0 = x by rw [List.getD_eq_getElem?_getD, hx]; rfl)
    have m0 : w2.cell? ⟨g, 0, none⟩ = some (.slice (some ⟨b', 0, none⟩) l.length c) := H2.out.hg.cell 0
    clear hx hBx hsx
    go_wp2_with fail
    go_ret
    exact ⟨by show _ = Ending.returned (.pointer (some ⟨gs.getD j 0, 0, none⟩)); rw [hgx.out]; rfl, HW2.out⟩
/-- what Last gives. -/
def lastV (l : List Sg) : Option Nat → Int × Int
  | none => (0, 200)
  | some j => ((l.getD j ⟨0, [], 0⟩).q, 0)
set_option maxHeartbeats 800000 in
theorem last_any (g : Nat) (B : Nat) (v : Value) (gs : List Nat) (l : List Sg) (u : Int) (w : World) (h : GtA B w g v gs l) (o : Option Nat) (ho : fN l u = o) :
    Calls Tryd.prog 19 #[.pointer (some ⟨g, 0, none⟩), .int .i64 u] w fun e w' => e = .returned (.tuple #[.int .i64 (lastV l o).1, .int .i64 (lastV l o).2]) ∧ Below w.heap.size w w' := by
  have H := Lib.hid h
  have HO := Lib.hid ho
  clear h ho
  go_enter Tryd.func19, Tryd.ntmps19
  go_wp2_with fail
  refine (find_any g B v gs l u w H.out o HO.out).mono ?_
  rintro e w1 ⟨rfl, b1⟩
  have HW := Lib.hid b1
  have H1 := Lib.hid (H.out.below b1)
  clear b1
  cases o with
  | none =>
    have e1 : fndV gs none = .pointer none := rfl
    rw [e1]
    go_wp2_with fail
    go_ret2
    exact ⟨by rfl, HW.out⟩
  | some j =>
    obtain ⟨hj, _⟩ := fN_some HO.out
    obtain ⟨A', c', b', x, e', e'', hx, hc, hBx, hsx⟩ := H1.out.at_ j hj
    have e1 : fndV gs (some j) = .pointer (some ⟨x, 0, none⟩) := by show Value.pointer (some ⟨gs.getD j 0, 0, none⟩) = _; rw [List.getD_eq_getElem?_getD, hx]; rfl
    rw [e1]
    have hq := Lib.hid (show (l.getD j ⟨0, [], 0⟩).q = l[j].q by rw [List.getD_eq_getElem?_getD, List.getElem?_eq_getElem hj]; rfl)
    obtain ⟨q, HQ⟩ : ∃ q, Hid (l[j].q = q) := ⟨_, Lib.hid rfl⟩
    have m2 : w1.cell? ⟨x, 2, none⟩ = some (.int .i64 q) := by rw [← HQ.out]; exact hsx.cell 2
    clear hx hBx hsx hc e' e''
    go_wp2_with fail
    go_ret2
    exact ⟨by show _ = Ending.returned (.tuple #[.int .i64 (l.getD j ⟨0, [], 0⟩).q, .int .i64 0]); rw [hq.out, HQ.out]; rfl, HW.out⟩
set_option maxHeartbeats 400000 in
theorem has_any (g : Nat) (B : Nat) (v : Value) (gs : List Nat) (l : List Sg) (u : Int) (w : World) (h : GtA B w g v gs l) (o : Option Nat) (ho : fN l u = o) :
    Calls Tryd.prog 21 #[.pointer (some ⟨g, 0, none⟩), .int .i64 u] w fun e w' => e = .returned (.bool o.isSome) ∧ Below w.heap.size w w' := by
  have H := Lib.hid h
  have HO := Lib.hid ho
  clear h ho
  go_enter Tryd.func21, Tryd.ntmps21
  go_wp2_with fail
  refine (find_any g B v gs l u w H.out o HO.out).mono ?_
  rintro e w1 ⟨rfl, b1⟩
  cases o with
  | none =>
    have e1 : fndV gs none = .pointer none := rfl
    rw [e1]
    go_wp2_with fail
    go_ret
    exact ⟨by rfl, b1⟩
  | some j =>
    have e1 : fndV gs (some j) = .pointer (some ⟨gs.getD j 0, 0, none⟩) := rfl
    rw [e1]
    go_wp2_with fail
    go_ret
    exact ⟨by rfl, b1⟩
end Go.Proofs.YtjmgkjjcdnaapaaDoor
namespace Go.Proofs.YtjmgkjjcdnaapaaDoor
open Go.RowKit
set_option linter.unusedSimpArgs false
set_option linter.unusedVariables false
set_option maxRecDepth 20000
structure Ac where
  u : Int
  k : List UInt8
/-- accounts that lie somewhere. -/
def Accs (w : World) (A : Option Addr) (n c : Nat) (l : List Ac) : Prop :=
  l.length = n ∧ n ≤ c ∧ c ≤ 9223372036854775807 ∧ (0 < n → ∃ b o, A = some ⟨b, o, none⟩ ∧ b < w.heap.size ∧ ∀ (i : Nat) (x : Ac), l[i]? = some x → w.cell? ⟨b, o + i * 2, none⟩ = some (.int .i64 x.u) ∧ w.cell? ⟨b, o + i * 2 + 1, none⟩ = some (.string ⟨x.k.toArray⟩))
theorem Accs.below {w w' : World} {A : Option Addr} {n c : Nat} {l : List Ac} (h : Accs w A n c l) (hb : Below w.heap.size w w') : Accs w' A n c l := by
  obtain ⟨h1, h2, h3, h4⟩ := h
  refine ⟨h1, h2, h3, fun hn => ?_⟩
  obtain ⟨b, o, e, hlt, hc⟩ := h4 hn
  refine ⟨b, o, e, Nat.lt_of_lt_of_le hlt hb.size, fun i x hx => ?_⟩
  obtain ⟨c1, c2⟩ := hc i x hx
  exact ⟨(hb.cell (p := ⟨b, o + i * 2, none⟩) hlt).trans c1, (hb.cell (p := ⟨b, o + i * 2 + 1, none⟩) hlt).trans c2⟩
theorem Accs.at_ {w : World} {A : Option Addr} {n c : Nat} {l : List Ac} (h : Accs w A n c l) (k : Nat) (hk : k < n) : ∃ b o x, A = some ⟨b, o, none⟩ ∧ l[k]? = some x ∧ w.cell? ⟨b, o + k * 2, none⟩ = some (.int .i64 x.u) ∧ w.cell? ⟨b, o + k * 2 + 1, none⟩ = some (.string ⟨x.k.toArray⟩) := by
  obtain ⟨h1, h2, h3, h4⟩ := h
  obtain ⟨b, o, e, hlt, hc⟩ := h4 (by omega)
  have hx : l[k]? = some (l[k]'(by omega)) := List.getElem?_eq_getElem (by omega)
  exact ⟨b, o, _, e, hx, hc k _ hx⟩
theorem Accs.take {w : World} {A : Option Addr} {n c : Nat} {l : List Ac} (h : Accs w A n c l) (k : Nat) (hk : k ≤ n) : Accs w A k c (l.take k) := by
  obtain ⟨h1, h2, h3, h4⟩ := h
  refine ⟨by rw [List.length_take]; omega, by omega, h3, fun hn => ?_⟩
  obtain ⟨b, o, e, hlt, hc⟩ := h4 (by omega)
  refine ⟨b, o, e, hlt, fun i x hx => hc i x ?_⟩
  rw [List.getElem?_take] at hx
  split at hx
  · exact hx
  · cases hx
def accBad (l : List Ac) (i : Nat) (a : Ac) : Int := if a.u < 0 ∨ 64 ≤ a.u then 1 else if (l.take i).any (fun b => b.u == a.u) then 6 else if a.k.length ≠ 32 then 3 else 0
def chkFrom (l : List Ac) : Nat → List Ac → Int × Int
  | _, [] => (0, 0)
  | i, a :: r => if accBad l i a ≠ 0 then ((i : Nat), accBad l i a) else chkFrom l (i + 1) r
def chkA (l : List Ac) : Int × Int := if 64 < l.length then (-1, 2) else chkFrom l 0 l
theorem chkFrom_at {l : List Ac} {k : Nat} {a : Ac} (h : l[k]? = some a) : chkFrom l k (l.drop k) = if accBad l k a ≠ 0 then (((k : Nat) : Int), accBad l k a) else chkFrom l (k + 1) (l.drop (k + 1)) := by
  obtain ⟨hk, e⟩ := List.getElem?_eq_some_iff.1 h
  rw [List.drop_eq_getElem_cons hk, e]
  rfl
set_option maxHeartbeats 400000 in
theorem sameUser_any (b : Nat) (cs : Array Value) (a : Ac) (u : Int) (w : World) (hb : Blk w b 44 cs) (h0 : cs[0]? = some (.int .i64 u)) :
    Calls Tryd.prog 35 #[.agg #[.int .i64 a.u, .string ⟨a.k.toArray⟩], .pointer (some ⟨b, 0, none⟩)] w fun e w' => e = .returned (.bool (a.u == u)) ∧ Below w.heap.size w w' := by
  have c0 : w.cell? ⟨b, 0, none⟩ = some (.int .i64 u) := (hb.cell 0).trans h0
  have hl := hb.lt
  have c1 : (w.alloc (.cells #[.int .i64 a.u, .string ⟨a.k.toArray⟩] 44)).cell? ⟨b, 0, none⟩ = some (.int .i64 u) := ((hb.alloc _).cell 0).trans h0
  go_enter Tryd.func35, Tryd.ntmps35
  go_wp2_with fail
  go_ret
  exact ⟨rfl, (Below.refl _ _).alloc (Nat.le_refl _) _⟩
set_option maxHeartbeats 800000 in
theorem indexA_any (A : Option Addr) (n c : Nat) (l : List Ac) (b : Nat) (cs : Array Value) (u : Int) (w : World) (h : Accs w A n c l) (hb : Blk w b 44 cs) (h0 : cs[0]? = some (.int .i64 u)) :
    Calls Tryd.prog 49 #[.slice A n c, .func (Fn.func 35) #[] #[.pointer (some ⟨b, 0, none⟩)]] w fun e w' => e = .returned (.int .i64 (fstI (fun a : Ac => a.u == u) l)) ∧ Below w.heap.size w w' := by
  have H := Lib.hid h
  have HBB := Lib.hid hb
  have H00 := Lib.hid h0
  have hn : n ≤ 9223372036854775807 := Nat.le_trans h.2.1 h.2.2.1
  have HLN := Lib.hid h.1
  clear h hb h0
  go_enter Tryd.func49, Tryd.ntmps49
  go_wp2_with fail
  go_loopg [8] (n + 1) (fun kq v wr => ∃ k : Nat, k + kq = n + 1 ∧ k ≤ n ∧ v = .int .i64 k ∧ Hid (Below w.heap.size w wr) ∧ Hid (∀ j x, j < k → l[j]? = some x → (x.u == u) = false))
  case atStart => exact ⟨0, by omega, by omega, rfl, Lib.hid (Below.refl _ _), Lib.hid (fun j x hj => by omega)⟩
  case round =>
    obtain ⟨k, hk, hk2, rfl, HW, H0⟩ := hrel
    by_cases hlt : k < n
    · obtain ⟨b', o, a, rfl, hx, c1, c2⟩ := (H.out.below HW.out).at_ k hlt
      have e1 : 0 ≤ (k : Int) ∧ (k : Int) < (n : Int) := by omega
      have HG := Lib.hid hx
      have HB2 := Lib.hid (HBB.out.below HW.out HBB.out.lt)
      clear hx
      go_wp2_with fail
      refine (sameUser_any b cs a u wr HB2.out H00.out).mono ?_
      rintro e w' ⟨rfl, bw⟩
      have HW2 := Lib.hid (HW.out.trans (bw.mono HW.out.size))
      clear bw HW c1 c2 HB2
      cases hp : a.u == u with
      | true =>
        have HF := Lib.hid (fstI_hit (fun s : Ac => s.u == u) l k a HG.out hp H0.out)
        clear hp
        go_wp2_with fail
        go_ret
        exact ⟨by rw [HF.out]; rfl, HW2.out⟩
      | false =>
        have H1 : Hid (∀ j x, j < k + 1 → l[j]? = some x → (x.u == u) = false) := Lib.hid (fun j x hj hx => by
          rcases Nat.lt_or_ge j k with h | h
          · exact H0.out j x h hx
          · obtain rfl : j = k := by omega
            rw [HG.out] at hx
            cases hx
            exact hp)
        clear hp
        go_wp2_with fail
        go_roundg (n - k)
        case measure => omega
        case rel => exact ⟨k + 1, by omega, by omega, by go_num, HW2, H1⟩
    · obtain rfl : k = n := by omega
      have HF := Lib.hid (fstI_none (fun s : Ac => s.u == u) l (by rw [HLN.out]; exact H0.out))
      have hq : gk = 1 := by omega
      subst hq
      clear hlt hk2 hk
      go_wp2_with fail
      go_ret
      exact ⟨by rw [HF.out]; rfl, HW.out⟩
set_option maxHeartbeats 400000 in
theorem containsA_any (A : Option Addr) (n c : Nat) (l : List Ac) (b : Nat) (cs : Array Value) (u : Int) (w : World) (h : Accs w A n c l) (hb : Blk w b 44 cs) (h0 : cs[0]? = some (.int .i64 u)) :
    Calls Tryd.prog 34 #[.slice A n c, .func (Fn.func 35) #[] #[.pointer (some ⟨b, 0, none⟩)]] w fun e w' => e = .returned (.bool (l.any fun a : Ac => a.u == u)) ∧ Below w.heap.size w w' := by
  have HC := Lib.hid (indexA_any A n c l b cs u w h hb h0)
  have HE := Lib.hid (fstI_ge (fun a : Ac => a.u == u) l)
  clear h hb h0
  go_enter Tryd.func34, Tryd.ntmps34
  go_wp2_with fail
  refine HC.out.mono ?_
  rintro e w' ⟨rfl, hb⟩
  have HB := Lib.hid hb
  clear hb
  go_wp2_with fail
  go_ret
  exact ⟨by rw [← HE.out]; rfl, HB.out⟩
set_option maxHeartbeats 1600000 in
theorem check_any (A : Option Addr) (n c : Nat) (l : List Ac) (w : World) (h : Accs w A n c l) :
    Calls Tryd.prog 13 #[.slice A n c] w fun e w' => e = .returned (.tuple #[.int .i64 (chkA l).1, .int .i64 (chkA l).2]) ∧ Below w.heap.size w w' := by
  have H := Lib.hid h
  have HLN := Lib.hid h.1
  have hnc : n ≤ c := h.2.1
  have hc := h.2.2.1
  clear h
  by_cases hbig : 64 < n
  · have HR := Lib.hid (show chkA l = (-1, 2) from if_pos (by rw [HLN.out]; exact hbig))
    go_enter Tryd.func13, Tryd.ntmps13
    go_wp2_with fail
    go_ret2
    exact ⟨by rw [HR.out]; rfl, Below.refl _ _⟩
  · have HR := Lib.hid (show chkA l = chkFrom l 0 (l.drop 0) from if_neg (by rw [HLN.out]; exact hbig))
    go_enter Tryd.func13, Tryd.ntmps13
    go_wp2_with fail
    go_loopg [11] (n + 1) (fun kq v wr => ∃ k : Nat, k + kq = n + 1 ∧ k ≤ n ∧ v = .int .i64 k ∧ Hid (Below w.heap.size w wr) ∧ Hid (chkA l = chkFrom l k (l.drop k)))
    case atStart => exact ⟨0, by omega, by omega, rfl, Lib.hid (Below.refl _ _), HR⟩
    case round =>
      clear HR
      obtain ⟨k, hk, hk2, rfl, HW, HR⟩ := hrel
      by_cases hlt : k < n
      · obtain ⟨b', o, a, rfl, hx, c1, c2⟩ := (H.out.below HW.out).at_ k hlt
        have e1 : 0 ≤ (k : Int) ∧ (k : Int) < (n : Int) := by omega
        have HX := Lib.hid hx
        have HT := Lib.hid (HR.out.trans (chkFrom_at hx))
        clear hx
        obtain ⟨u, kb⟩ := a
        have hsz : (⟨kb.toArray⟩ : ByteArray).size = kb.length := by simp [ByteArray.size]
        go_upto_region 6 with fail
        refine gworld (fun W => Hid (Blk W wr.heap.size 44 #[.int .i64 u, .string ⟨kb.toArray⟩]) ∧ Hid (Below w.heap.size w W)) ⟨?_, ?_⟩ ?_
        · exact Lib.hid (Blk.new wr 44 _)
        · exact Lib.hid (HW.out.trans (((Below.refl _ _).alloc (Nat.le_refl _) _).mono HW.out.size))
        obtain ⟨g, hg⟩ : ∃ g, g = wr.heap.size := ⟨_, rfl⟩
        rw [← hg]
        clear c1 c2 hg HW HR
        rintro w1 ⟨HB1, HW1⟩
        have m0 : w1.cell? ⟨g, 0, none⟩ = some (.int .i64 u) := HB1.out.cell 0
        have m1 : w1.cell? ⟨g, 1, none⟩ = some (.string ⟨kb.toArray⟩) := HB1.out.cell 1
        by_cases hu : u < 0 ∨ 64 ≤ u
        · have HE := Lib.hid (show chkA l = (((k : Nat) : Int), 1) by rw [HT.out, if_pos (by unfold accBad; rw [if_pos hu]; decide)]; unfold accBad; rw [if_pos hu])
          rcases Classical.em (u < 0) with hu0 | hu0
          · have d1 : decide (u < 0) = true := decide_eq_true hu0
            clear hu hu0
            go_wp2_with fail
            go_ret2
            exact ⟨by rw [HE.out]; rfl, HW1.out⟩
          · have d1 : decide (u < 0) = false := decide_eq_false hu0
            have d2 : decide (64 ≤ u) = true := decide_eq_true (by omega)
            clear hu hu0
            go_wp2_with fail
            go_ret2
            exact ⟨by rw [HE.out]; rfl, HW1.out⟩
        · have d1 : decide (u < 0) = false := decide_eq_false (by omega)
          have d2 : decide (64 ≤ u) = false := decide_eq_false (by omega)
          have HU := Lib.hid hu
          have HTK := Lib.hid ((H.out.below HW1.out).take k hk2)
          have hkc : (k : Int) ≤ (c : Int) := by omega
          clear hu
          go_wp2_with fail
          refine (containsA_any _ k c (l.take k) g _ u w1 HTK.out HB1.out rfl).mono ?_
          rintro e w2 ⟨rfl, b2⟩
          have HW2 := Lib.hid (HW1.out.trans (b2.mono HW1.out.size))
          have HB2 := Lib.hid (HB1.out.below b2 HB1.out.lt)
          clear b2 HW1 HB1 m0 m1 HTK hkc
          have m1 : w2.cell? ⟨g, 1, none⟩ = some (.string ⟨kb.toArray⟩) := HB2.out.cell 1
          cases hd : (l.take k).any (fun b => b.u == u) with
          | true =>
            have HE := Lib.hid (show chkA l = (((k : Nat) : Int), 6) by
              have e : accBad l k ⟨u, kb⟩ = 6 := by unfold accBad; rw [if_neg HU.out, if_pos hd]
              rw [HT.out, e]; rfl)
            clear hd
            go_wp2_with fail
            go_ret2
            exact ⟨by rw [HE.out]; rfl, HW2.out⟩
          | false =>
            have HD := Lib.hid hd
            clear hd
            by_cases hk32 : kb.length = 32
            · have HE := Lib.hid (show chkA l = chkFrom l (k + 1) (l.drop (k + 1)) by
                have e : accBad l k ⟨u, kb⟩ = 0 := by unfold accBad; rw [if_neg HU.out, if_neg (by rw [HD.out]; decide), if_neg (by simpa using hk32)]
                rw [HT.out, e]; rfl)
              have d3 : (((⟨kb.toArray⟩ : ByteArray).size : Int) != 32) = false := bne_eq_false_iff_eq.mpr (by rw [hsz, hk32]; rfl)
              have d4 : ((kb.length : Int) != 32) = false := bne_eq_false_iff_eq.mpr (by rw [hk32]; rfl)
              clear hk32
              go_wp2_with fail
              go_roundg (n - k)
              case measure => omega
              case rel => exact ⟨k + 1, by omega, by omega, by go_num, HW2, HE⟩
            · have HE := Lib.hid (show chkA l = (((k : Nat) : Int), 3) by
                have e : accBad l k ⟨u, kb⟩ = 3 := by unfold accBad; rw [if_neg HU.out, if_neg (by rw [HD.out]; decide), if_pos (by simpa using hk32)]
                rw [HT.out, e]; rfl)
              have d3 : (((⟨kb.toArray⟩ : ByteArray).size : Int) != 32) = true := bne_iff_ne.mpr (by rw [hsz]; omega)
              have d4 : ((kb.length : Int) != 32) = true := bne_iff_ne.mpr (by omega)
              clear hk32
              go_wp2_with fail
              go_ret2
              exact ⟨by rw [HE.out]; rfl, HW2.out⟩
      · obtain rfl : k = n := by omega
        have hq : gk = 1 := by omega
        subst hq
        have HF := Lib.hid (show chkA l = (0, 0) by rw [HR.out, List.drop_eq_nil_of_le (by rw [HLN.out]; omega)]; rfl)
        clear hlt hk2 hk
        go_wp2_with fail
        go_ret2
        exact ⟨by rw [HF.out]; rfl, HW.out⟩
end Go.Proofs.YtjmgkjjcdnaapaaDoor
namespace Go.Proofs.YtjmgkjjcdnaapaaDoor
open Go.RowKit Go.Proofs.YtjmgkjjcdnaapaaDoorW.PrintWords Go.Proofs.YtjmgkjjcdnaapaaDoorW.PrintLast
set_option linter.unusedSimpArgs false
set_option linter.unusedVariables false
set_option maxRecDepth 20000
def nw8.T : Bool × List (List Nat × List Nat) := (true, [([], []), ([], []), ([1], [1]), ([2], [2]), ([3], [3]), ([], []), ([5], [5]), ([6], [6]), ([7], [7]), ([4, 8], [4, 8]), ([0, 0, 1, 2, 3, 4, 5, 6, 7, 8, 9], [0]), ([10, 0, 1, 2, 3, 4, 5, 6, 7, 8, 9], [10]), ([11, 9, 9, 0, 1, 2, 3, 4, 5, 6, 7, 8, 9], [9, 11])])
def nw8.B : List Nat := [0, 0, 2, 6, 14, 0, 32, 96, 224, 510, 1023, 2047, 4095]
theorem nw8.tab : rtab .any (opsOf Tryd.f15 8) = nw8.T := by kernel_rfl
theorem nw8.bits : waitsOk nw8.T.2 nw8.B = true := by kernel_rfl
theorem gt_typed {e : TypeId} {s n B : Nat} {w : World} {v : Value} {xs : List Value} (h : w.ownsRow B e s v n xs) : ∀ k, v.ownBlock = some k → ∃ cs, Blk w k e cs := by
  intro k hk
  rcases h.2 with ⟨rfl, _⟩ | ⟨g, cap, cur, rfl, _, hc, _⟩
  · cases hk
  · injection hk with hk; subst hk; exact ⟨cur, hc⟩
theorem gt_type {w : World} {g : Nat} {t t' : TypeId} {cs cs' : Array Value} (h : Blk w g t cs) (k : Blk w g t' cs') : t = t' := by
  unfold Blk at h k
  rw [h] at k
  injection k with k
  injection k
theorem gt_apart {w : World} {g g' : Nat} {t t' : TypeId} {cs cs' : Array Value} (h : Blk w g t cs) (k : Blk w g' t' cs') (ht : t ≠ t') : g ≠ g' := fun e => ht (by subst e; exact gt_type h k)
theorem ptrs_snoc (gs : List Nat) (x : Nat) : ptrs (gs ++ [x]) = ptrs gs ++ [.pointer (some ⟨x, 0, none⟩)] := by simp [ptrs]
theorem GtA.push {B g x : Nat} {w w3 w4 : World} {v v' : Value} {gs : List Nat} {l : List Sg} (h : GtA B w g v gs l) (s : Sg) (hx : Blk w3 x 80 (sgC s)) (hxw : w.heap.size ≤ x) (hBx : B ≤ x) (h3 : Below w.heap.size w w3)
    (ho : Own 78 w4 B v' (ptrs gs ++ [.pointer (some ⟨x, 0, none⟩)])) (hg : w3.grownBy w4 v.ownBlock) (hfew : l.length + 1 ≤ 1000) : GtA B (w4.setCell ⟨g, 0, none⟩ v') g v' (gs ++ [x]) (l ++ [s]) := by
  have hB := h.below h3
  have hvt := gt_typed hB.vo
  have ne1 : ∀ {k : Nat} {t : TypeId} {cs : Array Value}, Blk w3 k t cs → t ≠ 78 → some k ≠ v.ownBlock := fun hk ht e => by
    obtain ⟨cs', hc⟩ := hvt _ e.symm
    exact ht (gt_type hk hc)
  have hg4 := hB.hg.grown hg (ne1 hB.hg (by decide))
  have hvt' := gt_typed ho
  refine ⟨?_, h.bg, ?_, by simp [h.len], ?_, ?_, by simpa using hfew⟩
  · have := hg4.set_ 0 v'
    simpa using this
  · rw [ptrs_snoc]
    refine Own.setFar ho (fun e => ?_) v'
    obtain ⟨cs', hc⟩ := hvt' _ e
    exact absurd (gt_type hg4 hc) (by decide)
  · intro j y s' h1 h2
    by_cases hj : j < gs.length
    · rw [List.getElem?_append_left hj] at h1
      rw [List.getElem?_append_left (by rw [← h.len]; exact hj)] at h2
      obtain ⟨b1, b2⟩ := hB.sg j y s' h1 h2
      exact ⟨b1, (b2.grown hg (ne1 b2 (by decide))).far (gt_apart (b2.grown hg (ne1 b2 (by decide))) hg4 (by decide)) v'⟩
    · have hj2 : j = gs.length := by
        have := (List.getElem?_eq_some_iff.1 h1).1
        simp at this; omega
      subst hj2
      rw [List.getElem?_append_right (Nat.le_refl _), Nat.sub_self] at h1
      rw [List.getElem?_append_right (by rw [h.len]; exact Nat.le_refl _), h.len, Nat.sub_self] at h2
      simp at h1 h2
      subst h1; subst h2
      have hx4 := hx.grown hg (ne1 hx (by decide))
      exact ⟨hBx, hx4.far (gt_apart hx4 hg4 (by decide)) v'⟩
  · rw [List.nodup_append]
    refine ⟨h.nd, by simp, fun a ha b hb => ?_⟩
    simp at hb
    subst hb
    obtain ⟨j, hj, rfl⟩ := List.mem_iff_getElem.1 ha
    have := (h.sg j gs[j] (l[j]'(by rw [← h.len]; exact hj)) (List.getElem?_eq_getElem hj) (List.getElem?_eq_getElem _)).2.lt
    omega
def acS (a : Ac) : Sg := ⟨a.u, a.k, 0⟩
theorem elemSg : Elem Tryd.prog 75 78 (.pointer none) 8 := ⟨Tryd.underlying75, by kernel_rfl, by rfl⟩
set_option maxHeartbeats 1600000 in
theorem new_any (A : Option Addr) (n c : Nat) (l : List Ac) (w : World) (h : Accs w A n c l) (hn : (chkA l).2 = 0) :
    Calls Tryd.prog 15 #[.slice A n c] w fun e w' => ∃ g v gs, e = .returned (.tuple #[.pointer (some ⟨g, 0, none⟩), .int .i64 0]) ∧ GtA w.heap.size w' g v gs (l.map acS) ∧ Below w.heap.size w w' := by
  have H := Lib.hid h
  have HLN := Lib.hid h.1
  have hnc : n ≤ c := h.2.1
  have hc := h.2.2.1
  have h64 : n ≤ 64 := by
    rcases Nat.lt_or_ge 64 l.length with hh | hh
    · unfold chkA at hn; rw [if_pos hh] at hn; exact absurd hn (by decide)
    · rw [← h.1]; exact hh
  have HN := Lib.hid hn
  obtain ⟨at0, AT⟩ : ∃ a, Hid ((chkA l).1 = a) := ⟨_, Lib.hid rfl⟩
  clear h hn
  go_enter Tryd.func15, Tryd.ntmps15
  go_wp2_with fail
  refine (check_any A n c l w H.out).mono ?_
  rintro e w1 ⟨rfl, b1⟩
  rw [AT.out, HN.out]
  have HW1 := Lib.hid b1
  clear b1
  go_upto_region 5 with fail
  refine gworld (fun W => Hid (GtA w.heap.size W w1.heap.size (.slice none 0 0) [] []) ∧ Hid (Below w.heap.size w W)) ⟨Lib.hid ⟨Blk.new w1 _ _, HW1.out.size, my_own_nil _ _ _, rfl, fun j x s hj => by simp at hj, List.nodup_nil, by decide⟩, Lib.hid (HW1.out.alloc HW1.out.size _)⟩ ?_
  obtain ⟨g, hg⟩ : ∃ g, g = w1.heap.size := ⟨_, rfl⟩
  rw [← hg]
  clear hg HW1
  rintro w2 ⟨D2, HW2⟩
  go_wp2_with fail
  go_loopg [21] (n + 1) (fun kq v wr => ∃ (k : Nat) (v' : Value) (gs : List Nat), k + kq = n + 1 ∧ k ≤ n ∧ v = .int .i64 k ∧ Hid (Below w.heap.size w wr) ∧ Hid (GtA w.heap.size wr g v' gs ((l.take k).map acS)))
  case atStart => exact ⟨0, _, _, by omega, by omega, rfl, HW2, D2⟩
  case round =>
    clear D2 HW2
    obtain ⟨k, v', gs, hk, hk2, rfl, HW, D⟩ := hrel
    by_cases hlt : k < n
    · obtain ⟨b', o, a, rfl, hx, c1, c2⟩ := (H.out.below HW.out).at_ k hlt
      have e1 : 0 ≤ (k : Int) ∧ (k : Int) < (n : Int) := by omega
      have HX := Lib.hid hx
      clear hx
      obtain ⟨u, kb⟩ := a
      go_upto_region 8 with fail
      refine gworld (fun W => Hid (Blk W wr.heap.size 44 #[.int .i64 u, .string ⟨kb.toArray⟩]) ∧ Hid (Below w.heap.size w W) ∧ Hid (GtA w.heap.size W g v' gs ((l.take k).map acS))) ⟨Lib.hid (Blk.new wr 44 _), Lib.hid (HW.out.alloc HW.out.size _), Lib.hid (D.out.below ((Below.refl _ _).alloc (Nat.le_refl _) _))⟩ ?_
      obtain ⟨a, ha⟩ : ∃ a, a = wr.heap.size := ⟨_, rfl⟩
      rw [← ha]
      clear c1 c2 ha HW D
      rintro w3 ⟨HB3, HW3, D3⟩
      obtain ⟨A1, c1, hv⟩ := D3.out.form
      subst hv
      have g0 : w3.drew.cell? ⟨g, 0, none⟩ = some (.slice A1 ((l.take k).map acS).length c1) := D3.out.hg.cell 0
      have a0 : w3.drew.cell? ⟨a, 0, none⟩ = some (.int .i64 u) := HB3.out.cell 0
      have a1 : w3.drew.cell? ⟨a, 1, none⟩ = some (.string ⟨kb.toArray⟩) := HB3.out.cell 1
      obtain ⟨m, hm⟩ : ∃ m, Hid ((l.take k).map acS = m) := ⟨_, Lib.hid rfl⟩
      have HML := Lib.hid (show m.length = k by rw [← hm.out]; simp; rw [HLN.out]; omega)
      rw [hm.out] at D3 g0
      have hbuild : Tryd.prog.built 80 [(0, Value.agg #[.int .i64 u, .string ⟨kb.toArray⟩])] = some #[.int .i64 u, .string ⟨kb.toArray⟩, .int .i64 0] := by kernel_rfl
      obtain ⟨w4, hw4⟩ : ∃ w4, w4 = w3.drew.alloc (.cells #[.int .i64 u, .string ⟨kb.toArray⟩, .int .i64 0] 80) := ⟨_, rfl⟩
      obtain ⟨x, hx⟩ : ∃ x, x = w3.drew.heap.size := ⟨_, rfl⟩
      have hs4 : w4.heap.size = x + 1 := by rw [hw4, hx]; simp
      have hl4 : (ptrs gs).length = m.length := by have := D3.out.len; simp [ptrs, this]
      have hVO : Own 78 (w4.alloc (.cells [Value.pointer (some ⟨x, 0, none⟩)].toArray 78)) w.heap.size (.slice A1 m.length c1) (ptrs gs) := by rw [hw4]; exact (D3.out.vo.drew.alloc _).alloc _
      have hcell : ∀ (j : Nat) (y : Value), [Value.pointer (some ⟨x, 0, none⟩)][j]? = some y → (w4.alloc (.cells [Value.pointer (some ⟨x, 0, none⟩)].toArray 78)).cell? ⟨x + 1, j, none⟩ = some y := fun j y hy => by rw [← hs4]; exact new_cells w4 _ _ j y hy
      have hone : ∀ y ∈ [Value.pointer (some ⟨x, 0, none⟩)], y.oneCell' = true := fun y hy => by rw [List.mem_singleton.1 hy]; rfl
      have hsz : w.heap.size ≤ (w4.alloc (.cells [Value.pointer (some ⟨x, 0, none⟩)].toArray 78)).heap.size := by
        have := HW3.out.size
        simp [hs4, hx]; omega
      have hmk : m.length ≤ 64 := by rw [HML.out]; omega
      obtain ⟨A2, c2, w6, hrun, hown, hgr⟩ := own_append (ty := 75) elemSg hVO (x + 1) 1 1 [Value.pointer (some ⟨x, 0, none⟩)] rfl hcell hone (by rw [hl4]; omega) (by rw [hl4]; omega) hsz
      have hX4 : Blk w4 x 80 (sgC ⟨u, kb, 0⟩) := by rw [hw4, hx]; exact Blk.new _ _ _
      have hX5 : Blk (w4.alloc (.cells [Value.pointer (some ⟨x, 0, none⟩)].toArray 78)) x 80 (sgC ⟨u, kb, 0⟩) := hX4.alloc _
      have hb4 : Below w3.heap.size w3 w4 := by rw [hw4]; exact (show Below w3.heap.size w3 w3.drew from below_drewN (Below.refl _ _) 1).alloc (Nat.le_refl _) _
      have hb5 : Below w3.heap.size w3 (w4.alloc (.cells [Value.pointer (some ⟨x, 0, none⟩)].toArray 78)) := hb4.alloc hb4.size _
      have HG5 := Lib.hid (D3.out.push ⟨u, kb, 0⟩ hX5 (by rw [hx]; exact Nat.le_refl _) (by rw [hx]; exact HW3.out.size) hb5 hown hgr (by omega))
      have HS5 := Lib.hid (show w4.cell? ⟨g, 0, none⟩ = some (.slice A1 m.length c1) ∧ w4.cell? ⟨a, 0, none⟩ = some (.int .i64 u) ∧ w4.cell? ⟨a, 1, none⟩ = some (.string ⟨kb.toArray⟩) from ⟨(D3.out.hg.below hb4 D3.out.hg.lt).cell 0, (HB3.out.below hb4 HB3.out.lt).cell 0, (HB3.out.below hb4 HB3.out.lt).cell 1⟩)
      have HS6 := Lib.hid (show (w4.alloc (.cells [Value.pointer (some ⟨x, 0, none⟩)].toArray 78)).cell? ⟨g, 0, none⟩ = some (.slice A1 m.length c1) ∧ (w4.alloc (.cells [Value.pointer (some ⟨x, 0, none⟩)].toArray 78)).cell? ⟨a, 0, none⟩ = some (.int .i64 u) ∧ (w4.alloc (.cells [Value.pointer (some ⟨x, 0, none⟩)].toArray 78)).cell? ⟨a, 1, none⟩ = some (.string ⟨kb.toArray⟩) from ⟨(D3.out.hg.below hb5 D3.out.hg.lt).cell 0, (HB3.out.below hb5 HB3.out.lt).cell 0, (HB3.out.below hb5 HB3.out.lt).cell 1⟩)
      have hvt := gt_typed (D3.out.below hb5).vo
      have HS7 := Lib.hid (show w6.cell? ⟨g, 0, none⟩ = some (.slice A1 m.length c1) ∧ w6.cell? ⟨a, 0, none⟩ = some (.int .i64 u) ∧ w6.cell? ⟨a, 1, none⟩ = some (.string ⟨kb.toArray⟩) by
        have G6 := (D3.out.hg.below hb5 D3.out.hg.lt).grown hgr (fun e => by obtain ⟨cs, hc⟩ := hvt _ e.symm; exact absurd (gt_type (D3.out.hg.below hb5 D3.out.hg.lt) hc) (by decide))
        have A6 := (HB3.out.below hb5 HB3.out.lt).grown hgr (fun e => by obtain ⟨cs, hc⟩ := hvt _ e.symm; exact absurd (gt_type (HB3.out.below hb5 HB3.out.lt) hc) (by decide))
        exact ⟨G6.cell 0, A6.cell 0, A6.cell 1⟩)
      have FG := Lib.hid (show w6.frozen? ⟨g, 0, none⟩ = false from ((D3.out.hg.below hb5 D3.out.hg.lt).grown hgr (fun e => by obtain ⟨cs, hc⟩ := hvt _ e.symm; exact absurd (gt_type (D3.out.hg.below hb5 D3.out.hg.lt) hc) (by decide))).frozen 0)
      have HB6 := Lib.hid (show Below w.heap.size w w6 from Own.below_grown hVO (HW3.out.trans (hb5.mono HW3.out.size)) hsz hgr)
      have fG := FG.out
      have hrun2 := hrun
      rw [hw4, hx] at hrun2
      have HS5' := HS5
      have HS6' := HS6
      rw [hw4] at HS5'
      rw [hw4, hx] at HS6'
      refine start_ (n := 13) (S := fun w' => w'.cell? ⟨g, 0, none⟩ = some (.slice A1 m.length c1) ∧ w'.cell? ⟨a, 0, none⟩ = some (.int .i64 u) ∧ w'.cell? ⟨a, 1, none⟩ = some (.string ⟨kb.toArray⟩)) (ds := [12]) #[false, false, false, false, false, false, false, false, false, false, false, false, false] (by kernel_rfl) rfl rfl ⟨g0, a0, a1⟩ (fun hHeld => ?_)
      refine with_tabW nw8.tab nw8.bits (fun HT_ HW_ => ?_)
      refine pure_ (i := 0) (N := some 25) (v := ?_) (a' := ?_) #[true, false, false, false, false, false, false, false, false, false, false, false, false] rfl rfl (any_of HT_.out (by kernel_rfl)) (fun _ _ _ h => h) (Or.inl ⟨by rfl, ?_⟩) ?_ ?_
      rotate_left
      · intro w'
        go_simp
        try with_reducible rfl
      rotate_left
      · simp only [Act.put, List.setIfInBounds_toArray, List.set_cons_zero, List.set_cons_succ]
        rfl
      refine pure_ (i := 1) (N := some 26) (v := ?_) (a' := ?_) #[true, true, false, false, false, false, false, false, false, false, false, false, false] rfl rfl (any_of HT_.out (by kernel_rfl)) (fun _ _ _ h => h) (Or.inl ⟨by rfl, ?_⟩) ?_ ?_
      rotate_left
      · intro w'
        go_simp
        try with_reducible rfl
      rotate_left
      · simp only [Act.put, List.setIfInBounds_toArray, List.set_cons_zero, List.set_cons_succ]
        rfl
      refine pure_ (i := 2) (N := some 27) (v := ?_) (a' := ?_) #[true, true, true, false, false, false, false, false, false, false, false, false, false] rfl rfl (any_of HT_.out (by kernel_rfl)) (fun _ _ _ h => h) (Or.inl ⟨by rfl, ?_⟩) ?_ ?_
      rotate_left
      · intro w'
        go_simp
        try with_reducible rfl
      rotate_left
      · simp only [Act.put, List.setIfInBounds_toArray, List.set_cons_zero, List.set_cons_succ]
        rfl
      refine pure_ (i := 3) (N := some 28) (v := ?_) (a' := ?_) #[true, true, true, true, false, false, false, false, false, false, false, false, false] rfl rfl (any_of HT_.out (by kernel_rfl)) (fun _ _ _ h => h) (Or.inl ⟨by rfl, ?_⟩) ?_ ?_
      rotate_left
      · intro w'
        go_simp
        try with_reducible rfl
      rotate_left
      · simp only [Act.put, List.setIfInBounds_toArray, List.set_cons_zero, List.set_cons_succ]
        rfl
      refine take_ (i := 4) (N := some 29) (v := ?_) (a' := ?_) #[true, true, true, true, true, false, false, false, false, false, false, false, false] rfl rfl (take_ofW HT_.out HW_.out (by kernel_rfl)) (fun _ _ _ h => h) (Or.inl ⟨by rfl, ?_⟩) hHeld ?_ ?_
      rotate_left
      · rintro w' ⟨s0, s1, s2⟩
        go_simp
        try with_reducible rfl
      rotate_left
      · simp only [Act.put, List.setIfInBounds_toArray, List.set_cons_zero, List.set_cons_succ]
        rfl
      refine take_ (i := 5) (N := some 30) (v := ?_) (a' := ?_) #[true, true, true, true, true, true, false, false, false, false, false, false, false] rfl rfl (take_ofW HT_.out HW_.out (by kernel_rfl)) (fun _ _ _ h => h) (Or.inl ⟨by rfl, ?_⟩) hHeld ?_ ?_
      rotate_left
      · rintro w' ⟨s0, s1, s2⟩
        go_simp
        try with_reducible rfl
      rotate_left
      · simp only [Act.put, List.setIfInBounds_toArray, List.set_cons_zero, List.set_cons_succ]
        rfl
      refine pure_ (i := 6) (N := some 31) (v := ?_) (a' := ?_) #[true, true, true, true, true, true, true, false, false, false, false, false, false] rfl rfl (any_of HT_.out (by kernel_rfl)) (fun _ _ _ h => h) (Or.inl ⟨by rfl, ?_⟩) ?_ ?_
      rotate_left
      · intro w'
        go_simp
        try with_reducible rfl
      rotate_left
      · simp only [Act.put, List.setIfInBounds_toArray, List.set_cons_zero, List.set_cons_succ]
        rfl
      refine one_ (i := 7) (N := some 32) #[true, true, true, true, true, true, true, true, false, false, false, false, false] rfl rfl (one_of HT_.out (by kernel_rfl)) (by decide) (fun K hK => ?_)
      refine value_ (w1 := ?_) (v := ?_) (by rfl) rfl ?_ ?_
      rotate_left 2
      · go_simp
        constructor
        · rfl
        · rfl
      refine hK.out _ _ HS5'.out (fun hHeld => ?_)
      clear hK K
      refine norm_ (a' := ?_) ?_ ?_
      rotate_left
      · show Act.put _ (some 32) _ = _
        simp only [Act.put, List.setIfInBounds_toArray, List.set_cons_zero, List.set_cons_succ]
        rfl
      refine one_ (i := 8) (N := some 33) #[true, true, true, true, true, true, true, true, true, false, false, false, false] rfl rfl (one_of HT_.out (by kernel_rfl)) (by decide) (fun K hK => ?_)
      refine value_ (w1 := ?_) (v := ?_) (by rfl) rfl ?_ ?_
      rotate_left 2
      · go_simp
        constructor
        · rfl
        · rfl
      refine hK.out _ _ HS6'.out (fun hHeld => ?_)
      clear hK K
      refine norm_ (a' := ?_) ?_ ?_
      rotate_left
      · show Act.put _ (some 33) _ = _
        simp only [Act.put, List.setIfInBounds_toArray, List.set_cons_zero, List.set_cons_succ]
        rfl
      refine one_ (i := 9) (N := some 34) #[true, true, true, true, true, true, true, true, true, true, false, false, false] rfl rfl (one_of HT_.out (by kernel_rfl)) (by decide) (fun K hK => ?_)
      refine step_append_run (by rfl) (.tmp 29) (.tmp 33) 75 75 rfl rfl rfl hrun2 ?_
      refine hK.out _ _ HS7.out (fun hHeld => ?_)
      clear hK K
      refine norm_ (a' := ?_) ?_ ?_
      rotate_left
      · show Act.put _ (some 34) _ = _
        simp only [Act.put, List.setIfInBounds_toArray, List.set_cons_zero, List.set_cons_succ]
        rfl
      refine pure_ (i := 10) (N := some 35) (v := ?_) (a' := ?_) #[true, true, true, true, true, true, true, true, true, true, true, false, false] rfl rfl (any_of HT_.out (by kernel_rfl)) (fun _ _ _ h => h) (Or.inl ⟨by rfl, ?_⟩) ?_ ?_
      rotate_left
      · intro w'
        go_simp
        try with_reducible rfl
      rotate_left
      · simp only [Act.put, List.setIfInBounds_toArray, List.set_cons_zero, List.set_cons_succ]
        rfl
      refine pure_ (i := 11) (N := some 36) (v := ?_) (a' := ?_) #[true, true, true, true, true, true, true, true, true, true, true, true, false] rfl rfl (any_of HT_.out (by kernel_rfl)) (fun _ _ _ h => h) (Or.inl ⟨by rfl, ?_⟩) ?_ ?_
      rotate_left
      · intro w'
        go_simp
        try with_reducible rfl
      rotate_left
      · simp only [Act.put, List.setIfInBounds_toArray, List.set_cons_zero, List.set_cons_succ]
        rfl
      refine last_ (i := 12) (N := none) #[true, true, true, true, true, true, true, true, true, true, true, true, true] rfl rfl (one_of HT_.out (by kernel_rfl)) (by decide) (fun K hK => ?_)
      refine skip_ (w1 := ?_) (by rfl) rfl ?_ ?_
      rotate_left
      · go_simp
        try rfl
      refine hK.out _ _ ?_
      clear hK K
      refine done_ (done_of HT_.out (by kernel_rfl)) ?_
      clear HT_ HW_
      rw [hl4] at HG5
      have HC := Lib.hid (show (l.take (k + 1)).map acS = m ++ [⟨u, kb, 0⟩] by
        rw [List.take_add_one, HX.out, List.map_append, hm.out]; rfl)
      clear hHeld fG hrun hrun2 hown hgr hvt HS7 HS6 HS5 HS6' HS5' FG hb4 hb5 hX4 hX5 hsz hone hcell hVO g0 a0 a1 hw4 hbuild hx
      go_wp2_with fail
      go_roundg (n - k)
      case measure => omega
      case rel => exact ⟨k + 1, _, _, by omega, by omega, by go_num, Lib.hid (HB6.out.setCell D3.out.bg _), by rw [HC.out]; exact HG5⟩
    · obtain rfl : k = n := by omega
      have hq : gk = 1 := by omega
      subst hq
      have HF := Lib.hid (show l.take k = l from List.take_of_length_le (by rw [HLN.out]; exact Nat.le_refl _))
      clear hlt hk2 hk
      go_wp2_with fail
      go_ret2
      exact ⟨g, v', gs, by rfl, by have := D.out; rw [HF.out] at this; exact this, HW.out⟩
end Go.Proofs.YtjmgkjjcdnaapaaDoor
namespace Go.Proofs.YtjmgkjjcdnaapaaDoor
open Go.RowKit Go.Proofs.YtjmgkjjcdnaapaaDoorW.PrintWords Go.Proofs.YtjmgkjjcdnaapaaDoorW.PrintLast
set_option linter.unusedSimpArgs false
set_option linter.unusedVariables false
theorem elemU8 : Elem Tryd.prog 61 5 (.int .u8 0) 1 := ⟨Tryd.underlying61, by kernel_rfl, by rfl⟩
theorem someB_no {a : S68} (h : someB a = false) : a.f0.toList = [] ∧ a.f1.toList = [] := by
  unfold someB at h
  simpa using h
end Go.Proofs.YtjmgkjjcdnaapaaDoor
namespace Go.Proofs.YtjmgkjjcdnaapaaDoor.PMailA
open Go.RowKit Go.Proofs.YtjmgkjjcdnaapaaDoorW.PrintWords Go.Proofs.YtjmgkjjcdnaapaaDoorW.PrintLast Go.Proofs.YtjmgkjjcdnaapaaDoorW.PrintMore
attribute [local go_sem] max2_int min2_int max_two min_two max_three min_three max_four min_four   -- for this text's walks alone
set_option linter.unusedVariables false
set_option linter.unusedSimpArgs false



def errW : Option Int → Value
  | none => .nilIface
  | some c => .iface 0 (.int .i64 c)
theorem errW_none : errW none = .nilIface := rfl
theorem errW_some (c : Int) : errW (some c) = .iface 0 (.int .i64 c) := rfl

end Go.Proofs.YtjmgkjjcdnaapaaDoor.PMailA
namespace Go.Proofs.YtjmgkjjcdnaapaaDoor.PMailA
open Go.RowKit Go.Proofs.YtjmgkjjcdnaapaaDoorW.PrintWords Go.Proofs.YtjmgkjjcdnaapaaDoorW.PrintLast Go.Proofs.YtjmgkjjcdnaapaaDoorW.PrintMore
attribute [local go_sem] max2_int min2_int max_two min_two max_three min_three max_four min_four   -- for this text's walks alone
set_option linter.unusedVariables false
set_option linter.unusedSimpArgs false

theorem eqA68 (d : Nat) (w : World) (x0 y0 : ByteArray) (x1 y1 : ByteArray) :
    (Op.equalIn (d + 2) 68 (.agg #[.string x0, .string x1]) (.agg #[.string y0, .string y1])).run Tryd.prog w = .ok (x0.toList == y0.toList && (x1.toList == y1.toList)) w := by
  refine eqA_of Tryd.underlying68 (by kernel_rfl) ?_
  refine eqf_cons (by rfl) (by go_simp; rfl) (by go_simp; rfl) (by go_simp) ?_
  exact eqf_last (by rfl) (by go_simp; rfl) (by go_simp; rfl) (by go_simp)
end Go.Proofs.YtjmgkjjcdnaapaaDoor.PMailA

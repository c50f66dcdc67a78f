/- Words of this session for memory and for machine words: a block known whole, only one block has turned, 32-bit words as BitVec 32, bytes as UInt8. From a law's walk ('returns true; below the call's own memory nothing has turned') to its row: what is alike for every law of a seat. SHA-256 as plain functions on lists of 32-bit words and bytes, in the program's own order of work; no program in sight. The walks of package hash's inner functions: words.at, words.grow, hasher.mix. The walk of package hash's hasher.mix. The walks of package hash's hasher.take, begin, eight. The walks of package hash's begin, eight, hasher.end. The walk of package hash's hasher.end. The walks of package hash's Sum, Bind, Short. Words of this session for a slice that the call itself made: append, make, store, read, 'string(b)', each as the equation of its run. Bytes at hand: a row of bytes that '[]byte(s)' made, read and written in place. Arrays loaded and stored whole, also in the middle of a block: by blocks known whole. 'copy(b, s)', b a row that the call made, s a text; texts made so long. A disk as plain data, and where it lies in memory. Rows of sectors and of waits, as cells: read and set by their places. A disk's calls that change its scalars alone: there, Size, Waits, burn, Fuse, Sync. A disk's Read. A wait, built, boxed, and put into a fresh row: the laws of these operations with the cells as a list. A disk's Write. DERIVED: THE SHELF's CONTRACTS AT THIS DUMP, IN PLAIN WORDS (tools/lay-plain.mjs out of 'TrydShelf.lean', which tools/lay-shelf.mjs wrote): THE SAME DECLARATIONS UNDER THE SAME NAMES: 'import', 'namespace', 'open', 'def', 'theorem' AND NOTHING ELSE: no command of the shelf's: FOR A HAND-IN. Each laying: the table of numbers ('.._ren') and one theorem, a field a fact of the dump's own or the kernel's comparison; each contract: ONE APPLICATION. A new disk; a text made 64 long; a number among n. A disk's Crash. The walks of hash.Short. What laws over hash share: the table below a call, slice literals of texts, joined texts. An append to a slice that the call made, whatever the region: what stood in it stands as it did; as one step of a region that draws. An append of any slice's elements (wherever they lie) to a slice that the call made; of none; a made slice without elements. Slices of texts: what the call made, what it read, a copy. A slice literal as the call's own; an append of whatever slice of texts to it. The log, plainly; its small functions. The log: a head's generation. The log: a half's sectors read, written, cleaned. Windows: rows of the call's own that begin anywhere in their block (a queue that forgets its oldest). The log in memory; a record that was taken. The log: a record is put. The log: a half is begun. The log, plainly: records found in bytes; what a half's bytes are. The log, plainly: what its calls do where the disk is up and no fuse burns. strings.Builder of the call's own: copyCheck, WriteByte walked; String by the library's contract (Derived.Shelf.Strings.Builder1). strings.Builder of the call's own: Len, WriteString walked; a builder behind a call, behind a new block. -/
import Derived.WalkKit
import Derived.Below
import Derived.Deep.Draws
import Derived.Deep.QuietTactic
import Derived.BigQuiet
import Derived.StillTailTactics
import Derived.IntWalk
import Derived.Laws.BitsAllLaws
import Derived.Laws.Rows
import Derived.Laws.CopyRow
import Derived.Laws.BytesArg
import Derived.Lib.Hide
import Derived.Test.YteajpebkanamgaaDoorProg
import Derived.ProofKit
import Derived.OpenShut
import Derived.ChangeSame
import Derived.Carry
import Derived.SliceStrings
import Derived.SizedLaws
import Derived.Deep.DeepHandedRow
import Derived.Lib.LaidTab
import Derived.Outline
import Derived.Deep.LoopGhost
import Derived.Lib.AppendStr
import Derived.Laws.OwnMore
import Derived.OwnWalk
import Derived.Deep.MidRow
import Derived.Test.YteajpebkanamgaaDoorWWords
import Derived.Test.YteajpebkanamgaaDoorWLast
import Derived.Test.YteajpebkanamgaaDoorWTab
import Derived.Great.BuildSlice
import Derived.Deep.DeepCutAuto
import Derived.Deep.CutBlock
import Derived.Shelf.Strings.Prefix
import Derived.Shelf.Strings.Repeat
import Derived.Shelf.Slices.Turned
import Derived.Ground.Names2Prog
import Derived.Shelf.Slices.Clone
import Derived.Ground.SlgfProg
import Derived.Shelf.SlicesE.IndexFunc
import Derived.Deep.Cut
import Derived.Deep.AppendSrc
import Derived.Shelf.Strings.Builder1
namespace Go.Proofs.YteajpebkanamgaaDoor
open Go.RowKit

/-! ### blocks -/
def Blk (w : World) (g : Nat) (t : TypeId) (cs : Array Value) : Prop := w.heap[g]? = some (.cells cs t (0, 0))

section
variable {w w' : World} {g : Nat} {t : TypeId} {cs : Array Value}
theorem Blk.lt (h : Blk w g t cs) : g < w.heap.size := by
  rcases Nat.lt_or_ge g w.heap.size with hlt | hge
  · exact hlt
  · unfold Blk at h; rw [Array.getElem?_eq_none hge] at h; cases h
theorem Blk.cell (h : Blk w g t cs) (i : Nat) : w.cell? ⟨g, i, none⟩ = cs[i]? := cell_of_row w g i cs t (0, 0) h
theorem Blk.frozen (h : Blk w g t cs) (i : Nat) : w.frozen? ⟨g, i, none⟩ = false := by
  unfold Blk at h
  simp [World.frozen?, h]
theorem Blk.new (w : World) (t : TypeId) (cs : Array Value) : Blk (w.alloc (.cells cs t)) w.heap.size t cs := heap_alloc_new w _
theorem Blk.drew (h : Blk w g t cs) : Blk w.drew g t cs := h
theorem Blk.drewN (h : Blk w g t cs) (n : Nat) : Blk (w.drewN n) g t cs := h
theorem Blk.alloc (h : Blk w g t cs) (o : Obj) : Blk (w.alloc o) g t cs := (Below.heap_alloc w o g h.lt).trans h
theorem Blk.set_ (h : Blk w g t cs) (i : Nat) (u : Value) : Blk (w.setCell ⟨g, i, none⟩ u) g t (cs.setIfInBounds i u) := by
  unfold Blk at h ⊢
  simp [World.setCell, Array.getElem?_modify, h]
theorem Blk.far (h : Blk w g t cs) {p : Addr} (hp : g ≠ p.block) (u : Value) : Blk (w.setCell p u) g t cs := (Below.heap_setCell w p u g hp).trans h
theorem Blk.below {B : Nat} (h : Blk w g t cs) (hb : Below B w w') (hg : g < B) : Blk w' g t cs := (hb.block g hg).trans h
theorem Blk.grown {row : Option Nat} (h : Blk w g t cs) (hb : w.grownBy w' row) (hg : some g ≠ row) : Blk w' g t cs := (hb.block g h.lt hg).trans h
end

theorem below_drewN {B : Nat} {a w : World} (h : Below B a w) (n : Nat) : Below B a (w.drewN n) := ⟨h.os, h.tape, h.output, h.size, h.block⟩
theorem only_refl (w : World) (row : Option Nat) : w.grownBy w row := ⟨rfl, rfl, rfl, Nat.le_refl _, fun _ _ _ => rfl⟩
theorem only_trans {a b c : World} {row : Option Nat} (h : a.grownBy b row) (k : b.grownBy c row) : a.grownBy c row :=
  ⟨k.os.trans h.os, k.tape.trans h.tape, k.output.trans h.output, Nat.le_trans h.size k.size, fun i hi hn => (k.block i (Nat.lt_of_lt_of_le hi h.size) hn).trans (h.block i hi hn)⟩
theorem only_drewN {a w : World} {row : Option Nat} (h : a.grownBy w row) (n : Nat) : a.grownBy (w.drewN n) row := ⟨h.os, h.tape, h.output, h.size, h.block⟩
theorem only_drew {a w : World} {row : Option Nat} (h : a.grownBy w row) : a.grownBy w.drew row := ⟨h.os, h.tape, h.output, h.size, h.block⟩
theorem only_alloc {a w : World} {row : Option Nat} (h : a.grownBy w row) (o : Obj) : a.grownBy (w.alloc o) row :=
  ⟨h.os, h.tape, h.output, Nat.le_trans h.size (by simp), fun i hi hne => (Below.heap_alloc w o i (Nat.lt_of_lt_of_le hi h.size)).trans (h.block i hi hne)⟩
theorem only_set {a w : World} {g : Nat} (h : a.grownBy w (some g)) {p : Addr} (hp : p.block = g ∨ a.heap.size ≤ p.block) (u : Value) : a.grownBy (w.setCell p u) (some g) :=
  ⟨h.os, h.tape, h.output, by simpa [World.setCell] using h.size, fun i hi hne => (Below.heap_setCell w p u i (by
    rintro rfl
    rcases hp with hp | hp
    · exact hne (by rw [hp])
    · omega)).trans (h.block i hi hne)⟩
/-- a block that is new since a: what turns in it does not count. -/
theorem only_new {a w w' : World} {row : Option Nat} {g : Nat} (h : a.grownBy w row) (k : w.grownBy w' (some g)) (hg : a.heap.size ≤ g) : a.grownBy w' row :=
  ⟨k.os.trans h.os, k.tape.trans h.tape, k.output.trans h.output, Nat.le_trans h.size k.size, fun i hi hn => (k.block i (Nat.lt_of_lt_of_le hi h.size) (by
    intro e
    injection e with e
    omega)).trans (h.block i hi hn)⟩
theorem only_of_below {a w w' : World} {row : Option Nat} (h : a.grownBy w row) (k : Below w.heap.size w w') : a.grownBy w' row :=
  ⟨k.os.trans h.os, k.tape.trans h.tape, k.output.trans h.output, Nat.le_trans h.size k.size, fun i hi hn => (k.block i (Nat.lt_of_lt_of_le hi h.size)).trans (h.block i hi hn)⟩
theorem below_of_only {B : Nat} {a w w' : World} {g : Nat} (h : Below B a w) (k : w.grownBy w' (some g)) (hg : B ≤ g) (hB : B ≤ w.heap.size) : Below B a w' :=
  ⟨k.os.trans h.os, k.tape.trans h.tape, k.output.trans h.output, Nat.le_trans h.size k.size, fun i hi => (k.block i (Nat.lt_of_lt_of_le hi hB) (by
    intro e
    injection e with e
    omega)).trans (h.block i hi)⟩

theorem Blk.setRow {w : World} {g : Nat} {t : TypeId} {cs : Array Value} (h : Blk w g t cs) (cs' : Array Value) : Blk (w.setRow g cs') g t cs' := setRow_heap w g cs cs' t (0, 0) h
theorem heap_setRow_other (w : World) (g : Nat) (cs : Array Value) (k : Nat) (h : k ≠ g) : (w.setRow g cs).heap[k]? = w.heap[k]? := by
  unfold World.setRow
  simp [Array.getElem?_modify, Ne.symm h]
theorem only_setRow {a w : World} {g : Nat} (h : a.grownBy w (some g)) (cs : Array Value) : a.grownBy (w.setRow g cs) (some g) :=
  ⟨h.os, h.tape, h.output, by simpa using h.size, fun i hi hne => (heap_setRow_other w g cs i (fun e => hne (by rw [e]))).trans (h.block i hi hne)⟩

/-- a region that draws, reads, and ends in one forced tail: in the spelling 'w.drew'. -/
theorem still_tail {P : Program} {id : Nat} {Q : Exit → Act → World → Prop} {a : Act} {w : World} {l : List Oper} (n : Nat) (hm : P.follows .mixedOrders = true) (hB : Region.lexTailB .any l.toArray n = true)
    (h : wpStill P l.toArray w.drew (fun a' => wpList P l.toArray Q (l.drop n) a' w.drew) (l.take n) a) : (Code.region id l.toArray true).wp P Q a w := wp_region_still_tail n hm hB h

theorem quiet_add_same {P : Program} {f : FuncId} {args : Array Value} {w : World} {a n : Nat} {v : Value}
    (h : Calls P f args (w.drewN (a + n)) fun e w' => e = .returned v ∧ w' = w.drewN (a + n)) :
    Calls P f args (w.drewN (a + n)) fun e w'' => e = .returned v ∧ ∃ m, w'' = w.drewN (a + m) :=
  h.mono fun _ _ ⟨he, hm⟩ => ⟨he, n, hm⟩

/-! ### words -/
theorem wrap_u64e (n : Int) : IntKind.u64.wrap n = n % 18446744073709551616 := by simp [IntKind.wrap, IntKind.bits, IntKind.signed]
/-- a word as the machine's number; its own name, so that no rule of the walk's turns it. -/
def n32 (x : BitVec 32) : Int := x.toNat
theorem v32_add (x y : BitVec 32) : (n32 x + n32 y) % 4294967296 = n32 (x + y) := by
  unfold n32; rw [BitVec.toNat_add]; omega
theorem v32_xor (x y : BitVec 32) : bits .xor .u32 (n32 x) (n32 y) = n32 (x ^^^ y) := by
  unfold n32; rw [u32_xor_nat _ _ x.isLt y.isLt, BitVec.toNat_xor]
theorem v32_or (x y : BitVec 32) : bits .or .u32 (n32 x) (n32 y) = n32 (x ||| y) := by
  unfold n32; rw [u32_or_nat _ _ x.isLt y.isLt, BitVec.toNat_or]
theorem v32_and (x y : BitVec 32) : bits .and .u32 (n32 x) (n32 y) = n32 (x &&& y) := by
  unfold n32; rw [u32_and_nat _ _ x.isLt y.isLt, BitVec.toNat_and]
theorem v32_shr_nat (x : BitVec 32) (n : Nat) : n32 x / (2 ^ n : Nat) = n32 (x >>> n) := by
  unfold n32; rw [BitVec.toNat_ushiftRight, Nat.shiftRight_eq_div_pow]; omega
theorem v32_shl_nat (x : BitVec 32) (n : Nat) : (n32 x * (2 ^ n : Nat)) % 4294967296 = n32 (x <<< n) := by
  unfold n32
  rw [BitVec.toNat_shiftLeft, Nat.shiftLeft_eq, ← Int.natCast_mul]
  generalize x.toNat * 2 ^ n = m
  omega
theorem v32_shr3 (x : BitVec 32) : n32 x / (8 : Int) = n32 (x >>> 3) := v32_shr_nat x 3
theorem v32_shr10 (x : BitVec 32) : n32 x / (1024 : Int) = n32 (x >>> 10) := v32_shr_nat x 10
theorem v32_shl8 (x : BitVec 32) : n32 x * (256 : Int) % (4294967296 : Int) = n32 (x <<< 8) := v32_shl_nat x 8
def bd (l : List UInt8) (i : Nat) : UInt8 := l.getD i 0
/-- a byte as the machine's number. -/
def n8 (b : UInt8) : Int := b.toNat
theorem n8_bd (x : UInt8) : 0 ≤ n8 x ∧ n8 x < 256 := ⟨by unfold n8; omega, by unfold n8; have := x.toNat_lt; omega⟩
/-- a byte as a word. -/
def u8w (b : UInt8) : BitVec 32 := BitVec.ofNat 32 b.toNat
theorem u8w_n32 (b : UInt8) : n32 (u8w b) = n8 b := by
  unfold n32 n8 u8w; rw [BitVec.toNat_ofNat, Nat.mod_eq_of_lt (by have := b.toNat_lt; omega)]
theorem n8_m32 (b : UInt8) : n8 b % (4294967296 : Int) = n32 (u8w b) := by rw [u8w_n32]; have := n8_bd b; omega
/-- the lowest byte of a word. -/
def w8 (x : BitVec 32) : UInt8 := UInt8.ofNat x.toNat
theorem w8_n8 (x : BitVec 32) : n32 x % 256 = n8 (w8 x) := by
  unfold n32 n8 w8; simp
/-- a shift by a count within the width, as the walk has it. -/
theorem v32_shl_var (x : BitVec 32) (c : Int) (k : Nat) (hc : c = k) (hk : k ≤ 32) : IntKind.u32.wrap (n32 x * 2 ^ min c.toNat 32) = n32 (x <<< k) := by
  subst hc
  rw [IntKind.wrap_u32', Int.toNat_natCast, Nat.min_eq_left hk, ← v32_shl_nat, Int.natCast_pow]
  rfl
theorem v32_shr_var (x : BitVec 32) (c : Int) (k : Nat) (hc : c = k) (hk : k ≤ 32) : n32 x / 2 ^ min c.toNat 32 = n32 (x >>> k) := by
  subst hc
  rw [Int.toNat_natCast, Nat.min_eq_left hk, ← v32_shr_nat, Int.natCast_pow]
  rfl
/-- bytes as cells. -/
def cb (l : List UInt8) : List Value := l.map fun x => .int .u8 (n8 x)
/-- 'copy(dst, s)', dst lying in a block that is known whole. -/
theorem run_copy_str {P : Program} (w : World) (dT sT ty elem : TypeId) (g o dLen dCap : Nat) (l : List UInt8) (cur : Array Value) (t : TypeId) (m : Nat)
    (hu : P.underlying dT = some (.slice elem)) (hs : (P.info? elem).map (·.size) = some 1) (hg : Blk w g t cur) (hm : m = Nat.min l.length dLen) (hfit : o + m ≤ cur.size) :
    (Builtin.copy_ #[dT, sT] ty #[.slice (some ⟨g, o, none⟩) dLen dCap, .string ⟨l.toArray⟩]).run P w =
      .ok (goInt m) (w.setRow g (cur.toList.take o ++ cb (l.take m) ++ cur.toList.drop (o + m)).toArray) := by
  have hlen : (cb (l.take m)).length = m := by rw [hm]; simp [cb, Nat.min_def]; split <;> omega
  have hst := run_storeCells_at (P := P) g o t (cb (l.take m)) 0 cur w hg (by rw [hlen]; simpa using hfit) (by
    intro v hv
    obtain ⟨b, _, rfl⟩ := List.mem_map.1 hv
    rfl)
  rw [hlen] at hst
  simp only [Nat.add_zero] at hst
  have htk : List.take m (List.map (fun b : UInt8 => Value.int IntKind.u8 (b.toNat : Int)) l) = cb (l.take m) := by
    rw [← List.map_take]; rfl
  cases hq : P.info? elem with
  | none => simp [hq] at hs
  | some i =>
    have hsz : (⟨l.toArray⟩ : ByteArray).size = l.length := by simp [ByteArray.size]
    simp [Builtin.copy_, run_underlying hu, Builtin.lenOf, Builtin.firstCells, sizeOf, typeInfo, hq, hsz, ← hm]
    rw [htk, hst]
    simp [Result.andThen]
theorem strOfNums_n8 (l : List UInt8) : strOfNums (l.map n8) = ⟨l.toArray⟩ := by
  unfold strOfNums
  rw [List.map_map]
  congr 2
  rw [show ((fun n : Int => UInt8.ofNat n.toNat) ∘ n8) = id from by
    funext b
    simp [n8]]
  simp
/-- 'string(b)', b a slice over bytes that are known. -/
theorem run_bytes_cells {P : Program} (w : World) (src dst e : TypeId) (hs : P.underlying src = some (.slice e)) (he : P.underlying e = some (.int .u8)) (hd : P.underlying dst = some .string)
    (g off cap : Nat) (l : List UInt8) (n : Nat) (hn : l.length = n) (hc : ∀ i, i < n → w.cell? ⟨g, off + i, none⟩ = some (.int .u8 (n8 (bd l i)))) :
    (convert src dst (.slice (some ⟨g, off, none⟩) n cap)).run P w = .ok (.string ⟨l.toArray⟩) w := by
  have := run_convert_bytes_arg (P := P) (w := w) src e hs he g off n cap (l.map n8) (by simpa using hn) (by
    intro i hi
    rw [hc i hi]
    simp [bd, List.getElem?_eq_getElem (show i < l.length by omega)]) dst hd
  rw [this, strOfNums_n8]
theorem cb_get (l : List UInt8) (i : Nat) (h : i < l.length) : (cb l).toArray[i]? = some (.int .u8 (n8 (bd l i))) := by
  simp [cb, bd, List.getElem?_eq_getElem h]
theorem cb_set (l : List UInt8) (i : Nat) (x : UInt8) : (cb l).toArray.setIfInBounds i (.int .u8 (n8 x)) = (cb (l.set i x)).toArray := by
  simp [cb, List.map_set]
theorem n8_shr (n k : Nat) : ((n : Int) / 2 ^ k) % 256 = n8 (UInt8.ofNat (n / 2 ^ k)) := by
  unfold n8
  rw [UInt8.toNat_ofNat']
  have : ((2 : Int) ^ k) = ((2 ^ k : Nat) : Int) := by rw [Int.natCast_pow]; rfl
  rw [this]
  omega
theorem extract_eq (l : List UInt8) (m : Nat) : (⟨l.toArray⟩ : ByteArray).extract m l.length = ⟨(l.drop m).toArray⟩ := by
  apply ByteArray.ext
  rw [ByteArray.data_extract]
  simp [List.take_of_length_le]
end Go.Proofs.YteajpebkanamgaaDoor
namespace Go.Proofs.YteajpebkanamgaaDoor
open Go.ChangeShapes Go.WideShapes Go.ChangeAt Go.RowKit
open Go.ChangeMaps (open_string shut_string)
set_option linter.unusedSimpArgs false
set_option linter.unusedVariables false

theorem own : ownKnob Tryd.prog.godebug = none := by kernel_rfl
theorem laidOut : laidOutB Tryd.prog = true := by kernel_rfl

theorem trodAll_below {H : Type} {enc : TypeId × Value → H} {P : Program} (hl : laidOutB P = true) {W W' : World} (hb : Below W.heap.size W W') :
    ∀ (ts : List TypeId) (vs : List Value) (ds : List (DataW H)) (ps : List MemPlace), (∀ t ∈ ts, P.readableRec t = true ∧ t < P.types.size) →
      DataW.TrodAll enc P W 0 (fun _ => true) true ts vs ds ps → (∀ x ∈ ps, x.block < W.heap.size) → DataW.TrodAll enc P W' 0 (fun b => decide (b < W.heap.size)) true ts vs ds ps
  | [], vs, ds, ps, _, h, _ => by
    obtain ⟨rfl, rfl, rfl⟩ := trodAll_nil h
    exact trodAll_mk0
  | t :: ts, vs, ds, ps, ht, h, hlt => by
    obtain ⟨v, vs, d, ds, p, q, rfl, rfl, rfl, h0, hr⟩ := trodAll_cons h
    obtain ⟨h1, h2⟩ := ht t (List.mem_cons_self ..)
    exact trodAll_cons_mk (Below.trod hl h1 h2 h0 hb (fun x hx => hlt x (List.mem_append.2 (.inl hx))))
      (trodAll_below hl hb ts vs ds q (fun t' h' => ht t' (List.mem_cons_of_mem _ h')) hr (fun x hx => hlt x (List.mem_append.2 (.inr hx))))

/-- A LAW's POST: true, the arguments read as they did, nothing old has turned. -/
theorem post_law {H : Type} {enc : TypeId × Value → H} {P : Program} {f : Func} {s : ChangeSpec} {apart fresh handsOn : Bool} {W W' : World} {args : Array Value} {ds gs : List (DataW H)} {before : List MemPlace}
    (hl : laidOutB P = true) (hts : ∀ t ∈ f.params.toList, P.readableRec t = true ∧ t < P.types.size)
    (hW : DataW.Whole enc P f.params.toList s.vars apart W args.toList ds gs before) (hv : s.vars = []) (b : TypeId) (hb1 : f.resultTypes = #[b]) (hb2 : P.underlying b = some .bool)
    (hf1 : (s.fn H (ds ++ gs)).results = [.lit (.bool true)]) (hf2 : (s.fn H (ds ++ gs)).args = ds) (hf3 : (s.fn H (ds ++ gs)).vars = []) (hb : Below W.heap.size W W') :
    s.post enc P f apart fresh handsOn false W args (.bool true) W' := by
  have hW' := hW
  have hlt : ∀ x ∈ before, x.block < W.heap.size := fun x hx => hW.lt x hx
  obtain ⟨p, q, hA0, hV, hpq, hfz, hnd⟩ := hW
  have hA : DataW.TrodAll enc P W 0 (fun _ => true) true f.params.toList args.toList ds p := hA0
  rw [hv] at hV
  obtain ⟨rfl, rfl⟩ := trodVars_none hV
  refine ⟨ds, [], before, [], p, [], hW', ?_, ?_, ?_, hb.frame _, fun h => by cases h⟩
  · rw [hf1, hb1]
    exact trodAll_mk1 (shut_bool hb2 _)
  · rw [hf2]
    refine trodAll_below hl hb _ _ _ _ hts hA (fun x hx => hlt x ?_)
    rw [hpq]
    exact List.mem_append.2 (.inl hx)
  · rw [hv, hf3]
    rfl

/-! ### opening arguments -/
section
variable {H : Type} {enc : TypeId × Value → H} {P : Program} {w : World} {base : Nat} {sp : Nat → Bool} {held : Bool} {r : Reach} {b0 : Nat} {t : TypeId} {v : Value} {d : DataW H} {ps : List MemPlace}
end
end Go.Proofs.YteajpebkanamgaaDoor
namespace Go.Proofs.YteajpebkanamgaaDoor
set_option maxRecDepth 100000

def ksL : List (BitVec 32) := [0x428a2f98#32, 0x71374491#32, 0xb5c0fbcf#32, 0xe9b5dba5#32, 0x3956c25b#32, 0x59f111f1#32, 0x923f82a4#32, 0xab1c5ed5#32,
  0xd807aa98#32, 0x12835b01#32, 0x243185be#32, 0x550c7dc3#32, 0x72be5d74#32, 0x80deb1fe#32, 0x9bdc06a7#32, 0xc19bf174#32,
  0xe49b69c1#32, 0xefbe4786#32, 0x0fc19dc6#32, 0x240ca1cc#32, 0x2de92c6f#32, 0x4a7484aa#32, 0x5cb0a9dc#32, 0x76f988da#32,
  0x983e5152#32, 0xa831c66d#32, 0xb00327c8#32, 0xbf597fc7#32, 0xc6e00bf3#32, 0xd5a79147#32, 0x06ca6351#32, 0x14292967#32,
  0x27b70a85#32, 0x2e1b2138#32, 0x4d2c6dfc#32, 0x53380d13#32, 0x650a7354#32, 0x766a0abb#32, 0x81c2c92e#32, 0x92722c85#32,
  0xa2bfe8a1#32, 0xa81a664b#32, 0xc24b8b70#32, 0xc76c51a3#32, 0xd192e819#32, 0xd6990624#32, 0xf40e3585#32, 0x106aa070#32,
  0x19a4c116#32, 0x1e376c08#32, 0x2748774c#32, 0x34b0bcb5#32, 0x391c0cb3#32, 0x4ed8aa4a#32, 0x5b9cca4f#32, 0x682e6ff3#32,
  0x748f82ee#32, 0x78a5636f#32, 0x84c87814#32, 0x8cc70208#32, 0x90befffa#32, 0xa4506ceb#32, 0xbef9a3f7#32, 0xc67178f2#32]
def iv : List (BitVec 32) := [0x6a09e667#32, 0xbb67ae85#32, 0x3c6ef372#32, 0xa54ff53a#32, 0x510e527f#32, 0x9b05688c#32, 0x1f83d9ab#32, 0x5be0cd19#32]

/-- turned to the right by n, as the code has it: to the left by 32 - n. -/
def rr (x : BitVec 32) (n : Nat) : BitVec 32 := x <<< (32 - n) ||| x >>> n
def sig0 (x : BitVec 32) : BitVec 32 := rr x 7 ^^^ rr x 18 ^^^ x >>> 3
def sig1 (x : BitVec 32) : BitVec 32 := rr x 17 ^^^ rr x 19 ^^^ x >>> 10
def wd (L : List (BitVec 32)) (i : Nat) : BitVec 32 := L.getD i 0
def growW (L : List (BitVec 32)) (i : Nat) : List (BitVec 32) :=
  L.set (i % 16) (wd L (i % 16) + (sig0 (wd L ((i - 15) % 16)) + wd L ((i - 7) % 16) + sig1 (wd L ((i - 2) % 16))))
def loadW (r : List UInt8) : Nat → List (BitVec 32)
  | 0 => List.replicate 16 0
  | k + 1 => (loadW r k).set (k / 4) (wd (loadW r k) (k / 4) <<< 8 ||| u8w (bd r k))
structure R8 where
  (a b c d e f g k : BitVec 32)
def R8.list (s : R8) : List (BitVec 32) := [s.a, s.b, s.c, s.d, s.e, s.f, s.g, s.k]
def R8.of (v : List (BitVec 32)) : R8 := ⟨wd v 0, wd v 1, wd v 2, wd v 3, wd v 4, wd v 5, wd v 6, wd v 7⟩
def rndT (s : R8) (ki wi : BitVec 32) : BitVec 32 := s.k + (rr s.e 6 ^^^ rr s.e 11 ^^^ rr s.e 25) + (s.g ^^^ s.e &&& (s.f ^^^ s.g)) + ki + wi
def rndU (s : R8) : BitVec 32 := (rr s.a 2 ^^^ rr s.a 13 ^^^ rr s.a 22) + (s.a &&& s.b ||| s.c &&& (s.a ||| s.b))
def rnd (s : R8) (t u : BitVec 32) : R8 := ⟨t + u, s.a, s.b, s.c, s.d + t, s.e, s.f, s.g⟩
def atRound (W : List (BitVec 32)) (i : Nat) : List (BitVec 32) := if 16 ≤ i then growW W i else W
def rounds (s : R8) (W : List (BitVec 32)) : Nat → R8 × List (BitVec 32)
  | 0 => (s, W)
  | i + 1 =>
    let p := rounds s W i
    let W' := atRound p.2 i
    (rnd p.1 (rndT p.1 (wd ksL i) (wd W' (i % 16))) (rndU p.1), W')
def addTo (v x : List (BitVec 32)) : Nat → List (BitVec 32)
  | 0 => v
  | i + 1 => (addTo v x i).set i (wd (addTo v x i) i + wd x i)
def mixv (v : List (BitVec 32)) (r : List UInt8) : List (BitVec 32) := addTo v (rounds (R8.of v) (loadW r 64) 64).1.list 8

/-- a hasher: eight words, what waits, and how much of that. -/
structure St where
  v : List (BitVec 32)
  r : List UInt8
  n : Nat
def St.ok (s : St) : Prop := s.v.length = 8 ∧ s.r.length = 64 ∧ s.n < 64
def St.okL (s : St) : Prop := s.v.length = 8 ∧ s.r.length = 64
theorem St.ok.l {s : St} (h : s.ok) : s.okL := ⟨h.1, h.2.1⟩
def push (s : St) (b : UInt8) : St := if s.n + 1 = 64 then ⟨mixv s.v (s.r.set s.n b), s.r.set s.n b, 0⟩ else ⟨s.v, s.r.set s.n b, s.n + 1⟩
def pushes (s : St) (l : List UInt8) : St := l.foldl push s
def st0 : St := ⟨iv, List.replicate 64 0, 0⟩
def eightL (n : Nat) : List UInt8 := [UInt8.ofNat (n / 2 ^ 56), UInt8.ofNat (n / 2 ^ 48), UInt8.ofNat (n / 2 ^ 40), UInt8.ofNat (n / 2 ^ 32), UInt8.ofNat (n / 2 ^ 24), UInt8.ofNat (n / 2 ^ 16), UInt8.ofNat (n / 2 ^ 8), UInt8.ofNat n]
def wordL (x : BitVec 32) : List UInt8 := [w8 (x >>> 24), w8 (x >>> 16), w8 (x >>> 8), w8 (x >>> 0)]
def outL (v : List (BitVec 32)) : List UInt8 := v.flatMap wordL
def padZ (s : St) : St := pushes s (List.replicate ((120 - s.n) % 64) 0)
/-- what 'end' tells of a hasher that has taken so many bytes. -/
def finish (s : St) (t : Nat) : List UInt8 := outL (pushes (padZ (push s 128)) (eightL (t * 8 % 18446744073709551616))).v
/-- THE DIGEST of a text. -/
def sha (l : List UInt8) : List UInt8 := finish (pushes st0 l) l.length

theorem rounds_zero (s : R8) (W : List (BitVec 32)) : rounds s W 0 = (s, W) := rfl
theorem rounds_succ (s : R8) (W : List (BitVec 32)) (i : Nat) : rounds s W (i + 1) = (rnd (rounds s W i).1 (rndT (rounds s W i).1 (wd ksL i) (wd (atRound (rounds s W i).2 i) (i % 16))) (rndU (rounds s W i).1), atRound (rounds s W i).2 i) := rfl
/-! ### lengths -/
theorem growW_length (L : List (BitVec 32)) (i : Nat) : (growW L i).length = L.length := by simp [growW]
theorem atRound_length (L : List (BitVec 32)) (i : Nat) : (atRound L i).length = L.length := by
  unfold atRound; split
  · exact growW_length _ _
  · rfl
theorem loadW_length (r : List UInt8) (k : Nat) : (loadW r k).length = 16 := by
  induction k with
  | zero => rfl
  | succ k ih => simp [loadW, ih]
theorem rounds_length (s : R8) (W : List (BitVec 32)) (k : Nat) : (rounds s W k).2.length = W.length := by
  induction k with
  | zero => rfl
  | succ k ih => simp only [rounds]; rw [atRound_length, ih]
theorem addTo_length (v x : List (BitVec 32)) (k : Nat) : (addTo v x k).length = v.length := by
  induction k with
  | zero => rfl
  | succ k ih => simp [addTo, ih]
theorem mixv_length (v : List (BitVec 32)) (r : List UInt8) : (mixv v r).length = v.length := addTo_length _ _ _
theorem push_ok {s : St} (h : s.ok) (b : UInt8) : (push s b).ok := by
  obtain ⟨h1, h2, h3⟩ := h
  unfold push
  split
  · exact ⟨by rw [mixv_length]; exact h1, by simpa using h2, by show 0 < 64; decide⟩
  · exact ⟨h1, by simpa using h2, by show s.n + 1 < 64; omega⟩
theorem pushes_ok {s : St} (h : s.ok) (l : List UInt8) : (pushes s l).ok := by
  induction l generalizing s with
  | nil => exact h
  | cons b l ih => exact ih (push_ok h b)
theorem st0_ok : st0.ok := ⟨rfl, by simp [st0], by decide⟩
theorem pushes_append (s : St) (a b : List UInt8) : pushes s (a ++ b) = pushes (pushes s a) b := by simp [pushes]
theorem eightL_length (n : Nat) : (eightL n).length = 8 := rfl
theorem outL_length (v : List (BitVec 32)) : (outL v).length = 4 * v.length := by
  induction v with
  | nil => rfl
  | cons x v ih =>
    have : outL (x :: v) = wordL x ++ outL v := rfl
    rw [this, List.length_append, ih]; simp [wordL]; omega
theorem sha_length (l : List UInt8) : (sha l).length = 32 := by
  unfold sha finish
  rw [outL_length]
  have := (pushes_ok (pushes_ok (push_ok (pushes_ok st0_ok l) 128) (List.replicate ((120 - (push (pushes st0 l) 128).n) % 64) 0)) (eightL (l.length * 8 % 18446744073709551616))).1
  unfold padZ
  omega

/-! ### several bytes at once: no more than fit -/
theorem pushes_n (l : List UInt8) : ∀ s : St, s.n < 64 → s.n + l.length < 64 → (pushes s l).n = s.n + l.length ∧ (pushes s l).v = s.v := by
  induction l with
  | nil => intro s _ _; exact ⟨rfl, rfl⟩
  | cons b l ih =>
    intro s h1 h2
    simp only [List.length_cons] at h2 ⊢
    have e : push s b = ⟨s.v, s.r.set s.n b, s.n + 1⟩ := by unfold push; rw [if_neg (by omega)]
    show (pushes (push s b) l).n = _ ∧ (pushes (push s b) l).v = _
    rw [e]
    have := ih ⟨s.v, s.r.set s.n b, s.n + 1⟩ (by show s.n + 1 < 64; omega) (by show s.n + 1 + l.length < 64; omega)
    refine ⟨by rw [this.1]; show s.n + 1 + l.length = _; omega, this.2⟩
theorem pushes_r (l : List UInt8) : ∀ s : St, s.ok → s.n + l.length < 64 → (pushes s l).r = s.r.take s.n ++ l ++ s.r.drop (s.n + l.length) := by
  induction l with
  | nil => intro s h _; simp [pushes]
  | cons b l ih =>
    intro s h h2
    simp only [List.length_cons] at h2 ⊢
    have e : push s b = ⟨s.v, s.r.set s.n b, s.n + 1⟩ := by unfold push; rw [if_neg (by omega)]
    show (pushes (push s b) l).r = _
    have hok := push_ok h b
    rw [ih _ hok (by rw [e]; show s.n + 1 + l.length < 64; omega), e]
    show (s.r.set s.n b).take (s.n + 1) ++ l ++ (s.r.set s.n b).drop (s.n + 1 + l.length) = _
    have hl := h.2.1
    rw [List.drop_set_of_lt (by omega), List.take_set, List.take_succ_eq_append_getElem (by omega), List.set_append_right _ _ (by simp; omega)]
    simp [List.length_take, Nat.min_eq_left (show s.n ≤ s.r.length by omega)]
    rw [show s.n + 1 + l.length = s.n + (l.length + 1) from by omega]
/-- as many as fill the block: it is mixed. -/
theorem pushes_full (l : List UInt8) : ∀ s : St, s.ok → s.n + l.length = 64 → pushes s l = ⟨mixv s.v (s.r.take s.n ++ l ++ s.r.drop (s.n + l.length)), s.r.take s.n ++ l ++ s.r.drop (s.n + l.length), 0⟩ := by
  intro s h h2
  have hne : l ≠ [] := by rintro rfl; have := h.2.2; simp at h2; omega
  obtain ⟨a, b, rfl⟩ : ∃ a b, l = a ++ [b] := ⟨l.dropLast, l.getLast hne, (List.dropLast_concat_getLast hne).symm⟩
  simp only [List.length_append, List.length_singleton] at h2
  rw [pushes_append]
  have e1 := pushes_n a s h.2.2 (by omega)
  have e2 := pushes_r a s h (by omega)
  have e3 : pushes (pushes s a) [b] = push (pushes s a) b := rfl
  rw [e3]
  unfold push
  rw [if_pos (by rw [e1.1]; omega), e1.2, e2, e1.1]
  have hl := h.2.1
  have e4 : (s.r.take s.n ++ a ++ s.r.drop (s.n + a.length)).set (s.n + a.length) b = s.r.take s.n ++ (a ++ [b]) ++ s.r.drop (s.n + (a ++ [b]).length) := by
    rw [List.set_append_right _ _ (by simp; omega)]
    have e5 : s.n + a.length - (s.r.take s.n ++ a).length = 0 := by simp; omega
    rw [e5]
    have hd : s.r.drop (s.n + a.length) = s.r[s.n + a.length] :: s.r.drop (s.n + a.length + 1) := (List.drop_eq_getElem_cons (by omega))
    rw [hd]
    simp [List.append_assoc, Nat.add_assoc]
  rw [e4]
/-- what one copy brings, in both cases. -/
theorem pushes_part (s : St) (h : s.ok) (l : List UInt8) (hle : s.n + l.length ≤ 64) :
    pushes s l = if s.n + l.length = 64 then ⟨mixv s.v (s.r.take s.n ++ l ++ s.r.drop (s.n + l.length)), s.r.take s.n ++ l ++ s.r.drop (s.n + l.length), 0⟩ else ⟨s.v, s.r.take s.n ++ l ++ s.r.drop (s.n + l.length), s.n + l.length⟩ := by
  split
  · exact pushes_full l s h (by assumption)
  · have e1 := pushes_n l s h.2.2 (by omega)
    have e2 := pushes_r l s h (by omega)
    calc pushes s l = ⟨(pushes s l).v, (pushes s l).r, (pushes s l).n⟩ := rfl
      _ = _ := by rw [e1.1, e1.2, e2]
end Go.Proofs.YteajpebkanamgaaDoor
namespace Go.Proofs.YteajpebkanamgaaDoor
set_option maxRecDepth 100000
open Go.RowKit

def cw (l : List (BitVec 32)) : List Value := l.map fun x => .int .u32 (n32 x)
def wc (l : List (BitVec 32)) : Array Value := (cw l).toArray
theorem wc_get (l : List (BitVec 32)) (i : Nat) (h : i < l.length) : (wc l)[i]? = some (.int .u32 (n32 (wd l i))) := by
  simp [wc, cw, wd, List.getElem?_eq_getElem h]
theorem wc_set (l : List (BitVec 32)) (i : Nat) (x : BitVec 32) : (wc l).setIfInBounds i (.int .u32 (n32 x)) = wc (l.set i x) := by
  simp [wc, cw, List.map_set]

theorem and15 (i : Nat) (hi : i < 1000) : bits BinOp.and IntKind.i64 (i : Int) 15 = ((i % 16 : Nat) : Int) := by
  show IntKind.i64.wrap ((BitVec.ofInt 64 (i : Int) &&& BitVec.ofInt 64 15).toNat : Int) = _
  have h1 : (BitVec.ofInt 64 (i : Int)).toNat = i := by rw [BitVec.ofInt_natCast, BitVec.toNat_ofNat]; exact Nat.mod_eq_of_lt (by omega)
  have h2 : (BitVec.ofInt 64 15).toNat = 2 ^ 4 - 1 := by decide
  rw [BitVec.toNat_and, h1, h2, Nat.and_two_pow_sub_one_eq_mod]
  exact (IntWalk.i64_in _ (by omega)).trans rfl

/-- how far a count turns to the left. -/
def rotm (k : Int) : Nat := (bits .and .u64 (IntKind.u64.wrap k) 31).toNat
theorem rotm_eq (k : Int) : bits .and .u64 (IntKind.u64.wrap k) 31 = (rotm k : Int) ∧ rotm k ≤ 31 := by
  have h1 : 0 ≤ IntKind.u64.wrap k ∧ IntKind.u64.wrap k < 18446744073709551616 := by
    simp [IntKind.wrap, IntKind.bits, IntKind.signed]; omega
  have h := u64_and (IntKind.u64.wrap k) 31 h1.1 h1.2 (by decide) (by decide)
  have hle : (IntKind.u64.wrap k).toNat &&& (31 : Int).toNat ≤ 31 := Nat.and_le_right
  unfold rotm
  omega
def rrK (x : BitVec 32) (k : Int) : BitVec 32 := x <<< rotm k ||| x >>> (32 - rotm k)
theorem rrK_neg (x : BitVec 32) (n : Nat) (k : Int) (hk : rotm k = 32 - n) (hn : n ≤ 32) : rrK x k = rr x n := by
  unfold rrK rr; rw [hk, show 32 - (32 - n) = n from by omega]

set_option maxHeartbeats 400000 in
theorem rot_any (x : BitVec 32) (k : Int) (w : World) :
    Calls Tryd.prog 111 #[.int .u32 (n32 x), .int .i64 k] w fun e w' => e = .returned (.int .u32 (n32 (rrK x k))) ∧ w' = w := by
  obtain ⟨hk, hm⟩ := rotm_eq k
  have h0 : 0 ≤ bits .and .u64 (IntKind.u64.wrap k) 31 := by omega
  have hs : IntKind.u64.wrap (32 - bits .and .u64 (IntKind.u64.wrap k) 31) = ((32 - rotm k : Nat) : Int) := by
    rw [hk, wrap_u64e]; omega
  have h1 : 0 ≤ IntKind.u64.wrap (32 - bits .and .u64 (IntKind.u64.wrap k) 31) := by omega
  have E1 := v32_shl_var x _ (rotm k) hk (by omega)
  have E2 := v32_shr_var x _ (32 - rotm k) hs (by omega)
  have E3 : rrK x k = x <<< rotm k ||| x >>> (32 - rotm k) := rfl
  have H1 := Lib.hid hk
  have H2 := Lib.hid hs
  have H3 := Lib.hid E1
  have H4 := Lib.hid E2
  have H5 := Lib.hid E3
  clear hk hs E1 E2 E3 hm
  go_enter Tryd.func111, Tryd.ntmps111
  go_wp2
  go_ret
  refine ⟨?_, rfl⟩
  simp only [Array.getD_eq_getD_getElem?]
  simp only [H5.out, ← v32_or, ← H3.out, ← H4.out]
  rfl
set_option maxHeartbeats 400000 in
theorem at_any (b i : Nat) (w : World) (hi : i < 1000) :
    Calls Tryd.prog 112 #[.pointer (some ⟨b, 0, none⟩), .int .i64 i] w fun e w' => e = .returned (.pointer (some ⟨b, i % 16, none⟩)) ∧ w' = w := by
  have h1 := and15 i hi
  have h2 : 0 ≤ ((i % 16 : Nat) : Int) ∧ ((i % 16 : Nat) : Int) < 16 := by omega
  go_enter Tryd.func112, Tryd.ntmps112
  go_wp2
  go_ret
  exact ⟨rfl, rfl⟩

theorem rr7 (x : BitVec 32) : rrK x (-7) = rr x 7 := rrK_neg x 7 _ (by decide +kernel) (by decide)
theorem rr18 (x : BitVec 32) : rrK x (-18) = rr x 18 := rrK_neg x 18 _ (by decide +kernel) (by decide)
theorem rr17 (x : BitVec 32) : rrK x (-17) = rr x 17 := rrK_neg x 17 _ (by decide +kernel) (by decide)
theorem rr19 (x : BitVec 32) : rrK x (-19) = rr x 19 := rrK_neg x 19 _ (by decide +kernel) (by decide)
theorem rr6 (x : BitVec 32) : rrK x (-6) = rr x 6 := rrK_neg x 6 _ (by decide +kernel) (by decide)
theorem rr11 (x : BitVec 32) : rrK x (-11) = rr x 11 := rrK_neg x 11 _ (by decide +kernel) (by decide)
theorem rr25 (x : BitVec 32) : rrK x (-25) = rr x 25 := rrK_neg x 25 _ (by decide +kernel) (by decide)
theorem rr2 (x : BitVec 32) : rrK x (-2) = rr x 2 := rrK_neg x 2 _ (by decide +kernel) (by decide)
theorem rr13 (x : BitVec 32) : rrK x (-13) = rr x 13 := rrK_neg x 13 _ (by decide +kernel) (by decide)
theorem rr22 (x : BitVec 32) : rrK x (-22) = rr x 22 := rrK_neg x 22 _ (by decide +kernel) (by decide)

section
attribute [local go_sem] v32_add v32_xor v32_and v32_or v32_shr3 v32_shr10 v32_shl8 rr7 rr18 rr17 rr19 rr6 rr11 rr25 rr2 rr13 rr22
set_option maxHeartbeats 800000 in
theorem grow_any (b i : Nat) (w : World) (L : List (BitVec 32)) (hL : L.length = 16) (hb : Blk w b 156 (wc L)) (hi : 16 ≤ i) (hi2 : i < 64) :
    Calls Tryd.prog 110 #[.pointer (some ⟨b, 0, none⟩), .int .i64 i] w fun e w' => e = .returned (.tuple #[]) ∧
      Blk w' b 156 (wc (growW L i)) ∧ w.grownBy w' (some b) := by
  have c1 := (hb.cell ((i - 15) % 16)).trans (wc_get L _ (by omega))
  have c2 := (hb.cell ((i - 2) % 16)).trans (wc_get L _ (by omega))
  have c3 := (hb.cell (i % 16)).trans (wc_get L _ (by omega))
  have c4 := (hb.cell ((i - 7) % 16)).trans (wc_get L _ (by omega))
  have f3 := hb.frozen (i % 16)
  have hfin : ∀ n, Blk ((w.drewN n).setCell ⟨b, i % 16, none⟩ (.int .u32 (n32 (wd L (i % 16) + (sig0 (wd L ((i - 15) % 16)) + wd L ((i - 7) % 16) + sig1 (wd L ((i - 2) % 16))))))) b 156 (wc (growW L i)) ∧
      w.grownBy ((w.drewN n).setCell ⟨b, i % 16, none⟩ (.int .u32 (n32 (wd L (i % 16) + (sig0 (wd L ((i - 15) % 16)) + wd L ((i - 7) % 16) + sig1 (wd L ((i - 2) % 16))))))) (some b) := by
    intro n
    refine ⟨?_, only_set (only_drewN (only_refl _ _) n) (.inl rfl) _⟩
    have := (hb.drewN n).set_ (i % 16) (.int .u32 (n32 (wd L (i % 16) + (sig0 (wd L ((i - 15) % 16)) + wd L ((i - 7) % 16) + sig1 (wd L ((i - 2) % 16))))))
    rw [wc_set] at this
    exact this
  unfold sig0 sig1 at hfin
  have HF := Lib.hid hfin
  clear hfin
  have HB := Lib.hid hb
  clear hb hL
  have e1 : IntKind.i64.wrap ((i : Int) - 15) = ((i - 15 : Nat) : Int) := (IntWalk.i64_in _ (by omega)).trans (by omega)
  have e2 : IntKind.i64.wrap ((i : Int) - 2) = ((i - 2 : Nat) : Int) := (IntWalk.i64_in _ (by omega)).trans (by omega)
  have e3 : IntKind.i64.wrap ((i : Int) - 7) = ((i - 7 : Nat) : Int) := (IntWalk.i64_in _ (by omega)).trans (by omega)
  go_enter Tryd.func110, Tryd.ntmps110
  go_wp2_with fail
  go_quiet ((go_at_call 112; exact Calls.quiet_of_same (at_any _ _ _ (by omega))))
  go_wp2_with (go_at_call 111; refine (rot_any _ _ _).mono ?_; rintro e w' ⟨rfl, rfl⟩)
  refine still_tail 17 (by kernel_rfl) (by kernel_rfl) ?_
  simp only [List.take_succ_cons, List.take_zero, List.drop_succ_cons, List.drop_zero]
  repeat still_step
  still_call (at_any _ _ _ (by omega))
  repeat still_step
  still_call (at_any _ _ _ (by omega))
  repeat still_step
  refine wpStill_nil ?_
  go_wp2
  go_end0
  refine ⟨rfl, ?_⟩
  simp only [v32_add]
  exact HF.out _
end
end Go.Proofs.YteajpebkanamgaaDoor
namespace Go.Proofs.YteajpebkanamgaaDoor
open Go.RowKit
set_option linter.unusedSimpArgs false
set_option linter.unusedVariables false
set_option maxRecDepth 100000

/-- a hasher's cells. -/
def hc (s : St) (t : BitVec 64) : Array Value := (cw s.v ++ cb s.r ++ [Value.int .i64 (s.n : Int), Value.int .u64 (t.toNat : Int)]).toArray
theorem hc_v {s : St} (h : s.okL) (t : BitVec 64) (i : Nat) (hi : i < 8) : (hc s t)[i]? = some (.int .u32 (n32 (wd s.v i))) := by
  have := h.1
  simp only [hc, List.getElem?_toArray, List.append_assoc]
  rw [List.getElem?_append_left (by simp [cw]; omega)]
  simp [cw, wd, List.getElem?_eq_getElem (show i < s.v.length by omega)]
theorem hc_r {s : St} (h : s.okL) (t : BitVec 64) (i : Nat) (hi : i < 64) : (hc s t)[8 + i]? = some (.int .u8 (n8 (bd s.r i))) := by
  have := h.1; have := h.2
  simp only [hc, List.getElem?_toArray, List.append_assoc]
  rw [List.getElem?_append_right (by simp [cw]; omega), List.getElem?_append_left (by simp [cw, cb]; omega)]
  simp only [cw, cb, List.length_map, h.1, Nat.add_sub_cancel_left]
  simp [bd, List.getElem?_eq_getElem (show i < s.r.length by omega)]
theorem hc_n {s : St} (h : s.okL) (t : BitVec 64) : (hc s t)[72]? = some (.int .i64 (s.n : Int)) := by
  simp only [hc, List.getElem?_toArray]
  rw [List.getElem?_append_right (by simp [cw, cb, h.1, h.2])]
  simp [cw, cb, h.1, h.2]
theorem hc_t {s : St} (h : s.okL) (t : BitVec 64) : (hc s t)[73]? = some (.int .u64 (t.toNat : Int)) := by
  simp only [hc, List.getElem?_toArray]
  rw [List.getElem?_append_right (by simp [cw, cb, h.1, h.2])]
  simp [cw, cb, h.1, h.2]
theorem hc_size {s : St} (h : s.okL) (t : BitVec 64) : (hc s t).size = 74 := by simp [hc, cw, cb, h.1, h.2]
theorem hc_set_v {s : St} (h : s.okL) (t : BitVec 64) (i : Nat) (hi : i < 8) (x : BitVec 32) : (hc s t).setIfInBounds i (.int .u32 (n32 x)) = hc ⟨s.v.set i x, s.r, s.n⟩ t := by
  have := h.1
  simp only [hc, List.setIfInBounds_toArray, List.append_assoc]
  rw [List.set_append_left _ _ (by simp [cw]; omega)]
  simp [cw, List.map_set]
theorem hc_set_n {s : St} (h : s.okL) (t : BitVec 64) (k : Nat) : (hc s t).setIfInBounds 72 (.int .i64 (k : Int)) = hc ⟨s.v, s.r, k⟩ t := by
  simp only [hc, List.setIfInBounds_toArray]
  rw [List.set_append_right _ _ (by simp [cw, cb, h.1, h.2])]
  simp [cw, cb, h.1, h.2]
theorem hc_set_t {s : St} (h : s.okL) (t u : BitVec 64) : (hc s t).setIfInBounds 73 (.int .u64 (u.toNat : Int)) = hc s u := by
  simp only [hc, List.setIfInBounds_toArray]
  rw [List.set_append_right _ _ (by simp [cw, cb, h.1, h.2])]
  simp [cw, cb, h.1, h.2]
/-- the table of constants lies where the program has it. -/
def KsAt (w : World) : Prop := ∀ i, i < 64 → w.cell? ⟨0, i, none⟩ = some (.int .u32 (n32 (wd ksL i)))

theorem ix8_0 (R : R8) (w : World) : (Instr.index 149 (.agg #[.int .u32 (n32 R.a), .int .u32 (n32 R.b), .int .u32 (n32 R.c), .int .u32 (n32 R.d), .int .u32 (n32 R.e), .int .u32 (n32 R.f), .int .u32 (n32 R.g), .int .u32 (n32 R.k)]) (.int .i64 0)).run Tryd.prog w = .ok (.int .u32 (n32 R.a)) w := by kernel_rfl
theorem ix8_1 (R : R8) (w : World) : (Instr.index 149 (.agg #[.int .u32 (n32 R.a), .int .u32 (n32 R.b), .int .u32 (n32 R.c), .int .u32 (n32 R.d), .int .u32 (n32 R.e), .int .u32 (n32 R.f), .int .u32 (n32 R.g), .int .u32 (n32 R.k)]) (.int .i64 1)).run Tryd.prog w = .ok (.int .u32 (n32 R.b)) w := by kernel_rfl
theorem ix8_2 (R : R8) (w : World) : (Instr.index 149 (.agg #[.int .u32 (n32 R.a), .int .u32 (n32 R.b), .int .u32 (n32 R.c), .int .u32 (n32 R.d), .int .u32 (n32 R.e), .int .u32 (n32 R.f), .int .u32 (n32 R.g), .int .u32 (n32 R.k)]) (.int .i64 2)).run Tryd.prog w = .ok (.int .u32 (n32 R.c)) w := by kernel_rfl
theorem ix8_3 (R : R8) (w : World) : (Instr.index 149 (.agg #[.int .u32 (n32 R.a), .int .u32 (n32 R.b), .int .u32 (n32 R.c), .int .u32 (n32 R.d), .int .u32 (n32 R.e), .int .u32 (n32 R.f), .int .u32 (n32 R.g), .int .u32 (n32 R.k)]) (.int .i64 3)).run Tryd.prog w = .ok (.int .u32 (n32 R.d)) w := by kernel_rfl
theorem ix8_4 (R : R8) (w : World) : (Instr.index 149 (.agg #[.int .u32 (n32 R.a), .int .u32 (n32 R.b), .int .u32 (n32 R.c), .int .u32 (n32 R.d), .int .u32 (n32 R.e), .int .u32 (n32 R.f), .int .u32 (n32 R.g), .int .u32 (n32 R.k)]) (.int .i64 4)).run Tryd.prog w = .ok (.int .u32 (n32 R.e)) w := by kernel_rfl
theorem ix8_5 (R : R8) (w : World) : (Instr.index 149 (.agg #[.int .u32 (n32 R.a), .int .u32 (n32 R.b), .int .u32 (n32 R.c), .int .u32 (n32 R.d), .int .u32 (n32 R.e), .int .u32 (n32 R.f), .int .u32 (n32 R.g), .int .u32 (n32 R.k)]) (.int .i64 5)).run Tryd.prog w = .ok (.int .u32 (n32 R.f)) w := by kernel_rfl
theorem ix8_6 (R : R8) (w : World) : (Instr.index 149 (.agg #[.int .u32 (n32 R.a), .int .u32 (n32 R.b), .int .u32 (n32 R.c), .int .u32 (n32 R.d), .int .u32 (n32 R.e), .int .u32 (n32 R.f), .int .u32 (n32 R.g), .int .u32 (n32 R.k)]) (.int .i64 6)).run Tryd.prog w = .ok (.int .u32 (n32 R.g)) w := by kernel_rfl
theorem ix8_7 (R : R8) (w : World) : (Instr.index 149 (.agg #[.int .u32 (n32 R.a), .int .u32 (n32 R.b), .int .u32 (n32 R.c), .int .u32 (n32 R.d), .int .u32 (n32 R.e), .int .u32 (n32 R.f), .int .u32 (n32 R.g), .int .u32 (n32 R.k)]) (.int .i64 7)).run Tryd.prog w = .ok (.int .u32 (n32 R.k)) w := by kernel_rfl
theorem ix8 (R : R8) (j : Nat) (hj : j < 8) (w : World) : (Instr.index 149 (.agg #[.int .u32 (n32 R.a), .int .u32 (n32 R.b), .int .u32 (n32 R.c), .int .u32 (n32 R.d), .int .u32 (n32 R.e), .int .u32 (n32 R.f), .int .u32 (n32 R.g), .int .u32 (n32 R.k)]) (.int .i64 (j : Int))).run Tryd.prog w = .ok (.int .u32 (n32 (wd R.list j))) w := by
  match j, hj with
  | 0, _ => exact ix8_0 R w
  | 1, _ => exact ix8_1 R w
  | 2, _ => exact ix8_2 R w
  | 3, _ => exact ix8_3 R w
  | 4, _ => exact ix8_4 R w
  | 5, _ => exact ix8_5 R w
  | 6, _ => exact ix8_6 R w
  | 7, _ => exact ix8_7 R w
section
attribute [local go_sem] v32_add v32_xor v32_and v32_or v32_shr3 v32_shr10 v32_shl8 rr7 rr18 rr17 rr19 rr6 rr11 rr25 rr2 rr13 rr22
set_option maxHeartbeats 1600000 in
set_option maxRecDepth 100000 in
theorem mix_any (b : Nat) (w : World) (s : St) (t : BitVec 64) (hs : s.v.length = 8) (hr : s.r.length = 64) (hb : Blk w b 151 (hc s t)) (hk : KsAt w) (hg : 0 < b) :
    Calls Tryd.prog 107 #[.pointer (some ⟨b, 0, none⟩)] w fun e w' => e = .returned (.tuple #[]) ∧
      Blk w' b 151 (hc ⟨mixv s.v s.r, s.r, 0⟩ t) ∧ w.grownBy w' (some b) := by
  have HB := Lib.hid hb
  have HK := Lib.hid hk
  clear hk hb
  go_enter Tryd.func107, Tryd.ntmps107
  go_wp2_with fail
  go_loopw [17] (fun v17 wr => ∃ k : Nat, k ≤ 64 ∧ v17 = .int .i64 k ∧ Blk wr w.heap.size 156 (wc (loadW s.r k)) ∧ w.grownBy wr none) (fun v17 _ => 64 - (intOf v17).toNat)
  case atStart => exact ⟨0, by omega, rfl, Blk.new _ _ _, only_alloc (only_refl _ _) _⟩
  case round =>
    obtain ⟨k, hk, rfl, hW, hG⟩ := hrel
    have hWl := loadW_length s.r k
    by_cases hlt : k < 64
    · have ej : ((k : Int) / 4).toNat = k / 4 := by omega
      have c1 : wr.cell? ⟨w.heap.size, ((k : Int) / 4).toNat, none⟩ = some (.int .u32 (n32 (wd (loadW s.r k) (k / 4)))) := by rw [ej]; exact (hW.cell (k / 4)).trans (wc_get (loadW s.r k) (k / 4) (by omega))
      have f1 : wr.frozen? ⟨w.heap.size, ((k : Int) / 4).toNat, none⟩ = false := by rw [ej]; exact hW.frozen (k / 4)
      have EJ := Lib.hid ej
      clear ej
      have c2 := ((HB.out.grown hG (by simp)).cell (8 + k)).trans (hc_r ⟨hs, hr⟩ t k hlt)
      have hfin : Blk (wr.drew.setCell ⟨w.heap.size, k / 4, none⟩ (.int .u32 (n32 (wd (loadW s.r k) (k / 4) <<< 8 ||| u8w (bd s.r k))))) w.heap.size 156 (wc (loadW s.r (k + 1))) ∧
          w.grownBy (wr.drew.setCell ⟨w.heap.size, k / 4, none⟩ (.int .u32 (n32 (wd (loadW s.r k) (k / 4) <<< 8 ||| u8w (bd s.r k))))) none := by
        have := hW.drew.set_ (k / 4) (.int .u32 (n32 (wd (loadW s.r k) (k / 4) <<< 8 ||| u8w (bd s.r k))))
        rw [wc_set] at this
        exact ⟨this, only_new hG (only_set (only_drew (only_refl _ _)) (.inl rfl) _) (Nat.le_refl _)⟩
      have HF := Lib.hid hfin
      clear hfin hW hG hWl
      have e1 : IntKind.i64.wrap ((k : Int) / 4) = (k : Int) / 4 := IntWalk.i64_in _ (by omega)
      have e2 : 0 ≤ (k : Int) / 4 ∧ (k : Int) / 4 < 16 := by omega
      have e3 : 0 ≤ (k : Int) ∧ (k : Int) < 64 := by omega
      go_wp2_with fail
      refine still_tail 16 (by kernel_rfl) (by kernel_rfl) ?_
      simp only [List.take_succ_cons, List.take_zero, List.drop_succ_cons, List.drop_zero]
      repeat still_step
      refine wpStill_nil ?_
      go_wp2
      go_roundw
      case rel =>
        refine ⟨k + 1, by omega, by go_num, ?_⟩
        simp only [n8_m32, v32_or, EJ.out]
        exact HF.out
      case measure => simp [intOf]; omega
    · obtain rfl : k = 64 := by omega
      rw [show ((64 : Nat) : Int) = 64 from rfl]
      have hB := HB.out.grown hG (by simp)
      have d0 := (hB.cell 0).trans (hc_v ⟨hs, hr⟩ t 0 (by omega))
      have d1 := (hB.cell 1).trans (hc_v ⟨hs, hr⟩ t 1 (by omega))
      have d2 := (hB.cell 2).trans (hc_v ⟨hs, hr⟩ t 2 (by omega))
      have d3 := (hB.cell 3).trans (hc_v ⟨hs, hr⟩ t 3 (by omega))
      have d4 := (hB.cell 4).trans (hc_v ⟨hs, hr⟩ t 4 (by omega))
      have d5 := (hB.cell 5).trans (hc_v ⟨hs, hr⟩ t 5 (by omega))
      have d6 := (hB.cell 6).trans (hc_v ⟨hs, hr⟩ t 6 (by omega))
      have d7 := (hB.cell 7).trans (hc_v ⟨hs, hr⟩ t 7 (by omega))
      have HW := Lib.hid hW
      have HG := Lib.hid hG
      clear hW hG hB hWl hlt hk
      go_wp2_with fail
      go_quiet (fail)
      go_wp2_with fail
      clear d0 d1 d2 d3 d4 d5 d6 d7
      obtain ⟨P, HP⟩ : ∃ P, Hid (P = rounds (R8.of s.v) (loadW s.r 64)) := ⟨_, rfl⟩
      go_loopw [4, 5, 6, 7, 8, 9, 10, 11, 77] (fun v4 v5 v6 v7 v8 v9 v10 v11 v77 wx => ∃ i : Nat, i ≤ 64 ∧ v77 = .int .i64 i ∧ v4 = .int .u32 (n32 (P i).1.a) ∧ v5 = .int .u32 (n32 (P i).1.b) ∧ v6 = .int .u32 (n32 (P i).1.c) ∧
          v7 = .int .u32 (n32 (P i).1.d) ∧ v8 = .int .u32 (n32 (P i).1.e) ∧ v9 = .int .u32 (n32 (P i).1.f) ∧ v10 = .int .u32 (n32 (P i).1.g) ∧ v11 = .int .u32 (n32 (P i).1.k) ∧
          Blk wx w.heap.size 156 (wc (P i).2) ∧ w.grownBy wx none) (fun _ _ _ _ _ _ _ _ v77 _ => 64 - (intOf v77).toNat)
      case atStart =>
        refine ⟨0, by omega, rfl, ?_⟩
        rw [HP.out, rounds_zero]
        simp only [R8.of, true_and]
        exact ⟨HW.out.drewN _, only_drewN HG.out _⟩
      case round =>
        obtain ⟨i, hi, rfl, rfl, rfl, rfl, rfl, rfl, rfl, rfl, rfl, hW2, hG2⟩ := hrel
        have hPl : (P i).2.length = 16 := by rw [HP.out, rounds_length, loadW_length]
        by_cases hlt : i < 64
        · have hks : wr.cell? ⟨0, i, none⟩ = some (.int .u32 (n32 (wd ksL i))) := hG2.cell (HK.out i hlt) (by simp)
          have HS := Lib.hid (rounds_succ (R8.of s.v) (loadW s.r 64) i)
          have e3 : 0 ≤ (i : Int) ∧ (i : Int) < 64 := by omega
          have hbw := HB.out.lt
          by_cases h16 : 16 ≤ i
          · have hA : atRound (P i).2 i = growW (P i).2 i := if_pos h16
            have HA := Lib.hid hA
            have HW2 := Lib.hid hW2
            have HG2 := Lib.hid hG2
            have HPl := Lib.hid hPl
            have HKS := Lib.hid hks
            clear hA hW2 hG2 hPl hks
            have hd : decide ((16 : Int) ≤ i) = true := by simp; omega
            go_wp2_with (go_at_call 110; refine (grow_any _ i _ _ HPl.out HW2.out h16 hlt).mono ?_; rintro e w1 ⟨rfl, hW3, hG3⟩)
            have c1 := (hW3.cell (i % 16)).trans (wc_get _ _ (by rw [growW_length, HPl.out]; omega))
            rw [← HA.out] at c1 hW3
            have k1 : w1.cell? ⟨0, i, none⟩ = some (.int .u32 (n32 (wd ksL i))) := hG3.cell HKS.out (by simp; omega)
            have HG3 := Lib.hid (only_new HG2.out hG3 (Nat.le_refl _))
            have HW3 := Lib.hid hW3
            clear hG3 hW3 HG2 HW2 HKS hd
            go_wp2_with fail
            go_quiet ((first | (go_at_call 111; exact Calls.quiet_of_same (rot_any _ _ _)) | (go_at_call 111; exact quiet_add_same (rot_any _ _ _)) | (go_at_call 112; exact Calls.quiet_of_same (at_any _ _ _ (by omega)))))
            go_wp2_with (go_at_call 111; refine (rot_any _ _ _).mono ?_; rintro e w' ⟨rfl, rfl⟩)
            go_roundw
            case rel =>
              refine ⟨i + 1, by omega, by go_num, ?_⟩
              rw [HP.out, HS.out, ← HP.out]
              simp only [v32_add, v32_xor, v32_and, v32_or, rnd, rndT, rndU, true_and]
              exact ⟨HW3.out.drewN _, only_drewN HG3.out _⟩
            case measure => simp [intOf]; omega
          · have hA : atRound (P i).2 i = (P i).2 := if_neg h16
            have c1 := (hW2.cell (i % 16)).trans (wc_get _ _ (by rw [hPl]; omega))
            rw [← hA] at c1 hW2
            have HG3 := Lib.hid hG2
            have HW3 := Lib.hid hW2
            clear hA hW2 hG2 hPl
            have hd : decide ((16 : Int) ≤ i) = false := by simp; omega
            go_wp2_with fail
            go_quiet ((first | (go_at_call 111; exact Calls.quiet_of_same (rot_any _ _ _)) | (go_at_call 111; exact quiet_add_same (rot_any _ _ _)) | (go_at_call 112; exact Calls.quiet_of_same (at_any _ _ _ (by omega)))))
            go_wp2_with (go_at_call 111; refine (rot_any _ _ _).mono ?_; rintro e w' ⟨rfl, rfl⟩)
            go_roundw
            case rel =>
              refine ⟨i + 1, by omega, by go_num, ?_⟩
              rw [HP.out, HS.out, ← HP.out]
              simp only [v32_add, v32_xor, v32_and, v32_or, rnd, rndT, rndU, true_and]
              exact ⟨HW3.out.drewN _, only_drewN HG3.out _⟩
            case measure => simp [intOf]; omega
        · obtain rfl : i = 64 := by omega
          rw [show ((64 : Nat) : Int) = 64 from rfl]
          have hB2 := HB.out.grown hG2 (by simp)
          have hbw := HB.out.lt
          have HM := Lib.hid (show mixv s.v s.r = addTo s.v (P 64).1.list 8 by rw [HP.out]; rfl)
          have HG2 := Lib.hid hG2
          have HB2 := Lib.hid hB2
          clear hG2 hB2 hW2 hPl hlt hi
          obtain ⟨R, HR⟩ : ∃ R, Hid (R = (P 64).1) := ⟨_, rfl⟩
          rw [← HR.out]
          rw [← HR.out] at HM
          have z45 : ∀ w, (zeroValue 149).run Tryd.prog w = .ok (.agg #[.int .u32 0, .int .u32 0, .int .u32 0, .int .u32 0, .int .u32 0, .int .u32 0, .int .u32 0, .int .u32 0]) w := fun _ => by kernel_rfl
          go_wp2_with fail
          go_loopw [151] (fun v wx => ∃ j : Nat, j ≤ 8 ∧ v = .int .i64 j ∧ Blk wx b 151 (hc ⟨addTo s.v R.list j, s.r, s.n⟩ t) ∧ w.grownBy wx (some b)) (fun v _ => 8 - (intOf v).toNat)
          case atStart => exact ⟨0, by omega, rfl, HB2.out, ⟨HG2.out.os, HG2.out.tape, HG2.out.output, HG2.out.size, fun i h _ => HG2.out.block i h (by simp)⟩⟩
          case round =>
            obtain ⟨j, hj, rfl, hB3, hG3⟩ := hrel
            have hok : St.okL ⟨addTo s.v R.list j, s.r, s.n⟩ := ⟨by rw [addTo_length]; exact hs, hr⟩
            by_cases hlt : j < 8
            · have c1 := (hB3.cell j).trans (hc_v hok t j hlt)
              have f1 := hB3.frozen j
              have hix := ix8 R j hlt
              have hfin : Blk ((wr.setCell ⟨b, j, none⟩ (.int .u32 (n32 (wd (addTo s.v R.list j) j + wd R.list j)))).drew) b 151 (hc ⟨addTo s.v R.list (j + 1), s.r, s.n⟩ t) ∧
                  w.grownBy ((wr.setCell ⟨b, j, none⟩ (.int .u32 (n32 (wd (addTo s.v R.list j) j + wd R.list j)))).drew) (some b) := by
                have := hB3.set_ j (.int .u32 (n32 (wd (addTo s.v R.list j) j + wd R.list j)))
                rw [hc_set_v hok t j hlt] at this
                exact ⟨this, only_drew (only_set hG3 (.inl rfl) _)⟩
              have HF := Lib.hid hfin
              clear hfin hB3 hG3 hok
              have e3 : 0 ≤ (j : Int) ∧ (j : Int) < 8 := by omega
              go_wp2_with fail
              refine still_tail 11 (by kernel_rfl) (by kernel_rfl) ?_
              simp only [List.take_succ_cons, List.take_zero, List.drop_succ_cons, List.drop_zero]
              repeat still_step
              refine wpStill_nil ?_
              go_wp2
              go_roundw
              case rel =>
                refine ⟨j + 1, by omega, by go_num, ?_⟩
                try simp only [v32_add]
                exact HF.out
              case measure => simp [intOf]; omega
            · obtain rfl : j = 8 := by omega
              have c1 := (hB3.cell 72).trans (hc_n hok t)
              have f1 := hB3.frozen 72
              have hfin : Blk (wr.setCell ⟨b, 72, none⟩ (.int .i64 0)) b 151 (hc ⟨mixv s.v s.r, s.r, 0⟩ t) ∧ w.grownBy (wr.setCell ⟨b, 72, none⟩ (.int .i64 0)) (some b) := by
                have := hB3.set_ 72 (.int .i64 ((0 : Nat) : Int))
                rw [hc_set_n hok] at this
                rw [HM.out]
                exact ⟨this, only_set hG3 (.inl rfl) _⟩
              have HF := Lib.hid hfin
              clear hfin hB3 hG3 hok
              go_wp2
              go_end0
              exact ⟨rfl, HF.out⟩
end
end Go.Proofs.YteajpebkanamgaaDoor
namespace Go.Proofs.YteajpebkanamgaaDoor
open Go.RowKit
set_option linter.unusedSimpArgs false
set_option linter.unusedVariables false
set_option maxRecDepth 100000

theorem hc_splice {s : St} (h : s.okL) (t : BitVec 64) (n m : Nat) (hn : n + m ≤ 64) (l : List UInt8) (hl : l.length = m) :
    ((hc s t).toList.take (8 + n) ++ cb l ++ (hc s t).toList.drop (8 + n + m)).toArray = hc ⟨s.v, s.r.take n ++ l ++ s.r.drop (n + m), s.n⟩ t := by
  have h1 := h.1; have h2 := h.2
  have e1 : (cw s.v).length = 8 := by simp [cw, h1]
  have e2 : (cb s.r).length = 64 := by simp [cb, h2]
  simp only [hc, List.append_assoc]
  congr 1
  rw [List.take_append, List.take_of_length_le (by omega), List.append_assoc, List.drop_append, List.drop_eq_nil_of_le (by omega), e1]
  rw [List.take_append_of_le_length (by omega), show 8 + n + m - 8 = n + m from by omega, show 8 + n - 8 = n from by omega, List.drop_append_of_le_length (by omega)]
  simp [cb, List.map_take, List.map_drop]

def strLen : Value → Nat | .string s => s.size | _ => 0

set_option maxHeartbeats 1600000 in
set_option maxRecDepth 100000 in
theorem take_any (b : Nat) (w : World) (s : St) (t : BitVec 64) (l : List UInt8) (hs : s.ok) (hl : l.length ≤ 140737488355328) (hb : Blk w b 151 (hc s t)) (hk : KsAt w) (hg : 0 < b) :
    Calls Tryd.prog 100 #[.pointer (some ⟨b, 0, none⟩), .string ⟨l.toArray⟩] w fun e w' => e = .returned (.tuple #[]) ∧
      Blk w' b 151 (hc (pushes s l) (t + BitVec.ofNat 64 l.length)) ∧ w.grownBy w' (some b) := by
  have c1 := (hb.cell 73).trans (hc_t hs.l t)
  have f1 := hb.frozen 73
  have hsz : (⟨l.toArray⟩ : ByteArray).size = l.length := by simp [ByteArray.size]
  have ht : IntKind.u64.wrap ((t.toNat : Int) + (l.length : Int)) = ((t + BitVec.ofNat 64 l.length).toNat : Int) := by
    rw [wrap_u64e, BitVec.toNat_add, BitVec.toNat_ofNat]; omega
  obtain ⟨W1, hW1⟩ : ∃ W, Hid (W = w.setCell ⟨b, 73, none⟩ (.int .u64 ((t + BitVec.ofNat 64 l.length).toNat : Int))) := ⟨_, rfl⟩
  have hB1 : Blk W1 b 151 (hc s (t + BitVec.ofNat 64 l.length)) ∧ w.grownBy W1 (some b) := by
    have := hb.set_ 73 (.int .u64 ((t + BitVec.ofNat 64 l.length).toNat : Int))
    rw [hc_set_t hs.l] at this
    rw [hW1.out]
    exact ⟨this, only_set (only_refl _ _) (.inl rfl) _⟩
  have HB1 := Lib.hid hB1
  have HT := Lib.hid ht
  have HK := Lib.hid hk
  obtain ⟨u, hu⟩ : ∃ u, Hid (u = t + BitVec.ofNat 64 l.length) := ⟨_, rfl⟩
  rw [← hu.out] at HT HB1 hW1
  rw [← hu.out]
  clear hb hk hB1 ht
  go_enter Tryd.func100, Tryd.ntmps100
  go_wp2_with fail
  rw [HT.out, ← hW1.out]
  go_loopw [1] (fun v wr => ∃ l1 l2, l = l1 ++ l2 ∧ v = .string ⟨l2.toArray⟩ ∧ Blk wr b 151 (hc (pushes s l1) u) ∧ w.grownBy wr (some b)) (fun v _ => strLen v)
  case atStart => exact ⟨[], l, rfl, rfl, HB1.out.1, HB1.out.2⟩
  case round =>
    obtain ⟨l1, l2, hl12, rfl, hB, hG⟩ := hrel
    have HL := Lib.hid hl12
    clear hl12
    have hok := pushes_ok hs l1
    obtain ⟨s1, hs1⟩ : ∃ s1, Hid (s1 = pushes s l1) := ⟨_, rfl⟩
    rw [← hs1.out] at hok hB
    by_cases hne : l2 = []
    · subst hne
      have he : l = l1 := by rw [HL.out, List.append_nil]
      have HF := Lib.hid (show Blk wr b 151 (hc (pushes s l) u) ∧ w.grownBy wr (some b) by rw [he, ← hs1.out]; exact ⟨hB, hG⟩)
      clear hB hG he
      go_wp2_with fail
      go_end0
      exact ⟨rfl, HF.out⟩
    · have hl2 : 0 < l2.length := List.length_pos_iff.2 hne
      have c1 := (hB.cell 72).trans (hc_n hok.l u)
      have f1 := hB.frozen 72
      have he : l2.isEmpty = false := by simpa using hne
      have hn64 : ¬ (64 = s1.n) := by have := hok.2.2; omega
      obtain ⟨m, hm⟩ : ∃ m, Hid (m = Nat.min l2.length (64 - s1.n)) := ⟨_, rfl⟩
      have hmm : m = min l2.length (64 - s1.n) := hm.out
      have hm0 : 0 < m := by have := hok.2.2; omega
      have hm1 : m ≤ l2.length := by omega
      have hm2 : s1.n + m ≤ 64 := by have := hok.2.2; omega
      have hm3 : s1.n + m = 64 ∨ l2.drop m = [] := by
        rcases Nat.lt_or_ge m l2.length with h | h
        · left; have := hok.2.2; omega
        · right; exact List.drop_eq_nil_of_le h
      have hlen : (l2.take m).length = m := by simp; omega
      obtain ⟨r2, hr2⟩ : ∃ r2, Hid (r2 = s1.r.take s1.n ++ l2.take m ++ s1.r.drop (s1.n + m)) := ⟨_, rfl⟩
      obtain ⟨W2, hW2⟩ : ∃ W2, Hid (W2 = wr.drew.setRow b ((hc s1 u).toList.take (8 + s1.n) ++ cb (l2.take m) ++ (hc s1 u).toList.drop (8 + s1.n + m)).toArray) := ⟨_, rfl⟩
      have hcp : (Builtin.copy_ #[84, 9] 3 #[.slice (some ⟨b, 8 + s1.n, none⟩) (64 - s1.n) (64 - s1.n), .string ⟨l2.toArray⟩]).run Tryd.prog wr.drew = .ok (.int .i64 (m : Int)) W2 := by
        rw [hW2.out]
        exact run_copy_str wr.drew _ _ _ 5 b (8 + s1.n) _ _ l2 _ _ m Tryd.underlying84 (by kernel_rfl) hB.drew hm.out (by rw [hc_size hok.l]; omega)
      have hB2 : Blk W2 b 151 (hc ⟨s1.v, r2, s1.n⟩ u) ∧ w.grownBy W2 (some b) := by
        rw [hW2.out, hr2.out]
        refine ⟨?_, only_setRow (only_drew hG) _⟩
        rw [← hc_splice hok.l u s1.n m hm2 (l2.take m) hlen]
        exact hB.drew.setRow _
      have hok2 : St.okL ⟨s1.v, r2, s1.n⟩ := ⟨hok.1, by rw [hr2.out]; have := hok.2.1; simp; omega⟩
      obtain ⟨W3, hW3⟩ : ∃ W3, Hid (W3 = W2.setCell ⟨b, 72, none⟩ (.int .i64 ((s1.n : Int) + (m : Int)))) := ⟨_, rfl⟩
      have hB3 : Blk W3 b 151 (hc ⟨s1.v, r2, s1.n + m⟩ u) ∧ w.grownBy W3 (some b) := by
        have := hB2.1.set_ 72 (.int .i64 (((s1.n + m : Nat)) : Int))
        rw [hc_set_n hok2] at this
        rw [hW3.out]
        rw [Int.natCast_add] at this
        exact ⟨this, only_set hB2.2 (.inl rfl) _⟩
      have c2 := (hB2.1.cell 72).trans (hc_n hok2 u)
      have f2 := hB2.1.frozen 72
      have hpt := pushes_part s1 hok (l2.take m) (by rw [hlen]; exact hm2)
      rw [hlen, ← hr2.out] at hpt
      have HPT := Lib.hid hpt
      have hx : (⟨l2.toArray⟩ : ByteArray).extract m l2.length = ⟨(l2.drop m).toArray⟩ := extract_eq l2 m
      have HX := Lib.hid hx
      have HB3 := Lib.hid hB3
      have HM3 := Lib.hid hm3
      have hdl : (l2.drop m).length < l2.length := by rw [List.length_drop]; omega
      have HDL := Lib.hid hdl
      have hm4 : (m : Int) ≤ (l2.length : Int) := by omega
      have HKW := Lib.hid (show KsAt W3 from fun i hi => hB3.2.cell (HK.out i hi) (by simp; omega))
      have hl' : l = (l1 ++ l2.take m) ++ l2.drop m := by rw [HL.out, List.append_assoc, List.take_append_drop]
      have HL' := Lib.hid hl'
      have hp' : pushes s (l1 ++ l2.take m) = pushes s1 (l2.take m) := by rw [pushes_append, ← hs1.out]
      have HP' := Lib.hid hp'
      have HR2 := Lib.hid hok2.2
      clear hB hG hB2 hpt hx hmm hm3 hB3 hm1 hdl hl' hp' hlen
      have e3 : 0 ≤ (s1.n : Int) ∧ (s1.n : Int) ≤ 64 := ⟨by omega, by omega⟩
      by_cases hf : s1.n + m = 64
      · have hfull : ((s1.n : Int) + (m : Int) == 64) = true := by simp; omega
        have HF := Lib.hid hf
        clear hf
        go_wp2_with fail
        refine still_tail 9 (by kernel_rfl) (by kernel_rfl) ?_
        simp only [List.take_succ_cons, List.take_zero, List.drop_succ_cons, List.drop_zero]
        repeat still_step
        refine wpStill_nil ?_
        go_wp2_with fail
        rw [← hW3.out]
        refine (mix_any b W3 ⟨s1.v, r2, s1.n + m⟩ u hok.1 HR2.out HB3.out.1 HKW.out hg).mono ?_
        rintro e w4 ⟨rfl, h4, g4⟩
        have hfin : Blk w4 b 151 (hc (pushes s (l1 ++ l2.take m)) u) ∧ w.grownBy w4 (some b) := by
          rw [HP'.out, HPT.out, if_pos HF.out]
          exact ⟨h4, only_trans HB3.out.2 g4⟩
        have HFI := Lib.hid hfin
        clear hfin h4 g4
        go_wp2_with fail
        rw [HX.out]
        exact ⟨⟨_, _, HL'.out, rfl, HFI.out.1, HFI.out.2⟩, by simpa [strLen, ByteArray.size] using HDL.out⟩
      · have hfull : ((s1.n : Int) + (m : Int) == 64) = false := by simp; omega
        have hd0 : l2.drop m = [] := HM3.out.resolve_left hf
        have hfin : Blk W3 b 151 (hc (pushes s (l1 ++ l2.take m)) u) ∧ w.grownBy W3 (some b) := by
          rw [HP'.out, HPT.out, if_neg hf]
          exact HB3.out
        have HFI := Lib.hid hfin
        clear hfin hf hd0
        go_wp2_with fail
        refine still_tail 9 (by kernel_rfl) (by kernel_rfl) ?_
        simp only [List.take_succ_cons, List.take_zero, List.drop_succ_cons, List.drop_zero]
        repeat still_step
        refine wpStill_nil ?_
        go_wp2_with fail
        rw [HX.out, ← hW3.out]
        exact ⟨⟨_, _, HL'.out, rfl, HFI.out.1, HFI.out.2⟩, by simpa [strLen, ByteArray.size] using HDL.out⟩
end Go.Proofs.YteajpebkanamgaaDoor
namespace Go.Proofs.YteajpebkanamgaaDoor
open Go.RowKit
set_option linter.unusedSimpArgs false
set_option linter.unusedVariables false
set_option maxRecDepth 100000

set_option maxHeartbeats 800000 in
set_option maxRecDepth 100000 in
theorem begin_any (w : World) :
    Calls Tryd.prog 99 #[] w fun e w' => e = .returned (.pointer (some ⟨w.heap.size, 0, none⟩)) ∧ w' = w.alloc (.cells (hc st0 0) 151) := by
  have z45 : ∀ w, (zeroValue 149).run Tryd.prog w = .ok (.agg #[.int .u32 0, .int .u32 0, .int .u32 0, .int .u32 0, .int .u32 0, .int .u32 0, .int .u32 0, .int .u32 0]) w := fun _ => by kernel_rfl
  obtain ⟨Z, hZ⟩ : ∃ Z, Hid (Z = hc ⟨List.replicate 8 0, List.replicate 64 0, 0⟩ 0) := ⟨_, rfl⟩
  have z58 : ∀ w, (zeroValue 151).run Tryd.prog w = .ok (.agg Z) w := by rw [hZ.out]; exact fun _ => by kernel_rfl
  have hsz : ¬ (Z.size < 8) := by rw [hZ.out]; decide
  go_enter Tryd.func99, Tryd.ntmps99
  go_wp2
  go_ret
  refine ⟨rfl, ?_⟩
  have hfin : ((((((((Z.setIfInBounds 0 (.int .u32 1779033703)).setIfInBounds 1 (.int .u32 3144134277)).setIfInBounds 2 (.int .u32 1013904242)).setIfInBounds 3 (.int .u32 2773480762)).setIfInBounds
      4 (.int .u32 1359893119)).setIfInBounds 5 (.int .u32 2600822924)).setIfInBounds 6 (.int .u32 528734635)).setIfInBounds 7 (.int .u32 1541459225)) = hc st0 0 := by
    rw [hZ.out]
    kernel_rfl
  rw [hfin]
def eightAt (n k : Nat) : UInt8 := UInt8.ofNat (n / 2 ^ (56 - 8 * k))
def eightTo (n : Nat) : Nat → List UInt8
  | 0 => List.replicate 8 0
  | k + 1 => (eightTo n k).set k (eightAt n k)
theorem eightTo_length (n k : Nat) : (eightTo n k).length = 8 := by
  induction k with
  | zero => rfl
  | succ k ih => simp [eightTo, ih]
theorem eightTo_8 (n : Nat) : eightTo n 8 = eightL n := by
  simp [eightTo, eightL, eightAt, List.replicate]
set_option maxHeartbeats 800000 in
set_option maxRecDepth 100000 in
theorem eight_any (n : Nat) (w : World) (hn : n < 18446744073709551616) :
    Calls Tryd.prog 108 #[.int .u64 n] w fun e w' => e = .returned (.string ⟨(eightL n).toArray⟩) ∧ Below w.heap.size w w' := by
  go_enter Tryd.func108, Tryd.ntmps108
  go_wp2_with fail
  go_loopw [5] (fun v wr => ∃ k : Nat, k ≤ 8 ∧ v = .int .i64 k ∧ Blk wr w.heap.size 161 (cb (eightTo n k)).toArray ∧ Below w.heap.size w wr) (fun v _ => 8 - (intOf v).toNat)
  case atStart => exact ⟨0, by omega, rfl, Blk.new _ _ _, (Below.refl _ _).alloc (Nat.le_refl _) _⟩
  case round =>
    obtain ⟨k, hk, rfl, hB, hG⟩ := hrel
    by_cases hlt : k < 8
    · have c1 := (hB.cell k).trans (cb_get (eightTo n k) k (by rw [eightTo_length]; omega))
      have f1 := hB.frozen k
      have e1 := n8_shr n (56 - 8 * k)
      have hfin : Blk (wr.setCell ⟨w.heap.size, k, none⟩ (.int .u8 (((n : Int) / 2 ^ (56 - 8 * k)) % 256))) w.heap.size 161 (cb (eightTo n (k + 1))).toArray ∧
          Below w.heap.size w (wr.setCell ⟨w.heap.size, k, none⟩ (.int .u8 (((n : Int) / 2 ^ (56 - 8 * k)) % 256))) := by
        have := hB.set_ k (.int .u8 (n8 (eightAt n k)))
        rw [cb_set] at this
        rw [e1]
        exact ⟨this, hG.setCell (Nat.le_refl _) _⟩
      have HF := Lib.hid hfin
      have e2 : 0 ≤ 56 - 8 * (k : Int) := by omega
      have e3 : 0 ≤ (k : Int) ∧ (k : Int) < 8 := by omega
      clear hfin hB hG e1
      go_wp2_with fail
      exact ⟨⟨k + 1, by omega, by go_num, HF.out⟩, by simp [intOf]; omega⟩
    · obtain rfl : k = 8 := by omega
      have hcv := run_bytes_cells (P := Tryd.prog) wr 84 9 5 Tryd.underlying84 Tryd.underlying5 Tryd.underlying9 w.heap.size 0 8 (eightTo n 8) 8 (eightTo_length n 8) (fun i hi => by
        rw [Nat.zero_add]; exact (hB.cell i).trans (cb_get _ i (by rw [eightTo_length]; omega)))
      rw [eightTo_8] at hcv
      have HG := Lib.hid hG
      clear hB hG
      go_wp2_with fail
      go_ret
      exact ⟨rfl, HG.out⟩
end Go.Proofs.YteajpebkanamgaaDoor
namespace Go.Proofs.YteajpebkanamgaaDoor
open Go.RowKit
set_option linter.unusedSimpArgs false
set_option linter.unusedVariables false
set_option maxRecDepth 100000

theorem push_n {s : St} (h : s.ok) (b : UInt8) : (push s b).n = (s.n + 1) % 64 := by
  have := h.2.2
  unfold push
  split
  · show 0 = _; omega
  · show s.n + 1 = _; omega
theorem pushes_count (l : List UInt8) : ∀ {s : St}, s.ok → (pushes s l).n = (s.n + l.length) % 64 := by
  induction l with
  | nil => intro s h; have := h.2.2; show s.n = (s.n + 0) % 64; omega
  | cons b l ih =>
    intro s h
    show (pushes (push s b) l).n = _
    rw [ih (push_ok h b), push_n h]
    simp only [List.length_cons]
    omega
def outAt (v : List (BitVec 32)) (i : Nat) : UInt8 := w8 (wd v (i / 4) >>> (24 - i % 4 * 8))
def outTo (v : List (BitVec 32)) : Nat → List UInt8
  | 0 => List.replicate 32 0
  | k + 1 => (outTo v k).set k (outAt v k)
theorem outTo_length (v : List (BitVec 32)) (k : Nat) : (outTo v k).length = 32 := by
  induction k with
  | zero => rfl
  | succ k ih => simp [outTo, ih]
theorem outTo_32 (v : List (BitVec 32)) (h : v.length = 8) : outTo v 32 = outL v := by
  match v, h with
  | [a, b, c, d, e, f, g, k], _ => simp [outTo, outL, outAt, wordL, wd, List.replicate]
theorem v32_shrz (x : BitVec 32) (k : Nat) (hk : k ≤ 32) : n32 x / 2 ^ k = n32 (x >>> k) := by
  rw [← v32_shr_nat, Int.natCast_pow]; rfl

set_option maxHeartbeats 1600000 in
set_option maxRecDepth 100000 in
theorem end_any (b : Nat) (w : World) (s : St) (t : BitVec 64) (hs : s.ok) (hb : Blk w b 151 (hc s t)) (hk : KsAt w) (hg : 0 < b) :
    Calls Tryd.prog 101 #[.pointer (some ⟨b, 0, none⟩)] w fun e w' => e = .returned (.string ⟨(finish s t.toNat).toArray⟩) ∧ w.grownBy w' (some b) := by
  have c1 := (hb.cell 73).trans (hc_t hs.l t)
  have ht : IntKind.u64.wrap ((t.toNat : Int) * 8) = ((t.toNat * 8 % 18446744073709551616 : Nat) : Int) := by
    rw [wrap_u64e]; omega
  obtain ⟨q8, hq8⟩ : ∃ q, Hid (q = t.toNat * 8 % 18446744073709551616) := ⟨_, rfl⟩
  have hq9 : q8 < 18446744073709551616 := by rw [hq8.out]; omega
  rw [← hq8.out] at ht
  have HT := Lib.hid ht
  have HB := Lib.hid hb
  have HK := Lib.hid hk
  clear hb hk ht
  have HS1 := Lib.hid (push_ok hs 128)
  obtain ⟨s1, hs1⟩ : ∃ s1, Hid (s1 = push s 128) := ⟨_, rfl⟩
  rw [← hs1.out] at HS1
  obtain ⟨z, hz⟩ : ∃ z, Hid (z = (120 - s1.n) % 64) := ⟨_, rfl⟩
  go_enter Tryd.func101, Tryd.ntmps101
  go_wp2_with fail
  rw [HT.out]
  refine (take_any b _ s t [128] hs (by decide) HB.out HK.out hg).mono ?_
  rintro e w1 ⟨rfl, h1, g1⟩
  have H1 := Lib.hid (show Blk w1 b 151 (hc (pushes s1 (List.replicate 0 0)) (t + BitVec.ofNat 64 1)) by rw [hs1.out]; exact h1)
  have G1 := Lib.hid g1
  clear h1 g1
  go_wp2_with fail
  go_loopg [] z (fun q wr => q ≤ z ∧ (∃ tj, Blk wr b 151 (hc (pushes s1 (List.replicate (z - q) 0)) tj)) ∧ w.grownBy wr (some b))
  case atStart => exact ⟨Nat.le_refl _, ⟨_, by rw [Nat.sub_self]; exact H1.out⟩, G1.out⟩
  case round =>
    obtain ⟨hq, ⟨tj, hB⟩, hG⟩ := hrel
    have hok := pushes_ok HS1.out (List.replicate (z - gk) 0)
    have hcnt := pushes_count (List.replicate (z - gk) 0) HS1.out
    rw [List.length_replicate] at hcnt
    have hz' := hz.out
    have hsn := HS1.out.2.2
    have c2 := (hB.cell 72).trans (hc_n hok.l tj)
    rw [hcnt] at c2
    have HKW := Lib.hid (show KsAt wr from fun i hi => hG.cell (HK.out i hi) (by simp; omega))
    cases gk with
    | zero =>
      have he : (((s1.n + (z - 0)) % 64 : Nat) : Int) = 56 := by omega
      rw [he] at c2
      have hp : pushes s1 (List.replicate (z - 0) 0) = padZ s1 := by rw [Nat.sub_zero, hz.out]; rfl
      rw [hp] at hB hok
      have HB2 := Lib.hid hB
      have HG2 := Lib.hid hG
      have HOK := Lib.hid hok
      clear hB hG hcnt hz' hsn hp hok he hq
      go_wp2_with fail
      refine (eight_any q8 _ hq9).mono ?_
      rintro e w2 ⟨rfl, hb2⟩
      have H2 := Lib.hid hb2
      clear hb2
      go_wp2_with fail
      refine (take_any b _ (padZ s1) tj (eightL q8) HOK.out (by rw [eightL_length]; decide) (HB2.out.below H2.out HB2.out.lt) (fun i hi => (H2.out.cell (by have := HB2.out.lt; show 0 < _; omega)).trans (HKW.out i hi)) hg).mono ?_
      rintro e w3 ⟨rfl, hb3, hg3⟩
      obtain ⟨s3, hs3⟩ : ∃ s3, Hid (s3 = pushes (padZ s1) (eightL q8)) := ⟨_, rfl⟩
      have HV := Lib.hid (pushes_ok HOK.out (eightL q8)).l
      rw [← hs3.out] at hb3 HV
      have HB3 := Lib.hid hb3
      have HG3 := Lib.hid (only_trans (only_of_below HG2.out H2.out) hg3)
      have hfi : (finish s t.toNat) = outL s3.v := by
        rw [hs3.out, hq8.out, hs1.out]; rfl
      have HFI := Lib.hid hfi
      clear hb3 hg3 hfi c2
      go_wp2_with fail
      go_loopw [24] (fun v wr => ∃ k : Nat, k ≤ 32 ∧ v = .int .i64 k ∧ Blk wr w3.heap.size 153 (cb (outTo s3.v k)).toArray ∧ Below w3.heap.size w3 wr) (fun v _ => 32 - (intOf v).toNat)
      case atStart => exact ⟨0, by omega, rfl, Blk.new _ _ _, (Below.refl _ _).alloc (Nat.le_refl _) _⟩
      case round =>
        obtain ⟨k, hk, rfl, hB4, hG4⟩ := hrel
        by_cases hlt : k < 32
        · have d1 := ((HB3.out.below hG4 HB3.out.lt).cell (k / 4)).trans (hc_v HV.out _ (k / 4) (by omega))
          have d2 := (hB4.cell k).trans (cb_get (outTo s3.v k) k (by rw [outTo_length]; omega))
          have f2 := hB4.frozen k
          have hsh := v32_shrz (wd s3.v (k / 4)) (24 - k % 4 * 8) (by omega)
          have hfin : Blk (wr.setCell ⟨w3.heap.size, k, none⟩ (.int .u8 (n8 (outAt s3.v k)))) w3.heap.size 153 (cb (outTo s3.v (k + 1))).toArray ∧
              Below w3.heap.size w3 (wr.setCell ⟨w3.heap.size, k, none⟩ (.int .u8 (n8 (outAt s3.v k)))) := by
            have := hB4.set_ k (.int .u8 (n8 (outAt s3.v k)))
            rw [cb_set] at this
            exact ⟨this, hG4.setCell (Nat.le_refl _) _⟩
          have HF := Lib.hid hfin
          have HSH := Lib.hid hsh
          clear hfin hB4 hG4 hsh
          have e2 : 0 ≤ 24 - (k : Int) % 4 * 8 := by omega
          have e3 : 0 ≤ (k : Int) ∧ (k : Int) < 32 := by omega
          have e4 : 0 ≤ (k : Int) / 4 ∧ (k : Int) / 4 < 8 := by omega
          go_wp2_with fail
          rw [HSH.out, w8_n8]
          exact ⟨⟨k + 1, by omega, by go_num, HF.out⟩, by simp [intOf]; omega⟩
        · obtain rfl : k = 32 := by omega
          have hcv := run_bytes_cells (P := Tryd.prog) wr 84 9 5 Tryd.underlying84 Tryd.underlying5 Tryd.underlying9 w3.heap.size 0 32 (outTo s3.v 32) 32 (outTo_length _ _) (fun i hi => by
            rw [Nat.zero_add]; exact (hB4.cell i).trans (cb_get _ i (by rw [outTo_length]; omega)))
          rw [outTo_32 _ HV.out.1, ← HFI.out] at hcv
          have HG5 := Lib.hid (only_of_below HG3.out hG4)
          clear hB4 hG4
          go_wp2_with fail
          go_ret
          exact ⟨rfl, HG5.out⟩
    | succ k1 =>
      have he : ((((s1.n + (z - (k1 + 1))) % 64 : Nat) : Int) == 56) = false := by simp; omega
      have he2 : ((((s1.n + (z - (k1 + 1))) % 64 : Nat) : Int) != 56) = true := by simp; omega
      have hp : pushes s1 (List.replicate (z - k1) 0) = pushes (pushes s1 (List.replicate (z - (k1 + 1)) 0)) [0] := by
        rw [← pushes_append, show z - k1 = (z - (k1 + 1)) + 1 from by omega, List.replicate_succ']
      have HP := Lib.hid hp
      have HB2 := Lib.hid hB
      have HG2 := Lib.hid hG
      have HOK := Lib.hid hok
      obtain ⟨n1, hn1⟩ : ∃ n1, Hid (n1 = (s1.n + (z - (k1 + 1))) % 64) := ⟨_, rfl⟩
      rw [← hn1.out] at c2 he he2
      clear hB hG hcnt hz' hsn hp hok
      go_wp2_with fail
      refine (take_any b _ _ tj [0] HOK.out (by decide) HB2.out HKW.out hg).mono ?_
      rintro e w2 ⟨rfl, h2, g2⟩
      rw [← HP.out] at h2
      have H2 := Lib.hid h2
      have G2 := Lib.hid (only_trans HG2.out g2)
      clear h2 g2
      go_wp2_with fail
      go_roundg k1
      case measure => omega
      case rel => exact ⟨by omega, ⟨_, H2.out⟩, G2.out⟩
end Go.Proofs.YteajpebkanamgaaDoor
namespace Go.Proofs.YteajpebkanamgaaDoor
open Go.RowKit
set_option linter.unusedSimpArgs false
set_option linter.unusedVariables false
set_option maxRecDepth 100000

/-- a slice of texts. -/
def Strs (w : World) (A : Option Addr) (n : Nat) (ls : List (List UInt8)) : Prop :=
  ls.length = n ∧ (0 < n → ∃ g o, A = some ⟨g, o, none⟩ ∧ g < w.heap.size ∧ ∀ i, i < n → w.cell? ⟨g, o + i, none⟩ = some (.string ⟨(ls.getD i []).toArray⟩))
theorem Strs.below {w w' : World} {A : Option Addr} {n : Nat} {ls : List (List UInt8)} (h : Strs w A n ls) (hb : Below w.heap.size w w') : Strs w' A n ls :=
  ⟨h.1, fun hn => by
    obtain ⟨g, o, e, hg, hc⟩ := h.2 hn
    exact ⟨g, o, e, Nat.lt_of_lt_of_le hg hb.size, fun i hi => (hb.cell (p := ⟨g, o + i, none⟩) hg).trans (hc i hi)⟩⟩
def sumTo (ls : List (List UInt8)) (k : Nat) : List UInt8 := (ls.take k).flatten
theorem sumTo_succ (ls : List (List UInt8)) (k : Nat) (h : k < ls.length) : sumTo ls (k + 1) = sumTo ls k ++ ls.getD k [] := by
  unfold sumTo
  rw [List.take_succ_eq_append_getElem h, List.flatten_append]
  simp [List.getElem?_eq_getElem h]
theorem ofNat_add64 (a b : Nat) : BitVec.ofNat 64 a + BitVec.ofNat 64 b = BitVec.ofNat 64 (a + b) := by
  rw [BitVec.ofNat_add]
theorem finish_mod (s : St) (n : Nat) : finish s (BitVec.ofNat 64 n).toNat = finish s n := by
  unfold finish
  rw [BitVec.toNat_ofNat, show n % 2 ^ 64 * 8 % 18446744073709551616 = n * 8 % 18446744073709551616 from by omega]
set_option maxHeartbeats 1600000 in
set_option maxRecDepth 100000 in
theorem sum_any (A : Option Addr) (n c : Nat) (w : World) (ls : List (List UInt8)) (h : Strs w A n ls) (hlen : ∀ l ∈ ls, l.length ≤ 140737488355328) (hn : n ≤ 9223372036854775807) (hk : KsAt w) (hg : 0 < w.heap.size) :
    Calls Tryd.prog 88 #[.slice A n c] w fun e w' => e = .returned (.string ⟨(sha ls.flatten).toArray⟩) ∧ Below w.heap.size w w' := by
  have H := Lib.hid h
  have HL := Lib.hid hlen
  have HK := Lib.hid hk
  clear h hlen hk
  go_enter Tryd.func88, Tryd.ntmps88
  go_wp2_with fail
  refine (begin_any w).mono ?_
  rintro e w1 ⟨rfl, hw1⟩
  have h1 := Lib.hid (show Blk w1 w.heap.size 151 (hc (pushes st0 (sumTo ls 0)) (BitVec.ofNat 64 (sumTo ls 0).length)) by rw [hw1]; exact Blk.new _ _ _)
  have b1 := Lib.hid (show Below w.heap.size w w1 by rw [hw1]; exact (Below.refl _ _).alloc (Nat.le_refl _) _)
  clear hw1
  go_wp2_with fail
  go_loopw [9] (fun v wr => ∃ k : Nat, k ≤ n ∧ v = .int .i64 k ∧ Blk wr w.heap.size 151 (hc (pushes st0 (sumTo ls k)) (BitVec.ofNat 64 (sumTo ls k).length)) ∧ Below w.heap.size w wr) (fun v _ => n - (intOf v).toNat)
  case atStart => exact ⟨0, by omega, rfl, h1.out, b1.out⟩
  case round =>
    obtain ⟨k, hk, rfl, hB, hG⟩ := hrel
    have HKW := Lib.hid (show KsAt wr from fun i hi => (hG.cell (p := ⟨0, i, none⟩) hg).trans (HK.out i hi))
    by_cases hlt : k < n
    · obtain ⟨g, o, rfl, hgb, hcell⟩ := (H.out.below hG).2 (by omega)
      have c1 := hcell k hlt
      have hll : (ls.getD k []).length ≤ 140737488355328 := by
        have : k < ls.length := by rw [H.out.1]; exact hlt
        rw [List.getD_eq_getElem?_getD, List.getElem?_eq_getElem this]
        exact HL.out _ (List.getElem_mem this)
      have HLL := Lib.hid hll
      have hsu := sumTo_succ ls k (by rw [H.out.1]; exact hlt)
      have HSU := Lib.hid hsu
      obtain ⟨lk, hlk⟩ : ∃ lk, Hid (lk = ls.getD k []) := ⟨_, rfl⟩
      rw [← hlk.out] at c1 HLL HSU
      have HB := Lib.hid hB
      have HG := Lib.hid hG
      clear hcell hll hsu hB hG
      go_wp2_with fail
      refine (take_any w.heap.size _ _ _ lk (pushes_ok st0_ok _) HLL.out HB.out HKW.out hg).mono ?_
      rintro e w2 ⟨rfl, h2, g2⟩
      rw [← pushes_append, ← HSU.out, ofNat_add64, ← List.length_append, ← HSU.out] at h2
      have H2 := Lib.hid h2
      have G2 := Lib.hid (below_of_only HG.out g2 (Nat.le_refl _) HG.out.size)
      clear h2 g2
      go_wp2_with fail
      exact ⟨⟨k + 1, by omega, by go_num, H2.out, G2.out⟩, by simp [intOf]; omega⟩
    · obtain rfl : k = n := by omega
      have hfl : sumTo ls k = ls.flatten := by unfold sumTo; rw [← H.out.1, List.take_length]
      rw [hfl] at hB
      have HB := Lib.hid hB
      have HG := Lib.hid hG
      clear hB hG hfl
      go_wp2_with fail
      refine (end_any w.heap.size _ _ _ (pushes_ok st0_ok _) HB.out HKW.out hg).mono ?_
      rintro e w2 ⟨rfl, g2⟩
      obtain ⟨R, hR⟩ : ∃ R, Hid (R = sha ls.flatten) := ⟨_, rfl⟩
      rw [finish_mod, show finish (pushes st0 ls.flatten) ls.flatten.length = R from hR.out.symm]
      have G2 := Lib.hid (below_of_only HG.out g2 (Nat.le_refl _) HG.out.size)
      clear g2
      go_wp2_with fail
      go_ret
      refine ⟨?_, G2.out⟩
      rw [hR.out]
      rfl

theorem extract_take (l : List UInt8) (m : Nat) : (⟨l.toArray⟩ : ByteArray).extract 0 m = ⟨(l.take m).toArray⟩ := by
  apply ByteArray.ext
  rw [ByteArray.data_extract]
  simp
end Go.Proofs.YteajpebkanamgaaDoor
namespace Go.Proofs.YteajpebkanamgaaDoor
open Go.RowKit
set_option linter.unusedSimpArgs false
set_option linter.unusedVariables false

/-- a slice of one-cell elements, made by the call since block B. -/
def Own (e : TypeId) (w : World) (B : Nat) (v : Value) (xs : List Value) : Prop := w.ownsRow B e 1 v xs.length xs
/-- what is known of the elements' type. -/
def Elem (P : Program) (t e : TypeId) (z : Value) (by_ : Nat) : Prop :=
  P.underlying t = some (.slice e) ∧ (P.info? e).map (fun i => (i.zero, i.size, i.bytes)) = some (some z, 1, by_) ∧ z.cells.size = 1

section
variable {P : Program} {t e ty : TypeId} {z : Value} {by_ : Nat} {w w' : World} {B : Nat} {v : Value} {xs : List Value}
theorem my_own_nil (e : TypeId) (w : World) (B : Nat) : Own e w B (.slice none 0 0) [] := World.ownsRow_nil w B e 1
theorem Own.form (h : Own e w B v xs) : ∃ A c, v = .slice A xs.length c := by
  rcases h.2 with ⟨h1, h2⟩ | ⟨g, cap, cur, h1, _⟩
  · exact ⟨none, 0, by rw [h1, h2]⟩
  · exact ⟨_, _, h1⟩
theorem Own.alloc (h : Own e w B v xs) (o : Obj) : Own e (w.alloc o) B v xs := World.ownsRow.alloc h o
theorem Own.drew (h : Own e w B v xs) : Own e w.drew B v xs := h
theorem Own.drewN (h : Own e w B v xs) (n : Nat) : Own e (w.drewN n) B v xs := h
theorem Own.lt (h : Own e w B v xs) : ∀ k, v.ownBlock = some k → B ≤ k ∧ k < w.heap.size := World.ownsRow.lt h
theorem Own.below (h : Own e w B v xs) (hb : Below w.heap.size w w') : Own e w' B v xs := by
  refine World.ownsRow.kept (row := none) h ⟨hb.os, hb.tape, hb.output, hb.size, fun k hk _ => hb.block k hk⟩ ?_
  cases hv : v.ownBlock with
  | none => exact .inl rfl
  | some g => exact .inr (by simp)
theorem Own.grown (h : Own e w B v xs) {row : Option Nat} (hg : w.grownBy w' row) (hne : v.ownBlock = none ∨ v.ownBlock ≠ row) : Own e w' B v xs := World.ownsRow.kept h hg hne
/-- 'append(v, s...)', s a text. -/
theorem own_append_str (he : Elem P t e (.int .u8 0) 1) {u : TypeId} (hu : P.underlying u = some .string) (h : Own e w B v xs) (l : List UInt8)
    (hl : xs.length + l.length ≤ 140737488355328) (hB : B ≤ w.heap.size) :
    ∃ A c' w', (Builtin.append_ #[t, u] ty #[v, .string ⟨l.toArray⟩]).run P w = .ok (.slice A (xs.length + l.length) c') w' ∧ Own e w' B (.slice A (xs.length + l.length) c') (xs ++ cb l) ∧ w.grownBy w' v.ownBlock := by
  obtain ⟨i, hi, hz, hs, hby⟩ := info_parts he.2.1
  have hsz : (⟨l.toArray⟩ : ByteArray).size = l.length := by simp [ByteArray.size]
  obtain ⟨v', w', hr, h2, h3, _⟩ := Lib.run_append_own_string (P := P) w B t u ty e i he.1 hu hi hz hs hby v xs.length xs h ⟨l.toArray⟩ (by rw [hsz]; unfold maxLen; omega) (by rw [hsz]; exact hl) hB
  rw [hsz] at h2
  have hcl : (cb l).length = l.length := by simp [cb]
  have ho : Own e w' B v' (xs ++ cb l) := by
    unfold Own
    rw [List.length_append, hcl]
    exact h2
  obtain ⟨A, c', rfl⟩ := ho.form
  rw [List.length_append, hcl] at ho hr
  exact ⟨A, c', w', hr, ho, h3⟩
theorem Own.cell {g cap : Nat} {n : Nat} (h : Own e w B (.slice (some ⟨g, 0, none⟩) n cap) xs) (j : Nat) (hj : j < xs.length) : w.cell? ⟨g, j, none⟩ = xs[j]? := by
  obtain ⟨A, c, hv⟩ := h.form
  injection hv with h1 h2 h3
  subst h2
  exact World.ownsRow.cellAt h j (by omega)
theorem Own.frozen {g cap n : Nat} (h : Own e w B (.slice (some ⟨g, 0, none⟩) n cap) xs) (j : Nat) : w.frozen? ⟨g, j, none⟩ = false := by
  obtain ⟨A, c, hv⟩ := h.form
  injection hv with h1 h2 h3
  subst h2
  exact World.ownsRow.frozenAt h j
theorem Own.set_ {g cap n : Nat} (h : Own e w B (.slice (some ⟨g, 0, none⟩) n cap) xs) (j : Nat) (u : Value) : Own e (w.setCell ⟨g, j, none⟩ u) B (.slice (some ⟨g, 0, none⟩) n cap) (xs.set j u) := by
  obtain ⟨A, c, hv⟩ := h.form
  injection hv with h1 h2 h3
  subst h2
  have := (World.ownsRow.stored h j u).1
  unfold Own
  rw [List.length_set]
  exact this
theorem Own.at_ {A : Option Addr} {n cap : Nat} (h : Own e w B (.slice A n cap) xs) (hn : 0 < xs.length) : ∃ g, A = some ⟨g, 0, none⟩ ∧ B ≤ g ∧ g < w.heap.size := by
  rcases h.2 with ⟨h1, h2⟩ | ⟨g, cap', cur, h1, hB, hg, h3⟩
  · omega
  · injection h1 with h1 _ _
    refine ⟨g, h1, hB, ?_⟩
    rcases Nat.lt_or_ge g w.heap.size with hlt | hge
    · exact hlt
    · rw [Array.getElem?_eq_none hge] at hg; cases hg
/-- 'string(b)'. -/
theorem my_own_string (hs : P.underlying t = some (.slice e)) (he : P.underlying e = some (.int .u8)) {d : TypeId} (hd : P.underlying d = some .string) {l : List UInt8} (h : Own e w B v (cb l)) :
    (convert t d v).run P w = .ok (.string ⟨l.toArray⟩) w := by
  rcases h.2 with ⟨h1, h2⟩ | ⟨g, cap, cur, h1, _⟩
  · have hl : l = [] := by simpa [cb] using h2
    subst hl; subst h1
    exact run_convert_bytes_nil w t e hs he 0 0 d hd
  · subst h1
    have hl : l.length = (cb l).length := by simp [cb]
    refine run_bytes_cells w t d e hs he hd g 0 cap l _ hl (fun i hi => ?_)
    rw [Nat.zero_add, h.cell i hi]
    rw [← hl] at hi
    simp [cb, bd, List.getElem?_eq_getElem hi]
end
/-- an append whose run is known, in a plain region. -/
theorem wpList_append_run {P : Program} {w w' : World} {ops : Array Oper} {rest : List Oper} {o : Oper} {a : Act} {Q : Exit → Act → World → Prop} {v sv xv : Value} (hgd : o.guard = none) (s x : Operand) (t u : TypeId)
    (ho : o.op = .call { callee := .builtin .append, args := #[s, x], argTypes := #[t, u] }) (hs : a.eval s = sv) (hx : a.eval x = xv)
    (hrun : (Builtin.append_ #[t, u] o.type #[sv, xv]).run P w = .ok v w') (h : wpList P ops Q rest (a.put o.dst v) w') : wpList P ops Q (o :: rest) a w := by
  refine wpList_plain hgd fun K hK => ?_
  unfold Oper.wp execOp
  simp only [ho, resolve, invoke, builtin, Sem.run_bind, Sem.run_pure, Result.andThen_ok, List.map_toArray, List.map_cons, List.map_nil, hs, hx, hrun]
  exact hK _ _ h
theorem cb_append (a b : List UInt8) : cb (a ++ b) = cb a ++ cb b := by simp [cb]
theorem cb_length (a : List UInt8) : (cb a).length = a.length := by simp [cb]
/-- texts as cells. -/
def cstr (ls : List (List UInt8)) : List Value := ls.map fun l => .string ⟨l.toArray⟩
theorem cstr_append (a b : List (List UInt8)) : cstr (a ++ b) = cstr a ++ cstr b := by simp [cstr]
theorem cstr_length (a : List (List UInt8)) : (cstr a).length = a.length := by simp [cstr]
theorem cstr_get (a : List (List UInt8)) (i : Nat) (h : i < a.length) : (cstr a)[i]? = some (.string ⟨(a.getD i []).toArray⟩) := by simp [cstr, List.getElem?_eq_getElem h]
theorem extract_mid (l : List UInt8) (i j : Nat) : (⟨l.toArray⟩ : ByteArray).extract i j = ⟨((l.drop i).take (j - i)).toArray⟩ := by
  apply ByteArray.ext
  rw [ByteArray.data_extract]
  simp
/-- a slice of ints that came in. -/
def Ints (w : World) (A : Option Addr) (n : Nat) (zs : List Int) : Prop :=
  zs.length = n ∧ (0 < n → ∃ g o, A = some ⟨g, o, none⟩ ∧ g < w.heap.size ∧ ∀ i, i < n → w.cell? ⟨g, o + i, none⟩ = some (.int .i64 (zs.getD i 0)))
theorem Ints.below {w w' : World} {A : Option Addr} {n : Nat} {ls : List Int} (h : Ints w A n ls) (hb : Below w.heap.size w w') : Ints w' A n ls :=
  ⟨h.1, fun hn => by
    obtain ⟨g, o, e, hg, hc⟩ := h.2 hn
    exact ⟨g, o, e, Nat.lt_of_lt_of_le hg hb.size, fun i hi => (hb.cell (p := ⟨g, o + i, none⟩) hg).trans (hc i hi)⟩⟩
end Go.Proofs.YteajpebkanamgaaDoor
namespace Go.Proofs.YteajpebkanamgaaDoor
open Go.RowKit
set_option linter.unusedSimpArgs false
set_option linter.unusedVariables false
set_option maxRecDepth 100000
/-- a block's cells are these bytes, and may be written. -/
def Cb (w : World) (g : Nat) (l : List UInt8) : Prop := g < w.heap.size ∧ ∀ i, i < l.length → w.cell? ⟨g, i, none⟩ = some (.int .u8 (n8 (bd l i))) ∧ w.frozen? ⟨g, i, none⟩ = false
theorem bd_set_eq (l : List UInt8) (i : Nat) (x : UInt8) (h : i < l.length) : bd (l.set i x) i = x := by
  simp [bd, List.getD, List.getElem?_set, h]
theorem bd_set_ne (l : List UInt8) (i j : Nat) (x : UInt8) (h : i ≠ j) : bd (l.set i x) j = bd l j := by
  simp [bd, List.getD, List.getElem?_set, h]
theorem Cb.set_ {w : World} {g : Nat} {l : List UInt8} (h : Cb w g l) (i : Nat) (hi : i < l.length) (x : UInt8) : Cb (w.setCell ⟨g, i, none⟩ (.int .u8 (n8 x))) g (l.set i x) := by
  refine ⟨by simpa using h.1, fun j hj => ?_⟩
  rw [List.length_set] at hj
  refine ⟨?_, by rw [World.frozen?_setCell]; exact (h.2 j hj).2⟩
  by_cases hij : i = j
  · subst hij
    rw [bd_set_eq _ _ _ hi]
    exact World.cell?_setCell_same _ _ _ (h.2 i hi).1
  · rw [bd_set_ne _ _ _ _ hij, World.cell?_setCell_other _ _ _ _ (by simp [hij])]
    exact (h.2 j hj).1
theorem Cb.drew {w : World} {g : Nat} {l : List UInt8} (h : Cb w g l) : Cb w.drew g l := h
theorem Cb.drewN {w : World} {g : Nat} {l : List UInt8} (h : Cb w g l) (n : Nat) : Cb (w.drewN n) g l := h
theorem cb_of_string {P : Program} (w : World) (src dst e : TypeId) (l : List UInt8) (hs : P.underlying src = some .string) (hd : P.underlying dst = some (.slice e)) (he : P.underlying e = some (.int .u8)) (B : Nat) (hB : B ≤ w.heap.size) :
    ∃ cap w', (convert src dst (.string ⟨l.toArray⟩)).run P w = .ok (.slice (some ⟨w.heap.size, 0, none⟩) l.length cap) w' ∧ Cb w' w.heap.size l ∧ Below B w w' := by
  have hsz : (⟨l.toArray⟩ : ByteArray).size = l.length := by simp [ByteArray.size]
  have hr := run_bytes_of_string w src dst e ⟨l.toArray⟩ hs hd he
  rw [hsz] at hr
  refine ⟨_, _, hr, ⟨by simp, fun i hi => ⟨?_, ?_⟩⟩, ((Below.refl B w).drew).alloc (by simpa using hB) _⟩
  · have hh := heap_alloc_new w.drew (.cells (bytesRow ⟨l.toArray⟩ (grownCap w l.length 0 e)) e ((bytesRow ⟨l.toArray⟩ (grownCap w l.length 0 e)).size, (bytesRow ⟨l.toArray⟩ (grownCap w l.length 0 e)).size + 1))
    have hc := bytesRow_at ⟨l.toArray⟩ (grownCap w l.length 0 e) i (by simpa using hi)
    have hh' : (w.drew.alloc (.cells (bytesRow ⟨l.toArray⟩ (grownCap w l.length 0 e)) e ((bytesRow ⟨l.toArray⟩ (grownCap w l.length 0 e)).size, (bytesRow ⟨l.toArray⟩ (grownCap w l.length 0 e)).size + 1))).heap[w.heap.size]? = some (.cells (bytesRow ⟨l.toArray⟩ (grownCap w l.length 0 e)) e ((bytesRow ⟨l.toArray⟩ (grownCap w l.length 0 e)).size, (bytesRow ⟨l.toArray⟩ (grownCap w l.length 0 e)).size + 1)) := hh
    unfold World.cell?
    simp only [hh', Option.isSome_none, Bool.false_eq_true, if_false]
    rw [hc]
    simp [bd, n8, List.getElem?_eq_getElem hi]
  · have hh' : (w.drew.alloc (.cells (bytesRow ⟨l.toArray⟩ (grownCap w l.length 0 e)) e ((bytesRow ⟨l.toArray⟩ (grownCap w l.length 0 e)).size, (bytesRow ⟨l.toArray⟩ (grownCap w l.length 0 e)).size + 1))).heap[w.heap.size]? = some (.cells (bytesRow ⟨l.toArray⟩ (grownCap w l.length 0 e)) e ((bytesRow ⟨l.toArray⟩ (grownCap w l.length 0 e)).size, (bytesRow ⟨l.toArray⟩ (grownCap w l.length 0 e)).size + 1)) := heap_alloc_new w.drew _
    unfold World.frozen?
    simp only [hh']
    have hb : l.length ≤ (bytesRow ⟨l.toArray⟩ (grownCap w l.length 0 e)).size := by simp [bytesRow]
    simp
    omega
theorem Cb.string {P : Program} {w : World} {g : Nat} {l : List UInt8} (h : Cb w g l) (src dst e : TypeId) (cap : Nat) (hs : P.underlying src = some (.slice e)) (he : P.underlying e = some (.int .u8)) (hd : P.underlying dst = some .string) :
    (convert src dst (.slice (some ⟨g, 0, none⟩) l.length cap)).run P w = .ok (.string ⟨l.toArray⟩) w :=
  run_convert_bytes_back w src dst e ⟨g, 0, none⟩ cap l hs he hd (fun j hj => by
    have := (h.2 j hj).1
    rw [bd, List.getD, List.getElem?_eq_getElem hj] at this
    unfold Addr.add
    split
    · rename_i h0; subst h0; exact this
    · simpa [n8] using this)
end Go.Proofs.YteajpebkanamgaaDoor
namespace Go.Proofs.YteajpebkanamgaaDoor
open Go.RowKit
set_option linter.unusedSimpArgs false
set_option linter.unusedVariables false
section
variable {P : Program} {w : World} {b : Nat} {t : TypeId} {cs : Array Value}
theorem Blk.rangeAt (h : Blk w b t cs) (o n : Nat) : w.rangeAt b o ((cs.toList.drop o).take n) := fun j v hv => by
  rw [h.cell (o + j)]
  rw [List.getElem?_take] at hv
  split at hv
  · rw [List.getElem?_drop] at hv
    simpa using hv
  · cases hv
theorem Blk.rangeAll (h : Blk w b t cs) : w.rangeAt b 0 cs.toList := fun j v hv => by
  rw [Nat.zero_add, h.cell j]
  simpa using hv
theorem Blk.thereAt (h : Blk w b t cs) (o n : Nat) (hn : o + n ≤ cs.size) : w.there b o n := fun j hj => by
  refine ⟨?_, h.frozen _⟩
  rw [h.cell (o + j), Array.getElem?_eq_getElem (by omega)]
  rfl
theorem Blk.setCells (vs : List Value) : ∀ {w : World} {cs : Array Value} (o : Nat), Blk w b t cs → o + vs.length ≤ cs.size → Blk (w.setCells b o vs) b t (cs.toList.take o ++ vs ++ cs.toList.drop (o + vs.length)).toArray := by
  induction vs with
  | nil => intro w cs o h _; simpa [World.setCells] using h
  | cons v r ih =>
    intro w cs o h ho
    rw [World.setCells]
    simp only [List.length_cons] at ho
    have := ih (o + 1) (h.set_ o v) (by simp; omega)
    have e : ((cs.setIfInBounds o v).toList.take (o + 1) ++ r ++ (cs.setIfInBounds o v).toList.drop (o + 1 + r.length)) = (cs.toList.take o ++ v :: r ++ cs.toList.drop (o + (v :: r).length)) := by
      have hlt : o < cs.toList.length := by simp; omega
      rw [Array.toList_setIfInBounds, List.drop_set_of_lt (by omega), List.take_succ_eq_append_getElem (by simpa using hlt)]
      rw [List.take_set_of_le (Nat.le_refl _), List.getElem_set_self]
      simp [Nat.add_assoc, Nat.add_comm 1]
    rw [e] at this
    exact this
theorem only_setCells (vs : List Value) : ∀ {a w : World} (o : Nat), a.grownBy w (some b) → a.grownBy (w.setCells b o vs) (some b) := by
  induction vs with
  | nil => intro a w o h; simpa [World.setCells] using h
  | cons v r ih => intro a w o h; rw [World.setCells]; exact ih (o + 1) (only_set h (.inl rfl) v)
end
end Go.Proofs.YteajpebkanamgaaDoor
namespace Go.Proofs.YteajpebkanamgaaDoor
open Go.RowKit
set_option linter.unusedSimpArgs false
set_option linter.unusedVariables false
section
variable {P : Program} {t e ty : TypeId} {w w' : World} {B : Nat} {xs : List Value}
end
end Go.Proofs.YteajpebkanamgaaDoor
namespace Go.Proofs.YteajpebkanamgaaDoor
open Go.RowKit
set_option linter.unusedSimpArgs false
set_option linter.unusedVariables false
/-- a write that waits: where, what was there, what is new. -/
structure Wt where
  at_ : Nat
  old : List UInt8
  new : List UInt8
/-- a disk. -/
structure Dk where
  l : List (List UInt8)
  w : List Wt
  fuse : Int
  down : Bool
def Dk.there (d : Dk) (i : Int) : Int := if d.down then 150 else if i < 0 ∨ (d.l.length : Int) ≤ i then 1 else 0
def Dk.burn (d : Dk) : Dk := if 0 < d.fuse then { d with fuse := d.fuse - 1, down := d.down || decide (d.fuse = 1) } else d
def Dk.put (d : Dk) (i : Nat) (s : List UInt8) : Dk := { d with l := d.l.set i s, w := d.w ++ [⟨i, d.l.getD i [], s⟩] }
def Dk.write (d : Dk) (i : Int) (s : List UInt8) : Int × Dk :=
  if d.there i ≠ 0 then (d.there i, d) else if s.length ≠ 64 then (3, d) else if d.burn.down then (150, d.burn) else (0, d.burn.put i.toNat s)
def Dk.read (d : Dk) (i : Int) : List UInt8 × Int := if d.there i ≠ 0 then ([], d.there i) else (d.l.getD i.toNat [], 0)
def Dk.sync (d : Dk) : Int × Dk := if d.down then (150, d) else if d.burn.down then (150, d.burn) else (0, { d.burn with w := [] })
def Dk.setFuse (d : Dk) (n : Int) : Int × Dk := if d.down then (150, d) else if n < 0 ∨ 1048576 < n then (1, d) else (0, { d with fuse := n })
/-- what waits is taken back, the last first. -/
def undo (l : List (List UInt8)) (w : List Wt) : List (List UInt8) := w.foldr (fun x l => l.set x.at_ x.old) l
/-- how many bytes of write i are picked. -/
def pickN (picks : List Int) (i : Nat) : Nat := if i < picks.length then (((picks.getD i 0).tmod 65 + 65).tmod 65).toNat else 0
def tear (l : List (List UInt8)) (x : Wt) (p : Nat) : List (List UInt8) := l.set x.at_ (x.new.take p ++ (l.getD x.at_ []).drop p)
def redo (picks : List Int) : Nat → List (List UInt8) → List Wt → List (List UInt8)
  | _, l, [] => l
  | i, l, x :: r => redo picks (i + 1) (tear l x (pickN picks i)) r
def Dk.crash (d : Dk) (picks : List Int) : Dk := { l := redo picks 0 (undo d.l d.w) d.w, w := [], fuse := 0, down := false }
structure Dk.Ok (d : Dk) : Prop where
  l : ∀ x ∈ d.l, x.length = 64
  w : ∀ x ∈ d.w, x.at_ < d.l.length ∧ x.old.length = 64 ∧ x.new.length = 64
  n : d.l.length ≤ 1024
  f : 0 ≤ d.fuse ∧ d.fuse ≤ 1048576
/-! ### Where it lies -/
def flat (l : List (List UInt8)) : List Value := l.flatMap cb
def Wt.vals (x : Wt) : List Value := .int .i64 (x.at_ : Nat) :: (cb x.old ++ cb x.new)
def flatW (w : List Wt) : List Value := w.flatMap Wt.vals
def isV (b : Bool) : Int := if b then 1 else 0
def dkCells (a : Nat) (vw : Value) (d : Dk) : Array Value := #[.slice (some ⟨a, 0, none⟩) d.l.length d.l.length, vw, .int .i64 d.fuse, .int .i64 (isV d.down)]
structure DkA (B : Nat) (w : World) (g a : Nat) (vw : Value) (d : Dk) : Prop where
  hg : Blk w g 68 (dkCells a vw d)
  ha : Blk w a 81 (flat d.l).toArray
  hw : w.ownsRow B 83 129 vw d.w.length (flatW d.w)
  bg : B ≤ g
  ba : B ≤ a
  ok : d.Ok
def DkAt (B : Nat) (w : World) (g : Nat) (d : Dk) : Prop := ∃ a vw, DkA B w g a vw d
/-- what a disk's call leaves as it was: all below B, and all blocks that are no disk's. -/
structure Fr (B : Nat) (w w' : World) : Prop where
  b : Below B w w'
  f : ∀ (k : Nat) (cs : Array Value) (t : TypeId) (fz : Nat × Nat), w.heap[k]? = some (Obj.cells cs t fz) → t ≠ 68 → t ≠ 81 → t ≠ 83 → w'.heap[k]? = w.heap[k]?
section
variable {B : Nat} {w w' w'' : World} {g a : Nat} {vw : Value} {d : Dk}
theorem Fr.refl (B : Nat) (w : World) : Fr B w w := ⟨Below.refl _ _, fun _ _ _ _ _ _ _ _ => rfl⟩
theorem Fr.trans (h : Fr B w w') (k : Fr B w' w'') : Fr B w w'' :=
  ⟨h.b.trans k.b, fun j cs t fz hj h1 h2 h3 => by
    have e := h.f j cs t fz hj h1 h2 h3
    exact (k.f j cs t fz (e.trans hj) h1 h2 h3).trans e⟩
theorem heap_lt {w : World} {k : Nat} {o : Obj} (h : w.heap[k]? = some o) : k < w.heap.size := by
  rcases Nat.lt_or_ge k w.heap.size with hlt | hge
  · exact hlt
  · rw [Array.getElem?_eq_none hge] at h; cases h
theorem Fr.of (h : Below w.heap.size w w') (hB : B ≤ w.heap.size) : Fr B w w' :=
  ⟨h.mono hB, fun k cs t fz hk _ _ _ => h.block k (heap_lt hk)⟩
theorem Fr.below (h : Fr B w w') (k : Below w'.heap.size w' w'') (hB : B ≤ w'.heap.size) : Fr B w w'' := h.trans (Fr.of k hB)
/-- a disk's blocks are of these types. -/
def DkT (t : TypeId) : Prop := t = 68 ∨ t = 81 ∨ t = 83
theorem Fr.grown {row : Option Nat} (h : w.grownBy w' row) (hb : Below B w w') (hr : ∀ k, row = some k → ∃ (cs : Array Value) (t : TypeId) (fz : Nat × Nat), w.heap[k]? = some (Obj.cells cs t fz) ∧ DkT t) : Fr B w w' :=
  ⟨hb, fun k cs t fz hk h1 h2 h3 => by
    refine h.block k (heap_lt hk) (fun e => ?_)
    obtain ⟨cs', t', fz', hk', ht⟩ := hr k e.symm
    rw [hk] at hk'
    injection hk' with hk'
    injection hk' with e1 e2 e3
    subst e2
    rcases ht with ht | ht | ht
    · exact h1 ht
    · exact h2 ht
    · exact h3 ht⟩
theorem Fr.set_ {t : TypeId} {cs : Array Value} (hk : Blk w g t cs) (ht : DkT t) (hB : B ≤ g) (i : Nat) (u : Value) : Fr B w (w.setCell ⟨g, i, none⟩ u) :=
  Fr.grown (row := some g) (only_set (only_refl _ _) (.inl rfl) u) ((Below.refl _ _).setCell hB u) (fun k e => by injection e with e; subst e; exact ⟨cs, t, _, hk, ht⟩)
theorem Fr.setCells {t : TypeId} {cs : Array Value} (hk : Blk w g t cs) (ht : DkT t) (hB : B ≤ g) (o : Nat) (vs : List Value) : Fr B w (w.setCells g o vs) := by
  have hO := only_setCells (b := g) vs o (only_refl w (some g))
  exact Fr.grown (row := some g) hO (below_of_only (Below.refl _ _) hO hB (Nat.le_of_lt (Nat.lt_of_le_of_lt hB hk.lt))) (fun k e => by injection e with e; subst e; exact ⟨cs, t, _, hk, ht⟩)
theorem owns_typed {e : TypeId} {s n : Nat} {v : Value} {xs : List Value} (h : w.ownsRow B e s v n xs) : ∀ k, v.ownBlock = some k → ∃ cs, Blk w k e cs := by
  intro k hk
  rcases h.2 with ⟨rfl, _⟩ | ⟨g, cap, cur, rfl, _, hc, _⟩
  · cases hk
  · injection hk with hk; subst hk; exact ⟨cur, hc⟩
theorem Blk.type {t t' : TypeId} {cs cs' : Array Value} (h : Blk w g t cs) (k : Blk w g t' cs') : t = t' ∧ cs = cs' := by
  unfold Blk at h k
  rw [h] at k
  injection k with k
  injection k with e1 e2 e3
  exact ⟨e2, e1⟩
theorem Blk.apart {t t' : TypeId} {cs cs' : Array Value} {g' : Nat} (h : Blk w g t cs) (k : Blk w g' t' cs') (ht : t ≠ t') : g ≠ g' := fun e => ht (by subst e; exact (h.type k).1)
theorem DkA.ne (h : DkA B w g a vw d) : g ≠ a := h.hg.apart h.ha (by decide)
theorem DkA.neW (h : DkA B w g a vw d) : some g ≠ vw.ownBlock ∧ some a ≠ vw.ownBlock :=
  ⟨fun e => by obtain ⟨cs, hk⟩ := owns_typed h.hw _ e.symm; exact h.hg.apart hk (by decide) rfl, fun e => by obtain ⟨cs, hk⟩ := owns_typed h.hw _ e.symm; exact h.ha.apart hk (by decide) rfl⟩
theorem DkA.hB (h : DkA B w g a vw d) : B ≤ w.heap.size := Nat.le_of_lt (Nat.lt_of_le_of_lt h.bg h.hg.lt)
theorem DkA.below (h : DkA B w g a vw d) (hb : Below w.heap.size w w') : DkA B w' g a vw d :=
  ⟨h.hg.below hb h.hg.lt, h.ha.below hb h.ha.lt, World.ownsRow.kept h.hw (row := none) ⟨hb.os, hb.tape, hb.output, hb.size, fun k hk _ => hb.block k hk⟩ (Classical.em _), h.bg, h.ba, h.ok⟩
/-- a field of the disk is set. -/
theorem owns_far {e : TypeId} {s n : Nat} {v : Value} {xs : List Value} (h : w.ownsRow B e s v n xs) {p : Addr} (hp : some p.block ≠ v.ownBlock) (u : Value) : (w.setCell p u).ownsRow B e s v n xs :=
  World.ownsRow.kept h (row := some p.block) (only_set (only_refl _ _) (.inl rfl) u) (.inr (fun e => hp e.symm))
end
end Go.Proofs.YteajpebkanamgaaDoor
namespace Go.Proofs.YteajpebkanamgaaDoor
open Go.RowKit
set_option linter.unusedSimpArgs false
set_option linter.unusedVariables false
theorem flat_len (l : List (List UInt8)) (h : ∀ x ∈ l, x.length = 64) : (flat l).length = 64 * l.length := by
  induction l with
  | nil => rfl
  | cons x r ih =>
    have e : flat (x :: r) = cb x ++ flat r := by simp [flat]
    rw [e, List.length_append, ih (fun y hy => h y (by simp [hy])), cb_length, h x (by simp)]
    simp only [List.length_cons]; omega
theorem flat_split (l : List (List UInt8)) (i : Nat) (hi : i < l.length) : flat l = flat (l.take i) ++ cb (l.getD i []) ++ flat (l.drop (i + 1)) := by
  have e : l = l.take i ++ l[i] :: l.drop (i + 1) := by rw [← List.drop_eq_getElem_cons hi, List.take_append_drop]
  rw [List.getD_eq_getElem?_getD, List.getElem?_eq_getElem hi]
  conv => lhs; rw [e]
  unfold flat
  rw [List.flatMap_append, List.flatMap_cons]
  exact (List.append_assoc _ _ _).symm
theorem set_split (l : List (List UInt8)) (i : Nat) (hi : i < l.length) (s : List UInt8) : flat (l.set i s) = flat (l.take i) ++ cb s ++ flat (l.drop (i + 1)) := by
  rw [List.set_eq_take_append_cons_drop, if_pos hi]
  simp [flat]
theorem take64 (l : List (List UInt8)) (h : ∀ x ∈ l, x.length = 64) (i : Nat) (hi : i ≤ l.length) : (flat (l.take i)).length = 64 * i := by
  rw [flat_len _ (fun x hx => h x (List.mem_of_mem_take hx)), List.length_take]; omega
theorem flat_get (l : List (List UInt8)) (h : ∀ x ∈ l, x.length = 64) (i : Nat) (hi : i < l.length) : ((flat l).drop (i * 64)).take 64 = cb (l.getD i []) := by
  have h1 := take64 l h i (by omega)
  have h2 : (l.getD i []).length = 64 := by rw [List.getD_eq_getElem?_getD, List.getElem?_eq_getElem hi]; exact h _ (List.getElem_mem hi)
  rw [flat_split l i hi, List.append_assoc, List.drop_left' (by omega), List.take_left' (by rw [cb_length, h2])]
/-- the first p cells of a sector are set. -/
theorem flat_put (l : List (List UInt8)) (h : ∀ x ∈ l, x.length = 64) (i : Nat) (hi : i < l.length) (s : List UInt8) (hs : s.length ≤ 64) :
    (flat l).take (i * 64) ++ cb s ++ (flat l).drop (i * 64 + (cb s).length) = flat (l.set i (s ++ (l.getD i []).drop s.length)) := by
  have h1 := take64 l h i (by omega)
  have h2 : (l.getD i []).length = 64 := by rw [List.getD_eq_getElem?_getD, List.getElem?_eq_getElem hi]; exact h _ (List.getElem_mem hi)
  have e1 : (flat l).take (i * 64) = flat (l.take i) := by
    rw [flat_split l i hi, List.append_assoc, List.take_left' (by omega)]
  have e2 : (flat l).drop (i * 64 + (cb s).length) = cb ((l.getD i []).drop s.length) ++ flat (l.drop (i + 1)) := by
    rw [flat_split l i hi, List.append_assoc, ← List.drop_drop, List.drop_left' (by omega), List.drop_append_of_le_length (by rw [cb_length, cb_length, h2]; exact hs), cb_length]
    simp only [cb, List.map_drop]
  rw [e1, e2, set_split l i hi, cb_append]
  simp only [List.append_assoc]
theorem flat_set (l : List (List UInt8)) (h : ∀ x ∈ l, x.length = 64) (i : Nat) (hi : i < l.length) (s : List UInt8) (hs : s.length = 64) :
    (flat l).take (i * 64) ++ cb s ++ (flat l).drop (i * 64 + (cb s).length) = flat (l.set i s) := by
  have h2 : (l.getD i []).length = 64 := by rw [List.getD_eq_getElem?_getD, List.getElem?_eq_getElem hi]; exact h _ (List.getElem_mem hi)
  rw [flat_put l h i hi s (by omega), List.drop_eq_nil_of_le (by omega), List.append_nil]
theorem all_set (l : List (List UInt8)) (h : ∀ x ∈ l, x.length = 64) (i : Nat) (s : List UInt8) (hs : s.length = 64) : ∀ x ∈ l.set i s, x.length = 64 := by
  intro x hx
  rcases List.mem_or_eq_of_mem_set hx with hx | rfl
  · exact h x hx
  · exact hs
theorem getD64 (l : List (List UInt8)) (h : ∀ x ∈ l, x.length = 64) (i : Nat) (hi : i < l.length) : (l.getD i []).length = 64 := by
  rw [List.getD_eq_getElem?_getD, List.getElem?_eq_getElem hi]; exact h _ (List.getElem_mem hi)
/-! waits -/
def wok (x : Wt) : Prop := x.old.length = 64 ∧ x.new.length = 64
theorem vals_len {x : Wt} (h : wok x) : x.vals.length = 129 := by simp [Wt.vals, cb_length, h.1, h.2]
theorem flatW_len (l : List Wt) (h : ∀ x ∈ l, wok x) : (flatW l).length = l.length * 129 := by
  induction l with
  | nil => rfl
  | cons x r ih =>
    have e : flatW (x :: r) = x.vals ++ flatW r := by simp [flatW]
    rw [e, List.length_append, ih (fun y hy => h y (by simp [hy])), vals_len (h x (by simp))]
    simp only [List.length_cons]; omega
theorem flatW_get (l : List Wt) (h : ∀ x ∈ l, wok x) (i : Nat) (hi : i < l.length) : ((flatW l).drop (i * 129)).take 129 = (l[i]).vals := by
  have h1 : (flatW (l.take i)).length = i * 129 := by rw [flatW_len _ (fun x hx => h x (List.mem_of_mem_take hx)), List.length_take]; congr 1; omega
  have e : flatW l = flatW (l.take i) ++ ((l[i]).vals ++ flatW (l.drop (i + 1))) := by
    have e : l = l.take i ++ l[i] :: l.drop (i + 1) := by rw [← List.drop_eq_getElem_cons hi, List.take_append_drop]
    conv => lhs; rw [e]
    unfold flatW
    rw [List.flatMap_append, List.flatMap_cons]
  rw [e, List.drop_left' h1, List.take_left' (vals_len (h _ (List.getElem_mem hi)))]
theorem one_cb (l : List UInt8) : ∀ u ∈ cb l, u.oneCell' = true := by
  intro u hu
  obtain ⟨b, _, rfl⟩ := List.mem_map.1 hu
  rfl
theorem one_vals (x : Wt) : ∀ u ∈ x.vals, u.oneCell' = true := by
  intro u hu
  simp only [Wt.vals, List.mem_cons, List.mem_append] at hu
  rcases hu with rfl | hu | hu
  · rfl
  · exact one_cb _ u hu
  · exact one_cb _ u hu
end Go.Proofs.YteajpebkanamgaaDoor
namespace Go.Proofs.YteajpebkanamgaaDoor
open Go.RowKit
set_option linter.unusedSimpArgs false
set_option linter.unusedVariables false
section
variable {B : Nat} {w w' : World} {g a : Nat} {vw : Value} {d : Dk}
theorem DkA.c0 (h : DkA B w g a vw d) : w.cell? ⟨g, 0, none⟩ = some (.slice (some ⟨a, 0, none⟩) d.l.length d.l.length) := h.hg.cell 0
theorem DkA.c1 (h : DkA B w g a vw d) : w.cell? ⟨g, 1, none⟩ = some vw := h.hg.cell 1
theorem DkA.c2 (h : DkA B w g a vw d) : w.cell? ⟨g, 2, none⟩ = some (.int .i64 d.fuse) := h.hg.cell 2
theorem DkA.c3 (h : DkA B w g a vw d) : w.cell? ⟨g, 3, none⟩ = some (.int .i64 (isV d.down)) := h.hg.cell 3
theorem owns_form {e : TypeId} {s n : Nat} {v : Value} {xs : List Value} (h : w.ownsRow B e s v n xs) : ∃ A c, v = .slice A n c := by
  rcases h.2 with ⟨rfl, rfl⟩ | ⟨g, cap, cur, rfl, _⟩
  · exact ⟨_, _, rfl⟩
  · exact ⟨_, _, rfl⟩
theorem there_any (h : DkA B w g a vw d) (i : Int) :
    Calls Tryd.prog 85 #[.pointer (some ⟨g, 0, none⟩), .int .i64 i] w fun e w' => e = .returned (.int .i64 (d.there i)) ∧ Below w.heap.size w w' := by
  have c0 := h.c0
  have c3 := h.c3
  by_cases hd : d.down = true
  · have e3 : isV d.down = 1 := by simp [hd, isV]
    rw [e3] at c3
    have er : d.there i = 150 := by simp [Dk.there, hd]
    rw [er]
    go_enter Tryd.func85, Tryd.ntmps85
    go_wp2
    go_ret
    exact ⟨rfl, Below.refl _ _⟩
  · have e3 : isV d.down = 0 := by simp [hd, isV]
    rw [e3] at c3
    by_cases h0 : i < 0
    · have er : d.there i = 1 := by simp [Dk.there, hd, h0]
      rw [er]
      go_enter Tryd.func85, Tryd.ntmps85
      go_wp2
      go_ret
      exact ⟨rfl, Below.refl _ _⟩
    · by_cases h1 : (d.l.length : Int) ≤ i
      · have er : d.there i = 1 := by simp [Dk.there, hd, h1]
        rw [er]
        go_enter Tryd.func85, Tryd.ntmps85
        go_wp2
        go_ret
        exact ⟨rfl, Below.refl _ _⟩
      · have er : d.there i = 0 := by simp [Dk.there, hd, h0, h1]
        rw [er]
        go_enter Tryd.func85, Tryd.ntmps85
        go_wp2
        go_ret
        exact ⟨rfl, Below.refl _ _⟩
theorem size_any (h : DkA B w g a vw d) :
    Calls Tryd.prog 37 #[.pointer (some ⟨g, 0, none⟩)] w fun e w' => e = .returned (.int .i64 (d.l.length : Nat)) ∧ Below w.heap.size w w' := by
  have c0 := h.c0
  go_enter Tryd.func37, Tryd.ntmps37
  go_wp2
  go_ret
  exact ⟨rfl, Below.refl _ _⟩
/-- fields set. -/
theorem DkA.setFuse (h : DkA B w g a vw d) (n : Int) (hn : 0 ≤ n ∧ n ≤ 1048576) : DkA B (w.setCell ⟨g, 2, none⟩ (.int .i64 n)) g a vw { d with fuse := n } :=
  ⟨h.hg.set_ 2 _, h.ha.far h.ne.symm _, owns_far h.hw h.neW.1 _, h.bg, h.ba, ⟨h.ok.l, h.ok.w, h.ok.n, hn⟩⟩
theorem DkA.setDown (h : DkA B w g a vw d) : DkA B (w.setCell ⟨g, 3, none⟩ (.int .i64 1)) g a vw { d with down := true } :=
  ⟨h.hg.set_ 3 _, h.ha.far h.ne.symm _, owns_far h.hw h.neW.1 _, h.bg, h.ba, ⟨h.ok.l, h.ok.w, h.ok.n, h.ok.f⟩⟩
theorem DkA.setNil (h : DkA B w g a vw d) : DkA B (w.setCell ⟨g, 1, none⟩ (.slice none 0 0)) g a (.slice none 0 0) { d with w := [] } :=
  ⟨h.hg.set_ 1 _, h.ha.far h.ne.symm _, World.ownsRow_nil _ _ _ _, h.bg, h.ba, ⟨h.ok.l, fun x hx => (by cases hx), h.ok.n, h.ok.f⟩⟩
theorem DkA.frG (h : DkA B w g a vw d) (i : Nat) (u : Value) : Fr B w (w.setCell ⟨g, i, none⟩ u) := Fr.set_ h.hg (.inl rfl) h.bg i u
theorem burn_any (h : DkA B w g a vw d) :
    Calls Tryd.prog 84 #[.pointer (some ⟨g, 0, none⟩)] w fun e w' => e = .returned (.bool d.burn.down) ∧ DkA B w' g a vw d.burn ∧ Fr B w w' := by
  have hf := h.ok.f
  have c2 := h.c2
  have c3 := h.c3
  have f2 := h.hg.frozen 2
  have f3 := h.hg.frozen 3
  by_cases hp : 0 < d.fuse
  · have ed : d.burn = { d with fuse := d.fuse - 1, down := d.down || decide (d.fuse = 1) } := by simp [Dk.burn, hp]
    rw [ed]
    by_cases h1 : d.fuse = 1
    · have hq := (h.setFuse 0 (by omega)).setDown
      have hF := (h.frG 2 (.int .i64 0)).trans ((h.setFuse 0 (by omega)).frG 3 (.int .i64 1))
      have ed2 : ({ d with fuse := d.fuse - 1, down := d.down || decide (d.fuse = 1) } : Dk) = { d with fuse := 0, down := true } := by simp [h1]
      rw [ed2]
      rw [h1] at c2
      clear h1 hp hf ed ed2
      go_enter Tryd.func84, Tryd.ntmps84
      go_wp2
      go_ret
      exact ⟨rfl, hq, hF⟩
    · have hq := h.setFuse (d.fuse - 1) (by omega)
      have hF := h.frG 2 (.int .i64 (d.fuse - 1))
      have ed2 : ({ d with fuse := d.fuse - 1, down := d.down || decide (d.fuse = 1) } : Dk) = { d with fuse := d.fuse - 1 } := by simp [h1]
      rw [ed2]
      have hw : Go.RowKit.wrap64 (d.fuse - 1) = d.fuse - 1 := by unfold Go.RowKit.wrap64; omega
      have hz : ((d.fuse - 1 : Int) == 0) = false := beq_eq_false_iff_ne.mpr (by omega)
      have hp' : (0 < d.fuse) = True := eq_true hp
      obtain ⟨b, hb⟩ : ∃ b, b = d.down := ⟨_, rfl⟩
      have hbV : (isV d.down == 1) = d.down := by rw [← hb]; cases b <;> rfl
      go_enter Tryd.func84, Tryd.ntmps84
      go_wp2
      go_ret
      exact ⟨by simp [hbV], hq, hF⟩
  · have ed : d.burn = d := by simp [Dk.burn, hp]
    rw [ed]
    have hbV : (isV d.down == 1) = d.down := by cases d.down <;> rfl
    go_enter Tryd.func84, Tryd.ntmps84
    go_wp2
    go_ret
    exact ⟨by simp [hbV], h, Fr.refl _ _⟩
theorem sync_any (h : DkA B w g a vw d) :
    Calls Tryd.prog 59 #[.pointer (some ⟨g, 0, none⟩)] w fun e w' => e = .returned (.int .i64 d.sync.1) ∧ DkAt B w' g d.sync.2 ∧ Fr B w w' := by
  have c3 := h.c3
  by_cases hd : d.down = true
  · have e3 : isV d.down = 1 := by simp [hd, isV]
    rw [e3] at c3
    have er : d.sync = (150, d) := by simp [Dk.sync, hd]
    rw [er]
    go_enter Tryd.func59, Tryd.ntmps59
    go_wp2
    go_ret
    exact ⟨rfl, ⟨a, vw, h⟩, Fr.refl _ _⟩
  · have e3 : isV d.down = 0 := by simp [hd, isV]
    rw [e3] at c3
    have H := Lib.hid h
    by_cases h1 : d.burn.down = true
    · have er : d.sync = (150, d.burn) := by simp [Dk.sync, hd, h1]
      rw [er]
      clear h hd
      go_enter Tryd.func59, Tryd.ntmps59
      go_wp2_with (first | (go_at_call 84; refine (burn_any H.out).mono ?_; rintro e w1 ⟨rfl, h2, h3⟩; rw [h1]))
      go_ret
      exact ⟨rfl, ⟨a, vw, h2⟩, h3⟩
    · have er : d.sync = (0, { d.burn with w := [] }) := by simp [Dk.sync, hd, h1]
      rw [er]
      have h1' : d.burn.down = false := by simpa using h1
      clear h hd h1
      go_enter Tryd.func59, Tryd.ntmps59
      go_wp2_with (first | (go_at_call 84; refine (burn_any H.out).mono ?_; rintro e w1 ⟨rfl, h2, h3⟩; rw [h1']; have f1 := h2.hg.frozen 1; have c1 := h2.c1))
      go_ret
      exact ⟨rfl, ⟨a, _, h2.setNil⟩, h3.trans (h2.frG 1 _)⟩
end
end Go.Proofs.YteajpebkanamgaaDoor
namespace Go.Proofs.YteajpebkanamgaaDoor
open Go.RowKit
set_option linter.unusedSimpArgs false
set_option linter.unusedVariables false
section
variable {B : Nat} {w w' : World} {g a : Nat} {vw : Value} {d : Dk}
theorem there_zero {i : Int} (h : d.there i = 0) : d.down = false ∧ 0 ≤ i ∧ i < d.l.length := by
  unfold Dk.there at h
  by_cases hd : d.down = true
  · simp [hd] at h
  · simp only [hd, if_false, Bool.false_eq_true] at h
    by_cases h1 : i < 0 ∨ (d.l.length : Int) ≤ i
    · simp [h1] at h
    · exact ⟨by simpa using hd, by omega, by omega⟩
theorem DkA.string (h : DkA B w g a vw d) (i : Nat) (hi : i < d.l.length) : (convert 84 9 (.slice (some ⟨a, i * 64, none⟩) 64 64)).run Tryd.prog w = .ok (.string ⟨(d.l.getD i []).toArray⟩) w := by
  have h2 := getD64 d.l h.ok.l i hi
  refine run_bytes_cells w _ _ 5 Tryd.underlying84 Tryd.underlying5 Tryd.underlying9 a (i * 64) 64 (d.l.getD i []) 64 h2 (fun j hj => ?_)
  have hr := h.ha.rangeAt (i * 64) 64
  rw [show (flat d.l).toArray.toList = flat d.l by simp, flat_get d.l h.ok.l i hi] at hr
  have hg := cb_get (d.l.getD i []) j (by omega)
  exact hr j _ (by simpa using hg)
theorem read_any (h : DkA B w g a vw d) (i : Int) :
    Calls Tryd.prog 60 #[.pointer (some ⟨g, 0, none⟩), .int .i64 i] w fun e w' => e = .returned (.tuple #[.string ⟨(d.read i).1.toArray⟩, .int .i64 (d.read i).2]) ∧ Below w.heap.size w w' := by
  have H := Lib.hid h
  by_cases h0 : d.there i = 0
  · have er : d.read i = (d.l.getD i.toNat [], 0) := by simp [Dk.read, h0]
    rw [er]
    obtain ⟨_, h1, h2⟩ := there_zero h0
    obtain ⟨m, rfl⟩ : ∃ m : Nat, i = m := ⟨i.toNat, by omega⟩
    have hm : m < d.l.length := by omega
    rw [show (m : Int).toNat = m by simp]
    obtain ⟨s, es⟩ : ∃ s, Hid (d.l.getD m [] = s) := ⟨_, Lib.hid rfl⟩
    rw [es.out]
    clear h h1 h2 er
    go_enter Tryd.func60, Tryd.ntmps60
    go_wp2_with (first | (go_at_call 85; refine (there_any H.out _).mono ?_; rintro e w1 ⟨rfl, hb⟩; rw [h0]; have H1 := Lib.hid (H.out.below hb); have c0 := H1.out.c0; have hs := H1.out.string m hm; rw [es.out] at hs))
    go_ret2
    exact ⟨rfl, hb⟩
  · have er : d.read i = ([], d.there i) := by simp [Dk.read, h0]
    rw [er]
    have hn : (d.there i != 0) = true := bne_iff_ne.mpr h0
    clear h
    go_enter Tryd.func60, Tryd.ntmps60
    go_wp2_with (first | (go_at_call 85; refine (there_any H.out _).mono ?_; rintro e w1 ⟨rfl, hb⟩))
    go_ret2
    exact ⟨rfl, hb⟩
end
end Go.Proofs.YteajpebkanamgaaDoor
namespace Go.Proofs.YteajpebkanamgaaDoor
open Go.RowKit
set_option linter.unusedSimpArgs false
set_option linter.unusedVariables false
def z8 : Value := .int .u8 0
def zs64 : List UInt8 := List.replicate 64 0
theorem cb_zs64 : cb zs64 = List.replicate 64 z8 := by
  unfold cb zs64
  rw [List.map_replicate]
  rfl
def zWt : List Value := .int .i64 0 :: List.replicate 128 z8
theorem zWt_size : zWt.toArray.size = 129 := by simp [zWt]
/-- a part's cells set. -/
theorem put_cells (off : Nat) (vs : List Value) (cs : Array Value) (h : off + vs.length ≤ cs.size) :
    (vs.zipIdx.foldl (fun cs (x : Value × Nat) => cs.setIfInBounds (off + x.2) x.1) cs) = (cs.toList.take off ++ vs ++ cs.toList.drop (off + vs.length)).toArray := by
  obtain ⟨h1, h2⟩ := Go.Great.foldl_set off vs 0 cs
  apply Array.ext_getElem?
  intro k
  rw [show vs.zipIdx = vs.zipIdx 0 from rfl, h2 k]
  have hc : cs.toList.length = cs.size := by simp
  simp only [Nat.add_zero, List.getElem?_toArray]
  by_cases hk : off ≤ k ∧ k < off + vs.length ∧ k < cs.size
  · rw [if_pos hk, List.append_assoc, List.getElem?_append_right (by rw [List.length_take]; omega), List.length_take, List.getElem?_append_left (by omega)]
    congr 1
    omega
  · rw [if_neg hk]
    by_cases hlo : k < off
    · rw [List.append_assoc, List.getElem?_append_left (by rw [List.length_take]; omega), List.getElem?_take_of_lt hlo]
      simp
    · have hge : off + vs.length ≤ k := by omega
      rw [List.append_assoc, List.getElem?_append_right (by rw [List.length_take]; omega), List.length_take, List.getElem?_append_right (by omega), List.getElem?_drop]
      rw [show off + vs.length + (k - min off cs.toList.length - vs.length) = k by omega]
      simp
theorem fill_step {place : Nat → Option (Nat × Nat)} {cells : Array Value} {i off size : Nat} {v : Value} {rest : List (Nat × Value)} (hp : place i = some (off, size)) (hs : v.cells.size = size) (hl : off + size ≤ cells.size) :
    Instr.fill place cells ((i, v) :: rest) = Instr.fill place (cells.toList.take off ++ v.cells.toList ++ cells.toList.drop (off + v.cells.toList.length)).toArray rest := by
  rw [← put_cells off v.cells.toList cells (by simp; omega)]
  conv => lhs; unfold Instr.fill
  simp only [hp]
  rw [if_neg (by simp [hs]; omega)]
  congr 1
  rw [← Array.foldl_toList]
  congr 1
  simp [Array.toList_zipIdx]
def wtPlaces : Array (Nat × Nat) := #[(0, 1), (1, 64), (65, 64)]
theorem build_fill (x y : Value) : Tryd.prog.built 83 [(0, x), (1, y)] = Instr.fill (wtPlaces[·]?) zWt.toArray [(0, x), (1, y)] := by kernel_rfl
theorem build_wait (m : Int) (o : List UInt8) (ho : o.length = 64) : Tryd.prog.built 83 [(0, .int .i64 m), (1, .agg (cb o).toArray)] = some (.int .i64 m :: (cb o ++ cb zs64)).toArray := by
  rw [build_fill, fill_step (off := 0) (size := 1) rfl rfl (by simp [zWt])]
  have e1 : (List.take 0 zWt.toArray.toList ++ (Value.int .i64 m).cells.toList ++ List.drop (0 + (Value.int .i64 m).cells.toList.length) zWt.toArray.toList) = Value.int .i64 m :: List.replicate 128 z8 := by simp [zWt, Value.cells]
  rw [e1, fill_step (off := 1) (size := 64) rfl (by simp [Value.cells, cb_length, ho]) (by simp)]
  have e2 : ((Value.int .i64 m :: List.replicate 128 z8).toArray.toList.take 1 ++ (Value.agg (cb o).toArray).cells.toList ++ (Value.int .i64 m :: List.replicate 128 z8).toArray.toList.drop (1 + (Value.agg (cb o).toArray).cells.toList.length)) = Value.int .i64 m :: (cb o ++ cb zs64) := by
    rw [cb_zs64]
    have : (Value.agg (cb o).toArray).cells.toList = cb o := by simp [Value.cells]
    rw [this, cb_length, ho]
    simp [Nat.add_comm 1]
  rw [e2]
  rfl
theorem alloc_wait (W : World) : (Instr.alloc 83 true (.tuple #[])).run Tryd.prog W = .ok (.pointer (some ⟨W.heap.size, 0, none⟩)) (W.alloc (.cells zWt.toArray 83 (0, 0))) := by kernel_rfl
theorem row_wait (W : World) (ys : List Value) (hy : ys.length = 129) : (Instr.buildSlice 65 1 #[(0, .agg ys.toArray)]).run Tryd.prog W = .ok (.slice (some ⟨W.heap.size, 0, none⟩) 1 1) (W.alloc (.cells ys.toArray 83)) := by
  obtain ⟨ie, hie, hp⟩ : ∃ ie, Tryd.prog.info? 83 = some ie ∧ (ie.zero.map (·.cells) = some zWt.toArray ∧ ie.size = 129) := by
    have h : (Tryd.prog.info? 83).map (fun i => (i.zero.map (·.cells), i.size)) = some (some zWt.toArray, 129) := by kernel_rfl
    obtain ⟨ie, h1, h2⟩ := Option.map_eq_some_iff.1 h
    simp only [Prod.mk.injEq] at h2
    exact ⟨ie, h1, h2⟩
  obtain ⟨hz, hs⟩ := hp
  obtain ⟨z, hz1, hz2⟩ := Option.map_eq_some_iff.1 hz
  refine run_buildSlice W _ _ 1 _ ys.toArray ie z (by kernel_rfl) hie hz1 (by rw [hs]; decide) (by rw [hs]; decide) ?_
  rw [hs, hz2]
  have hsz : ((Array.range (1 * 129)).map (zWt.toArray[· % zWt.toArray.size]!)).size = 129 := by simp
  generalize (Array.range (1 * 129)).map (zWt.toArray[· % zWt.toArray.size]!) = Z at hsz
  rw [show (#[(0, Value.agg ys.toArray)] : Array (Nat × Value)).toList = [(0, Value.agg ys.toArray)] from rfl, fill_step (off := 0) (size := 129) rfl (by simp [Value.cells, hy]) (by omega)]
  have : (Value.agg ys.toArray).cells.toList = ys := by simp [Value.cells]
  rw [this, hy, List.drop_eq_nil_of_le (by simp; omega)]
  simp [Instr.fill]
/-! ### The operations, as they are carried out -/
section
variable {P : Program} {op : Oper} {a : Act} {w : World}
theorem exec_load_mid (ty : TypeId) (x : Operand) (ho : op.op = .load ty x) (b o : Nat) (hx : a.eval x = .pointer (some ⟨b, o, none⟩)) (cs : List Value) (d : TypeDesc) (hc : w.rangeAt b o cs)
    (hu : P.underlying ty = some d) (hd : d.isRow = true) (hi : (P.info? ty).map (·.size) = some cs.length) : (execOp a.eval op).run P w = .ok (.value (.agg cs.toArray)) w := by
  unfold execOp
  simp only [ho, hx, Instr.loadAt, Instr.sureAddr, Sem.run_bind, Sem.run_pure, Result.andThen_ok, run_loadVar_mid w b o ty cs d hc hu hd hi]
theorem exec_store_mid (ty : TypeId) (x y : Operand) (ho : op.op = .store ty x y) (b o : Nat) (cells : Array Value) (hx : a.eval x = .pointer (some ⟨b, o, none⟩)) (hy : a.eval y = .agg cells)
    (ht : w.there b o cells.size) (hi : (P.info? ty).map (·.size) = some cells.size) (h1 : cells.all (·.oneCell') = true) : (execOp a.eval op).run P w = .ok .skip (w.setCells b o cells.toList) := by
  unfold execOp
  simp only [ho, hx, hy, Instr.storeAt, Instr.sureAddr, Sem.run_bind, Sem.run_pure, Result.andThen_ok, run_storeVar_mid w b o ty cells ht hi h1]
end
theorem exec_row_wait {op : Oper} {a : Act} (W : World) (x : Operand) (ho : op.op = .buildSlice 65 1 #[(0, x)]) (ys : List Value) (hx : a.eval x = .agg ys.toArray) (hy : ys.length = 129) :
    (execOp a.eval op).run Tryd.prog W = .ok (.value (.slice (some ⟨W.heap.size, 0, none⟩) 1 1)) (W.alloc (.cells ys.toArray 83)) := by
  unfold execOp
  simp only [ho, List.map_toArray, List.map_cons, List.map_nil, hx, Sem.run_bind, Sem.run_pure, row_wait W ys hy, Result.andThen_ok]
def zWtV : Value := .agg zWt.toArray
theorem info_wait : (Tryd.prog.info? 83).map (fun i => (i.zero, i.size, i.bytes)) = some (some zWtV, 129, 136) := by kernel_rfl
theorem zWtV_size : zWtV.cells.size = 129 := by show zWt.toArray.size = 129; exact zWt_size
end Go.Proofs.YteajpebkanamgaaDoor
namespace Go.Proofs.YteajpebkanamgaaDoor
open Go.RowKit Go.Proofs.YteajpebkanamgaaDoorW.PrintWords Go.Proofs.YteajpebkanamgaaDoorW.PrintLast
set_option linter.unusedSimpArgs false
set_option linter.unusedVariables false
set_option maxRecDepth 20000
def W10.T : Bool × List (List Nat × List Nat) := (true, [([], []), ([], []), ([1], [1]), ([2], [2]), ([3], [3]), ([], []), ([5], [5]), ([4, 6], [4, 6]), ([0, 0, 1, 2, 3, 4, 5, 6, 7], [0]), ([8, 0, 1, 2, 3, 4, 5, 6, 7], [8]), ([9, 7, 7, 0, 1, 2, 3, 4, 5, 6, 7], [7, 9])])
def W10.B : List Nat := [0, 0, 2, 6, 14, 0, 32, 126, 255, 511, 1023]
theorem W10.tab : rtab .any (opsOf Tryd.f87 10) = W10.T := by kernel_rfl
theorem W10.bits : waitsOk W10.T.2 W10.B = true := by kernel_rfl
def W11.T : Bool × List (List Nat × List Nat) := (true, [([], []), ([0], [0]), ([1], [1]), ([2], [2]), ([], []), ([], []), ([5], [5]), ([3, 4, 0, 1, 2, 3, 4, 5, 6], [3, 4]), ([7, 6, 0, 1, 2, 3, 4, 5, 6], [6, 7])])
def W11.B : List Nat := [0, 1, 3, 7, 0, 0, 32, 127, 255]
theorem W11.tab : rtab .any (opsOf Tryd.f87 11) = W11.T := by kernel_rfl
theorem W11.bits : waitsOk W11.T.2 W11.B = true := by kernel_rfl
section
variable {B : Nat} {w w' : World} {g a : Nat} {vw : Value} {d : Dk}
theorem DkA.range (h : DkA B w g a vw d) (i : Nat) (hi : i < d.l.length) {o : List UInt8} (ho : d.l.getD i [] = o) : w.rangeAt a (i * 64) (cb o) := by
  subst ho
  have hr := h.ha.rangeAt (i * 64) 64
  rwa [show (flat d.l).toArray.toList = flat d.l by simp, flat_get d.l h.ok.l i hi] at hr
theorem size_sector : (Tryd.prog.info? 81).map (·.size) = some 64 := by kernel_rfl
theorem size_wait : (Tryd.prog.info? 83).map (·.size) = some 129 := by kernel_rfl
theorem DkA.other (h : DkA B w g a vw d) {bx : Nat} {cs : Array Value} (hX : Blk w bx 83 cs) (hn : vw.ownBlock ≠ some bx) (hg : w.grownBy w' (some bx)) : DkA B w' g a vw d :=
  ⟨h.hg.grown hg (fun e => h.hg.apart hX (by decide) (by injection e)), h.ha.grown hg (fun e => h.ha.apart hX (by decide) (by injection e)), World.ownsRow.kept h.hw hg (.inr hn), h.bg, h.ba, h.ok⟩
theorem vals_copy (m : Nat) (o s : List UInt8) (ho : o.length = 64) (hs : s.length = 64) :
    (Wt.vals ⟨m, o, zs64⟩).toArray.toList.take 65 ++ cb (s.take 64) ++ (Wt.vals ⟨m, o, zs64⟩).toArray.toList.drop (65 + 64) = Wt.vals ⟨m, o, s⟩ := by
  have h1 : (Value.int .i64 (m : Nat) :: cb o).length = 65 := by simp [cb_length, ho]
  have e : (Wt.vals ⟨m, o, zs64⟩).toArray.toList = (Value.int .i64 (m : Nat) :: cb o) ++ cb zs64 := by simp [Wt.vals]
  rw [e, List.take_left' h1, List.drop_eq_nil_of_le (by rw [List.length_append, h1, cb_length]; decide), List.append_nil, List.take_of_length_le (by omega)]
  simp [Wt.vals]
theorem DkA.drew (h : DkA B w g a vw d) : DkA B w.drew g a vw d := ⟨h.hg, h.ha, h.hw, h.bg, h.ba, h.ok⟩
theorem Fr.drew (h : Fr B w w') : Fr B w w'.drew := ⟨Go.Proofs.YteajpebkanamgaaDoorW.PrintWords.below_drew h.b, h.f⟩
theorem Below.of_drew {B : Nat} {w w' : World} (h : Below B w w') : Below B w.drew w' := ⟨h.os, h.tape, h.output, h.size, h.block⟩
theorem newRange {m : Nat} {o s : List UInt8} (ho : o.length = 64) {b : Nat} (h : Blk w b 83 (Wt.vals ⟨m, o, s⟩).toArray) : w.rangeAt b 65 (cb s) := by
  intro j v hv
  rw [h.cell (65 + j)]
  have h1 : (Value.int .i64 (m : Nat) :: cb o).length = 65 := by simp [cb_length, ho]
  have e : Wt.vals ⟨m, o, s⟩ = (Value.int .i64 (m : Nat) :: cb o) ++ cb s := by simp [Wt.vals]
  rw [List.getElem?_toArray, e, List.getElem?_append_right (by omega), h1, show 65 + j - 65 = j by omega]
  exact hv
theorem flatW_snoc (l : List Wt) (x : Wt) : flatW (l ++ [x]) = flatW l ++ x.vals := by simp [flatW]
/-- one wait more, the sectors as they were. -/
theorem DkA.more (h : DkA B w g a vw d) {w6 : World} {v1 : Value} {x : Wt} (hx : wok x) (hm : x.at_ < d.l.length) (hown : w6.ownsRow B 83 129 v1 (d.w.length + 1) (flatW d.w ++ x.vals)) (hg : w.grownBy w6 vw.ownBlock)
    (hat : v1.ownBlock = vw.ownBlock ∨ ∃ b, v1.ownBlock = some b ∧ w.heap.size ≤ b) : DkA B (w6.setCell ⟨g, 1, none⟩ v1) g a v1 { d with w := d.w ++ [x] } := by
  have hn : some g ≠ v1.ownBlock := by
    rcases hat with e | ⟨b, e, hb⟩
    · rw [e]; exact h.neW.1
    · rw [e]; intro e2; injection e2 with e2; have := h.hg.lt; omega
  refine ⟨(h.hg.grown hg h.neW.1).set_ 1 _, (h.ha.grown hg h.neW.2).far h.ne.symm _, ?_, h.bg, h.ba, ⟨h.ok.l, ?_, h.ok.n, h.ok.f⟩⟩
  · have := owns_far hown (p := ⟨g, 1, none⟩) hn v1
    rw [← flatW_snoc] at this
    simpa using this
  · intro y hy
    rcases List.mem_append.1 hy with hy | hy
    · exact h.ok.w y hy
    · simp only [List.mem_singleton] at hy
      subst hy
      exact ⟨hm, hx.1, hx.2⟩
theorem DkA.frMore (h : DkA B w g a vw d) {w6 : World} (hg : w.grownBy w6 vw.ownBlock) (hb : Below B w w6) (u : Value) : Fr B w (w6.setCell ⟨g, 1, none⟩ u) :=
  (Fr.grown hg hb (fun k e => by obtain ⟨cs, hk⟩ := owns_typed h.hw k e; exact ⟨cs, _, _, hk, .inr (.inr rfl)⟩)).trans (Fr.set_ (h.hg.grown hg h.neW.1) (.inl rfl) h.bg 1 u)
/-- a sector is set. -/
theorem DkA.setL (h : DkA B w g a vw d) (m : Nat) (hm : m < d.l.length) (s : List UInt8) (hs : s.length = 64) : DkA B (w.setCells a (m * 64) (cb s)) g a vw { d with l := d.l.set m s } := by
  have hO := only_setCells (b := a) (cb s) (m * 64) (only_refl w (some a))
  have hb := Blk.setCells (cb s) (m * 64) h.ha (by rw [cb_length, hs, List.size_toArray, flat_len _ h.ok.l]; omega)
  have e : ((flat d.l).toArray.toList.take (m * 64) ++ cb s ++ (flat d.l).toArray.toList.drop (m * 64 + (cb s).length)) = flat (d.l.set m s) := by
    rw [show (flat d.l).toArray.toList = flat d.l by simp, flat_set d.l h.ok.l m hm s hs]
  rw [e] at hb
  refine ⟨?_, hb, World.ownsRow.kept h.hw hO (.inr fun e => h.neW.2 e.symm), h.bg, h.ba, ⟨all_set _ h.ok.l m s hs, fun x hx => ?_, ?_, h.ok.f⟩⟩
  · have := h.hg.grown hO (fun e => h.ne (by injection e))
    simpa [dkCells] using this
  · have := h.ok.w x hx
    simpa using this
  · simpa using h.ok.n
theorem DkA.frL (h : DkA B w g a vw d) (o : Nat) (vs : List Value) : Fr B w (w.setCells a o vs) := Fr.setCells h.ha (.inr (.inl rfl)) h.ba o vs
theorem gen_world {P : Program} {c : Code} {Q : Exit → Act → World → Prop} {a : Act} {W : World} (D : World → Prop) (h : D W) (k : ∀ W', D W' → c.wp P Q a W') : c.wp P Q a W := k W h
set_option maxHeartbeats 400000 in
theorem write_any (h : DkA B w g a vw d) (i : Int) (s : List UInt8) (hm : d.w.length < 1000000) :
    Calls Tryd.prog 87 #[.pointer (some ⟨g, 0, none⟩), .int .i64 i, .string ⟨s.toArray⟩] w fun e w' => e = .returned (.int .i64 (d.write i s).1) ∧ DkAt B w' g (d.write i s).2 ∧ Fr B w w' := by
  have H := Lib.hid h
  have HB := Lib.hid h.hB
  have hsz : (⟨s.toArray⟩ : ByteArray).size = s.length := by simp [ByteArray.size]
  by_cases h0 : d.there i = 0
  · obtain ⟨_, h1, h2⟩ := there_zero h0
    obtain ⟨m, rfl⟩ : ∃ m : Nat, i = m := ⟨i.toNat, by omega⟩
    have hm : m < d.l.length := by omega
    by_cases hs : s.length = 64
    · have HS := Lib.hid hs
      have hsI : ((s.length : Int) != 64) = false := bne_eq_false_iff_eq.mpr (by omega)
      by_cases hbd : d.burn.down = true
      · have er : d.write m s = (150, d.burn) := by simp [Dk.write, h0, hs, hbd]
        rw [er]
        clear h h1 h2 hs er
        go_enter Tryd.func87, Tryd.ntmps87
        go_wp2_with (first | (go_at_call 85; refine (there_any H.out _).mono ?_; rintro e w1 ⟨rfl, hb⟩; rw [h0]; have H1 := Lib.hid (H.out.below hb)) | (go_at_call 84; refine (burn_any H1.out).mono ?_; rintro e w2 ⟨rfl, h2, h3⟩; rw [hbd]))
        go_ret
        exact ⟨rfl, ⟨a, vw, h2⟩, (Fr.of hb HB.out).trans h3⟩
      · have er : d.write m s = (0, d.burn.put m s) := by simp [Dk.write, h0, hs, hbd]
        rw [er]
        have hbd' : d.burn.down = false := by simpa using hbd
        have hlb : d.burn.l = d.l := by unfold Dk.burn; split <;> rfl
        have hwb : d.burn.w = d.w := by unfold Dk.burn; split <;> rfl
        have hmb : m < d.burn.l.length := by rw [hlb]; exact hm
        obtain ⟨o, eo⟩ : ∃ o, Hid (d.burn.l.getD m [] = o) := ⟨_, Lib.hid rfl⟩
        clear h h1 h2 hs er hbd
        go_enter Tryd.func87, Tryd.ntmps87
        go_upto_region 8 with (first | (go_at_call 85; refine (there_any H.out _).mono ?_; rintro e w1 ⟨rfl, hb⟩; rw [h0]; have H1 := Lib.hid (H.out.below hb)) | (go_at_call 84; refine (burn_any H1.out).mono ?_; rintro e w2 ⟨rfl, h2, h3⟩; rw [hbd']))
        have H2 := Lib.hid h2
        have HF := Lib.hid ((Fr.of hb HB.out).trans h3)
        have c0 := H2.out.c0
        have hol : o.length = 64 := by rw [← eo.out]; exact getD64 _ H2.out.ok.l m hmb
        have HOL := Lib.hid hol
        have HL := Lib.hid (show (d.burn.w.length + 1) * 136 ≤ 140737488355328 by rw [hwb]; omega)
        clear hwb
        have HX := Lib.hid (show wok ⟨m, o, zs64⟩ from ⟨hol, rfl⟩)
        have hl := Lib.hid (H2.out.range m hmb eo.out)
        have ha := alloc_wait w2
        clear h2 h3 hb H H1 HB h0 hol hlb
        go_upto_region 9 with (first
          | ((with_reducible refine gate_dst (N := 27) rfl ?_); refine wpList_load_mid rfl 81 _ rfl a (m * 64) rfl (cb o) _ hl.out Tryd.underlying81 rfl (by rw [cb_length, HOL.out]; exact size_sector) ?_)
          | ((with_reducible refine gate_dst (N := 28) rfl ?_); refine wpList_buildTo rfl 83 _ rfl _ rfl (Wt.vals ⟨m, o, zs64⟩).toArray ?hb8 ?_; (case hb8 => refine Eq.trans (congrArg (Tryd.prog.built 83) (a₂ := [(0, Value.int .i64 m), (1, Value.agg (cb o).toArray)]) ?_) (build_wait m o HOL.out); simp only [List.map_toArray, List.map_cons, List.map_nil]; rfl))
          | ((with_reducible refine gate_dst (N := 8) rfl ?_); refine box_event ?hg (N := 8) ?hd (cs := zWt.toArray) (t := 83) ?hr ?_; (case hd => rfl); (case hg => rfl); (case hr => simp only [execOp, Sem.run_bind, ha, Result.andThen_ok, Sem.run_pure]); intro bx hbx_ w3 hbox hb3; have hbx := Lib.hid hbx_; clear hbx_)
          | ((with_reducible refine gate_store (t := 83) (p := 8) (v := .tmp 28) rfl ?_); refine wpList_store_row rfl 83 (.tmp 8) (.tmp 28) rfl bx (Wt.vals ⟨m, o, zs64⟩).toArray rfl rfl 83 zWt.toArray hbox ?hi ?hold ?h1 ?_; (case hi => rw [List.size_toArray, vals_len HX.out]; exact size_wait); (case hold => exact zWt_size.trans (by rw [List.size_toArray, vals_len HX.out])); (case h1 => exact all_oneCell_toArray (one_vals _))))
        refine gen_world (fun W => Blk W bx 83 (Wt.vals ⟨m, o, zs64⟩).toArray ∧ DkA B W g a vw d.burn ∧ Fr B w W) ?_ ?_
        · have hb4 : Below w2.heap.size w2 (w3.setRow bx (Wt.vals ⟨m, o, zs64⟩).toArray) := below_of_only hb3 (only_setRow (only_refl _ _) _) (by rw [hbx.out]; exact Nat.le_refl _) hb3.size
          exact ⟨Blk.setRow hbox _, H2.out.below hb4, HF.out.below hb4 H2.out.hB⟩
        have HNB := Lib.hid (show vw.ownBlock ≠ some bx from fun e => by have := (World.ownsRow.lt H2.out.hw bx e).2; rw [hbx.out] at this; exact Nat.lt_irrefl _ this)
        have HBX := Lib.hid (show B ≤ bx by rw [hbx.out]; exact H2.out.hB)
        clear hbox hb3 hbx ha H2 HF c0 hl
        rintro w4 ⟨hX, hD, hF⟩
        have HX0 := Lib.hid hX
        have HD := Lib.hid hD
        have HF := Lib.hid hF
        clear hX hD hF
        have hcp := run_copy_str w4 84 9 3 5 bx 65 64 64 s _ _ 64 Tryd.underlying84 (by kernel_rfl) HX0.out (by rw [HS.out]; rfl) (by rw [List.size_toArray, vals_len HX.out]; decide)
        unfold goInt at hcp
        rw [vals_copy m o s HOL.out HS.out] at hcp
        go_upto_region 10 with fail
        refine gen_world (fun W => Blk W bx 83 (Wt.vals ⟨m, o, s⟩).toArray ∧ DkA B W g a vw d.burn ∧ Fr B w W) ?_ ?_
        · have hO := only_setRow (only_refl w4 (some bx)) (Wt.vals ⟨m, o, s⟩).toArray
          exact ⟨Blk.setRow HX0.out _, HD.out.other HX0.out HNB.out hO, HF.out.trans (Fr.grown hO (below_of_only (Below.refl _ _) hO HBX.out (Nat.le_of_lt (Nat.lt_of_le_of_lt HBX.out HX0.out.lt))) (fun k e => by injection e with e; subst e; exact ⟨_, _, _, HX0.out, .inr (.inr rfl)⟩))⟩
        clear hcp HX0 HD HF
        rintro w5 ⟨hX, hD, hF⟩
        have HX5 := Lib.hid hX
        have HD := Lib.hid hD
        have HF := Lib.hid hF
        have HXs := Lib.hid (show wok ⟨m, o, s⟩ from ⟨HOL.out, HS.out⟩)
        clear hX hD hF
        have S10 : w5.drew.cell? ⟨g, 1, none⟩ = some vw ∧ Blk w5.drew bx 83 (Wt.vals ⟨m, o, s⟩).toArray := ⟨HD.out.c1, HX5.out⟩
        refine start_ (n := 11) (S := fun w' => w'.cell? ⟨g, 1, none⟩ = some vw ∧ Blk w' bx 83 (Wt.vals ⟨m, o, s⟩).toArray) (ds := [10]) #[false, false, false, false, false, false, false, false, false, false, false] (by kernel_rfl) rfl rfl S10 (fun hHeld => ?_)
        refine with_tabW W10.tab W10.bits (fun HT_ HW_ => ?_)
        refine pure_ (i := 0) (N := some 33) (v := ?_) (a' := ?_) #[true, false, false, false, false, false, false, false, false, false, false] rfl rfl (any_of HT_.out (by kernel_rfl)) (fun _ _ _ h => h) (Or.inl ⟨by rfl, ?_⟩) ?_ ?_
        rotate_left
        · intro w'
          go_simp
          try with_reducible rfl
        rotate_left
        · simp only [Act.put, List.setIfInBounds_toArray, List.set_cons_zero, List.set_cons_succ]
          rfl
        refine pure_ (i := 1) (N := some 34) (v := ?_) (a' := ?_) #[true, true, false, false, false, false, false, false, false, false, false] rfl rfl (any_of HT_.out (by kernel_rfl)) (fun _ _ _ h => h) (Or.inl ⟨by rfl, ?_⟩) ?_ ?_
        rotate_left
        · intro w'
          go_simp
          try with_reducible rfl
        rotate_left
        · simp only [Act.put, List.setIfInBounds_toArray, List.set_cons_zero, List.set_cons_succ]
          rfl
        refine pure_ (i := 2) (N := some 35) (v := ?_) (a' := ?_) #[true, true, true, false, false, false, false, false, false, false, false] rfl rfl (any_of HT_.out (by kernel_rfl)) (fun _ _ _ h => h) (Or.inl ⟨by rfl, ?_⟩) ?_ ?_
        rotate_left
        · intro w'
          go_simp
          try with_reducible rfl
        rotate_left
        · simp only [Act.put, List.setIfInBounds_toArray, List.set_cons_zero, List.set_cons_succ]
          rfl
        refine pure_ (i := 3) (N := some 36) (v := ?_) (a' := ?_) #[true, true, true, true, false, false, false, false, false, false, false] rfl rfl (any_of HT_.out (by kernel_rfl)) (fun _ _ _ h => h) (Or.inl ⟨by rfl, ?_⟩) ?_ ?_
        rotate_left
        · intro w'
          go_simp
          try with_reducible rfl
        rotate_left
        · simp only [Act.put, List.setIfInBounds_toArray, List.set_cons_zero, List.set_cons_succ]
          rfl
        refine take_ (i := 4) (N := some 37) (v := ?_) (a' := ?_) #[true, true, true, true, true, false, false, false, false, false, false] rfl rfl (take_ofW HT_.out HW_.out (by kernel_rfl)) (fun _ _ _ h => h) (Or.inl ⟨by rfl, ?_⟩) hHeld ?_ ?_
        rotate_left
        · rintro w' ⟨s0, s1⟩
          go_simp
          try with_reducible rfl
        rotate_left
        · simp only [Act.put, List.setIfInBounds_toArray, List.set_cons_zero, List.set_cons_succ]
          rfl
        refine take_ (i := 5) (N := some 38) (v := ?_) (a' := ?_) #[true, true, true, true, true, true, false, false, false, false, false] rfl rfl (take_ofW HT_.out HW_.out (by kernel_rfl)) (fun _ _ _ h => h) (Or.inl ⟨by rfl, ?_⟩) hHeld ?_ ?_
        rotate_left
        · rintro w' ⟨s0, s1⟩
          refine exec_load_mid 83 (.tmp 8) ?_ bx 0 ?_ (Wt.vals ⟨m, o, s⟩) _ s1.rangeAll Tryd.underlying83 rfl (by rw [vals_len HXs.out]; exact size_wait) <;> rfl
        rotate_left
        · simp only [Act.put, List.setIfInBounds_toArray, List.set_cons_zero, List.set_cons_succ]
          rfl
        refine one_ (i := 6) (N := some 39) #[true, true, true, true, true, true, true, false, false, false, false] rfl rfl (one_of HT_.out (by kernel_rfl)) (by decide) (fun K hK => ?_)
        refine value_ (by rfl) rfl (exec_row_wait _ (.tmp 38) rfl (Wt.vals ⟨m, o, s⟩) rfl (vals_len HXs.out)) ?_
        refine hK.out _ _ (⟨(Blk.alloc (show Blk w5.drew g _ _ from HD.out.hg) _).cell 1, Blk.alloc hHeld.2 _⟩) (fun hHeld => ?_)
        clear hK K
        refine norm_ (a' := ?_) ?_ ?_
        rotate_left
        · show Act.put _ (some 39) _ = _
          simp only [Act.put, List.setIfInBounds_toArray, List.set_cons_zero, List.set_cons_succ]
          rfl
        refine one_ (i := 7) (N := some 40) #[true, true, true, true, true, true, true, true, false, false, false] rfl rfl (one_of HT_.out (by kernel_rfl)) (by decide) (fun K hK => ?_)
        refine step_append_cells (w0 := w5) (W := w5.drew) B (by rfl) (.tmp 37) (.tmp 39) 65 83 zWtV 129 136 rfl (by kernel_rfl) info_wait zWtV_size (by decide) (by decide) vw d.burn.w.length (flatW d.burn.w) (Wt.vals ⟨m, o, s⟩) rfl rfl (vals_len HXs.out) (one_vals _) HD.out.hw (Go.Proofs.YteajpebkanamgaaDoorW.PrintWords.below_drew (Below.refl _ _)) HD.out.hB HL.out ?_
        intro v1 w6 hown hb hg hat
        obtain ⟨A1, c1, e1⟩ := owns_form hown
        subst e1
        have hBg := (show Blk w5.drew g _ _ from HD.out.hg).grown hg HD.out.neW.1
        have hBx := (show Blk w5.drew bx _ _ from HX5.out).grown hg (fun e => HNB.out e.symm)
        have hBa := (show Blk w5.drew a _ _ from HD.out.ha).grown hg HD.out.neW.2
        have m1 : w6.cell? ⟨g, 1, none⟩ = some vw := hBg.cell 1
        have n1 := hBg.frozen 1
        refine hK.out _ _ (⟨m1, hBx⟩) (fun hHeld => ?_)
        clear hK K
        refine norm_ (a' := ?_) ?_ ?_
        rotate_left
        · show Act.put _ (some 40) _ = _
          simp only [Act.put, List.setIfInBounds_toArray, List.set_cons_zero, List.set_cons_succ]
          rfl
        refine pure_ (i := 8) (N := some 41) (v := ?_) (a' := ?_) #[true, true, true, true, true, true, true, true, true, false, false] rfl rfl (any_of HT_.out (by kernel_rfl)) (fun _ _ _ h => h) (Or.inl ⟨by rfl, ?_⟩) ?_ ?_
        rotate_left
        · intro w'
          go_simp
          try with_reducible rfl
        rotate_left
        · simp only [Act.put, List.setIfInBounds_toArray, List.set_cons_zero, List.set_cons_succ]
          rfl
        refine pure_ (i := 9) (N := some 42) (v := ?_) (a' := ?_) #[true, true, true, true, true, true, true, true, true, true, false] rfl rfl (any_of HT_.out (by kernel_rfl)) (fun _ _ _ h => h) (Or.inl ⟨by rfl, ?_⟩) ?_ ?_
        rotate_left
        · intro w'
          go_simp
          try with_reducible rfl
        rotate_left
        · simp only [Act.put, List.setIfInBounds_toArray, List.set_cons_zero, List.set_cons_succ]
          rfl
        refine last_ (i := 10) (N := none) #[true, true, true, true, true, true, true, true, true, true, true] rfl rfl (one_of HT_.out (by kernel_rfl)) (by decide) (fun K hK => ?_)
        refine skip_ (w1 := ?_) (by rfl) rfl ?_ ?_
        rotate_left
        · go_simp
          try rfl
        refine hK.out _ _ ?_
        clear hK K
        refine done_ (done_of HT_.out (by kernel_rfl)) ?_
        clear HT_ HW_
        go_upto_region 11 with fail
        refine gen_world (fun W => Blk W bx 83 (Wt.vals ⟨m, o, s⟩).toArray ∧ DkA B W g a (.slice A1 (d.burn.w.length + 1) c1) { d.burn with w := d.burn.w ++ [⟨m, o, s⟩] } ∧ Fr B w W) ?_ ?_
        · exact ⟨hBx.far (fun e => HD.out.hg.apart HX5.out (by decide) e.symm) _, HD.out.drew.more (x := ⟨m, o, s⟩) HXs.out hmb hown hg hat, HF.out.drew.trans (HD.out.drew.frMore hg (Below.of_drew hb) _)⟩
        clear hb hg hown hat hBg hBx hBa m1 n1 hHeld S10 HD HF HX5
        rintro w7 ⟨hX, hD, hF⟩
        have HX7 := Lib.hid hX
        have HD := Lib.hid hD
        have HF := Lib.hid hF
        have S11 : w7.drew.cell? ⟨g, 0, none⟩ = some (.slice (some ⟨a, 0, none⟩) d.burn.l.length d.burn.l.length) ∧ Blk w7.drew bx 83 (Wt.vals ⟨m, o, s⟩).toArray := ⟨hD.c0, hX⟩
        clear hX hD hF
        refine start_ (n := 9) (S := fun w' => w'.cell? ⟨g, 0, none⟩ = some (.slice (some ⟨a, 0, none⟩) d.burn.l.length d.burn.l.length) ∧ Blk w' bx 83 (Wt.vals ⟨m, o, s⟩).toArray) (ds := [8]) #[false, false, false, false, false, false, false, false, false] (by kernel_rfl) rfl rfl S11 (fun hHeld => ?_)
        refine with_tabW W11.tab W11.bits (fun HT_ HW_ => ?_)
        refine pure_ (i := 0) (N := some 43) (v := ?_) (a' := ?_) #[true, false, false, false, false, false, false, false, false] rfl rfl (any_of HT_.out (by kernel_rfl)) (fun _ _ _ h => h) (Or.inl ⟨by rfl, ?_⟩) ?_ ?_
        rotate_left
        · intro w'
          go_simp
          try with_reducible rfl
        rotate_left
        · simp only [Act.put, List.setIfInBounds_toArray, List.set_cons_zero, List.set_cons_succ]
          rfl
        refine pure_ (i := 1) (N := some 44) (v := ?_) (a' := ?_) #[true, true, false, false, false, false, false, false, false] rfl rfl (any_of HT_.out (by kernel_rfl)) (fun _ _ _ h => h) (Or.inl ⟨by rfl, ?_⟩) ?_ ?_
        rotate_left
        · intro w'
          go_simp
          try with_reducible rfl
        rotate_left
        · simp only [Act.put, List.setIfInBounds_toArray, List.set_cons_zero, List.set_cons_succ]
          rfl
        refine pure_ (i := 2) (N := some 45) (v := ?_) (a' := ?_) #[true, true, true, false, false, false, false, false, false] rfl rfl (any_of HT_.out (by kernel_rfl)) (fun _ _ _ h => h) (Or.inl ⟨by rfl, ?_⟩) ?_ ?_
        rotate_left
        · intro w'
          go_simp
          try with_reducible rfl
        rotate_left
        · simp only [Act.put, List.setIfInBounds_toArray, List.set_cons_zero, List.set_cons_succ]
          rfl
        refine pure_ (i := 4) (N := some 47) (v := ?_) (a' := ?_) #[true, true, true, false, true, false, false, false, false] rfl rfl (any_of HT_.out (by kernel_rfl)) (fun _ _ _ h => h) (Or.inl ⟨by rfl, ?_⟩) ?_ ?_
        rotate_left
        · intro w'
          go_simp
          try with_reducible rfl
        rotate_left
        · simp only [Act.put, List.setIfInBounds_toArray, List.set_cons_zero, List.set_cons_succ]
          rfl
        refine pure_ (i := 5) (N := some 48) (v := ?_) (a' := ?_) #[true, true, true, false, true, true, false, false, false] rfl rfl (any_of HT_.out (by kernel_rfl)) (fun _ _ _ h => h) (Or.inl ⟨by rfl, ?_⟩) ?_ ?_
        rotate_left
        · intro w'
          go_simp
          try with_reducible rfl
        rotate_left
        · simp only [Act.put, List.setIfInBounds_toArray, List.set_cons_zero, List.set_cons_succ]
          rfl
        refine take_ (i := 3) (N := some 46) (v := ?_) (a' := ?_) #[true, true, true, true, true, true, false, false, false] rfl rfl (take_ofW HT_.out HW_.out (by kernel_rfl)) (fun _ _ _ h => h) (Or.inl ⟨by rfl, ?_⟩) hHeld ?_ ?_
        rotate_left
        · rintro w' ⟨s0, s1⟩
          go_simp
          try with_reducible rfl
        rotate_left
        · simp only [Act.put, List.setIfInBounds_toArray, List.set_cons_zero, List.set_cons_succ]
          rfl
        refine take_ (i := 6) (N := some 49) (v := ?_) (a' := ?_) #[true, true, true, true, true, true, true, false, false] rfl rfl (take_ofW HT_.out HW_.out (by kernel_rfl)) (fun _ _ _ h => h) (Or.inl ⟨by rfl, ?_⟩) hHeld ?_ ?_
        rotate_left
        · rintro w' ⟨s0, s1⟩
          refine exec_load_mid 81 (.tmp 48) ?_ bx 65 ?_ (cb s) _ (newRange HOL.out s1) Tryd.underlying81 rfl (by rw [cb_length, HS.out]; exact size_sector) <;> rfl
        rotate_left
        · simp only [Act.put, List.setIfInBounds_toArray, List.set_cons_zero, List.set_cons_succ]
          rfl
        refine pure_ (i := 7) (N := some 50) (v := ?_) (a' := ?_) #[true, true, true, true, true, true, true, true, false] rfl rfl (any_of HT_.out (by kernel_rfl)) (fun _ _ _ h => h) (Or.inl ⟨by rfl, ?_⟩) ?_ ?_
        rotate_left
        · intro w'
          go_simp
          try with_reducible rfl
        rotate_left
        · simp only [Act.put, List.setIfInBounds_toArray, List.set_cons_zero, List.set_cons_succ]
          rfl
        refine last_ (i := 8) (N := none) #[true, true, true, true, true, true, true, true, true] rfl rfl (one_of HT_.out (by kernel_rfl)) (by decide) (fun K hK => ?_)
        refine skip_ (w1 := w7.drew.setCells a (m * 64) (cb s)) (by rfl) rfl (exec_store_mid 81 (.tmp 50) (.tmp 49) rfl a (m * 64) (cb s).toArray rfl rfl ?ht ?hi ?h1) ?_
        (case ht => rw [List.size_toArray, cb_length, HS.out]; exact HD.out.drew.ha.thereAt (m * 64) 64 (by rw [List.size_toArray, flat_len _ HD.out.ok.l]; show m * 64 + 64 ≤ 64 * d.burn.l.length; omega))
        (case hi => rw [List.size_toArray, cb_length, HS.out]; exact size_sector)
        (case h1 => exact all_oneCell_toArray (one_cb _))
        refine hK.out _ _ ?_
        clear hK K
        refine done_ (done_of HT_.out (by kernel_rfl)) ?_
        clear HT_ HW_
        go_wp2_with fail
        go_ret
        have e : d.burn.put m s = { ({ d.burn with w := d.burn.w ++ [⟨m, o, s⟩] } : Dk) with l := d.burn.l.set m s } := by unfold Dk.put; rw [eo.out]
        rw [e]
        exact ⟨rfl, ⟨a, _, HD.out.drew.setL m hmb s HS.out⟩, HF.out.drew.trans (HD.out.drew.frL _ _)⟩
    · have er : d.write m s = (3, d) := by simp [Dk.write, h0, hs]
      rw [er]
      have hsI : ((s.length : Int) != 64) = true := bne_iff_ne.mpr (by omega)
      clear h h1 h2 er
      go_enter Tryd.func87, Tryd.ntmps87
      go_wp2_with (first | (go_at_call 85; refine (there_any H.out _).mono ?_; rintro e w1 ⟨rfl, hb⟩; rw [h0]))
      go_ret
      exact ⟨rfl, ⟨a, vw, H.out.below hb⟩, Fr.of hb HB.out⟩
  · have er : d.write i s = (d.there i, d) := by simp [Dk.write, h0]
    rw [er]
    have hn : (d.there i != 0) = true := bne_iff_ne.mpr h0
    clear h
    go_enter Tryd.func87, Tryd.ntmps87
    go_wp2_with (first | (go_at_call 85; refine (there_any H.out _).mono ?_; rintro e w1 ⟨rfl, hb⟩))
    go_ret
    exact ⟨rfl, ⟨a, vw, H.out.below hb⟩, Fr.of hb HB.out⟩
end
end Go.Proofs.YteajpebkanamgaaDoor
namespace Go.Proofs
open Go.Shelf
def Tryd.lays99_ren : Go.Shelf.Ren := ⟨fun | 99 => 69 | 206 => 90 | n => n, fun | 9 => 9 | 4 => 4 | 3 => 3 | n => n, fun | n => n⟩
theorem Tryd.lays99 : Go.Proofs.Lays.n99 Tryd.prog Tryd.lays99_ren := {
  mixed := by kernel_rfl
  f99 := Tryd.func69.trans (congrArg some (by kernel_rfl))
  f206 := Tryd.func90.trans (congrArg some (by kernel_rfl))
  t3 := Tryd.underlying3
  a3 := Tryd.isAgg3
  z3 := Tryd.sizeOf3
  v3 := Tryd.zeroValue3
  t4 := Tryd.underlying4
  a4 := Tryd.isAgg4
  z4 := Tryd.sizeOf4
  v4 := Tryd.zeroValue4
  t9 := Tryd.underlying9
  a9 := Tryd.isAgg9
  z9 := Tryd.sizeOf9
  v9 := Tryd.zeroValue9 }
open Go.RowKit Go.Lib in
/-- strings.HasPrefix: "HasPrefix reports whether the string s begins with prefix.": IT RETURNS 'Lib.hasPrefix s prefix'; the world is as it was. (LAID: no walk: one application.) -/
theorem Tryd.strings_HasPrefix (s p : ByteArray) (w : World) :
    Calls Tryd.prog 69 #[.string s, .string p] w fun e w' => e = .returned (.bool (Lib.hasPrefix s.data.toList p.data.toList)) ∧ w' = w := Any.strings_HasPrefix Tryd.lays99 s p w
def Tryd.lays105_ren : Go.Shelf.Ren := ⟨fun | 105 => 86 | 212 => 96 | 99 => 69 | 165 => 97 | 166 => 66 | 170 => 98 | 169 => 67 | 263 => 104 | 264 => 105 | 206 => 90 | 240 => 89 | 241 => 106 | 276 => 102 | 277 => 109 | n => n, fun | 9 => 9 | 3 => 3 | 4 => 4 | 20 => 20 | 0 => 0 | 46 => 101 | 109 => 134 | 5 => 5 | 72 => 108 | 76 => 111 | 51 => 143 | 146 => 144 | 53 => 146 | 148 => 147 | 70 => 106 | 37 => 84 | 75 => 110 | 127 => 129 | 164 => 139 | 80 => 113 | n => n, fun | n => n⟩
theorem Tryd.lays105 : Go.Proofs.Lays.n105 Tryd.prog Tryd.lays105_ren := {
  mixed := by kernel_rfl
  f99 := Tryd.func69.trans (congrArg some (by kernel_rfl))
  f105 := Tryd.func86.trans (congrArg some (by kernel_rfl))
  f165 := Tryd.func97.trans (congrArg some (by kernel_rfl))
  f166 := Tryd.func66.trans (congrArg some (by kernel_rfl))
  f169 := Tryd.func67.trans (congrArg some (by kernel_rfl))
  f170 := Tryd.func98.trans (congrArg some (by kernel_rfl))
  f206 := Tryd.func90.trans (congrArg some (by kernel_rfl))
  f212 := Tryd.func96.trans (congrArg some (by kernel_rfl))
  f240 := Tryd.func89.trans (congrArg some (by kernel_rfl))
  f241 := Tryd.func106.trans (congrArg some (by kernel_rfl))
  f263 := Tryd.func104.trans (congrArg some (by kernel_rfl))
  f264 := Tryd.func105.trans (congrArg some (by kernel_rfl))
  f276 := Tryd.func102.trans (congrArg some (by kernel_rfl))
  f277 := Tryd.func109.trans (congrArg some (by kernel_rfl))
  t0 := Tryd.underlying0
  a0 := Tryd.isAgg0
  z0 := Tryd.sizeOf0
  v0 := Tryd.zeroValue0
  t3 := Tryd.underlying3
  a3 := Tryd.isAgg3
  z3 := Tryd.sizeOf3
  v3 := Tryd.zeroValue3
  t4 := Tryd.underlying4
  a4 := Tryd.isAgg4
  z4 := Tryd.sizeOf4
  v4 := Tryd.zeroValue4
  t5 := Tryd.underlying5
  a5 := Tryd.isAgg5
  z5 := Tryd.sizeOf5
  v5 := Tryd.zeroValue5
  t9 := Tryd.underlying9
  a9 := Tryd.isAgg9
  z9 := Tryd.sizeOf9
  v9 := Tryd.zeroValue9
  t20 := Tryd.underlying20
  a20 := Tryd.isAgg20
  z20 := Tryd.sizeOf20
  v20 := Tryd.zeroValue20
  t37 := Tryd.underlying84
  a37 := Tryd.isAgg84
  z37 := Tryd.sizeOf84
  v37 := Tryd.zeroValue84
  t46 := Tryd.underlying101
  a46 := Tryd.isAgg101
  z46 := Tryd.sizeOf101
  v46 := Tryd.zeroValue101
  t51 := Tryd.underlying143
  a51 := Tryd.isAgg143
  z51 := Tryd.sizeOf143
  v51 := Tryd.zeroValue143
  t53 := Tryd.underlying146
  a53 := Tryd.isAgg146
  z53 := Tryd.sizeOf146
  v53 := Tryd.zeroValue146
  t70 := Tryd.underlying106
  a70 := Tryd.isAgg106
  z70 := Tryd.sizeOf106
  v70 := Tryd.zeroValue106
  t72 := Tryd.underlying108
  a72 := Tryd.isAgg108
  z72 := Tryd.sizeOf108
  v72 := Tryd.zeroValue108
  t75 := Tryd.underlying110
  a75 := Tryd.isAgg110
  z75 := Tryd.sizeOf110
  v75 := Tryd.zeroValue110
  t76 := Tryd.underlying111
  a76 := Tryd.isAgg111
  z76 := Tryd.sizeOf111
  v76 := Tryd.zeroValue111
  t109 := Tryd.underlying134
  a109 := Tryd.isAgg134
  z109 := Tryd.sizeOf134
  v109 := Tryd.zeroValue134
  t127 := Tryd.underlying129
  a127 := Tryd.isAgg129
  z127 := Tryd.sizeOf129
  v127 := Tryd.zeroValue129
  t146 := Tryd.underlying144
  a146 := Tryd.isAgg144
  z146 := Tryd.sizeOf144
  v146 := Tryd.zeroValue144
  t148 := Tryd.underlying147
  a148 := Tryd.isAgg147
  z148 := Tryd.sizeOf147
  v148 := Tryd.zeroValue147
  t164 := Tryd.underlying139
  a164 := Tryd.isAgg139
  z164 := Tryd.sizeOf139
  v164 := Tryd.zeroValue139 }
theorem Tryd.Builder_Extra_105 : Builder.Extra Tryd.prog Tryd.lays105_ren := {
  sizeBuilder := by kernel_rfl
  liesBuilder := by kernel_rfl
  t5 := Tryd.underlying5
  a5 := Tryd.isAgg5
  z5 := Tryd.sizeOf5
  v5 := Tryd.zeroValue5
  infoByte := by kernel_rfl
  cellsByte := by kernel_rfl
  sizeByte := by kernel_rfl
  neB5 := by decide }
open Go.RowKit Go.Lib in
/-- **strings.Repeat: count ≥ 0, the result within one allocation: count copies of s.** (LAID: no walk: one application.) -/
theorem Tryd.strings_Repeat (s : ByteArray) (c : Nat) (w : World) (hc : c ≤ 9223372036854775807) (hlen : s.size * c ≤ 140737488355328) :
    Calls Tryd.prog 86 #[.string s, .int .i64 c] w fun e w' => e = .returned (.string ⟨(Lib.repeatL s.data.toList c).toArray⟩) ∧ Below w.heap.size w w' := Any.strings_Repeat Tryd.lays105 Tryd.Builder_Extra_105 s c w hc hlen
def Tryd.lays110_ren : Go.Shelf.Ren := ⟨fun | 110 => 52 | 109 => 72 | n => n, fun | 31 => 22 | 9 => 9 | 4 => 4 | 3 => 3 | 0 => 0 | n => n, fun | n => n⟩
theorem Tryd.lays110 : Go.Proofs.Lays.n110 Tryd.prog Tryd.lays110_ren := {
  mixed := by kernel_rfl
  f109 := Tryd.func72.trans (congrArg some (by kernel_rfl))
  f110 := Tryd.func52.trans (congrArg some (by kernel_rfl))
  t0 := Tryd.underlying0
  a0 := Tryd.isAgg0
  z0 := Tryd.sizeOf0
  v0 := Tryd.zeroValue0
  t3 := Tryd.underlying3
  a3 := Tryd.isAgg3
  z3 := Tryd.sizeOf3
  v3 := Tryd.zeroValue3
  t4 := Tryd.underlying4
  a4 := Tryd.isAgg4
  z4 := Tryd.sizeOf4
  v4 := Tryd.zeroValue4
  t9 := Tryd.underlying9
  a9 := Tryd.isAgg9
  z9 := Tryd.sizeOf9
  v9 := Tryd.zeroValue9
  t31 := Tryd.underlying22
  a31 := Tryd.isAgg22
  z31 := Tryd.sizeOf22
  v31 := Tryd.zeroValue22 }
open Go.Lib in
/-- slices.Contains at []string: "Contains reports whether v is present in s.": IT RETURNS 'Lib.containsS (the elements) v', which is true just where v is among them ('Lib.containsS_iff'); the world is as it was. ITS CALLEE slices.Index IS MET BY ITS OWN CONTRACT OFF THE SHELF (lay that first): no loop is walked here. (LAID: no walk: one application.) -/
theorem Tryd.slices_Contains_string (b off n c : Nat) (zs : List ByteArray) (x : ByteArray) (w : World) (hz : n ≤ zs.length) (hbig : n ≤ 9223372036854775807) (hc : ∀ j, j < zs.length → w.cell? ⟨b, off + j, none⟩ = some (.string (zs.getD j ByteArray.empty))) :
    Calls Tryd.prog 52 #[.slice (some ⟨b, off, none⟩) n c, .string x] w fun e w' => e = .returned (.bool (Lib.containsS (zs.take n) x)) ∧ w' = w := Any.slices_Contains_string Tryd.lays110 b off n c zs x w hz hbig hc
open Go.Lib in
/-- The same at a slice of length 0, a nil one too. (LAID: no walk: one application.) -/
theorem Tryd.slices_Contains_string_empty (a : Option Addr) (c : Nat) (x : ByteArray) (w : World) :
    Calls Tryd.prog 52 #[.slice a 0 c, .string x] w fun e w' => e = .returned (.bool false) ∧ w' = w := Any.slices_Contains_string_empty Tryd.lays110 a c x w
def Tryd.laysNm216_ren : Go.Shelf.Ren := ⟨fun | 16 => 46 | n => n, fun | 24 => 22 | 9 => 9 | 4 => 4 | n => n, fun | n => n⟩
theorem Tryd.laysNm216 : Go.Proofs.Lays2.n16 Tryd.prog Tryd.laysNm216_ren := {
  mixed := by kernel_rfl
  f16 := Tryd.func46.trans (congrArg some (by kernel_rfl))
  t4 := Tryd.underlying4
  a4 := Tryd.isAgg4
  z4 := Tryd.sizeOf4
  v4 := Tryd.zeroValue4
  t9 := Tryd.underlying9
  a9 := Tryd.isAgg9
  z9 := Tryd.sizeOf9
  v9 := Tryd.zeroValue9
  t24 := Tryd.underlying22
  a24 := Tryd.isAgg22
  z24 := Tryd.sizeOf22
  v24 := Tryd.zeroValue22
  i9 := by kernel_rfl }
open Go.RowKit Go.Lib in
/-- slices.Clone at []string: "Clone returns a copy of the slice. The elements are copied using assignment, so this is a shallow clone. The result may have additional unused capacity. The result preserves the nilness of s.": OF A SLICE THAT IS NOT nil IT RETURNS A SLICE THAT IS NOT nil, OF THE SAME ELEMENTS, IN MEMORY OF THE CALL's OWN: in the how-to's words (6f): 'w'.ownsRow B e 1 v' n cells': v' begins at the head of a row among the blocks from B on (B: the heap's size at the call), not frozen, whose first cells are the elements · 'Below B w w'': below B all is as it was. The capacity is whatever the run-time gives. 'zs': what the cells behind the slice's address hold; 'zs.take n': its elements. (LAID: no walk: one application.) -/
theorem Tryd.slices_Clone_string (b off n c : Nat) (zs : List ByteArray) (w : World) (hz : n ≤ zs.length) (hbig : n * 16 ≤ 140737488355328) (hc : ∀ j, j < zs.length → w.cell? ⟨b, off + j, none⟩ = some (.string (zs.getD j ByteArray.empty))) :
    Calls Tryd.prog 46 #[.slice (some ⟨b, off, none⟩) n c] w fun e w' => ∃ v', e = .returned v' ∧ w'.ownsRow w.heap.size 9 1 v' n ((zs.take n).map (Value.string)) ∧ v' ≠ .slice none 0 0 ∧ Below w.heap.size w w' := Any.slices_Clone_string Tryd.laysNm216 b off n c zs w hz hbig hc
open Go.RowKit Go.Lib in
/-- The same at nil: nil comes back; the world is as it was. (LAID: no walk: one application.) -/
theorem Tryd.slices_Clone_string_nil (n c : Nat) (w : World) :
    Calls Tryd.prog 46 #[.slice none n c] w fun e w' => e = .returned (.slice none 0 0) ∧ w' = w := Any.slices_Clone_string_nil Tryd.laysNm216 n c w
end Go.Proofs
namespace Go.Proofs.YteajpebkanamgaaDoor
open Go.RowKit Go.Proofs.YteajpebkanamgaaDoorW.PrintWords Go.Proofs.YteajpebkanamgaaDoorW.PrintLast
set_option linter.unusedSimpArgs false
set_option linter.unusedVariables false
set_option maxRecDepth 20000
def Dk.new (n : Nat) : Dk := ⟨List.replicate n zs64, [], 0, false⟩
theorem flat_zeros (n : Nat) : flat (List.replicate n zs64) = List.replicate (n * 64) z8 := by
  induction n with
  | zero => rfl
  | succ n ih =>
    have e : flat (List.replicate (n + 1) zs64) = cb zs64 ++ flat (List.replicate n zs64) := by simp [flat, List.replicate_succ]
    rw [e, ih, cb_zs64, List.replicate_append_replicate, show 64 + n * 64 = (n + 1) * 64 by omega]
theorem made_zeros (m : Nat) : (madeCells (List.replicate 64 z8).toArray m).toList = List.replicate m z8 := by
  unfold madeCells
  apply List.ext_getElem?
  intro k
  simp only [Array.toList_map, Array.toList_range, List.getElem?_map, List.getElem?_replicate]
  by_cases hk : k < m
  · rw [List.getElem?_range hk, if_pos hk]
    have hs : k % (List.replicate 64 z8).toArray.size < 64 := by
      have : (List.replicate 64 z8).toArray.size = 64 := by simp
      rw [this]; exact Nat.mod_lt _ (by decide)
    simp only [Option.map_some]
    congr 1
    rw [getElem!_pos (List.replicate 64 z8).toArray _ hs, List.getElem_toArray, List.getElem_replicate]
  · rw [if_neg hk, List.getElem?_eq_none (by simpa using hk)]
    rfl
def zSec : Value := .agg (List.replicate 64 z8).toArray
theorem info_sector : (Tryd.prog.info? 81).map (fun i => (i.zero, i.size, i.bytes)) = some (some zSec, 64, 64) := by kernel_rfl
theorem build_disk (A : Option Addr) (n c : Nat) : Tryd.prog.built 68 [(0, .slice A n c)] = some #[.slice A n c, .slice none 0 0, .int .i64 0, .int .i64 0] := by kernel_rfl
theorem make_disk (w : World) (n : Nat) (hn : n ≤ 1024) :
    ∃ w', (Instr.makeSlice 64 (.int .i64 (n : Int)) (.int .i64 (n : Int))).run Tryd.prog w = .ok (.slice (some ⟨w.heap.size, 0, none⟩) n n) w' ∧ Blk w' w.heap.size 81 (flat (List.replicate n zs64)).toArray ∧ Below w.heap.size w w' ∧ w.heap.size < w'.heap.size := by
  obtain ⟨i, hi, hh⟩ := Option.map_eq_some_iff.1 info_sector
  simp only [Prod.mk.injEq] at hh
  obtain ⟨hz, hs, hb⟩ := hh
  obtain ⟨w', hr, h2, h3⟩ := run_make_full (P := Tryd.prog) w w.heap.size 64 81 i zSec 64 (by kernel_rfl) hi hz hs .i64 .i64 n (by rw [hb]; omega) (by have : maxLen = 9223372036854775807 := rfl; omega) (Nat.le_refl _)
  refine ⟨w', hr, ?_, (Below.refl w.heap.size w).grown h3 (Nat.le_refl _) (fun k hk => by cases hk), ?_⟩
  · rcases h2.2 with ⟨e, _⟩ | ⟨g, cap, cur, e, _, hc, _, _, hsz, ht⟩
    · injection e with e; cases e
    · injection e with e1 e2 e3
      injection e1 with e1
      injection e1 with e1
      subst e1 e3
      have hzc : zSec.cells = (List.replicate 64 z8).toArray := rfl
      rw [hzc, made_zeros, List.take_of_length_le (by simp [hsz])] at ht
      rw [flat_zeros, ← ht]
      exact hc
  · rcases h2.2 with ⟨e, _⟩ | ⟨g, cap, cur, e, _, hc, _⟩
    · injection e with e; cases e
    · injection e with e1 e2 e3
      injection e1 with e1
      injection e1 with e1
      subst e1
      exact heap_lt hc
theorem new_any (n : Nat) (h1 : 1 ≤ n) (h2 : n ≤ 1024) (w : World) :
    Calls Tryd.prog 8 #[.int .i64 n] w fun e w' => ∃ g, e = .returned (.tuple #[.pointer (some ⟨g, 0, none⟩), .int .i64 0]) ∧ DkAt w.heap.size w' g (Dk.new n) ∧ Below w.heap.size w w' := by
  obtain ⟨w1, hmk, hb, hbl, hsz⟩ := make_disk w n h2
  have HB := Lib.hid hb
  have HL := Lib.hid hbl
  have HS := Lib.hid hsz
  have H1 := Lib.hid h1
  have H2 := Lib.hid h2
  have hn0 : 0 ≤ (n : Int) := by omega
  have hn1 : ((n : Int) < 1) = False := eq_false (by omega)
  have hn2 : (1024 < (n : Int)) = False := eq_false (by omega)
  have hbd := build_disk (some ⟨w.heap.size, 0, none⟩) n n
  clear hb hbl hsz h1 h2
  go_enter Tryd.func8, Tryd.ntmps8
  go_wp2_with fail
  go_ret2
  refine ⟨w1.heap.size, rfl, ⟨w.heap.size, .slice none 0 0, ?_⟩, HL.out.alloc (Nat.le_of_lt HS.out) _⟩
  refine ⟨?_, HB.out.alloc _, World.ownsRow_nil _ _ _ _, Nat.le_of_lt HS.out, Nat.le_refl _, ⟨?_, ?_, ?_, ?_⟩⟩
  · have := Blk.new w1 68 (dkCells w.heap.size (.slice none 0 0) (Dk.new n))
    have e : dkCells w.heap.size (.slice none 0 0) (Dk.new n) = #[.slice (some ⟨w.heap.size, 0, none⟩) n n, .slice none 0 0, .int .i64 0, .int .i64 0] := by simp [dkCells, Dk.new, isV]
    rw [e] at this ⊢
    exact this
  · intro x hx; rw [List.eq_of_mem_replicate hx]; rfl
  · intro x hx; cases hx
  · show (List.replicate n zs64).length ≤ 1024; rw [List.length_replicate]; exact H2.out
  · show (0 : Int) ≤ 0 ∧ (0 : Int) ≤ 1048576; decide
/-! ### sector, among -/
end Go.Proofs.YteajpebkanamgaaDoor
namespace Go.Proofs.YteajpebkanamgaaDoor
open Go.RowKit Go.Proofs.YteajpebkanamgaaDoorW.PrintWords Go.Proofs.YteajpebkanamgaaDoorW.PrintLast
set_option linter.unusedSimpArgs false
set_option linter.unusedVariables false
set_option maxRecDepth 20000
def C4.T : Bool × List (List Nat × List Nat) := (true, [([], []), ([0], [0]), ([1], [1]), ([2], [2]), ([], []), ([4], [4]), ([5], [5]), ([6], [6]), ([], []), ([7, 8], [7, 8]), ([9], [9]), ([10], [10]), ([], []), ([12], [12]), ([13], [13]), ([14], [14]), ([], []), ([15, 16], [15, 16]), ([17], [17]), ([18], [18]), ([3, 11, 0, 1, 2, 3, 4, 5, 6, 7, 8, 9, 10, 11, 12, 13, 14, 15, 16, 17, 18, 19], [3, 11]), ([20, 19, 0, 1, 2, 3, 4, 5, 6, 7, 8, 9, 10, 11, 12, 13, 14, 15, 16, 17, 18, 19], [19, 20])])
def C4.B : List Nat := [0, 1, 3, 7, 0, 16, 48, 112, 0, 496, 1008, 2032, 0, 4096, 12288, 28672, 0, 126976, 258048, 520192, 1048575, 2097151]
theorem C4.tab : rtab .any (opsOf Tryd.f17 4) = C4.T := by kernel_rfl
theorem C4.bits : waitsOk C4.T.2 C4.B = true := by kernel_rfl
def C10.T : Bool × List (List Nat × List Nat) := (true, [([], []), ([0], [0]), ([1], [1]), ([2], [2]), ([], []), ([4], [4]), ([3, 5], [3, 5]), ([], []), ([6, 7], [6, 7]), ([], []), ([], []), ([9, 10], [9, 10]), ([8, 11], [8, 11])])
def C10.B : List Nat := [0, 1, 3, 7, 0, 16, 63, 0, 255, 0, 0, 1536, 4095]
theorem C10.tab : rtab .any (opsOf Tryd.f17 10) = C10.T := by kernel_rfl
theorem C10.bits : waitsOk C10.T.2 C10.B = true := by kernel_rfl
section
variable {B : Nat} {w w' : World} {g a : Nat} {vw : Value} {d : Dk}
/-- picks, where no disk's block lies. -/
def PkAt (B : Nat) (w : World) (A : Option Addr) (n : Nat) (zs : List Int) : Prop :=
  zs.length = n ∧ (0 < n → ∃ b o, A = some ⟨b, o, none⟩ ∧ (∀ i, i < n → w.cell? ⟨b, o + i, none⟩ = some (.int .i64 (zs.getD i 0))) ∧ (b < B ∨ ∃ (cs : Array Value) (t : TypeId) (fz : Nat × Nat), w.heap[b]? = some (.cells cs t fz) ∧ ¬ DkT t))
theorem PkAt.fr {A : Option Addr} {n : Nat} {zs : List Int} (h : PkAt B w A n zs) (f : Fr B w w') : PkAt B w' A n zs := by
  refine ⟨h.1, fun hn => ?_⟩
  obtain ⟨b, o, e, hc, hb⟩ := h.2 hn
  have hh : w'.heap[b]? = w.heap[b]? := by
    rcases hb with hb | ⟨cs, t, fz, hk, ht⟩
    · exact f.b.block b hb
    · exact f.f b cs t fz hk (fun e => ht (.inl e)) (fun e => ht (.inr (.inl e))) (fun e => ht (.inr (.inr e)))
  refine ⟨b, o, e, fun i hi => ?_, ?_⟩
  · rw [← hc i hi]
    unfold World.cell?
    simp only [hh]
  · rcases hb with hb | ⟨cs, t, fz, hk, ht⟩
    · exact .inl hb
    · exact .inr ⟨cs, t, fz, hh.trans hk, ht⟩
/-- a wait, read where it lies. -/
theorem DkA.wait (h : DkA B w g a vw d) (k : Nat) (hk : k < d.w.length) : ∃ b c, vw = .slice (some ⟨b, 0, none⟩) d.w.length c ∧ w.rangeAt b (k * 129) (d.w[k]).vals := by
  rcases h.hw.2 with ⟨_, e⟩ | ⟨b, cap, cur, e, _, hc, hle, _, hsz, ht⟩
  · rw [e] at hk; exact absurd hk (by omega)
  · refine ⟨b, cap, e, ?_⟩
    have hr := Blk.rangeAt (t := 83) hc (k * 129) 129
    have hf := flatW_get d.w (fun x hx => (h.ok.w x hx).2) k hk
    have e2 : (cur.toList.drop (k * 129)).take 129 = (d.w[k]).vals := by
      rw [← hf, ← ht, List.drop_take, List.take_take]
      congr 1
      have : (k + 1) * 129 ≤ d.w.length * 129 := Nat.mul_le_mul_right _ hk
      omega
    rw [e2] at hr
    exact hr
/-- a sector's beginning is set. -/
theorem DkA.putL (h : DkA B w g a vw d) (m : Nat) (hm : m < d.l.length) (s : List UInt8) (hs : s.length ≤ 64) : DkA B (w.setCells a (m * 64) (cb s)) g a vw { d with l := d.l.set m (s ++ (d.l.getD m []).drop s.length) } := by
  have hO := only_setCells (b := a) (cb s) (m * 64) (only_refl w (some a))
  have hb := Blk.setCells (cb s) (m * 64) h.ha (by rw [cb_length, List.size_toArray, flat_len _ h.ok.l]; omega)
  have e : ((flat d.l).toArray.toList.take (m * 64) ++ cb s ++ (flat d.l).toArray.toList.drop (m * 64 + (cb s).length)) = flat (d.l.set m (s ++ (d.l.getD m []).drop s.length)) := by
    rw [show (flat d.l).toArray.toList = flat d.l by simp, flat_put d.l h.ok.l m hm s hs]
  rw [e] at hb
  have h64 := getD64 d.l h.ok.l m hm
  refine ⟨?_, hb, World.ownsRow.kept h.hw hO (.inr fun e => h.neW.2 e.symm), h.bg, h.ba, ⟨all_set _ h.ok.l m _ (by rw [List.length_append, List.length_drop, h64]; omega), fun x hx => ?_, ?_, h.ok.f⟩⟩
  · have := h.hg.grown hO (fun e => h.ne (by injection e))
    simpa [dkCells] using this
  · have := h.ok.w x hx
    simpa using this
  · simpa using h.ok.n
end
end Go.Proofs.YteajpebkanamgaaDoor
namespace Go.Proofs.YteajpebkanamgaaDoor
open Go.RowKit
set_option linter.unusedSimpArgs false
set_option linter.unusedVariables false
set_option maxHeartbeats 800000 in
theorem short_any (k : Int) (hk1 : 1 ≤ k) (hk2 : k ≤ 32) (A : Option Addr) (n c : Nat) (w : World) (ls : List (List UInt8)) (h : Strs w A n ls) (hlen : ∀ l ∈ ls, l.length ≤ 140737488355328) (hn : n ≤ 9223372036854775807) (hk : KsAt w) (hg : 0 < w.heap.size) :
    Calls Tryd.prog 64 #[.int .i64 k, .slice A n c] w fun e w' => e = .returned (.tuple #[.string ⟨((sha ls.flatten).take k.toNat).toArray⟩, .int .i64 0]) ∧ Below w.heap.size w w' := by
  obtain ⟨m, rfl⟩ := Int.eq_ofNat_of_zero_le (show 0 ≤ k by omega)
  rw [Int.toNat_natCast]
  have H := Lib.hid h
  have HL := Lib.hid hlen
  have HK := Lib.hid hk
  clear h hlen hk
  go_enter Tryd.func64, Tryd.ntmps64
  go_wp2_with fail
  refine (sum_any A n c w ls H.out HL.out hn HK.out hg).mono ?_
  rintro e w1 ⟨rfl, b1⟩
  obtain ⟨R, hR⟩ : ∃ R, Hid (R = sha ls.flatten) := ⟨_, rfl⟩
  rw [← hR.out]
  have hRl : R.length = 32 := by rw [hR.out]; exact sha_length _
  have hsz : (⟨R.toArray⟩ : ByteArray).size = 32 := by simp [ByteArray.size, hRl]
  have HX := Lib.hid (extract_take R m)
  have B1 := Lib.hid b1
  clear b1
  go_wp2_with fail
  go_ret2
  refine ⟨?_, B1.out⟩
  rw [← hR.out]
  simp only [HX.out]
  rfl
end Go.Proofs.YteajpebkanamgaaDoor
namespace Go.Proofs.YteajpebkanamgaaDoor
open Go.RowKit
set_option linter.unusedSimpArgs false
set_option linter.unusedVariables false
set_option maxRecDepth 100000
theorem KsAt.below {w w' : World} (h : KsAt w) (hg : 0 < w.heap.size) (hb : Below w.heap.size w w') : KsAt w' := fun i hi => (hb.cell (p := ⟨0, i, none⟩) hg).trans (h i hi)
theorem strs_one (w : World) (t : TypeId) (a : List UInt8) : Strs (w.alloc (.cells #[.string ⟨a.toArray⟩] t)) (some ⟨w.heap.size, 0, none⟩) 1 [a] :=
  ⟨rfl, fun _ => ⟨w.heap.size, 0, rfl, by simp, fun i hi => by
    obtain rfl : i = 0 := by omega
    exact (Blk.new w t #[.string ⟨a.toArray⟩]).cell 0⟩⟩
end Go.Proofs.YteajpebkanamgaaDoor
namespace Go.Proofs.YteajpebkanamgaaDoor
open Go.RowKit
set_option linter.unusedSimpArgs false
set_option linter.unusedVariables false
set_option maxRecDepth 100000
section
variable {P : Program} {t e ty : TypeId} {z : Value} {by_ : Nat} {w w' : World} {B : Nat} {v : Value} {xs : List Value}
end
end Go.Proofs.YteajpebkanamgaaDoor
namespace Go.Proofs.YteajpebkanamgaaDoor
open Go.RowKit
set_option linter.unusedSimpArgs false
set_option linter.unusedVariables false
set_option maxRecDepth 100000
section
variable {P : Program} {t e ty : TypeId} {z : Value} {by_ : Nat} {w w' : World} {B : Nat} {v : Value} {xs : List Value}
end
end Go.Proofs.YteajpebkanamgaaDoor
namespace Go.Proofs.YteajpebkanamgaaDoor
open Go.RowKit
set_option linter.unusedSimpArgs false
set_option linter.unusedVariables false
set_option maxRecDepth 100000
theorem Strs.at_ {w : World} {g o n : Nat} {ls : List (List UInt8)} (h : Strs w (some ⟨g, o, none⟩) n ls) (k : Nat) (hk : k < n) : w.cell? ⟨g, o + k, none⟩ = some (.string ⟨(ls.getD k []).toArray⟩) := by
  obtain ⟨g', o', e, _, hc⟩ := h.2 (by omega)
  injection e with e
  injection e with e1 e2
  subst e1; subst e2
  exact hc k hk
end Go.Proofs.YteajpebkanamgaaDoor
namespace Go.Proofs.YteajpebkanamgaaDoor
open Go.RowKit
set_option linter.unusedSimpArgs false
set_option linter.unusedVariables false
set_option maxRecDepth 100000
section
variable {P : Program} {t e ty : TypeId} {z : Value} {by_ : Nat} {w w' : World} {B : Nat} {v : Value} {xs : List Value}
theorem my_own_lit (w : World) (e : TypeId) (xs : List Value) (hB : B ≤ w.heap.size) (hl : xs.length ≤ 9223372036854775807) : Own e (w.alloc (.cells xs.toArray e)) B (.slice (some ⟨w.heap.size, 0, none⟩) xs.length xs.length) xs :=
  ⟨by simp, .inr ⟨w.heap.size, xs.length, xs.toArray, rfl, hB, heap_alloc_new w _, Nat.le_refl _, hl, by simp, by simp⟩⟩
end
end Go.Proofs.YteajpebkanamgaaDoor
namespace Go.Proofs.YteajpebkanamgaaDoor
open Go.RowKit
set_option linter.unusedSimpArgs false
set_option linter.unusedVariables false
set_option maxRecDepth 20000
def pad0 (n : Nat) : Nat := (64 - n % 64) % 64
def padL (s : List UInt8) : List UInt8 := s ++ List.replicate (pad0 s.length) 0
def be4 (n : Nat) : List UInt8 := [UInt8.ofNat (n / 16777216), UInt8.ofNat (n / 65536), UInt8.ofNat (n / 256), UInt8.ofNat n]
def headL (g : Nat) : List UInt8 := [76, 79, 71, 0] ++ be4 g
def shaT (l : List UInt8) : List UInt8 := (sha l).take 16
def hmark (g : Nat) : List UInt8 := shaT (headL g)
def begunL (g : Nat) : List UInt8 := padL (headL g ++ hmark g)
def longL (t : List UInt8) : List UInt8 := [UInt8.ofNat (t.length / 256), UInt8.ofNat t.length]
def ownL (m t : List UInt8) : List UInt8 := shaT (m ++ longL t ++ t)
def recL (m t : List UInt8) : List UInt8 := padL (longL t ++ ownL m t ++ t)
def sectorsN (t : List UInt8) : Nat := (18 + t.length + 63) / 64
def wrongI (t : List UInt8) : Int := if t = [] then 1 else if 2000 < t.length then 2 else 0
theorem shaT_length (l : List UInt8) : (shaT l).length = 16 := by unfold shaT; rw [List.length_take, sha_length]; rfl
theorem headL_length (g : Nat) : (headL g).length = 8 := rfl
theorem hmark_length (g : Nat) : (hmark g).length = 16 := shaT_length _
theorem longL_length (t : List UInt8) : (longL t).length = 2 := rfl
theorem ownL_length (m t : List UInt8) : (ownL m t).length = 16 := shaT_length _
theorem padL_len (s : List UInt8) : (padL s).length = (s.length + 63) / 64 * 64 := by
  unfold padL pad0
  rw [List.length_append, List.length_replicate]
  omega
theorem begunL_length (g : Nat) : (begunL g).length = 64 := by
  unfold begunL
  rw [padL_len, List.length_append, headL_length, hmark_length]
theorem recL_length (m t : List UInt8) : (recL m t).length = sectorsN t * 64 := by
  unfold recL sectorsN
  rw [padL_len, List.length_append, List.length_append, longL_length, ownL_length]
theorem repeat_zero (c : Nat) : Lib.repeatL [0] c = List.replicate c 0 := by
  induction c with
  | zero => rfl
  | succ n ih => rw [List.replicate_succ, ← ih]; rfl
set_option maxHeartbeats 400000 in
theorem padded_any (s : List UInt8) (w : World) (hs : s.length ≤ 1073741824) :
    Calls Tryd.prog 65 #[.string ⟨s.toArray⟩] w fun e w' => e = .returned (.string ⟨(padL s).toArray⟩) ∧ Below w.heap.size w w' := by
  have HR := Lib.hid (show Calls Tryd.prog 86 #[.string ⟨#[0]⟩, .int .i64 (pad0 s.length : Nat)] w fun e w' => e = .returned (.string ⟨(List.replicate (pad0 s.length) (0 : UInt8)).toArray⟩) ∧ Below w.heap.size w w' from by
    have h0 : pad0 s.length < 64 := by unfold pad0; omega
    have := Tryd.strings_Repeat ⟨#[0]⟩ (pad0 s.length) w (by omega) (by show 1 * _ ≤ _; omega)
    rw [← repeat_zero]
    exact this)
  have hp : (64 - (s.length : Int) % 64) % 64 = (pad0 s.length : Nat) := by unfold pad0; omega
  have hz : pad0 s.length < 64 := by unfold pad0; omega
  have hn : (s.length : Int) ≤ 1073741824 := by omega
  obtain ⟨p, hpp⟩ : ∃ p, Hid (pad0 s.length = p) := ⟨_, Lib.hid rfl⟩
  rw [hpp.out] at hp HR hz
  have hsum : ¬ (9223372036854775807 < s.length + p) := by omega
  go_enter Tryd.func65, Tryd.ntmps65
  go_wp2_with fail
  refine HR.out.mono ?_
  rintro e w1 ⟨rfl, b1⟩
  have B1 := Lib.hid b1
  clear b1
  go_wp2_with fail
  go_ret
  refine ⟨?_, B1.out⟩
  have : (⟨s.toArray⟩ : ByteArray) ++ ⟨(List.replicate p (0 : UInt8)).toArray⟩ = ⟨(padL s).toArray⟩ := by unfold padL; rw [hpp.out]; apply ByteArray.ext; simp
  exact congrArg (fun z => Ending.returned (.string z)) this
set_option maxHeartbeats 400000 in
theorem sectors_any (s : List UInt8) (w : World) (hs : s.length ≤ 140737488355328) :
    Calls Tryd.prog 44 #[.string ⟨s.toArray⟩] w fun e w' => e = .returned (.int .i64 (sectorsN s : Nat)) ∧ w = w' := by
  have hn : (s.length : Int) ≤ 140737488355328 := by omega
  have hq : ((18 + (s.length : Int) + 64 - 1) / 64) = (sectorsN s : Nat) := by unfold sectorsN; omega
  obtain ⟨n, hnn⟩ : ∃ n, Hid (sectorsN s = n) := ⟨_, Lib.hid rfl⟩
  rw [hnn.out] at hq ⊢
  have HQ := Lib.hid hq
  clear hq
  go_enter Tryd.func44, Tryd.ntmps44
  go_wp2_with fail
  go_ret
  exact ⟨congrArg (fun z => Ending.returned (.int .i64 z)) HQ.out, by trivial⟩
set_option maxHeartbeats 400000 in
theorem wrong_any (s : List UInt8) (w : World) (hs : s.length ≤ 140737488355328) :
    Calls Tryd.prog 43 #[.string ⟨s.toArray⟩] w fun e w' => e = .returned (.int .i64 (wrongI s)) ∧ w = w' := by
  have hbs : (⟨s.toArray⟩ : ByteArray).size = s.length := by simp [ByteArray.size]
  have hbt : (⟨s.toArray⟩ : ByteArray).toList = s := by rw [ByteArray.toList_eq]
  obtain ⟨b, B⟩ : ∃ t : ByteArray, Hid (⟨s.toArray⟩ = t) := ⟨_, Lib.hid rfl⟩
  rw [B.out] at hbs hbt ⊢
  by_cases h0 : s = []
  · have h1 : b.toList = [] := by rw [hbt, h0]
    have h2 : (b.toList == []) = true := by rw [h1]; rfl
    have h3 : b.toList.isEmpty = true := by rw [h1]; rfl
    have HW := Lib.hid (show wrongI s = 1 by unfold wrongI; rw [if_pos h0])
    rw [HW.out]
    clear hbt h1 hbs h0
    go_enter Tryd.func43, Tryd.ntmps43
    go_wp2_with fail
    go_ret
    exact ⟨rfl, by trivial⟩
  · have h2 : (b.toList == []) = false := by rw [hbt]; simpa using h0
    have h3 : b.toList.isEmpty = false := by rw [hbt]; simpa using h0
    have h4 : (!b.toList.isEmpty) = true := by rw [h3]; rfl
    by_cases hl : 2000 < s.length
    · have d1 : decide (2000 < (b.size : Int)) = true := decide_eq_true (by omega)
      have d2 : decide (2000 < b.size) = true := decide_eq_true (by omega)
      have HW := Lib.hid (show wrongI s = 2 by unfold wrongI; rw [if_neg h0, if_pos hl])
      rw [HW.out]
      clear hbt hbs h0 hl
      go_enter Tryd.func43, Tryd.ntmps43
      go_wp2_with fail
      go_ret
      exact ⟨rfl, by trivial⟩
    · have d1 : decide (2000 < (b.size : Int)) = false := decide_eq_false (by omega)
      have d2 : decide (2000 < b.size) = false := decide_eq_false (by omega)
      have HW := Lib.hid (show wrongI s = 0 by unfold wrongI; rw [if_neg h0, if_neg hl])
      rw [HW.out]
      clear hbt hbs h0 hl
      go_enter Tryd.func43, Tryd.ntmps43
      go_wp2_with fail
      go_ret
      exact ⟨rfl, by trivial⟩
theorem begunL_eq (g : Nat) : begunL g = padL (headL g ++ hmark g) := by unfold begunL; with_reducible rfl
theorem hmark_eq (g : Nat) : hmark g = (sha (headL g)).take 16 := by unfold hmark shaT; with_reducible rfl
theorem n8_nat (m : Nat) : ((m : Int) % 256) = n8 (UInt8.ofNat m) := by
  show _ = ((UInt8.ofNat m).toNat : Int)
  rw [UInt8.toNat_ofNat']; omega
set_option maxHeartbeats 800000 in
theorem begun_any (g : Nat) (w : World) (hg : g ≤ 4294967296) (hk : KsAt w) (hks : 0 < w.heap.size) :
    Calls Tryd.prog 41 #[.int .i64 (g : Nat)] w fun e w' => e = .returned (.tuple #[.string ⟨(begunL g).toArray⟩, .string ⟨(hmark g).toArray⟩]) ∧ Below w.heap.size w w' := by
  have HK := Lib.hid hk
  have HKS := Lib.hid hks
  have e1 : (g : Int) / 16777216 % 256 = n8 (UInt8.ofNat (g / 16777216)) := by rw [← n8_nat]; omega
  have e2 : (g : Int) / 65536 % 256 = n8 (UInt8.ofNat (g / 65536)) := by rw [← n8_nat]; omega
  have e3 : (g : Int) / 256 % 256 = n8 (UInt8.ofNat (g / 256)) := by rw [← n8_nat]; omega
  have e4 : (g : Int) % 256 = n8 (UInt8.ofNat g) := n8_nat g
  have hcv : (convert 84 9 (.slice (some ⟨w.heap.size, 0, none⟩) 4 4)).run Tryd.prog (w.alloc (.cells #[.int .u8 ((g : Int) / 16777216 % 256), .int .u8 ((g : Int) / 65536 % 256), .int .u8 ((g : Int) / 256 % 256), .int .u8 ((g : Int) % 256)] 5)) = .ok (.string ⟨(be4 g).toArray⟩) (w.alloc (.cells #[.int .u8 ((g : Int) / 16777216 % 256), .int .u8 ((g : Int) / 65536 % 256), .int .u8 ((g : Int) / 256 % 256), .int .u8 ((g : Int) % 256)] 5)) := by
    rw [e1, e2, e3, e4]
    exact my_own_string (l := be4 g) Tryd.underlying84 Tryd.underlying5 Tryd.underlying9 (my_own_lit w 5 [.int .u8 (n8 (UInt8.ofNat (g / 16777216))), .int .u8 (n8 (UInt8.ofNat (g / 65536))), .int .u8 (n8 (UInt8.ofNat (g / 256))), .int .u8 (n8 (UInt8.ofNat g))] (B := 0) (Nat.zero_le _) (by simp))
  have hcat : (⟨#[76, 79, 71, 0]⟩ : ByteArray) ++ ⟨(be4 g).toArray⟩ = ⟨(headL g).toArray⟩ := by apply ByteArray.ext; simp [headL, be4]
  have hbz : (⟨(be4 g).toArray⟩ : ByteArray).size = 4 := rfl
  have hcat2 : (⟨(headL g).toArray⟩ : ByteArray) ++ ⟨(hmark g).toArray⟩ = ⟨(headL g ++ hmark g).toArray⟩ := by apply ByteArray.ext; simp
  have hhz : (⟨(headL g).toArray⟩ : ByteArray).size = 8 := rfl
  have hmz : (⟨(hmark g).toArray⟩ : ByteArray).size = 16 := by show (hmark g).toArray.size = 16; rw [List.size_toArray, hmark_length]
  have HSH := Lib.hid (show ∀ (W : World) (A : Option Addr), Strs W A 1 [headL g] → KsAt W → 0 < W.heap.size → Calls Tryd.prog 64 #[.int .i64 16, .slice A 1 1] W fun e w' => e = .returned (.tuple #[.string ⟨(hmark g).toArray⟩, .int .i64 0]) ∧ Below W.heap.size W w' from fun W A hS h1 h2 => by
    have := short_any 16 (by decide) (by decide) A 1 1 W [headL g] hS (by intro y hy; rw [List.mem_singleton.1 hy, headL_length]; decide) (by decide) h1 h2
    have e : ([headL g] : List (List UInt8)).flatten = headL g := by simp
    rw [e, show (16 : Int).toNat = 16 from rfl, ← hmark_eq] at this
    exact this)
  have HST := Lib.hid (fun W : World => strs_one W 9 (headL g))
  have HP := Lib.hid (fun W => padded_any (headL g ++ hmark g) W (by rw [List.length_append, headL_length, hmark_length]; decide))
  have HB := Lib.hid (begunL_eq g)
  rw [HB.out]
  obtain ⟨bb, BB⟩ : ∃ t : ByteArray, Hid (⟨(be4 g).toArray⟩ = t) := ⟨_, Lib.hid rfl⟩
  obtain ⟨hb, HHB⟩ : ∃ t : ByteArray, Hid (⟨(headL g).toArray⟩ = t) := ⟨_, Lib.hid rfl⟩
  obtain ⟨mb, MB⟩ : ∃ t : ByteArray, Hid (⟨(hmark g).toArray⟩ = t) := ⟨_, Lib.hid rfl⟩
  obtain ⟨xb, XB⟩ : ∃ t : ByteArray, Hid (⟨(headL g ++ hmark g).toArray⟩ = t) := ⟨_, Lib.hid rfl⟩
  obtain ⟨rb, RB⟩ : ∃ t : ByteArray, Hid (⟨(padL (headL g ++ hmark g)).toArray⟩ = t) := ⟨_, Lib.hid rfl⟩
  rw [RB.out, XB.out] at HP
  rw [RB.out]
  rw [MB.out] at HSH ⊢
  rw [BB.out] at hcv hbz hcat
  rw [HHB.out] at hcat hcat2 hhz HST
  rw [MB.out, XB.out] at hcat2
  rw [MB.out] at hmz
  clear hk hks e1 e2 e3 e4
  have hg2 : (g : Int) ≤ 4294967296 := by omega
  go_enter Tryd.func41, Tryd.ntmps41
  go_wp2_with fail
  have B1 := Lib.hid (show Below w.heap.size w (w.alloc (.cells #[.int .u8 ((g : Int) / 16777216 % 256), .int .u8 ((g : Int) / 65536 % 256), .int .u8 ((g : Int) / 256 % 256), .int .u8 ((g : Int) % 256)] 5)) from (Below.refl _ _).alloc (Nat.le_refl _) _)
  have B2 := Lib.hid (B1.out.alloc B1.out.size (.cells #[.string hb] 9))
  have hT := HST.out (w.alloc (.cells #[.int .u8 ((g : Int) / 16777216 % 256), .int .u8 ((g : Int) / 65536 % 256), .int .u8 ((g : Int) / 256 % 256), .int .u8 ((g : Int) % 256)] 5))
  rw [show (w.alloc (.cells #[.int .u8 ((g : Int) / 16777216 % 256), .int .u8 ((g : Int) / 65536 % 256), .int .u8 ((g : Int) / 256 % 256), .int .u8 ((g : Int) % 256)] 5)).heap.size = w.heap.size + 1 by simp] at hT
  refine (HSH.out _ _ hT (HK.out.below HKS.out B2.out) (Nat.lt_of_lt_of_le HKS.out B2.out.size)).mono ?_
  rintro e w1 ⟨rfl, b1⟩
  have B3 := Lib.hid (B2.out.trans (b1.mono B2.out.size))
  clear b1 hT hcv
  go_wp2_with fail
  refine (HP.out w1).mono ?_
  rintro e w2 ⟨rfl, b2⟩
  have B4 := Lib.hid (B3.out.trans (b2.mono B3.out.size))
  clear b2
  go_wp2_with fail
  go_ret2
  exact ⟨rfl, B4.out⟩
theorem recL_eq (m t : List UInt8) : recL m t = padL (longL t ++ ownL m t ++ t) := by unfold recL; with_reducible rfl
theorem ownL_eq (m t : List UInt8) : ownL m t = (sha (m ++ longL t ++ t)).take 16 := by unfold ownL shaT; with_reducible rfl
theorem strs_three_ (w : World) (t : TypeId) (a b c : List UInt8) : Strs (w.alloc (.cells #[.string ⟨a.toArray⟩, .string ⟨b.toArray⟩, .string ⟨c.toArray⟩] t)) (some ⟨w.heap.size, 0, none⟩) 3 [a, b, c] :=
  ⟨rfl, fun _ => ⟨w.heap.size, 0, rfl, by simp, fun i hi => by
    rw [Nat.zero_add, (Blk.new w t #[.string ⟨a.toArray⟩, .string ⟨b.toArray⟩, .string ⟨c.toArray⟩]).cell i]
    rcases (show i = 0 ∨ i = 1 ∨ i = 2 by omega) with rfl | rfl | rfl <;> rfl⟩⟩
set_option maxHeartbeats 800000 in
theorem record_any (m t : List UInt8) (w : World) (hm : m.length ≤ 1000000) (ht : t.length ≤ 65535) (hk : KsAt w) (hks : 0 < w.heap.size) :
    Calls Tryd.prog 68 #[.string ⟨m.toArray⟩, .string ⟨t.toArray⟩] w fun e w' => e = .returned (.tuple #[.string ⟨(recL m t).toArray⟩, .string ⟨(ownL m t).toArray⟩]) ∧ Below w.heap.size w w' := by
  have HK := Lib.hid hk
  have HKS := Lib.hid hks
  have e1 : (t.length : Int) / 256 = n8 (UInt8.ofNat (t.length / 256)) := by rw [← n8_nat]; omega
  have e2 : (t.length : Int) % 256 = n8 (UInt8.ofNat t.length) := n8_nat t.length
  have hcv : (convert 84 9 (.slice (some ⟨w.heap.size, 0, none⟩) 2 2)).run Tryd.prog (w.alloc (.cells #[.int .u8 ((t.length : Int) / 256), .int .u8 ((t.length : Int) % 256)] 5)) = .ok (.string ⟨(longL t).toArray⟩) (w.alloc (.cells #[.int .u8 ((t.length : Int) / 256), .int .u8 ((t.length : Int) % 256)] 5)) := by
    rw [e1, e2]
    exact my_own_string (l := longL t) Tryd.underlying84 Tryd.underlying5 Tryd.underlying9 (my_own_lit w 5 [.int .u8 (n8 (UInt8.ofNat (t.length / 256))), .int .u8 (n8 (UInt8.ofNat t.length))] (B := 0) (Nat.zero_le _) (by simp))
  have hlz : (⟨(longL t).toArray⟩ : ByteArray).size = 2 := rfl
  have htz : (⟨t.toArray⟩ : ByteArray).size = t.length := by simp [ByteArray.size]
  have hoz : (⟨(ownL m t).toArray⟩ : ByteArray).size = 16 := by show (ownL m t).toArray.size = 16; rw [List.size_toArray, ownL_length]
  have hcat : (⟨(longL t).toArray⟩ : ByteArray) ++ ⟨(ownL m t).toArray⟩ ++ ⟨t.toArray⟩ = ⟨(longL t ++ ownL m t ++ t).toArray⟩ := by apply ByteArray.ext; simp
  have HSH := Lib.hid (show ∀ (W : World) (A : Option Addr), Strs W A 3 [m, longL t, t] → KsAt W → 0 < W.heap.size → Calls Tryd.prog 64 #[.int .i64 16, .slice A 3 3] W fun e w' => e = .returned (.tuple #[.string ⟨(ownL m t).toArray⟩, .int .i64 0]) ∧ Below W.heap.size W w' from fun W A hS h1 h2 => by
    have := short_any 16 (by decide) (by decide) A 3 3 W [m, longL t, t] hS (by
      intro y hy
      simp only [List.mem_cons, List.not_mem_nil, or_false] at hy
      rcases hy with rfl | rfl | rfl
      · omega
      · rw [longL_length]; decide
      · omega) (by decide) h1 h2
    have e : ([m, longL t, t] : List (List UInt8)).flatten = m ++ longL t ++ t := by simp
    rw [e, show (16 : Int).toNat = 16 from rfl, ← ownL_eq] at this
    exact this)
  have HST := Lib.hid (fun W : World => strs_three_ W 9 m (longL t) t)
  have HP := Lib.hid (fun W => padded_any (longL t ++ ownL m t ++ t) W (by rw [List.length_append, List.length_append, longL_length, ownL_length]; omega))
  rw [recL_eq]
  obtain ⟨n, hn⟩ : ∃ n, Hid (t.length = n) := ⟨_, Lib.hid rfl⟩
  obtain ⟨lb, LB⟩ : ∃ t' : ByteArray, Hid (⟨(longL t).toArray⟩ = t') := ⟨_, Lib.hid rfl⟩
  obtain ⟨ob, OB⟩ : ∃ t' : ByteArray, Hid (⟨(ownL m t).toArray⟩ = t') := ⟨_, Lib.hid rfl⟩
  obtain ⟨tb, TB⟩ : ∃ t' : ByteArray, Hid (⟨t.toArray⟩ = t') := ⟨_, Lib.hid rfl⟩
  obtain ⟨mb, MB⟩ : ∃ t' : ByteArray, Hid (⟨m.toArray⟩ = t') := ⟨_, Lib.hid rfl⟩
  obtain ⟨xb, XB⟩ : ∃ t' : ByteArray, Hid (⟨(longL t ++ ownL m t ++ t).toArray⟩ = t') := ⟨_, Lib.hid rfl⟩
  obtain ⟨rb, RB⟩ : ∃ t' : ByteArray, Hid (⟨(padL (longL t ++ ownL m t ++ t)).toArray⟩ = t') := ⟨_, Lib.hid rfl⟩
  rw [RB.out, XB.out] at HP
  rw [RB.out, OB.out, MB.out, TB.out]
  rw [OB.out] at HSH hoz hcat
  rw [LB.out] at hcv hlz hcat
  rw [TB.out] at htz hcat
  rw [XB.out] at hcat
  rw [hn.out] at hcv htz
  rw [LB.out, MB.out, TB.out] at HST
  have hn2 : (n : Int) ≤ 65535 := by have := hn.out; omega
  have hn3 : n ≤ 65535 := by omega
  clear hk hks e1 e2
  go_enter Tryd.func68, Tryd.ntmps68
  go_wp2_with fail
  have B1 := Lib.hid (show Below w.heap.size w (w.alloc (.cells #[.int .u8 ((n : Int) / 256), .int .u8 ((n : Int) % 256)] 5)) from (Below.refl _ _).alloc (Nat.le_refl _) _)
  have B2 := Lib.hid (B1.out.alloc B1.out.size (.cells #[.string mb, .string lb, .string tb] 9))
  have hT := HST.out (w.alloc (.cells #[.int .u8 ((n : Int) / 256), .int .u8 ((n : Int) % 256)] 5))
  rw [show (w.alloc (.cells #[.int .u8 ((n : Int) / 256), .int .u8 ((n : Int) % 256)] 5)).heap.size = w.heap.size + 1 by simp] at hT
  refine (HSH.out _ _ hT (HK.out.below HKS.out B2.out) (Nat.lt_of_lt_of_le HKS.out B2.out.size)).mono ?_
  rintro e w1 ⟨rfl, b1⟩
  have B3 := Lib.hid (B2.out.trans (b1.mono B2.out.size))
  clear b1 hT hcv
  go_wp2_with fail
  refine (HP.out w1).mono ?_
  rintro e w2 ⟨rfl, b2⟩
  have B4 := Lib.hid (B3.out.trans (b2.mono B3.out.size))
  clear b2
  go_wp2_with fail
  go_ret2
  exact ⟨rfl, B4.out⟩
end Go.Proofs.YteajpebkanamgaaDoor
namespace Go.Proofs.YteajpebkanamgaaDoor
open Go.RowKit
set_option linter.unusedSimpArgs false
set_option linter.unusedVariables false
set_option maxRecDepth 20000
/-- bytes as a number, the first the greatest. -/
def beN (l : List UInt8) : Nat := l.foldl (fun n b => n * 256 + b.toNat) 0
theorem beN_snoc (l : List UInt8) (b : UInt8) : beN (l ++ [b]) = beN l * 256 + b.toNat := by simp [beN]
theorem beN_go (l : List UInt8) : ∀ acc : Nat, l.foldl (fun n b => n * 256 + b.toNat) acc < (acc + 1) * 256 ^ l.length := by
  induction l with
  | nil => intro acc; simp
  | cons b l ih =>
    intro acc
    have h1 := ih (acc * 256 + b.toNat)
    have h2 := b.toNat_lt
    rw [List.foldl_cons, List.length_cons, Nat.pow_succ]
    refine Nat.lt_of_lt_of_le h1 ?_
    rw [Nat.mul_comm (256 ^ l.length) 256, ← Nat.mul_assoc]
    exact Nat.mul_le_mul_right _ (by omega)
theorem beN_lt (l : List UInt8) : beN l < 256 ^ l.length := by
  have := beN_go l 0
  simpa [beN] using this
def genL (s : List UInt8) : Nat :=
  let n := beN ((s.drop 4).take 4)
  if 1 ≤ n ∧ n ≤ 2147483647 ∧ s = begunL n then n else 0
theorem or_low (a b : Nat) (hb : b < 256) (ha : a < 36028797018963968) : bits .or .i64 ((a : Int) * 256) (b : Int) = ((a * 256 + b : Nat) : Int) := by
  have h1 : a <<< 8 = a * 256 := by rw [Nat.shiftLeft_eq]
  have h2 : a * 256 ||| b = a * 256 + b := by rw [← h1]; exact (Nat.shiftLeft_add_eq_or_of_lt (by omega) a).symm
  show IntKind.i64.wrap ((BitVec.ofInt 64 ((a : Int) * 256) ||| BitVec.ofInt 64 (b : Int)).toNat : Int) = _
  rw [show (a : Int) * 256 = ((a * 256 : Nat) : Int) by simp, BitVec.toNat_or, ofInt_u64 _ (by omega), ofInt_u64 _ (by omega), h2, IntKind.wrap_i64]
  omega
theorem genL_yes (s : List UInt8) (n : Nat) (h : beN ((s.drop 4).take 4) = n) (h1 : 1 ≤ n) (h2 : n ≤ 2147483647) (h3 : s = begunL n) : genL s = n := by
  unfold genL; subst h; simp only; rw [if_pos ⟨h1, h2, h3⟩]
theorem genL_no (s : List UInt8) (n : Nat) (h : beN ((s.drop 4).take 4) = n) (h1 : n < 1 ∨ 2147483647 < n ∨ s ≠ begunL n) : genL s = 0 := by
  unfold genL; subst h; simp only; rw [if_neg]
  rintro ⟨a, b, c⟩
  rcases h1 with h1 | h1 | h1
  · omega
  · omega
  · exact h1 c
set_option maxHeartbeats 1600000 in
theorem generation_any (s : List UInt8) (w : World) (hs : s.length = 64) (hk : KsAt w) (hks : 0 < w.heap.size) :
    Calls Tryd.prog 39 #[.string ⟨s.toArray⟩] w fun e w' => e = .returned (.int .i64 (genL s : Nat)) ∧ Below w.heap.size w w' := by
  have HK := Lib.hid hk
  have HKS := Lib.hid hks
  have hsz : (⟨s.toArray⟩ : ByteArray).size = 64 := by simp [ByteArray.size, hs]
  have hst : (⟨s.toArray⟩ : ByteArray).toList = s := by rw [ByteArray.toList_eq]
  have hx : (⟨s.toArray⟩ : ByteArray).extract 4 8 = ⟨((s.drop 4).take 4).toArray⟩ := by rw [extract_mid]
  obtain ⟨l, hl⟩ : ∃ l, Hid ((s.drop 4).take 4 = l) := ⟨_, Lib.hid rfl⟩
  have hl4 : l.length = 4 := by rw [← hl.out]; simp [hs]
  rw [hl.out] at hx
  obtain ⟨cb_, w1, hcv, hCb, hb1⟩ := cb_of_string (P := Tryd.prog) w 9 84 5 l Tryd.underlying9 Tryd.underlying84 Tryd.underlying5 w.heap.size (Nat.le_refl _)
  rw [hl4] at hcv
  have HCB := Lib.hid hCb
  have B1 := Lib.hid hb1
  have HL4 := Lib.hid hl4
  obtain ⟨sb, SB⟩ : ∃ t : ByteArray, Hid (⟨s.toArray⟩ = t) := ⟨_, Lib.hid rfl⟩
  obtain ⟨lb, LB⟩ : ∃ t : ByteArray, Hid (⟨l.toArray⟩ = t) := ⟨_, Lib.hid rfl⟩
  rw [SB.out] at hsz hst hx ⊢
  rw [LB.out] at hx hcv
  have HST := Lib.hid hst
  obtain ⟨g, hg⟩ : ∃ g, Hid (w.heap.size = g) := ⟨_, Lib.hid rfl⟩
  rw [hg.out] at hcv HCB
  clear hk hks hb1 hCb hl4 hst
  go_enter Tryd.func39, Tryd.ntmps39
  go_wp2_with fail
  go_loopg [3, 12] 5 (fun kq v3 v12 wr => ∃ k : Nat, kq = 5 - k ∧ k ≤ 4 ∧ v12 = .int .i64 (k : Nat) ∧ v3 = .int .i64 (beN (l.take k) : Nat) ∧ wr = w1)
  case atStart => exact ⟨0, rfl, by omega, rfl, by simp [beN], rfl⟩
  case round =>
    obtain ⟨k, rfl, hk, rfl, rfl, rfl⟩ := hrel
    by_cases hlt : k < 4
    · have hc := (HCB.out.2 k (by rw [HL4.out]; exact hlt)).1
      obtain ⟨b, hb⟩ : ∃ b, Hid (bd l k = b) := ⟨_, Lib.hid rfl⟩
      rw [hb.out] at hc
      have hbl := beN_lt (l.take k)
      have hbl2 : beN (l.take k) < 16777216 := Nat.lt_of_lt_of_le hbl (by
        rw [List.length_take, HL4.out, Nat.min_eq_left (by omega)]
        exact Nat.le_trans (Nat.pow_le_pow_right (by decide) (show k ≤ 3 by omega)) (by decide))
      have hnx : beN (l.take (k + 1)) = beN (l.take k) * 256 + b.toNat := by
        rw [← hb.out, ← beN_snoc, List.take_succ_eq_append_getElem (by rw [HL4.out]; exact hlt)]
        congr 3
        simp [bd, List.getElem?_eq_getElem (show k < l.length by rw [HL4.out]; exact hlt)]
      obtain ⟨n, hn⟩ : ∃ n, Hid (beN (l.take k) = n) := ⟨_, Lib.hid rfl⟩
      rw [hn.out] at hbl2 hnx ⊢
      have HNX := Lib.hid hnx
      have hor : bits .or .i64 ((n : Int) * 256) (n8 b) = ((n * 256 + b.toNat : Nat) : Int) := or_low n b.toNat b.toNat_lt (by omega)
      have hn1 : 0 ≤ (n : Int) ∧ (n : Int) < 16777216 := by omega
      have hk2 : (k : Int) < 4 := by omega
      have hnb : IntKind.i64.wrap (n8 b) = n8 b := by have := n8_bd b; rw [IntKind.wrap_i64]; omega
      clear hbl hbl2 hnx
      go_wp2_with fail
      go_roundg (5 - (k + 1))
      case measure => omega
      case rel => exact ⟨k + 1, rfl, by omega, by go_num, by rw [HNX.out]; go_num, rfl⟩
    · obtain rfl : k = 4 := by omega
      have htk : beN (l.take 4) = beN l := by rw [List.take_of_length_le (by rw [HL4.out]; exact Nat.le_refl _)]
      have hlt2 := beN_lt l
      rw [HL4.out] at hlt2
      obtain ⟨n, hn⟩ : ∃ n, Hid (beN l = n) := ⟨_, Lib.hid rfl⟩
      rw [hn.out] at htk hlt2
      rw [htk]
      have HG := Lib.hid (begun_any n wr (by omega) (HK.out.below HKS.out B1.out) (Nat.lt_of_lt_of_le HKS.out B1.out.size))
      have hbz : begunL n = (⟨(begunL n).toArray⟩ : ByteArray).toList := by rw [ByteArray.toList_eq]
      have hn2 : (n : Int) < 4294967296 := by omega
      have HN := Lib.hid hlt2
      have HBE := Lib.hid (show beN ((s.drop 4).take 4) = n by rw [hl.out, hn.out])
      clear htk hlt2 hlt
      obtain ⟨gb, GB⟩ : ∃ t : ByteArray, Hid (⟨(begunL n).toArray⟩ = t) := ⟨_, Lib.hid rfl⟩
      rw [GB.out] at HG hbz
      by_cases hok : 1 ≤ n ∧ n ≤ 2147483647 ∧ s = begunL n
      · have HY := Lib.hid (genL_yes s n HBE.out hok.1 hok.2.1 hok.2.2)
        have q1 : (sb.toList != gb.toList) = false := by rw [HST.out, hok.2.2, hbz]; simp
        have q2 : (sb.toList == gb.toList) = true := by rw [HST.out, hok.2.2, hbz]; simp
        have q3 : (1 : Int) ≤ (n : Int) ∧ (n : Int) ≤ 2147483647 := by omega
        have q4 : decide ((n : Int) < 1) = false := decide_eq_false (by omega)
        have q5 : decide (2147483647 < (n : Int)) = false := decide_eq_false (by omega)
        have HZ := Lib.hid hbz
        clear hok hbz
        go_wp2_with fail
        refine HG.out.mono ?_
        rintro e w2 ⟨rfl, b2⟩
        have B2 := Lib.hid (B1.out.trans (b2.mono B1.out.size))
        clear b2
        go_wp2_with fail
        go_ret
        exact ⟨by rw [HY.out]; rfl, B2.out⟩
      · have HY := Lib.hid (genL_no s n HBE.out (by
          rcases Nat.lt_or_ge n 1 with h | h
          · exact .inl h
          · rcases Nat.lt_or_ge 2147483647 n with h' | h'
            · exact .inr (.inl h')
            · exact .inr (.inr (fun e => hok ⟨h, h', e⟩))))
        rcases (show n < 1 ∨ (1 ≤ n ∧ 2147483647 < n) ∨ (1 ≤ n ∧ n ≤ 2147483647 ∧ s ≠ begunL n) by
          rcases Nat.lt_or_ge n 1 with h | h
          · exact .inl h
          · rcases Nat.lt_or_ge 2147483647 n with h' | h'
            · exact .inr (.inl ⟨h, h'⟩)
            · exact .inr (.inr ⟨h, h', fun e => hok ⟨h, h', e⟩⟩)) with h | ⟨h, h'⟩ | ⟨h, h', h''⟩
        · have q4 : decide ((n : Int) < 1) = true := decide_eq_true (by omega)
          clear hok hbz h
          go_wp2_with fail
          refine HG.out.mono ?_
          rintro e w2 ⟨rfl, b2⟩
          have B2 := Lib.hid (B1.out.trans (b2.mono B1.out.size))
          clear b2
          go_wp2_with fail
          go_ret
          exact ⟨by rw [HY.out]; rfl, B2.out⟩
        · have q4 : decide ((n : Int) < 1) = false := decide_eq_false (by omega)
          have q5 : decide (2147483647 < (n : Int)) = true := decide_eq_true (by omega)
          clear hok hbz h h'
          go_wp2_with fail
          refine HG.out.mono ?_
          rintro e w2 ⟨rfl, b2⟩
          have B2 := Lib.hid (B1.out.trans (b2.mono B1.out.size))
          clear b2
          go_wp2_with fail
          go_ret
          exact ⟨by rw [HY.out]; rfl, B2.out⟩
        · have q4 : decide ((n : Int) < 1) = false := decide_eq_false (by omega)
          have q5 : decide (2147483647 < (n : Int)) = false := decide_eq_false (by omega)
          have q1 : (sb.toList != gb.toList) = true := by rw [HST.out, ← hbz]; simpa using h''
          have q2 : (sb.toList == gb.toList) = false := by rw [HST.out, ← hbz]; simpa using h''
          have HZ := Lib.hid hbz
          clear hok hbz h h' h''
          go_wp2_with fail
          refine HG.out.mono ?_
          rintro e w2 ⟨rfl, b2⟩
          have B2 := Lib.hid (B1.out.trans (b2.mono B1.out.size))
          clear b2
          go_wp2_with fail
          go_ret
          exact ⟨by rw [HY.out]; rfl, B2.out⟩
end Go.Proofs.YteajpebkanamgaaDoor
namespace Go.Proofs.YteajpebkanamgaaDoor
open Go.RowKit
set_option linter.unusedSimpArgs false
set_option linter.unusedVariables false
set_option maxRecDepth 20000
theorem KsAt.fr {B : Nat} {w w' : World} (h : KsAt w) (hg : 0 < B) (f : Fr B w w') : KsAt w' := fun i hi => (f.b.cell (p := ⟨0, i, none⟩) hg).trans (h i hi)
theorem Blk.fr {B : Nat} {w w' : World} {g : Nat} {t : TypeId} {cs : Array Value} (h : Blk w g t cs) (f : Fr B w w') (ht : ¬ DkT t) : Blk w' g t cs :=
  (f.f g cs t (0, 0) h (fun e => ht (.inl e)) (fun e => ht (.inr (.inl e))) (fun e => ht (.inr (.inr e)))).trans h
/-- a half's value: its disk's block, its first sector, its size. -/
def hv (g a n : Nat) : Value := .agg #[.pointer (some ⟨g, 0, none⟩), .int .i64 (a : Nat), .int .i64 (n : Nat)]
theorem hread_any {B : Nat} {w : World} {g : Nat} {d : Dk} (h : DkAt B w g d) (a n k : Nat) (ha : a ≤ 1000000) (hk : k ≤ 1000000) :
    Calls Tryd.prog 38 #[hv g a n, .int .i64 (k : Nat)] w fun e w' => e = .returned (.tuple #[.string ⟨(d.read ((a + k : Nat) : Int)).1.toArray⟩, .int .i64 (d.read ((a + k : Nat) : Int)).2]) ∧ Below w.heap.size w w' := by
  obtain ⟨q, vw, hA⟩ := h
  have h1 : (a : Int) ≤ 1000000 ∧ (k : Int) ≤ 1000000 := by omega
  have HA := Lib.hid hA
  have hs : (a : Int) + (k : Int) = ((a + k : Nat) : Int) := by omega
  have HR := Lib.hid (show ∀ W, DkA B W g q vw d → Calls Tryd.prog 60 #[.pointer (some ⟨g, 0, none⟩), .int .i64 ((a : Int) + (k : Int))] W fun e w' => e = .returned (.tuple #[.string ⟨(d.read ((a + k : Nat) : Int)).1.toArray⟩, .int .i64 (d.read ((a + k : Nat) : Int)).2]) ∧ Below W.heap.size W w' from fun W hW => by rw [hs]; exact read_any hW _)
  unfold hv
  clear hs hA
  go_enter Tryd.func38, Tryd.ntmps38
  go_wp2_with fail
  have B1 := Lib.hid (show Below w.heap.size w (w.alloc (.cells #[.pointer (some ⟨g, 0, none⟩), .int .i64 (a : Nat), .int .i64 (n : Nat)] 70)) from (Below.refl _ _).alloc (Nat.le_refl _) _)
  refine (HR.out _ (HA.out.below B1.out)).mono ?_
  rintro e w1 ⟨rfl, b1⟩
  have B2 := Lib.hid (B1.out.trans (b1.mono B1.out.size))
  clear b1
  go_wp2_with fail
  go_ret2
  exact ⟨rfl, B2.out⟩
theorem hwrite_any {B : Nat} {w : World} {g : Nat} {d : Dk} (h : DkAt B w g d) (a n k : Nat) (s : List UInt8) (ha : a ≤ 1000000) (hk : k ≤ 1000000) (hw : d.w.length < 1000000) :
    Calls Tryd.prog 63 #[hv g a n, .int .i64 (k : Nat), .string ⟨s.toArray⟩] w fun e w' => e = .returned (.int .i64 (d.write ((a + k : Nat) : Int) s).1) ∧ DkAt B w' g (d.write ((a + k : Nat) : Int) s).2 ∧ Fr B w w' := by
  obtain ⟨q, vw, hA⟩ := h
  have h1 : (a : Int) ≤ 1000000 ∧ (k : Int) ≤ 1000000 := by omega
  have HA := Lib.hid hA
  have hs : (a : Int) + (k : Int) = ((a + k : Nat) : Int) := by omega
  have HR := Lib.hid (show ∀ W, DkA B W g q vw d → Calls Tryd.prog 87 #[.pointer (some ⟨g, 0, none⟩), .int .i64 ((a : Int) + (k : Int)), .string ⟨s.toArray⟩] W fun e w' => e = .returned (.int .i64 (d.write ((a + k : Nat) : Int) s).1) ∧ DkAt B w' g (d.write ((a + k : Nat) : Int) s).2 ∧ Fr B W w' from fun W hW => by rw [hs]; exact write_any hW _ s hw)
  unfold hv
  clear hs hA
  go_enter Tryd.func63, Tryd.ntmps63
  go_wp2_with fail
  have B1 := Lib.hid (show Below w.heap.size w (w.alloc (.cells #[.pointer (some ⟨g, 0, none⟩), .int .i64 (a : Nat), .int .i64 (n : Nat)] 70)) from (Below.refl _ _).alloc (Nat.le_refl _) _)
  refine (HR.out _ (HA.out.below B1.out)).mono ?_
  rintro e w1 ⟨rfl, d1, f1⟩
  have D1 := Lib.hid d1
  have F1 := Lib.hid ((Fr.of B1.out HA.out.hB).trans f1)
  clear d1 f1
  go_wp2_with fail
  go_ret
  exact ⟨rfl, D1.out, F1.out⟩
/-- a half is cleaned: from these sectors on. -/
def clnGo (a : Nat) : List Nat → Bool → Dk → Int × Bool × Dk
  | [], b, d => (0, b, d)
  | k :: r, b, d =>
    if (d.read ((a + k : Nat) : Int)).2 ≠ 0 then ((d.read ((a + k : Nat) : Int)).2, b, d)
    else if (d.read ((a + k : Nat) : Int)).1 = zs64 then clnGo a r b d
    else if (d.write ((a + k : Nat) : Int) zs64).1 ≠ 0 then ((d.write ((a + k : Nat) : Int) zs64).1, true, (d.write ((a + k : Nat) : Int) zs64).2)
    else clnGo a r true (d.write ((a + k : Nat) : Int) zs64).2
def clnEnd (r : Int × Bool × Dk) : Int × Dk := if r.1 ≠ 0 then (r.1, r.2.2) else if r.2.1 then r.2.2.sync else (0, r.2.2)
def cleanL (a n k : Nat) (d : Dk) : Int × Dk := clnEnd (clnGo a (List.range' k (n - k)) false d)
theorem write_len (d : Dk) (i : Int) (s : List UInt8) : (d.write i s).2.w.length ≤ d.w.length + 1 := by
  unfold Dk.write
  have hb : d.burn.w = d.w := by unfold Dk.burn; split <;> rfl
  split
  · simp
  · split
    · simp
    · split
      · simp [hb]
      · simp [Dk.put, hb]
theorem range_cons (k n : Nat) (h : k < n) : List.range' k (n - k) = k :: List.range' (k + 1) (n - (k + 1)) := by
  rw [show n - k = (n - (k + 1)) + 1 by omega, List.range'_succ]
set_option maxHeartbeats 3200000 in
theorem clean_any {B : Nat} {w : World} {g : Nat} {d : Dk} (h : DkAt B w g d) (a n k0 : Nat) (ha : a ≤ 1000000) (hn : n ≤ 100000) (hk0 : k0 ≤ 100000) (hw : d.w.length + n < 1000000) :
    Calls Tryd.prog 61 #[hv g a n, .int .i64 (k0 : Nat)] w fun e w' => e = .returned (.int .i64 (cleanL a n k0 d).1) ∧ DkAt B w' g (cleanL a n k0 d).2 ∧ Fr B w w' := by
  have HD := Lib.hid h
  have HRP := Lib.hid (show ∀ W, Calls Tryd.prog 86 #[.string ⟨#[0]⟩, .int .i64 64] W fun e w' => e = .returned (.string ⟨zs64.toArray⟩) ∧ Below W.heap.size W w' from fun W => by
    have := Tryd.strings_Repeat ⟨#[0]⟩ 64 W (by decide) (by decide)
    rw [show (⟨#[0]⟩ : ByteArray).data.toList = [0] from rfl, repeat_zero] at this
    exact this)
  obtain ⟨zb, ZB⟩ : ∃ t : ByteArray, Hid (⟨zs64.toArray⟩ = t) := ⟨_, Lib.hid rfl⟩
  rw [ZB.out] at HRP
  have HB := Lib.hid (show B ≤ w.heap.size by obtain ⟨q, vw, hA⟩ := h; exact hA.hB)
  have hn2 : (n : Int) ≤ 100000 := by omega
  unfold hv
  go_enter Tryd.func61, Tryd.ntmps61
  go_wp2_with fail
  obtain ⟨hb, hhb⟩ : ∃ b, Hid (w.heap.size = b) := ⟨_, Lib.hid rfl⟩
  have D0 := Lib.hid (show DkAt B (w.alloc (.cells #[.pointer (some ⟨g, 0, none⟩), .int .i64 (a : Nat), .int .i64 (n : Nat)] 70)) g d by
    obtain ⟨q, vw, hA⟩ := HD.out; exact ⟨q, vw, hA.below ((Below.refl _ _).alloc (Nat.le_refl _) _)⟩)
  have F0 := Lib.hid (show Fr B w (w.alloc (.cells #[.pointer (some ⟨g, 0, none⟩), .int .i64 (a : Nat), .int .i64 (n : Nat)] 70)) from Fr.of ((Below.refl _ _).alloc (Nat.le_refl _) _) HB.out)
  have M0 := Lib.hid (show Blk (w.alloc (.cells #[.pointer (some ⟨g, 0, none⟩), .int .i64 (a : Nat), .int .i64 (n : Nat)] 70)) hb 70 #[.pointer (some ⟨g, 0, none⟩), .int .i64 (a : Nat), .int .i64 (n : Nat)] by rw [← hhb.out]; exact Blk.new _ _ _)
  rw [hhb.out]
  refine (HRP.out _).mono ?_
  rintro e w1 ⟨rfl, b1⟩
  have D1 := Lib.hid (show DkAt B w1 g d by obtain ⟨q, vw, hA⟩ := D0.out; exact ⟨q, vw, hA.below b1⟩)
  have F1 := Lib.hid (F0.out.below b1 (Nat.le_trans HB.out F0.out.b.size))
  have M1 := Lib.hid (M0.out.below b1 M0.out.lt)
  clear b1 D0 F0 M0 hhb HD h HRP
  go_wp2_with fail
  go_loopg [6, 7] (n + 1) (fun kq v6 v7 wr => ∃ (k : Nat) (b : Bool) (d' : Dk), kq = n + 1 - (k - k0) ∧ k0 ≤ k ∧ k ≤ 100000 ∧ k - k0 ≤ n ∧ v7 = .int .i64 (k : Nat) ∧ v6 = .bool b ∧ Hid (clnGo a (List.range' k0 (n - k0)) false d = clnGo a (List.range' k (n - k)) b d') ∧ Hid (DkAt B wr g d') ∧ Hid (Fr B w wr) ∧ Hid (Blk wr hb 70 #[.pointer (some ⟨g, 0, none⟩), .int .i64 (a : Nat), .int .i64 (n : Nat)]) ∧ Hid (d'.w.length + n ≤ d.w.length + n + (k - k0)))
  case atStart => exact ⟨k0, false, d, by omega, by omega, by omega, by omega, rfl, rfl, Lib.hid rfl, D1, F1, M1, Lib.hid (by omega)⟩
  case round =>
    clear D1 F1 M1
    obtain ⟨k, b, d', rfl, hk1, hk2, hk3, rfl, rfl, HE, HD, HF, HM, HL⟩ := hrel
    have m0 : wr.cell? ⟨hb, 0, none⟩ = some (.pointer (some ⟨g, 0, none⟩)) := HM.out.cell 0
    have m1 : wr.cell? ⟨hb, 1, none⟩ = some (.int .i64 (a : Nat)) := HM.out.cell 1
    have m2 : wr.cell? ⟨hb, 2, none⟩ = some (.int .i64 (n : Nat)) := HM.out.cell 2
    by_cases hlt : k < n
    · have HRC := Lib.hid (range_cons k n hlt)
      have e1 : (k : Int) < (n : Int) := by omega
      have HRD := Lib.hid (hread_any HD.out a n k ha (by omega))
      unfold hv at HRD
      obtain ⟨rs, hrs⟩ : ∃ r, Hid ((d'.read ((a + k : Nat) : Int)).1 = r) := ⟨_, Lib.hid rfl⟩
      obtain ⟨re, hre⟩ : ∃ r, Hid ((d'.read ((a + k : Nat) : Int)).2 = r) := ⟨_, Lib.hid rfl⟩
      rw [hrs.out, hre.out] at HRD
      have hst : (⟨rs.toArray⟩ : ByteArray).toList = rs := by rw [ByteArray.toList_eq]
      have hzt : zb.toList = zs64 := by rw [← ZB.out, ByteArray.toList_eq]
      obtain ⟨rb, RB⟩ : ∃ t : ByteArray, Hid (⟨rs.toArray⟩ = t) := ⟨_, Lib.hid rfl⟩
      rw [RB.out] at HRD hst
      by_cases h0 : re = 0
      · by_cases hz : rs = zs64
        · have q1 : (rb.toList != zb.toList) = false := by rw [hst, hzt, hz]; simp
          have q2 : (rb.toList == zb.toList) = true := by rw [hst, hzt, hz]; simp
          have HN := Lib.hid (show clnGo a (List.range' k0 (n - k0)) false d = clnGo a (List.range' (k + 1) (n - (k + 1))) b d' by
            rw [HE.out, HRC.out, clnGo, hrs.out, hre.out, if_neg (by omega), if_pos hz])
          subst h0
          clear hst hzt hz
          go_wp2_with fail
          refine HRD.out.mono ?_
          rintro e w2 ⟨rfl, b2⟩
          have D2 := Lib.hid (show DkAt B w2 g d' by obtain ⟨q, vw, hA⟩ := HD.out; exact ⟨q, vw, hA.below b2⟩)
          have F2 := Lib.hid (HF.out.below b2 (Nat.le_trans HB.out HF.out.b.size))
          have M2 := Lib.hid (HM.out.below b2 HM.out.lt)
          clear b2 m0 m1 m2
          go_wp2_with fail
          go_roundg (n + 1 - (k + 1 - k0))
          case measure => omega
          case rel => exact ⟨k + 1, b, d', rfl, by omega, by omega, by omega, by go_num, rfl, HN, D2, F2, M2, Lib.hid (by have := HL.out; omega)⟩
        · have q1 : (rb.toList != zb.toList) = true := by rw [hst, hzt]; simpa using hz
          have q2 : (rb.toList == zb.toList) = false := by rw [hst, hzt]; simpa using hz
          have HWR := Lib.hid (show ∀ W, DkAt B W g d' → Calls Tryd.prog 63 #[.agg #[.pointer (some ⟨g, 0, none⟩), .int .i64 (a : Nat), .int .i64 (n : Nat)], .int .i64 (k : Nat), .string zb] W fun e w' => e = .returned (.int .i64 (d'.write ((a + k : Nat) : Int) zs64).1) ∧ DkAt B w' g (d'.write ((a + k : Nat) : Int) zs64).2 ∧ Fr B W w' from fun W hW => by
            rw [← ZB.out]; exact hwrite_any hW a n k zs64 ha (by omega) (by have := HL.out; omega))
          have hwl := write_len d' ((a + k : Nat) : Int) zs64
          obtain ⟨we, hwe⟩ : ∃ r, Hid ((d'.write ((a + k : Nat) : Int) zs64).1 = r) := ⟨_, Lib.hid rfl⟩
          obtain ⟨wd, hwd⟩ : ∃ r, Hid ((d'.write ((a + k : Nat) : Int) zs64).2 = r) := ⟨_, Lib.hid rfl⟩
          rw [hwe.out, hwd.out] at HWR
          rw [hwd.out] at hwl
          have HWL := Lib.hid hwl
          have HZ := Lib.hid hz
          subst h0
          clear hst hzt hz hwl
          go_wp2_with fail
          refine HRD.out.mono ?_
          rintro e w2 ⟨rfl, b2⟩
          have D2 := Lib.hid (show DkAt B w2 g d' by obtain ⟨q, vw, hA⟩ := HD.out; exact ⟨q, vw, hA.below b2⟩)
          have F2 := Lib.hid (HF.out.below b2 (Nat.le_trans HB.out HF.out.b.size))
          have M2 := Lib.hid (HM.out.below b2 HM.out.lt)
          clear b2 m0 m1 m2
          have m0 : w2.cell? ⟨hb, 0, none⟩ = some (.pointer (some ⟨g, 0, none⟩)) := M2.out.cell 0
          have m1 : w2.cell? ⟨hb, 1, none⟩ = some (.int .i64 (a : Nat)) := M2.out.cell 1
          have m2 : w2.cell? ⟨hb, 2, none⟩ = some (.int .i64 (n : Nat)) := M2.out.cell 2
          go_wp2_with fail
          refine (HWR.out _ D2.out).mono ?_
          rintro e w3 ⟨rfl, d3, f3⟩
          have D3 := Lib.hid d3
          have F3 := Lib.hid (F2.out.trans f3)
          have M3 := Lib.hid (M2.out.fr f3 (by unfold DkT; decide))
          clear d3 f3 m0 m1 m2 D2 F2 M2
          by_cases hw0 : we = 0
          · have HN := Lib.hid (show clnGo a (List.range' k0 (n - k0)) false d = clnGo a (List.range' (k + 1) (n - (k + 1))) true wd by
              rw [HE.out, HRC.out, clnGo, hrs.out, hre.out, if_neg (by omega), if_neg HZ.out, hwe.out, if_neg (by omega), hwd.out])
            subst hw0
            go_wp2_with fail
            go_roundg (n + 1 - (k + 1 - k0))
            case measure => omega
            case rel => exact ⟨k + 1, true, wd, rfl, by omega, by omega, by omega, by go_num, rfl, HN, D3, F3, M3, Lib.hid (by have := HL.out; have := HWL.out; omega)⟩
          · have HN := Lib.hid (show cleanL a n k0 d = (we, wd) by
              unfold cleanL
              rw [HE.out, HRC.out, clnGo, hrs.out, hre.out, if_neg (by omega), if_neg HZ.out, hwe.out, if_pos hw0, hwd.out]
              unfold clnEnd; rw [if_pos hw0])
            have q3 : (we != 0) = true := by simpa using hw0
            have q4 : (we == 0) = false := by simpa using hw0
            clear hw0
            go_wp2_with fail
            go_ret
            exact ⟨by rw [HN.out]; rfl, by rw [HN.out]; exact D3.out, F3.out⟩
      · have HN := Lib.hid (show cleanL a n k0 d = (re, d') by
          unfold cleanL
          rw [HE.out, HRC.out, clnGo, hrs.out, hre.out, if_pos h0]
          unfold clnEnd; rw [if_pos h0])
        have q3 : (re != 0) = true := by simpa using h0
        have q4 : (re == 0) = false := by simpa using h0
        clear h0 hst hzt
        go_wp2_with fail
        refine HRD.out.mono ?_
        rintro e w2 ⟨rfl, b2⟩
        have D2 := Lib.hid (show DkAt B w2 g d' by obtain ⟨q, vw, hA⟩ := HD.out; exact ⟨q, vw, hA.below b2⟩)
        have F2 := Lib.hid (HF.out.below b2 (Nat.le_trans HB.out HF.out.b.size))
        clear b2 m0 m1 m2
        go_wp2_with fail
        go_ret
        exact ⟨by rw [HN.out]; rfl, by rw [HN.out]; exact D2.out, F2.out⟩
    · have hr0 : List.range' k (n - k) = [] := by rw [show n - k = 0 by omega]; rfl
      have e1 : decide ((k : Int) < (n : Int)) = false := decide_eq_false (by omega)
      have e2 : decide (k < n) = false := decide_eq_false hlt
      have HN0 := Lib.hid (show cleanL a n k0 d = clnEnd (0, b, d') by unfold cleanL; rw [HE.out, hr0, clnGo])
      clear hlt hr0
      cases b with
      | true =>
        have HN := Lib.hid (show cleanL a n k0 d = d'.sync by rw [HN0.out]; unfold clnEnd; rw [if_neg (by simp), if_pos rfl])
        go_wp2_with fail
        obtain ⟨q, vw, hA⟩ := HD.out
        refine (sync_any hA).mono ?_
        rintro e w2 ⟨rfl, d2, f2⟩
        have D2 := Lib.hid d2
        have F2 := Lib.hid (HF.out.trans f2)
        clear d2 f2 hA
        go_wp2_with fail
        go_ret
        exact ⟨by rw [HN.out]; rfl, by rw [HN.out]; exact D2.out, F2.out⟩
      | false =>
        have HN := Lib.hid (show cleanL a n k0 d = (0, d') by rw [HN0.out]; unfold clnEnd; rw [if_neg (by simp), if_neg (by simp)])
        go_wp2_with fail
        go_ret
        exact ⟨by rw [HN.out]; rfl, by rw [HN.out]; exact HD.out, HF.out⟩
end Go.Proofs.YteajpebkanamgaaDoor
namespace Go.Proofs.YteajpebkanamgaaDoor
open Go.RowKit
set_option linter.unusedSimpArgs false
set_option linter.unusedVariables false
/-- all but the blocks of S is as it was. -/
structure Kp (S : Nat → Prop) (w w' : World) : Prop where
  os : w'.os = w.os
  tape : w'.tape = w.tape
  output : w'.output = w.output
  size : w.heap.size ≤ w'.heap.size
  block : ∀ i, i < w.heap.size → ¬ S i → w'.heap[i]? = w.heap[i]?
section
variable {S S' : Nat → Prop} {w w' w'' : World}
theorem Kp.refl (S : Nat → Prop) (w : World) : Kp S w w := ⟨rfl, rfl, rfl, Nat.le_refl _, fun _ _ _ => rfl⟩
theorem Kp.trans (h : Kp S w w') (k : Kp S w' w'') : Kp S w w'' :=
  ⟨k.os.trans h.os, k.tape.trans h.tape, k.output.trans h.output, Nat.le_trans h.size k.size, fun i hi hs => (k.block i (Nat.lt_of_lt_of_le hi h.size) hs).trans (h.block i hi hs)⟩
theorem Kp.mono (h : Kp S w w') (hs : ∀ i, i < w.heap.size → S i → S' i) : Kp S' w w' := ⟨h.os, h.tape, h.output, h.size, fun i hi hn => h.block i hi (fun hS => hn (hs i hi hS))⟩
theorem Kp.of_below (h : Below w.heap.size w w') : Kp S w w' := ⟨h.os, h.tape, h.output, h.size, fun i hi _ => h.block i hi⟩
theorem Kp.set_ {g : Nat} (hS : S g) (i : Nat) (u : Value) : Kp S w (w.setCell ⟨g, i, none⟩ u) :=
  ⟨rfl, rfl, rfl, by simp [World.setCell], fun k hk hs => Below.heap_setCell w ⟨g, i, none⟩ u k (fun e => hs (by subst e; exact hS))⟩
theorem Kp.grown {row : Option Nat} (h : w.grownBy w' row) (hS : ∀ k, row = some k → k < w.heap.size → S k) : Kp S w w' :=
  ⟨h.os, h.tape, h.output, h.size, fun i hi hs => h.block i hi (fun e => hs (hS i e.symm hi))⟩
theorem Kp.below {B : Nat} (h : Kp S w w') (hS : ∀ i, S i → B ≤ i) (hB : B ≤ w.heap.size) : Below B w w' :=
  ⟨h.os, h.tape, h.output, h.size, fun i hi => h.block i (Nat.lt_of_lt_of_le hi hB) (fun hs => by have := hS i hs; omega)⟩
theorem Blk.kp {g : Nat} {t : TypeId} {cs : Array Value} (h : Blk w g t cs) (k : Kp S w w') (hn : ¬ S g) : Blk w' g t cs := (k.block g h.lt hn).trans h
end
/-- a window. -/
def Win (e : TypeId) (w : World) (B : Nat) (v : Value) (xs : List Value) : Prop :=
  (v = .slice none 0 0 ∧ xs = []) ∨ ∃ b off cap cur, v = .slice (some ⟨b, off, none⟩) xs.length cap ∧ B ≤ b ∧ Blk w b e cur ∧ off + cap ≤ cur.size ∧ xs.length ≤ cap ∧ cap ≤ 9223372036854775807 ∧ ∀ i, i < xs.length → cur[off + i]? = xs[i]?
section
variable {P : Program} {e t ty : TypeId} {w w' : World} {B : Nat} {v : Value} {xs : List Value} {z : Value} {by_ : Nat} {S : Nat → Prop}
theorem Win.nil (e : TypeId) (w : World) (B : Nat) : Win e w B (.slice none 0 0) [] := .inl ⟨rfl, rfl⟩
theorem Win.kp (h : Win e w B v xs) (k : Kp S w w') (hn : ∀ b, v.ownBlock = some b → ¬ S b) : Win e w' B v xs := by
  rcases h with h | ⟨b, off, cap, cur, rfl, h1, h2, h3⟩
  · exact .inl h
  · exact .inr ⟨b, off, cap, cur, rfl, h1, h2.kp k (hn b rfl), h3⟩
theorem Win.below (h : Win e w B v xs) (hb : Below w.heap.size w w') : Win e w' B v xs := h.kp (S := fun _ => False) (Kp.of_below hb) (fun _ _ h => h)
theorem Win.form (h : Win e w B v xs) : ∃ A c, v = .slice A xs.length c ∧ xs.length ≤ c ∧ c ≤ 9223372036854775807 := by
  rcases h with ⟨rfl, rfl⟩ | ⟨b, off, cap, cur, rfl, h1, h2, h3, h4, h5, _⟩
  · exact ⟨none, 0, rfl, Nat.le_refl _, by decide⟩
  · exact ⟨_, cap, rfl, h4, h5⟩
theorem Win.at_ (h : Win e w B v xs) (i : Nat) (hi : i < xs.length) : ∃ b off cap, v = .slice (some ⟨b, off, none⟩) xs.length cap ∧ B ≤ b ∧ b < w.heap.size ∧ w.cell? ⟨b, off + i, none⟩ = xs[i]? := by
  rcases h with ⟨rfl, rfl⟩ | ⟨b, off, cap, cur, rfl, h1, h2, h3, h4, h5, h6⟩
  · simp at hi
  · exact ⟨b, off, cap, rfl, h1, h2.lt, (h2.cell (off + i)).trans (h6 i hi)⟩
theorem Win.typed (h : Win e w B v xs) : ∀ b, v.ownBlock = some b → B ≤ b ∧ ∃ cs, Blk w b e cs := by
  intro b hb
  rcases h with ⟨rfl, _⟩ | ⟨b', off, cap, cur, rfl, h1, h2, _⟩
  · cases hb
  · injection hb with hb; subst hb; exact ⟨h1, cur, h2⟩
/-- 'xs[1:]'. -/
theorem Win.tail (h : Win e w B v xs) {x : Value} {r : List Value} (hx : xs = x :: r) : ∃ b off off' cap, v = .slice (some ⟨b, off, none⟩) xs.length cap ∧ 1 ≤ cap ∧ off' = (if cap = 1 then off else off + 1) ∧ Win e w B (.slice (some ⟨b, off', none⟩) r.length (cap - 1)) r := by
  subst hx
  rcases h with ⟨_, h⟩ | ⟨b, off, cap, cur, rfl, h1, h2, h3, h4, h5, h6⟩
  · cases h
  · simp only [List.length_cons] at h4
    refine ⟨b, off, _, cap, rfl, by omega, rfl, .inr ⟨b, _, cap - 1, cur, rfl, h1, h2, ?_, by omega, by omega, fun i hi => ?_⟩⟩
    · split <;> omega
    · have hc : cap ≠ 1 := by omega
      rw [if_neg hc]
      have := h6 (i + 1) (by simp; omega)
      rw [show off + 1 + i = off + (i + 1) by omega, this]
      rfl
theorem cells_first (size n : Nat) (w' : World) (v : Value) (xs : List Value) (h : Win e w' B v xs) (h1 : ∀ u ∈ xs, u.oneCell' = true) : (Builtin.firstCells 1 xs.length v).run P w' = .ok xs.toArray w' := by
  rcases h with ⟨rfl, rfl⟩ | ⟨b, off, cap, cur, rfl, _, h2, _, _, _, h6⟩
  · exact run_firstCells_none (P := P) w' 1 0 0 0
  · refine run_firstCells_some (P := P) w' 1 xs.length ⟨b, off, none⟩ xs.length cap xs (by simp) (fun j u hj => ?_)
    have hjl := (List.getElem?_eq_some_iff.1 hj).1
    have := (h2.cell (off + j)).trans (h6 j hjl)
    rw [hj] at this
    unfold Addr.add
    split
    · rename_i h0; subst h0; simpa using this
    · exact this
/-- one is appended. -/
theorem win_append (he : Elem P t e z by_) (h : Win e w B v xs) (h1 : ∀ u ∈ xs, u.oneCell' = true) (g c : Nat) (x : Value) (hx : w.cell? ⟨g, 0, none⟩ = some x) (hx1 : x.oneCell' = true) (hl : (xs.length + 1) * by_ ≤ 140737488355328) (hl2 : xs.length + 1 ≤ 9223372036854775807) (hB : B ≤ w.heap.size) :
    ∃ v' w', (Builtin.append_ #[t, t] ty #[v, .slice (some ⟨g, 0, none⟩) 1 c]).run P w = .ok v' w' ∧ Win e w' B v' (xs ++ [x]) ∧ w.grownBy w' v.ownBlock ∧ (v'.ownBlock = v.ownBlock ∨ v'.ownBlock = some w.heap.size) := by
  obtain ⟨i, hi, hz, hs, hby⟩ := info_parts he.2.1
  have hS : Src P i.size t (.slice (some ⟨g, 0, none⟩) 1 c) 1 [x] w := by
    rw [hs]
    refine Src.ofSlice w he.1 ⟨g, 0, none⟩ 1 c [x] (by simp) (fun j u hj => ?_) (fun u hu => by rw [List.mem_singleton.1 hu]; exact hx1)
    cases j with
    | zero => simp at hj; subst hj; simpa [Addr.add] using hx
    | succ j => simp at hj
  obtain ⟨A, cap, hv, hcap, hmax⟩ := h.form
  by_cases hroom : xs.length + 1 ≤ cap
  · rcases h with ⟨rfl, rfl⟩ | ⟨b, off, cap', cur, rfl, g1, g2, g3, g4, g5, g6⟩
    · injection hv with _ _ h3; subst h3; simp at hroom
    · injection hv with _ _ h3
      subst h3
      have hrun := run_append_room_src (P := P) w t t ty e i he.1 hi b off xs.length cap' (.slice (some ⟨g, 0, none⟩) 1 c) 1 [x] hS hroom (fun j hj => by
        rw [hs]
        have : j = 0 := by simpa using hj
        subst this
        rw [show off + xs.length * 1 + 0 = off + xs.length by omega, g2.cell]
        rw [Array.getElem?_eq_getElem (by omega)]; rfl) (fun j hj => g2.frozen _)
      rw [hs] at hrun
      refine ⟨_, _, hrun, ?_, ?_, .inl rfl⟩
      · have hset : w.setCells b (off + xs.length * 1) [x] = w.setCell ⟨b, off + xs.length, none⟩ x := by simp [World.setCells]
        rw [hset]
        refine .inr ⟨b, off, cap', cur.setIfInBounds (off + xs.length) x, by simp, g1, g2.set_ _ _, by simpa using g3, by simpa using hroom, g5, fun j hj => ?_⟩
        simp at hj
        rw [Array.getElem?_setIfInBounds]
        by_cases hjl : j < xs.length
        · rw [if_neg (by omega), g6 j hjl, List.getElem?_append_left hjl]
        · have : j = xs.length := by omega
          subst this
          rw [if_pos rfl, if_pos (by omega), List.getElem?_append_right (Nat.le_refl _)]
          simp
      · have hset : w.setCells b (off + xs.length * 1) [x] = w.setCell ⟨b, off + xs.length, none⟩ x := by simp [World.setCells]
        rw [hset]
        exact only_set (only_refl _ _) (.inl rfl) x
  · subst hv
    have hrun := run_append_grow_src (P := P) w t t ty e i z he.1 hi hz A xs.length cap xs (by
      rw [hs]
      exact cells_first (P := P) (e := e) (B := B) 1 0 w.drew (.slice A xs.length cap) xs (h.below (show Below w.heap.size w w.drew from below_drewN (Below.refl _ _) 1)) h1) (.slice (some ⟨g, 0, none⟩) 1 c) 1 [x] hS (by omega) (by omega) (growslice_fits (by omega) (by rw [hby]; exact hl))
    refine ⟨_, _, hrun, ?_, ?_, .inr rfl⟩
    · have hzs : z.cells.size = 1 := he.2.2
      have hG := grownCap_ge w (xs.length + 1) cap e
      have hGm := grownCap_le_maxLen w (xs.length + 1) cap e (by simp only [maxLen]; omega)
      refine .inr ⟨w.heap.size, 0, grownCap w (xs.length + 1) cap e, _, by simp, hB, Blk.new w.drew e _, ?_, by simpa using hG, by simpa [maxLen] using hGm, fun j hj => ?_⟩
      · rw [Array.size_append, List.size_toArray, size_zeroCells, hzs]
        simp
        omega
      · rw [Nat.zero_add, Array.getElem?_append_left (by simpa using hj), List.getElem?_toArray]
    · exact only_alloc (only_drew (only_refl _ _)) _
end
end Go.Proofs.YteajpebkanamgaaDoor
namespace Go.Proofs.YteajpebkanamgaaDoor
open Go.RowKit
set_option linter.unusedSimpArgs false
set_option linter.unusedVariables false
set_option maxRecDepth 20000
/-- a log, plainly: its half's first sector and size, its generation, mark, next sector, records. -/
structure Lg where
  a : Nat
  n : Nat
  gen : Nat
  mark : List UInt8
  next : Nat
  l : List (List UInt8)
def lgC (g : Nat) (v : Value) (L : Lg) : Array Value := #[.pointer (some ⟨g, 0, none⟩), .int .i64 (L.a : Nat), .int .i64 (L.n : Nat), .int .i64 (L.gen : Nat), .string ⟨L.mark.toArray⟩, .int .i64 (L.next : Nat), v]
structure LgM (B : Nat) (w : World) (p g : Nat) (v : Value) (L : Lg) : Prop where
  hp : Blk w p 72 (lgC g v L)
  ho : Win 9 w B v (cstr L.l)
  b : B ≤ p
/-- the log's own blocks. -/
def LgS (p : Nat) (v : Value) (i : Nat) : Prop := i = p ∨ v.ownBlock = some i
theorem elemSx : Elem Tryd.prog 22 9 (.string ⟨#[]⟩) 16 := ⟨Tryd.underlying22, by kernel_rfl, by rfl⟩
/-- all but the blocks of S, and a disk's, is as it was. -/
structure Fs (B : Nat) (S : Nat → Prop) (w w' : World) : Prop where
  b : Below B w w'
  f : ∀ (k : Nat) (cs : Array Value) (t : TypeId) (fz : Nat × Nat), w.heap[k]? = some (Obj.cells cs t fz) → ¬ DkT t → ¬ S k → w'.heap[k]? = w.heap[k]?
section
variable {B : Nat} {S S' : Nat → Prop} {w w' w'' : World}
theorem Fs.refl (B : Nat) (S : Nat → Prop) (w : World) : Fs B S w w := ⟨Below.refl _ _, fun _ _ _ _ _ _ _ => rfl⟩
theorem Fs.trans (h : Fs B S w w') (k : Fs B S w' w'') : Fs B S w w'' :=
  ⟨h.b.trans k.b, fun j cs t fz hj h1 h2 => by
    have e := h.f j cs t fz hj h1 h2
    exact (k.f j cs t fz (e.trans hj) h1 h2).trans e⟩
theorem Fs.of_fr (h : Fr B w w') : Fs B S w w' := ⟨h.b, fun k cs t fz hk ht _ => h.f k cs t fz hk (fun e => ht (.inl e)) (fun e => ht (.inr (.inl e))) (fun e => ht (.inr (.inr e)))⟩
theorem Fs.of_below (h : Below w.heap.size w w') (hB : B ≤ w.heap.size) : Fs B S w w' := Fs.of_fr (Fr.of h hB)
theorem Blk.fs {g : Nat} {t : TypeId} {cs : Array Value} (h : Blk w g t cs) (f : Fs B S w w') (ht : ¬ DkT t) (hs : ¬ S g) : Blk w' g t cs := (f.f g cs t (0, 0) h ht hs).trans h
end
theorem cstr_one1 (l : List (List UInt8)) : ∀ u ∈ cstr l, u.oneCell' = true := by
  intro u hu
  obtain ⟨x, _, rfl⟩ := List.mem_map.1 hu
  rfl
theorem LgM.ne {B p g : Nat} {w : World} {v : Value} {L : Lg} (h : LgM B w p g v L) : v.ownBlock ≠ some p := fun e => by
  obtain ⟨_, cs, hk⟩ := h.ho.typed p e
  exact absurd (hk.type h.hp).1 (by decide)
def Lg.took (L : Lg) (text own : List UInt8) (k : Nat) : Lg := { L with l := L.l ++ [text], mark := own, next := L.next + k }
structure TookOut (B p g : Nat) (v : Value) (L : Lg) (w w' : World) (e : Ending) : Prop where
  e : e = .returned (.tuple #[])
  m : ∃ v', LgM B w' p g v' L ∧ (v'.ownBlock = v.ownBlock ∨ v'.ownBlock = some w.heap.size ∨ v'.ownBlock = some (w.heap.size + 1))
  f : Fs B (LgS p v) w w'
  k : Kp (LgS p v) w w'
set_option maxHeartbeats 1600000 in
theorem took_any {B p g : Nat} {w : World} {v : Value} {L : Lg} (h : LgM B w p g v L) (text own : List UInt8) (k : Nat) (hB : B ≤ w.heap.size) (hl : L.l.length ≤ 1000000) (hk : k ≤ 1000000) (hn : L.next ≤ 1000000) :
    Calls Tryd.prog 70 #[.pointer (some ⟨p, 0, none⟩), .string ⟨text.toArray⟩, .string ⟨own.toArray⟩, .int .i64 ((k * 64 : Nat) : Int)] w fun e w' => TookOut B p g v (L.took text own k) w w' e := by
  have H := Lib.hid h
  have HB := Lib.hid hB
  obtain ⟨A, c, hv, _, _⟩ := h.ho.form
  have c6 : w.cell? ⟨p, 6, none⟩ = some v := h.hp.cell 6
  rw [hv, cstr_length] at c6
  have hA1 : Below w.heap.size w (w.alloc (.cells #[.string ⟨text.toArray⟩] 9)) := (Below.refl _ _).alloc (Nat.le_refl _) _
  obtain ⟨v', w1, hrun, hown, hgr, hat⟩ := win_append (P := Tryd.prog) (ty := 22) elemSx (h.ho.below hA1) (cstr_one1 _) w.heap.size 1 (.string ⟨text.toArray⟩) ((Blk.new w 9 _).cell 0) rfl (by rw [cstr_length]; omega) (by rw [cstr_length]; omega) (by simp; omega)
  obtain ⟨A2, k2, hv', _, _⟩ := hown.form
  rw [List.length_append, List.length_singleton] at hv'
  have hrow := hgr
  rw [hv, cstr_length] at hrun
  have HR := Lib.hid hrun
  have hB1 : B ≤ w.heap.size + 1 := by omega
  have hkp1 : Kp (LgS p v) w w1 := (Kp.of_below hA1).trans (Kp.grown hgr (fun q hq _ => .inr hq))
  have hP1 : Blk w1 p 72 (lgC g v L) := (h.hp.below hA1 h.hp.lt).grown hgr (fun e => h.ne e.symm)
  have M1 := Lib.hid hP1
  have p5 : w1.cell? ⟨p, 5, none⟩ = some (.int .i64 (L.next : Nat)) := hP1.cell 5
  have f6 : w1.frozen? ⟨p, 6, none⟩ = false := hP1.frozen 6
  have f4 : w1.frozen? ⟨p, 4, none⟩ = false := hP1.frozen 4
  have f5 : w1.frozen? ⟨p, 5, none⟩ = false := hP1.frozen 5
  have q6 : w1.cell? ⟨p, 6, none⟩ = some v := hP1.cell 6
  have q4 : w1.cell? ⟨p, 4, none⟩ = some (.string ⟨L.mark.toArray⟩) := hP1.cell 4
  have hk2 : ((k * 64 : Nat) : Int) / 64 = (k : Int) := by omega
  have hk3 : 0 ≤ ((k * 64 : Nat) : Int) ∧ ((k * 64 : Nat) : Int) ≤ 64000000 := by omega
  have hn2 : (L.next : Int) ≤ 1000000 ∧ (k : Int) ≤ 1000000 := by omega
  obtain ⟨kk, hkk⟩ : ∃ z : Int, Hid (((k * 64 : Nat) : Int) = z) := ⟨_, Lib.hid rfl⟩
  rw [hkk.out] at hk2 hk3 ⊢
  obtain ⟨N, hNN⟩ : ∃ z, Hid (L.next = z) := ⟨_, Lib.hid rfl⟩
  rw [hNN.out] at p5 hn2
  have KP := Lib.hid hkp1
  have HW := Lib.hid hown
  have HAT := Lib.hid hat
  have HA1 := Lib.hid hA1
  clear hrun hown hgr hrow hat hkp1 hP1 hA1 hB1 h hB hl hk hn
  go_enter Tryd.func70, Tryd.ntmps70
  go_wp2_with (at_builtin; refine wpList_append_run rfl (.tmp 12) (.tmp 14) _ _ rfl rfl rfl HR.out ?_)
  go_end0
  have hcells : (((lgC g v L).setIfInBounds 6 v').setIfInBounds 4 (.string ⟨own.toArray⟩)).setIfInBounds 5 (.int .i64 ((N : Int) + (k : Int))) = lgC g v' (L.took text own k) := by
    simp [lgC, Lg.took, hNN.out]
  have hb := ((M1.out.set_ 6 v').set_ 4 (.string ⟨own.toArray⟩)).set_ 5 (.int .i64 ((N : Int) + (k : Int)))
  rw [hcells] at hb
  have hfar : v'.ownBlock ≠ some p := fun e => by
    obtain ⟨_, cs, hk⟩ := HW.out.typed p e
    exact absurd (hk.type M1.out).1 (by decide)
  have kset : ∀ (W : World) (i : Nat) (u : Value), Kp (fun j => j = p) W (W.setCell ⟨p, i, none⟩ u) := fun W i u => Kp.set_ (S := fun j => j = p) rfl i u
  have k3 := ((kset w1 6 v').trans (kset _ 4 (.string ⟨own.toArray⟩))).trans (kset _ 5 (.int .i64 ((N : Int) + (k : Int))))
  have hW3 := HW.out.kp k3 (fun b hb2 e => hfar (by rw [← e]; exact hb2))
  have hKP := KP.out.trans (k3.mono (S' := LgS p v) (fun i _ e => .inl e))
  have hge : ∀ i, LgS p v i → B ≤ i := fun i hi => by
    rcases hi with rfl | hi
    · exact H.out.b
    · exact (H.out.ho.typed i hi).1
  refine ⟨rfl, ⟨v', ⟨?_, ?_, H.out.b⟩, ?_⟩, ?_, ?_⟩
  · have := hb
    rw [hv'] at this ⊢
    exact this
  · have := hW3
    rw [show cstr (L.took text own k).l = cstr L.l ++ [Value.string ⟨text.toArray⟩] by simp [Lg.took, cstr]]
    rw [hv'] at this ⊢
    exact this
  · rcases HAT.out with e | e
    · exact .inl e
    · exact .inr (.inr (by rw [e]; simp))
  · rw [hv'] at hKP
    exact ⟨hKP.below hge HB.out, fun q cs t fz hq _ hs => hKP.block q (heap_lt hq) hs⟩
  · rw [hv'] at hKP
    exact hKP
end Go.Proofs.YteajpebkanamgaaDoor
namespace Go.Proofs.YteajpebkanamgaaDoor
open Go.RowKit
set_option linter.unusedSimpArgs false
set_option linter.unusedVariables false
set_option maxRecDepth 20000
def chunkL (s : List UInt8) (k : Nat) : List UInt8 := (s.drop (64 * k)).take 64
/-- the chunks of a text are written, one sector behind the other. -/
def putGo (a : Nat) (s : List UInt8) : Nat → Nat → Dk → Int × Dk
  | 0, _, d => (0, d)
  | r + 1, k, d =>
    if (d.write ((a + k : Nat) : Int) (chunkL s k)).1 ≠ 0 then d.write ((a + k : Nat) : Int) (chunkL s k)
    else putGo a s r (k + 1) (d.write ((a + k : Nat) : Int) (chunkL s k)).2
structure LgOut where
  e : Int
  d : Dk
  L : Lg
def putL (d : Dk) (L : Lg) (t : List UInt8) : LgOut :=
  let r := putGo (L.a + L.next) (recL L.mark t) (sectorsN t) 0 d
  if r.1 ≠ 0 then ⟨r.1, r.2, L⟩ else ⟨0, r.2, L.took t (ownL L.mark t) (sectorsN t)⟩
/-- a log and its disk, in memory. -/
structure LgW (B : Nat) (w : World) (p g : Nat) (v : Value) (L : Lg) (d : Dk) : Prop where
  m : LgM B w p g v L
  d : DkAt B w g d
  k : KsAt w
  ks : 0 < B
/-- what a call of the log's leaves. -/
structure LgNext (B p g : Nat) (v : Value) (L' : Lg) (d' : Dk) (w w' : World) : Prop where
  r : ∃ v', LgW B w' p g v' L' d' ∧ ∀ i, v'.ownBlock = some i → v.ownBlock = some i ∨ w.heap.size ≤ i
  f : Fs B (LgS p v) w w'
section
variable {B p g : Nat} {w w' : World} {v : Value} {L : Lg} {d d' : Dk}
theorem DkAt.hB (h : DkAt B w g d) : B ≤ w.heap.size := by obtain ⟨q, vw, hA⟩ := h; exact hA.hB
theorem DkAt.below (h : DkAt B w g d) (hb : Below w.heap.size w w') : DkAt B w' g d := by obtain ⟨q, vw, hA⟩ := h; exact ⟨q, vw, hA.below hb⟩
theorem LgM.below (h : LgM B w p g v L) (hb : Below w.heap.size w w') : LgM B w' p g v L := ⟨h.hp.below hb h.hp.lt, h.ho.below hb, h.b⟩
theorem LgW.below (h : LgW B w p g v L d) (hb : Below w.heap.size w w') : LgW B w' p g v L d :=
  ⟨h.m.below hb, h.d.below hb, h.k.below (Nat.lt_of_lt_of_le h.ks h.d.hB) hb, h.ks⟩
/-- the disk was turned. -/
theorem LgM.fr (h : LgM B w p g v L) (f : Fr B w w') : LgM B w' p g v L := by
  refine ⟨h.hp.fr f (by unfold DkT; decide), ?_, h.b⟩
  rcases h.ho with h1 | ⟨b, off, cap, cur, h1, h2, h3, h4⟩
  · exact .inl h1
  · exact .inr ⟨b, off, cap, cur, h1, h2, h3.fr f (by unfold DkT; decide), h4⟩
theorem LgW.fr (h : LgW B w p g v L d) (f : Fr B w w') (hd : DkAt B w' g d') : LgW B w' p g v L d' := ⟨h.m.fr f, hd, h.k.fr h.ks f, h.ks⟩
theorem owns_kp {S : Nat → Prop} {e : TypeId} {s n : Nat} {xs : List Value} (h : w.ownsRow B e s v n xs) (k : Kp S w w') (hn : ∀ b, v.ownBlock = some b → ¬ S b) : w'.ownsRow B e s v n xs := by
  refine ⟨h.1, ?_⟩
  rcases h.2 with h2 | ⟨q, cap, cur, h1, h2, h3, h4⟩
  · exact .inl h2
  · exact .inr ⟨q, cap, cur, h1, h2, (k.block q (heap_lt h3) (hn q (by rw [h1]; rfl))).trans h3, h4⟩
/-- blocks that are no disk's were turned. -/
theorem DkAt.kp {S : Nat → Prop} (h : DkAt B w g d) (k : Kp S w w') (hS : ∀ i cs t, S i → Blk w i t cs → ¬ DkT t) : DkAt B w' g d := by
  obtain ⟨q, vw, hA⟩ := h
  refine ⟨q, vw, hA.hg.kp k (fun e => hS _ _ _ e hA.hg (.inl rfl)), hA.ha.kp k (fun e => hS _ _ _ e hA.ha (.inr (.inl rfl))), owns_kp hA.hw k (fun b hb e => ?_), hA.bg, hA.ba, hA.ok⟩
  obtain ⟨cs, hk⟩ := owns_typed hA.hw b hb
  exact hS _ _ _ e hk (.inr (.inr rfl))
theorem LgM.notDk (h : LgM B w p g v L) : ∀ i cs t, LgS p v i → Blk w i t cs → ¬ DkT t := fun i cs t hi hk => by
  rcases hi with rfl | hi
  · rw [(hk.type h.hp).1]; unfold DkT; decide
  · obtain ⟨_, cs', hk'⟩ := h.ho.typed i hi
    rw [(hk.type hk').1]; unfold DkT; decide
end
theorem LgW.turned {B p g : Nat} {w w' : World} {v : Value} {L L' : Lg} {d : Dk} (h : LgW B w p g v L d) {e : Ending} (hT : TookOut B p g v L' w w' e) : LgNext B p g v L' d w w' := by
  obtain ⟨v', hm, hv⟩ := hT.m
  refine ⟨⟨v', ⟨hm, h.d.kp hT.k h.m.notDk, (fun i hi => (hT.f.b.cell (p := ⟨0, i, none⟩) h.ks).trans (h.k i hi)), h.ks⟩, fun i hi => ?_⟩, hT.f⟩
  rcases hv with e | e | e
  · exact .inl (e ▸ hi)
  · rw [e] at hi; cases hi; exact .inr (Nat.le_refl _)
  · rw [e] at hi; cases hi; exact .inr (Nat.le_succ _)
set_option maxHeartbeats 3200000 in
theorem put_any {B p g : Nat} {w : World} {v : Value} {L : Lg} {d : Dk} (h : LgW B w p g v L d) (t : List UInt8) (ht : t.length ≤ 2000) (hm : L.mark.length ≤ 1000000) (hl : L.l.length ≤ 1000000) (hn : L.next ≤ 100000) (ha : L.a ≤ 100000) (hw : d.w.length + sectorsN t < 1000000) :
    Calls Tryd.prog 45 #[.pointer (some ⟨p, 0, none⟩), .string ⟨t.toArray⟩] w fun e w' => e = .returned (.int .i64 (putL d L t).e) ∧ LgNext B p g v (putL d L t).L (putL d L t).d w w' := by
  have H := Lib.hid h
  have HB := Lib.hid (show B ≤ w.heap.size from h.d.hB)
  have HRE := Lib.hid (record_any L.mark t w hm (by omega) h.k (Nat.lt_of_lt_of_le h.ks h.d.hB))
  have c4 : w.cell? ⟨p, 4, none⟩ = some (.string ⟨L.mark.toArray⟩) := h.m.hp.cell 4
  have hS : sectorsN t ≤ 32 := by unfold sectorsN; omega
  have hrz : (⟨(recL L.mark t).toArray⟩ : ByteArray).size = sectorsN t * 64 := by show (recL L.mark t).toArray.size = _; rw [List.size_toArray, recL_length]
  have HRL := Lib.hid (recL_length L.mark t)
  obtain ⟨S, hSS⟩ : ∃ S, Hid (sectorsN t = S) := ⟨_, Lib.hid rfl⟩
  obtain ⟨R, hR⟩ : ∃ R, Hid (recL L.mark t = R) := ⟨_, Lib.hid rfl⟩
  rw [hSS.out] at hrz hS hw HRL
  rw [hR.out] at hrz HRE HRL
  obtain ⟨rb, RB⟩ : ∃ t : ByteArray, Hid (⟨R.toArray⟩ = t) := ⟨_, Lib.hid rfl⟩
  obtain ⟨ob, OB⟩ : ∃ t' : ByteArray, Hid (⟨(ownL L.mark t).toArray⟩ = t') := ⟨_, Lib.hid rfl⟩
  rw [RB.out] at hrz HRE
  rw [OB.out] at HRE
  go_enter Tryd.func45, Tryd.ntmps45
  go_wp2_with fail
  refine HRE.out.mono ?_
  rintro e w1 ⟨rfl, b1⟩
  have W1 := Lib.hid (h.below b1)
  have F1 := Lib.hid (Fr.of b1 HB.out)
  clear b1 c4 HRE
  go_wp2_with fail
  go_loopg [7] (S + 1) (fun kq v7 wr => ∃ (k : Nat) (d' : Dk), kq = S + 1 - k ∧ k ≤ S ∧ v7 = .int .i64 ((64 * k : Nat) : Int) ∧ Hid (putGo (L.a + L.next) R S 0 d = putGo (L.a + L.next) R (S - k) k d') ∧ Hid (LgW B wr p g v L d') ∧ Hid (Fr B w wr) ∧ Hid (d'.w.length ≤ d.w.length + k))
  case atStart => exact ⟨0, d, rfl, by omega, rfl, Lib.hid rfl, W1, F1, Lib.hid (by omega)⟩
  case round =>
    clear W1 F1
    obtain ⟨k, d', rfl, hk, rfl, HE, HW, HF, HL⟩ := hrel
    have m0 : wr.cell? ⟨p, 0, none⟩ = some (.pointer (some ⟨g, 0, none⟩)) := HW.out.m.hp.cell 0
    have m1 : wr.cell? ⟨p, 1, none⟩ = some (.int .i64 (L.a : Nat)) := HW.out.m.hp.cell 1
    have m2 : wr.cell? ⟨p, 2, none⟩ = some (.int .i64 (L.n : Nat)) := HW.out.m.hp.cell 2
    have m5 : wr.cell? ⟨p, 5, none⟩ = some (.int .i64 (L.next : Nat)) := HW.out.m.hp.cell 5
    by_cases hlt : k < S
    · have hx : rb.extract (64 * k) (64 * k + 64) = ⟨(chunkL R k).toArray⟩ := by
        rw [← RB.out, extract_mid]; unfold chunkL; congr 3; omega
      have HWR := Lib.hid (show ∀ W, DkAt B W g d' → Calls Tryd.prog 63 #[.agg #[.pointer (some ⟨g, 0, none⟩), .int .i64 (L.a : Nat), .int .i64 (L.n : Nat)], .int .i64 ((L.next + k : Nat) : Int), .string ⟨(chunkL R k).toArray⟩] W fun e w' => e = .returned (.int .i64 (d'.write ((L.a + (L.next + k) : Nat) : Int) (chunkL R k)).1) ∧ DkAt B w' g (d'.write ((L.a + (L.next + k) : Nat) : Int) (chunkL R k)).2 ∧ Fr B W w' from fun W hW => hwrite_any hW L.a L.n (L.next + k) (chunkL R k) (by omega) (by omega) (by have := HL.out; omega))
      have hwl := write_len d' ((L.a + (L.next + k) : Nat) : Int) (chunkL R k)
      obtain ⟨we, hwe⟩ : ∃ r, Hid ((d'.write ((L.a + (L.next + k) : Nat) : Int) (chunkL R k)).1 = r) := ⟨_, Lib.hid rfl⟩
      obtain ⟨wd, hwd⟩ : ∃ r, Hid ((d'.write ((L.a + (L.next + k) : Nat) : Int) (chunkL R k)).2 = r) := ⟨_, Lib.hid rfl⟩
      obtain ⟨cb_, CB⟩ : ∃ t : ByteArray, Hid (⟨(chunkL R k).toArray⟩ = t) := ⟨_, Lib.hid rfl⟩
      rw [hwe.out, hwd.out, CB.out] at HWR
      rw [CB.out] at hx
      rw [hwd.out] at hwl
      have HWL := Lib.hid hwl
      obtain ⟨N, hN⟩ : ∃ N, Hid (L.next = N) := ⟨_, Lib.hid rfl⟩
      rw [hN.out] at m5 HWR
      have hN2 : N ≤ 100000 := by rw [← hN.out]; exact hn
      obtain ⟨P, hP⟩ : ∃ P, Hid (64 * k = P) := ⟨_, Lib.hid rfl⟩
      rw [hP.out] at hx ⊢
      have e1 : (P : Int) < (S : Int) * 64 := by have := hP.out; omega
      have e2 : (P : Int) / 64 = (k : Int) := by have := hP.out; omega
      have e3 : (P : Int) + 64 ≤ (S : Int) * 64 := by have := hP.out; omega
      rw [show ((N + k : Nat) : Int) = (N : Int) + (k : Int) by omega] at HWR
      have e5 : (S : Int) ≤ 32 := by omega
      have e6 : (P : Int) ≤ 2048 := by omega
      have w1 : IntKind.i64.wrap ((P : Int) + 64) = (P : Int) + 64 := by rw [IntKind.wrap_i64]; omega
      have w2 : IntKind.i64.wrap ((N : Int) + (k : Int)) = (N : Int) + (k : Int) := by rw [IntKind.wrap_i64]; omega
      have w3 : IntKind.i64.wrap (k : Int) = (k : Int) := by rw [IntKind.wrap_i64]; omega
      have w4 : (P : Int).tdiv 64 = (k : Int) := by rw [Int.tdiv_eq_ediv_of_nonneg (by omega)]; exact e2
      have w5 : ((P : Int) + 64).toNat = P + 64 := by omega
      have w6 : 0 ≤ (P : Int) + 64 ∧ (P : Int) ≤ (P : Int) + 64 := by omega
      have w7 : (P : Int) + 64 ≤ (rb.size : Int) := by rw [hrz]; omega
      clear hwl
      go_upto_region 5 with fail
      refine still_tail 16 (by kernel_rfl) (by kernel_rfl) ?_
      simp only [List.take_succ_cons, List.take_zero, List.drop_succ_cons, List.drop_zero]
      repeat still_step
      refine wpStill_nil ?_
      clear w1 w2 w3 w4 w5 w6 w7 m0 m1 m2 m5 e2
      go_wp2_with fail
      refine (HWR.out wr.drew (by obtain ⟨q, vw, hA⟩ := HW.out.d; exact ⟨q, vw, hA.drew⟩)).mono ?_
      rintro e w2 ⟨rfl, d2, f2⟩
      have F2 := Lib.hid (show Fr B wr w2 from ⟨⟨f2.b.os, f2.b.tape, f2.b.output, f2.b.size, f2.b.block⟩, f2.f⟩)
      have W2 := Lib.hid (HW.out.fr F2.out d2)
      have F3 := Lib.hid (HF.out.trans F2.out)
      clear d2 f2 F2 HWR
      have HPG := Lib.hid (show putGo (L.a + L.next) R (S - k) k d' = if we ≠ 0 then (we, wd) else putGo (L.a + L.next) R (S - (k + 1)) (k + 1) wd by
        rw [show S - k = (S - (k + 1)) + 1 by omega, putGo, show L.a + L.next + k = L.a + (L.next + k) by omega, hwe.out, hwd.out]
        rw [← hwe.out, ← hwd.out])
      by_cases hw0 : we = 0
      · subst hw0
        go_wp2_with fail
        go_roundg (S + 1 - (k + 1))
        case measure => omega
        case rel => exact ⟨k + 1, wd, rfl, by omega, by have := hP.out; congr 1; omega, Lib.hid (by rw [HE.out, HPG.out, if_neg (by simp)]), W2, F3, Lib.hid (by have := HL.out; have := HWL.out; omega)⟩
      · have HN := Lib.hid (show putL d L t = ⟨we, wd, L⟩ by
          unfold putL
          rw [hR.out, hSS.out, HE.out, HPG.out, if_pos hw0]
          simp only
          rw [if_pos hw0])
        have q3 : (we != 0) = true := by simpa using hw0
        have q4 : (we == 0) = false := by simpa using hw0
        clear hw0
        go_wp2_with fail
        go_ret
        exact ⟨by rw [HN.out]; rfl, by rw [HN.out]; exact ⟨⟨v, W2.out, fun i hi => .inl hi⟩, Fs.of_fr F3.out⟩⟩
    · obtain rfl : k = S := by omega
      have HN := Lib.hid (show putL d L t = ⟨0, d', L.took t (ownL L.mark t) k⟩ by
        unfold putL
        rw [hR.out, hSS.out, HE.out, Nat.sub_self, putGo]
        simp only
        rw [if_neg (by simp)])
      have HT := Lib.hid (show Calls Tryd.prog 70 #[.pointer (some ⟨p, 0, none⟩), .string ⟨t.toArray⟩, .string ob, .int .i64 ((k : Int) * 64)] wr fun e w' => TookOut B p g v (L.took t (ownL L.mark t) k) wr w' e by
        rw [← OB.out, show (k : Int) * 64 = ((k * 64 : Nat) : Int) by omega]
        exact took_any HW.out.m t (ownL L.mark t) k HW.out.d.hB hl (by omega) (by omega))
      have e1 : decide (64 * (k : Int) < (k : Int) * 64) = false := decide_eq_false (by omega)
      clear hlt m0 m1 m2 m5
      go_wp2_with fail
      refine HT.out.mono ?_
      intro e w2 hT
      have HTT := Lib.hid (HW.out.turned hT)
      have HEE := hT.e
      subst HEE
      clear hT HT
      go_wp2_with fail
      go_ret
      refine ⟨by rw [HN.out]; rfl, ?_⟩
      rw [HN.out]
      obtain ⟨v', hv', hi'⟩ := HTT.out.r
      exact ⟨⟨v', hv', fun i hi => (hi' i hi).imp id (fun h => Nat.le_trans HF.out.b.size h)⟩, (Fs.of_fr HF.out).trans HTT.out.f⟩
end Go.Proofs.YteajpebkanamgaaDoor
namespace Go.Proofs.YteajpebkanamgaaDoor
open Go.RowKit
set_option linter.unusedSimpArgs false
set_option linter.unusedVariables false
set_option maxRecDepth 20000
/-- texts are put, one behind the other; the first error ends it. -/
def putsGo : List (List UInt8) → Dk → Lg → LgOut
  | [], d, L => ⟨0, d, L⟩
  | t :: r, d, L => if (putL d L t).e ≠ 0 then putL d L t else putsGo r (putL d L t).d (putL d L t).L
/-- what 'begin' makes of a half. -/
def beginL (a n gen : Nat) (ts : List (List UInt8)) (d : Dk) : LgOut :=
  let c := cleanL a n 0 d
  let L0 : Lg := ⟨a, n, gen, hmark gen, 1, []⟩
  if c.1 ≠ 0 then ⟨c.1, c.2, L0⟩ else
  let r := putsGo ts c.2 L0
  if r.e ≠ 0 then r else
  let s1 := r.d.sync
  if s1.1 ≠ 0 then ⟨s1.1, s1.2, r.L⟩ else
  let h := s1.2.write (a : Nat) (begunL gen)
  if h.1 ≠ 0 then ⟨h.1, h.2, r.L⟩ else
  let s2 := h.2.sync
  if s2.1 ≠ 0 then ⟨s2.1, s2.2, r.L⟩ else ⟨0, s2.2, r.L⟩
/-- texts in a slice that a log's calls leave as they are. -/
structure TsA (w : World) (S : Nat → Prop) (A : Option Addr) (n : Nat) (ts : List (List UInt8)) : Prop where
  len : ts.length = n
  at_ : 0 < n → ∃ (b o : Nat) (cs : Array Value) (t : TypeId) (fz : Nat × Nat), A = some ⟨b, o, none⟩ ∧ w.heap[b]? = some (.cells cs t fz) ∧ ¬ DkT t ∧ ¬ S b ∧ ∀ i, i < n → w.cell? ⟨b, o + i, none⟩ = some (.string ⟨(ts.getD i []).toArray⟩)
theorem cell_of_heap {w w' : World} {b : Nat} (h : w'.heap[b]? = w.heap[b]?) (o : Nat) : w'.cell? ⟨b, o, none⟩ = w.cell? ⟨b, o, none⟩ := by
  unfold World.cell?
  simp only [h]
theorem TsA.fs {B : Nat} {w w' : World} {S : Nat → Prop} {A : Option Addr} {n : Nat} {ts : List (List UInt8)} (h : TsA w S A n ts) (f : Fs B S w w') : TsA w' S A n ts :=
  ⟨h.len, fun hn => by
    obtain ⟨b, o, cs, t, fz, e, hh, ht, hs, hc⟩ := h.at_ hn
    have hb := f.f b cs t fz hh ht hs
    exact ⟨b, o, cs, t, fz, e, hb.trans hh, ht, hs, fun i hi => (cell_of_heap hb _).trans (hc i hi)⟩⟩
theorem putGo_len (a : Nat) (s : List UInt8) : ∀ (r k : Nat) (d : Dk), (putGo a s r k d).2.w.length ≤ d.w.length + r := by
  intro r
  induction r with
  | zero => intro k d; exact Nat.le_refl _
  | succ r ih =>
    intro k d
    have h1 := write_len d ((a + k : Nat) : Int) (chunkL s k)
    have h2 := ih (k + 1) (d.write ((a + k : Nat) : Int) (chunkL s k)).2
    rw [putGo]
    split <;> omega
structure PutB (d : Dk) (L : Lg) (t : List UInt8) (o : LgOut) : Prop where
  a : o.L.a = L.a
  n : o.L.n = L.n
  gen : o.L.gen = L.gen
  next : o.L.next ≤ L.next + sectorsN t
  l : o.L.l.length ≤ L.l.length + 1
  mark : o.L.mark.length ≤ max L.mark.length 16
  w : o.d.w.length ≤ d.w.length + sectorsN t
theorem putL_b (d : Dk) (L : Lg) (t : List UInt8) : PutB d L t (putL d L t) := by
  have h1 := putGo_len (L.a + L.next) (recL L.mark t) (sectorsN t) 0 d
  have ho := ownL_length L.mark t
  unfold putL
  generalize putGo (L.a + L.next) (recL L.mark t) (sectorsN t) 0 d = r at h1
  generalize ownL L.mark t = o at ho
  simp only
  split
  · exact ⟨rfl, rfl, rfl, Nat.le_add_right _ _, Nat.le_succ _, Nat.le_max_left _ _, h1⟩
  · refine ⟨rfl, rfl, rfl, Nat.le_refl _, ?_, ?_, h1⟩
    · show (L.l ++ [t]).length ≤ _
      rw [List.length_append]; exact Nat.le_refl _
    · show o.length ≤ _
      rw [ho]; exact Nat.le_max_right _ _
/-- what 'begin' leaves: a new log, or none. -/
structure BegOut (B g : Nat) (r : LgOut) (w w' : World) (e : Ending) : Prop where
  f : Fr B w w'
  r : (r.e = 0 ∧ ∃ lp v, e = .returned (.tuple #[.pointer (some ⟨lp, 0, none⟩), .int .i64 0]) ∧ LgW B w' lp g v r.L r.d ∧ ∀ i, LgS lp v i → w.heap.size ≤ i) ∨ (r.e ≠ 0 ∧ e = .returned (.tuple #[.pointer none, .int .i64 r.e]) ∧ DkAt B w' g r.d)
theorem Fs.fr {B : Nat} {w0 w w' : World} {S : Nat → Prop} (h : Fs B S w w') (h0 : Fr B w0 w) (hS : ∀ i, S i → w0.heap.size ≤ i) : Fr B w0 w' :=
  ⟨h0.b.trans h.b, fun k cs t fz hk h1 h2 h3 => by
    have e := h0.f k cs t fz hk h1 h2 h3
    refine (h.f k cs t fz (e.trans hk) (fun ht => by rcases ht with e | e | e; exact h1 e; exact h2 e; exact h3 e) (fun hs => ?_)).trans e
    have := hS k hs
    have := heap_lt hk
    omega⟩
theorem TsA.fr {B : Nat} {w w' : World} {S : Nat → Prop} {A : Option Addr} {n : Nat} {ts : List (List UInt8)} (h : TsA w S A n ts) (f : Fr B w w') : TsA w' S A n ts := h.fs (Fs.of_fr f)
theorem Fs.mono {B : Nat} {S S' : Nat → Prop} {w w' : World} (h : Fs B S w w') (hS : ∀ i, S i → S' i) : Fs B S' w w' := ⟨h.b, fun k cs t fz hk ht hn => h.f k cs t fz hk ht (fun e => hn (hS k e))⟩
theorem clnGo_len (a : Nat) : ∀ (l : List Nat) (b : Bool) (d : Dk), (clnGo a l b d).2.2.w.length ≤ d.w.length + l.length := by
  intro l
  induction l with
  | nil => intro b d; exact Nat.le_refl _
  | cons k r ih =>
    intro b d
    have h1 := write_len d ((a + k : Nat) : Int) zs64
    have h2 := ih b d
    have h3 := ih true (d.write ((a + k : Nat) : Int) zs64).2
    rw [clnGo, List.length_cons]
    split
    · exact Nat.le_add_right _ _
    · split
      · omega
      · split <;> (try dsimp only) <;> omega
theorem burn_w (d : Dk) : d.burn.w = d.w := by unfold Dk.burn; split <;> rfl
theorem sync_len (d : Dk) : d.sync.2.w.length ≤ d.w.length := by
  unfold Dk.sync
  split
  · exact Nat.le_refl _
  · split
    · rw [burn_w]; exact Nat.le_refl _
    · exact Nat.zero_le _
theorem cleanL_len (a n k : Nat) (d : Dk) : (cleanL a n k d).2.w.length ≤ d.w.length + n := by
  have h := clnGo_len a (List.range' k (n - k)) false d
  rw [List.length_range'] at h
  unfold cleanL clnEnd
  generalize clnGo a (List.range' k (n - k)) false d = r at h
  have := sync_len r.2.2
  split
  · show r.2.2.w.length ≤ _; omega
  · split
    · omega
    · show r.2.2.w.length ≤ _; omega
/-- what is left of 'begin' behind the texts. -/
def begEnd (a gen : Nat) (d : Dk) (L : Lg) : LgOut :=
  let s1 := d.sync
  if s1.1 ≠ 0 then ⟨s1.1, s1.2, L⟩ else
  let h := s1.2.write (a : Nat) (begunL gen)
  if h.1 ≠ 0 then ⟨h.1, h.2, L⟩ else
  let s2 := h.2.sync
  if s2.1 ≠ 0 then ⟨s2.1, s2.2, L⟩ else ⟨0, s2.2, L⟩
theorem beginL_no (a n gen : Nat) (ts : List (List UInt8)) (d : Dk) {o : LgOut} (hc : (cleanL a n 0 d).1 = 0) (h : putsGo ts (cleanL a n 0 d).2 ⟨a, n, gen, hmark gen, 1, []⟩ = o) (ho : o.e ≠ 0) : beginL a n gen ts d = o := by
  unfold beginL
  simp only [hc, h]
  rw [if_neg (by simp), if_pos ho]
theorem beginL_yes (a n gen : Nat) (ts : List (List UInt8)) (d d' : Dk) (L' : Lg) (hc : (cleanL a n 0 d).1 = 0) (h : putsGo ts (cleanL a n 0 d).2 ⟨a, n, gen, hmark gen, 1, []⟩ = ⟨0, d', L'⟩) : beginL a n gen ts d = begEnd a gen d' L' := by
  unfold beginL begEnd
  simp only [hc, h]
  rw [if_neg (by simp), if_neg (by simp)]
/-- the bounds that 'begin' keeps in its loop. -/
structure BegB (a n gen k : Nat) (cd : Dk) (L' : Lg) (d' : Dk) : Prop where
  a : L'.a = a
  n : L'.n = n
  gen : L'.gen = gen
  next : L'.next ≤ 1 + 32 * k
  l : L'.l.length ≤ k
  mark : L'.mark.length ≤ 16
  w : d'.w.length ≤ cd.w.length + 32 * k
theorem BegB.start (a n gen : Nat) (cd : Dk) (m : List UInt8) (hm : m.length ≤ 16) : BegB a n gen 0 cd ⟨a, n, gen, m, 1, []⟩ cd := ⟨rfl, rfl, rfl, Nat.le_refl _, Nat.le_refl _, hm, Nat.le_refl _⟩
theorem hmark_le (g : Nat) : (hmark g).length ≤ 16 := Nat.le_of_eq (hmark_length g)
theorem BegB.step {a n gen k : Nat} {cd d' : Dk} {L' : Lg} (h : BegB a n gen k cd L' d') (t : List UInt8) (ht : t.length ≤ 2000) : BegB a n gen (k + 1) cd (putL d' L' t).L (putL d' L' t).d := by
  have p := putL_b d' L' t
  have hs : sectorsN t ≤ 32 := by unfold sectorsN; omega
  have h1 := h.next; have h2 := h.l; have h3 := h.mark; have h4 := h.w
  have p1 := p.next; have p2 := p.l; have p3 := p.mark; have p4 := p.w
  exact ⟨p.a.trans h.a, p.n.trans h.n, p.gen.trans h.gen, by omega, by omega, by omega, by omega⟩
theorem lgC_new (g a n gen : Nat) (m : List UInt8) : lgC g (.slice none 0 0) ⟨a, n, gen, m, 1, []⟩ = #[.pointer (some ⟨g, 0, none⟩), .int .i64 (a : Nat), .int .i64 (n : Nat), .int .i64 (gen : Nat), .string ⟨m.toArray⟩, .int .i64 1, .slice none 0 0] := rfl
theorem build_log (g a n gen : Nat) (m : ByteArray) : Tryd.prog.built 72 [(0, .agg #[.pointer (some ⟨g, 0, none⟩), .int .i64 (a : Nat), .int .i64 (n : Nat)]), (1, .int .i64 (gen : Nat)), (2, .string m), (3, .int .i64 1)] = some #[.pointer (some ⟨g, 0, none⟩), .int .i64 (a : Nat), .int .i64 (n : Nat), .int .i64 (gen : Nat), .string m, .int .i64 1, .slice none 0 0] := by kernel_rfl
end Go.Proofs.YteajpebkanamgaaDoor
namespace Go.Proofs.YteajpebkanamgaaDoor
set_option linter.unusedSimpArgs false
set_option linter.unusedVariables false
/-- the bytes of these sectors of a half. -/
def readsGo (a : Nat) : List Nat → List UInt8 → Dk → Int × List UInt8
  | [], acc, _ => (0, acc)
  | k :: r, acc, d => if (d.read ((a + k : Nat) : Int)).2 ≠ 0 then ((d.read ((a + k : Nat) : Int)).2, acc) else readsGo a r (acc ++ (d.read ((a + k : Nat) : Int)).1) d
def lenL (s : List UInt8) : Nat := (bd s 0).toNat * 256 + (bd s 1).toNat
def textL (s : List UInt8) : List UInt8 := (s.drop 18).take (lenL s)
/-- does a record stand here, behind this mark? -/
def recOk (m s : List UInt8) : Bool := decide (18 < s.length) && decide (1 ≤ lenL s) && decide (lenL s ≤ 2000) && decide (lenL s ≤ s.length - 18) && (recL m (textL s)).isPrefixOf s
def recsGo : Nat → List UInt8 → Lg → Lg
  | 0, _, L => L
  | f + 1, s, L => if recOk L.mark s then recsGo f (s.drop (sectorsN (textL s) * 64)) (L.took (textL s) (ownL L.mark (textL s)) (sectorsN (textL s))) else L
/-- what 'load' makes of a log whose head is right. -/
def loadL (d : Dk) (L : Lg) : LgOut :=
  let r := readsGo L.a (List.range' 1 (L.n - 1)) [] d
  if r.1 ≠ 0 then ⟨r.1, d, L⟩ else
  let L' := recsGo r.2.length r.2 L
  let c := cleanL L.a L.n L'.next d
  ⟨c.1, c.2, L'⟩
/-! ### records, one behind the other -/
def recsB : List UInt8 → List (List UInt8) → List UInt8
  | _, [] => []
  | m, t :: r => recL m t ++ recsB (ownL m t) r
def endMark : List UInt8 → List (List UInt8) → List UInt8
  | m, [] => m
  | m, t :: r => endMark (ownL m t) r
def sumSec (ts : List (List UInt8)) : Nat := (ts.map sectorsN).sum
theorem sumSec_cons (t : List UInt8) (r : List (List UInt8)) : sumSec (t :: r) = sectorsN t + sumSec r := by simp [sumSec]
theorem sumSec_append (a b : List (List UInt8)) : sumSec (a ++ b) = sumSec a + sumSec b := by simp [sumSec]
theorem recsB_length (ts : List (List UInt8)) : ∀ m, (recsB m ts).length = 64 * sumSec ts := by
  induction ts with
  | nil => intro m; rfl
  | cons t r ih => intro m; rw [recsB, List.length_append, recL_length, ih, sumSec_cons]; omega
theorem recsB_snoc (t : List UInt8) (ts : List (List UInt8)) : ∀ m, recsB m (ts ++ [t]) = recsB m ts ++ recL (endMark m ts) t := by
  induction ts with
  | nil => intro m; simp [recsB, endMark]
  | cons u r ih => intro m; rw [List.cons_append, recsB, ih, recsB, endMark, List.append_assoc]
theorem endMark_snoc (t : List UInt8) (ts : List (List UInt8)) : ∀ m, endMark m (ts ++ [t]) = ownL (endMark m ts) t := by
  induction ts with
  | nil => intro m; rfl
  | cons u r ih => intro m; rw [List.cons_append, endMark, ih, endMark]
theorem endMark_length (ts : List (List UInt8)) : ∀ m, m.length = 16 → (endMark m ts).length = 16 := by
  induction ts with
  | nil => intro m h; exact h
  | cons t r ih => intro m _; rw [endMark]; exact ih _ (ownL_length m t)
theorem took_mark (L : Lg) (t o : List UInt8) (k : Nat) : (L.took t o k).mark = o := rfl
theorem took_end (L : Lg) (t o m : List UInt8) (r : List (List UInt8)) (k j : Nat) : ({ L.took t o k with l := (L.took t o k).l ++ r, mark := m, next := (L.took t o k).next + j } : Lg) = { L with l := L.l ++ t :: r, mark := m, next := L.next + (k + j) } := by simp [Lg.took, Nat.add_assoc]
/-! ### sectors -/
theorem chunkL_length (s : List UInt8) (k : Nat) (h : 64 * k + 64 ≤ s.length) : (chunkL s k).length = 64 := by unfold chunkL; rw [List.length_take, List.length_drop]; omega
theorem chunkL_append_left (s t : List UInt8) (k : Nat) (h : 64 * k + 64 ≤ s.length) : chunkL (s ++ t) k = chunkL s k := by
  unfold chunkL
  rw [List.drop_append_of_le_length (by omega), List.take_append_of_le_length (by rw [List.length_drop]; omega)]
theorem chunkL_append_right (s t : List UInt8) (n k : Nat) (h : s.length = 64 * n) : chunkL (s ++ t) (n + k) = chunkL t k := by
  unfold chunkL
  rw [List.drop_append, show s.drop (64 * (n + k)) = [] from List.drop_eq_nil_of_le (by omega), List.nil_append, h]
  congr 2; omega
theorem chunkL_zeros (z k : Nat) (h : 64 * k + 64 ≤ z) : chunkL (List.replicate z 0) k = zs64 := by
  unfold chunkL zs64
  rw [List.drop_replicate, List.take_replicate]
  congr 1; omega
/-- the sectors of a half are these bytes. -/
structure Half (d : Dk) (a n : Nat) (s : List UInt8) : Prop where
  len : s.length = 64 * n
  fit : a + n ≤ d.l.length
  at_ : ∀ k, k < n → d.l.getD (a + k) [] = chunkL s k
end Go.Proofs.YteajpebkanamgaaDoor
namespace Go.Proofs.YteajpebkanamgaaDoor
set_option linter.unusedSimpArgs false
set_option linter.unusedVariables false
attribute [local irreducible] sha
def Dk.Calm (d : Dk) : Prop := d.fuse = 0 ∧ d.down = false
/-- what would be there behind a crash that picks nothing. -/
def Dk.base (d : Dk) : List (List UInt8) := undo d.l d.w
section
variable {d d' d'' : Dk}
theorem Dk.Calm.burn (h : d.Calm) : d.burn = d := by unfold Dk.burn; rw [if_neg (by rw [h.1]; decide)]
theorem Dk.Calm.there (h : d.Calm) {i : Nat} (hi : i < d.l.length) : d.there (i : Int) = 0 := by
  unfold Dk.there
  rw [if_neg (by rw [h.2]; decide), if_neg (by omega)]
theorem calm_write (hc : d.Calm) (i : Nat) (hi : i < d.l.length) (s : List UInt8) (hs : s.length = 64) : d.write (i : Int) s = (0, d.put i s) := by
  unfold Dk.write
  rw [if_neg (by rw [hc.there hi]; decide), if_neg (by rw [hs]; decide), hc.burn, if_neg (by rw [hc.2]; decide)]
  simp
theorem calm_sync (hc : d.Calm) : d.sync = (0, { d with w := [] }) := by
  unfold Dk.sync
  rw [hc.burn, if_neg (by rw [hc.2]; decide), if_neg (by rw [hc.2]; decide)]
theorem calm_read (hc : d.Calm) (i : Nat) (hi : i < d.l.length) : d.read (i : Int) = (d.l.getD i [], 0) := by
  unfold Dk.read
  rw [if_neg (by rw [hc.there hi]; decide)]
  simp
theorem set_same (l : List (List UInt8)) (i : Nat) : l.set i (l.getD i []) = l := by
  by_cases h : i < l.length
  · rw [List.getD_eq_getElem?_getD, List.getElem?_eq_getElem h, Option.getD_some, List.set_getElem_self]
  · rw [List.set_eq_of_length_le (by omega)]
theorem base_put (d : Dk) (i : Nat) (s : List UInt8) : (d.put i s).base = d.base := by
  unfold Dk.base Dk.put undo
  simp only [List.foldr_append, List.foldr_cons, List.foldr_nil, List.set_set]
  rw [set_same]
theorem put_len (d : Dk) (i : Nat) (s : List UInt8) : (d.put i s).l.length = d.l.length := by simp [Dk.put]
theorem put_at (d : Dk) (i : Nat) (s : List UInt8) (hi : i < d.l.length) : (d.put i s).l.getD i [] = s := by
  simp only [Dk.put, List.getD_eq_getElem?_getD]
  rw [List.getElem?_set_self hi]; rfl
theorem put_far (d : Dk) (i j : Nat) (s : List UInt8) (hj : j ≠ i) : (d.put i s).l.getD j [] = d.l.getD j [] := by
  simp only [Dk.put, List.getD_eq_getElem?_getD]
  rw [List.getElem?_set_ne (fun e => hj e.symm)]
theorem put_calm (hc : d.Calm) (i : Nat) (s : List UInt8) : (d.put i s).Calm := hc
theorem put_w (d : Dk) (i : Nat) (s : List UInt8) : (d.put i s).w.length = d.w.length + 1 := by simp [Dk.put]
/-- what was done touched these sectors alone, and nothing that was safe. -/
structure Kept (P : Nat → Prop) (k : Nat) (d d' : Dk) : Prop where
  calm : d'.Calm
  len : d'.l.length = d.l.length
  far : ∀ i, ¬ P i → d'.l.getD i [] = d.l.getD i []
  base : d'.base = d.base
  w : d'.w.length ≤ d.w.length + k
theorem Kept.refl {P : Nat → Prop} (h : d.Calm) : Kept P 0 d d := ⟨h, rfl, fun _ _ => rfl, rfl, Nat.le_refl _⟩
theorem Kept.trans {P : Nat → Prop} {j k : Nat} (h : Kept P j d d') (h' : Kept P k d' d'') : Kept P (j + k) d d'' :=
  ⟨h'.calm, h'.len.trans h.len, fun i hi => (h'.far i hi).trans (h.far i hi), h'.base.trans h.base, by have := h.w; have := h'.w; omega⟩
theorem Kept.mono {P P' : Nat → Prop} {j k : Nat} (h : Kept P j d d') (hP : ∀ i, P i → P' i) (hk : j ≤ k) : Kept P' k d d' :=
  ⟨h.calm, h.len, fun i hi => h.far i (fun hp => hi (hP i hp)), h.base, by have := h.w; omega⟩
theorem Kept.put {P : Nat → Prop} (h : d.Calm) (i : Nat) (s : List UInt8) (hi : P i) : Kept P 1 d (d.put i s) :=
  ⟨h, put_len _ _ _, fun j hj => put_far _ _ _ _ (fun e => hj (e ▸ hi)), base_put _ _ _, by rw [put_w]; exact Nat.le_refl _⟩
theorem putGo_calm (a : Nat) (s : List UInt8) : ∀ (r k : Nat) (d : Dk), d.Calm → a + k + r ≤ d.l.length → 64 * (k + r) ≤ s.length →
    ∃ d', putGo a s r k d = (0, d') ∧ Kept (fun i => a + k ≤ i ∧ i < a + k + r) r d d' ∧ ∀ j, k ≤ j → j < k + r → d'.l.getD (a + j) [] = chunkL s j := by
  intro r
  induction r with
  | zero => intro k d hc _ _; exact ⟨d, rfl, (Kept.refl hc).mono (fun _ h => h) (Nat.le_refl _), fun j h1 h2 => absurd h2 (by omega)⟩
  | succ r ih =>
    intro k d hc hf hs
    have hw := calm_write hc (a + k) (by omega) (chunkL s k) (chunkL_length s k (by omega))
    obtain ⟨d', h1, h2, h3⟩ := ih (k + 1) (d.put (a + k) (chunkL s k)) hc (by rw [put_len]; omega) (by omega)
    refine ⟨d', ?_, ?_, ?_⟩
    · rw [putGo, hw, if_neg (by simp)]; exact h1
    · have := (Kept.put (P := fun i => a + k ≤ i ∧ i < a + k + (r + 1)) hc (a + k) (chunkL s k) ⟨Nat.le_refl _, by omega⟩).trans (h2.mono (P' := fun i => a + k ≤ i ∧ i < a + k + (r + 1)) (fun i hi => ⟨by omega, by omega⟩) (Nat.le_refl _))
      exact this.mono (fun _ h => h) (by omega)
    · intro j hj1 hj2
      by_cases hj : j = k
      · subst hj
        rw [h2.far _ (by omega), put_at _ _ _ (by omega)]
      · exact h3 j (by omega) (by omega)
/-- a log and its half, whose head is these bytes. -/
structure LgIs (hd : List UInt8) (d : Dk) (L : Lg) : Prop where
  calm : d.Calm
  half : Half d L.a L.n (hd ++ (recsB (hmark L.gen) L.l ++ List.replicate (64 * (L.n - L.next)) 0))
  mark : L.mark = endMark (hmark L.gen) L.l
  next : L.next = 1 + sumSec L.l
  fit : L.next ≤ L.n
  hd : hd.length = 64
theorem putL_is {hd : List UInt8} {L : Lg} (h : LgIs hd d L) (t : List UInt8) (ht : L.next + sectorsN t ≤ L.n) :
    ∃ d', putL d L t = ⟨0, d', L.took t (ownL L.mark t) (sectorsN t)⟩ ∧ LgIs hd d' (L.took t (ownL L.mark t) (sectorsN t)) ∧ Kept (fun i => L.a + L.next ≤ i ∧ i < L.a + L.next + sectorsN t) (sectorsN t) d d' := by
  have hl := recL_length L.mark t
  have hfit := h.half.fit
  obtain ⟨d', h1, h2, h3⟩ := putGo_calm (L.a + L.next) (recL L.mark t) (sectorsN t) 0 d h.calm (by omega) (by rw [hl]; omega)
  refine ⟨d', ?_, ⟨h2.calm, ⟨?_, ?_, ?_⟩, ?_, ?_, ht, h.hd⟩, h2.mono (fun i hi => by omega) (Nat.le_refl _)⟩
  · unfold putL
    rw [h1]
    simp
  · show (hd ++ (recsB (hmark L.gen) (L.l ++ [t]) ++ List.replicate (64 * (L.n - (L.next + sectorsN t))) 0)).length = 64 * L.n
    rw [List.length_append, List.length_append, recsB_length, List.length_replicate, sumSec_append, h.hd]
    have := h.next
    simp only [sumSec, List.map_cons, List.map_nil, List.sum_cons, List.sum_nil] at this ⊢
    omega
  · show L.a + L.n ≤ d'.l.length
    rw [h2.len]; exact hfit
  · intro k hk
    show d'.l.getD (L.a + k) [] = chunkL (hd ++ (recsB (hmark L.gen) (L.l ++ [t]) ++ List.replicate (64 * (L.n - (L.next + sectorsN t))) 0)) k
    have hk' : k < L.n := hk
    have hHR : (hd ++ recsB (hmark L.gen) L.l).length = 64 * L.next := by rw [List.length_append, h.hd, recsB_length, h.next]; omega
    have e1 : chunkL (hd ++ (recsB (hmark L.gen) L.l ++ List.replicate (64 * (L.n - L.next)) 0)) k = d.l.getD (L.a + k) [] := (h.half.at_ k hk').symm
    rw [recsB_snoc, ← h.mark]
    rw [show hd ++ (recsB (hmark L.gen) L.l ++ recL L.mark t ++ List.replicate (64 * (L.n - (L.next + sectorsN t))) 0) = (hd ++ recsB (hmark L.gen) L.l) ++ (recL L.mark t ++ List.replicate (64 * (L.n - (L.next + sectorsN t))) 0) by simp]
    rw [← List.append_assoc] at e1
    by_cases hk1 : k < L.next
    · rw [h2.far _ (by omega), ← e1, chunkL_append_left (hd ++ recsB (hmark L.gen) L.l) _ k (by omega), chunkL_append_left (hd ++ recsB (hmark L.gen) L.l) _ k (by omega)]
    · obtain ⟨j, rfl⟩ : ∃ j, k = L.next + j := ⟨k - L.next, by omega⟩
      rw [chunkL_append_right _ _ _ _ hHR]
      by_cases hk2 : j < sectorsN t
      · rw [chunkL_append_left _ _ _ (by rw [hl]; omega), ← Nat.add_assoc, h3 j (by omega) (by omega)]
      · obtain ⟨i, rfl⟩ : ∃ i, j = sectorsN t + i := ⟨j - sectorsN t, by omega⟩
        rw [chunkL_append_right _ _ _ _ (by rw [hl]; omega), chunkL_zeros _ _ (by omega)]
        rw [h2.far _ (by omega), ← e1, chunkL_append_right _ _ _ _ hHR, chunkL_zeros _ _ (by omega)]
  · show ownL L.mark t = endMark (hmark L.gen) (L.l ++ [t])
    rw [endMark_snoc, ← h.mark]
  · show L.next + sectorsN t = 1 + sumSec (L.l ++ [t])
    rw [sumSec_append, h.next]
    simp only [sumSec, List.map_cons, List.map_nil, List.sum_cons, List.sum_nil]
    omega
theorem putsGo_is {hd : List UInt8} (ts : List (List UInt8)) : ∀ (d : Dk) (L : Lg), LgIs hd d L → L.next + sumSec ts ≤ L.n →
    ∃ d', putsGo ts d L = ⟨0, d', { L with l := L.l ++ ts, mark := endMark L.mark ts, next := L.next + sumSec ts }⟩ ∧ LgIs hd d' { L with l := L.l ++ ts, mark := endMark L.mark ts, next := L.next + sumSec ts } ∧ Kept (fun i => L.a + L.next ≤ i ∧ i < L.a + L.n) (sumSec ts) d d' := by
  induction ts with
  | nil =>
    intro d L h _
    refine ⟨d, ?_, ?_, (Kept.refl h.calm).mono (fun _ hf => hf) (Nat.le_refl _)⟩
    · cases L; simp [putsGo, endMark, sumSec]
    · have : ({ L with l := L.l ++ [], mark := endMark L.mark [], next := L.next + sumSec [] } : Lg) = L := by cases L; simp [endMark, sumSec]
      rw [this]; exact h
  | cons t r ih =>
    intro d L h hf
    rw [sumSec_cons] at hf
    obtain ⟨d1, h1, h2, h3⟩ := putL_is h t (by omega)
    obtain ⟨d2, g1, g2, g3⟩ := ih d1 _ h2 (show L.next + sectorsN t + sumSec r ≤ L.n by omega)
    rw [took_mark, took_end] at g1 g2
    rw [sumSec_cons, endMark]
    refine ⟨d2, ?_, g2, ?_⟩
    · rw [putsGo, h1, if_neg (by simp)]; exact g1
    · have k1 := h3.mono (P' := fun i => L.a + L.next ≤ i ∧ i < L.a + L.n) (fun i hi => ⟨hi.1, by omega⟩) (Nat.le_refl _)
      have k2 := g3.mono (P' := fun i => L.a + L.next ≤ i ∧ i < L.a + L.n) (fun i hi => by
        have h1 : L.a + (L.next + sectorsN t) ≤ i := hi.1
        have h2 : i < L.a + L.n := hi.2
        exact ⟨by omega, h2⟩) (Nat.le_refl _)
      exact (k1.trans k2).mono (fun _ h => h) (Nat.le_refl _)
/-- a half is cleaned. -/
theorem clnGo_calm (a : Nat) : ∀ (m k : Nat) (b : Bool) (d : Dk), d.Calm → a + k + m ≤ d.l.length →
    ∃ b' d', clnGo a (List.range' k m) b d = (0, b', d') ∧ Kept (fun i => a + k ≤ i ∧ i < a + k + m) m d d' ∧ (∀ j, k ≤ j → j < k + m → d'.l.getD (a + j) [] = zs64) ∧ ((∀ j, k ≤ j → j < k + m → d.l.getD (a + j) [] = zs64) → b' = b ∧ d' = d) := by
  intro m
  induction m with
  | zero => intro k b d hc _; exact ⟨b, d, rfl, (Kept.refl hc).mono (fun _ h => h) (Nat.le_refl _), fun j h1 h2 => absurd h2 (by omega), fun _ => ⟨rfl, rfl⟩⟩
  | succ m ih =>
    intro k b d hc hf
    have hr := calm_read hc (a + k) (by omega)
    rw [List.range'_succ, clnGo, hr, if_neg (by simp)]
    by_cases hz : d.l.getD (a + k) [] = zs64
    · obtain ⟨b', d', h1, h2, h3, h4⟩ := ih (k + 1) b d hc (by omega)
      refine ⟨b', d', ?_, h2.mono (fun i hi => ⟨by omega, by omega⟩) (by omega), ?_, fun hA => h4 (fun j h1 h2 => hA j (by omega) (by omega))⟩
      · rw [if_pos hz]; exact h1
      · intro j hj1 hj2
        by_cases hj : j = k
        · subst hj; rw [h2.far _ (by omega)]; exact hz
        · exact h3 j (by omega) (by omega)
    · obtain ⟨b', d', h1, h2, h3, h4⟩ := ih (k + 1) true (d.put (a + k) zs64) hc (by rw [put_len]; omega)
      have hw := calm_write hc (a + k) (by omega) zs64 (by decide)
      refine ⟨b', d', ?_, ?_, ?_, fun hA => absurd (hA k (Nat.le_refl _) (by omega)) hz⟩
      · rw [if_neg hz, hw, if_neg (by simp)]; exact h1
      · have := (Kept.put (P := fun i => a + k ≤ i ∧ i < a + k + (m + 1)) hc (a + k) zs64 ⟨Nat.le_refl _, by omega⟩).trans (h2.mono (P' := fun i => a + k ≤ i ∧ i < a + k + (m + 1)) (fun i hi => ⟨by omega, by omega⟩) (Nat.le_refl _))
        exact this.mono (fun _ h => h) (by omega)
      · intro j hj1 hj2
        by_cases hj : j = k
        · subst hj; rw [h2.far _ (by omega), put_at _ _ _ (by omega)]
        · exact h3 j (by omega) (by omega)
theorem cleanL_calm (a n k : Nat) (d : Dk) (hc : d.Calm) (hk : k ≤ n) (hf : a + n ≤ d.l.length) :
    ∃ d', cleanL a n k d = (0, d') ∧ d'.Calm ∧ d'.l.length = d.l.length ∧ (∀ i, ¬ (a + k ≤ i ∧ i < a + n) → d'.l.getD i [] = d.l.getD i []) ∧ (∀ j, k ≤ j → j < n → d'.l.getD (a + j) [] = zs64) ∧ d'.w.length ≤ d.w.length + n ∧ ((∀ j, k ≤ j → j < n → d.l.getD (a + j) [] = zs64) → d' = d) := by
  obtain ⟨b', d', h1, h2, h3, h4⟩ := clnGo_calm a (n - k) k false d hc (by omega)
  unfold cleanL
  rw [h1]
  unfold clnEnd
  rw [if_neg (by simp)]
  have hfar : ∀ i, ¬ (a + k ≤ i ∧ i < a + n) → d'.l.getD i [] = d.l.getD i [] := fun i hi => h2.far i (by omega)
  cases b' with
  | false =>
    refine ⟨d', rfl, h2.calm, h2.len, hfar, fun j hj1 hj2 => h3 j hj1 (by omega), by have := h2.w; omega, fun hA => (h4 (fun j h1 h2 => hA j h1 (by omega))).2⟩
  | true =>
    refine ⟨{ d' with w := [] }, ?_, h2.calm, h2.len, hfar, fun j hj1 hj2 => h3 j hj1 (by omega), by simp, fun hA => ?_⟩
    · rw [if_pos rfl]; exact calm_sync h2.calm
    · have := (h4 (fun j h1 h2 => hA j h1 (by omega))).1
      cases this
end
end Go.Proofs.YteajpebkanamgaaDoor
namespace Go.Proofs.YteajpebkanamgaaDoor
open Go.Shelf Go.RowKit
set_option linter.unusedSimpArgs false
set_option linter.unusedVariables false
def lays169_ren : Go.Shelf.Ren := ⟨fun | 169 => 67 | n => n, fun | 70 => 106 | 9 => 9 | 0 => 0 | 72 => 108 | 37 => 84 | 127 => 129 | 3 => 3 | 5 => 5 | n => n, fun | n => n⟩
theorem lays169 : Go.Proofs.Lays.n169 Tryd.prog lays169_ren := {
  mixed := by kernel_rfl
  f169 := Tryd.func67.trans (congrArg some (by kernel_rfl))
  t0 := Tryd.underlying0
  a0 := Tryd.isAgg0
  z0 := Tryd.sizeOf0
  v0 := Tryd.zeroValue0
  t3 := Tryd.underlying3
  a3 := Tryd.isAgg3
  z3 := Tryd.sizeOf3
  v3 := Tryd.zeroValue3
  t9 := Tryd.underlying9
  a9 := Tryd.isAgg9
  z9 := Tryd.sizeOf9
  v9 := Tryd.zeroValue9
  t37 := Tryd.underlying84
  a37 := Tryd.isAgg84
  z37 := Tryd.sizeOf84
  v37 := Tryd.zeroValue84
  t70 := Tryd.underlying106
  a70 := Tryd.isAgg106
  z70 := Tryd.sizeOf106
  v70 := Tryd.zeroValue106
  t72 := Tryd.underlying108
  a72 := Tryd.isAgg108
  z72 := Tryd.sizeOf108
  v72 := Tryd.zeroValue108
  t127 := Tryd.underlying129
  a127 := Tryd.isAgg129
  z127 := Tryd.sizeOf129
  v127 := Tryd.zeroValue129 }
theorem Builder_Extra_169 : Builder.Extra Tryd.prog lays169_ren := {
  sizeBuilder := by kernel_rfl
  liesBuilder := by kernel_rfl
  t5 := Tryd.underlying5
  a5 := Tryd.isAgg5
  z5 := Tryd.sizeOf5
  v5 := Tryd.zeroValue5
  infoByte := by kernel_rfl
  cellsByte := by kernel_rfl
  sizeByte := by kernel_rfl
  neB5 := by decide }
theorem builder_string (B b : Nat) (l : List UInt8) (w : World) (h : Lib.IsBuilder 108 5 B b (Lib.byteCells l) w) (hBw : B ≤ w.heap.size) :
    Calls Tryd.prog 67 #[.pointer (some ⟨b, 0, none⟩)] w fun e w' => e = .returned (.string ⟨l.toArray⟩) ∧ Below B w w' := Any.Builder_String_any lays169 Builder_Extra_169 B b l w h hBw

set_option maxHeartbeats 1000000 in
set_option maxRecDepth 100000 in
theorem copyCheck_used (b : Nat) (w : World) (h0 : w.cell? ⟨b, 0, none⟩ = some (.pointer (some ⟨b, 0, none⟩))) :
    Calls Tryd.prog 89 #[.pointer (some ⟨b, 0, none⟩)] w fun e w' => e = .returned (.tuple #[]) ∧ w' = w := by
  obtain ⟨j, hj, _⟩ := Option.map_eq_some_iff.1 Builder_Extra_169.sizeBuilder
  go_enter Tryd.func89, Tryd.ntmps89
  go_wp2
  rw [Lib.run_neq_ptr_same w _ Tryd.underlying106 hj]
  go_wp2
  go_end0
  exact ⟨rfl, rfl⟩
set_option maxHeartbeats 1000000 in
set_option maxRecDepth 100000 in
theorem copyCheck_fresh (b : Nat) (w : World) (h0 : w.cell? ⟨b, 0, none⟩ = some (.pointer none)) (hsh : w.shape? b = some (108, 2)) (hfz : w.frozen? ⟨b, 0, none⟩ = false) :
    Calls Tryd.prog 89 #[.pointer (some ⟨b, 0, none⟩)] w fun e w' => e = .returned (.tuple #[]) ∧ w' = w.setCell ⟨b, 0, none⟩ (.pointer (some ⟨b, 0, none⟩)) := by
  obtain ⟨j, hj, hjs⟩ := Option.map_eq_some_iff.1 Builder_Extra_169.sizeBuilder
  go_enter Tryd.func89, Tryd.ntmps89
  go_wp2
  rw [Lib.run_to_unsafe w ⟨b, 0, none⟩ Tryd.underlying106 Tryd.underlying139 hj (by rw [hjs]; decide) hsh (Nat.zero_lt_succ 1)]
  simp only [Result.andThen]
  rw [Oper.upon_value]
  go_wp2
  rw [run_callFunc_extern Tryd.func102 (by kernel_rfl) (by kernel_rfl) (by kernel_rfl) (e := Extern.AbiNoEscape.same) (by kernel_rfl)]
  rw [Lib.run_noEscape]
  simp only [Result.andThen]
  rw [Oper.upon_value]
  go_wp2
  rw [Lib.run_from_unsafe w ⟨b, 0, none⟩ Tryd.underlying139 Tryd.underlying106 hj hsh Builder_Extra_169.liesBuilder]
  simp only [Result.andThen]
  rw [Oper.upon_value]
  go_wp2
  go_end0
  exact ⟨rfl, rfl⟩
theorem copyCheck_any (B b : Nat) (bs : List Value) (w : World) (h : Lib.IsBuilder 108 5 B b bs w) :
    Calls Tryd.prog 89 #[.pointer (some ⟨b, 0, none⟩)] w fun e w' => e = .returned (.tuple #[]) ∧ (Lib.BuilderAt 108 5 B b (.pointer (some ⟨b, 0, none⟩)) bs w' ∧ Below B w w') := by
  rcases h with h | h
  · refine (copyCheck_fresh b w h.cell0 h.shape h.frozen0).mono ?_
    rintro e w' ⟨rfl, rfl⟩
    exact ⟨rfl, h.used _, (Below.refl B w).setCell (p := ⟨b, 0, none⟩) h.1 _⟩
  · refine (copyCheck_used b w h.cell0).mono ?_
    rintro e w' ⟨rfl, rfl⟩
    exact ⟨rfl, h, Below.refl B _⟩
end Go.Proofs.YteajpebkanamgaaDoor
namespace Go.Proofs.YteajpebkanamgaaDoor
open Go.Shelf Go.RowKit
set_option linter.unusedSimpArgs false
set_option linter.unusedVariables false
theorem builder_below {B b : Nat} {bs : List Value} {w w' : World} (h : Lib.IsBuilder 108 5 B b bs w) (hb : Below w.heap.size w w') : Lib.IsBuilder 108 5 B b bs w' := by
  rcases h with h | h
  · obtain ⟨hB, v, hbk, hown, hne⟩ := h
    exact .inl ⟨hB, v, (hb.block b (Lib.BuilderAt.lt ⟨hB, v, hbk, hown, hne⟩)).trans hbk, Own.below hown hb, hne⟩
  · obtain ⟨hB, v, hbk, hown, hne⟩ := h
    exact .inr ⟨hB, v, (hb.block b (Lib.BuilderAt.lt ⟨hB, v, hbk, hown, hne⟩)).trans hbk, Own.below hown hb, hne⟩
set_option maxHeartbeats 2000000 in
set_option maxRecDepth 100000 in
theorem writeString_any (B b : Nat) (bs : List Value) (l : List UInt8) (w : World) (h : Lib.IsBuilder 108 5 B b bs w) (hlen : bs.length + l.length ≤ 140737488355328) (hBw : B ≤ w.heap.size) :
    Calls Tryd.prog 66 #[.pointer (some ⟨b, 0, none⟩), .string ⟨l.toArray⟩] w fun e w' => e = .returned (.tuple #[.int .i64 l.length, .nilIface]) ∧ (Lib.IsBuilder 108 5 B b (bs ++ Lib.byteCells l) w' ∧ Below B w w') := by
  have hsz : (⟨l.toArray⟩ : ByteArray).size = l.length := by simp [ByteArray.size]
  have H := Lib.hid h
  clear h
  go_enter Tryd.func66, Tryd.ntmps66
  go_wp2_with fail
  refine (copyCheck_any B b bs _ H.out).mono ?_
  rintro e w1 ⟨rfl, h1, hb1⟩
  obtain ⟨hB, v, hbk, hown, hne⟩ := h1
  have c0 : w1.cell? ⟨b, 0, none⟩ = some (.pointer (some ⟨b, 0, none⟩)) := by rw [Lib.cell_of_heap hbk]; rfl
  have c1 : w1.cell? ⟨b, 1, none⟩ = some v := by rw [Lib.cell_of_heap hbk]; rfl
  have hes : Elem Tryd.prog 84 5 (.int .u8 0) 1 := ⟨Tryd.underlying84, by kernel_rfl, rfl⟩
  obtain ⟨A, c', w2, hrun, hown', hgrow⟩ := own_append_str (ty := 84) hes Tryd.underlying9 (show Own 5 w1 B v bs from hown) l hlen (Nat.le_trans hBw hb1.size)
  have hlt : b < w1.heap.size := by
    rcases Nat.lt_or_ge b w1.heap.size with h' | h'
    · exact h'
    · simp [Array.getElem?_eq_none h'] at hbk
  have hb2 : w2.heap[b]? = some (.cells #[.pointer (some ⟨b, 0, none⟩), v] 108 (0, 0)) := by
    rw [hgrow.block b hlt (fun e => hne e.symm)]
    exact hbk
  have d0 : w2.cell? ⟨b, 0, none⟩ = some (.pointer (some ⟨b, 0, none⟩)) := by rw [Lib.cell_of_heap hb2]; rfl
  have d1 : w2.cell? ⟨b, 1, none⟩ = some v := by rw [Lib.cell_of_heap hb2]; rfl
  have f1 : w2.frozen? ⟨b, 1, none⟩ = false := Lib.frozen_of_heap hb2 1
  have HR := Lib.hid hrun
  clear hrun
  go_wp2_with (at_builtin; refine wpList_append_run rfl _ _ _ _ rfl rfl rfl HR.out ?_)
  go_ret2
  refine ⟨rfl, ?_, ?_⟩
  · refine .inr (Lib.BuilderAt.put (T := 108) (e := 5) hB hb2 (bs' := bs ++ Lib.byteCells l) ?_ Builder_Extra_169.neB5)
    have h2 := hown'
    unfold Own at h2
    exact h2
  · exact (hb1.grown hgrow (by have := hb1.size; omega) (fun k hk => (hown.lt k hk).1)).setCell (p := ⟨b, 1, none⟩) hB _
end Go.Proofs.YteajpebkanamgaaDoor

/- Words of this session for memory and for machine words: a block known whole, only one block has turned, 32-bit words as BitVec 32, bytes as UInt8. -/
import Derived.WalkKit
import Derived.Below
import Derived.Deep.Draws
import Derived.Deep.QuietTactic
import Derived.BigQuiet
import Derived.StillTailTactics
import Derived.IntWalk
import Derived.Laws.BitsAllLaws
import Derived.Laws.Rows
import Derived.Laws.CopyRow
import Derived.Laws.BytesArg
import Derived.Lib.Hide
namespace Go.Proofs.YtlogcgeinbefjaaDoor
open Go.RowKit

/-! ### blocks -/
def Blk (w : World) (g : Nat) (t : TypeId) (cs : Array Value) : Prop := w.heap[g]? = some (.cells cs t (0, 0))

section
variable {w w' : World} {g : Nat} {t : TypeId} {cs : Array Value}
theorem Blk.lt (h : Blk w g t cs) : g < w.heap.size := by
  rcases Nat.lt_or_ge g w.heap.size with hlt | hge
  · exact hlt
  · unfold Blk at h; rw [Array.getElem?_eq_none hge] at h; cases h
theorem Blk.cell (h : Blk w g t cs) (i : Nat) : w.cell? ⟨g, i, none⟩ = cs[i]? := cell_of_row w g i cs t (0, 0) h
theorem Blk.frozen (h : Blk w g t cs) (i : Nat) : w.frozen? ⟨g, i, none⟩ = false := by
  unfold Blk at h
  simp [World.frozen?, h]
theorem Blk.new (w : World) (t : TypeId) (cs : Array Value) : Blk (w.alloc (.cells cs t)) w.heap.size t cs := heap_alloc_new w _
theorem Blk.drew (h : Blk w g t cs) : Blk w.drew g t cs := h
theorem Blk.drewN (h : Blk w g t cs) (n : Nat) : Blk (w.drewN n) g t cs := h
theorem Blk.alloc (h : Blk w g t cs) (o : Obj) : Blk (w.alloc o) g t cs := (Below.heap_alloc w o g h.lt).trans h
theorem Blk.set_ (h : Blk w g t cs) (i : Nat) (u : Value) : Blk (w.setCell ⟨g, i, none⟩ u) g t (cs.setIfInBounds i u) := by
  unfold Blk at h ⊢
  simp [World.setCell, Array.getElem?_modify, h]
theorem Blk.far (h : Blk w g t cs) {p : Addr} (hp : g ≠ p.block) (u : Value) : Blk (w.setCell p u) g t cs := (Below.heap_setCell w p u g hp).trans h
theorem Blk.below {B : Nat} (h : Blk w g t cs) (hb : Below B w w') (hg : g < B) : Blk w' g t cs := (hb.block g hg).trans h
theorem Blk.grown {row : Option Nat} (h : Blk w g t cs) (hb : w.grownBy w' row) (hg : some g ≠ row) : Blk w' g t cs := (hb.block g h.lt hg).trans h
end

theorem below_drewN {B : Nat} {a w : World} (h : Below B a w) (n : Nat) : Below B a (w.drewN n) := ⟨h.os, h.tape, h.output, h.size, h.block⟩
theorem only_refl (w : World) (row : Option Nat) : w.grownBy w row := ⟨rfl, rfl, rfl, Nat.le_refl _, fun _ _ _ => rfl⟩
theorem only_trans {a b c : World} {row : Option Nat} (h : a.grownBy b row) (k : b.grownBy c row) : a.grownBy c row :=
  ⟨k.os.trans h.os, k.tape.trans h.tape, k.output.trans h.output, Nat.le_trans h.size k.size, fun i hi hn => (k.block i (Nat.lt_of_lt_of_le hi h.size) hn).trans (h.block i hi hn)⟩
theorem only_drewN {a w : World} {row : Option Nat} (h : a.grownBy w row) (n : Nat) : a.grownBy (w.drewN n) row := ⟨h.os, h.tape, h.output, h.size, h.block⟩
theorem only_drew {a w : World} {row : Option Nat} (h : a.grownBy w row) : a.grownBy w.drew row := ⟨h.os, h.tape, h.output, h.size, h.block⟩
theorem only_alloc {a w : World} {row : Option Nat} (h : a.grownBy w row) (o : Obj) : a.grownBy (w.alloc o) row :=
  ⟨h.os, h.tape, h.output, Nat.le_trans h.size (by simp), fun i hi hne => (Below.heap_alloc w o i (Nat.lt_of_lt_of_le hi h.size)).trans (h.block i hi hne)⟩
theorem only_set {a w : World} {g : Nat} (h : a.grownBy w (some g)) {p : Addr} (hp : p.block = g ∨ a.heap.size ≤ p.block) (u : Value) : a.grownBy (w.setCell p u) (some g) :=
  ⟨h.os, h.tape, h.output, by simpa [World.setCell] using h.size, fun i hi hne => (Below.heap_setCell w p u i (by
    rintro rfl
    rcases hp with hp | hp
    · exact hne (by rw [hp])
    · omega)).trans (h.block i hi hne)⟩
/-- a block that is new since a: what turns in it does not count. -/
theorem only_new {a w w' : World} {row : Option Nat} {g : Nat} (h : a.grownBy w row) (k : w.grownBy w' (some g)) (hg : a.heap.size ≤ g) : a.grownBy w' row :=
  ⟨k.os.trans h.os, k.tape.trans h.tape, k.output.trans h.output, Nat.le_trans h.size k.size, fun i hi hn => (k.block i (Nat.lt_of_lt_of_le hi h.size) (by
    intro e
    injection e with e
    omega)).trans (h.block i hi hn)⟩
theorem only_of_below {a w w' : World} {row : Option Nat} (h : a.grownBy w row) (k : Below w.heap.size w w') : a.grownBy w' row :=
  ⟨k.os.trans h.os, k.tape.trans h.tape, k.output.trans h.output, Nat.le_trans h.size k.size, fun i hi hn => (k.block i (Nat.lt_of_lt_of_le hi h.size)).trans (h.block i hi hn)⟩
theorem below_of_only {B : Nat} {a w w' : World} {g : Nat} (h : Below B a w) (k : w.grownBy w' (some g)) (hg : B ≤ g) (hB : B ≤ w.heap.size) : Below B a w' :=
  ⟨k.os.trans h.os, k.tape.trans h.tape, k.output.trans h.output, Nat.le_trans h.size k.size, fun i hi => (k.block i (Nat.lt_of_lt_of_le hi hB) (by
    intro e
    injection e with e
    omega)).trans (h.block i hi)⟩

theorem Blk.setRow {w : World} {g : Nat} {t : TypeId} {cs : Array Value} (h : Blk w g t cs) (cs' : Array Value) : Blk (w.setRow g cs') g t cs' := setRow_heap w g cs cs' t (0, 0) h
theorem heap_setRow_other (w : World) (g : Nat) (cs : Array Value) (k : Nat) (h : k ≠ g) : (w.setRow g cs).heap[k]? = w.heap[k]? := by
  unfold World.setRow
  simp [Array.getElem?_modify, Ne.symm h]
theorem only_setRow {a w : World} {g : Nat} (h : a.grownBy w (some g)) (cs : Array Value) : a.grownBy (w.setRow g cs) (some g) :=
  ⟨h.os, h.tape, h.output, by simpa using h.size, fun i hi hne => (heap_setRow_other w g cs i (fun e => hne (by rw [e]))).trans (h.block i hi hne)⟩

/-- a region that draws, reads, and ends in one forced tail: in the spelling 'w.drew'. -/
theorem still_tail {P : Program} {id : Nat} {Q : Exit → Act → World → Prop} {a : Act} {w : World} {l : List Oper} (n : Nat) (hm : P.follows .mixedOrders = true) (hB : Region.lexTailB .any l.toArray n = true)
    (h : wpStill P l.toArray w.drew (fun a' => wpList P l.toArray Q (l.drop n) a' w.drew) (l.take n) a) : (Code.region id l.toArray true).wp P Q a w := wp_region_still_tail n hm hB h

theorem quiet_add_same {P : Program} {f : FuncId} {args : Array Value} {w : World} {a n : Nat} {v : Value}
    (h : Calls P f args (w.drewN (a + n)) fun e w' => e = .returned v ∧ w' = w.drewN (a + n)) :
    Calls P f args (w.drewN (a + n)) fun e w'' => e = .returned v ∧ ∃ m, w'' = w.drewN (a + m) :=
  h.mono fun _ _ ⟨he, hm⟩ => ⟨he, n, hm⟩

/-! ### words -/
theorem wrap_u64e (n : Int) : IntKind.u64.wrap n = n % 18446744073709551616 := by simp [IntKind.wrap, IntKind.bits, IntKind.signed]
theorem v32_lt (x : BitVec 32) : x.toNat < 4294967296 := x.isLt
/-- a word as the machine's number; its own name, so that no rule of the walk's turns it. -/
def n32 (x : BitVec 32) : Int := x.toNat
theorem n32_bd (x : BitVec 32) : 0 ≤ n32 x ∧ n32 x < 4294967296 := ⟨by unfold n32; omega, by unfold n32; have := x.isLt; omega⟩
theorem v32_add (x y : BitVec 32) : (n32 x + n32 y) % 4294967296 = n32 (x + y) := by
  unfold n32; rw [BitVec.toNat_add]; omega
theorem v32_xor (x y : BitVec 32) : bits .xor .u32 (n32 x) (n32 y) = n32 (x ^^^ y) := by
  unfold n32; rw [u32_xor_nat _ _ x.isLt y.isLt, BitVec.toNat_xor]
theorem v32_or (x y : BitVec 32) : bits .or .u32 (n32 x) (n32 y) = n32 (x ||| y) := by
  unfold n32; rw [u32_or_nat _ _ x.isLt y.isLt, BitVec.toNat_or]
theorem v32_and (x y : BitVec 32) : bits .and .u32 (n32 x) (n32 y) = n32 (x &&& y) := by
  unfold n32; rw [u32_and_nat _ _ x.isLt y.isLt, BitVec.toNat_and]
theorem v32_shr_nat (x : BitVec 32) (n : Nat) : n32 x / (2 ^ n : Nat) = n32 (x >>> n) := by
  unfold n32; rw [BitVec.toNat_ushiftRight, Nat.shiftRight_eq_div_pow]; omega
theorem v32_shl_nat (x : BitVec 32) (n : Nat) : (n32 x * (2 ^ n : Nat)) % 4294967296 = n32 (x <<< n) := by
  unfold n32
  rw [BitVec.toNat_shiftLeft, Nat.shiftLeft_eq, ← Int.natCast_mul]
  generalize x.toNat * 2 ^ n = m
  omega
theorem v32_shr3 (x : BitVec 32) : n32 x / (8 : Int) = n32 (x >>> 3) := v32_shr_nat x 3
theorem v32_shr10 (x : BitVec 32) : n32 x / (1024 : Int) = n32 (x >>> 10) := v32_shr_nat x 10
theorem v32_shr8 (x : BitVec 32) : n32 x / (256 : Int) = n32 (x >>> 8) := v32_shr_nat x 8
theorem v32_shr16 (x : BitVec 32) : n32 x / (65536 : Int) = n32 (x >>> 16) := v32_shr_nat x 16
theorem v32_shr24 (x : BitVec 32) : n32 x / (16777216 : Int) = n32 (x >>> 24) := v32_shr_nat x 24
theorem v32_shl8 (x : BitVec 32) : n32 x * (256 : Int) % (4294967296 : Int) = n32 (x <<< 8) := v32_shl_nat x 8
theorem v32_shl16 (x : BitVec 32) : n32 x * (65536 : Int) % (4294967296 : Int) = n32 (x <<< 16) := v32_shl_nat x 16
theorem v32_shl24 (x : BitVec 32) : n32 x * (16777216 : Int) % (4294967296 : Int) = n32 (x <<< 24) := v32_shl_nat x 24
def bd (l : List UInt8) (i : Nat) : UInt8 := l.getD i 0
/-- a byte as the machine's number. -/
def n8 (b : UInt8) : Int := b.toNat
theorem n8_bd (x : UInt8) : 0 ≤ n8 x ∧ n8 x < 256 := ⟨by unfold n8; omega, by unfold n8; have := x.toNat_lt; omega⟩
/-- a byte as a word. -/
def u8w (b : UInt8) : BitVec 32 := BitVec.ofNat 32 b.toNat
theorem u8w_n32 (b : UInt8) : n32 (u8w b) = n8 b := by
  unfold n32 n8 u8w; rw [BitVec.toNat_ofNat, Nat.mod_eq_of_lt (by have := b.toNat_lt; omega)]
theorem n8_w32 (b : UInt8) : n8 b = n32 (u8w b) := (u8w_n32 b).symm
theorem n8_m32 (b : UInt8) : n8 b % (4294967296 : Int) = n32 (u8w b) := by rw [u8w_n32]; have := n8_bd b; omega
/-- the lowest byte of a word. -/
def w8 (x : BitVec 32) : UInt8 := UInt8.ofNat x.toNat
theorem w8_n8 (x : BitVec 32) : n32 x % 256 = n8 (w8 x) := by
  unfold n32 n8 w8; simp
/-- a shift by a count within the width, as the walk has it. -/
theorem v32_shl_var (x : BitVec 32) (c : Int) (k : Nat) (hc : c = k) (hk : k ≤ 32) : IntKind.u32.wrap (n32 x * 2 ^ min c.toNat 32) = n32 (x <<< k) := by
  subst hc
  rw [IntKind.wrap_u32', Int.toNat_natCast, Nat.min_eq_left hk, ← v32_shl_nat, Int.natCast_pow]
  rfl
theorem v32_shr_var (x : BitVec 32) (c : Int) (k : Nat) (hc : c = k) (hk : k ≤ 32) : n32 x / 2 ^ min c.toNat 32 = n32 (x >>> k) := by
  subst hc
  rw [Int.toNat_natCast, Nat.min_eq_left hk, ← v32_shr_nat, Int.natCast_pow]
  rfl
/-- bytes as cells. -/
def cb (l : List UInt8) : List Value := l.map fun x => .int .u8 (n8 x)
/-- 'copy(dst, s)', dst lying in a block that is known whole. -/
theorem run_copy_str {P : Program} (w : World) (dT sT ty elem : TypeId) (g o dLen dCap : Nat) (l : List UInt8) (cur : Array Value) (t : TypeId) (m : Nat)
    (hu : P.underlying dT = some (.slice elem)) (hs : (P.info? elem).map (·.size) = some 1) (hg : Blk w g t cur) (hm : m = Nat.min l.length dLen) (hfit : o + m ≤ cur.size) :
    (Builtin.copy_ #[dT, sT] ty #[.slice (some ⟨g, o, none⟩) dLen dCap, .string ⟨l.toArray⟩]).run P w =
      .ok (goInt m) (w.setRow g (cur.toList.take o ++ cb (l.take m) ++ cur.toList.drop (o + m)).toArray) := by
  have hlen : (cb (l.take m)).length = m := by rw [hm]; simp [cb, Nat.min_def]; split <;> omega
  have hst := run_storeCells_at (P := P) g o t (cb (l.take m)) 0 cur w hg (by rw [hlen]; simpa using hfit) (by
    intro v hv
    obtain ⟨b, _, rfl⟩ := List.mem_map.1 hv
    rfl)
  rw [hlen] at hst
  simp only [Nat.add_zero] at hst
  have htk : List.take m (List.map (fun b : UInt8 => Value.int IntKind.u8 (b.toNat : Int)) l) = cb (l.take m) := by
    rw [← List.map_take]; rfl
  cases hq : P.info? elem with
  | none => simp [hq] at hs
  | some i =>
    have hsz : (⟨l.toArray⟩ : ByteArray).size = l.length := by simp [ByteArray.size]
    simp [Builtin.copy_, run_underlying hu, Builtin.lenOf, Builtin.firstCells, sizeOf, typeInfo, hq, hsz, ← hm]
    rw [htk, hst]
    simp [Result.andThen]
theorem strOfNums_n8 (l : List UInt8) : strOfNums (l.map n8) = ⟨l.toArray⟩ := by
  unfold strOfNums
  rw [List.map_map]
  congr 2
  rw [show ((fun n : Int => UInt8.ofNat n.toNat) ∘ n8) = id from by
    funext b
    simp [n8]]
  simp
/-- 'string(b)', b a slice over bytes that are known. -/
theorem run_bytes_cells {P : Program} (w : World) (src dst e : TypeId) (hs : P.underlying src = some (.slice e)) (he : P.underlying e = some (.int .u8)) (hd : P.underlying dst = some .string)
    (g off cap : Nat) (l : List UInt8) (n : Nat) (hn : l.length = n) (hc : ∀ i, i < n → w.cell? ⟨g, off + i, none⟩ = some (.int .u8 (n8 (bd l i)))) :
    (convert src dst (.slice (some ⟨g, off, none⟩) n cap)).run P w = .ok (.string ⟨l.toArray⟩) w := by
  have := run_convert_bytes_arg (P := P) (w := w) src e hs he g off n cap (l.map n8) (by simpa using hn) (by
    intro i hi
    rw [hc i hi]
    simp [bd, List.getElem?_eq_getElem (show i < l.length by omega)]) dst hd
  rw [this, strOfNums_n8]
theorem cb_get (l : List UInt8) (i : Nat) (h : i < l.length) : (cb l).toArray[i]? = some (.int .u8 (n8 (bd l i))) := by
  simp [cb, bd, List.getElem?_eq_getElem h]
theorem cb_set (l : List UInt8) (i : Nat) (x : UInt8) : (cb l).toArray.setIfInBounds i (.int .u8 (n8 x)) = (cb (l.set i x)).toArray := by
  simp [cb, List.map_set]
theorem n8_shr (n k : Nat) : ((n : Int) / 2 ^ k) % 256 = n8 (UInt8.ofNat (n / 2 ^ k)) := by
  unfold n8
  rw [UInt8.toNat_ofNat']
  have : ((2 : Int) ^ k) = ((2 ^ k : Nat) : Int) := by rw [Int.natCast_pow]; rfl
  rw [this]
  omega
/-- a number's byte behind a shift, as the walk has it. -/
theorem n8_shift (n : Nat) (c : Int) (k : Nat) (hc : c = k) (hk : k ≤ 64) : ((n : Int) / 2 ^ min c.toNat 64) % 256 = n8 (UInt8.ofNat (n / 2 ^ k)) := by
  subst hc
  rw [Int.toNat_natCast, Nat.min_eq_left hk]
  unfold n8
  rw [UInt8.toNat_ofNat']
  have : ((2 : Int) ^ k) = ((2 ^ k : Nat) : Int) := by rw [Int.natCast_pow]; rfl
  rw [this]
  omega
theorem bytes_eq (s : ByteArray) : s = ⟨s.data.toList.toArray⟩ := by cases s; simp
theorem extract_eq (l : List UInt8) (m : Nat) : (⟨l.toArray⟩ : ByteArray).extract m l.length = ⟨(l.drop m).toArray⟩ := by
  apply ByteArray.ext
  rw [ByteArray.data_extract]
  simp [List.take_of_length_le]
end Go.Proofs.YtlogcgeinbefjaaDoor

/- Words of this session for memory and for machine words: a block known whole, only one block has turned, 32-bit words as BitVec 32, bytes as UInt8. Words of this session for a slice that the call itself made: append, make, store, read, 'string(b)', each as the equation of its run. An append to a slice that the call made, whatever the region: what stood in it stands as it did; as one step of a region that draws. An append of any slice's elements (wherever they lie) to a slice that the call made; of none; a made slice without elements. Windows: rows of the call's own that begin anywhere in their block (a queue that forgets its oldest). parts.read: a part, read. -/
import Derived.WalkKit
import Derived.Below
import Derived.Deep.Draws
import Derived.Deep.QuietTactic
import Derived.BigQuiet
import Derived.StillTailTactics
import Derived.IntWalk
import Derived.Laws.BitsAllLaws
import Derived.Laws.Rows
import Derived.Laws.CopyRow
import Derived.Laws.BytesArg
import Derived.Lib.Hide
import Derived.Lib.AppendStr
import Derived.Laws.OwnMore
import Derived.OwnWalk
import Derived.Deep.AppendSrc
import Derived.Test.YtlogcgeinbefjaaDoorProg
import Derived.Test.YtlogcgeinbefjaaDoorWMore
import Derived.Test.YtlogcgeinbefjaaDoorWLast
import Derived.Test.YtlogcgeinbefjaaDoorWTab
namespace Go.Proofs.YtlogcgeinbefjaaDoor
open Go.RowKit

/-! ### blocks -/
def Blk (w : World) (g : Nat) (t : TypeId) (cs : Array Value) : Prop := w.heap[g]? = some (.cells cs t (0, 0))

section
variable {w w' : World} {g : Nat} {t : TypeId} {cs : Array Value}
theorem Blk.lt (h : Blk w g t cs) : g < w.heap.size := by
  rcases Nat.lt_or_ge g w.heap.size with hlt | hge
  · exact hlt
  · unfold Blk at h; rw [Array.getElem?_eq_none hge] at h; cases h
theorem Blk.cell (h : Blk w g t cs) (i : Nat) : w.cell? ⟨g, i, none⟩ = cs[i]? := cell_of_row w g i cs t (0, 0) h
theorem Blk.frozen (h : Blk w g t cs) (i : Nat) : w.frozen? ⟨g, i, none⟩ = false := by
  unfold Blk at h
  simp [World.frozen?, h]
theorem Blk.new (w : World) (t : TypeId) (cs : Array Value) : Blk (w.alloc (.cells cs t)) w.heap.size t cs := heap_alloc_new w _
theorem Blk.drew (h : Blk w g t cs) : Blk w.drew g t cs := h
theorem Blk.drewN (h : Blk w g t cs) (n : Nat) : Blk (w.drewN n) g t cs := h
theorem Blk.alloc (h : Blk w g t cs) (o : Obj) : Blk (w.alloc o) g t cs := (Below.heap_alloc w o g h.lt).trans h
theorem Blk.set_ (h : Blk w g t cs) (i : Nat) (u : Value) : Blk (w.setCell ⟨g, i, none⟩ u) g t (cs.setIfInBounds i u) := by
  unfold Blk at h ⊢
  simp [World.setCell, Array.getElem?_modify, h]
theorem Blk.far (h : Blk w g t cs) {p : Addr} (hp : g ≠ p.block) (u : Value) : Blk (w.setCell p u) g t cs := (Below.heap_setCell w p u g hp).trans h
theorem Blk.below {B : Nat} (h : Blk w g t cs) (hb : Below B w w') (hg : g < B) : Blk w' g t cs := (hb.block g hg).trans h
theorem Blk.grown {row : Option Nat} (h : Blk w g t cs) (hb : w.grownBy w' row) (hg : some g ≠ row) : Blk w' g t cs := (hb.block g h.lt hg).trans h
end

theorem below_drewN {B : Nat} {a w : World} (h : Below B a w) (n : Nat) : Below B a (w.drewN n) := ⟨h.os, h.tape, h.output, h.size, h.block⟩
theorem only_refl (w : World) (row : Option Nat) : w.grownBy w row := ⟨rfl, rfl, rfl, Nat.le_refl _, fun _ _ _ => rfl⟩
theorem only_trans {a b c : World} {row : Option Nat} (h : a.grownBy b row) (k : b.grownBy c row) : a.grownBy c row :=
  ⟨k.os.trans h.os, k.tape.trans h.tape, k.output.trans h.output, Nat.le_trans h.size k.size, fun i hi hn => (k.block i (Nat.lt_of_lt_of_le hi h.size) hn).trans (h.block i hi hn)⟩
theorem only_drewN {a w : World} {row : Option Nat} (h : a.grownBy w row) (n : Nat) : a.grownBy (w.drewN n) row := ⟨h.os, h.tape, h.output, h.size, h.block⟩
theorem only_drew {a w : World} {row : Option Nat} (h : a.grownBy w row) : a.grownBy w.drew row := ⟨h.os, h.tape, h.output, h.size, h.block⟩
theorem only_alloc {a w : World} {row : Option Nat} (h : a.grownBy w row) (o : Obj) : a.grownBy (w.alloc o) row :=
  ⟨h.os, h.tape, h.output, Nat.le_trans h.size (by simp), fun i hi hne => (Below.heap_alloc w o i (Nat.lt_of_lt_of_le hi h.size)).trans (h.block i hi hne)⟩
theorem only_set {a w : World} {g : Nat} (h : a.grownBy w (some g)) {p : Addr} (hp : p.block = g ∨ a.heap.size ≤ p.block) (u : Value) : a.grownBy (w.setCell p u) (some g) :=
  ⟨h.os, h.tape, h.output, by simpa [World.setCell] using h.size, fun i hi hne => (Below.heap_setCell w p u i (by
    rintro rfl
    rcases hp with hp | hp
    · exact hne (by rw [hp])
    · omega)).trans (h.block i hi hne)⟩
/-- a block that is new since a: what turns in it does not count. -/
theorem only_new {a w w' : World} {row : Option Nat} {g : Nat} (h : a.grownBy w row) (k : w.grownBy w' (some g)) (hg : a.heap.size ≤ g) : a.grownBy w' row :=
  ⟨k.os.trans h.os, k.tape.trans h.tape, k.output.trans h.output, Nat.le_trans h.size k.size, fun i hi hn => (k.block i (Nat.lt_of_lt_of_le hi h.size) (by
    intro e
    injection e with e
    omega)).trans (h.block i hi hn)⟩
theorem only_of_below {a w w' : World} {row : Option Nat} (h : a.grownBy w row) (k : Below w.heap.size w w') : a.grownBy w' row :=
  ⟨k.os.trans h.os, k.tape.trans h.tape, k.output.trans h.output, Nat.le_trans h.size k.size, fun i hi hn => (k.block i (Nat.lt_of_lt_of_le hi h.size)).trans (h.block i hi hn)⟩
theorem below_of_only {B : Nat} {a w w' : World} {g : Nat} (h : Below B a w) (k : w.grownBy w' (some g)) (hg : B ≤ g) (hB : B ≤ w.heap.size) : Below B a w' :=
  ⟨k.os.trans h.os, k.tape.trans h.tape, k.output.trans h.output, Nat.le_trans h.size k.size, fun i hi => (k.block i (Nat.lt_of_lt_of_le hi hB) (by
    intro e
    injection e with e
    omega)).trans (h.block i hi)⟩

theorem Blk.setRow {w : World} {g : Nat} {t : TypeId} {cs : Array Value} (h : Blk w g t cs) (cs' : Array Value) : Blk (w.setRow g cs') g t cs' := setRow_heap w g cs cs' t (0, 0) h
theorem heap_setRow_other (w : World) (g : Nat) (cs : Array Value) (k : Nat) (h : k ≠ g) : (w.setRow g cs).heap[k]? = w.heap[k]? := by
  unfold World.setRow
  simp [Array.getElem?_modify, Ne.symm h]
theorem only_setRow {a w : World} {g : Nat} (h : a.grownBy w (some g)) (cs : Array Value) : a.grownBy (w.setRow g cs) (some g) :=
  ⟨h.os, h.tape, h.output, by simpa using h.size, fun i hi hne => (heap_setRow_other w g cs i (fun e => hne (by rw [e]))).trans (h.block i hi hne)⟩

/-- a region that draws, reads, and ends in one forced tail: in the spelling 'w.drew'. -/
theorem still_tail {P : Program} {id : Nat} {Q : Exit → Act → World → Prop} {a : Act} {w : World} {l : List Oper} (n : Nat) (hm : P.follows .mixedOrders = true) (hB : Region.lexTailB .any l.toArray n = true)
    (h : wpStill P l.toArray w.drew (fun a' => wpList P l.toArray Q (l.drop n) a' w.drew) (l.take n) a) : (Code.region id l.toArray true).wp P Q a w := wp_region_still_tail n hm hB h

theorem quiet_add_same {P : Program} {f : FuncId} {args : Array Value} {w : World} {a n : Nat} {v : Value}
    (h : Calls P f args (w.drewN (a + n)) fun e w' => e = .returned v ∧ w' = w.drewN (a + n)) :
    Calls P f args (w.drewN (a + n)) fun e w'' => e = .returned v ∧ ∃ m, w'' = w.drewN (a + m) :=
  h.mono fun _ _ ⟨he, hm⟩ => ⟨he, n, hm⟩

/-! ### words -/
theorem wrap_u64e (n : Int) : IntKind.u64.wrap n = n % 18446744073709551616 := by simp [IntKind.wrap, IntKind.bits, IntKind.signed]
/-- a word as the machine's number; its own name, so that no rule of the walk's turns it. -/
def n32 (x : BitVec 32) : Int := x.toNat
theorem v32_add (x y : BitVec 32) : (n32 x + n32 y) % 4294967296 = n32 (x + y) := by
  unfold n32; rw [BitVec.toNat_add]; omega
theorem v32_xor (x y : BitVec 32) : bits .xor .u32 (n32 x) (n32 y) = n32 (x ^^^ y) := by
  unfold n32; rw [u32_xor_nat _ _ x.isLt y.isLt, BitVec.toNat_xor]
theorem v32_or (x y : BitVec 32) : bits .or .u32 (n32 x) (n32 y) = n32 (x ||| y) := by
  unfold n32; rw [u32_or_nat _ _ x.isLt y.isLt, BitVec.toNat_or]
theorem v32_and (x y : BitVec 32) : bits .and .u32 (n32 x) (n32 y) = n32 (x &&& y) := by
  unfold n32; rw [u32_and_nat _ _ x.isLt y.isLt, BitVec.toNat_and]
theorem v32_shr_nat (x : BitVec 32) (n : Nat) : n32 x / (2 ^ n : Nat) = n32 (x >>> n) := by
  unfold n32; rw [BitVec.toNat_ushiftRight, Nat.shiftRight_eq_div_pow]; omega
theorem v32_shl_nat (x : BitVec 32) (n : Nat) : (n32 x * (2 ^ n : Nat)) % 4294967296 = n32 (x <<< n) := by
  unfold n32
  rw [BitVec.toNat_shiftLeft, Nat.shiftLeft_eq, ← Int.natCast_mul]
  generalize x.toNat * 2 ^ n = m
  omega
theorem v32_shr3 (x : BitVec 32) : n32 x / (8 : Int) = n32 (x >>> 3) := v32_shr_nat x 3
theorem v32_shr10 (x : BitVec 32) : n32 x / (1024 : Int) = n32 (x >>> 10) := v32_shr_nat x 10
theorem v32_shl8 (x : BitVec 32) : n32 x * (256 : Int) % (4294967296 : Int) = n32 (x <<< 8) := v32_shl_nat x 8
def bd (l : List UInt8) (i : Nat) : UInt8 := l.getD i 0
/-- a byte as the machine's number. -/
def n8 (b : UInt8) : Int := b.toNat
theorem n8_bd (x : UInt8) : 0 ≤ n8 x ∧ n8 x < 256 := ⟨by unfold n8; omega, by unfold n8; have := x.toNat_lt; omega⟩
/-- a byte as a word. -/
def u8w (b : UInt8) : BitVec 32 := BitVec.ofNat 32 b.toNat
theorem u8w_n32 (b : UInt8) : n32 (u8w b) = n8 b := by
  unfold n32 n8 u8w; rw [BitVec.toNat_ofNat, Nat.mod_eq_of_lt (by have := b.toNat_lt; omega)]
theorem n8_m32 (b : UInt8) : n8 b % (4294967296 : Int) = n32 (u8w b) := by rw [u8w_n32]; have := n8_bd b; omega
/-- the lowest byte of a word. -/
def w8 (x : BitVec 32) : UInt8 := UInt8.ofNat x.toNat
theorem w8_n8 (x : BitVec 32) : n32 x % 256 = n8 (w8 x) := by
  unfold n32 n8 w8; simp
/-- a shift by a count within the width, as the walk has it. -/
theorem v32_shl_var (x : BitVec 32) (c : Int) (k : Nat) (hc : c = k) (hk : k ≤ 32) : IntKind.u32.wrap (n32 x * 2 ^ min c.toNat 32) = n32 (x <<< k) := by
  subst hc
  rw [IntKind.wrap_u32', Int.toNat_natCast, Nat.min_eq_left hk, ← v32_shl_nat, Int.natCast_pow]
  rfl
theorem v32_shr_var (x : BitVec 32) (c : Int) (k : Nat) (hc : c = k) (hk : k ≤ 32) : n32 x / 2 ^ min c.toNat 32 = n32 (x >>> k) := by
  subst hc
  rw [Int.toNat_natCast, Nat.min_eq_left hk, ← v32_shr_nat, Int.natCast_pow]
  rfl
/-- bytes as cells. -/
def cb (l : List UInt8) : List Value := l.map fun x => .int .u8 (n8 x)
/-- 'copy(dst, s)', dst lying in a block that is known whole. -/
theorem run_copy_str {P : Program} (w : World) (dT sT ty elem : TypeId) (g o dLen dCap : Nat) (l : List UInt8) (cur : Array Value) (t : TypeId) (m : Nat)
    (hu : P.underlying dT = some (.slice elem)) (hs : (P.info? elem).map (·.size) = some 1) (hg : Blk w g t cur) (hm : m = Nat.min l.length dLen) (hfit : o + m ≤ cur.size) :
    (Builtin.copy_ #[dT, sT] ty #[.slice (some ⟨g, o, none⟩) dLen dCap, .string ⟨l.toArray⟩]).run P w =
      .ok (goInt m) (w.setRow g (cur.toList.take o ++ cb (l.take m) ++ cur.toList.drop (o + m)).toArray) := by
  have hlen : (cb (l.take m)).length = m := by rw [hm]; simp [cb, Nat.min_def]; split <;> omega
  have hst := run_storeCells_at (P := P) g o t (cb (l.take m)) 0 cur w hg (by rw [hlen]; simpa using hfit) (by
    intro v hv
    obtain ⟨b, _, rfl⟩ := List.mem_map.1 hv
    rfl)
  rw [hlen] at hst
  simp only [Nat.add_zero] at hst
  have htk : List.take m (List.map (fun b : UInt8 => Value.int IntKind.u8 (b.toNat : Int)) l) = cb (l.take m) := by
    rw [← List.map_take]; rfl
  cases hq : P.info? elem with
  | none => simp [hq] at hs
  | some i =>
    have hsz : (⟨l.toArray⟩ : ByteArray).size = l.length := by simp [ByteArray.size]
    simp [Builtin.copy_, run_underlying hu, Builtin.lenOf, Builtin.firstCells, sizeOf, typeInfo, hq, hsz, ← hm]
    rw [htk, hst]
    simp [Result.andThen]
theorem strOfNums_n8 (l : List UInt8) : strOfNums (l.map n8) = ⟨l.toArray⟩ := by
  unfold strOfNums
  rw [List.map_map]
  congr 2
  rw [show ((fun n : Int => UInt8.ofNat n.toNat) ∘ n8) = id from by
    funext b
    simp [n8]]
  simp
/-- 'string(b)', b a slice over bytes that are known. -/
theorem run_bytes_cells {P : Program} (w : World) (src dst e : TypeId) (hs : P.underlying src = some (.slice e)) (he : P.underlying e = some (.int .u8)) (hd : P.underlying dst = some .string)
    (g off cap : Nat) (l : List UInt8) (n : Nat) (hn : l.length = n) (hc : ∀ i, i < n → w.cell? ⟨g, off + i, none⟩ = some (.int .u8 (n8 (bd l i)))) :
    (convert src dst (.slice (some ⟨g, off, none⟩) n cap)).run P w = .ok (.string ⟨l.toArray⟩) w := by
  have := run_convert_bytes_arg (P := P) (w := w) src e hs he g off n cap (l.map n8) (by simpa using hn) (by
    intro i hi
    rw [hc i hi]
    simp [bd, List.getElem?_eq_getElem (show i < l.length by omega)]) dst hd
  rw [this, strOfNums_n8]
theorem cb_get (l : List UInt8) (i : Nat) (h : i < l.length) : (cb l).toArray[i]? = some (.int .u8 (n8 (bd l i))) := by
  simp [cb, bd, List.getElem?_eq_getElem h]
theorem cb_set (l : List UInt8) (i : Nat) (x : UInt8) : (cb l).toArray.setIfInBounds i (.int .u8 (n8 x)) = (cb (l.set i x)).toArray := by
  simp [cb, List.map_set]
theorem n8_shr (n k : Nat) : ((n : Int) / 2 ^ k) % 256 = n8 (UInt8.ofNat (n / 2 ^ k)) := by
  unfold n8
  rw [UInt8.toNat_ofNat']
  have : ((2 : Int) ^ k) = ((2 ^ k : Nat) : Int) := by rw [Int.natCast_pow]; rfl
  rw [this]
  omega
theorem bytes_eq (s : ByteArray) : s = ⟨s.data.toList.toArray⟩ := by cases s; simp
theorem extract_eq (l : List UInt8) (m : Nat) : (⟨l.toArray⟩ : ByteArray).extract m l.length = ⟨(l.drop m).toArray⟩ := by
  apply ByteArray.ext
  rw [ByteArray.data_extract]
  simp [List.take_of_length_le]
end Go.Proofs.YtlogcgeinbefjaaDoor
namespace Go.Proofs.YtlogcgeinbefjaaDoor
open Go.RowKit
set_option linter.unusedSimpArgs false
set_option linter.unusedVariables false

/-- a slice of one-cell elements, made by the call since block B. -/
def Own (e : TypeId) (w : World) (B : Nat) (v : Value) (xs : List Value) : Prop := w.ownsRow B e 1 v xs.length xs
/-- what is known of the elements' type. -/
def Elem (P : Program) (t e : TypeId) (z : Value) (by_ : Nat) : Prop :=
  P.underlying t = some (.slice e) ∧ (P.info? e).map (fun i => (i.zero, i.size, i.bytes)) = some (some z, 1, by_) ∧ z.cells.size = 1

section
variable {P : Program} {t e ty : TypeId} {z : Value} {by_ : Nat} {w w' : World} {B : Nat} {v : Value} {xs : List Value}
theorem my_own_nil (e : TypeId) (w : World) (B : Nat) : Own e w B (.slice none 0 0) [] := World.ownsRow_nil w B e 1
theorem Own.form (h : Own e w B v xs) : ∃ A c, v = .slice A xs.length c := by
  rcases h.2 with ⟨h1, h2⟩ | ⟨g, cap, cur, h1, _⟩
  · exact ⟨none, 0, by rw [h1, h2]⟩
  · exact ⟨_, _, h1⟩
theorem Own.alloc (h : Own e w B v xs) (o : Obj) : Own e (w.alloc o) B v xs := World.ownsRow.alloc h o
theorem Own.drew (h : Own e w B v xs) : Own e w.drew B v xs := h
theorem Own.drewN (h : Own e w B v xs) (n : Nat) : Own e (w.drewN n) B v xs := h
theorem Own.lt (h : Own e w B v xs) : ∀ k, v.ownBlock = some k → B ≤ k ∧ k < w.heap.size := World.ownsRow.lt h
theorem Own.below (h : Own e w B v xs) (hb : Below w.heap.size w w') : Own e w' B v xs := by
  refine World.ownsRow.kept (row := none) h ⟨hb.os, hb.tape, hb.output, hb.size, fun k hk _ => hb.block k hk⟩ ?_
  cases hv : v.ownBlock with
  | none => exact .inl rfl
  | some g => exact .inr (by simp)
theorem Own.grown (h : Own e w B v xs) {row : Option Nat} (hg : w.grownBy w' row) (hne : v.ownBlock = none ∨ v.ownBlock ≠ row) : Own e w' B v xs := World.ownsRow.kept h hg hne
theorem Own.below_grown (h : Own e w B v xs) {a : World} (ha : Below B a w) (hB : B ≤ w.heap.size) (hg : w.grownBy w' v.ownBlock) : Below B a w' :=
  ha.grown hg hB (fun k hk => (h.lt k hk).1)

/-- 'append(v, x, ..)', the elements lying in a block of their own. -/
theorem own_append (he : Elem P t e z by_) (h : Own e w B v xs) (g m c : Nat) (news : List Value) (hm : news.length = m) (hb : ∀ j u, news[j]? = some u → w.cell? ⟨g, j, none⟩ = some u) (h1 : ∀ u ∈ news, u.oneCell' = true)
    (hl : (xs.length + m) * by_ ≤ 140737488355328) (hl2 : xs.length + m ≤ 9223372036854775807) (hB : B ≤ w.heap.size) :
    ∃ A c' w', (Builtin.append_ #[t, t] ty #[v, .slice (some ⟨g, 0, none⟩) m c]).run P w = .ok (.slice A (xs.length + m) c') w' ∧ Own e w' B (.slice A (xs.length + m) c') (xs ++ news) ∧ w.grownBy w' v.ownBlock := by
  obtain ⟨i, hi, hz, hs, hby⟩ := info_parts he.2.1
  obtain ⟨v', w', hr, h2, h3, _⟩ := run_append_own (P := P) w B t ty e i z 1 by_ he.1 hi hz hs hby he.2.2 (by decide) v xs.length xs h ⟨g, 0, none⟩ m c news (by rw [hm, Nat.mul_one]) (fun j u hj => by
    have := hb j u hj
    unfold Addr.add
    split
    · rename_i h0; subst h0; exact this
    · simpa using this) h1 hl2 hl hB
  have ho : Own e w' B v' (xs ++ news) := by
    unfold Own
    rw [List.length_append, hm]
    exact h2
  obtain ⟨A, c', rfl⟩ := ho.form
  rw [List.length_append, hm] at ho hr
  exact ⟨A, c', w', hr, ho, h3⟩
/-- 'make([]T, n)'. -/
theorem own_make (he : Elem P t e z by_) (w : World) (kl kc : IntKind) (n : Nat) (hb : by_ * n ≤ 281474976710656) (hl : n ≤ 9223372036854775807) (hB : B ≤ w.heap.size) :
    ∃ w', (Instr.makeSlice t (.int kl (n : Int)) (.int kc (n : Int))).run P w = .ok (.slice (some ⟨w.heap.size, 0, none⟩) n n) w' ∧ Own e w' B (.slice (some ⟨w.heap.size, 0, none⟩) n n) (List.replicate n z.cells[0]!) ∧ w.grownBy w' none := by
  obtain ⟨i, hi, hz, hs, hby⟩ := info_parts he.2.1
  obtain ⟨w', hr, h2, h3⟩ := run_make_full (P := P) w B t e i z 1 he.1 hi hz hs kl kc n (by rw [hby]; exact hb) hl hB
  refine ⟨w', hr, ?_, h3⟩
  have hz1 : z.cells = #[z.cells[0]!] := by
    have := he.2.2
    match hc : z.cells, this with
    | ⟨[x]⟩, _ => rfl
  rw [hz1, Nat.mul_one, toList_madeCells_one] at h2
  unfold Own
  rw [List.length_replicate]
  exact h2
theorem Own.cell {g cap : Nat} {n : Nat} (h : Own e w B (.slice (some ⟨g, 0, none⟩) n cap) xs) (j : Nat) (hj : j < xs.length) : w.cell? ⟨g, j, none⟩ = xs[j]? := by
  obtain ⟨A, c, hv⟩ := h.form
  injection hv with h1 h2 h3
  subst h2
  exact World.ownsRow.cellAt h j (by omega)
theorem Own.frozen {g cap n : Nat} (h : Own e w B (.slice (some ⟨g, 0, none⟩) n cap) xs) (j : Nat) : w.frozen? ⟨g, j, none⟩ = false := by
  obtain ⟨A, c, hv⟩ := h.form
  injection hv with h1 h2 h3
  subst h2
  exact World.ownsRow.frozenAt h j
theorem Own.set_ {g cap n : Nat} (h : Own e w B (.slice (some ⟨g, 0, none⟩) n cap) xs) (j : Nat) (u : Value) : Own e (w.setCell ⟨g, j, none⟩ u) B (.slice (some ⟨g, 0, none⟩) n cap) (xs.set j u) := by
  obtain ⟨A, c, hv⟩ := h.form
  injection hv with h1 h2 h3
  subst h2
  have := (World.ownsRow.stored h j u).1
  unfold Own
  rw [List.length_set]
  exact this
theorem Own.at_ {A : Option Addr} {n cap : Nat} (h : Own e w B (.slice A n cap) xs) (hn : 0 < xs.length) : ∃ g, A = some ⟨g, 0, none⟩ ∧ B ≤ g ∧ g < w.heap.size := by
  rcases h.2 with ⟨h1, h2⟩ | ⟨g, cap', cur, h1, hB, hg, h3⟩
  · omega
  · injection h1 with h1 _ _
    refine ⟨g, h1, hB, ?_⟩
    rcases Nat.lt_or_ge g w.heap.size with hlt | hge
    · exact hlt
    · rw [Array.getElem?_eq_none hge] at hg; cases hg
/-- 'string(b)'. -/
theorem my_own_string (hs : P.underlying t = some (.slice e)) (he : P.underlying e = some (.int .u8)) {d : TypeId} (hd : P.underlying d = some .string) {l : List UInt8} (h : Own e w B v (cb l)) :
    (convert t d v).run P w = .ok (.string ⟨l.toArray⟩) w := by
  rcases h.2 with ⟨h1, h2⟩ | ⟨g, cap, cur, h1, _⟩
  · have hl : l = [] := by simpa [cb] using h2
    subst hl; subst h1
    exact run_convert_bytes_nil w t e hs he 0 0 d hd
  · subst h1
    have hl : l.length = (cb l).length := by simp [cb]
    refine run_bytes_cells w t d e hs he hd g 0 cap l _ hl (fun i hi => ?_)
    rw [Nat.zero_add, h.cell i hi]
    rw [← hl] at hi
    simp [cb, bd, List.getElem?_eq_getElem hi]
end
/-- an append whose run is known, in a plain region. -/
theorem wpList_append_run {P : Program} {w w' : World} {ops : Array Oper} {rest : List Oper} {o : Oper} {a : Act} {Q : Exit → Act → World → Prop} {v sv xv : Value} (hgd : o.guard = none) (s x : Operand) (t u : TypeId)
    (ho : o.op = .call { callee := .builtin .append, args := #[s, x], argTypes := #[t, u] }) (hs : a.eval s = sv) (hx : a.eval x = xv)
    (hrun : (Builtin.append_ #[t, u] o.type #[sv, xv]).run P w = .ok v w') (h : wpList P ops Q rest (a.put o.dst v) w') : wpList P ops Q (o :: rest) a w := by
  refine wpList_plain hgd fun K hK => ?_
  unfold Oper.wp execOp
  simp only [ho, resolve, invoke, builtin, Sem.run_bind, Sem.run_pure, Result.andThen_ok, List.map_toArray, List.map_cons, List.map_nil, hs, hx, hrun]
  exact hK _ _ h
/-- .. as a step of a region that draws. -/
theorem step_append_run {P : Program} {w w' : World} {ops : Array Oper} {o : Oper} {a : Act} {K : Act → World → Prop} {Q : Exit → Act → World → Prop} {E : Prop} {v sv xv : Value} (hgd : o.guard = none) (s x : Operand) (t u : TypeId)
    (ho : o.op = .call { callee := .builtin .append, args := #[s, x], argTypes := #[t, u] }) (hs : a.eval s = sv) (hx : a.eval x = xv)
    (hrun : (Builtin.append_ #[t, u] o.type #[sv, xv]).run P w = .ok v w') (h : K (a.put o.dst v) w') : if Region.wanted o (yielded ops a.tmps) = true then Oper.wp P o a w K Q else E := by
  have hw : Region.wanted o (yielded ops a.tmps) = true := by simp [Region.wanted, hgd]
  rw [if_pos hw]
  unfold Oper.wp execOp
  simp only [ho, resolve, invoke, builtin, Sem.run_bind, Sem.run_pure, Result.andThen_ok, List.map_toArray, List.map_cons, List.map_nil, hs, hx, hrun]
  exact h
theorem cb_append (a b : List UInt8) : cb (a ++ b) = cb a ++ cb b := by simp [cb]
theorem cb_length (a : List UInt8) : (cb a).length = a.length := by simp [cb]
/-- texts as cells. -/
def cstr (ls : List (List UInt8)) : List Value := ls.map fun l => .string ⟨l.toArray⟩
theorem cstr_length (a : List (List UInt8)) : (cstr a).length = a.length := by simp [cstr]
theorem cstr_get (a : List (List UInt8)) (i : Nat) (h : i < a.length) : (cstr a)[i]? = some (.string ⟨(a.getD i []).toArray⟩) := by simp [cstr, List.getElem?_eq_getElem h]
theorem extract_mid (l : List UInt8) (i j : Nat) : (⟨l.toArray⟩ : ByteArray).extract i j = ⟨((l.drop i).take (j - i)).toArray⟩ := by
  apply ByteArray.ext
  rw [ByteArray.data_extract]
  simp
/-- a slice of ints that came in. -/
def Ints (w : World) (A : Option Addr) (n : Nat) (zs : List Int) : Prop :=
  zs.length = n ∧ (0 < n → ∃ g o, A = some ⟨g, o, none⟩ ∧ g < w.heap.size ∧ ∀ i, i < n → w.cell? ⟨g, o + i, none⟩ = some (.int .i64 (zs.getD i 0)))
theorem Ints.below {w w' : World} {A : Option Addr} {n : Nat} {ls : List Int} (h : Ints w A n ls) (hb : Below w.heap.size w w') : Ints w' A n ls :=
  ⟨h.1, fun hn => by
    obtain ⟨g, o, e, hg, hc⟩ := h.2 hn
    exact ⟨g, o, e, Nat.lt_of_lt_of_le hg hb.size, fun i hi => (hb.cell (p := ⟨g, o + i, none⟩) hg).trans (hc i hi)⟩⟩
/-- a new block's cells. -/
theorem new_cells (w : World) (t : TypeId) (xs : List Value) (j : Nat) (u : Value) (h : xs[j]? = some u) : (w.alloc (.cells xs.toArray t)).cell? ⟨w.heap.size, j, none⟩ = some u := by
  rw [(Blk.new w t xs.toArray).cell j]
  simpa using h
end Go.Proofs.YtlogcgeinbefjaaDoor
namespace Go.Proofs.YtlogcgeinbefjaaDoor
open Go.RowKit
set_option linter.unusedSimpArgs false
set_option linter.unusedVariables false
set_option maxRecDepth 100000
section
variable {P : Program} {t e ty : TypeId} {z : Value} {by_ : Nat} {w w' : World} {B : Nat} {v : Value} {xs : List Value}
/-- 'own_append', and the old cells are as they were. -/
theorem own_append_cells (he : Elem P t e z by_) {q n cap : Nat} (h : Own e w B (.slice (some ⟨q, 0, none⟩) n cap) xs) (g m c : Nat) (news : List Value) (hm : news.length = m) (hb : ∀ j u, news[j]? = some u → w.cell? ⟨g, j, none⟩ = some u) (h1 : ∀ u ∈ news, u.oneCell' = true)
    (hl : (xs.length + m) * by_ ≤ 140737488355328) (hl2 : xs.length + m ≤ 9223372036854775807) (hB : B ≤ w.heap.size) :
    ∃ A c' w', (Builtin.append_ #[t, t] ty #[.slice (some ⟨q, 0, none⟩) n cap, .slice (some ⟨g, 0, none⟩) m c]).run P w = .ok (.slice A (xs.length + m) c') w' ∧ Own e w' B (.slice A (xs.length + m) c') (xs ++ news) ∧ w.grownBy w' (some q) ∧
      ∀ j, j < xs.length → w'.cell? ⟨q, j, none⟩ = xs[j]? := by
  obtain ⟨A, c', w', hrun, hown, hgr⟩ := own_append (ty := ty) he h g m c news hm hb h1 hl hl2 hB
  refine ⟨A, c', w', hrun, hown, hgr, fun j hj => ?_⟩
  obtain ⟨i, hi, hz, hs, hby⟩ := info_parts he.2.1
  have hbs : ∀ j u, news[j]? = some u → w.cell? ((⟨g, 0, none⟩ : Addr).add j) = some u := fun j u hj => by
    have := hb j u hj
    unfold Addr.add
    split
    · rename_i h0; subst h0; exact this
    · simpa using this
  obtain ⟨hx, h2⟩ := h
  rw [Nat.mul_one] at hx
  rcases h2 with ⟨h0, _⟩ | ⟨g', cap', cur, h3, hbg, hg, hnc, hcm, hcs, htake⟩
  · cases h0
  · injection h3 with e1 e2 e3
    injection e1 with e1
    injection e1 with e1
    subst e1; subst e2; subst e3
    by_cases hroom : xs.length + m ≤ cap
    · have hr := run_append_room (P := P) w t ty e i he.1 hi q xs.length cap cur hg ⟨g, 0, none⟩ m c news (by rw [hs, Nat.mul_one, hm]) hbs h1 hroom (by rw [hs, hm, hcs]; omega)
      rw [hrun] at hr
      injection hr with h4 h5
      injection h4 with h6 h7 h8
      subst h6
      have := hown.cell j (by rw [List.length_append]; omega)
      rw [this, List.getElem?_append_left hj]
    · have holds : ∀ j u, xs[j]? = some u → w.cell? ((⟨q, 0, none⟩ : Addr).add j) = some u := by
        intro j u hu
        have hjx : j < xs.length := (List.getElem?_eq_some_iff.1 hu).1
        have := (show Own e w B (.slice (some ⟨q, 0, none⟩) xs.length cap) xs from ⟨by rw [Nat.mul_one], .inr ⟨q, cap, cur, rfl, hbg, hg, hnc, hcm, hcs, htake⟩⟩).cell j hjx
        unfold Addr.add
        split
        · rename_i h0; subst h0; rw [this]; exact hu
        · simp only [Nat.zero_add]; rw [this]; exact hu
      have hxl : xs.length = xs.length * i.size := by rw [hs, Nat.mul_one]
      have hr := run_append_grow (P := P) w t ty e i z he.1 hi hz ⟨q, 0, none⟩ xs.length cap xs hxl holds ⟨g, 0, none⟩ m c news (by rw [hs, Nat.mul_one, hm]) hbs (by omega) (by omega) (growslice_fits (by omega) (by rw [hby]; exact hl))
      rw [hrun] at hr
      injection hr with h4 h5
      rw [h5]
      have h6 := (show Own e w B (.slice (some ⟨q, 0, none⟩) xs.length cap) xs from ⟨by rw [Nat.mul_one], .inr ⟨q, cap, cur, rfl, hbg, hg, hnc, hcm, hcs, htake⟩⟩).cell j hj
      rw [← h6]
      have hq : q < w.heap.size := by
        rcases Nat.lt_or_ge q w.heap.size with h | h
        · exact h
        · rw [Array.getElem?_eq_none h] at hg; cases hg
      exact World.cell?_alloc_lt w.drew _ _ hq
/-- the append as one step of a region that draws; the elements stand in a block of their own. -/
theorem step_append_own {ops : Array Oper} {o : Oper} {a : Act} {K : Act → World → Prop} {Q : Exit → Act → World → Prop} {E : Prop} {q n cap : Nat} (hgd : o.guard = none) (s x : Operand) (t : TypeId)
    (ho : o.op = .call { callee := .builtin .append, args := #[s, x], argTypes := #[t, t] }) (he : Elem P t e z by_) (hs : a.eval s = .slice (some ⟨q, 0, none⟩) n cap) (h : Own e w B (.slice (some ⟨q, 0, none⟩) n cap) xs)
    (g m c : Nat) (news : List Value) (hx : a.eval x = .slice (some ⟨g, 0, none⟩) m c) (hm : news.length = m) (hb : ∀ j u, news[j]? = some u → w.cell? ⟨g, j, none⟩ = some u) (h1 : ∀ u ∈ news, u.oneCell' = true)
    (hl : (xs.length + m) * by_ ≤ 140737488355328) (hl2 : xs.length + m ≤ 9223372036854775807) (hB : B ≤ w.heap.size)
    (hK : ∀ A c' w', Own e w' B (.slice A (xs.length + m) c') (xs ++ news) → w.grownBy w' (some q) → (∀ j, j < xs.length → w'.cell? ⟨q, j, none⟩ = xs[j]?) → K (a.put o.dst (.slice A (xs.length + m) c')) w') :
    if Region.wanted o (yielded ops a.tmps) = true then Oper.wp P o a w K Q else E := by
  obtain ⟨A, c', w', hrun, hown, hgr, hcl⟩ := own_append_cells (ty := o.type) he h g m c news hm hb h1 hl hl2 hB
  exact step_append_run hgd s x t t ho hs hx hrun (hK A c' w' hown hgr hcl)
end
end Go.Proofs.YtlogcgeinbefjaaDoor
namespace Go.Proofs.YtlogcgeinbefjaaDoor
open Go.RowKit
set_option linter.unusedSimpArgs false
set_option linter.unusedVariables false
set_option maxRecDepth 100000
section
variable {P : Program} {t e ty : TypeId} {z : Value} {by_ : Nat} {w w' : World} {B : Nat} {v : Value} {xs : List Value}
end
end Go.Proofs.YtlogcgeinbefjaaDoor
namespace Go.Proofs.YtlogcgeinbefjaaDoor
open Go.RowKit
set_option linter.unusedSimpArgs false
set_option linter.unusedVariables false
/-- all but the blocks of S is as it was. -/
structure Kp (S : Nat → Prop) (w w' : World) : Prop where
  os : w'.os = w.os
  tape : w'.tape = w.tape
  output : w'.output = w.output
  size : w.heap.size ≤ w'.heap.size
  block : ∀ i, i < w.heap.size → ¬ S i → w'.heap[i]? = w.heap[i]?
section
variable {S S' : Nat → Prop} {w w' w'' : World}
theorem Kp.refl (S : Nat → Prop) (w : World) : Kp S w w := ⟨rfl, rfl, rfl, Nat.le_refl _, fun _ _ _ => rfl⟩
theorem Kp.trans (h : Kp S w w') (k : Kp S w' w'') : Kp S w w'' :=
  ⟨k.os.trans h.os, k.tape.trans h.tape, k.output.trans h.output, Nat.le_trans h.size k.size, fun i hi hs => (k.block i (Nat.lt_of_lt_of_le hi h.size) hs).trans (h.block i hi hs)⟩
theorem Kp.mono (h : Kp S w w') (hs : ∀ i, i < w.heap.size → S i → S' i) : Kp S' w w' := ⟨h.os, h.tape, h.output, h.size, fun i hi hn => h.block i hi (fun hS => hn (hs i hi hS))⟩
theorem Kp.of_below (h : Below w.heap.size w w') : Kp S w w' := ⟨h.os, h.tape, h.output, h.size, fun i hi _ => h.block i hi⟩
theorem Kp.set_ {g : Nat} (hS : S g) (i : Nat) (u : Value) : Kp S w (w.setCell ⟨g, i, none⟩ u) :=
  ⟨rfl, rfl, rfl, by simp [World.setCell], fun k hk hs => Below.heap_setCell w ⟨g, i, none⟩ u k (fun e => hs (by subst e; exact hS))⟩
theorem Kp.grown {row : Option Nat} (h : w.grownBy w' row) (hS : ∀ k, row = some k → k < w.heap.size → S k) : Kp S w w' :=
  ⟨h.os, h.tape, h.output, h.size, fun i hi hs => h.block i hi (fun e => hs (hS i e.symm hi))⟩
theorem Kp.below {B : Nat} (h : Kp S w w') (hS : ∀ i, S i → B ≤ i) (hB : B ≤ w.heap.size) : Below B w w' :=
  ⟨h.os, h.tape, h.output, h.size, fun i hi => h.block i (Nat.lt_of_lt_of_le hi hB) (fun hs => by have := hS i hs; omega)⟩
theorem Blk.kp {g : Nat} {t : TypeId} {cs : Array Value} (h : Blk w g t cs) (k : Kp S w w') (hn : ¬ S g) : Blk w' g t cs := (k.block g h.lt hn).trans h
end
/-- a window. -/
def Win (e : TypeId) (w : World) (B : Nat) (v : Value) (xs : List Value) : Prop :=
  (v = .slice none 0 0 ∧ xs = []) ∨ ∃ b off cap cur, v = .slice (some ⟨b, off, none⟩) xs.length cap ∧ B ≤ b ∧ Blk w b e cur ∧ off + cap ≤ cur.size ∧ xs.length ≤ cap ∧ cap ≤ 9223372036854775807 ∧ ∀ i, i < xs.length → cur[off + i]? = xs[i]?
section
variable {P : Program} {e t ty : TypeId} {w w' : World} {B : Nat} {v : Value} {xs : List Value} {z : Value} {by_ : Nat} {S : Nat → Prop}
theorem Win.nil (e : TypeId) (w : World) (B : Nat) : Win e w B (.slice none 0 0) [] := .inl ⟨rfl, rfl⟩
theorem Win.kp (h : Win e w B v xs) (k : Kp S w w') (hn : ∀ b, v.ownBlock = some b → ¬ S b) : Win e w' B v xs := by
  rcases h with h | ⟨b, off, cap, cur, rfl, h1, h2, h3⟩
  · exact .inl h
  · exact .inr ⟨b, off, cap, cur, rfl, h1, h2.kp k (hn b rfl), h3⟩
theorem Win.below (h : Win e w B v xs) (hb : Below w.heap.size w w') : Win e w' B v xs := h.kp (S := fun _ => False) (Kp.of_below hb) (fun _ _ h => h)
theorem Win.form (h : Win e w B v xs) : ∃ A c, v = .slice A xs.length c ∧ xs.length ≤ c ∧ c ≤ 9223372036854775807 := by
  rcases h with ⟨rfl, rfl⟩ | ⟨b, off, cap, cur, rfl, h1, h2, h3, h4, h5, _⟩
  · exact ⟨none, 0, rfl, Nat.le_refl _, by decide⟩
  · exact ⟨_, cap, rfl, h4, h5⟩
theorem Win.at_ (h : Win e w B v xs) (i : Nat) (hi : i < xs.length) : ∃ b off cap, v = .slice (some ⟨b, off, none⟩) xs.length cap ∧ B ≤ b ∧ b < w.heap.size ∧ w.cell? ⟨b, off + i, none⟩ = xs[i]? := by
  rcases h with ⟨rfl, rfl⟩ | ⟨b, off, cap, cur, rfl, h1, h2, h3, h4, h5, h6⟩
  · simp at hi
  · exact ⟨b, off, cap, rfl, h1, h2.lt, (h2.cell (off + i)).trans (h6 i hi)⟩
theorem Win.typed (h : Win e w B v xs) : ∀ b, v.ownBlock = some b → B ≤ b ∧ ∃ cs, Blk w b e cs := by
  intro b hb
  rcases h with ⟨rfl, _⟩ | ⟨b', off, cap, cur, rfl, h1, h2, _⟩
  · cases hb
  · injection hb with hb; subst hb; exact ⟨h1, cur, h2⟩
/-- 'xs[1:]'. -/
theorem Win.tail (h : Win e w B v xs) {x : Value} {r : List Value} (hx : xs = x :: r) : ∃ b off off' cap, v = .slice (some ⟨b, off, none⟩) xs.length cap ∧ 1 ≤ cap ∧ off' = (if cap = 1 then off else off + 1) ∧ Win e w B (.slice (some ⟨b, off', none⟩) r.length (cap - 1)) r := by
  subst hx
  rcases h with ⟨_, h⟩ | ⟨b, off, cap, cur, rfl, h1, h2, h3, h4, h5, h6⟩
  · cases h
  · simp only [List.length_cons] at h4
    refine ⟨b, off, _, cap, rfl, by omega, rfl, .inr ⟨b, _, cap - 1, cur, rfl, h1, h2, ?_, by omega, by omega, fun i hi => ?_⟩⟩
    · split <;> omega
    · have hc : cap ≠ 1 := by omega
      rw [if_neg hc]
      have := h6 (i + 1) (by simp; omega)
      rw [show off + 1 + i = off + (i + 1) by omega, this]
      rfl
theorem cells_first (size n : Nat) (w' : World) (v : Value) (xs : List Value) (h : Win e w' B v xs) (h1 : ∀ u ∈ xs, u.oneCell' = true) : (Builtin.firstCells 1 xs.length v).run P w' = .ok xs.toArray w' := by
  rcases h with ⟨rfl, rfl⟩ | ⟨b, off, cap, cur, rfl, _, h2, _, _, _, h6⟩
  · exact run_firstCells_none (P := P) w' 1 0 0 0
  · refine run_firstCells_some (P := P) w' 1 xs.length ⟨b, off, none⟩ xs.length cap xs (by simp) (fun j u hj => ?_)
    have hjl := (List.getElem?_eq_some_iff.1 hj).1
    have := (h2.cell (off + j)).trans (h6 j hjl)
    rw [hj] at this
    unfold Addr.add
    split
    · rename_i h0; subst h0; simpa using this
    · exact this
/-- one is appended. -/
theorem win_append (he : Elem P t e z by_) (h : Win e w B v xs) (h1 : ∀ u ∈ xs, u.oneCell' = true) (g c : Nat) (x : Value) (hx : w.cell? ⟨g, 0, none⟩ = some x) (hx1 : x.oneCell' = true) (hl : (xs.length + 1) * by_ ≤ 140737488355328) (hl2 : xs.length + 1 ≤ 9223372036854775807) (hB : B ≤ w.heap.size) :
    ∃ v' w', (Builtin.append_ #[t, t] ty #[v, .slice (some ⟨g, 0, none⟩) 1 c]).run P w = .ok v' w' ∧ Win e w' B v' (xs ++ [x]) ∧ w.grownBy w' v.ownBlock ∧ (v'.ownBlock = v.ownBlock ∨ v'.ownBlock = some w.heap.size) := by
  obtain ⟨i, hi, hz, hs, hby⟩ := info_parts he.2.1
  have hS : Src P i.size t (.slice (some ⟨g, 0, none⟩) 1 c) 1 [x] w := by
    rw [hs]
    refine Src.ofSlice w he.1 ⟨g, 0, none⟩ 1 c [x] (by simp) (fun j u hj => ?_) (fun u hu => by rw [List.mem_singleton.1 hu]; exact hx1)
    cases j with
    | zero => simp at hj; subst hj; simpa [Addr.add] using hx
    | succ j => simp at hj
  obtain ⟨A, cap, hv, hcap, hmax⟩ := h.form
  by_cases hroom : xs.length + 1 ≤ cap
  · rcases h with ⟨rfl, rfl⟩ | ⟨b, off, cap', cur, rfl, g1, g2, g3, g4, g5, g6⟩
    · injection hv with _ _ h3; subst h3; simp at hroom
    · injection hv with _ _ h3
      subst h3
      have hrun := run_append_room_src (P := P) w t t ty e i he.1 hi b off xs.length cap' (.slice (some ⟨g, 0, none⟩) 1 c) 1 [x] hS hroom (fun j hj => by
        rw [hs]
        have : j = 0 := by simpa using hj
        subst this
        rw [show off + xs.length * 1 + 0 = off + xs.length by omega, g2.cell]
        rw [Array.getElem?_eq_getElem (by omega)]; rfl) (fun j hj => g2.frozen _)
      rw [hs] at hrun
      refine ⟨_, _, hrun, ?_, ?_, .inl rfl⟩
      · have hset : w.setCells b (off + xs.length * 1) [x] = w.setCell ⟨b, off + xs.length, none⟩ x := by simp [World.setCells]
        rw [hset]
        refine .inr ⟨b, off, cap', cur.setIfInBounds (off + xs.length) x, by simp, g1, g2.set_ _ _, by simpa using g3, by simpa using hroom, g5, fun j hj => ?_⟩
        simp at hj
        rw [Array.getElem?_setIfInBounds]
        by_cases hjl : j < xs.length
        · rw [if_neg (by omega), g6 j hjl, List.getElem?_append_left hjl]
        · have : j = xs.length := by omega
          subst this
          rw [if_pos rfl, if_pos (by omega), List.getElem?_append_right (Nat.le_refl _)]
          simp
      · have hset : w.setCells b (off + xs.length * 1) [x] = w.setCell ⟨b, off + xs.length, none⟩ x := by simp [World.setCells]
        rw [hset]
        exact only_set (only_refl _ _) (.inl rfl) x
  · subst hv
    have hrun := run_append_grow_src (P := P) w t t ty e i z he.1 hi hz A xs.length cap xs (by
      rw [hs]
      exact cells_first (P := P) (e := e) (B := B) 1 0 w.drew (.slice A xs.length cap) xs (h.below (show Below w.heap.size w w.drew from below_drewN (Below.refl _ _) 1)) h1) (.slice (some ⟨g, 0, none⟩) 1 c) 1 [x] hS (by omega) (by omega) (growslice_fits (by omega) (by rw [hby]; exact hl))
    refine ⟨_, _, hrun, ?_, ?_, .inr rfl⟩
    · have hzs : z.cells.size = 1 := he.2.2
      have hG := grownCap_ge w (xs.length + 1) cap e
      have hGm := grownCap_le_maxLen w (xs.length + 1) cap e (by simp only [maxLen]; omega)
      refine .inr ⟨w.heap.size, 0, grownCap w (xs.length + 1) cap e, _, by simp, hB, Blk.new w.drew e _, ?_, by simpa using hG, by simpa [maxLen] using hGm, fun j hj => ?_⟩
      · rw [Array.size_append, List.size_toArray, size_zeroCells, hzs]
        simp
        omega
      · rw [Nat.zero_add, Array.getElem?_append_left (by simpa using hj), List.getElem?_toArray]
    · exact only_alloc (only_drew (only_refl _ _)) _
end
end Go.Proofs.YtlogcgeinbefjaaDoor
namespace Go.Proofs.YtlogcgeinbefjaaDoor
open Go.RowKit Go.Proofs.YtlogcgeinbefjaaDoorW.PrintWords Go.Proofs.YtlogcgeinbefjaaDoorW.PrintLast
set_option linter.unusedSimpArgs false
set_option linter.unusedVariables false
set_option maxRecDepth 20000
def rd3.T : Bool × List (List Nat × List Nat) := (true, [([], []), ([0], [0]), ([], []), ([2], [2]), ([3], [3]), ([], []), ([5], [5]), ([6], [6]), ([], []), ([8], [8]), ([], []), ([10], [10]), ([1, 4, 7, 9, 11], [1, 4, 7, 9, 11]), ([12, 0, 1, 2, 3, 4, 5, 6, 7, 8, 9, 10, 11, 12], [12])])
def rd3.B : List Nat := [0, 1, 0, 4, 12, 0, 32, 96, 0, 256, 0, 1024, 4095, 8191]
theorem rd3.tab : rtab .any (opsOf Tryd.f21 3) = rd3.T := by kernel_rfl
theorem rd3.bits : waitsOk rd3.T.2 rd3.B = true := by kernel_rfl
theorem gworld {P : Program} {c : Code} {Q : Exit → Act → World → Prop} {a : Act} {W : World} (D : World → Prop) (h : D W) (k : ∀ W', D W' → c.wp P Q a W') : c.wp P Q a W := k W h
/-- a part. -/
structure Pt where
  id : List UInt8
  sum : List UInt8
  text : List UInt8
  at_ : Nat
  many : Nat
def ptC (p : Pt) : Array Value := #[.string ⟨p.id.toArray⟩, .string ⟨p.sum.toArray⟩, .string ⟨p.text.toArray⟩, .int .i64 (p.at_ : Nat), .int .i64 (p.many : Nat)]
def ptOf (s : List UInt8) : Pt := ⟨s.take 8, (s.drop 10).take 6, s.drop 16, (bd s 8).toNat, (bd s 9).toNat⟩
def lowP (p : Pt) : Nat := if p.at_ + 1 = p.many then min 1 (p.many - 1) else 200
def highP (p : Pt) : Int := if p.at_ + 1 = p.many then min 200 (2048 - 200 * (p.at_ : Int)) else 200
def okP (s : List UInt8) : Bool := decide (16 ≤ s.length) && decide (1 ≤ (ptOf s).many ∧ (ptOf s).many ≤ 11 ∧ (ptOf s).at_ < (ptOf s).many) && decide (lowP (ptOf s) ≤ (s.drop 16).length ∧ ((s.drop 16).length : Int) ≤ highP (ptOf s))
def zPt : Array Value := #[.string ⟨#[]⟩, .string ⟨#[]⟩, .string ⟨#[]⟩, .int .i64 0, .int .i64 0]
theorem size_part : (Tryd.prog.info? 65).map (·.size) = some 5 := by kernel_rfl
theorem one_part (p : Pt) : (ptC p).all (·.oneCell') = true := by
  refine all_oneCell_toArray (cs := [.string ⟨p.id.toArray⟩, .string ⟨p.sum.toArray⟩, .string ⟨p.text.toArray⟩, .int .i64 (p.at_ : Nat), .int .i64 (p.many : Nat)]) fun u hu => ?_
  simp only [List.mem_cons, List.not_mem_nil, or_false] at hu
  rcases hu with rfl | rfl | rfl | rfl | rfl <;> rfl
theorem one5 (a b c : ByteArray) (x y : Int) : (#[.string a, .string b, .string c, .int .i64 x, .int .i64 y] : Array Value).all (·.oneCell') = true := by
  refine all_oneCell_toArray (cs := [.string a, .string b, .string c, .int .i64 x, .int .i64 y]) fun u hu => ?_
  simp only [List.mem_cons, List.not_mem_nil, or_false] at hu
  rcases hu with rfl | rfl | rfl | rfl | rfl <;> rfl
theorem one_zpart : zPt.all (·.oneCell') = true := by
  refine all_oneCell_toArray (cs := [.string ⟨#[]⟩, .string ⟨#[]⟩, .string ⟨#[]⟩, .int .i64 0, .int .i64 0]) fun u hu => ?_
  simp only [List.mem_cons, List.not_mem_nil, or_false] at hu
  rcases hu with rfl | rfl | rfl | rfl | rfl <;> rfl
/-- what read gives: what it read (whatever it is, if it is none). -/
def RdOut (s : List UInt8) (w w' : World) (e : Ending) : Prop := Below w.heap.size w w' ∧ ∃ cs : Array Value, cs.size = 5 ∧ cs.all (·.oneCell') = true ∧ e = .returned (.tuple #[.agg cs, .bool (okP s)]) ∧ (okP s = true → cs = ptC (ptOf s))
set_option maxHeartbeats 3200000 in
theorem read_any (s : List UInt8) (w : World) (hs : s.length ≤ 140737488355328) :
    Calls Tryd.prog 21 #[.string ⟨s.toArray⟩] w fun e w' => RdOut s w w' e := by
  have hsz : (⟨s.toArray⟩ : ByteArray).size = s.length := by simp [ByteArray.size]
  by_cases h16 : s.length < 16
  · have HO := Lib.hid (show okP s = false by unfold okP; rw [decide_eq_false (by omega)]; rfl)
    obtain ⟨sb, SB⟩ : ∃ t : ByteArray, Hid (⟨s.toArray⟩ = t) := ⟨_, Lib.hid rfl⟩
    rw [SB.out] at hsz ⊢
    have d0 : decide ((sb.size : Int) < 16) = true := decide_eq_true (by omega)
    clear h16 hsz hs
    go_enter Tryd.func21, Tryd.ntmps21
    go_upto_region 2 with fail
    obtain ⟨g, hg⟩ : ∃ g, Hid (w.heap.size = g) := ⟨_, Lib.hid rfl⟩
    refine gworld (fun W => Hid (Blk W g 65 zPt) ∧ Hid (Below w.heap.size w W)) ⟨Lib.hid (by rw [← hg.out]; exact Blk.new _ _ _), Lib.hid ((Below.refl _ _).alloc (Nat.le_refl _) _)⟩ ?_
    rintro w1 ⟨M1, B1⟩
    rw [hg.out]
    have m0 : w1.cell? ⟨g, 0, none⟩ = some (.string ⟨#[]⟩) := M1.out.cell 0
    have m1 : w1.cell? ⟨g, 1, none⟩ = some (.string ⟨#[]⟩) := M1.out.cell 1
    have m2 : w1.cell? ⟨g, 2, none⟩ = some (.string ⟨#[]⟩) := M1.out.cell 2
    have m3 : w1.cell? ⟨g, 3, none⟩ = some (.int .i64 0) := M1.out.cell 3
    have m4 : w1.cell? ⟨g, 4, none⟩ = some (.int .i64 0) := M1.out.cell 4
    go_wp2_with (first
      | ((with_reducible refine gate_store (t := 65) (p := 2) (v := .tmp 9) rfl ?_); refine wpList_store_row rfl 65 (.tmp 2) (.tmp 9) rfl g zPt rfl rfl 65 zPt M1.out size_part rfl one_zpart ?_))
    have M2 := Lib.hid (M1.out.setRow zPt)
    refine bodyPost_ret (results_ct rfl _ _ g 65 _ (0, 0) _ rfl M2.out Tryd.underlying65 rfl rfl) rfl ?_
    exact ⟨below_of_only B1.out (only_setRow (only_refl _ _) _) (by rw [← hg.out]; exact Nat.le_refl _) B1.out.size, _, rfl, one_zpart, by rw [HO.out]; rfl, fun h => by rw [HO.out] at h; cases h⟩
  · have hb8 : ∀ h, (⟨s.toArray⟩ : ByteArray)[8]'h = bd s 8 := fun h => by
      show s.toArray[8]'_ = _
      simp [bd, List.getElem?_eq_getElem (show 8 < s.length by omega)]
    have hb9 : ∀ h, (⟨s.toArray⟩ : ByteArray)[9]'h = bd s 9 := fun h => by
      show s.toArray[9]'_ = _
      simp [bd, List.getElem?_eq_getElem (show 9 < s.length by omega)]
    obtain ⟨sb, SB⟩ : ∃ t : ByteArray, Hid (⟨s.toArray⟩ = t) := ⟨_, Lib.hid rfl⟩
    have hx1 : sb.extract 0 8 = ⟨(s.take 8).toArray⟩ := by rw [← SB.out, extract_mid]; simp
    have hx2 : sb.extract 10 16 = ⟨((s.drop 10).take 6).toArray⟩ := by rw [← SB.out, extract_mid]
    have hx3 : sb.extract 16 sb.size = ⟨(s.drop 16).toArray⟩ := by rw [← SB.out, hsz, extract_eq]
    rw [SB.out] at hsz hb8 hb9 ⊢
    obtain ⟨a, ha⟩ : ∃ a : UInt8, Hid (bd s 8 = a) := ⟨_, Lib.hid rfl⟩
    obtain ⟨m, hm⟩ : ∃ a : UInt8, Hid (bd s 9 = a) := ⟨_, Lib.hid rfl⟩
    rw [ha.out] at hb8
    rw [hm.out] at hb9
    have d0 : decide ((sb.size : Int) < 16) = false := decide_eq_false (by omega)
    have e8 : (8 : Int) < (sb.size : Int) := by omega
    have e9 : (9 : Int) < (sb.size : Int) := by omega
    have e16 : (16 : Int) ≤ (sb.size : Int) := by omega
    have e8b : (8 : Int) ≤ (sb.size : Int) := by omega
    have l8 : 8 < sb.size := by omega
    have l9 : 9 < sb.size := by omega
    have l16 : 16 ≤ sb.size := by omega
    have HSZ := Lib.hid hsz
    have H16 := Lib.hid h16
    clear hsz h16
    go_enter Tryd.func21, Tryd.ntmps21
    go_upto_region 3 with fail
    obtain ⟨g, hg⟩ : ∃ g, Hid (w.heap.size = g) := ⟨_, Lib.hid rfl⟩
    refine gworld (fun W => Hid (Blk W g 65 zPt) ∧ Hid (Below w.heap.size w W)) ⟨Lib.hid (by rw [← hg.out]; exact Blk.new _ _ _), Lib.hid ((Below.refl _ _).alloc (Nat.le_refl _) _)⟩ ?_
    rintro w1 ⟨M1, B1⟩
    rw [hg.out]
    have m0 : w1.drew.cell? ⟨g, 0, none⟩ = some (.string ⟨#[]⟩) := M1.out.cell 0
    have m1 : w1.drew.cell? ⟨g, 1, none⟩ = some (.string ⟨#[]⟩) := M1.out.cell 1
    have m2 : w1.drew.cell? ⟨g, 2, none⟩ = some (.string ⟨#[]⟩) := M1.out.cell 2
    have m3 : w1.drew.cell? ⟨g, 3, none⟩ = some (.int .i64 0) := M1.out.cell 3
    have m4 : w1.drew.cell? ⟨g, 4, none⟩ = some (.int .i64 0) := M1.out.cell 4
    have f0 : w1.drew.frozen? ⟨g, 0, none⟩ = false := M1.out.frozen 0
    have f1 : w1.drew.frozen? ⟨g, 1, none⟩ = false := M1.out.frozen 1
    have f2 : w1.drew.frozen? ⟨g, 2, none⟩ = false := M1.out.frozen 2
    have f3 : w1.drew.frozen? ⟨g, 3, none⟩ = false := M1.out.frozen 3
    have f4 : w1.drew.frozen? ⟨g, 4, none⟩ = false := M1.out.frozen 4
    have hwa : IntKind.i64.wrap (a.toNat : Int) = (a.toNat : Int) := by have := a.toNat_lt; rw [IntKind.wrap_i64]; omega
    have hwm : IntKind.i64.wrap (m.toNat : Int) = (m.toNat : Int) := by have := m.toNat_lt; rw [IntKind.wrap_i64]; omega
    obtain ⟨p, hp⟩ : ∃ p : Pt, p = ⟨s.take 8, (s.drop 10).take 6, s.drop 16, a.toNat, m.toNat⟩ := ⟨_, rfl⟩
    have HP := Lib.hid (show ptOf s = p by rw [hp]; unfold ptOf; rw [ha.out, hm.out])
    have hpc : (#[.string ⟨(s.take 8).toArray⟩, .string ⟨((s.drop 10).take 6).toArray⟩, .string ⟨(s.drop 16).toArray⟩, .int .i64 (a.toNat : Nat), .int .i64 (m.toNat : Nat)] : Array Value) = ptC p := by rw [hp]; rfl
    have HPT := Lib.hid (show p.at_ = a.toNat ∧ p.many = m.toNat ∧ p.text = s.drop 16 by rw [hp]; exact ⟨rfl, rfl, rfl⟩)
    clear hp
    refine start_ (n := 14) (S := fun _ => True) (ds := [13]) #[false, false, false, false, false, false, false, false, false, false, false, false, false, false] (by kernel_rfl) rfl rfl trivial (fun hHeld => ?_)
    refine with_tabW rd3.tab rd3.bits (fun HT_ HW_ => ?_)
    refine pure_ (i := 0) (N := some 10) (v := ?_) (a' := ?_) #[true, false, false, false, false, false, false, false, false, false, false, false, false, false] rfl rfl (any_of HT_.out (by kernel_rfl)) (fun _ _ _ h => h) (Or.inl ⟨by rfl, ?_⟩) ?_ ?_
    rotate_left
    · intro w'
      go_simp
      try with_reducible rfl
    rotate_left
    · simp only [Act.put, List.setIfInBounds_toArray, List.set_cons_zero, List.set_cons_succ]
      rfl
    refine pure_ (i := 1) (N := some 11) (v := ?_) (a' := ?_) #[true, true, false, false, false, false, false, false, false, false, false, false, false, false] rfl rfl (any_of HT_.out (by kernel_rfl)) (fun _ _ _ h => h) (Or.inl ⟨by rfl, ?_⟩) ?_ ?_
    rotate_left
    · intro w'
      go_simp
      try with_reducible rfl
    rotate_left
    · simp only [Act.put, List.setIfInBounds_toArray, List.set_cons_zero, List.set_cons_succ]
      rfl
    refine pure_ (i := 2) (N := some 12) (v := ?_) (a' := ?_) #[true, true, true, false, false, false, false, false, false, false, false, false, false, false] rfl rfl (any_of HT_.out (by kernel_rfl)) (fun _ _ _ h => h) (Or.inl ⟨by rfl, ?_⟩) ?_ ?_
    rotate_left
    · intro w'
      go_simp
      try with_reducible rfl
    rotate_left
    · simp only [Act.put, List.setIfInBounds_toArray, List.set_cons_zero, List.set_cons_succ]
      rfl
    refine pure_ (i := 3) (N := some 13) (v := ?_) (a' := ?_) #[true, true, true, true, false, false, false, false, false, false, false, false, false, false] rfl rfl (any_of HT_.out (by kernel_rfl)) (fun _ _ _ h => h) (Or.inl ⟨by rfl, ?_⟩) ?_ ?_
    rotate_left
    · intro w'
      go_simp
      try with_reducible rfl
    rotate_left
    · simp only [Act.put, List.setIfInBounds_toArray, List.set_cons_zero, List.set_cons_succ]
      rfl
    refine pure_ (i := 4) (N := some 14) (v := ?_) (a' := ?_) #[true, true, true, true, true, false, false, false, false, false, false, false, false, false] rfl rfl (any_of HT_.out (by kernel_rfl)) (fun _ _ _ h => h) (Or.inl ⟨by rfl, ?_⟩) ?_ ?_
    rotate_left
    · intro w'
      go_simp
      try with_reducible rfl
    rotate_left
    · simp only [Act.put, List.setIfInBounds_toArray, List.set_cons_zero, List.set_cons_succ]
      rfl
    refine pure_ (i := 5) (N := some 15) (v := ?_) (a' := ?_) #[true, true, true, true, true, true, false, false, false, false, false, false, false, false] rfl rfl (any_of HT_.out (by kernel_rfl)) (fun _ _ _ h => h) (Or.inl ⟨by rfl, ?_⟩) ?_ ?_
    rotate_left
    · intro w'
      go_simp
      try with_reducible rfl
    rotate_left
    · simp only [Act.put, List.setIfInBounds_toArray, List.set_cons_zero, List.set_cons_succ]
      rfl
    refine pure_ (i := 6) (N := some 16) (v := ?_) (a' := ?_) #[true, true, true, true, true, true, true, false, false, false, false, false, false, false] rfl rfl (any_of HT_.out (by kernel_rfl)) (fun _ _ _ h => h) (Or.inl ⟨by rfl, ?_⟩) ?_ ?_
    rotate_left
    · intro w'
      go_simp
      try with_reducible rfl
    rotate_left
    · simp only [Act.put, List.setIfInBounds_toArray, List.set_cons_zero, List.set_cons_succ]
      rfl
    refine pure_ (i := 7) (N := some 17) (v := ?_) (a' := ?_) #[true, true, true, true, true, true, true, true, false, false, false, false, false, false] rfl rfl (any_of HT_.out (by kernel_rfl)) (fun _ _ _ h => h) (Or.inl ⟨by rfl, ?_⟩) ?_ ?_
    rotate_left
    · intro w'
      go_simp
      try with_reducible rfl
    rotate_left
    · simp only [Act.put, List.setIfInBounds_toArray, List.set_cons_zero, List.set_cons_succ]
      rfl
    refine pure_ (i := 8) (N := some 18) (v := ?_) (a' := ?_) #[true, true, true, true, true, true, true, true, true, false, false, false, false, false] rfl rfl (any_of HT_.out (by kernel_rfl)) (fun _ _ _ h => h) (Or.inl ⟨by rfl, ?_⟩) ?_ ?_
    rotate_left
    · intro w'
      go_simp
      try with_reducible rfl
    rotate_left
    · simp only [Act.put, List.setIfInBounds_toArray, List.set_cons_zero, List.set_cons_succ]
      rfl
    refine pure_ (i := 9) (N := some 19) (v := ?_) (a' := ?_) #[true, true, true, true, true, true, true, true, true, true, false, false, false, false] rfl rfl (any_of HT_.out (by kernel_rfl)) (fun _ _ _ h => h) (Or.inl ⟨by rfl, ?_⟩) ?_ ?_
    rotate_left
    · intro w'
      go_simp
      try with_reducible rfl
    rotate_left
    · simp only [Act.put, List.setIfInBounds_toArray, List.set_cons_zero, List.set_cons_succ]
      rfl
    refine pure_ (i := 10) (N := some 20) (v := ?_) (a' := ?_) #[true, true, true, true, true, true, true, true, true, true, true, false, false, false] rfl rfl (any_of HT_.out (by kernel_rfl)) (fun _ _ _ h => h) (Or.inl ⟨by rfl, ?_⟩) ?_ ?_
    rotate_left
    · intro w'
      go_simp
      try with_reducible rfl
    rotate_left
    · simp only [Act.put, List.setIfInBounds_toArray, List.set_cons_zero, List.set_cons_succ]
      rfl
    refine pure_ (i := 11) (N := some 21) (v := ?_) (a' := ?_) #[true, true, true, true, true, true, true, true, true, true, true, true, false, false] rfl rfl (any_of HT_.out (by kernel_rfl)) (fun _ _ _ h => h) (Or.inl ⟨by rfl, ?_⟩) ?_ ?_
    rotate_left
    · intro w'
      go_simp
      try with_reducible rfl
    rotate_left
    · simp only [Act.put, List.setIfInBounds_toArray, List.set_cons_zero, List.set_cons_succ]
      rfl
    refine pure_ (i := 12) (N := some 22) (v := ?_) (a' := ?_) #[true, true, true, true, true, true, true, true, true, true, true, true, true, false] rfl rfl (any_of HT_.out (by kernel_rfl)) (fun _ _ _ h => h) (Or.inl ⟨by rfl, ?_⟩) ?_ ?_
    rotate_left
    · intro w'
      go_simp
      try with_reducible rfl
    rotate_left
    · simp only [Act.put, List.setIfInBounds_toArray, List.set_cons_zero, List.set_cons_succ]
      rfl
    (try simp only [hwa, hwm, hpc])
    refine last_ (i := 13) (N := none) #[true, true, true, true, true, true, true, true, true, true, true, true, true, true] rfl rfl (one_of HT_.out (by kernel_rfl)) (by decide) (fun K hK => ?_)
    (rw [if_pos (by rfl)]; refine wp_store_row 65 (.tmp 2) (.tmp 22) rfl g (ptC p) rfl rfl 65 zPt M1.out.drew size_part rfl (one_part p) ?_)
    refine hK.out _ _ ?_
    clear hK K
    refine done_ (done_of HT_.out (by kernel_rfl)) ?_
    clear HT_ HW_
    have M2 := Lib.hid (show Blk (w1.drew.setRow g (ptC p)) g 65 (ptC p) from M1.out.drew.setRow (ptC p))
    have B2 := Lib.hid (show Below w.heap.size w (w1.drew.setRow g (ptC p)) from below_of_only (below_drewN B1.out 1) (only_setRow (only_refl _ _) _) (by rw [← hg.out]; exact Nat.le_refl _) B1.out.size)
    obtain ⟨w2, hw2⟩ : ∃ W, W = w1.drew.setRow g (ptC p) := ⟨_, rfl⟩
    rw [← hw2] at M2 B2 ⊢
    clear hw2 M1 B1 m0 m1 m2 m3 m4 f0 f1 f2 f3 f4 hHeld hpc hwa hwm hb8 hb9 hx1 hx2 hx3 ha hm
    obtain ⟨A, hA⟩ : ∃ n : Nat, Hid (p.at_ = n) := ⟨_, Lib.hid rfl⟩
    obtain ⟨N, hN⟩ : ∃ n : Nat, Hid (p.many = n) := ⟨_, Lib.hid rfl⟩
    obtain ⟨tb, HTB⟩ : ∃ t : ByteArray, Hid (⟨p.text.toArray⟩ = t) := ⟨_, Lib.hid rfl⟩
    have hA2 : A < 256 := by rw [← hA.out, HPT.out.1]; exact a.toNat_lt
    have hN2 : N < 256 := by rw [← hN.out, HPT.out.2.1]; exact m.toNat_lt
    have c0 : w2.cell? ⟨g, 0, none⟩ = some (.string ⟨p.id.toArray⟩) := M2.out.cell 0
    have c1 : w2.cell? ⟨g, 1, none⟩ = some (.string ⟨p.sum.toArray⟩) := M2.out.cell 1
    have c2 : w2.cell? ⟨g, 2, none⟩ = some (.string tb) := by rw [← HTB.out]; exact M2.out.cell 2
    have c3 : w2.cell? ⟨g, 3, none⟩ = some (.int .i64 (A : Nat)) := by rw [← hA.out]; exact M2.out.cell 3
    have c4 : w2.cell? ⟨g, 4, none⟩ = some (.int .i64 (N : Nat)) := by rw [← hN.out]; exact M2.out.cell 4
    by_cases hn1 : N < 1
    · have d1 : decide ((N : Int) < 1) = true := decide_eq_true (by omega)
      have HOK := Lib.hid (show okP s = false by
        unfold okP
        rw [HP.out, decide_eq_false (show ¬ (1 ≤ p.many ∧ p.many ≤ 11 ∧ p.at_ < p.many) by rw [hA.out, hN.out]; omega)]
        simp)
      clear hn1
      go_wp2_with (first
        | ((with_reducible refine gate_store (t := 65) (p := 2) (v := .tmp 38) rfl ?_); refine wpList_store_row rfl 65 (.tmp 2) (.tmp 38) rfl g #[.string ⟨p.id.toArray⟩, .string ⟨p.sum.toArray⟩, .string tb, .int .i64 (A : Nat), .int .i64 (N : Nat)] rfl rfl 65 (ptC p) M2.out size_part rfl (one5 _ _ _ _ _) ?_))
      have M3 := Lib.hid (M2.out.setRow #[.string ⟨p.id.toArray⟩, .string ⟨p.sum.toArray⟩, .string tb, .int .i64 (A : Nat), .int .i64 (N : Nat)])
      refine bodyPost_ret (results_ct rfl _ _ g 65 _ (0, 0) _ rfl M3.out Tryd.underlying65 rfl rfl) rfl ?_
      exact ⟨below_of_only B2.out (only_setRow (only_refl _ _) _) (by rw [← hg.out]; exact Nat.le_refl _) B2.out.size, _, rfl, one5 _ _ _ _ _, by rw [HOK.out]; rfl, fun _ => by rw [HP.out, ptC, hA.out, hN.out, HTB.out] <;> rfl⟩
    · have d1 : decide ((N : Int) < 1) = false := decide_eq_false (by omega)
      by_cases hn2 : 11 < N
      · have d2 : decide (11 < (N : Int)) = true := decide_eq_true (by omega)
        have HOK := Lib.hid (show okP s = false by
          unfold okP
          rw [HP.out, decide_eq_false (show ¬ (1 ≤ p.many ∧ p.many ≤ 11 ∧ p.at_ < p.many) by rw [hA.out, hN.out]; omega)]
          simp)
        clear hn1 hn2
        go_wp2_with (first
          | ((with_reducible refine gate_store (t := 65) (p := 2) (v := .tmp 38) rfl ?_); refine wpList_store_row rfl 65 (.tmp 2) (.tmp 38) rfl g #[.string ⟨p.id.toArray⟩, .string ⟨p.sum.toArray⟩, .string tb, .int .i64 (A : Nat), .int .i64 (N : Nat)] rfl rfl 65 (ptC p) M2.out size_part rfl (one5 _ _ _ _ _) ?_))
        have M3 := Lib.hid (M2.out.setRow #[.string ⟨p.id.toArray⟩, .string ⟨p.sum.toArray⟩, .string tb, .int .i64 (A : Nat), .int .i64 (N : Nat)])
        refine bodyPost_ret (results_ct rfl _ _ g 65 _ (0, 0) _ rfl M3.out Tryd.underlying65 rfl rfl) rfl ?_
        exact ⟨below_of_only B2.out (only_setRow (only_refl _ _) _) (by rw [← hg.out]; exact Nat.le_refl _) B2.out.size, _, rfl, one5 _ _ _ _ _, by rw [HOK.out]; rfl, fun _ => by rw [HP.out, ptC, hA.out, hN.out, HTB.out] <;> rfl⟩
      · have d2 : decide (11 < (N : Int)) = false := decide_eq_false (by omega)
        by_cases hn3 : N ≤ A
        · have d3 : decide ((N : Int) ≤ (A : Int)) = true := decide_eq_true (by omega)
          have HOK := Lib.hid (show okP s = false by
            unfold okP
            rw [HP.out, decide_eq_false (show ¬ (1 ≤ p.many ∧ p.many ≤ 11 ∧ p.at_ < p.many) by rw [hA.out, hN.out]; omega)]
            simp)
          clear hn1 hn2
          go_wp2_with (first
            | ((with_reducible refine gate_store (t := 65) (p := 2) (v := .tmp 38) rfl ?_); refine wpList_store_row rfl 65 (.tmp 2) (.tmp 38) rfl g #[.string ⟨p.id.toArray⟩, .string ⟨p.sum.toArray⟩, .string tb, .int .i64 (A : Nat), .int .i64 (N : Nat)] rfl rfl 65 (ptC p) M2.out size_part rfl (one5 _ _ _ _ _) ?_))
          have M3 := Lib.hid (M2.out.setRow #[.string ⟨p.id.toArray⟩, .string ⟨p.sum.toArray⟩, .string tb, .int .i64 (A : Nat), .int .i64 (N : Nat)])
          refine bodyPost_ret (results_ct rfl _ _ g 65 _ (0, 0) _ rfl M3.out Tryd.underlying65 rfl rfl) rfl ?_
          exact ⟨below_of_only B2.out (only_setRow (only_refl _ _) _) (by rw [← hg.out]; exact Nat.le_refl _) B2.out.size, _, rfl, one5 _ _ _ _ _, by rw [HOK.out]; rfl, fun _ => by rw [HP.out, ptC, hA.out, hN.out, HTB.out] <;> rfl⟩
        · have d3 : decide ((N : Int) ≤ (A : Int)) = false := decide_eq_false (by omega)
          have d3n : A < N := by omega
          have hpl : p.text.length = tb.size := by rw [← HTB.out]; simp [ByteArray.size]
          have HOKE := Lib.hid (show okP s = decide (lowP p ≤ tb.size ∧ ((tb.size : Nat) : Int) ≤ highP p) by
            unfold okP
            rw [HP.out, decide_eq_true (show 1 ≤ p.many ∧ p.many ≤ 11 ∧ p.at_ < p.many by rw [hA.out, hN.out]; omega), decide_eq_true (show 16 ≤ s.length by have := H16.out; omega), ← HPT.out.2.2, hpl]
            rfl)
          have hw1 : wrap64 ((N : Int) - 1) = (N : Int) - 1 := by unfold wrap64; omega
          by_cases hlast : A + 1 = N
          · have d4 : ((A : Int) == (N : Int) - 1) = true := beq_iff_eq.mpr (by omega)
            rcases (show A = 0 ∨ A = 10 ∨ (1 ≤ A ∧ A ≤ 9) by omega) with h0 | h0 | h0
            · obtain rfl : A = 0 := h0
              obtain rfl : N = 1 := by omega
              have HLO := Lib.hid (show lowP p = 0 by unfold lowP; rw [hA.out, hN.out]; decide)
              have HHI := Lib.hid (show highP p = 200 by unfold highP; rw [hA.out, hN.out]; decide)
              clear hn1 hn2 hn3 hlast d1 d2 d3 d3n d4 hw1 hA2 hN2
              rcases Classical.em ((tb.size : Int) ≤ 200) with h2 | h2
              · have d6 : decide ((tb.size : Int) ≤ 200) = true := decide_eq_true h2
                have h1 : (0 : Int) ≤ (tb.size : Int) := by omega
                have HOK := Lib.hid (show okP s = true by rw [HOKE.out]; refine decide_eq_true ?_; rw [HLO.out, HHI.out]; exact ⟨by omega, by omega⟩)
                go_wp2_with (first
                  | ((with_reducible refine gate_store (t := 65) (p := 2) (v := .tmp 54) rfl ?_); refine wpList_store_row rfl 65 (.tmp 2) (.tmp 54) rfl g #[.string ⟨p.id.toArray⟩, .string ⟨p.sum.toArray⟩, .string tb, .int .i64 0, .int .i64 1] rfl rfl 65 (ptC p) M2.out size_part rfl (one5 _ _ _ _ _) ?_))
                have M3 := Lib.hid (M2.out.setRow #[.string ⟨p.id.toArray⟩, .string ⟨p.sum.toArray⟩, .string tb, .int .i64 0, .int .i64 1])
                refine bodyPost_ret (results_ct rfl _ _ g 65 _ (0, 0) _ rfl M3.out Tryd.underlying65 rfl rfl) rfl ?_
                exact ⟨below_of_only B2.out (only_setRow (only_refl _ _) _) (by rw [← hg.out]; exact Nat.le_refl _) B2.out.size, _, rfl, one5 _ _ _ _ _, by rw [HOK.out]; rfl, fun _ => by rw [HP.out, ptC, hA.out, hN.out, HTB.out] <;> rfl⟩
              · have d6 : decide ((tb.size : Int) ≤ 200) = false := decide_eq_false h2
                have h1 : (0 : Int) ≤ (tb.size : Int) := by omega
                have h2' : 200 < (tb.size : Int) := by omega
                have HOK := Lib.hid (show okP s = false by rw [HOKE.out]; refine decide_eq_false ?_; rw [HLO.out, HHI.out]; rintro ⟨_, h⟩; omega)
                clear h2
                go_wp2_with (first
                  | ((with_reducible refine gate_store (t := 65) (p := 2) (v := .tmp 54) rfl ?_); refine wpList_store_row rfl 65 (.tmp 2) (.tmp 54) rfl g #[.string ⟨p.id.toArray⟩, .string ⟨p.sum.toArray⟩, .string tb, .int .i64 0, .int .i64 1] rfl rfl 65 (ptC p) M2.out size_part rfl (one5 _ _ _ _ _) ?_))
                have M3 := Lib.hid (M2.out.setRow #[.string ⟨p.id.toArray⟩, .string ⟨p.sum.toArray⟩, .string tb, .int .i64 0, .int .i64 1])
                refine bodyPost_ret (results_ct rfl _ _ g 65 _ (0, 0) _ rfl M3.out Tryd.underlying65 rfl rfl) rfl ?_
                exact ⟨below_of_only B2.out (only_setRow (only_refl _ _) _) (by rw [← hg.out]; exact Nat.le_refl _) B2.out.size, _, rfl, one5 _ _ _ _ _, by rw [HOK.out]; rfl, fun _ => by rw [HP.out, ptC, hA.out, hN.out, HTB.out] <;> rfl⟩
            · obtain rfl : A = 10 := h0
              obtain rfl : N = 11 := by omega
              have HLO := Lib.hid (show lowP p = 1 by unfold lowP; rw [hA.out, hN.out]; decide)
              have HHI := Lib.hid (show highP p = 48 by unfold highP; rw [hA.out, hN.out]; decide)
              clear hn1 hn2 hn3 hlast d1 d2 d3 d3n d4 hw1 hA2 hN2
              rcases Classical.em (1 ≤ (tb.size : Int)) with h1 | h1
              · have d5 : decide (1 ≤ (tb.size : Int)) = true := decide_eq_true h1
                rcases Classical.em ((tb.size : Int) ≤ 48) with h2 | h2
                · have d6 : decide ((tb.size : Int) ≤ 48) = true := decide_eq_true h2
                  have HOK := Lib.hid (show okP s = true by rw [HOKE.out]; refine decide_eq_true ?_; rw [HLO.out, HHI.out]; exact ⟨by omega, by omega⟩)
                  go_wp2_with (first
                    | ((with_reducible refine gate_store (t := 65) (p := 2) (v := .tmp 54) rfl ?_); refine wpList_store_row rfl 65 (.tmp 2) (.tmp 54) rfl g #[.string ⟨p.id.toArray⟩, .string ⟨p.sum.toArray⟩, .string tb, .int .i64 10, .int .i64 11] rfl rfl 65 (ptC p) M2.out size_part rfl (one5 _ _ _ _ _) ?_))
                  have M3 := Lib.hid (M2.out.setRow #[.string ⟨p.id.toArray⟩, .string ⟨p.sum.toArray⟩, .string tb, .int .i64 10, .int .i64 11])
                  refine bodyPost_ret (results_ct rfl _ _ g 65 _ (0, 0) _ rfl M3.out Tryd.underlying65 rfl rfl) rfl ?_
                  exact ⟨below_of_only B2.out (only_setRow (only_refl _ _) _) (by rw [← hg.out]; exact Nat.le_refl _) B2.out.size, _, rfl, one5 _ _ _ _ _, by rw [HOK.out]; rfl, fun _ => by rw [HP.out, ptC, hA.out, hN.out, HTB.out] <;> rfl⟩
                · have d6 : decide ((tb.size : Int) ≤ 48) = false := decide_eq_false h2
                  have h2' : 48 < (tb.size : Int) := by omega
                  have HOK := Lib.hid (show okP s = false by rw [HOKE.out]; refine decide_eq_false ?_; rw [HLO.out, HHI.out]; rintro ⟨_, h⟩; omega)
                  clear h2
                  go_wp2_with (first
                    | ((with_reducible refine gate_store (t := 65) (p := 2) (v := .tmp 54) rfl ?_); refine wpList_store_row rfl 65 (.tmp 2) (.tmp 54) rfl g #[.string ⟨p.id.toArray⟩, .string ⟨p.sum.toArray⟩, .string tb, .int .i64 10, .int .i64 11] rfl rfl 65 (ptC p) M2.out size_part rfl (one5 _ _ _ _ _) ?_))
                  have M3 := Lib.hid (M2.out.setRow #[.string ⟨p.id.toArray⟩, .string ⟨p.sum.toArray⟩, .string tb, .int .i64 10, .int .i64 11])
                  refine bodyPost_ret (results_ct rfl _ _ g 65 _ (0, 0) _ rfl M3.out Tryd.underlying65 rfl rfl) rfl ?_
                  exact ⟨below_of_only B2.out (only_setRow (only_refl _ _) _) (by rw [← hg.out]; exact Nat.le_refl _) B2.out.size, _, rfl, one5 _ _ _ _ _, by rw [HOK.out]; rfl, fun _ => by rw [HP.out, ptC, hA.out, hN.out, HTB.out] <;> rfl⟩
              · have d5 : decide (1 ≤ (tb.size : Int)) = false := decide_eq_false h1
                have h1' : (tb.size : Int) < 1 := by omega
                have HOK := Lib.hid (show okP s = false by rw [HOKE.out]; refine decide_eq_false ?_; rw [HLO.out]; rintro ⟨h, _⟩; omega)
                clear h1
                go_wp2_with (first
                  | ((with_reducible refine gate_store (t := 65) (p := 2) (v := .tmp 54) rfl ?_); refine wpList_store_row rfl 65 (.tmp 2) (.tmp 54) rfl g #[.string ⟨p.id.toArray⟩, .string ⟨p.sum.toArray⟩, .string tb, .int .i64 10, .int .i64 11] rfl rfl 65 (ptC p) M2.out size_part rfl (one5 _ _ _ _ _) ?_))
                have M3 := Lib.hid (M2.out.setRow #[.string ⟨p.id.toArray⟩, .string ⟨p.sum.toArray⟩, .string tb, .int .i64 10, .int .i64 11])
                refine bodyPost_ret (results_ct rfl _ _ g 65 _ (0, 0) _ rfl M3.out Tryd.underlying65 rfl rfl) rfl ?_
                exact ⟨below_of_only B2.out (only_setRow (only_refl _ _) _) (by rw [← hg.out]; exact Nat.le_refl _) B2.out.size, _, rfl, one5 _ _ _ _ _, by rw [HOK.out]; rfl, fun _ => by rw [HP.out, ptC, hA.out, hN.out, HTB.out] <;> rfl⟩
            · have HLO := Lib.hid (show lowP p = 1 by unfold lowP; rw [hA.out, hN.out, if_pos hlast]; omega)
              have HHI := Lib.hid (show highP p = 200 by unfold highP; rw [hA.out, hN.out, if_pos hlast]; omega)
              have hw2 : wrap64 (200 * (A : Int)) = 200 * (A : Int) := by unfold wrap64; omega
              have hw3 : wrap64 (2048 - 200 * (A : Int)) = 2048 - 200 * (A : Int) := by unfold wrap64; omega
              have e7 : 1 ≤ (N : Int) - 1 := by omega
              have e8 : 200 ≤ 2048 - 200 * (A : Int) := by omega
              clear hn1 hn2 hn3 hlast h0
              rcases Classical.em (1 ≤ (tb.size : Int)) with h1 | h1
              · have d5 : decide (1 ≤ (tb.size : Int)) = true := decide_eq_true h1
                rcases Classical.em ((tb.size : Int) ≤ 200) with h2 | h2
                · have d6 : decide ((tb.size : Int) ≤ 200) = true := decide_eq_true h2
                  have HOK := Lib.hid (show okP s = true by rw [HOKE.out]; refine decide_eq_true ?_; rw [HLO.out, HHI.out]; exact ⟨by omega, by omega⟩)
                  go_wp2_with (first
                    | ((with_reducible refine gate_store (t := 65) (p := 2) (v := .tmp 54) rfl ?_); refine wpList_store_row rfl 65 (.tmp 2) (.tmp 54) rfl g #[.string ⟨p.id.toArray⟩, .string ⟨p.sum.toArray⟩, .string tb, .int .i64 (A : Nat), .int .i64 (N : Nat)] rfl rfl 65 (ptC p) M2.out size_part rfl (one5 _ _ _ _ _) ?_))
                  have M3 := Lib.hid (M2.out.setRow #[.string ⟨p.id.toArray⟩, .string ⟨p.sum.toArray⟩, .string tb, .int .i64 (A : Nat), .int .i64 (N : Nat)])
                  refine bodyPost_ret (results_ct rfl _ _ g 65 _ (0, 0) _ rfl M3.out Tryd.underlying65 rfl rfl) rfl ?_
                  exact ⟨below_of_only B2.out (only_setRow (only_refl _ _) _) (by rw [← hg.out]; exact Nat.le_refl _) B2.out.size, _, rfl, one5 _ _ _ _ _, by rw [HOK.out]; rfl, fun _ => by rw [HP.out, ptC, hA.out, hN.out, HTB.out] <;> rfl⟩
                · have d6 : decide ((tb.size : Int) ≤ 200) = false := decide_eq_false h2
                  have h2' : 200 < (tb.size : Int) := by omega
                  have HOK := Lib.hid (show okP s = false by rw [HOKE.out]; refine decide_eq_false ?_; rw [HLO.out, HHI.out]; rintro ⟨_, h⟩; omega)
                  clear h2
                  go_wp2_with (first
                    | ((with_reducible refine gate_store (t := 65) (p := 2) (v := .tmp 54) rfl ?_); refine wpList_store_row rfl 65 (.tmp 2) (.tmp 54) rfl g #[.string ⟨p.id.toArray⟩, .string ⟨p.sum.toArray⟩, .string tb, .int .i64 (A : Nat), .int .i64 (N : Nat)] rfl rfl 65 (ptC p) M2.out size_part rfl (one5 _ _ _ _ _) ?_))
                  have M3 := Lib.hid (M2.out.setRow #[.string ⟨p.id.toArray⟩, .string ⟨p.sum.toArray⟩, .string tb, .int .i64 (A : Nat), .int .i64 (N : Nat)])
                  refine bodyPost_ret (results_ct rfl _ _ g 65 _ (0, 0) _ rfl M3.out Tryd.underlying65 rfl rfl) rfl ?_
                  exact ⟨below_of_only B2.out (only_setRow (only_refl _ _) _) (by rw [← hg.out]; exact Nat.le_refl _) B2.out.size, _, rfl, one5 _ _ _ _ _, by rw [HOK.out]; rfl, fun _ => by rw [HP.out, ptC, hA.out, hN.out, HTB.out] <;> rfl⟩
              · have d5 : decide (1 ≤ (tb.size : Int)) = false := decide_eq_false h1
                have h1' : (tb.size : Int) < 1 := by omega
                have HOK := Lib.hid (show okP s = false by rw [HOKE.out]; refine decide_eq_false ?_; rw [HLO.out]; rintro ⟨h, _⟩; omega)
                clear h1
                go_wp2_with (first
                  | ((with_reducible refine gate_store (t := 65) (p := 2) (v := .tmp 54) rfl ?_); refine wpList_store_row rfl 65 (.tmp 2) (.tmp 54) rfl g #[.string ⟨p.id.toArray⟩, .string ⟨p.sum.toArray⟩, .string tb, .int .i64 (A : Nat), .int .i64 (N : Nat)] rfl rfl 65 (ptC p) M2.out size_part rfl (one5 _ _ _ _ _) ?_))
                have M3 := Lib.hid (M2.out.setRow #[.string ⟨p.id.toArray⟩, .string ⟨p.sum.toArray⟩, .string tb, .int .i64 (A : Nat), .int .i64 (N : Nat)])
                refine bodyPost_ret (results_ct rfl _ _ g 65 _ (0, 0) _ rfl M3.out Tryd.underlying65 rfl rfl) rfl ?_
                exact ⟨below_of_only B2.out (only_setRow (only_refl _ _) _) (by rw [← hg.out]; exact Nat.le_refl _) B2.out.size, _, rfl, one5 _ _ _ _ _, by rw [HOK.out]; rfl, fun _ => by rw [HP.out, ptC, hA.out, hN.out, HTB.out] <;> rfl⟩
          · have d4 : ((A : Int) == (N : Int) - 1) = false := beq_eq_false_iff_ne.mpr (by omega)
            have HLO := Lib.hid (show lowP p = 200 by unfold lowP; rw [hA.out, hN.out, if_neg hlast])
            have HHI := Lib.hid (show highP p = 200 by unfold highP; rw [hA.out, hN.out, if_neg hlast])
            clear hn1 hn2 hn3 hlast
            rcases Classical.em (200 ≤ (tb.size : Int)) with h1 | h1
            · have d5 : decide (200 ≤ (tb.size : Int)) = true := decide_eq_true h1
              rcases Classical.em ((tb.size : Int) ≤ 200) with h2 | h2
              · have d6 : decide ((tb.size : Int) ≤ 200) = true := decide_eq_true h2
                have HOK := Lib.hid (show okP s = true by rw [HOKE.out]; refine decide_eq_true ?_; rw [HLO.out, HHI.out]; exact ⟨by omega, by omega⟩)
                go_wp2_with (first
                  | ((with_reducible refine gate_store (t := 65) (p := 2) (v := .tmp 54) rfl ?_); refine wpList_store_row rfl 65 (.tmp 2) (.tmp 54) rfl g #[.string ⟨p.id.toArray⟩, .string ⟨p.sum.toArray⟩, .string tb, .int .i64 (A : Nat), .int .i64 (N : Nat)] rfl rfl 65 (ptC p) M2.out size_part rfl (one5 _ _ _ _ _) ?_))
                have M3 := Lib.hid (M2.out.setRow #[.string ⟨p.id.toArray⟩, .string ⟨p.sum.toArray⟩, .string tb, .int .i64 (A : Nat), .int .i64 (N : Nat)])
                refine bodyPost_ret (results_ct rfl _ _ g 65 _ (0, 0) _ rfl M3.out Tryd.underlying65 rfl rfl) rfl ?_
                exact ⟨below_of_only B2.out (only_setRow (only_refl _ _) _) (by rw [← hg.out]; exact Nat.le_refl _) B2.out.size, _, rfl, one5 _ _ _ _ _, by rw [HOK.out]; rfl, fun _ => by rw [HP.out, ptC, hA.out, hN.out, HTB.out] <;> rfl⟩
              · have d6 : decide ((tb.size : Int) ≤ 200) = false := decide_eq_false h2
                have h2' : 200 < (tb.size : Int) := by omega
                have HOK := Lib.hid (show okP s = false by rw [HOKE.out]; refine decide_eq_false ?_; rw [HLO.out, HHI.out]; rintro ⟨_, h⟩; omega)
                clear h2
                go_wp2_with (first
                  | ((with_reducible refine gate_store (t := 65) (p := 2) (v := .tmp 54) rfl ?_); refine wpList_store_row rfl 65 (.tmp 2) (.tmp 54) rfl g #[.string ⟨p.id.toArray⟩, .string ⟨p.sum.toArray⟩, .string tb, .int .i64 (A : Nat), .int .i64 (N : Nat)] rfl rfl 65 (ptC p) M2.out size_part rfl (one5 _ _ _ _ _) ?_))
                have M3 := Lib.hid (M2.out.setRow #[.string ⟨p.id.toArray⟩, .string ⟨p.sum.toArray⟩, .string tb, .int .i64 (A : Nat), .int .i64 (N : Nat)])
                refine bodyPost_ret (results_ct rfl _ _ g 65 _ (0, 0) _ rfl M3.out Tryd.underlying65 rfl rfl) rfl ?_
                exact ⟨below_of_only B2.out (only_setRow (only_refl _ _) _) (by rw [← hg.out]; exact Nat.le_refl _) B2.out.size, _, rfl, one5 _ _ _ _ _, by rw [HOK.out]; rfl, fun _ => by rw [HP.out, ptC, hA.out, hN.out, HTB.out] <;> rfl⟩
            · have d5 : decide (200 ≤ (tb.size : Int)) = false := decide_eq_false h1
              have h1' : (tb.size : Int) < 200 := by omega
              have HOK := Lib.hid (show okP s = false by rw [HOKE.out]; refine decide_eq_false ?_; rw [HLO.out]; rintro ⟨h, _⟩; omega)
              clear h1
              go_wp2_with (first
                | ((with_reducible refine gate_store (t := 65) (p := 2) (v := .tmp 54) rfl ?_); refine wpList_store_row rfl 65 (.tmp 2) (.tmp 54) rfl g #[.string ⟨p.id.toArray⟩, .string ⟨p.sum.toArray⟩, .string tb, .int .i64 (A : Nat), .int .i64 (N : Nat)] rfl rfl 65 (ptC p) M2.out size_part rfl (one5 _ _ _ _ _) ?_))
              have M3 := Lib.hid (M2.out.setRow #[.string ⟨p.id.toArray⟩, .string ⟨p.sum.toArray⟩, .string tb, .int .i64 (A : Nat), .int .i64 (N : Nat)])
              refine bodyPost_ret (results_ct rfl _ _ g 65 _ (0, 0) _ rfl M3.out Tryd.underlying65 rfl rfl) rfl ?_
              exact ⟨below_of_only B2.out (only_setRow (only_refl _ _) _) (by rw [← hg.out]; exact Nat.le_refl _) B2.out.size, _, rfl, one5 _ _ _ _ _, by rw [HOK.out]; rfl, fun _ => by rw [HP.out, ptC, hA.out, hN.out, HTB.out] <;> rfl⟩
end Go.Proofs.YtlogcgeinbefjaaDoor

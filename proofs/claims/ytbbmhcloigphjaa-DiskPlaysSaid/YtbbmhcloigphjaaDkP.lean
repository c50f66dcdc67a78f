/- A disk as plain data, and where it lies in memory. -/
import Derived.Test.YtbbmhcloigphjaaCopy
import Derived.Test.YtbbmhcloigphjaaArr
import Derived.Lib.Hide
namespace Go.Proofs.Ytbbmhcloigphjaa
open Go.RowKit
set_option linter.unusedSimpArgs false
set_option linter.unusedVariables false
/-- a write that waits: where, what was there, what is new. -/
structure Wt where
  at_ : Nat
  old : List UInt8
  new : List UInt8
/-- a disk. -/
structure Dk where
  l : List (List UInt8)
  w : List Wt
  fuse : Int
  down : Bool
def Dk.there (d : Dk) (i : Int) : Int := if d.down then 150 else if i < 0 ∨ (d.l.length : Int) ≤ i then 1 else 0
def Dk.burn (d : Dk) : Dk := if 0 < d.fuse then { d with fuse := d.fuse - 1, down := d.down || decide (d.fuse = 1) } else d
def Dk.put (d : Dk) (i : Nat) (s : List UInt8) : Dk := { d with l := d.l.set i s, w := d.w ++ [⟨i, d.l.getD i [], s⟩] }
def Dk.write (d : Dk) (i : Int) (s : List UInt8) : Int × Dk :=
  if d.there i ≠ 0 then (d.there i, d) else if s.length ≠ 64 then (3, d) else if d.burn.down then (150, d.burn) else (0, d.burn.put i.toNat s)
def Dk.read (d : Dk) (i : Int) : List UInt8 × Int := if d.there i ≠ 0 then ([], d.there i) else (d.l.getD i.toNat [], 0)
def Dk.sync (d : Dk) : Int × Dk := if d.down then (150, d) else if d.burn.down then (150, d.burn) else (0, { d.burn with w := [] })
def Dk.setFuse (d : Dk) (n : Int) : Int × Dk := if d.down then (150, d) else if n < 0 ∨ 1048576 < n then (1, d) else (0, { d with fuse := n })
/-- what waits is taken back, the last first. -/
def undo (l : List (List UInt8)) (w : List Wt) : List (List UInt8) := w.foldr (fun x l => l.set x.at_ x.old) l
/-- how many bytes of write i are picked. -/
def pickN (picks : List Int) (i : Nat) : Nat := if i < picks.length then (((picks.getD i 0).tmod 65 + 65).tmod 65).toNat else 0
def tear (l : List (List UInt8)) (x : Wt) (p : Nat) : List (List UInt8) := l.set x.at_ (x.new.take p ++ (l.getD x.at_ []).drop p)
def redo (picks : List Int) : Nat → List (List UInt8) → List Wt → List (List UInt8)
  | _, l, [] => l
  | i, l, x :: r => redo picks (i + 1) (tear l x (pickN picks i)) r
def Dk.crash (d : Dk) (picks : List Int) : Dk := { l := redo picks 0 (undo d.l d.w) d.w, w := [], fuse := 0, down := false }
structure Dk.Ok (d : Dk) : Prop where
  l : ∀ x ∈ d.l, x.length = 64
  w : ∀ x ∈ d.w, x.at_ < d.l.length ∧ x.old.length = 64 ∧ x.new.length = 64
  n : d.l.length ≤ 1024
  f : 0 ≤ d.fuse ∧ d.fuse ≤ 1048576
/-! ### Where it lies -/
def flat (l : List (List UInt8)) : List Value := l.flatMap cb
def Wt.vals (x : Wt) : List Value := .int .i64 (x.at_ : Nat) :: (cb x.old ++ cb x.new)
def flatW (w : List Wt) : List Value := w.flatMap Wt.vals
def isV (b : Bool) : Int := if b then 1 else 0
def dkCells (a : Nat) (vw : Value) (d : Dk) : Array Value := #[.slice (some ⟨a, 0, none⟩) d.l.length d.l.length, vw, .int .i64 d.fuse, .int .i64 (isV d.down)]
structure DkA (B : Nat) (w : World) (g a : Nat) (vw : Value) (d : Dk) : Prop where
  hg : Blk w g 60 (dkCells a vw d)
  ha : Blk w a 64 (flat d.l).toArray
  hw : w.ownsRow B 66 129 vw d.w.length (flatW d.w)
  bg : B ≤ g
  ba : B ≤ a
  ok : d.Ok
def DkAt (B : Nat) (w : World) (g : Nat) (d : Dk) : Prop := ∃ a vw, DkA B w g a vw d
/-- what a disk's call leaves as it was: all below B, and all blocks that are no disk's. -/
structure Fr (B : Nat) (w w' : World) : Prop where
  b : Below B w w'
  f : ∀ (k : Nat) (cs : Array Value) (t : TypeId) (fz : Nat × Nat), w.heap[k]? = some (Obj.cells cs t fz) → t ≠ 60 → t ≠ 64 → t ≠ 66 → w'.heap[k]? = w.heap[k]?
section
variable {B : Nat} {w w' w'' : World} {g a : Nat} {vw : Value} {d : Dk}
theorem Fr.refl (B : Nat) (w : World) : Fr B w w := ⟨Below.refl _ _, fun _ _ _ _ _ _ _ _ => rfl⟩
theorem Fr.trans (h : Fr B w w') (k : Fr B w' w'') : Fr B w w'' :=
  ⟨h.b.trans k.b, fun j cs t fz hj h1 h2 h3 => by
    have e := h.f j cs t fz hj h1 h2 h3
    exact (k.f j cs t fz (e.trans hj) h1 h2 h3).trans e⟩
theorem heap_lt {w : World} {k : Nat} {o : Obj} (h : w.heap[k]? = some o) : k < w.heap.size := by
  rcases Nat.lt_or_ge k w.heap.size with hlt | hge
  · exact hlt
  · rw [Array.getElem?_eq_none hge] at h; cases h
theorem Fr.of (h : Below w.heap.size w w') (hB : B ≤ w.heap.size) : Fr B w w' :=
  ⟨h.mono hB, fun k cs t fz hk _ _ _ => h.block k (heap_lt hk)⟩
theorem Fr.below (h : Fr B w w') (k : Below w'.heap.size w' w'') (hB : B ≤ w'.heap.size) : Fr B w w'' := h.trans (Fr.of k hB)
/-- a disk's blocks are of these types. -/
def DkT (t : TypeId) : Prop := t = 60 ∨ t = 64 ∨ t = 66
theorem Fr.grown {row : Option Nat} (h : w.grownBy w' row) (hb : Below B w w') (hr : ∀ k, row = some k → ∃ (cs : Array Value) (t : TypeId) (fz : Nat × Nat), w.heap[k]? = some (Obj.cells cs t fz) ∧ DkT t) : Fr B w w' :=
  ⟨hb, fun k cs t fz hk h1 h2 h3 => by
    refine h.block k (heap_lt hk) (fun e => ?_)
    obtain ⟨cs', t', fz', hk', ht⟩ := hr k e.symm
    rw [hk] at hk'
    injection hk' with hk'
    injection hk' with e1 e2 e3
    subst e2
    rcases ht with ht | ht | ht
    · exact h1 ht
    · exact h2 ht
    · exact h3 ht⟩
theorem Fr.set_ {t : TypeId} {cs : Array Value} (hk : Blk w g t cs) (ht : DkT t) (hB : B ≤ g) (i : Nat) (u : Value) : Fr B w (w.setCell ⟨g, i, none⟩ u) :=
  Fr.grown (row := some g) (only_set (only_refl _ _) (.inl rfl) u) ((Below.refl _ _).setCell hB u) (fun k e => by injection e with e; subst e; exact ⟨cs, t, _, hk, ht⟩)
theorem Fr.setCells {t : TypeId} {cs : Array Value} (hk : Blk w g t cs) (ht : DkT t) (hB : B ≤ g) (o : Nat) (vs : List Value) : Fr B w (w.setCells g o vs) := by
  have hO := only_setCells (b := g) vs o (only_refl w (some g))
  exact Fr.grown (row := some g) hO (below_of_only (Below.refl _ _) hO hB (Nat.le_of_lt (Nat.lt_of_le_of_lt hB hk.lt))) (fun k e => by injection e with e; subst e; exact ⟨cs, t, _, hk, ht⟩)
theorem owns_typed {e : TypeId} {s n : Nat} {v : Value} {xs : List Value} (h : w.ownsRow B e s v n xs) : ∀ k, v.ownBlock = some k → ∃ cs, Blk w k e cs := by
  intro k hk
  rcases h.2 with ⟨rfl, _⟩ | ⟨g, cap, cur, rfl, _, hc, _⟩
  · cases hk
  · injection hk with hk; subst hk; exact ⟨cur, hc⟩
theorem Blk.type {t t' : TypeId} {cs cs' : Array Value} (h : Blk w g t cs) (k : Blk w g t' cs') : t = t' ∧ cs = cs' := by
  unfold Blk at h k
  rw [h] at k
  injection k with k
  injection k with e1 e2 e3
  exact ⟨e2, e1⟩
theorem Blk.apart {t t' : TypeId} {cs cs' : Array Value} {g' : Nat} (h : Blk w g t cs) (k : Blk w g' t' cs') (ht : t ≠ t') : g ≠ g' := fun e => ht (by subst e; exact (h.type k).1)
theorem DkA.ne (h : DkA B w g a vw d) : g ≠ a := h.hg.apart h.ha (by decide)
theorem DkA.neW (h : DkA B w g a vw d) : some g ≠ vw.ownBlock ∧ some a ≠ vw.ownBlock :=
  ⟨fun e => by obtain ⟨cs, hk⟩ := owns_typed h.hw _ e.symm; exact h.hg.apart hk (by decide) rfl, fun e => by obtain ⟨cs, hk⟩ := owns_typed h.hw _ e.symm; exact h.ha.apart hk (by decide) rfl⟩
theorem DkA.hB (h : DkA B w g a vw d) : B ≤ w.heap.size := Nat.le_of_lt (Nat.lt_of_le_of_lt h.bg h.hg.lt)
theorem DkA.below (h : DkA B w g a vw d) (hb : Below w.heap.size w w') : DkA B w' g a vw d :=
  ⟨h.hg.below hb h.hg.lt, h.ha.below hb h.ha.lt, World.ownsRow.kept h.hw (row := none) ⟨hb.os, hb.tape, hb.output, hb.size, fun k hk _ => hb.block k hk⟩ (Classical.em _), h.bg, h.ba, h.ok⟩
/-- a field of the disk is set. -/
theorem owns_far {e : TypeId} {s n : Nat} {v : Value} {xs : List Value} (h : w.ownsRow B e s v n xs) {p : Addr} (hp : some p.block ≠ v.ownBlock) (u : Value) : (w.setCell p u).ownsRow B e s v n xs :=
  World.ownsRow.kept h (row := some p.block) (only_set (only_refl _ _) (.inl rfl) u) (.inr (fun e => hp e.symm))
end
end Go.Proofs.Ytbbmhcloigphjaa

/- The reference's disk as plain data, and where it lies; its scalar calls (burns, Fuse). -/
import Derived.Test.YtbbmhcloigphjaaDkV
namespace Go.Proofs.Ytbbmhcloigphjaa
open Go.RowKit Go.Proofs.YtbbmhcloigphjaaW.PrintWords Go.Proofs.YtbbmhcloigphjaaW.PrintLast
set_option linter.unusedSimpArgs false
set_option linter.unusedVariables false
structure Rw where
  at_ : Nat
  text : List UInt8
structure Rk where
  s : List (List UInt8)
  l : List Rw
  left : Int
  down : Bool
def Rw.vals (x : Rw) : List Value := [.int .i64 (x.at_ : Nat), .string ⟨x.text.toArray⟩]
def flatR (l : List Rw) : List Value := l.flatMap Rw.vals
theorem flatR_len (l : List Rw) : (flatR l).length = l.length * 2 := by
  induction l with
  | nil => rfl
  | cons x r ih =>
    have e : flatR (x :: r) = x.vals ++ flatR r := by simp [flatR]
    rw [e, List.length_append, ih]
    show 2 + r.length * 2 = (r.length + 1) * 2
    omega
theorem flatR_snoc (l : List Rw) (x : Rw) : flatR (l ++ [x]) = flatR l ++ x.vals := by simp [flatR]
theorem flatR_get (l : List Rw) (i : Nat) (hi : i < l.length) : (flatR l)[2 * i]? = some (.int .i64 ((l[i]).at_ : Nat)) ∧ (flatR l)[2 * i + 1]? = some (.string ⟨(l[i]).text.toArray⟩) := by
  have h1 : (flatR (l.take i)).length = 2 * i := by rw [flatR_len, List.length_take]; omega
  have e : flatR l = flatR (l.take i) ++ ((l[i]).vals ++ flatR (l.drop (i + 1))) := by
    have e : l = l.take i ++ l[i] :: l.drop (i + 1) := by rw [← List.drop_eq_getElem_cons hi, List.take_append_drop]
    conv => lhs; rw [e]
    unfold flatR
    rw [List.flatMap_append, List.flatMap_cons]
  rw [e]
  refine ⟨?_, ?_⟩
  · rw [List.getElem?_append_right (Nat.le_of_eq h1), h1, Nat.sub_self]; rfl
  · rw [List.getElem?_append_right (by omega), h1, show 2 * i + 1 - 2 * i = 1 by omega]; rfl
structure Rk.Ok (r : Rk) : Prop where
  s : ∀ x ∈ r.s, x.length = 64
  l : ∀ x ∈ r.l, x.at_ < r.s.length ∧ x.text.length = 64
  n : r.s.length ≤ 1024
  f : 0 ≤ r.left ∧ r.left ≤ 1048576
def rkCells (va vl : Value) (r : Rk) : Array Value := #[va, vl, .int .i64 r.left, .bool r.down, .int .i64 (r.s.length : Nat)]
structure RkA (B : Nat) (w : World) (g : Nat) (va vl : Value) (r : Rk) : Prop where
  hg : Blk w g 54 (rkCells va vl r)
  hs : w.ownsRow B 9 1 va r.s.length (cstr r.s)
  hl : w.ownsRow B 68 2 vl r.l.length (flatR r.l)
  bg : B ≤ g
  ok : r.Ok
def RkT (t : TypeId) : Prop := t = 54 ∨ t = 9 ∨ t = 68
/-- what a call of the reference's disk leaves as it was. -/
structure Gr (B : Nat) (w w' : World) : Prop where
  b : Below B w w'
  f : ∀ (k : Nat) (cs : Array Value) (t : TypeId) (fz : Nat × Nat), w.heap[k]? = some (Obj.cells cs t fz) → ¬ RkT t → w'.heap[k]? = w.heap[k]?
section
variable {B : Nat} {w w' w'' : World} {g : Nat} {va vl : Value} {r : Rk}
theorem Gr.refl (B : Nat) (w : World) : Gr B w w := ⟨Below.refl _ _, fun _ _ _ _ _ _ => rfl⟩
theorem Gr.trans (h : Gr B w w') (k : Gr B w' w'') : Gr B w w'' :=
  ⟨h.b.trans k.b, fun j cs t fz hj h1 => by
    have e := h.f j cs t fz hj h1
    exact (k.f j cs t fz (e.trans hj) h1).trans e⟩
theorem Gr.of (h : Below w.heap.size w w') (hB : B ≤ w.heap.size) : Gr B w w' := ⟨h.mono hB, fun k cs t fz hk _ => h.block k (heap_lt hk)⟩
theorem Gr.below (h : Gr B w w') (k : Below w'.heap.size w' w'') (hB : B ≤ w'.heap.size) : Gr B w w'' := h.trans (Gr.of k hB)
theorem Gr.drew (h : Gr B w w') : Gr B w w'.drew := ⟨Go.Proofs.YtbbmhcloigphjaaW.PrintWords.below_drew h.b, h.f⟩
theorem Gr.grown {row : Option Nat} (h : w.grownBy w' row) (hb : Below B w w') (hr : ∀ k, row = some k → ∃ (cs : Array Value) (t : TypeId) (fz : Nat × Nat), w.heap[k]? = some (Obj.cells cs t fz) ∧ RkT t) : Gr B w w' :=
  ⟨hb, fun k cs t fz hk h1 => by
    refine h.block k (heap_lt hk) (fun e => ?_)
    obtain ⟨cs', t', fz', hk', ht⟩ := hr k e.symm
    rw [hk] at hk'
    injection hk' with hk'
    injection hk' with e1 e2 e3
    subst e2
    exact h1 ht⟩
theorem Gr.set_ {t : TypeId} {cs : Array Value} (hk : Blk w g t cs) (ht : RkT t) (hB : B ≤ g) (i : Nat) (u : Value) : Gr B w (w.setCell ⟨g, i, none⟩ u) :=
  Gr.grown (row := some g) (only_set (only_refl _ _) (.inl rfl) u) ((Below.refl _ _).setCell hB u) (fun k e => by injection e with e; subst e; exact ⟨cs, t, _, hk, ht⟩)
theorem RkA.hB (h : RkA B w g va vl r) : B ≤ w.heap.size := Nat.le_of_lt (Nat.lt_of_le_of_lt h.bg h.hg.lt)
theorem RkA.below (h : RkA B w g va vl r) (hb : Below w.heap.size w w') : RkA B w' g va vl r :=
  ⟨h.hg.below hb h.hg.lt, World.ownsRow.kept h.hs (row := none) ⟨hb.os, hb.tape, hb.output, hb.size, fun k hk _ => hb.block k hk⟩ (Classical.em _), World.ownsRow.kept h.hl (row := none) ⟨hb.os, hb.tape, hb.output, hb.size, fun k hk _ => hb.block k hk⟩ (Classical.em _), h.bg, h.ok⟩
theorem RkA.drew (h : RkA B w g va vl r) : RkA B w.drew g va vl r := ⟨h.hg, h.hs, h.hl, h.bg, h.ok⟩
theorem RkA.neS (h : RkA B w g va vl r) : some g ≠ va.ownBlock := fun e => by obtain ⟨cs, hk⟩ := owns_typed h.hs _ e.symm; exact h.hg.apart hk (by decide) rfl
theorem RkA.neL (h : RkA B w g va vl r) : some g ≠ vl.ownBlock := fun e => by obtain ⟨cs, hk⟩ := owns_typed h.hl _ e.symm; exact h.hg.apart hk (by decide) rfl
theorem RkA.neSL (h : RkA B w g va vl r) : va.ownBlock = none ∨ va.ownBlock ≠ vl.ownBlock := by
  rcases hv : va.ownBlock with _ | k
  · exact .inl rfl
  · refine .inr fun e => ?_
    obtain ⟨cs, hk⟩ := owns_typed h.hs _ hv
    obtain ⟨cs', hk'⟩ := owns_typed h.hl _ e.symm
    exact absurd (hk.type hk').1 (by decide)
theorem RkA.c0 (h : RkA B w g va vl r) : w.cell? ⟨g, 0, none⟩ = some va := h.hg.cell 0
theorem RkA.c1 (h : RkA B w g va vl r) : w.cell? ⟨g, 1, none⟩ = some vl := h.hg.cell 1
theorem RkA.c2 (h : RkA B w g va vl r) : w.cell? ⟨g, 2, none⟩ = some (.int .i64 r.left) := h.hg.cell 2
theorem RkA.c3 (h : RkA B w g va vl r) : w.cell? ⟨g, 3, none⟩ = some (.bool r.down) := h.hg.cell 3
theorem RkA.c4 (h : RkA B w g va vl r) : w.cell? ⟨g, 4, none⟩ = some (.int .i64 (r.s.length : Nat)) := h.hg.cell 4
theorem RkA.setLeft (h : RkA B w g va vl r) (n : Int) (hn : 0 ≤ n ∧ n ≤ 1048576) : RkA B (w.setCell ⟨g, 2, none⟩ (.int .i64 n)) g va vl { r with left := n } :=
  ⟨h.hg.set_ 2 _, owns_far h.hs h.neS _, owns_far h.hl h.neL _, h.bg, ⟨h.ok.s, h.ok.l, h.ok.n, hn⟩⟩
theorem RkA.setDown (h : RkA B w g va vl r) (b : Bool) : RkA B (w.setCell ⟨g, 3, none⟩ (.bool b)) g va vl { r with down := b } :=
  ⟨h.hg.set_ 3 _, owns_far h.hs h.neS _, owns_far h.hl h.neL _, h.bg, ⟨h.ok.s, h.ok.l, h.ok.n, h.ok.f⟩⟩
theorem RkA.setNil (h : RkA B w g va vl r) : RkA B (w.setCell ⟨g, 1, none⟩ (.slice none 0 0)) g va (.slice none 0 0) { r with l := [] } :=
  ⟨h.hg.set_ 1 _, owns_far h.hs h.neS _, World.ownsRow_nil _ _ _ _, h.bg, ⟨h.ok.s, fun x hx => (by cases hx), h.ok.n, h.ok.f⟩⟩
theorem RkA.grG (h : RkA B w g va vl r) (i : Nat) (u : Value) : Gr B w (w.setCell ⟨g, i, none⟩ u) := Gr.set_ h.hg (.inl rfl) h.bg i u
def RkAt (B : Nat) (w : World) (g : Nat) (r : Rk) : Prop := ∃ va vl, RkA B w g va vl r
def Rk.burn (r : Rk) : Rk := if r.left = 0 then r else { r with left := r.left - 1, down := decide (r.left = 1) }
def Rk.burnB (r : Rk) : Bool := if r.left = 0 then false else decide (r.left = 1)
theorem burns_any (h : RkA B w g va vl r) :
    Calls Try.prog 30 #[.pointer (some ⟨g, 0, none⟩)] w fun e w' => e = .returned (.bool r.burnB) ∧ RkA B w' g va vl r.burn ∧ Gr B w w' := by
  have hf := h.ok.f
  have c2 := h.c2
  have c3 := h.c3
  have f2 := h.hg.frozen 2
  have f3 := h.hg.frozen 3
  by_cases h0 : r.left = 0
  · have e1 : r.burnB = false := if_pos h0
    have e2 : r.burn = r := if_pos h0
    rw [e1, e2]
    rw [h0] at c2
    clear h0 e1 e2 hf
    go_enter Try.func30, Try.ntmps30
    go_wp2
    go_ret
    exact ⟨rfl, h, Gr.refl _ _⟩
  · have e1 : r.burnB = decide (r.left = 1) := if_neg h0
    have e2 : r.burn = { r with left := r.left - 1, down := decide (r.left = 1) } := if_neg h0
    rw [e1, e2]
    by_cases h1 : r.left = 1
    · have hq := (h.setLeft 0 (by omega)).setDown true
      have hF := (h.grG 2 (.int .i64 0)).trans ((h.setLeft 0 (by omega)).grG 3 (.bool true))
      rw [show ({ r with left := r.left - 1, down := decide (r.left = 1) } : Rk) = { r with left := 0, down := true } by simp [h1], show decide (r.left = 1) = true by simp [h1]]
      rw [h1] at c2
      clear h0 h1 hf e1 e2
      go_enter Try.func30, Try.ntmps30
      go_wp2
      go_ret
      exact ⟨rfl, hq, hF⟩
    · have hq := (h.setLeft (r.left - 1) (by omega)).setDown false
      have hF := (h.grG 2 (.int .i64 (r.left - 1))).trans ((h.setLeft (r.left - 1) (by omega)).grG 3 (.bool false))
      rw [show decide (r.left = 1) = false by simp [h1]]
      have hw : Go.RowKit.wrap64 (r.left - 1) = r.left - 1 := by unfold Go.RowKit.wrap64; omega
      have hz : ((r.left - 1 : Int) == 0) = false := beq_eq_false_iff_ne.mpr (by omega)
      have hz0 : (r.left == 0) = false := beq_eq_false_iff_ne.mpr h0
      clear e1 e2
      go_enter Try.func30, Try.ntmps30
      go_wp2
      go_ret
      exact ⟨rfl, hq, hF⟩
def Rk.setFuse (r : Rk) (n : Int) : Int × Rk := if r.down then (150, r) else if n < 0 ∨ 1048576 < n then (1, r) else (0, { r with left := n })
theorem rfuse_any (h : RkA B w g va vl r) (n : Int) :
    Calls Try.prog 23 #[.pointer (some ⟨g, 0, none⟩), .int .i64 n] w fun e w' => e = .returned (.int .i64 (r.setFuse n).1) ∧ RkA B w' g va vl (r.setFuse n).2 ∧ Gr B w w' := by
  have c3 := h.c3
  have f2 := h.hg.frozen 2
  have c2 := h.c2
  by_cases hd : r.down = true
  · have er : r.setFuse n = (150, r) := by simp [Rk.setFuse, hd]
    rw [er]
    rw [hd] at c3
    clear hd er
    go_enter Try.func23, Try.ntmps23
    go_wp2
    go_ret
    exact ⟨rfl, h, Gr.refl _ _⟩
  · rw [show r.down = false by simpa using hd] at c3
    by_cases h0 : n < 0
    · have er : r.setFuse n = (1, r) := by simp [Rk.setFuse, hd, h0]
      rw [er]
      clear hd er
      go_enter Try.func23, Try.ntmps23
      go_wp2
      go_ret
      exact ⟨rfl, h, Gr.refl _ _⟩
    · by_cases h1 : 1048576 < n
      · have er : r.setFuse n = (1, r) := by simp [Rk.setFuse, hd, h1]
        rw [er]
        clear hd er
        go_enter Try.func23, Try.ntmps23
        go_wp2
        go_ret
        exact ⟨rfl, h, Gr.refl _ _⟩
      · have er : r.setFuse n = (0, { r with left := n }) := by simp [Rk.setFuse, hd, h0, h1]
        rw [er]
        have hq := h.setLeft n (by omega)
        have hF := h.grG 2 (.int .i64 n)
        clear hd er
        go_enter Try.func23, Try.ntmps23
        go_wp2
        go_ret
        exact ⟨rfl, hq, hF⟩
end
end Go.Proofs.Ytbbmhcloigphjaa

/- Words of this session for a slice that the call itself made: append, make, store, read, 'string(b)', each as the equation of its run. -/
import Derived.Test.YtidilhnjfdkmpaaBase
import Derived.Lib.AppendStr
import Derived.Laws.OwnMore
import Derived.OwnWalk
namespace Go.Proofs.Ytidilhnjfdkmpaa
open Go.RowKit
set_option linter.unusedSimpArgs false
set_option linter.unusedVariables false

/-- a slice of one-cell elements, made by the call since block B. -/
def Own (e : TypeId) (w : World) (B : Nat) (v : Value) (xs : List Value) : Prop := w.ownsRow B e 1 v xs.length xs
/-- what is known of the elements' type. -/
def Elem (P : Program) (t e : TypeId) (z : Value) (by_ : Nat) : Prop :=
  P.underlying t = some (.slice e) ∧ (P.info? e).map (fun i => (i.zero, i.size, i.bytes)) = some (some z, 1, by_) ∧ z.cells.size = 1

section
variable {P : Program} {t e ty : TypeId} {z : Value} {by_ : Nat} {w w' : World} {B : Nat} {v : Value} {xs : List Value}
theorem Own.form (h : Own e w B v xs) : ∃ A c, v = .slice A xs.length c := by
  rcases h.2 with ⟨h1, h2⟩ | ⟨g, cap, cur, h1, _⟩
  · exact ⟨none, 0, by rw [h1, h2]⟩
  · exact ⟨_, _, h1⟩
theorem Own.alloc (h : Own e w B v xs) (o : Obj) : Own e (w.alloc o) B v xs := World.ownsRow.alloc h o
theorem Own.drew (h : Own e w B v xs) : Own e w.drew B v xs := h
theorem Own.drewN (h : Own e w B v xs) (n : Nat) : Own e (w.drewN n) B v xs := h
theorem Own.lt (h : Own e w B v xs) : ∀ k, v.ownBlock = some k → B ≤ k ∧ k < w.heap.size := World.ownsRow.lt h
theorem Own.below (h : Own e w B v xs) (hb : Below w.heap.size w w') : Own e w' B v xs := by
  refine World.ownsRow.kept (row := none) h ⟨hb.os, hb.tape, hb.output, hb.size, fun k hk _ => hb.block k hk⟩ ?_
  cases hv : v.ownBlock with
  | none => exact .inl rfl
  | some g => exact .inr (by simp)
theorem Own.grown (h : Own e w B v xs) {row : Option Nat} (hg : w.grownBy w' row) (hne : v.ownBlock = none ∨ v.ownBlock ≠ row) : Own e w' B v xs := World.ownsRow.kept h hg hne
/-- 'make([]T, n)'. -/
theorem own_make (he : Elem P t e z by_) (w : World) (kl kc : IntKind) (n : Nat) (hb : by_ * n ≤ 281474976710656) (hl : n ≤ 9223372036854775807) (hB : B ≤ w.heap.size) :
    ∃ w', (Instr.makeSlice t (.int kl (n : Int)) (.int kc (n : Int))).run P w = .ok (.slice (some ⟨w.heap.size, 0, none⟩) n n) w' ∧ Own e w' B (.slice (some ⟨w.heap.size, 0, none⟩) n n) (List.replicate n z.cells[0]!) ∧ w.grownBy w' none := by
  obtain ⟨i, hi, hz, hs, hby⟩ := info_parts he.2.1
  obtain ⟨w', hr, h2, h3⟩ := run_make_full (P := P) w B t e i z 1 he.1 hi hz hs kl kc n (by rw [hby]; exact hb) hl hB
  refine ⟨w', hr, ?_, h3⟩
  have hz1 : z.cells = #[z.cells[0]!] := by
    have := he.2.2
    match hc : z.cells, this with
    | ⟨[x]⟩, _ => rfl
  rw [hz1, Nat.mul_one, toList_madeCells_one] at h2
  unfold Own
  rw [List.length_replicate]
  exact h2
theorem Own.cell {g cap : Nat} {n : Nat} (h : Own e w B (.slice (some ⟨g, 0, none⟩) n cap) xs) (j : Nat) (hj : j < xs.length) : w.cell? ⟨g, j, none⟩ = xs[j]? := by
  obtain ⟨A, c, hv⟩ := h.form
  injection hv with h1 h2 h3
  subst h2
  exact World.ownsRow.cellAt h j (by omega)
theorem Own.frozen {g cap n : Nat} (h : Own e w B (.slice (some ⟨g, 0, none⟩) n cap) xs) (j : Nat) : w.frozen? ⟨g, j, none⟩ = false := by
  obtain ⟨A, c, hv⟩ := h.form
  injection hv with h1 h2 h3
  subst h2
  exact World.ownsRow.frozenAt h j
theorem Own.set_ {g cap n : Nat} (h : Own e w B (.slice (some ⟨g, 0, none⟩) n cap) xs) (j : Nat) (u : Value) : Own e (w.setCell ⟨g, j, none⟩ u) B (.slice (some ⟨g, 0, none⟩) n cap) (xs.set j u) := by
  obtain ⟨A, c, hv⟩ := h.form
  injection hv with h1 h2 h3
  subst h2
  have := (World.ownsRow.stored h j u).1
  unfold Own
  rw [List.length_set]
  exact this
theorem Own.at_ {A : Option Addr} {n cap : Nat} (h : Own e w B (.slice A n cap) xs) (hn : 0 < xs.length) : ∃ g, A = some ⟨g, 0, none⟩ ∧ B ≤ g ∧ g < w.heap.size := by
  rcases h.2 with ⟨h1, h2⟩ | ⟨g, cap', cur, h1, hB, hg, h3⟩
  · omega
  · injection h1 with h1 _ _
    refine ⟨g, h1, hB, ?_⟩
    rcases Nat.lt_or_ge g w.heap.size with hlt | hge
    · exact hlt
    · rw [Array.getElem?_eq_none hge] at hg; cases hg
/-- 'string(b)'. -/
theorem my_own_string (hs : P.underlying t = some (.slice e)) (he : P.underlying e = some (.int .u8)) {d : TypeId} (hd : P.underlying d = some .string) {l : List UInt8} (h : Own e w B v (cb l)) :
    (convert t d v).run P w = .ok (.string ⟨l.toArray⟩) w := by
  rcases h.2 with ⟨h1, h2⟩ | ⟨g, cap, cur, h1, _⟩
  · have hl : l = [] := by simpa [cb] using h2
    subst hl; subst h1
    exact run_convert_bytes_nil w t e hs he 0 0 d hd
  · subst h1
    have hl : l.length = (cb l).length := by simp [cb]
    refine run_bytes_cells w t d e hs he hd g 0 cap l _ hl (fun i hi => ?_)
    rw [Nat.zero_add, h.cell i hi]
    rw [← hl] at hi
    simp [cb, bd, List.getElem?_eq_getElem hi]
end
/-- a slice of ints that came in. -/
def Ints (w : World) (A : Option Addr) (n : Nat) (zs : List Int) : Prop :=
  zs.length = n ∧ (0 < n → ∃ g o, A = some ⟨g, o, none⟩ ∧ g < w.heap.size ∧ ∀ i, i < n → w.cell? ⟨g, o + i, none⟩ = some (.int .i64 (zs.getD i 0)))
theorem Ints.below {w w' : World} {A : Option Addr} {n : Nat} {ls : List Int} (h : Ints w A n ls) (hb : Below w.heap.size w w') : Ints w' A n ls :=
  ⟨h.1, fun hn => by
    obtain ⟨g, o, e, hg, hc⟩ := h.2 hn
    exact ⟨g, o, e, Nat.lt_of_lt_of_le hg hb.size, fun i hi => (hb.cell (p := ⟨g, o + i, none⟩) hg).trans (hc i hi)⟩⟩
end Go.Proofs.Ytidilhnjfdkmpaa

/- Windows: rows of the call's own that begin anywhere in their block (a queue that forgets its oldest). -/
import Derived.Test.YtlogcgeinbefjaaDoorOwn
import Derived.Deep.AppendSrc
namespace Go.Proofs.YtlogcgeinbefjaaDoor
open Go.RowKit
set_option linter.unusedSimpArgs false
set_option linter.unusedVariables false
/-- all but the blocks of S is as it was. -/
structure Kp (S : Nat → Prop) (w w' : World) : Prop where
  os : w'.os = w.os
  tape : w'.tape = w.tape
  output : w'.output = w.output
  size : w.heap.size ≤ w'.heap.size
  block : ∀ i, i < w.heap.size → ¬ S i → w'.heap[i]? = w.heap[i]?
section
variable {S S' : Nat → Prop} {w w' w'' : World}
theorem Kp.refl (S : Nat → Prop) (w : World) : Kp S w w := ⟨rfl, rfl, rfl, Nat.le_refl _, fun _ _ _ => rfl⟩
theorem Kp.trans (h : Kp S w w') (k : Kp S w' w'') : Kp S w w'' :=
  ⟨k.os.trans h.os, k.tape.trans h.tape, k.output.trans h.output, Nat.le_trans h.size k.size, fun i hi hs => (k.block i (Nat.lt_of_lt_of_le hi h.size) hs).trans (h.block i hi hs)⟩
theorem Kp.mono (h : Kp S w w') (hs : ∀ i, i < w.heap.size → S i → S' i) : Kp S' w w' := ⟨h.os, h.tape, h.output, h.size, fun i hi hn => h.block i hi (fun hS => hn (hs i hi hS))⟩
theorem Kp.of_below (h : Below w.heap.size w w') : Kp S w w' := ⟨h.os, h.tape, h.output, h.size, fun i hi _ => h.block i hi⟩
theorem Kp.set_ {g : Nat} (hS : S g) (i : Nat) (u : Value) : Kp S w (w.setCell ⟨g, i, none⟩ u) :=
  ⟨rfl, rfl, rfl, by simp [World.setCell], fun k hk hs => Below.heap_setCell w ⟨g, i, none⟩ u k (fun e => hs (by subst e; exact hS))⟩
theorem Kp.grown {row : Option Nat} (h : w.grownBy w' row) (hS : ∀ k, row = some k → k < w.heap.size → S k) : Kp S w w' :=
  ⟨h.os, h.tape, h.output, h.size, fun i hi hs => h.block i hi (fun e => hs (hS i e.symm hi))⟩
theorem Kp.below {B : Nat} (h : Kp S w w') (hS : ∀ i, S i → B ≤ i) (hB : B ≤ w.heap.size) : Below B w w' :=
  ⟨h.os, h.tape, h.output, h.size, fun i hi => h.block i (Nat.lt_of_lt_of_le hi hB) (fun hs => by have := hS i hs; omega)⟩
theorem Blk.kp {g : Nat} {t : TypeId} {cs : Array Value} (h : Blk w g t cs) (k : Kp S w w') (hn : ¬ S g) : Blk w' g t cs := (k.block g h.lt hn).trans h
end
/-- a window. -/
def Win (e : TypeId) (w : World) (B : Nat) (v : Value) (xs : List Value) : Prop :=
  (v = .slice none 0 0 ∧ xs = []) ∨ ∃ b off cap cur, v = .slice (some ⟨b, off, none⟩) xs.length cap ∧ B ≤ b ∧ Blk w b e cur ∧ off + cap ≤ cur.size ∧ xs.length ≤ cap ∧ cap ≤ 9223372036854775807 ∧ ∀ i, i < xs.length → cur[off + i]? = xs[i]?
section
variable {P : Program} {e t ty : TypeId} {w w' : World} {B : Nat} {v : Value} {xs : List Value} {z : Value} {by_ : Nat} {S : Nat → Prop}
theorem Win.nil (e : TypeId) (w : World) (B : Nat) : Win e w B (.slice none 0 0) [] := .inl ⟨rfl, rfl⟩
theorem Win.kp (h : Win e w B v xs) (k : Kp S w w') (hn : ∀ b, v.ownBlock = some b → ¬ S b) : Win e w' B v xs := by
  rcases h with h | ⟨b, off, cap, cur, rfl, h1, h2, h3⟩
  · exact .inl h
  · exact .inr ⟨b, off, cap, cur, rfl, h1, h2.kp k (hn b rfl), h3⟩
theorem Win.below (h : Win e w B v xs) (hb : Below w.heap.size w w') : Win e w' B v xs := h.kp (S := fun _ => False) (Kp.of_below hb) (fun _ _ h => h)
theorem Win.form (h : Win e w B v xs) : ∃ A c, v = .slice A xs.length c ∧ xs.length ≤ c ∧ c ≤ 9223372036854775807 := by
  rcases h with ⟨rfl, rfl⟩ | ⟨b, off, cap, cur, rfl, h1, h2, h3, h4, h5, _⟩
  · exact ⟨none, 0, rfl, Nat.le_refl _, by decide⟩
  · exact ⟨_, cap, rfl, h4, h5⟩
theorem Win.at_ (h : Win e w B v xs) (i : Nat) (hi : i < xs.length) : ∃ b off cap, v = .slice (some ⟨b, off, none⟩) xs.length cap ∧ B ≤ b ∧ b < w.heap.size ∧ w.cell? ⟨b, off + i, none⟩ = xs[i]? := by
  rcases h with ⟨rfl, rfl⟩ | ⟨b, off, cap, cur, rfl, h1, h2, h3, h4, h5, h6⟩
  · simp at hi
  · exact ⟨b, off, cap, rfl, h1, h2.lt, (h2.cell (off + i)).trans (h6 i hi)⟩
theorem Win.typed (h : Win e w B v xs) : ∀ b, v.ownBlock = some b → B ≤ b ∧ ∃ cs, Blk w b e cs := by
  intro b hb
  rcases h with ⟨rfl, _⟩ | ⟨b', off, cap, cur, rfl, h1, h2, _⟩
  · cases hb
  · injection hb with hb; subst hb; exact ⟨h1, cur, h2⟩
/-- 'xs[1:]'. -/
theorem Win.tail (h : Win e w B v xs) {x : Value} {r : List Value} (hx : xs = x :: r) : ∃ b off off' cap, v = .slice (some ⟨b, off, none⟩) xs.length cap ∧ 1 ≤ cap ∧ off' = (if cap = 1 then off else off + 1) ∧ Win e w B (.slice (some ⟨b, off', none⟩) r.length (cap - 1)) r := by
  subst hx
  rcases h with ⟨_, h⟩ | ⟨b, off, cap, cur, rfl, h1, h2, h3, h4, h5, h6⟩
  · cases h
  · simp only [List.length_cons] at h4
    refine ⟨b, off, _, cap, rfl, by omega, rfl, .inr ⟨b, _, cap - 1, cur, rfl, h1, h2, ?_, by omega, by omega, fun i hi => ?_⟩⟩
    · split <;> omega
    · have hc : cap ≠ 1 := by omega
      rw [if_neg hc]
      have := h6 (i + 1) (by simp; omega)
      rw [show off + 1 + i = off + (i + 1) by omega, this]
      rfl
theorem cells_first (size n : Nat) (w' : World) (v : Value) (xs : List Value) (h : Win e w' B v xs) (h1 : ∀ u ∈ xs, u.oneCell' = true) : (Builtin.firstCells 1 xs.length v).run P w' = .ok xs.toArray w' := by
  rcases h with ⟨rfl, rfl⟩ | ⟨b, off, cap, cur, rfl, _, h2, _, _, _, h6⟩
  · exact run_firstCells_none (P := P) w' 1 0 0 0
  · refine run_firstCells_some (P := P) w' 1 xs.length ⟨b, off, none⟩ xs.length cap xs (by simp) (fun j u hj => ?_)
    have hjl := (List.getElem?_eq_some_iff.1 hj).1
    have := (h2.cell (off + j)).trans (h6 j hjl)
    rw [hj] at this
    unfold Addr.add
    split
    · rename_i h0; subst h0; simpa using this
    · exact this
/-- one is appended. -/
theorem win_append (he : Elem P t e z by_) (h : Win e w B v xs) (h1 : ∀ u ∈ xs, u.oneCell' = true) (g c : Nat) (x : Value) (hx : w.cell? ⟨g, 0, none⟩ = some x) (hx1 : x.oneCell' = true) (hl : (xs.length + 1) * by_ ≤ 140737488355328) (hl2 : xs.length + 1 ≤ 9223372036854775807) (hB : B ≤ w.heap.size) :
    ∃ v' w', (Builtin.append_ #[t, t] ty #[v, .slice (some ⟨g, 0, none⟩) 1 c]).run P w = .ok v' w' ∧ Win e w' B v' (xs ++ [x]) ∧ w.grownBy w' v.ownBlock ∧ (v'.ownBlock = v.ownBlock ∨ v'.ownBlock = some w.heap.size) := by
  obtain ⟨i, hi, hz, hs, hby⟩ := info_parts he.2.1
  have hS : Src P i.size t (.slice (some ⟨g, 0, none⟩) 1 c) 1 [x] w := by
    rw [hs]
    refine Src.ofSlice w he.1 ⟨g, 0, none⟩ 1 c [x] (by simp) (fun j u hj => ?_) (fun u hu => by rw [List.mem_singleton.1 hu]; exact hx1)
    cases j with
    | zero => simp at hj; subst hj; simpa [Addr.add] using hx
    | succ j => simp at hj
  obtain ⟨A, cap, hv, hcap, hmax⟩ := h.form
  by_cases hroom : xs.length + 1 ≤ cap
  · rcases h with ⟨rfl, rfl⟩ | ⟨b, off, cap', cur, rfl, g1, g2, g3, g4, g5, g6⟩
    · injection hv with _ _ h3; subst h3; simp at hroom
    · injection hv with _ _ h3
      subst h3
      have hrun := run_append_room_src (P := P) w t t ty e i he.1 hi b off xs.length cap' (.slice (some ⟨g, 0, none⟩) 1 c) 1 [x] hS hroom (fun j hj => by
        rw [hs]
        have : j = 0 := by simpa using hj
        subst this
        rw [show off + xs.length * 1 + 0 = off + xs.length by omega, g2.cell]
        rw [Array.getElem?_eq_getElem (by omega)]; rfl) (fun j hj => g2.frozen _)
      rw [hs] at hrun
      refine ⟨_, _, hrun, ?_, ?_, .inl rfl⟩
      · have hset : w.setCells b (off + xs.length * 1) [x] = w.setCell ⟨b, off + xs.length, none⟩ x := by simp [World.setCells]
        rw [hset]
        refine .inr ⟨b, off, cap', cur.setIfInBounds (off + xs.length) x, by simp, g1, g2.set_ _ _, by simpa using g3, by simpa using hroom, g5, fun j hj => ?_⟩
        simp at hj
        rw [Array.getElem?_setIfInBounds]
        by_cases hjl : j < xs.length
        · rw [if_neg (by omega), g6 j hjl, List.getElem?_append_left hjl]
        · have : j = xs.length := by omega
          subst this
          rw [if_pos rfl, if_pos (by omega), List.getElem?_append_right (Nat.le_refl _)]
          simp
      · have hset : w.setCells b (off + xs.length * 1) [x] = w.setCell ⟨b, off + xs.length, none⟩ x := by simp [World.setCells]
        rw [hset]
        exact only_set (only_refl _ _) (.inl rfl) x
  · subst hv
    have hrun := run_append_grow_src (P := P) w t t ty e i z he.1 hi hz A xs.length cap xs (by
      rw [hs]
      exact cells_first (P := P) (e := e) (B := B) 1 0 w.drew (.slice A xs.length cap) xs (h.below (show Below w.heap.size w w.drew from below_drewN (Below.refl _ _) 1)) h1) (.slice (some ⟨g, 0, none⟩) 1 c) 1 [x] hS (by omega) (by omega) (growslice_fits (by omega) (by rw [hby]; exact hl))
    refine ⟨_, _, hrun, ?_, ?_, .inr rfl⟩
    · have hzs : z.cells.size = 1 := he.2.2
      have hG := grownCap_ge w (xs.length + 1) cap e
      have hGm := grownCap_le_maxLen w (xs.length + 1) cap e (by simp only [maxLen]; omega)
      refine .inr ⟨w.heap.size, 0, grownCap w (xs.length + 1) cap e, _, by simp, hB, Blk.new w.drew e _, ?_, by simpa using hG, by simpa [maxLen] using hGm, fun j hj => ?_⟩
      · rw [Array.size_append, List.size_toArray, size_zeroCells, hzs]
        simp
        omega
      · rw [Nat.zero_add, Array.getElem?_append_left (by simpa using hj), List.getElem?_toArray]
    · exact only_alloc (only_drew (only_refl _ _)) _
end
end Go.Proofs.YtlogcgeinbefjaaDoor

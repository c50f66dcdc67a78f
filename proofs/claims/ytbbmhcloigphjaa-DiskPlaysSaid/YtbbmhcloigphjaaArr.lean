/- Arrays loaded and stored whole, also in the middle of a block: by blocks known whole. -/
import Derived.Test.YtbbmhcloigphjaaBase
import Derived.Deep.MidRow
namespace Go.Proofs.Ytbbmhcloigphjaa
open Go.RowKit
set_option linter.unusedSimpArgs false
set_option linter.unusedVariables false
section
variable {P : Program} {w : World} {b : Nat} {t : TypeId} {cs : Array Value}
theorem Blk.rangeAt (h : Blk w b t cs) (o n : Nat) : w.rangeAt b o ((cs.toList.drop o).take n) := fun j v hv => by
  rw [h.cell (o + j)]
  rw [List.getElem?_take] at hv
  split at hv
  · rw [List.getElem?_drop] at hv
    simpa using hv
  · cases hv
theorem Blk.rangeAll (h : Blk w b t cs) : w.rangeAt b 0 cs.toList := fun j v hv => by
  rw [Nat.zero_add, h.cell j]
  simpa using hv
theorem Blk.thereAt (h : Blk w b t cs) (o n : Nat) (hn : o + n ≤ cs.size) : w.there b o n := fun j hj => by
  refine ⟨?_, h.frozen _⟩
  rw [h.cell (o + j), Array.getElem?_eq_getElem (by omega)]
  rfl
theorem Blk.setCells (vs : List Value) : ∀ {w : World} {cs : Array Value} (o : Nat), Blk w b t cs → o + vs.length ≤ cs.size → Blk (w.setCells b o vs) b t (cs.toList.take o ++ vs ++ cs.toList.drop (o + vs.length)).toArray := by
  induction vs with
  | nil => intro w cs o h _; simpa [World.setCells] using h
  | cons v r ih =>
    intro w cs o h ho
    rw [World.setCells]
    simp only [List.length_cons] at ho
    have := ih (o + 1) (h.set_ o v) (by simp; omega)
    have e : ((cs.setIfInBounds o v).toList.take (o + 1) ++ r ++ (cs.setIfInBounds o v).toList.drop (o + 1 + r.length)) = (cs.toList.take o ++ v :: r ++ cs.toList.drop (o + (v :: r).length)) := by
      have hlt : o < cs.toList.length := by simp; omega
      rw [Array.toList_setIfInBounds, List.drop_set_of_lt (by omega), List.take_succ_eq_append_getElem (by simpa using hlt)]
      rw [List.take_set_of_le (Nat.le_refl _), List.getElem_set_self]
      simp [Nat.add_assoc, Nat.add_comm 1]
    rw [e] at this
    exact this
theorem only_setCells (vs : List Value) : ∀ {a w : World} (o : Nat), a.grownBy w (some b) → a.grownBy (w.setCells b o vs) (some b) := by
  induction vs with
  | nil => intro a w o h; simpa [World.setCells] using h
  | cons v r ih => intro a w o h; rw [World.setCells]; exact ih (o + 1) (only_set h (.inl rfl) v)
/-- an array is loaded whole. -/
theorem wpList_load_blk {ops : Array Oper} {rest : List Oper} {op : Oper} {a : Act} {Q : Exit → Act → World → Prop} (hgd : op.guard = none) (ty : TypeId) (x : Operand) (ho : op.op = .load ty x)
    (b : Nat) (hx : a.eval x = .pointer (some ⟨b, 0, none⟩)) {cs : Array Value} {t : TypeId} (hB : Blk w b t cs) {d : TypeDesc} (hu : P.underlying ty = some d) (hd : d.isRow = true) (hi : (P.info? ty).map (·.size) = some cs.size)
    (h : wpList P ops Q rest (a.put op.dst (.agg cs)) w) : wpList P ops Q (op :: rest) a w := by
  refine wpList_load_mid hgd ty x ho b 0 hx cs.toList d hB.rangeAll hu hd (by simpa using hi) ?_
  simpa using h
/-- an array is stored whole over another. -/
theorem wpList_store_blk {ops : Array Oper} {rest : List Oper} {op : Oper} {a : Act} {Q : Exit → Act → World → Prop} (hgd : op.guard = none) (ty : TypeId) (x y : Operand) (ho : op.op = .store ty x y)
    (b : Nat) (cells : Array Value) (hx : a.eval x = .pointer (some ⟨b, 0, none⟩)) (hy : a.eval y = .agg cells) {cs : Array Value} {t : TypeId} (hB : Blk w b t cs) (hs : cells.size = cs.size) (hi : (P.info? ty).map (·.size) = some cells.size) (h1 : cells.all (·.oneCell') = true)
    (h : ∀ w', Blk w' b t cells → w.grownBy w' (some b) → wpList P ops Q rest (a.put op.dst undef) w') : wpList P ops Q (op :: rest) a w := by
  refine wpList_store_mid hgd ty x y ho b 0 cells hx hy (hB.thereAt 0 _ (by omega)) hi h1 (h _ ?_ (only_setCells _ _ (only_refl _ _)))
  have := Blk.setCells cells.toList 0 hB (by simpa using (by omega))
  have e : (cs.toList.take 0 ++ cells.toList ++ cs.toList.drop (0 + cells.toList.length)).toArray = cells := by
    rw [List.drop_eq_nil_of_le (by simp; omega)]
    simp
  rwa [e] at this
end
end Go.Proofs.Ytbbmhcloigphjaa

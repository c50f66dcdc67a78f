/- strings.Builder of the call's own: Len, WriteString walked; a builder behind a call, behind a new block. -/
import Derived.Test.YtmaomfebhbpjmaaDoorBuild
import Derived.Test.YtmaomfebhbpjmaaDoorOwn
namespace Go.Proofs.YtmaomfebhbpjmaaDoor
open Go.Shelf Go.RowKit
set_option linter.unusedSimpArgs false
set_option linter.unusedVariables false
theorem builder_below {B b : Nat} {bs : List Value} {w w' : World} (h : Lib.IsBuilder 44 5 B b bs w) (hb : Below w.heap.size w w') : Lib.IsBuilder 44 5 B b bs w' := by
  rcases h with h | h
  · obtain ⟨hB, v, hbk, hown, hne⟩ := h
    exact .inl ⟨hB, v, (hb.block b (Lib.BuilderAt.lt ⟨hB, v, hbk, hown, hne⟩)).trans hbk, Own.below hown hb, hne⟩
  · obtain ⟨hB, v, hbk, hown, hne⟩ := h
    exact .inr ⟨hB, v, (hb.block b (Lib.BuilderAt.lt ⟨hB, v, hbk, hown, hne⟩)).trans hbk, Own.below hown hb, hne⟩
theorem builder_alloc {B b : Nat} {bs : List Value} {w : World} (h : Lib.IsBuilder 44 5 B b bs w) (o : Obj) : Lib.IsBuilder 44 5 B b bs (w.alloc o) :=
  builder_below h ((Below.refl _ _).alloc (Nat.le_refl _) o)
set_option maxHeartbeats 400000 in
theorem len_any (B b : Nat) (bs : List Value) (w : World) (h : Lib.IsBuilder 44 5 B b bs w) :
    Calls Tryd.prog 27 #[.pointer (some ⟨b, 0, none⟩)] w fun e w' => e = .returned (.int .i64 bs.length) ∧ w' = w := by
  obtain ⟨v, p, hbk, hown⟩ : ∃ v p, w.heap[b]? = some (.cells #[p, v] 44 (0, 0)) ∧ w.ownsRow B 5 1 v bs.length bs := by
    rcases h with ⟨_, v, h1, h2, _⟩ | ⟨_, v, h1, h2, _⟩
    · exact ⟨v, _, h1, h2⟩
    · exact ⟨v, _, h1, h2⟩
  obtain ⟨A, c, rfl⟩ := Own.form hown
  have c1 : w.cell? ⟨b, 1, none⟩ = some (.slice A bs.length c) := by rw [Lib.cell_of_heap hbk]; rfl
  go_enter Tryd.func27, Tryd.ntmps27
  go_wp2
  go_ret
  exact ⟨rfl, rfl⟩
set_option maxHeartbeats 2000000 in
set_option maxRecDepth 100000 in
theorem writeString_any (B b : Nat) (bs : List Value) (l : List UInt8) (w : World) (h : Lib.IsBuilder 44 5 B b bs w) (hlen : bs.length + l.length ≤ 140737488355328) (hBw : B ≤ w.heap.size) :
    Calls Tryd.prog 28 #[.pointer (some ⟨b, 0, none⟩), .string ⟨l.toArray⟩] w fun e w' => e = .returned (.tuple #[.int .i64 l.length, .nilIface]) ∧ (Lib.IsBuilder 44 5 B b (bs ++ Lib.byteCells l) w' ∧ Below B w w') := by
  have hsz : (⟨l.toArray⟩ : ByteArray).size = l.length := by simp [ByteArray.size]
  have H := Lib.hid h
  clear h
  go_enter Tryd.func28, Tryd.ntmps28
  go_wp2_with fail
  refine (copyCheck_any B b bs _ H.out).mono ?_
  rintro e w1 ⟨rfl, h1, hb1⟩
  obtain ⟨hB, v, hbk, hown, hne⟩ := h1
  have c0 : w1.cell? ⟨b, 0, none⟩ = some (.pointer (some ⟨b, 0, none⟩)) := by rw [Lib.cell_of_heap hbk]; rfl
  have c1 : w1.cell? ⟨b, 1, none⟩ = some v := by rw [Lib.cell_of_heap hbk]; rfl
  have hes : Elem Tryd.prog 30 5 (.int .u8 0) 1 := ⟨Tryd.underlying30, by kernel_rfl, rfl⟩
  obtain ⟨A, c', w2, hrun, hown', hgrow⟩ := own_append_str (ty := 30) hes Tryd.underlying9 (show Own 5 w1 B v bs from hown) l hlen (Nat.le_trans hBw hb1.size)
  have hlt : b < w1.heap.size := by
    rcases Nat.lt_or_ge b w1.heap.size with h' | h'
    · exact h'
    · simp [Array.getElem?_eq_none h'] at hbk
  have hb2 : w2.heap[b]? = some (.cells #[.pointer (some ⟨b, 0, none⟩), v] 44 (0, 0)) := by
    rw [hgrow.block b hlt (fun e => hne e.symm)]
    exact hbk
  have d0 : w2.cell? ⟨b, 0, none⟩ = some (.pointer (some ⟨b, 0, none⟩)) := by rw [Lib.cell_of_heap hb2]; rfl
  have d1 : w2.cell? ⟨b, 1, none⟩ = some v := by rw [Lib.cell_of_heap hb2]; rfl
  have f1 : w2.frozen? ⟨b, 1, none⟩ = false := Lib.frozen_of_heap hb2 1
  have HR := Lib.hid hrun
  clear hrun
  go_wp2_with (at_builtin; refine wpList_append_run rfl _ _ _ _ rfl rfl rfl HR.out ?_)
  go_ret2
  refine ⟨rfl, ?_, ?_⟩
  · refine .inr (Lib.BuilderAt.put (T := 44) (e := 5) hB hb2 (bs' := bs ++ Lib.byteCells l) ?_ Builder_Extra_169.neB5)
    have h2 := hown'
    unfold Own at h2
    exact h2
  · exact (hb1.grown hgrow (by have := hb1.size; omega) (fun k hk => (hown.lt k hk).1)).setCell (p := ⟨b, 1, none⟩) hB _
end Go.Proofs.YtmaomfebhbpjmaaDoor

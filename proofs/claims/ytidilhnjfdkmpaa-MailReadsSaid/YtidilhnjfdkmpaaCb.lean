/- Bytes at hand: a row of bytes that '[]byte(s)' made, read and written in place. -/
import Derived.Test.YtidilhnjfdkmpaaOwn
namespace Go.Proofs.Ytidilhnjfdkmpaa
open Go.RowKit
set_option linter.unusedSimpArgs false
set_option linter.unusedVariables false
/-- a block's cells are these bytes, and may be written. -/
def Cb (w : World) (g : Nat) (l : List UInt8) : Prop := g < w.heap.size ∧ ∀ i, i < l.length → w.cell? ⟨g, i, none⟩ = some (.int .u8 (n8 (bd l i))) ∧ w.frozen? ⟨g, i, none⟩ = false
theorem bd_set_eq (l : List UInt8) (i : Nat) (x : UInt8) (h : i < l.length) : bd (l.set i x) i = x := by
  simp [bd, List.getD, List.getElem?_set, h]
theorem bd_set_ne (l : List UInt8) (i j : Nat) (x : UInt8) (h : i ≠ j) : bd (l.set i x) j = bd l j := by
  simp [bd, List.getD, List.getElem?_set, h]
theorem Cb.set_ {w : World} {g : Nat} {l : List UInt8} (h : Cb w g l) (i : Nat) (hi : i < l.length) (x : UInt8) : Cb (w.setCell ⟨g, i, none⟩ (.int .u8 (n8 x))) g (l.set i x) := by
  refine ⟨by simpa using h.1, fun j hj => ?_⟩
  rw [List.length_set] at hj
  refine ⟨?_, by rw [World.frozen?_setCell]; exact (h.2 j hj).2⟩
  by_cases hij : i = j
  · subst hij
    rw [bd_set_eq _ _ _ hi]
    exact World.cell?_setCell_same _ _ _ (h.2 i hi).1
  · rw [bd_set_ne _ _ _ _ hij, World.cell?_setCell_other _ _ _ _ (by simp [hij])]
    exact (h.2 j hj).1
theorem Cb.drew {w : World} {g : Nat} {l : List UInt8} (h : Cb w g l) : Cb w.drew g l := h
theorem Cb.drewN {w : World} {g : Nat} {l : List UInt8} (h : Cb w g l) (n : Nat) : Cb (w.drewN n) g l := h
theorem cb_of_string {P : Program} (w : World) (src dst e : TypeId) (l : List UInt8) (hs : P.underlying src = some .string) (hd : P.underlying dst = some (.slice e)) (he : P.underlying e = some (.int .u8)) (B : Nat) (hB : B ≤ w.heap.size) :
    ∃ cap w', (convert src dst (.string ⟨l.toArray⟩)).run P w = .ok (.slice (some ⟨w.heap.size, 0, none⟩) l.length cap) w' ∧ Cb w' w.heap.size l ∧ Below B w w' := by
  have hsz : (⟨l.toArray⟩ : ByteArray).size = l.length := by simp [ByteArray.size]
  have hr := run_bytes_of_string w src dst e ⟨l.toArray⟩ hs hd he
  rw [hsz] at hr
  refine ⟨_, _, hr, ⟨by simp, fun i hi => ⟨?_, ?_⟩⟩, ((Below.refl B w).drew).alloc (by simpa using hB) _⟩
  · have hh := heap_alloc_new w.drew (.cells (bytesRow ⟨l.toArray⟩ (grownCap w l.length 0 e)) e ((bytesRow ⟨l.toArray⟩ (grownCap w l.length 0 e)).size, (bytesRow ⟨l.toArray⟩ (grownCap w l.length 0 e)).size + 1))
    have hc := bytesRow_at ⟨l.toArray⟩ (grownCap w l.length 0 e) i (by simpa using hi)
    have hh' : (w.drew.alloc (.cells (bytesRow ⟨l.toArray⟩ (grownCap w l.length 0 e)) e ((bytesRow ⟨l.toArray⟩ (grownCap w l.length 0 e)).size, (bytesRow ⟨l.toArray⟩ (grownCap w l.length 0 e)).size + 1))).heap[w.heap.size]? = some (.cells (bytesRow ⟨l.toArray⟩ (grownCap w l.length 0 e)) e ((bytesRow ⟨l.toArray⟩ (grownCap w l.length 0 e)).size, (bytesRow ⟨l.toArray⟩ (grownCap w l.length 0 e)).size + 1)) := hh
    unfold World.cell?
    simp only [hh', Option.isSome_none, Bool.false_eq_true, if_false]
    rw [hc]
    simp [bd, n8, List.getElem?_eq_getElem hi]
  · have hh' : (w.drew.alloc (.cells (bytesRow ⟨l.toArray⟩ (grownCap w l.length 0 e)) e ((bytesRow ⟨l.toArray⟩ (grownCap w l.length 0 e)).size, (bytesRow ⟨l.toArray⟩ (grownCap w l.length 0 e)).size + 1))).heap[w.heap.size]? = some (.cells (bytesRow ⟨l.toArray⟩ (grownCap w l.length 0 e)) e ((bytesRow ⟨l.toArray⟩ (grownCap w l.length 0 e)).size, (bytesRow ⟨l.toArray⟩ (grownCap w l.length 0 e)).size + 1)) := heap_alloc_new w.drew _
    unfold World.frozen?
    simp only [hh']
    have hb : l.length ≤ (bytesRow ⟨l.toArray⟩ (grownCap w l.length 0 e)).size := by simp [bytesRow]
    simp
    omega
theorem Cb.string {P : Program} {w : World} {g : Nat} {l : List UInt8} (h : Cb w g l) (src dst e : TypeId) (cap : Nat) (hs : P.underlying src = some (.slice e)) (he : P.underlying e = some (.int .u8)) (hd : P.underlying dst = some .string) :
    (convert src dst (.slice (some ⟨g, 0, none⟩) l.length cap)).run P w = .ok (.string ⟨l.toArray⟩) w :=
  run_convert_bytes_back w src dst e ⟨g, 0, none⟩ cap l hs he hd (fun j hj => by
    have := (h.2 j hj).1
    rw [bd, List.getD, List.getElem?_eq_getElem hj] at this
    unfold Addr.add
    split
    · rename_i h0; subst h0; exact this
    · simpa [n8] using this)
end Go.Proofs.Ytidilhnjfdkmpaa

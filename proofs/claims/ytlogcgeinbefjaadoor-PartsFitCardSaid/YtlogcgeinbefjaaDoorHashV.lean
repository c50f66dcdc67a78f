/- What laws over hash share: the table below a call, slice literals of texts, joined texts. -/
import Derived.Test.YtlogcgeinbefjaaDoorHashS
namespace Go.Proofs.YtlogcgeinbefjaaDoor
open Go.RowKit
set_option linter.unusedSimpArgs false
set_option linter.unusedVariables false
set_option maxRecDepth 100000
theorem KsAt.below {w w' : World} (h : KsAt w) (hg : 1 < w.heap.size) (hb : Below w.heap.size w w') : KsAt w' := fun i hi => (hb.cell (p := ⟨1, i, none⟩) hg).trans (h i hi)
theorem strs_one (w : World) (t : TypeId) (a : List UInt8) : Strs (w.alloc (.cells #[.string ⟨a.toArray⟩] t)) (some ⟨w.heap.size, 0, none⟩) 1 [a] :=
  ⟨rfl, fun _ => ⟨w.heap.size, 0, rfl, by simp, fun i hi => by
    obtain rfl : i = 0 := by omega
    exact (Blk.new w t #[.string ⟨a.toArray⟩]).cell 0⟩⟩
theorem strs_two (w : World) (t : TypeId) (a b : List UInt8) : Strs (w.alloc (.cells #[.string ⟨a.toArray⟩, .string ⟨b.toArray⟩] t)) (some ⟨w.heap.size, 0, none⟩) 2 [a, b] :=
  ⟨rfl, fun _ => ⟨w.heap.size, 0, rfl, by simp, fun i hi => by
    rcases (show i = 0 ∨ i = 1 by omega) with rfl | rfl
    · exact (Blk.new w t #[.string ⟨a.toArray⟩, .string ⟨b.toArray⟩]).cell 0
    · exact (Blk.new w t #[.string ⟨a.toArray⟩, .string ⟨b.toArray⟩]).cell 1⟩⟩
theorem cat_eq (a b : List UInt8) : (⟨a.toArray⟩ : ByteArray) ++ (⟨b.toArray⟩ : ByteArray) = ⟨(a ++ b).toArray⟩ := by
  apply ByteArray.ext
  simp
end Go.Proofs.YtlogcgeinbefjaaDoor

/- A slice of texts that is read. -/
import Derived.Test.YtbbmhcloigphjaaOwn
namespace Go.Proofs.Ytbbmhcloigphjaa
open Go.RowKit
/-- a slice of texts. -/
def Strs (w : World) (A : Option Addr) (n : Nat) (ls : List (List UInt8)) : Prop :=
  ls.length = n ∧ (0 < n → ∃ g o, A = some ⟨g, o, none⟩ ∧ g < w.heap.size ∧ ∀ i, i < n → w.cell? ⟨g, o + i, none⟩ = some (.string ⟨(ls.getD i []).toArray⟩))
theorem Strs.below {w w' : World} {A : Option Addr} {n : Nat} {ls : List (List UInt8)} (h : Strs w A n ls) (hb : Below w.heap.size w w') : Strs w' A n ls :=
  ⟨h.1, fun hn => by
    obtain ⟨g, o, e, hg, hc⟩ := h.2 hn
    exact ⟨g, o, e, Nat.lt_of_lt_of_le hg hb.size, fun i hi => (hb.cell (p := ⟨g, o + i, none⟩) hg).trans (hc i hi)⟩⟩
end Go.Proofs.Ytbbmhcloigphjaa

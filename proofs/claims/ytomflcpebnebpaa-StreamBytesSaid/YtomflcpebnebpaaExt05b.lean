/- strings.Repeat in the print's own form (the library's contract). -/
import Derived.Test.YtomflcpebnebpaaBase
import Derived.Test.YtomflcpebnebpaaShelf
namespace Go.Proofs.Ytomflcpebnebpaa
open Go.RowKit
set_option linter.unusedSimpArgs false
set_option linter.unusedVariables false
theorem repeat_zero (m : Nat) : Lib.repeatL (⟨#[0]⟩ : ByteArray).data.toList m = List.replicate m 0 := by
  induction m with
  | zero => rfl
  | succ m ih => rw [Lib.repeatL, ih]; rfl
def strings_Repeat.f (a0 : ByteArray) (a1 : Int) : Option ByteArray := if 0 ≤ a1 ∧ a1 ≤ 140737488355328 ∧ a0.size * a1.toNat ≤ 140737488355328 then some ⟨(Lib.repeatL a0.data.toList a1.toNat).toArray⟩ else none
theorem strings_Repeat.calls (a0 : ByteArray) (a1 : Int) (r : ByteArray) (w : World) (h : strings_Repeat.f a0 a1 = some r) :
    Calls Try.prog 25 #[.string a0, .int .i64 a1] w fun e w' => e = .returned (.string r) ∧ Below w.heap.size w w' := by
  unfold strings_Repeat.f at h
  split at h
  · rename_i hs
    simp only [Option.some.injEq] at h
    subst h
    have := Try.strings_Repeat a0 a1.toNat w (by omega) hs.2.2
    rw [show ((a1.toNat : Nat) : Int) = a1 by omega] at this
    exact this
  · cases h
end Go.Proofs.Ytomflcpebnebpaa

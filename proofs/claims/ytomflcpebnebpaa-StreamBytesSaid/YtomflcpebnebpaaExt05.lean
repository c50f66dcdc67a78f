/- What the print does not take in layer 5, in the print's own form: Block, Xor, Hex, fit as functions of values, each with the proof that the Go code comes to them. -/
import Derived.Test.YtomflcpebnebpaaChaXor
import Derived.Test.YtomflcpebnebpaaHex
import Derived.Test.YtomflcpebnebpaaFit05
namespace Go.Proofs.Ytomflcpebnebpaa
open Go.RowKit
set_option linter.unusedSimpArgs false
set_option linter.unusedVariables false
def stream_Block.f (a0 a1 : ByteArray) (a2 : Int) : Option (ByteArray × Int) := some (⟨(blockL a0.data.toList a1.data.toList a2).toArray⟩, wrongN a0.data.toList.length a1.data.toList.length a2)
theorem stream_Block.calls (a0 a1 : ByteArray) (a2 : Int) (r1 : ByteArray) (r2 : Int) (w : World) (h : stream_Block.f a0 a1 a2 = some (r1, r2)) :
    Calls Try.prog 9 #[.string a0, .string a1, .int .i64 a2] w fun e w' => e = .returned (.tuple #[.string r1, .int .i64 r2]) ∧ Below w.heap.size w w' := by
  simp only [stream_Block.f, Option.some.injEq, Prod.mk.injEq] at h
  obtain ⟨rfl, rfl⟩ := h
  have := block_any a0.data.toList a1.data.toList a2 w
  rwa [← bytes_eq, ← bytes_eq] at this
def stream_Xor.f (a0 a1 : ByteArray) (a2 : Int) (a3 : ByteArray) : Option (ByteArray × Int) := if a3.size ≤ 140737488351232 then some (⟨(xorL a0.data.toList a1.data.toList a2 a3.data.toList).toArray⟩, xorE a0.data.toList a1.data.toList a2 a3.data.toList) else none
theorem stream_Xor.calls (a0 a1 : ByteArray) (a2 : Int) (a3 : ByteArray) (r1 : ByteArray) (r2 : Int) (w : World) (h : stream_Xor.f a0 a1 a2 a3 = some (r1, r2)) :
    Calls Try.prog 12 #[.string a0, .string a1, .int .i64 a2, .string a3] w fun e w' => e = .returned (.tuple #[.string r1, .int .i64 r2]) ∧ Below w.heap.size w w' := by
  unfold stream_Xor.f at h
  split at h
  · rename_i hs
    simp only [Option.some.injEq, Prod.mk.injEq] at h
    obtain ⟨rfl, rfl⟩ := h
    have := xor_any a0.data.toList a1.data.toList a2 a3.data.toList (by rw [Array.length_toList]; exact hs) w
    rwa [← bytes_eq, ← bytes_eq, ← bytes_eq] at this
  · cases h
def hash_Hex.f (a0 : ByteArray) : Option ByteArray := if 2 * a0.size ≤ 140737488355328 then some ⟨(hexL a0.data.toList).toArray⟩ else none
theorem hash_Hex.calls (a0 : ByteArray) (r : ByteArray) (w : World) (h : hash_Hex.f a0 = some r) :
    Calls Try.prog 22 #[.string a0] w fun e w' => e = .returned (.string r) ∧ Below w.heap.size w w' := by
  unfold hash_Hex.f at h
  split at h
  · rename_i hs
    simp only [Option.some.injEq] at h
    subst h
    have := hex_any a0.data.toList w (by rw [Array.length_toList]; exact hs)
    rwa [← bytes_eq] at this
  · cases h
def dovecotelaw05_fit.f (a0 : ByteArray) (a1 : Int) : Option ByteArray := if 0 ≤ a1 ∧ a1 ≤ 65536 then some ⟨(fitL a0.data.toList a1.toNat).toArray⟩ else none
theorem dovecotelaw05_fit.calls (a0 : ByteArray) (a1 : Int) (r : ByteArray) (w : World) (h : dovecotelaw05_fit.f a0 a1 = some r) :
    Calls Try.prog 14 #[.string a0, .int .i64 a1] w fun e w' => e = .returned (.string r) ∧ Below w.heap.size w w' := by
  unfold dovecotelaw05_fit.f at h
  split at h
  · rename_i hs
    simp only [Option.some.injEq] at h
    subst h
    have := fit_any a0.data.toList a1.toNat (by omega) w
    rw [← bytes_eq, show ((a1.toNat : Nat) : Int) = a1 by omega] at this
    exact this
  · cases h
end Go.Proofs.Ytomflcpebnebpaa

/- A message's parts, plainly. -/
import Derived.Test.YtlogcgeinbefjaaDoorPtF
namespace Go.Proofs.YtlogcgeinbefjaaDoor
open Go.RowKit
set_option linter.unusedSimpArgs false
set_option linter.unusedVariables false
def pieceL (b : List UInt8) (i : Nat) : List UInt8 := (b.drop (200 * i)).take 200
def cutN (b : List UInt8) : Nat := max 1 ((b.length + 199) / 200)
def partL (id b : List UInt8) (i : Nat) : List UInt8 := id ++ [UInt8.ofNat i, UInt8.ofNat (cutN b)] ++ digL id b ++ pieceL b i
def cutL (id b : List UInt8) : List (List UInt8) := (List.range (cutN b)).map (partL id b)
theorem pieces_take (b : List UInt8) : ∀ n, ((List.range n).map (pieceL b)).flatten = b.take (200 * n)
  | 0 => by simp
  | n + 1 => by
    rw [List.range_succ, List.map_append, List.flatten_append, pieces_take b n, Nat.mul_succ, List.take_add]
    simp [pieceL]
theorem cutN_le (b : List UInt8) : b.length ≤ 200 * cutN b := by unfold cutN; omega
theorem pieces_flat (b : List UInt8) : ((List.range (cutN b)).map (pieceL b)).flatten = b := by
  rw [pieces_take, List.take_of_length_le (cutN_le b)]
theorem cutN_max (b : List UInt8) (h : b.length ≤ 2048) : 1 ≤ cutN b ∧ cutN b ≤ 11 := by unfold cutN; omega
theorem pieceL_le (b : List UInt8) (i : Nat) : (pieceL b i).length ≤ 200 := by unfold pieceL; rw [List.length_take]; omega
theorem digL_length (id b : List UInt8) (h : 6 ≤ (sha (id ++ b)).length) : (digL id b).length = 6 := by unfold digL; rw [List.length_take]; omega
end Go.Proofs.YtlogcgeinbefjaaDoor

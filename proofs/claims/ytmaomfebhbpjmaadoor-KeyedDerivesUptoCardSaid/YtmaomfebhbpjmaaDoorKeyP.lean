/- HMAC-SHA-256 as plain functions on bytes; no program in sight. -/
import Derived.Test.YtmaomfebhbpjmaaDoorHashP
namespace Go.Proofs.YtmaomfebhbpjmaaDoor
set_option linter.unusedSimpArgs false
set_option linter.unusedVariables false
/-- the key, or its digest. -/
def keyL (k : List UInt8) : List UInt8 := if 64 < k.length then sha k else k
/-- .. and bytes 0 behind it. -/
def key64 (k : List UInt8) : List UInt8 := keyL k ++ List.replicate (64 - (keyL k).length) 0
def padL (k : List UInt8) (b : UInt8) : List UInt8 := (key64 k).map (· ^^^ b)
def tagL (k t : List UInt8) : List UInt8 := sha (padL k 92 ++ sha (padL k 54 ++ t))
theorem keyL_le (k : List UInt8) : (keyL k).length ≤ 64 := by
  unfold keyL
  split
  · rw [sha_length]; omega
  · omega
theorem key64_length (k : List UInt8) : (key64 k).length = 64 := by
  have := keyL_le k
  simp [key64]
  omega
theorem padL_length (k : List UInt8) (b : UInt8) : (padL k b).length = 64 := by simp [padL, key64_length]
theorem tagL_length (k t : List UInt8) : (tagL k t).length = 32 := sha_length _
/-- so many tags, one behind the other. -/
def lastL (key info : List UInt8) : Nat → List UInt8
  | 0 => []
  | i + 1 => tagL key (lastL key info i ++ info ++ [UInt8.ofNat (i + 1)])
def expandL (key info : List UInt8) : Nat → List UInt8
  | 0 => []
  | i + 1 => expandL key info i ++ lastL key info (i + 1)
theorem lastL_length (key info : List UInt8) (i : Nat) : (lastL key info (i + 1)).length = 32 := tagL_length _ _
theorem expandL_length (key info : List UInt8) (i : Nat) : (expandL key info i).length = 32 * i := by
  induction i with
  | zero => rfl
  | succ i ih => rw [expandL, List.length_append, ih, lastL_length]; omega
theorem works_tag : tagL [74, 101, 102, 101] [119, 104, 97, 116, 32, 100, 111, 32, 121, 97, 32, 119, 97, 110, 116, 32, 102, 111, 114, 32, 110, 111, 116, 104, 105, 110, 103, 63] =
    [0x5b, 0xdc, 0xc1, 0x46, 0xbf, 0x60, 0x75, 0x4e, 0x6a, 0x04, 0x24, 0x26, 0x08, 0x95, 0x75, 0xc7, 0x5a, 0x00, 0x3f, 0x08, 0x9d, 0x27, 0x39, 0x83, 0x9d, 0xec, 0x58, 0xb9, 0x64, 0xec, 0x38, 0x43] := by decide +kernel
end Go.Proofs.YtmaomfebhbpjmaaDoor

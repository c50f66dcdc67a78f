/- math/bits.RotateLeft32 walked; rows of words. -/
import Derived.Test.YtomflcpebnebpaaProg
import Derived.Test.YtomflcpebnebpaaHashP
import Derived.Outline
import Derived.Lib.Hide
namespace Go.Proofs.Ytomflcpebnebpaa
open Go.RowKit
def cw (l : List (BitVec 32)) : List Value := l.map fun x => .int .u32 (n32 x)
def wc (l : List (BitVec 32)) : Array Value := (cw l).toArray
theorem wc_size (l : List (BitVec 32)) : (wc l).size = l.length := by simp [wc, cw]
theorem wc_get (l : List (BitVec 32)) (i : Nat) (h : i < l.length) : (wc l)[i]? = some (.int .u32 (n32 (wd l i))) := by
  simp [wc, cw, wd, List.getElem?_eq_getElem h]
theorem wc_set (l : List (BitVec 32)) (i : Nat) (x : BitVec 32) : (wc l).setIfInBounds i (.int .u32 (n32 x)) = wc (l.set i x) := by
  simp [wc, cw, List.map_set]

/-- how far a count turns to the left. -/
def rotm (k : Int) : Nat := (bits .and .u64 (IntKind.u64.wrap k) 31).toNat
theorem rotm_eq (k : Int) : bits .and .u64 (IntKind.u64.wrap k) 31 = (rotm k : Int) ∧ rotm k ≤ 31 := by
  have h1 : 0 ≤ IntKind.u64.wrap k ∧ IntKind.u64.wrap k < 18446744073709551616 := by
    simp [IntKind.wrap, IntKind.bits, IntKind.signed]; omega
  have h := u64_and (IntKind.u64.wrap k) 31 h1.1 h1.2 (by decide) (by decide)
  have hle : (IntKind.u64.wrap k).toNat &&& (31 : Int).toNat ≤ 31 := Nat.and_le_right
  unfold rotm
  omega
def rrK (x : BitVec 32) (k : Int) : BitVec 32 := x <<< rotm k ||| x >>> (32 - rotm k)
theorem rrK_neg (x : BitVec 32) (n : Nat) (k : Int) (hk : rotm k = 32 - n) (hn : n ≤ 32) : rrK x k = rr x n := by
  unfold rrK rr; rw [hk, show 32 - (32 - n) = n from by omega]

set_option maxHeartbeats 400000 in
theorem rot_any (x : BitVec 32) (k : Int) (w : World) :
    Calls Try.prog 44 #[.int .u32 (n32 x), .int .i64 k] w fun e w' => e = .returned (.int .u32 (n32 (rrK x k))) ∧ w' = w := by
  obtain ⟨hk, hm⟩ := rotm_eq k
  have h0 : 0 ≤ bits .and .u64 (IntKind.u64.wrap k) 31 := by omega
  have hs : IntKind.u64.wrap (32 - bits .and .u64 (IntKind.u64.wrap k) 31) = ((32 - rotm k : Nat) : Int) := by
    rw [hk, wrap_u64e]; omega
  have h1 : 0 ≤ IntKind.u64.wrap (32 - bits .and .u64 (IntKind.u64.wrap k) 31) := by omega
  have E1 := v32_shl_var x _ (rotm k) hk (by omega)
  have E2 := v32_shr_var x _ (32 - rotm k) hs (by omega)
  have E3 : rrK x k = x <<< rotm k ||| x >>> (32 - rotm k) := rfl
  have H1 := Lib.hid hk
  have H2 := Lib.hid hs
  have H3 := Lib.hid E1
  have H4 := Lib.hid E2
  have H5 := Lib.hid E3
  clear hk hs E1 E2 E3 hm
  go_enter Try.func44, Try.ntmps44
  go_wp2
  go_ret
  refine ⟨?_, rfl⟩
  simp only [Array.getD_eq_getD_getElem?]
  simp only [H5.out, ← v32_or, ← H3.out, ← H4.out]
  rfl
end Go.Proofs.Ytomflcpebnebpaa

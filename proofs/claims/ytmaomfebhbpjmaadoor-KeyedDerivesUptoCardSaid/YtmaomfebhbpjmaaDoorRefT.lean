/- The walks of the reference's turn, ks, grown. -/
import Derived.Test.YtmaomfebhbpjmaaDoorOwnS
import Derived.Test.YtmaomfebhbpjmaaDoorHashN
import Derived.Test.YtmaomfebhbpjmaaDoorRefP
import Derived.RegionTactic
import Derived.BigRegion
import Derived.Deep.RegionLaw
import Derived.Deep.RegionHeldLaw
namespace Go.Proofs.YtmaomfebhbpjmaaDoor
open Go.RowKit
set_option linter.unusedSimpArgs false
set_option linter.unusedVariables false
set_option maxHeartbeats 400000 in
theorem turn_any (x : BitVec 32) (c : Int) (k : Nat) (hc : c = k) (hk : k ≤ 32) (w : World) :
    Calls Tryd.prog 42 #[.int .u32 (n32 x), .int .i64 c] w fun e w' => e = .returned (.int .u32 (n32 (rr x k))) ∧ w' = w.drew := by
  have h0 : 0 ≤ c := by omega
  have h1 : 0 ≤ 32 - c := by omega
  have h2 : IntKind.i64.wrap (32 - c) = 32 - c := by rw [IntKind.wrap_i64]; omega
  have E1 := v32_shr_var x c k hc hk
  have E2 := v32_shl_var x (32 - c) (32 - k) (by omega) (by omega)
  have E3 := rr_add x k hk
  have hm1 : min c.toNat 32 = c.toNat := by omega
  have hm2 : min (32 - c).toNat 32 = (32 - c).toNat := by omega
  rw [hm1] at E1
  rw [hm2] at E2
  have H3 := Lib.hid E1
  have H4 := Lib.hid E2
  have H5 := Lib.hid E3
  clear E1 E2 E3 hc hk hm1 hm2
  go_enter Tryd.func42, Tryd.ntmps42
  go_wp2_with fail
  go_region
  go_wp2_with fail
  go_ret
  refine ⟨?_, rfl⟩
  rw [← H5.out, ← v32_add, ← H3.out, ← H4.out]
  rfl
theorem ks_any (w : World) :
    Calls Tryd.prog 41 #[] w fun e w' => e = .returned (.slice (some ⟨w.heap.size, 0, none⟩) 64 64) ∧ w' = w.alloc (.cells (wc ksL) 51) := by
  go_enter Tryd.func41, Tryd.ntmps41
  go_wp2_with fail
  go_ret
  exact ⟨rfl, rfl⟩
theorem elemU32 : Elem Tryd.prog 65 51 (.int .u32 0) 4 := ⟨Tryd.underlying65, by kernel_rfl, rfl⟩
theorem cw_length (l : List (BitVec 32)) : (cw l).length = l.length := by simp [cw]
theorem cw_append (a b : List (BitVec 32)) : cw (a ++ b) = cw a ++ cw b := by simp [cw]
theorem cw_get (l : List (BitVec 32)) (i : Nat) (h : i < l.length) : (cw l)[i]? = some (.int .u32 (n32 (wd l i))) := by
  simp [cw, wd, List.getElem?_eq_getElem h]
end Go.Proofs.YtmaomfebhbpjmaaDoor

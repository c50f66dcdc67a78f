/- The walks of hash.Short. -/
import Derived.Test.YtlogcgeinbefjaaDoorHashS
namespace Go.Proofs.YtlogcgeinbefjaaDoor
open Go.RowKit
set_option linter.unusedSimpArgs false
set_option linter.unusedVariables false
set_option maxHeartbeats 800000 in
theorem short_bad (k : Int) (v : Value) (w : World) (h : k < 1 ∨ 32 < k) :
    Calls Tryd.prog 33 #[.int .i64 k, v] w fun e w' => e = .returned (.tuple #[.string ⟨#[]⟩, .int .i64 1]) ∧ w' = w := by
  by_cases h1 : k < 1
  · go_enter Tryd.func33, Tryd.ntmps33
    go_wp2_with fail
    go_ret2
    exact ⟨rfl, rfl⟩
  · have h2 : 32 < k := by omega
    go_enter Tryd.func33, Tryd.ntmps33
    go_wp2_with fail
    go_ret2
    exact ⟨rfl, rfl⟩
set_option maxHeartbeats 800000 in
theorem short_any (k : Int) (hk1 : 1 ≤ k) (hk2 : k ≤ 32) (A : Option Addr) (n c : Nat) (w : World) (ls : List (List UInt8)) (h : Strs w A n ls) (hlen : ∀ l ∈ ls, l.length ≤ 140737488355328) (hn : n ≤ 9223372036854775807) (hk : KsAt w) (hg : 1 < w.heap.size) :
    Calls Tryd.prog 33 #[.int .i64 k, .slice A n c] w fun e w' => e = .returned (.tuple #[.string ⟨((sha ls.flatten).take k.toNat).toArray⟩, .int .i64 0]) ∧ Below w.heap.size w w' := by
  obtain ⟨m, rfl⟩ := Int.eq_ofNat_of_zero_le (show 0 ≤ k by omega)
  rw [Int.toNat_natCast]
  have H := Lib.hid h
  have HL := Lib.hid hlen
  have HK := Lib.hid hk
  clear h hlen hk
  go_enter Tryd.func33, Tryd.ntmps33
  go_wp2_with fail
  refine (sum_any A n c w ls H.out HL.out hn HK.out hg).mono ?_
  rintro e w1 ⟨rfl, b1⟩
  obtain ⟨R, hR⟩ : ∃ R, Hid (R = sha ls.flatten) := ⟨_, rfl⟩
  rw [← hR.out]
  have hRl : R.length = 32 := by rw [hR.out]; exact sha_length _
  have hsz : (⟨R.toArray⟩ : ByteArray).size = 32 := by simp [ByteArray.size, hRl]
  have HX := Lib.hid (extract_take R m)
  have B1 := Lib.hid b1
  clear b1
  go_wp2_with fail
  go_ret2
  refine ⟨?_, B1.out⟩
  rw [← hR.out]
  simp only [HX.out]
  rfl
end Go.Proofs.YtlogcgeinbefjaaDoor

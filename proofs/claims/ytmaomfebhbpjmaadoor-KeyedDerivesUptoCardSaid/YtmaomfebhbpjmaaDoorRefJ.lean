/- The walk of the reference's Joined. -/
import Derived.Test.YtmaomfebhbpjmaaDoorOwn
import Derived.Test.YtmaomfebhbpjmaaDoorHashS
import Derived.RegionTactic
import Derived.BigRegion
import Derived.Deep.RegionLaw
namespace Go.Proofs.YtmaomfebhbpjmaaDoor
open Go.RowKit
set_option linter.unusedSimpArgs false
set_option linter.unusedVariables false
theorem elemU8 : Elem Tryd.prog 30 5 (.int .u8 0) 1 := ⟨Tryd.underlying30, by kernel_rfl, rfl⟩
theorem sumTo_le (ls : List (List UInt8)) (k : Nat) : (sumTo ls k).length ≤ ls.flatten.length := by
  have : ls.flatten = sumTo ls k ++ (ls.drop k).flatten := by unfold sumTo; rw [← List.flatten_append, List.take_append_drop]
  rw [this, List.length_append]; omega
set_option maxHeartbeats 1000000 in
set_option maxRecDepth 100000 in
theorem joined_any (A : Option Addr) (n c : Nat) (w : World) (ls : List (List UInt8)) (h : Strs w A n ls) (hl : ls.flatten.length ≤ 140737488355328) (hn : n ≤ 9223372036854775807) :
    Calls Tryd.prog 12 #[.slice A n c] w fun e w' => e = .returned (.string ⟨ls.flatten.toArray⟩) ∧ Below w.heap.size w w' := by
  have H := Lib.hid h
  have HL := Lib.hid hl
  clear h hl
  go_enter Tryd.func12, Tryd.ntmps12
  go_wp2_with fail
  go_loopw [3, 4] (fun v3 v wr => ∃ k : Nat, k ≤ n ∧ v = .int .i64 k ∧ Own 5 wr w.heap.size v3 (cb (sumTo ls k)) ∧ Below w.heap.size w wr) (fun _ v _ => n - (intOf v).toNat)
  case atStart => exact ⟨0, by omega, rfl, own_nil _ _ _, Below.refl _ _⟩
  case round =>
    obtain ⟨k, hk, rfl, hB, hG⟩ := hrel
    have HB := Lib.hid hB
    have HG := Lib.hid hG
    clear hB hG
    by_cases hlt : k < n
    · obtain ⟨g, o, rfl, hgb, hcell⟩ := (H.out.below HG.out).2 (by omega)
      have c1 := hcell k hlt
      have hsu := sumTo_succ ls k (by rw [H.out.1]; exact hlt)
      obtain ⟨lk, hlk⟩ : ∃ lk, Hid (lk = ls.getD k []) := ⟨_, rfl⟩
      rw [← hlk.out] at c1 hsu
      have hle := sumTo_le ls (k + 1)
      rw [hsu, List.length_append] at hle
      have hle2 := HL.out
      obtain ⟨A', c', w', hrun, hown, hgr⟩ := own_append_str (ty := 30) elemU8 Tryd.underlying9 HB.out lk (by rw [cb_length]; omega) HG.out.size
      have hfin : Own 5 w' w.heap.size (.slice A' ((cb (sumTo ls k)).length + lk.length) c') (cb (sumTo ls (k + 1))) ∧ Below w.heap.size w w' := by
        rw [hsu, cb_append]
        exact ⟨hown, HB.out.below_grown HG.out HG.out.size hgr⟩
      have HF := Lib.hid hfin
      have HR := Lib.hid hrun
      clear hown hgr hfin hcell hsu hle hle2 hrun
      go_wp2_with (at_builtin; refine wpList_append_run rfl _ _ _ _ rfl rfl rfl HR.out ?_)
      exact ⟨⟨k + 1, by omega, by go_num, HF.out.1, HF.out.2⟩, by simp [intOf]; omega⟩
    · obtain rfl : k = n := by omega
      have hfl : sumTo ls k = ls.flatten := by unfold sumTo; rw [← H.out.1, List.take_length]
      rw [hfl] at HB
      obtain ⟨R, hR⟩ : ∃ R, Hid (R = ls.flatten) := ⟨_, rfl⟩
      rw [← hR.out] at HB
      have hcv := own_string Tryd.underlying30 Tryd.underlying5 Tryd.underlying9 HB.out
      clear hfl
      go_wp2_with fail
      go_ret
      refine ⟨?_, HG.out⟩
      rw [← hR.out]
      rfl
end Go.Proofs.YtmaomfebhbpjmaaDoor

/- The walks of package hash's begin, eight, hasher.end. -/
import Derived.Test.YtlogcgeinbefjaaDoorHashT
namespace Go.Proofs.YtlogcgeinbefjaaDoor
open Go.RowKit
set_option linter.unusedSimpArgs false
set_option linter.unusedVariables false
set_option maxRecDepth 100000

set_option maxHeartbeats 800000 in
set_option maxRecDepth 100000 in
theorem begin_any (w : World) :
    Calls Tryd.prog 46 #[] w fun e w' => e = .returned (.pointer (some ⟨w.heap.size, 0, none⟩)) ∧ w' = w.alloc (.cells (hc st0 0) 122) := by
  have z45 : ∀ w, (zeroValue 106).run Tryd.prog w = .ok (.agg #[.int .u32 0, .int .u32 0, .int .u32 0, .int .u32 0, .int .u32 0, .int .u32 0, .int .u32 0, .int .u32 0]) w := fun _ => by kernel_rfl
  obtain ⟨Z, hZ⟩ : ∃ Z, Hid (Z = hc ⟨List.replicate 8 0, List.replicate 64 0, 0⟩ 0) := ⟨_, rfl⟩
  have z58 : ∀ w, (zeroValue 122).run Tryd.prog w = .ok (.agg Z) w := by rw [hZ.out]; exact fun _ => by kernel_rfl
  have hsz : ¬ (Z.size < 8) := by rw [hZ.out]; decide
  go_enter Tryd.func46, Tryd.ntmps46
  go_wp2
  go_ret
  refine ⟨rfl, ?_⟩
  have hfin : ((((((((Z.setIfInBounds 0 (.int .u32 1779033703)).setIfInBounds 1 (.int .u32 3144134277)).setIfInBounds 2 (.int .u32 1013904242)).setIfInBounds 3 (.int .u32 2773480762)).setIfInBounds
      4 (.int .u32 1359893119)).setIfInBounds 5 (.int .u32 2600822924)).setIfInBounds 6 (.int .u32 528734635)).setIfInBounds 7 (.int .u32 1541459225)) = hc st0 0 := by
    rw [hZ.out]
    kernel_rfl
  rw [hfin]
def eightAt (n k : Nat) : UInt8 := UInt8.ofNat (n / 2 ^ (56 - 8 * k))
def eightTo (n : Nat) : Nat → List UInt8
  | 0 => List.replicate 8 0
  | k + 1 => (eightTo n k).set k (eightAt n k)
theorem eightTo_length (n k : Nat) : (eightTo n k).length = 8 := by
  induction k with
  | zero => rfl
  | succ k ih => simp [eightTo, ih]
theorem eightTo_8 (n : Nat) : eightTo n 8 = eightL n := by
  simp [eightTo, eightL, eightAt, List.replicate]
set_option maxHeartbeats 800000 in
set_option maxRecDepth 100000 in
theorem eight_any (n : Nat) (w : World) (hn : n < 18446744073709551616) :
    Calls Tryd.prog 55 #[.int .u64 n] w fun e w' => e = .returned (.string ⟨(eightL n).toArray⟩) ∧ Below w.heap.size w w' := by
  go_enter Tryd.func55, Tryd.ntmps55
  go_wp2_with fail
  go_loopw [5] (fun v wr => ∃ k : Nat, k ≤ 8 ∧ v = .int .i64 k ∧ Blk wr w.heap.size 131 (cb (eightTo n k)).toArray ∧ Below w.heap.size w wr) (fun v _ => 8 - (intOf v).toNat)
  case atStart => exact ⟨0, by omega, rfl, Blk.new _ _ _, (Below.refl _ _).alloc (Nat.le_refl _) _⟩
  case round =>
    obtain ⟨k, hk, rfl, hB, hG⟩ := hrel
    by_cases hlt : k < 8
    · have c1 := (hB.cell k).trans (cb_get (eightTo n k) k (by rw [eightTo_length]; omega))
      have f1 := hB.frozen k
      have e1 := n8_shr n (56 - 8 * k)
      have hfin : Blk (wr.setCell ⟨w.heap.size, k, none⟩ (.int .u8 (((n : Int) / 2 ^ (56 - 8 * k)) % 256))) w.heap.size 131 (cb (eightTo n (k + 1))).toArray ∧
          Below w.heap.size w (wr.setCell ⟨w.heap.size, k, none⟩ (.int .u8 (((n : Int) / 2 ^ (56 - 8 * k)) % 256))) := by
        have := hB.set_ k (.int .u8 (n8 (eightAt n k)))
        rw [cb_set] at this
        rw [e1]
        exact ⟨this, hG.setCell (Nat.le_refl _) _⟩
      have HF := Lib.hid hfin
      have e2 : 0 ≤ 56 - 8 * (k : Int) := by omega
      have e3 : 0 ≤ (k : Int) ∧ (k : Int) < 8 := by omega
      clear hfin hB hG e1
      go_wp2_with fail
      exact ⟨⟨k + 1, by omega, by go_num, HF.out⟩, by simp [intOf]; omega⟩
    · obtain rfl : k = 8 := by omega
      have hcv := run_bytes_cells (P := Tryd.prog) wr 42 9 5 Tryd.underlying42 Tryd.underlying5 Tryd.underlying9 w.heap.size 0 8 (eightTo n 8) 8 (eightTo_length n 8) (fun i hi => by
        rw [Nat.zero_add]; exact (hB.cell i).trans (cb_get _ i (by rw [eightTo_length]; omega)))
      rw [eightTo_8] at hcv
      have HG := Lib.hid hG
      clear hB hG
      go_wp2_with fail
      go_ret
      exact ⟨rfl, HG.out⟩
end Go.Proofs.YtlogcgeinbefjaaDoor

/- The walk of a law package's 'fit' (a text made so long); stated of whatever function has that body is not possible: printed for this seat's. -/
import Derived.Test.YtlogcgeinbefjaaDoorCopy
import Derived.Test.YtlogcgeinbefjaaDoorProg
import Derived.Outline
namespace Go.Proofs.YtlogcgeinbefjaaDoor
open Go.RowKit
set_option linter.unusedSimpArgs false
set_option linter.unusedVariables false
theorem elemU8' : Elem Tryd.prog 42 5 (.int .u8 0) 1 := ⟨Tryd.underlying42, by kernel_rfl, by rfl⟩
set_option maxHeartbeats 1000000 in
theorem fit_any (l : List UInt8) (n : Nat) (hn : n ≤ 65536) (w : World) :
    Calls Tryd.prog 13 #[.string ⟨l.toArray⟩, .int .i64 n] w fun e w' => e = .returned (.string ⟨(fitL l n).toArray⟩) ∧ Below w.heap.size w w' := by
  obtain ⟨w2, hmk, hown, hgr⟩ := own_make (B := w.heap.size) (t := 42) elemU8' w .i64 .i64 n (by omega) (by omega) (Nat.le_refl _)
  obtain ⟨m, hm⟩ : ∃ m, m = min l.length n := ⟨_, rfl⟩
  obtain ⟨w3, hcp, hown3, hgr3⟩ := own_copy_str (P := Tryd.prog) (ty := 3) (sT := 9) Tryd.underlying42 (by kernel_rfl) hown (by simp) l m hm
  have he : cb (l.take m) ++ (List.replicate n ((Value.int .u8 0).cells[0]!)).drop m = cb (fitL l n) := by
    have : (Value.int IntKind.u8 0).cells[0]! = .int .u8 (n8 0) := rfl
    rw [this, List.drop_replicate, fitL, cb_append, hm]
    have e1 : l.take (min l.length n) = l.take n := by
      rcases Nat.le_total l.length n with h | h
      · rw [Nat.min_eq_left h, List.take_of_length_le (Nat.le_refl _), List.take_of_length_le h]
      · rw [Nat.min_eq_right h]
    rw [e1, show n - min l.length n = n - l.length by omega]
    simp [cb, List.map_replicate]
  rw [he] at hown3
  have hcv := my_own_string Tryd.underlying42 Tryd.underlying5 Tryd.underlying9 hown3
  have HG := Lib.hid (show Below w.heap.size w w3 from below_of_only (g := w.heap.size) ((Below.refl w.heap.size w).grown hgr (Nat.le_refl _) (fun k hk => by cases hk)) hgr3 (Nat.le_refl _) hgr.size)
  have hn0 : 0 ≤ (n : Int) := by omega
  unfold goInt at hcp
  clear hown hown3 hgr hgr3 he hm
  go_enter Tryd.func13, Tryd.ntmps13
  go_wp2_with fail
  go_ret
  exact ⟨rfl, HG.out⟩
end Go.Proofs.YtlogcgeinbefjaaDoor

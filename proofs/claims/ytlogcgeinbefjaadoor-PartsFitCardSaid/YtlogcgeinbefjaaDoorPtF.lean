/- parts.New, as the laws call it. -/
import Derived.Test.YtlogcgeinbefjaaDoorPtE
namespace Go.Proofs.YtlogcgeinbefjaaDoor
open Go.RowKit Go.Proofs.YtlogcgeinbefjaaDoorW.PrintWords Go.Proofs.YtlogcgeinbefjaaDoorW.PrintLast
set_option linter.unusedSimpArgs false
set_option linter.unusedVariables false
set_option maxRecDepth 20000
def newJ (a b : Nat) : Jn := ⟨a, b, [], []⟩
theorem newJ_at (B g a b : Nat) (w : World) (hB : B ≤ g) (hg : Blk w g 63 #[.int .i64 (a : Nat), .slice none 0 0, .int .i64 (b : Nat), .slice none 0 0]) (ha : 1 ≤ a ∧ a ≤ 1024) (hb : 1 ≤ b ∧ b ≤ 1024) : JnA B w g (.slice none 0 0) (.slice none 0 0) [] (newJ a b) :=
  ⟨hg, hB, Win.nil _ _ _, Win.nil _ _ _, rfl, fun i t m h => by simp at h, List.nodup_nil, List.nodup_nil, List.nodup_nil, fun t h => by simp at h, ha, hb, Nat.zero_le _, Nat.zero_le _⟩
set_option maxHeartbeats 400000 in
theorem new2_any (w : World) : Calls Tryd.prog 14 #[.int .i64 2, .int .i64 2] w fun e w' => e = .returned (.tuple #[.pointer (some ⟨w.heap.size, 0, none⟩), .int .i64 0]) ∧ JnA w.heap.size w' w.heap.size (.slice none 0 0) (.slice none 0 0) [] (newJ 2 2) ∧ Below w.heap.size w w' := by
  go_enter Tryd.func14, Tryd.ntmps14
  go_wp2_with fail
  go_ret2
  exact ⟨by rfl, newJ_at _ _ 2 2 _ (Nat.le_refl _) (Blk.new _ _ _) (by omega) (by omega), (Below.refl _ _).alloc (Nat.le_refl _) _⟩
set_option maxHeartbeats 400000 in
theorem new3_any (w : World) : Calls Tryd.prog 14 #[.int .i64 3, .int .i64 3] w fun e w' => e = .returned (.tuple #[.pointer (some ⟨w.heap.size, 0, none⟩), .int .i64 0]) ∧ JnA w.heap.size w' w.heap.size (.slice none 0 0) (.slice none 0 0) [] (newJ 3 3) ∧ Below w.heap.size w w' := by
  go_enter Tryd.func14, Tryd.ntmps14
  go_wp2_with fail
  go_ret2
  exact ⟨by rfl, newJ_at _ _ 3 3 _ (Nat.le_refl _) (Blk.new _ _ _) (by omega) (by omega), (Below.refl _ _).alloc (Nat.le_refl _) _⟩
end Go.Proofs.YtlogcgeinbefjaaDoor

/- The walk of dovecotelaw03's works: the chapter's example is told. -/
import Derived.Test.YtjkppikpgiageaaDoorHashV
import Derived.Test.YtjkppikpgiageaaDoorHashB
import Derived.Test.YtjkppikpgiageaaDoorHex
namespace Go.Proofs.YtjkppikpgiageaaDoor
open Go.RowKit
set_option linter.unusedSimpArgs false
set_option linter.unusedVariables false

theorem works_hex : hexL (sha [97, 98, 99]) = [98, 97, 55, 56, 49, 54, 98, 102, 56, 102, 48, 49, 99, 102, 101, 97, 52, 49, 52, 49, 52, 48, 100, 101, 53, 100, 97, 101, 50, 50, 50, 51, 98, 48, 48, 51, 54, 49, 97, 51, 57, 54, 49, 55, 55, 97, 57, 99, 98, 52, 49, 48, 102, 102, 54, 49, 102, 50, 48, 48, 49, 53, 97, 100] := by decide +kernel
theorem works_bind : sha (boundLs [[97, 98], [99]]).flatten ≠ sha (boundLs [[97], [98, 99]]).flatten := by decide +kernel

set_option maxHeartbeats 1000000 in
set_option maxRecDepth 100000 in
theorem works_any (w : World) (hk : KsAt w) (hg : 0 < w.heap.size) :
    Calls Tryd.prog 12 #[] w fun e w' => e = .returned (.bool true) ∧ Below w.heap.size w w' := by
  have HK := Lib.hid hk
  clear hk
  go_enter Tryd.func12, Tryd.ntmps12
  go_wp2_with fail
  have B0 := Lib.hid ((Below.refl w.heap.size w).alloc (Nat.le_refl _) (.cells #[.string ⟨[97, 98].toArray⟩, .string ⟨[99].toArray⟩] 9))
  refine (sum_any _ 2 2 _ [[97, 98], [99]] (strs_two w 9 [97, 98] [99]) (by decide) (by decide) (HK.out.below hg B0.out) (by simp)).mono ?_
  rintro e w1 ⟨rfl, b1⟩
  rw [show ([[97, 98], [99]] : List (List UInt8)).flatten = [97, 98, 99] from rfl]
  have B1 := Lib.hid (B0.out.trans (b1.mono B0.out.size))
  clear b1
  go_wp2_with fail
  refine (hex_any _ _ (by rw [sha_length]; decide)).mono ?_
  rintro e w2 ⟨rfl, b2⟩
  rw [works_hex]
  have B2 := Lib.hid (B1.out.trans (b2.mono B1.out.size))
  clear b2
  go_wp2_with fail
  have B3 := Lib.hid (B2.out.alloc B2.out.size (.cells #[.string ⟨[97, 98].toArray⟩, .string ⟨[99].toArray⟩] 9))
  refine (bind_any _ 2 2 _ [[97, 98], [99]] (strs_two w2 9 [97, 98] [99]) (by decide) (by decide) (HK.out.below hg B3.out) (by simp)).mono ?_
  rintro e w3 ⟨rfl, b3⟩
  obtain ⟨R1, hR1⟩ : ∃ R, Hid (R = sha (boundLs [[97, 98], [99]]).flatten) := ⟨_, rfl⟩
  rw [← hR1.out]
  have B4 := Lib.hid (B3.out.trans (b3.mono B3.out.size))
  clear b3
  go_wp2_with fail
  have B5 := Lib.hid (B4.out.alloc B4.out.size (.cells #[.string ⟨[97].toArray⟩, .string ⟨[98, 99].toArray⟩] 9))
  refine (bind_any _ 2 2 _ [[97], [98, 99]] (strs_two w3 9 [97] [98, 99]) (by decide) (by decide) (HK.out.below hg B5.out) (by simp)).mono ?_
  rintro e w4 ⟨rfl, b4⟩
  obtain ⟨R2, hR2⟩ : ∃ R, Hid (R = sha (boundLs [[97], [98, 99]]).flatten) := ⟨_, rfl⟩
  rw [← hR2.out]
  have B6 := Lib.hid (B5.out.trans (b4.mono B5.out.size))
  have hne : (R1 == R2) = false := by rw [beq_eq_false_iff_ne, hR1.out, hR2.out]; exact works_bind
  clear b4
  go_wp2_with fail
  go_ret
  exact ⟨rfl, B6.out⟩
end Go.Proofs.YtjkppikpgiageaaDoor

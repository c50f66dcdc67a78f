/- Laws of layer 4: the walks of KeyedTags and KeyedSame. -/
import Derived.Test.YtmaomfebhbpjmaaDoorKeyS
import Derived.Test.YtmaomfebhbpjmaaDoorRefK
import Derived.Test.YtmaomfebhbpjmaaDoorRefJ
namespace Go.Proofs.YtmaomfebhbpjmaaDoor
open Go.RowKit
set_option linter.unusedSimpArgs false
set_option linter.unusedVariables false
set_option maxHeartbeats 1000000 in
set_option maxRecDepth 100000 in
theorem law_KeyedTags (k : List UInt8) (A : Option Addr) (n c : Nat) (ls : List (List UInt8)) (w : World) (hkl : k.length ≤ 1048576) (h : Strs w A n ls) (hl : ls.flatten.length + n ≤ 1048576) (hk : KsAt w) (hg : 0 < w.heap.size) :
    Calls Tryd.prog 3 #[.string ⟨k.toArray⟩, .slice A n c] w fun e w' => e = .returned (.bool true) ∧ Below w.heap.size w w' := by
  obtain ⟨A', c', w1, hrun, hs1, b1⟩ := own_copy_strs w A n c ls h (by omega)
  have HK := Lib.hid hk
  have H := Lib.hid h
  have HL := Lib.hid hl
  have HR := Lib.hid hrun
  have HS := Lib.hid hs1
  have B1 := Lib.hid b1
  have hnb : n ≤ 1048576 := by omega
  have HLE : ∀ l ∈ ls, l.length ≤ 140737488355328 := fun l hl => by have := mem_le_flatten hl; have := HL.out; omega
  have HLE := Lib.hid HLE
  clear hk h hl hrun hs1 b1
  go_enter Tryd.func3, Tryd.ntmps3
  go_wp2_with (at_builtin; refine wpList_append_run rfl _ _ _ _ rfl rfl rfl HR.out ?_)
  refine (tag_any k A' n c' ls w1 HS.out (by omega) HLE.out hnb (HK.out.below hg B1.out) (Nat.lt_of_lt_of_le hg B1.out.size)).mono ?_
  rintro e w2 ⟨rfl, b2⟩
  obtain ⟨J, hJ⟩ : ∃ J, Hid (J = ls.flatten) := ⟨_, rfl⟩
  obtain ⟨T, hT⟩ : ∃ T, Hid (T = tagL k J) := ⟨_, rfl⟩
  rw [← hJ.out, ← hT.out]
  have B2 := Lib.hid (B1.out.trans (b2.mono B1.out.size))
  clear b2
  go_wp2_with fail
  refine (joined_any A n c w2 ls (H.out.below B2.out) (by have := HL.out; omega) (by omega)).mono ?_
  rintro e w3 ⟨rfl, b3⟩
  rw [← hJ.out]
  have B3 := Lib.hid (B2.out.trans (b3.mono B2.out.size))
  clear b3
  go_wp2_with fail
  refine (refTag_any k J w3 (by omega) (by rw [hJ.out]; have := HL.out; omega)).mono ?_
  rintro e w4 ⟨rfl, b4⟩
  rw [← hT.out]
  have B4 := Lib.hid (B3.out.trans (b4.mono B3.out.size))
  clear b4
  go_wp2_with fail
  refine (works04_any w4 (HK.out.below hg B4.out) (Nat.lt_of_lt_of_le hg B4.out.size)).mono ?_
  rintro e w5 ⟨rfl, b5⟩
  have B5 := Lib.hid (B4.out.trans (b5.mono B4.out.size))
  clear b5
  go_wp2_with fail
  go_ret
  exact ⟨rfl, B5.out⟩
set_option maxHeartbeats 1000000 in
set_option maxRecDepth 100000 in
theorem law_KeyedSame (a b : List UInt8) (w : World) (ha : a.length ≤ 1048576) (hb : b.length ≤ 1048576) (hk : KsAt w) (hg : 0 < w.heap.size) :
    Calls Tryd.prog 6 #[.string ⟨a.toArray⟩, .string ⟨b.toArray⟩] w fun e w' => e = .returned (.bool true) ∧ Below w.heap.size w w' := by
  have HK := Lib.hid hk
  clear hk
  obtain ⟨E, hE⟩ : ∃ E, Hid (E = (a == b)) := ⟨_, rfl⟩
  have hEq : (a == b) = E := hE.out.symm
  have hEE : (E == E) = true := by simp
  go_enter Tryd.func6, Tryd.ntmps6
  go_wp2_with fail
  refine (same_any a b w (by omega) (by omega)).mono ?_
  rintro e w2 ⟨rfl, b2⟩
  rw [hEq]
  have B2 := Lib.hid b2
  clear b2
  obtain ⟨T, hT⟩ : ∃ T, Hid (T = tagL a b) := ⟨_, rfl⟩
  go_wp2_with fail
  refine (extract_any a b w2 (by omega) (by omega) (HK.out.below hg B2.out) (Nat.lt_of_lt_of_le hg B2.out.size)).mono ?_
  rintro e w3 ⟨rfl, b3⟩
  rw [← hT.out]
  have B3 := Lib.hid (B2.out.trans (b3.mono B2.out.size))
  clear b3
  go_wp2_with fail
  refine (refTag_any a b w3 (by omega) (by omega)).mono ?_
  rintro e w4 ⟨rfl, b4⟩
  rw [← hT.out]
  have B4 := Lib.hid (B3.out.trans (b4.mono B3.out.size))
  clear b4
  go_wp2_with fail
  refine (works04_any w4 (HK.out.below hg B4.out) (Nat.lt_of_lt_of_le hg B4.out.size)).mono ?_
  rintro e w5 ⟨rfl, b5⟩
  have B5 := Lib.hid (B4.out.trans (b5.mono B4.out.size))
  clear b5
  go_wp2_with fail
  go_ret
  exact ⟨rfl, B5.out⟩
end Go.Proofs.YtmaomfebhbpjmaaDoor

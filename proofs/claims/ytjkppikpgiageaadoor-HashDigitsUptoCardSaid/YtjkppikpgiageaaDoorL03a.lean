/- Laws of layer 3: the walks. -/
import Derived.Test.YtjkppikpgiageaaDoorHashW
namespace Go.Proofs.YtjkppikpgiageaaDoor
open Go.RowKit
set_option linter.unusedSimpArgs false
set_option linter.unusedVariables false

theorem digit_inj : ∀ i < 16, ∀ j < 16, digit i = digit j → i = j := by decide
theorem hexB_inj {a b : UInt8} (h : hexB a = hexB b) : a = b := by
  simp only [hexB, List.cons.injEq, and_true] at h
  have ha := a.toNat_lt
  have hb := b.toNat_lt
  have h1 := digit_inj _ (by omega) _ (by omega) h.1
  have h2 := digit_inj _ (by omega) _ (by omega) h.2
  exact UInt8.toNat_inj.1 (by omega)
theorem hexL_inj : ∀ {a b : List UInt8}, hexL a = hexL b → a = b
  | [], [], _ => rfl
  | [], b :: l, h => by have := congrArg List.length h; rw [hexL_length, hexL_length] at this; simp at this
  | a :: l, [], h => by have := congrArg List.length h; rw [hexL_length, hexL_length] at this; simp at this
  | a :: l, b :: m, h => by
    have h' : hexB a ++ hexL l = hexB b ++ hexL m := h
    obtain ⟨h1, h2⟩ := List.append_inj h' rfl
    rw [hexB_inj h1, hexL_inj h2]
theorem hexL_beq (a b : List UInt8) : (hexL a == hexL b) = (a == b) := by
  rw [Bool.eq_iff_iff, beq_iff_eq, beq_iff_eq]
  exact ⟨hexL_inj, fun h => by rw [h]⟩

set_option maxHeartbeats 1000000 in
set_option maxRecDepth 100000 in
theorem law_HashDigits (a b : List UInt8) (w : World) (ha : a.length ≤ 1048576) (hb : b.length ≤ 1048576) (hk : KsAt w) (hg : 0 < w.heap.size) :
    Calls Tryd.prog 7 #[.string ⟨a.toArray⟩, .string ⟨b.toArray⟩] w fun e w' => e = .returned (.bool true) ∧ Below w.heap.size w w' := by
  have HK := Lib.hid hk
  clear hk
  go_enter Tryd.func7, Tryd.ntmps7
  go_wp2_with fail
  refine (works_any w HK.out hg).mono ?_
  rintro e w1 ⟨rfl, b1⟩
  have B1 := Lib.hid b1
  clear b1
  go_wp2_with fail
  refine (hex_any a _ (by omega)).mono ?_
  rintro e w2 ⟨rfl, b2⟩
  obtain ⟨x, hx⟩ : ∃ x, Hid (x = hexL a) := ⟨_, rfl⟩
  rw [← hx.out]
  have B2 := Lib.hid (B1.out.trans (b2.mono B1.out.size))
  clear b2
  go_wp2_with fail
  refine (hex_any b _ (by omega)).mono ?_
  rintro e w3 ⟨rfl, b3⟩
  obtain ⟨y, hy⟩ : ∃ x, Hid (x = hexL b) := ⟨_, rfl⟩
  rw [← hy.out]
  have B3 := Lib.hid (B2.out.trans (b3.mono B2.out.size))
  clear b3
  go_wp2_with fail
  rw [cat_eq]
  refine (hex_any (a ++ b) _ (by rw [List.length_append]; omega)).mono ?_
  rintro e w4 ⟨rfl, b4⟩
  rw [hexL_append, ← hx.out, ← hy.out, ← cat_eq]
  have B4 := Lib.hid (B3.out.trans (b4.mono B3.out.size))
  have hl1 : ((x.length : Int) == 2 * (a.length : Int)) = true := by rw [hx.out, hexL_length]; simp
  have hl2 : (x == y) = (a == b) := by rw [hx.out, hy.out]; exact hexL_beq a b
  have hs1 : (⟨x.toArray⟩ : ByteArray).size = x.length := by simp [ByteArray.size]
  have hs2 : (⟨a.toArray⟩ : ByteArray).size = a.length := by simp [ByteArray.size]
  have hl3 : x.length ≤ 2097152 := by rw [hx.out, hexL_length]; omega
  have hl4 : y.length ≤ 2097152 := by rw [hy.out, hexL_length]; omega
  clear b4
  go_wp2_with fail
  go_ret
  exact ⟨rfl, B4.out⟩
end Go.Proofs.YtjkppikpgiageaaDoor

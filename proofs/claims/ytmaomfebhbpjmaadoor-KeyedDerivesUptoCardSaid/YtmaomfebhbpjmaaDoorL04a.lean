/- Laws of layer 4: the walks of KeyedCuts and KeyedLong. -/
import Derived.Test.YtmaomfebhbpjmaaDoorKeyS
import Derived.Deep.RegionWith
import Derived.Deep.RegionHeld3
import Derived.WalkLawsBesides
namespace Go.Proofs.YtmaomfebhbpjmaaDoor
open Go.RowKit
set_option linter.unusedSimpArgs false
set_option linter.unusedVariables false
theorem strs_three (w : World) (t : TypeId) (a b c : List UInt8) : Strs (w.alloc (.cells #[.string ⟨a.toArray⟩, .string ⟨b.toArray⟩, .string ⟨c.toArray⟩] t)) (some ⟨w.heap.size, 0, none⟩) 3 [a, b, c] :=
  ⟨rfl, fun _ => ⟨w.heap.size, 0, rfl, by simp, fun i hi => by
    rcases (show i = 0 ∨ i = 1 ∨ i = 2 by omega) with rfl | rfl | rfl
    · exact (Blk.new w t #[.string ⟨a.toArray⟩, .string ⟨b.toArray⟩, .string ⟨c.toArray⟩]).cell 0
    · exact (Blk.new w t #[.string ⟨a.toArray⟩, .string ⟨b.toArray⟩, .string ⟨c.toArray⟩]).cell 1
    · exact (Blk.new w t #[.string ⟨a.toArray⟩, .string ⟨b.toArray⟩, .string ⟨c.toArray⟩]).cell 2⟩⟩
theorem Strs.alloc {w : World} {A : Option Addr} {n : Nat} {ls : List (List UInt8)} (h : Strs w A n ls) (o : Obj) : Strs (w.alloc o) A n ls := h.below ((Below.refl _ _).alloc (Nat.le_refl _) o)
theorem heap_alloc2_old (w : World) (A B : Obj) : ((w.alloc A).alloc B).heap[w.heap.size]? = some A := (heap_alloc_old (w.alloc A) B (by simp)).trans (heap_alloc_new w A)
theorem strs_one_heap {w : World} {q : Nat} {a : List UInt8} {t : TypeId} (h : w.heap[q]? = some (.cells #[.string ⟨a.toArray⟩] t)) : Strs w (some ⟨q, 0, none⟩) 1 [a] :=
  ⟨rfl, fun _ => ⟨q, 0, rfl, Blk.lt (t := t) h, fun i hi => by
    obtain rfl : i = 0 := by omega
    exact Blk.cell (t := t) h 0⟩⟩
theorem strs_three_heap {w : World} {q : Nat} {a b c : List UInt8} {t : TypeId} (h : w.heap[q]? = some (.cells #[.string ⟨a.toArray⟩, .string ⟨b.toArray⟩, .string ⟨c.toArray⟩] t)) : Strs w (some ⟨q, 0, none⟩) 3 [a, b, c] :=
  ⟨rfl, fun _ => ⟨q, 0, rfl, Blk.lt (t := t) h, fun i hi => by
    rcases (show i = 0 ∨ i = 1 ∨ i = 2 by omega) with rfl | rfl | rfl
    · exact Blk.cell (t := t) h 0
    · exact Blk.cell (t := t) h 1
    · exact Blk.cell (t := t) h 2⟩⟩
set_option maxHeartbeats 1600000 in
set_option maxRecDepth 100000 in
theorem law_KeyedCuts (a b : List UInt8) (z : Int) (w : World) (ha : a.length ≤ 140737488351232) (hb : b.length ≤ 140737488351232) (hk : KsAt w) (hg : 0 < w.heap.size) :
    Calls Tryd.prog 5 #[.string ⟨a.toArray⟩, .string ⟨b.toArray⟩, .int .i64 z] w fun e w' => e = .returned (.bool true) ∧ Below w.heap.size w w' := by
  have HK := Lib.hid hk
  clear hk
  have hsz : (⟨b.toArray⟩ : ByteArray).size = b.length := by simp [ByteArray.size]
  obtain ⟨m, hm, e1⟩ : ∃ m : Nat, m ≤ b.length ∧ (IntKind.u64.wrap z).tmod ((b.length : Int) + 1) = (m : Int) := by
    have h1 : 0 ≤ IntKind.u64.wrap z := by rw [wrap_u64e]; omega
    rw [Int.tmod_eq_emod_of_nonneg h1]
    have h2 : 0 ≤ IntKind.u64.wrap z % ((b.length : Int) + 1) := Int.emod_nonneg _ (by omega)
    have h3 : IntKind.u64.wrap z % ((b.length : Int) + 1) < (b.length : Int) + 1 := Int.emod_lt_of_pos _ (by omega)
    exact ⟨(IntKind.u64.wrap z % ((b.length : Int) + 1)).toNat, by omega, by omega⟩
  obtain ⟨x, hx⟩ : ∃ x, Hid (x = b.take m) := ⟨_, rfl⟩
  obtain ⟨y, hy⟩ : ∃ y, Hid (y = b.drop m) := ⟨_, rfl⟩
  have ex : (⟨b.toArray⟩ : ByteArray).extract 0 m = ⟨x.toArray⟩ := by rw [extract_take, hx.out]
  have ey : (⟨b.toArray⟩ : ByteArray).extract m b.length = ⟨y.toArray⟩ := by rw [extract_eq, hy.out]
  have hxy : [x, [], y].flatten = b := by simp [hx.out, hy.out]
  have hxl : x.length ≤ b.length := by rw [hx.out, List.length_take]; omega
  have hyl : y.length ≤ b.length := by rw [hy.out, List.length_drop]; omega
  obtain ⟨T, hT⟩ : ∃ T, Hid (T = tagL a b) := ⟨_, rfl⟩
  have HT3 : ∀ w' A', Below w.heap.size w w' → Strs w' A' 3 [x, [], y] → Calls Tryd.prog 10 #[.string ⟨a.toArray⟩, .slice A' 3 3] w' fun e w'' => e = .returned (.string ⟨T.toArray⟩) ∧ Below w'.heap.size w' w'' := by
    intro w' A' h hs
    have := tag_any a A' 3 3 [x, [], y] w' hs ha (by intro l hl; simp at hl; rcases hl with rfl | rfl | rfl <;> (first | omega | simp)) (by decide) (HK.out.below hg h) (Nat.lt_of_lt_of_le hg h.size)
    rw [hxy, ← hT.out] at this
    exact this
  have HT1 : ∀ w' A', Below w.heap.size w w' → Strs w' A' 1 [b] → Calls Tryd.prog 10 #[.string ⟨a.toArray⟩, .slice A' 1 1] w' fun e w'' => e = .returned (.string ⟨T.toArray⟩) ∧ Below w'.heap.size w' w'' := by
    intro w' A' h hs
    have := tag_any a A' 1 1 [b] w' hs ha (by intro l hl; simp at hl; subst hl; omega) (by decide) (HK.out.below hg h) (Nat.lt_of_lt_of_le hg h.size)
    rw [show ([b] : List (List UInt8)).flatten = b by simp, ← hT.out] at this
    exact this
  have H3 := Lib.hid HT3
  have H1 := Lib.hid HT1
  have hmI : (0 : Int) ≤ (m : Int) ∧ (m : Int) ≤ (b.length : Int) := by omega
  have hbI : (b.length : Int) ≤ 140737488351232 := by omega
  clear HT3 HT1 hxy hxl hyl
  go_enter Tryd.func5, Tryd.ntmps5
  go_wp2_with fail
  refine (works04_any w HK.out hg).mono ?_
  rintro e w1 ⟨rfl, b1⟩
  have B1 := Lib.hid b1
  clear b1
  go_wp2_with fail
  go_region_held3 (fun w' => Below w.heap.size w w') (first | exact B1.out.drew | exact Below.alloc ‹_› (Below.size ‹Below w.heap.size w _›) _ | exact Below.trans ‹Below w.heap.size w _› (Below.mono b9 (Below.size ‹Below w.heap.size w _›))) (first
    | (go_at_call_of 10 (3 : Nat); refine (H3.out _ _ ?_ ?_).mono ?_; assumption; (first | exact strs_three_heap (heap_alloc_new _ _) | exact strs_three_heap (heap_alloc2_new _ _ _) | exact strs_three_heap (heap_alloc2_old _ _ _)); rintro e w9 ⟨rfl, b9⟩)
    | (go_at_call 10; refine (H1.out _ _ ?_ ?_).mono ?_; assumption; (first | exact strs_one_heap (heap_alloc_new _ _) | (refine Strs.below ?_ b9; first | exact strs_one_heap (heap_alloc_new _ _) | exact strs_one_heap (heap_alloc2_new _ _ _) | exact strs_one_heap (heap_alloc2_old _ _ _))); rintro e w10 ⟨rfl, b9⟩))
  all_goals (go_wp2_with fail; go_ret; rename_i hh; exact ⟨rfl, hh⟩)
end Go.Proofs.YtmaomfebhbpjmaaDoor

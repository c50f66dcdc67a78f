/- Laws of layer 3: the walk of HashBound. -/
import Derived.Test.YtjkppikpgiageaaDoorHashW
import Derived.Test.YtjkppikpgiageaaDoorRef03
import Derived.Test.YtjkppikpgiageaaDoorStrsT
import Derived.Deep.RegionWith
import Derived.Deep.RegionHeld3
import Derived.WalkLawsBesides
namespace Go.Proofs.YtjkppikpgiageaaDoor
open Go.RowKit
set_option linter.unusedSimpArgs false
set_option linter.unusedVariables false
/-- worlds behind W0 in which a slice of bytes stands as the call made it. -/
def BG (W0 : World) (v : Value) (bs : List UInt8) (w' : World) : Prop := Below W0.heap.size W0 w' ∧ Own 5 w' W0.heap.size v (cb bs)
theorem BG.drew {W0 w' : World} {v : Value} {bs : List UInt8} (h : BG W0 v bs w') : BG W0 v bs w'.drew := ⟨h.1.drew, h.2.drew⟩
theorem BG.alloc {W0 w' : World} {v : Value} {bs : List UInt8} (h : BG W0 v bs w') (o : Obj) : BG W0 v bs (w'.alloc o) := ⟨h.1.alloc h.1.size o, h.2.alloc o⟩
theorem BG.below {W0 w' w'' : World} {v : Value} {bs : List UInt8} (h : BG W0 v bs w') (hb : Below w'.heap.size w' w'') : BG W0 v bs w'' := ⟨h.1.trans (hb.mono h.1.size), h.2.below hb⟩
theorem boundTo_succ (ls : List (List UInt8)) (k : Nat) (h : k < ls.length) : sumTo (boundLs ls) (k + 1) = sumTo (boundLs ls) k ++ (eightL (ls.getD k []).length ++ ls.getD k []) := by
  rw [sumTo_succ _ _ (by simpa [boundLs] using h), boundLs_getD _ _ h]
  rfl
theorem boundTo_le (ls : List (List UInt8)) (k : Nat) (hk : k ≤ ls.length) : (sumTo (boundLs ls) k).length ≤ ls.flatten.length + 8 * ls.length := by
  have h1 := sumTo_le (boundLs ls) k
  have h2 : (boundLs ls).flatten.length = ls.flatten.length + 8 * ls.length := by
    clear h1 hk
    induction ls with
    | nil => rfl
    | cons x xs ih =>
      simp only [boundLs, List.map_cons, List.flatten_cons, List.length_append] at ih ⊢
      rw [ih]
      simp [boundL, eightL_length]
      omega
  omega

set_option maxHeartbeats 2000000 in
set_option maxRecDepth 100000 in
theorem law_HashBound (A : Option Addr) (n c : Nat) (ls : List (List UInt8)) (w : World) (h : Strs w A n ls) (hl : ls.flatten.length + n ≤ 1048576) (hk : KsAt w) (hg : 0 < w.heap.size) :
    Calls Tryd.prog 6 #[.slice A n c] w fun e w' => e = .returned (.bool true) ∧ Below w.heap.size w w' := by
  have HK := Lib.hid hk
  have H := Lib.hid h
  have HL := Lib.hid hl
  have hnb : n ≤ 1048576 := by omega
  clear hk h hl
  go_enter Tryd.func6, Tryd.ntmps6
  go_wp2_with fail
  refine (works_any w HK.out hg).mono ?_
  rintro e w1 ⟨rfl, b1⟩
  have B1 := Lib.hid b1
  clear b1
  go_wp2_with fail
  go_loopw [3, 5, 6, 11] (fun v3 v5 v6 v11 wr => ∃ k : Nat, k ≤ n ∧ v11 = .int .i64 k ∧ Own 5 wr w.heap.size v3 (cb (sumTo (boundLs ls) k)) ∧ Below w.heap.size w wr) (fun _ _ _ v _ => n - (intOf v).toNat)
  case atStart => exact ⟨0, by omega, rfl, own_nil _ _ _, B1.out⟩
  case round =>
    obtain ⟨k, hkn, rfl, hB, hG⟩ := hrel
    have HB := Lib.hid hB
    have HG := Lib.hid hG
    clear hB hG
    by_cases hlt : k < n
    · obtain ⟨g, o, rfl, hgb, hcell⟩ := (H.out.below HG.out).2 (by omega)
      have c1 := hcell k hlt
      obtain ⟨x, hx⟩ : ∃ x, Hid (x = ls.getD k []) := ⟨_, rfl⟩
      rw [← hx.out] at c1
      have hlen : ls.length = n := H.out.1
      have hsucc := boundTo_succ ls k (by omega)
      rw [← hx.out] at hsucc
      have hle := boundTo_le ls (k + 1) (by omega)
      have hL := HL.out
      rw [hsucc, List.length_append, List.length_append, eightL_length] at hle
      have hxl : x.length ≤ 9437184 := by omega
      have hpre : (sumTo (boundLs ls) k).length ≤ 9437184 := by omega
      obtain ⟨pre, hp⟩ : ∃ pre, Hid (pre = sumTo (boundLs ls) k) := ⟨_, rfl⟩
      rw [← hp.out] at HB hsucc hpre
      have hsz : (⟨x.toArray⟩ : ByteArray).size = x.length := by simp [ByteArray.size]
      have HS := Lib.hid hsucc
      clear hcell hlen hsucc hle hL
      go_wp2_with fail
      go_loopw [3, 6] (fun v3 v6 wr => ∃ j : Nat, j ≤ 8 ∧ v6 = .int .i64 (56 - 8 * j) ∧ Own 5 wr w.heap.size v3 (cb (pre ++ (eightL x.length).take j)) ∧ Below w.heap.size w wr) (fun _ v _ => (intOf v + 8).toNat)
      case atStart => exact ⟨0, by omega, rfl, by simpa using HB.out, HG.out⟩
      case round =>
        obtain ⟨j, hj, rfl, hB2, hG2⟩ := hrel
        have HB2 := Lib.hid hB2
        have HG2 := Lib.hid hG2
        clear hB2 hG2
        by_cases hlt2 : j < 8
        · have e1 := n8_shr x.length (56 - 8 * j)
          have hge : (0 : Int) ≤ 56 - 8 * (j : Int) := by omega
          have hst := eightL_get x.length j hlt2
          obtain ⟨y, hy⟩ : ∃ y, Hid (y = UInt8.ofNat (x.length / 2 ^ (56 - 8 * j))) := ⟨_, rfl⟩
          rw [← hy.out] at e1 hst
          have hle : (cb (pre ++ (eightL x.length).take j)).length ≤ 9437192 := by rw [cb_length, List.length_append, List.length_take, eightL_length]; omega
          obtain ⟨A', c', w', hrun, hown, hgr⟩ := own_append (ty := 30) elemU8 (HB2.out.alloc (.cells #[.int .u8 (n8 y)] 5)) wr.heap.size 1 1 [.int .u8 (n8 y)] rfl (fun j u h => new_cells wr _ _ j u h) (by intro u hu; simp at hu; subst hu; rfl) (by omega) (by omega) (by have := HG2.out.size; simp; omega)
          have hfin : Own 5 w' w.heap.size (.slice A' ((cb (pre ++ (eightL x.length).take j)).length + 1) c') (cb (pre ++ (eightL x.length).take (j + 1))) ∧ Below w.heap.size w w' := by
            rw [hst, ← List.append_assoc, cb_append _ [y]]
            exact ⟨hown, (HB2.out.alloc _).below_grown (HG2.out.alloc HG2.out.size _) (by have := HG2.out.size; simp; omega) hgr⟩
          have HF := Lib.hid hfin
          have HR := Lib.hid hrun
          clear hst hown hgr hfin hrun hle
          go_wp2_with (at_builtin; refine wpList_append_run rfl _ _ _ _ rfl rfl rfl HR.out ?_)
          exact ⟨⟨j + 1, by omega, by rw [show (56 : Int) - 8 * (j : Int) - 8 = 56 - 8 * ((j + 1 : Nat) : Int) by omega], HF.out.1, HF.out.2⟩, by simp [intOf]; omega⟩
        · obtain rfl : j = 8 := by omega
          rw [show (eightL x.length).take 8 = eightL x.length from rfl] at HB2
          have hle : (cb (pre ++ eightL x.length)).length ≤ 9437192 := by rw [cb_length, List.length_append, eightL_length]; omega
          obtain ⟨A', c', w', hrun, hown, hgr⟩ := own_append_str (ty := 30) elemU8 Tryd.underlying9 HB2.out x (by omega) HG2.out.size
          have hfin : Own 5 w' w.heap.size (.slice A' ((cb (pre ++ eightL x.length)).length + x.length) c') (cb (sumTo (boundLs ls) (k + 1))) ∧ Below w.heap.size w w' := by
            rw [HS.out, ← List.append_assoc, cb_append _ x]
            exact ⟨hown, HB2.out.below_grown HG2.out HG2.out.size hgr⟩
          have HF := Lib.hid hfin
          have HR := Lib.hid hrun
          clear hown hgr hfin hrun hle
          go_wp2_with (at_builtin; refine wpList_append_run rfl _ _ _ _ rfl rfl rfl HR.out ?_)
          exact ⟨⟨k + 1, by omega, by go_num, HF.out.1, HF.out.2⟩, by simp [intOf]; omega⟩
    · obtain rfl : k = n := by omega
      obtain ⟨bs, hbs⟩ : ∃ bs, Hid (bs = (boundLs ls).flatten) := ⟨_, rfl⟩
      have hlen : (boundLs ls).length = k := by rw [boundLs, List.length_map]; exact H.out.1
      have hbl : bs.length ≤ 140737488355328 := by
        have h1 := boundTo_le ls k (by rw [H.out.1]; exact Nat.le_refl _)
        have h2 : sumTo (boundLs ls) k = bs := by rw [hbs.out]; unfold sumTo; rw [← hlen, List.take_length]
        rw [h2, H.out.1] at h1
        have := HL.out
        omega
      have h2 : sumTo (boundLs ls) k = bs := by rw [hbs.out]; unfold sumTo; rw [← hlen, List.take_length]
      rw [h2] at HB
      obtain ⟨R, hR⟩ : ∃ R, Hid (R = sha bs) := ⟨_, rfl⟩
      have hG0 : BG w u3 bs wr := ⟨HG.out, HB.out⟩
      have hcv : ∀ w', BG w u3 bs w' → _ := fun w' h => own_string Tryd.underlying30 Tryd.underlying5 Tryd.underlying9 h.2
      have HC1 : ∀ w', BG w u3 bs w' → Calls Tryd.prog 15 #[.slice A k c] w' fun e w'' => e = .returned (.string ⟨R.toArray⟩) ∧ Below w'.heap.size w' w'' := by
        intro w' h
        rw [hR.out, hbs.out]
        exact bind_any A k c w' ls (H.out.below h.1) (fun l hl => by have := mem_le_flatten hl; have := HL.out; omega) (by omega) (HK.out.below hg h.1) (Nat.lt_of_lt_of_le hg h.1.size)
      have HC2 : ∀ w' A', BG w u3 bs w' → Strs w' A' 1 [bs] → Calls Tryd.prog 10 #[.slice A' 1 1] w' fun e w'' => e = .returned (.string ⟨R.toArray⟩) ∧ Below w'.heap.size w' w'' := by
        intro w' A' h hs
        rw [hR.out]
        have := sum_any A' 1 1 w' [bs] hs (fun l hl => by simp at hl; subst hl; exact hbl) (by omega) (HK.out.below hg h.1) (Nat.lt_of_lt_of_le hg h.1.size)
        simpa using this
      have HD1 := Lib.hid HC1
      have HD2 := Lib.hid HC2
      have HG0 := Lib.hid hG0
      clear HC1 HC2 h2 hlen HB hG0
      go_wp2_with fail
      go_region_held3 (fun w' => BG w u3 bs w') (first | exact HG0.out.drew | exact BG.alloc ‹_› _ | exact BG.below ‹BG w u3 bs _› ‹_›) (first
        | (go_at_call 15; refine (HD1.out _ ?_).mono ?_; assumption; rintro e w9 ⟨rfl, b9⟩)
        | (go_at_call 10; refine (HD2.out _ _ ?_ ?_).mono ?_; assumption; (first | exact strs_one _ _ _ | (refine Strs.below ?_ b9; exact strs_one _ _ _)); rintro e w9 ⟨rfl, b9⟩))
      all_goals (go_wp2_with fail; go_ret; rename_i hh; exact ⟨rfl, hh.1⟩)
end Go.Proofs.YtjkppikpgiageaaDoor

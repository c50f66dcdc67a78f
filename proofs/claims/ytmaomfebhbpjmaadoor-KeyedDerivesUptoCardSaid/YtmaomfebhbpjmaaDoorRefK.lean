/- The walk of the reference's Tag. -/
import Derived.Test.YtmaomfebhbpjmaaDoorKeyW
import Derived.Test.YtmaomfebhbpjmaaDoorRefD
import Derived.RegionTactic
import Derived.BigRegion
import Derived.Deep.RegionWith
import Derived.Deep.RegionHeld3
namespace Go.Proofs.YtmaomfebhbpjmaaDoor
open Go.RowKit
set_option linter.unusedSimpArgs false
set_option linter.unusedVariables false
/-- so many bytes xor a byte, and bytes 0 up to sixty-four. -/
def zTo (l : List UInt8) (b : UInt8) (i : Nat) : List UInt8 := (l.take i).map (· ^^^ b) ++ List.replicate (64 - i) 0
theorem zTo_zero (l : List UInt8) (b : UInt8) : zTo l b 0 = List.replicate 64 0 := by simp [zTo]
theorem zTo_length (l : List UInt8) (b : UInt8) (i : Nat) (h : i ≤ 64) (hl : l.length = 64) : (zTo l b i).length = 64 := by
  simp [zTo]
  omega
theorem zTo_set (l : List UInt8) (b : UInt8) (i : Nat) (h : i < 64) (hl : l.length = 64) : (zTo l b i).set i (bd l i ^^^ b) = zTo l b (i + 1) := by
  have hl' : ((l.take i).map (· ^^^ b)).length = i := by simp; omega
  unfold zTo
  rw [List.set_append_right _ _ (by omega), hl', Nat.sub_self, show 64 - i = (64 - (i + 1)) + 1 by omega, List.replicate_succ, List.set_cons_zero, List.take_succ_eq_append_getElem (by omega : i < l.length), List.map_append, List.append_assoc]
  simp [bd, List.getD, List.getElem?_eq_getElem (by omega : i < l.length)]
theorem zTo_full (l : List UInt8) (b : UInt8) (hl : l.length = 64) : zTo l b 64 = l.map (· ^^^ b) := by
  rw [zTo, List.take_of_length_le (by omega)]
  simp
theorem zTo_cell {e : TypeId} {w : World} {B g : Nat} {l : List UInt8} {b : UInt8} (i : Nat) {j : Nat} (h : Own e w B (.slice (some ⟨g, 0, none⟩) 64 64) (cb (zTo l b j))) (hi : i < 64) (hl : l.length = 64) (hj : j ≤ 64) : w.cell? ⟨g, i, none⟩ = some (.int .u8 (n8 (bd (zTo l b j) i))) := by
  refine (h.cell i (by rw [cb_length, zTo_length _ _ _ hj hl]; exact hi)).trans ?_
  have := cb_get (zTo l b j) i (by rw [zTo_length _ _ _ hj hl]; exact hi)
  simpa using this
theorem key64_get_lt (k : List UInt8) (i : Nat) (h : i < (keyL k).length) : bd (key64 k) i = bd (keyL k) i := by
  simp [key64, bd, List.getD, List.getElem?_append_left h]
theorem key64_get_ge (k : List UInt8) (i : Nat) (h : (keyL k).length ≤ i) : bd (key64 k) i = 0 := by
  simp only [key64, bd, List.getD]
  rw [List.getElem?_append_right h, List.getElem?_replicate]
  split <;> rfl
theorem zeros64 : List.replicate 64 (Value.int IntKind.u8 0).cells[0]! = cb (List.replicate 64 0) := rfl
/-- worlds behind W0 in which two made rows stand. -/
def TG (W0 : World) (g1 g2 : Nat) (p q : List UInt8) (w' : World) : Prop := Below W0.heap.size W0 w' ∧ Own 5 w' W0.heap.size (.slice (some ⟨g1, 0, none⟩) 64 64) (cb p) ∧ Own 5 w' W0.heap.size (.slice (some ⟨g2, 0, none⟩) 64 64) (cb q)
theorem TG.drew {W0 w' : World} {g1 g2 : Nat} {p q : List UInt8} (h : TG W0 g1 g2 p q w') : TG W0 g1 g2 p q w'.drew := ⟨h.1.drew, h.2.1.drew, h.2.2.drew⟩
theorem TG.below {W0 w' w'' : World} {g1 g2 : Nat} {p q : List UInt8} (h : TG W0 g1 g2 p q w') (hb : Below w'.heap.size w' w'') : TG W0 g1 g2 p q w'' := ⟨h.1.trans (hb.mono h.1.size), h.2.1.below hb, h.2.2.below hb⟩
set_option maxHeartbeats 6000000 in
set_option maxRecDepth 100000 in
theorem refTag_any (k t : List UInt8) (w : World) (hkl : k.length ≤ 1073741824) (htl : t.length ≤ 8000000) :
    Calls Tryd.prog 11 #[.string ⟨k.toArray⟩, .string ⟨t.toArray⟩] w fun e w' => e = .returned (.string ⟨(tagL k t).toArray⟩) ∧ Below w.heap.size w w' := by
  have hszk : (⟨k.toArray⟩ : ByteArray).size = k.length := by simp [ByteArray.size]
  have hszt : (⟨t.toArray⟩ : ByteArray).size = t.length := by simp [ByteArray.size]
  obtain ⟨x, hx⟩ : ∃ x, Hid (x = keyL k) := ⟨_, rfl⟩
  have hxl : x.length ≤ 64 := by rw [hx.out]; exact keyL_le k
  have hszx : (⟨x.toArray⟩ : ByteArray).size = x.length := by simp [ByteArray.size]
  obtain ⟨y, hy⟩ : ∃ y, Hid (y = key64 k) := ⟨_, rfl⟩
  have hyl : y.length = 64 := by rw [hy.out]; exact key64_length k
  obtain ⟨p, hp⟩ : ∃ p, Hid (p = padL k 54) := ⟨_, rfl⟩
  obtain ⟨q, hq⟩ : ∃ q, Hid (q = padL k 92) := ⟨_, rfl⟩
  have hszp : (⟨p.toArray⟩ : ByteArray).size = 64 := by have := padL_length k 54; rw [← hp.out] at this; simp [ByteArray.size, this]
  have hszq : (⟨q.toArray⟩ : ByteArray).size = 64 := by have := padL_length k 92; rw [← hq.out] at this; simp [ByteArray.size, this]
  obtain ⟨pt, hpt⟩ : ∃ pt, Hid (pt = p ++ t) := ⟨_, rfl⟩
  obtain ⟨S, hS⟩ : ∃ S, Hid (S = sha pt) := ⟨_, rfl⟩
  obtain ⟨qs, hqs⟩ : ∃ qs, Hid (qs = q ++ S) := ⟨_, rfl⟩
  obtain ⟨T, hT⟩ : ∃ T, Hid (T = sha qs) := ⟨_, rfl⟩
  have hszS : (⟨S.toArray⟩ : ByteArray).size = 32 := by have := sha_length pt; rw [← hS.out] at this; simp [ByteArray.size, this]
  have ht64 : 64 + t.length ≤ 9223372036854775807 := by omega
  have ht64n : ¬ (9223372036854775807 < 64 + t.length) := by omega
  have htI : (t.length : Int) ≤ 8388608 := by omega
  have hszpt : (⟨pt.toArray⟩ : ByteArray).size = pt.length := by simp [ByteArray.size]
  have hszqs : (⟨qs.toArray⟩ : ByteArray).size = qs.length := by simp [ByteArray.size]
  have hptl : pt.length ≤ 1073741824 := by have := padL_length k 54; rw [← hp.out] at this; rw [hpt.out, List.length_append]; omega
  have hqsl : qs.length ≤ 1073741824 := by have := padL_length k 92; rw [← hq.out] at this; rw [hqs.out, List.length_append, hS.out, sha_length]; omega
  have hcat1 : (⟨p.toArray⟩ : ByteArray) ++ ⟨t.toArray⟩ = ⟨pt.toArray⟩ := by rw [cat_eq, hpt.out]
  have hcat2 : (⟨q.toArray⟩ : ByteArray) ++ ⟨S.toArray⟩ = ⟨qs.toArray⟩ := by rw [cat_eq, hqs.out]
  have H1 : Hid (∀ w', Calls Tryd.prog 22 #[.string ⟨pt.toArray⟩] w' fun e w'' => e = .returned (.string ⟨S.toArray⟩) ∧ Below w'.heap.size w' w'') := Lib.hid (fun w' => by
    have hl : pt.length ≤ 1073741824 := by have := padL_length k 54; rw [← hp.out] at this; rw [hpt.out, List.length_append]; omega
    rw [hS.out]
    exact digest_any pt hl w')
  have H2 : Hid (∀ w', Calls Tryd.prog 22 #[.string ⟨qs.toArray⟩] w' fun e w'' => e = .returned (.string ⟨T.toArray⟩) ∧ Below w'.heap.size w' w'') := Lib.hid (fun w' => by
    have hl : qs.length ≤ 1073741824 := by have := padL_length k 92; rw [← hq.out] at this; rw [hqs.out, List.length_append, hS.out, sha_length]; omega
    rw [hT.out]
    exact digest_any qs hl w')
  go_enter Tryd.func11, Tryd.ntmps11
  by_cases h64 : 64 < k.length
  · have h64i : (64 : Int) < (k.length : Int) := by omega
    have HX : Hid (sha k = x) := Lib.hid (by rw [hx.out, keyL, if_pos h64])
    go_wp2_with fail
    refine (digest_any k hkl w).mono ?_
    rintro e w1 ⟨rfl, b1⟩
    rw [HX.out]
    have B1 := Lib.hid b1
    clear b1 h64i
    obtain ⟨w2, hmk1, hown1, hgr1⟩ := own_make (B := w.heap.size) (t := 30) elemU8 w1.drew .i64 .i64 64 (by omega) (by omega) B1.out.size
    have G2 : Below w.heap.size w w2 := B1.out.drew.grown hgr1 B1.out.size (fun k hk => by cases hk)
    obtain ⟨w3, hmk2, hown2, hgr2⟩ := own_make (B := w.heap.size) (t := 30) elemU8 w2 .i64 .i64 64 (by omega) (by omega) G2.size
    have G3 := Lib.hid (G2.grown hgr2 G2.size (fun k hk => by cases hk))
    obtain ⟨g1, hg1⟩ : ∃ g1, Hid (g1 = w1.heap.size) := ⟨_, rfl⟩
    obtain ⟨g2, hg2⟩ : ∃ g2, Hid (g2 = w2.heap.size) := ⟨_, rfl⟩
    have hne : g1 < g2 := by rw [hg1.out, hg2.out]; simpa using (hown1.lt _ rfl).2
    have hB1 : w.heap.size ≤ g1 := by rw [hg1.out]; exact B1.out.size
    have hmk1 : (Instr.makeSlice 30 (.int .i64 64) (.int .i64 64)).run Tryd.prog w1.drew = .ok (.slice (some ⟨g1, 0, none⟩) 64 64) w2 := by rw [hg1.out]; exact hmk1
    have hmk2 : (Instr.makeSlice 30 (.int .i64 64) (.int .i64 64)).run Tryd.prog w2 = .ok (.slice (some ⟨g2, 0, none⟩) 64 64) w3 := by rw [hg2.out]; exact hmk2
    have ho1 := hown1.grown hgr2 (.inr (by simp [Value.ownBlock]))
    rw [zeros64] at ho1 hown2
    have HO1 : Hid (Own 5 w3 w.heap.size (.slice (some ⟨g1, 0, none⟩) 64 64) (cb (List.replicate 64 0))) := Lib.hid (by rw [hg1.out]; exact ho1)
    have HO2 : Hid (Own 5 w3 w.heap.size (.slice (some ⟨g2, 0, none⟩) 64 64) (cb (List.replicate 64 0))) := Lib.hid (by rw [hg2.out]; exact hown2)
    clear hown1 hgr1 G2 hgr2 ho1 hown2
    go_wp2_with fail
    go_region
    · clear hmk1 hmk2
      go_wp2_with fail
      go_loopw [7, 8] (fun v7 v8 wx => ∃ i : Nat, i ≤ 64 ∧ v7 = .int .i64 i ∧ Own 5 wx w.heap.size (.slice (some ⟨g1, 0, none⟩) 64 64) (cb (zTo y 54 i)) ∧ Own 5 wx w.heap.size (.slice (some ⟨g2, 0, none⟩) 64 64) (cb (zTo y 92 i)) ∧ Below w.heap.size w wx) (fun v _ _ => 64 - (intOf v).toNat)
      case atStart => exact ⟨0, by omega, rfl, by rw [zTo_zero]; exact HO1.out, by rw [zTo_zero]; exact HO2.out, G3.out⟩
      case round =>
        obtain ⟨i, hi, rfl, hI, hO, hG⟩ := hrel
        have HI := Lib.hid hI
        have HO := Lib.hid hO
        have HG := Lib.hid hG
        clear hI hO hG
        by_cases hlt : i < 64
        · obtain ⟨z, hz⟩ : ∃ z, Hid (z = bd y i) := ⟨_, rfl⟩
          have hx1 : bits .xor .u8 (z.toNat : Int) 54 = n8 (z ^^^ 54) := n8_xor z 54
          have hx2 : bits .xor .u8 (z.toNat : Int) 92 = n8 (z ^^^ 92) := n8_xor z 92
          have c1 := zTo_cell i HI.out hlt hyl hi
          have f1 := HI.out.frozen i
          have hI1 := HI.out.set_ i (.int .u8 (n8 (z ^^^ 54)))
          have hO1 := HO.out.setFar (p := ⟨g1, i, none⟩) (by simp [Value.ownBlock]; omega) (.int .u8 (n8 (z ^^^ 54)))
          have c2 := zTo_cell i hO1 hlt hyl hi
          have f2 := hO1.frozen i
          have hI2 := hI1.setFar (p := ⟨g2, i, none⟩) (by simp [Value.ownBlock]; omega) (.int .u8 (n8 (z ^^^ 92)))
          have hO2 := hO1.set_ i (.int .u8 (n8 (z ^^^ 92)))
          rw [cb_set', hz.out, zTo_set y 54 i hlt hyl, ← hz.out] at hI2
          rw [cb_set', hz.out, zTo_set y 92 i hlt hyl, ← hz.out] at hO2
          have hgf : Below w.heap.size w ((wr.setCell ⟨g1, i, none⟩ (.int .u8 (n8 (z ^^^ 54)))).setCell ⟨g2, i, none⟩ (.int .u8 (n8 (z ^^^ 92)))) :=
            below_of_only (below_of_only HG.out (only_set (only_refl _ (some g1)) (.inl rfl) _) (by omega) HG.out.size) (only_set (only_refl _ (some g2)) (.inl rfl) _) (by omega) (by simpa using HG.out.size)
          have HI2 := Lib.hid hI2
          have HO2' := Lib.hid hO2
          have HGF := Lib.hid hgf
          have hiI : (0 : Int) ≤ (i : Int) ∧ (i : Int) < 64 := by omega
          clear hI1 hO1 hI2 hO2 hgf
          by_cases hix : i < x.length
          · have hbl : ∀ h, (⟨x.toArray⟩ : ByteArray)[i]'h = z := fun h => by
              rw [hz.out, hy.out, key64_get_lt k i (by rw [← hx.out]; exact hix), ← hx.out]
              simp [bd, List.getD, List.getElem?_eq_getElem hix]
              rfl
            have hixI : (i : Int) < (x.length : Int) := by omega
            go_wp2_with fail
            go_roundw
            case rel => exact ⟨i + 1, by omega, by go_num, HI2.out, HO2'.out, HGF.out⟩
            case measure => simp [intOf]; omega
          · have hz0 : z = 0 := by rw [hz.out, hy.out, key64_get_ge k i (by rw [← hx.out]; omega)]
            have hixI : decide ((i : Int) < (x.length : Int)) = false := by simp; omega
            have hixN : decide (i < x.length) = false := by simp; omega
            have hxi : x.length ≤ i := by omega
            have hxiI : (x.length : Int) ≤ (i : Int) := by omega
            clear hix
            have hx3 : bits .xor .u8 0 54 = n8 (z ^^^ 54) := by rw [← hx1, hz0]; rfl
            have hx4 : bits .xor .u8 0 92 = n8 (z ^^^ 92) := by rw [← hx2, hz0]; rfl
            clear hx1 hx2 hz0
            go_wp2_with fail
            go_roundw
            case rel => exact ⟨i + 1, by omega, by go_num, HI2.out, HO2'.out, HGF.out⟩
            case measure => simp [intOf]; omega
        · obtain rfl : i = 64 := by omega
          rw [zTo_full y 54 hyl, hy.out, ← padL, ← hp.out] at HI
          rw [zTo_full y 92 hyl, hy.out, ← padL, ← hq.out] at HO
          have cI0 := own_string Tryd.underlying30 Tryd.underlying5 Tryd.underlying9 HI.out.drew
          have cO0 := own_string Tryd.underlying30 Tryd.underlying5 Tryd.underlying9 HO.out.drew
          clear hlt hi
          go_wp2_with fail
          go_region_with (first
            | (go_at_call_of 22 pt; refine (H1.out _).mono ?_; rintro e w9 ⟨rfl, b9⟩; have cO9 := own_string Tryd.underlying30 Tryd.underlying5 Tryd.underlying9 (HO.out.drew.below b9))
            | (go_at_call_of 22 qs; refine (H2.out _).mono ?_; rintro e w10 ⟨rfl, b10⟩))
          all_goals (go_wp2_with fail; go_ret; exact ⟨by rw [tagL, ← hp.out, ← hpt.out, ← hS.out, ← hq.out, ← hqs.out, ← hT.out]; rfl, (HG.out.drew.trans (b9.mono HG.out.size)).trans (b10.mono (HG.out.drew.trans (b9.mono HG.out.size)).size)⟩)
    · clear hmk1 hmk2
      go_wp2_with fail
      go_loopw [7, 8] (fun v7 v8 wx => ∃ i : Nat, i ≤ 64 ∧ v7 = .int .i64 i ∧ Own 5 wx w.heap.size (.slice (some ⟨g2, 0, none⟩) 64 64) (cb (zTo y 54 i)) ∧ Own 5 wx w.heap.size (.slice (some ⟨g1, 0, none⟩) 64 64) (cb (zTo y 92 i)) ∧ Below w.heap.size w wx) (fun v _ _ => 64 - (intOf v).toNat)
      case atStart => exact ⟨0, by omega, rfl, by rw [zTo_zero]; exact HO2.out, by rw [zTo_zero]; exact HO1.out, G3.out⟩
      case round =>
        obtain ⟨i, hi, rfl, hI, hO, hG⟩ := hrel
        have HI := Lib.hid hI
        have HO := Lib.hid hO
        have HG := Lib.hid hG
        clear hI hO hG
        by_cases hlt : i < 64
        · obtain ⟨z, hz⟩ : ∃ z, Hid (z = bd y i) := ⟨_, rfl⟩
          have hx1 : bits .xor .u8 (z.toNat : Int) 54 = n8 (z ^^^ 54) := n8_xor z 54
          have hx2 : bits .xor .u8 (z.toNat : Int) 92 = n8 (z ^^^ 92) := n8_xor z 92
          have c1 := zTo_cell i HI.out hlt hyl hi
          have f1 := HI.out.frozen i
          have hI1 := HI.out.set_ i (.int .u8 (n8 (z ^^^ 54)))
          have hO1 := HO.out.setFar (p := ⟨g2, i, none⟩) (by simp [Value.ownBlock]; omega) (.int .u8 (n8 (z ^^^ 54)))
          have c2 := zTo_cell i hO1 hlt hyl hi
          have f2 := hO1.frozen i
          have hI2 := hI1.setFar (p := ⟨g1, i, none⟩) (by simp [Value.ownBlock]; omega) (.int .u8 (n8 (z ^^^ 92)))
          have hO2 := hO1.set_ i (.int .u8 (n8 (z ^^^ 92)))
          rw [cb_set', hz.out, zTo_set y 54 i hlt hyl, ← hz.out] at hI2
          rw [cb_set', hz.out, zTo_set y 92 i hlt hyl, ← hz.out] at hO2
          have hgf : Below w.heap.size w ((wr.setCell ⟨g2, i, none⟩ (.int .u8 (n8 (z ^^^ 54)))).setCell ⟨g1, i, none⟩ (.int .u8 (n8 (z ^^^ 92)))) :=
            below_of_only (below_of_only HG.out (only_set (only_refl _ (some g2)) (.inl rfl) _) (by omega) HG.out.size) (only_set (only_refl _ (some g1)) (.inl rfl) _) (by omega) (by simpa using HG.out.size)
          have HI2 := Lib.hid hI2
          have HO2' := Lib.hid hO2
          have HGF := Lib.hid hgf
          have hiI : (0 : Int) ≤ (i : Int) ∧ (i : Int) < 64 := by omega
          clear hI1 hO1 hI2 hO2 hgf
          by_cases hix : i < x.length
          · have hbl : ∀ h, (⟨x.toArray⟩ : ByteArray)[i]'h = z := fun h => by
              rw [hz.out, hy.out, key64_get_lt k i (by rw [← hx.out]; exact hix), ← hx.out]
              simp [bd, List.getD, List.getElem?_eq_getElem hix]
              rfl
            have hixI : (i : Int) < (x.length : Int) := by omega
            go_wp2_with fail
            go_roundw
            case rel => exact ⟨i + 1, by omega, by go_num, HI2.out, HO2'.out, HGF.out⟩
            case measure => simp [intOf]; omega
          · have hz0 : z = 0 := by rw [hz.out, hy.out, key64_get_ge k i (by rw [← hx.out]; omega)]
            have hixI : decide ((i : Int) < (x.length : Int)) = false := by simp; omega
            have hixN : decide (i < x.length) = false := by simp; omega
            have hxi : x.length ≤ i := by omega
            have hxiI : (x.length : Int) ≤ (i : Int) := by omega
            clear hix
            have hx3 : bits .xor .u8 0 54 = n8 (z ^^^ 54) := by rw [← hx1, hz0]; rfl
            have hx4 : bits .xor .u8 0 92 = n8 (z ^^^ 92) := by rw [← hx2, hz0]; rfl
            clear hx1 hx2 hz0
            go_wp2_with fail
            go_roundw
            case rel => exact ⟨i + 1, by omega, by go_num, HI2.out, HO2'.out, HGF.out⟩
            case measure => simp [intOf]; omega
        · obtain rfl : i = 64 := by omega
          rw [zTo_full y 54 hyl, hy.out, ← padL, ← hp.out] at HI
          rw [zTo_full y 92 hyl, hy.out, ← padL, ← hq.out] at HO
          have cI0 := own_string Tryd.underlying30 Tryd.underlying5 Tryd.underlying9 HI.out.drew
          have cO0 := own_string Tryd.underlying30 Tryd.underlying5 Tryd.underlying9 HO.out.drew
          clear hlt hi
          go_wp2_with fail
          go_region_with (first
            | (go_at_call_of 22 pt; refine (H1.out _).mono ?_; rintro e w9 ⟨rfl, b9⟩; have cO9 := own_string Tryd.underlying30 Tryd.underlying5 Tryd.underlying9 (HO.out.drew.below b9))
            | (go_at_call_of 22 qs; refine (H2.out _).mono ?_; rintro e w10 ⟨rfl, b10⟩))
          all_goals (go_wp2_with fail; go_ret; exact ⟨by rw [tagL, ← hp.out, ← hpt.out, ← hS.out, ← hq.out, ← hqs.out, ← hT.out]; rfl, (HG.out.drew.trans (b9.mono HG.out.size)).trans (b10.mono (HG.out.drew.trans (b9.mono HG.out.size)).size)⟩)
  · have h64i : decide ((64 : Int) < (k.length : Int)) = false := by simp; omega
    have hxk : x = k := by rw [hx.out, keyL, if_neg h64]
    subst hxk
    have B1 := Lib.hid (Below.refl w.heap.size w)
    obtain ⟨w2, hmk1, hown1, hgr1⟩ := own_make (B := w.heap.size) (t := 30) elemU8 w.drew .i64 .i64 64 (by omega) (by omega) B1.out.size
    have G2 : Below w.heap.size w w2 := B1.out.drew.grown hgr1 B1.out.size (fun k hk => by cases hk)
    obtain ⟨w3, hmk2, hown2, hgr2⟩ := own_make (B := w.heap.size) (t := 30) elemU8 w2 .i64 .i64 64 (by omega) (by omega) G2.size
    have G3 := Lib.hid (G2.grown hgr2 G2.size (fun k hk => by cases hk))
    obtain ⟨g1, hg1⟩ : ∃ g1, Hid (g1 = w.heap.size) := ⟨_, rfl⟩
    obtain ⟨g2, hg2⟩ : ∃ g2, Hid (g2 = w2.heap.size) := ⟨_, rfl⟩
    have hne : g1 < g2 := by rw [hg1.out, hg2.out]; simpa using (hown1.lt _ rfl).2
    have hB1 : w.heap.size ≤ g1 := by rw [hg1.out]; exact B1.out.size
    have hmk1 : (Instr.makeSlice 30 (.int .i64 64) (.int .i64 64)).run Tryd.prog w.drew = .ok (.slice (some ⟨g1, 0, none⟩) 64 64) w2 := by rw [hg1.out]; exact hmk1
    have hmk2 : (Instr.makeSlice 30 (.int .i64 64) (.int .i64 64)).run Tryd.prog w2 = .ok (.slice (some ⟨g2, 0, none⟩) 64 64) w3 := by rw [hg2.out]; exact hmk2
    have ho1 := hown1.grown hgr2 (.inr (by simp [Value.ownBlock]))
    rw [zeros64] at ho1 hown2
    have HO1 : Hid (Own 5 w3 w.heap.size (.slice (some ⟨g1, 0, none⟩) 64 64) (cb (List.replicate 64 0))) := Lib.hid (by rw [hg1.out]; exact ho1)
    have HO2 : Hid (Own 5 w3 w.heap.size (.slice (some ⟨g2, 0, none⟩) 64 64) (cb (List.replicate 64 0))) := Lib.hid (by rw [hg2.out]; exact hown2)
    clear hown1 hgr1 G2 hgr2 ho1 hown2
    go_wp2_with fail
    go_region
    · clear hmk1 hmk2
      go_wp2_with fail
      go_loopw [7, 8] (fun v7 v8 wx => ∃ i : Nat, i ≤ 64 ∧ v7 = .int .i64 i ∧ Own 5 wx w.heap.size (.slice (some ⟨g1, 0, none⟩) 64 64) (cb (zTo y 54 i)) ∧ Own 5 wx w.heap.size (.slice (some ⟨g2, 0, none⟩) 64 64) (cb (zTo y 92 i)) ∧ Below w.heap.size w wx) (fun v _ _ => 64 - (intOf v).toNat)
      case atStart => exact ⟨0, by omega, rfl, by rw [zTo_zero]; exact HO1.out, by rw [zTo_zero]; exact HO2.out, G3.out⟩
      case round =>
        obtain ⟨i, hi, rfl, hI, hO, hG⟩ := hrel
        have HI := Lib.hid hI
        have HO := Lib.hid hO
        have HG := Lib.hid hG
        clear hI hO hG
        by_cases hlt : i < 64
        · obtain ⟨z, hz⟩ : ∃ z, Hid (z = bd y i) := ⟨_, rfl⟩
          have hx1 : bits .xor .u8 (z.toNat : Int) 54 = n8 (z ^^^ 54) := n8_xor z 54
          have hx2 : bits .xor .u8 (z.toNat : Int) 92 = n8 (z ^^^ 92) := n8_xor z 92
          have c1 := zTo_cell i HI.out hlt hyl hi
          have f1 := HI.out.frozen i
          have hI1 := HI.out.set_ i (.int .u8 (n8 (z ^^^ 54)))
          have hO1 := HO.out.setFar (p := ⟨g1, i, none⟩) (by simp [Value.ownBlock]; omega) (.int .u8 (n8 (z ^^^ 54)))
          have c2 := zTo_cell i hO1 hlt hyl hi
          have f2 := hO1.frozen i
          have hI2 := hI1.setFar (p := ⟨g2, i, none⟩) (by simp [Value.ownBlock]; omega) (.int .u8 (n8 (z ^^^ 92)))
          have hO2 := hO1.set_ i (.int .u8 (n8 (z ^^^ 92)))
          rw [cb_set', hz.out, zTo_set y 54 i hlt hyl, ← hz.out] at hI2
          rw [cb_set', hz.out, zTo_set y 92 i hlt hyl, ← hz.out] at hO2
          have hgf : Below w.heap.size w ((wr.setCell ⟨g1, i, none⟩ (.int .u8 (n8 (z ^^^ 54)))).setCell ⟨g2, i, none⟩ (.int .u8 (n8 (z ^^^ 92)))) :=
            below_of_only (below_of_only HG.out (only_set (only_refl _ (some g1)) (.inl rfl) _) (by omega) HG.out.size) (only_set (only_refl _ (some g2)) (.inl rfl) _) (by omega) (by simpa using HG.out.size)
          have HI2 := Lib.hid hI2
          have HO2' := Lib.hid hO2
          have HGF := Lib.hid hgf
          have hiI : (0 : Int) ≤ (i : Int) ∧ (i : Int) < 64 := by omega
          clear hI1 hO1 hI2 hO2 hgf
          by_cases hix : i < x.length
          · have hbl : ∀ h, (⟨x.toArray⟩ : ByteArray)[i]'h = z := fun h => by
              rw [hz.out, hy.out, key64_get_lt x i (by rw [← hx.out]; exact hix), ← hx.out]
              simp [bd, List.getD, List.getElem?_eq_getElem hix]
              rfl
            have hixI : (i : Int) < (x.length : Int) := by omega
            go_wp2_with fail
            go_roundw
            case rel => exact ⟨i + 1, by omega, by go_num, HI2.out, HO2'.out, HGF.out⟩
            case measure => simp [intOf]; omega
          · have hz0 : z = 0 := by rw [hz.out, hy.out, key64_get_ge x i (by rw [← hx.out]; omega)]
            have hixI : decide ((i : Int) < (x.length : Int)) = false := by simp; omega
            have hixN : decide (i < x.length) = false := by simp; omega
            have hxi : x.length ≤ i := by omega
            have hxiI : (x.length : Int) ≤ (i : Int) := by omega
            clear hix
            have hx3 : bits .xor .u8 0 54 = n8 (z ^^^ 54) := by rw [← hx1, hz0]; rfl
            have hx4 : bits .xor .u8 0 92 = n8 (z ^^^ 92) := by rw [← hx2, hz0]; rfl
            clear hx1 hx2 hz0
            go_wp2_with fail
            go_roundw
            case rel => exact ⟨i + 1, by omega, by go_num, HI2.out, HO2'.out, HGF.out⟩
            case measure => simp [intOf]; omega
        · obtain rfl : i = 64 := by omega
          rw [zTo_full y 54 hyl, hy.out, ← padL, ← hp.out] at HI
          rw [zTo_full y 92 hyl, hy.out, ← padL, ← hq.out] at HO
          have cI0 := own_string Tryd.underlying30 Tryd.underlying5 Tryd.underlying9 HI.out.drew
          have cO0 := own_string Tryd.underlying30 Tryd.underlying5 Tryd.underlying9 HO.out.drew
          clear hlt hi
          go_wp2_with fail
          go_region_with (first
            | (go_at_call_of 22 pt; refine (H1.out _).mono ?_; rintro e w9 ⟨rfl, b9⟩; have cO9 := own_string Tryd.underlying30 Tryd.underlying5 Tryd.underlying9 (HO.out.drew.below b9))
            | (go_at_call_of 22 qs; refine (H2.out _).mono ?_; rintro e w10 ⟨rfl, b10⟩))
          all_goals (go_wp2_with fail; go_ret; exact ⟨by rw [tagL, ← hp.out, ← hpt.out, ← hS.out, ← hq.out, ← hqs.out, ← hT.out]; rfl, (HG.out.drew.trans (b9.mono HG.out.size)).trans (b10.mono (HG.out.drew.trans (b9.mono HG.out.size)).size)⟩)
    · clear hmk1 hmk2
      go_wp2_with fail
      go_loopw [7, 8] (fun v7 v8 wx => ∃ i : Nat, i ≤ 64 ∧ v7 = .int .i64 i ∧ Own 5 wx w.heap.size (.slice (some ⟨g2, 0, none⟩) 64 64) (cb (zTo y 54 i)) ∧ Own 5 wx w.heap.size (.slice (some ⟨g1, 0, none⟩) 64 64) (cb (zTo y 92 i)) ∧ Below w.heap.size w wx) (fun v _ _ => 64 - (intOf v).toNat)
      case atStart => exact ⟨0, by omega, rfl, by rw [zTo_zero]; exact HO2.out, by rw [zTo_zero]; exact HO1.out, G3.out⟩
      case round =>
        obtain ⟨i, hi, rfl, hI, hO, hG⟩ := hrel
        have HI := Lib.hid hI
        have HO := Lib.hid hO
        have HG := Lib.hid hG
        clear hI hO hG
        by_cases hlt : i < 64
        · obtain ⟨z, hz⟩ : ∃ z, Hid (z = bd y i) := ⟨_, rfl⟩
          have hx1 : bits .xor .u8 (z.toNat : Int) 54 = n8 (z ^^^ 54) := n8_xor z 54
          have hx2 : bits .xor .u8 (z.toNat : Int) 92 = n8 (z ^^^ 92) := n8_xor z 92
          have c1 := zTo_cell i HI.out hlt hyl hi
          have f1 := HI.out.frozen i
          have hI1 := HI.out.set_ i (.int .u8 (n8 (z ^^^ 54)))
          have hO1 := HO.out.setFar (p := ⟨g2, i, none⟩) (by simp [Value.ownBlock]; omega) (.int .u8 (n8 (z ^^^ 54)))
          have c2 := zTo_cell i hO1 hlt hyl hi
          have f2 := hO1.frozen i
          have hI2 := hI1.setFar (p := ⟨g1, i, none⟩) (by simp [Value.ownBlock]; omega) (.int .u8 (n8 (z ^^^ 92)))
          have hO2 := hO1.set_ i (.int .u8 (n8 (z ^^^ 92)))
          rw [cb_set', hz.out, zTo_set y 54 i hlt hyl, ← hz.out] at hI2
          rw [cb_set', hz.out, zTo_set y 92 i hlt hyl, ← hz.out] at hO2
          have hgf : Below w.heap.size w ((wr.setCell ⟨g2, i, none⟩ (.int .u8 (n8 (z ^^^ 54)))).setCell ⟨g1, i, none⟩ (.int .u8 (n8 (z ^^^ 92)))) :=
            below_of_only (below_of_only HG.out (only_set (only_refl _ (some g2)) (.inl rfl) _) (by omega) HG.out.size) (only_set (only_refl _ (some g1)) (.inl rfl) _) (by omega) (by simpa using HG.out.size)
          have HI2 := Lib.hid hI2
          have HO2' := Lib.hid hO2
          have HGF := Lib.hid hgf
          have hiI : (0 : Int) ≤ (i : Int) ∧ (i : Int) < 64 := by omega
          clear hI1 hO1 hI2 hO2 hgf
          by_cases hix : i < x.length
          · have hbl : ∀ h, (⟨x.toArray⟩ : ByteArray)[i]'h = z := fun h => by
              rw [hz.out, hy.out, key64_get_lt x i (by rw [← hx.out]; exact hix), ← hx.out]
              simp [bd, List.getD, List.getElem?_eq_getElem hix]
              rfl
            have hixI : (i : Int) < (x.length : Int) := by omega
            go_wp2_with fail
            go_roundw
            case rel => exact ⟨i + 1, by omega, by go_num, HI2.out, HO2'.out, HGF.out⟩
            case measure => simp [intOf]; omega
          · have hz0 : z = 0 := by rw [hz.out, hy.out, key64_get_ge x i (by rw [← hx.out]; omega)]
            have hixI : decide ((i : Int) < (x.length : Int)) = false := by simp; omega
            have hixN : decide (i < x.length) = false := by simp; omega
            have hxi : x.length ≤ i := by omega
            have hxiI : (x.length : Int) ≤ (i : Int) := by omega
            clear hix
            have hx3 : bits .xor .u8 0 54 = n8 (z ^^^ 54) := by rw [← hx1, hz0]; rfl
            have hx4 : bits .xor .u8 0 92 = n8 (z ^^^ 92) := by rw [← hx2, hz0]; rfl
            clear hx1 hx2 hz0
            go_wp2_with fail
            go_roundw
            case rel => exact ⟨i + 1, by omega, by go_num, HI2.out, HO2'.out, HGF.out⟩
            case measure => simp [intOf]; omega
        · obtain rfl : i = 64 := by omega
          rw [zTo_full y 54 hyl, hy.out, ← padL, ← hp.out] at HI
          rw [zTo_full y 92 hyl, hy.out, ← padL, ← hq.out] at HO
          have cI0 := own_string Tryd.underlying30 Tryd.underlying5 Tryd.underlying9 HI.out.drew
          have cO0 := own_string Tryd.underlying30 Tryd.underlying5 Tryd.underlying9 HO.out.drew
          clear hlt hi
          go_wp2_with fail
          go_region_with (first
            | (go_at_call_of 22 pt; refine (H1.out _).mono ?_; rintro e w9 ⟨rfl, b9⟩; have cO9 := own_string Tryd.underlying30 Tryd.underlying5 Tryd.underlying9 (HO.out.drew.below b9))
            | (go_at_call_of 22 qs; refine (H2.out _).mono ?_; rintro e w10 ⟨rfl, b10⟩))
          all_goals (go_wp2_with fail; go_ret; exact ⟨by rw [tagL, ← hp.out, ← hpt.out, ← hS.out, ← hq.out, ← hqs.out, ← hT.out]; rfl, (HG.out.drew.trans (b9.mono HG.out.size)).trans (b10.mono (HG.out.drew.trans (b9.mono HG.out.size)).size)⟩)
end Go.Proofs.YtmaomfebhbpjmaaDoor

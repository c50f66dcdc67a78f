/- The walks of the reference of layer 3: Hex, Joined, Eight. -/
import Derived.Test.YtjkppikpgiageaaDoorOwn
import Derived.Test.YtjkppikpgiageaaDoorRefJ
import Derived.Test.YtjkppikpgiageaaDoorHex
import Derived.RegionTactic
import Derived.BigRegion
import Derived.Deep.RegionLaw
namespace Go.Proofs.YtjkppikpgiageaaDoor
open Go.RowKit
set_option linter.unusedSimpArgs false
set_option linter.unusedVariables false

theorem u8_tmod (b : UInt8) : (b.toNat : Int).tmod 16 = (b.toNat : Int) % 16 := by rw [Int.tmod_eq_emod_of_nonneg (by omega)]

set_option maxHeartbeats 1000000 in
set_option maxRecDepth 100000 in
theorem refHex_any (l : List UInt8) (w : World) (hl : 2 * l.length ≤ 140737488355328) :
    Calls Tryd.prog 14 #[.string ⟨l.toArray⟩] w fun e w' => e = .returned (.string ⟨(hexL l).toArray⟩) ∧ Below w.heap.size w w' := by
  have hsz : (⟨l.toArray⟩ : ByteArray).size = l.length := by simp [ByteArray.size]
  go_enter Tryd.func14, Tryd.ntmps14
  go_wp2_with fail
  go_loopw [4, 5] (fun v4 v wr => ∃ k : Nat, k ≤ l.length ∧ v = .int .i64 k ∧ Own 5 wr w.heap.size v4 (cb (hexL (l.take k))) ∧ Below w.heap.size w wr) (fun _ v _ => l.length - (intOf v).toNat)
  case atStart => exact ⟨0, by omega, rfl, own_nil _ _ _, Below.refl _ _⟩
  case round =>
    obtain ⟨k, hk, rfl, hB, hG⟩ := hrel
    have HB := Lib.hid hB
    have HG := Lib.hid hG
    clear hB hG
    by_cases hlt : k < l.length
    · obtain ⟨b, hb⟩ : ∃ b, b = l[k] := ⟨_, rfl⟩
      have hbl : ∀ h, (⟨l.toArray⟩ : ByteArray)[k]'h = b := fun h => hb.symm
      have htk : hexL (l.take (k + 1)) = hexL (l.take k) ++ [digit (b.toNat / 16), digit (b.toNat % 16)] := by
        rw [List.take_succ_eq_append_getElem hlt, hexL_append, ← hb]; simp [hexL, hexB]
      have HTK := Lib.hid htk
      have hlen1 : (cb (hexL (l.take k))).length + 2 ≤ 140737488355328 := by
        rw [cb_length, hexL_length, List.length_take]; omega
      have e1 : 0 ≤ (b.toNat : Int) / 16 ∧ (b.toNat : Int) / 16 < 16 := by have := b.toNat_lt; omega
      have e2 : 0 ≤ (b.toNat : Int) % 16 ∧ (b.toNat : Int) % 16 < 16 := by omega
      have e3 := u8_tmod b
      have HD1 := digs_get (b.toNat / 16) (by have := b.toNat_lt; show _ < 16; omega)
      have HD2 := digs_get (b.toNat % 16) (by show _ < 16; omega)
      have HBb := Lib.hid hb
      clear htk hb
      obtain ⟨A, c', w', hrun, hown, hgr⟩ := own_append (ty := 30) elemU8 ((HB.out.alloc (.cells #[.int .u8 ((digit (b.toNat / 16)).toNat : Int), .int .u8 ((digit (b.toNat % 16)).toNat : Int)] 5)).drew) wr.heap.size 2 2 [.int .u8 ((digit (b.toNat / 16)).toNat : Int), .int .u8 ((digit (b.toNat % 16)).toNat : Int)] rfl (fun j u h => new_cells wr _ _ j u h) (by intro u hu; simp at hu; rcases hu with rfl | rfl <;> rfl) (by omega) (by omega) (by have := HG.out.size; simp; omega)
      have hfin : Own 5 w' w.heap.size (.slice A ((cb (hexL (l.take k))).length + 2) c') (cb (hexL (l.take (k + 1)))) ∧ Below w.heap.size w w' := by
        rw [HTK.out, cb_append]
        exact ⟨hown, (HB.out.alloc _).drew.below_grown (HG.out.alloc HG.out.size _).drew (by have := HG.out.size; simp; omega) hgr⟩
      have HF := Lib.hid hfin
      clear hown hgr hfin
      have e4 : ((b.toNat : Int) / 16).toNat = b.toNat / 16 := by omega
      have e5 : ((b.toNat : Int) % 16).toNat = b.toNat % 16 := by omega
      go_wp2_with fail
      go_region_law (refine step_append_run rfl (.tmp 12) (.tmp 25) 30 30 rfl (by simp [Act.eval, Act.put]) (by simp [Act.eval, Act.put]) hrun ?_)
      all_goals (go_wp2_with fail; exact ⟨⟨k + 1, by omega, by go_num, HF.out.1, HF.out.2⟩, by simp [intOf]; omega⟩)
    · obtain rfl : k = l.length := by omega
      have htk : hexL (l.take l.length) = hexL l := by rw [List.take_length]
      rw [htk] at HB
      have hcv := own_string Tryd.underlying30 Tryd.underlying5 Tryd.underlying9 HB.out
      clear htk
      go_wp2_with fail
      go_ret
      exact ⟨rfl, HG.out⟩

theorem eightL_get (n k : Nat) (h : k < 8) : (eightL n).take (k + 1) = (eightL n).take k ++ [UInt8.ofNat (n / 2 ^ (56 - 8 * k))] := by
  match k, h with
  | 0, _ => rfl
  | 1, _ => rfl
  | 2, _ => rfl
  | 3, _ => rfl
  | 4, _ => rfl
  | 5, _ => rfl
  | 6, _ => rfl
  | 7, _ => simp [eightL]
  | n + 8, h => exact absurd h (by omega)
set_option maxHeartbeats 1000000 in
set_option maxRecDepth 100000 in
theorem refEight_any (n : Nat) (w : World) (hn : n ≤ 9223372036854775807) :
    Calls Tryd.prog 29 #[.int .i64 n] w fun e w' => e = .returned (.string ⟨(eightL n).toArray⟩) ∧ Below w.heap.size w w' := by
  go_enter Tryd.func29, Tryd.ntmps29
  go_wp2_with fail
  go_loopw [3, 4] (fun v3 v wr => ∃ k : Nat, k ≤ 8 ∧ v = .int .i64 (7 - k) ∧ Own 5 wr w.heap.size v3 (cb ((eightL n).take k)) ∧ Below w.heap.size w wr) (fun _ v _ => (intOf v + 1).toNat)
  case atStart => exact ⟨0, by omega, rfl, own_nil _ _ _, Below.refl _ _⟩
  case round =>
    obtain ⟨k, hk, rfl, hB, hG⟩ := hrel
    have HB := Lib.hid hB
    have HG := Lib.hid hG
    clear hB hG
    by_cases hlt : k < 8
    · have e1 := n8_shr n (8 * (7 - k))
      have hge : (0 : Int) ≤ 7 - (k : Int) := by omega
      have hge2 : (0 : Int) ≤ 8 * (7 - (k : Int)) := by omega
      have hst := eightL_get n k hlt
      rw [show 56 - 8 * k = 8 * (7 - k) from by omega] at hst
      obtain ⟨x, hx⟩ : ∃ x, Hid (x = UInt8.ofNat (n / 2 ^ (8 * (7 - k)))) := ⟨_, rfl⟩
      rw [← hx.out] at e1 hst
      have hle : (cb ((eightL n).take k)).length ≤ 8 := by rw [cb_length, List.length_take, eightL_length]; omega
      obtain ⟨A', c', w', hrun, hown, hgr⟩ := own_append (ty := 30) elemU8 (HB.out.alloc (.cells #[.int .u8 (n8 x)] 5)) wr.heap.size 1 1 [.int .u8 (n8 x)] rfl (fun j u h => new_cells wr _ _ j u h) (by intro u hu; simp at hu; subst hu; rfl) (by omega) (by omega) (by have := HG.out.size; simp; omega)
      have hfin : Own 5 w' w.heap.size (.slice A' ((cb ((eightL n).take k)).length + 1) c') (cb ((eightL n).take (k + 1))) ∧ Below w.heap.size w w' := by
        rw [hst, cb_append]
        exact ⟨hown, (HB.out.alloc _).below_grown (HG.out.alloc HG.out.size _) (by have := HG.out.size; simp; omega) hgr⟩
      have HF := Lib.hid hfin
      have HR := Lib.hid hrun
      clear hst hown hgr hfin hrun hle
      go_wp2_with (at_builtin; refine wpList_append_run rfl _ _ _ _ rfl rfl rfl HR.out ?_)
      exact ⟨⟨k + 1, by omega, by rw [show (7 : Int) - (k : Int) - 1 = 7 - ((k + 1 : Nat) : Int) by omega], HF.out.1, HF.out.2⟩, by simp [intOf]; omega⟩
    · obtain rfl : k = 8 := by omega
      have hcv := own_string Tryd.underlying30 Tryd.underlying5 Tryd.underlying9 HB.out
      rw [show (eightL n).take 8 = eightL n from rfl] at hcv
      go_wp2_with fail
      go_ret
      exact ⟨rfl, HG.out⟩
end Go.Proofs.YtjkppikpgiageaaDoor

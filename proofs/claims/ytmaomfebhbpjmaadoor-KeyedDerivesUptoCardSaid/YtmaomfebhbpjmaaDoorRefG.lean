/- The walk of the reference's grown: the sixty-four words of a block. -/
import Derived.Test.YtmaomfebhbpjmaaDoorRefT
namespace Go.Proofs.YtmaomfebhbpjmaaDoor
open Go.RowKit
set_option linter.unusedSimpArgs false
set_option linter.unusedVariables false
def lenOfS : Value → Nat
  | .slice _ n _ => n
  | _ => 0
/-- worlds behind W0 in which two cells of a block hold what they held. -/
def GS (W0 : World) (g i1 i2 : Nat) (x1 x2 : Value) (w' : World) : Prop := Below W0.heap.size W0 w' ∧ w'.cell? ⟨g, i1, none⟩ = some x1 ∧ w'.cell? ⟨g, i2, none⟩ = some x2
theorem GS.drew {W0 w' : World} {g i1 i2 : Nat} {x1 x2 : Value} (h : GS W0 g i1 i2 x1 x2 w') : GS W0 g i1 i2 x1 x2 w'.drew := ⟨h.1.drew, h.2.1, h.2.2⟩
theorem GS.alloc {W0 w' : World} {g i1 i2 : Nat} {x1 x2 : Value} (h : GS W0 g i1 i2 x1 x2 w') (o : Obj) : GS W0 g i1 i2 x1 x2 (w'.alloc o) :=
  ⟨h.1.alloc h.1.size o, (World.cell?_alloc_lt _ _ _ (block_lt_of_cell h.2.1)).trans h.2.1, (World.cell?_alloc_lt _ _ _ (block_lt_of_cell h.2.2)).trans h.2.2⟩
theorem v32_addw (x y : BitVec 32) : IntKind.u32.wrap (n32 x + n32 y) = n32 (x + y) := by rw [← v32_add]; simp [IntKind.wrap, IntKind.bits, IntKind.signed]
theorem turn_lit (x : BitVec 32) (c : Int) (h : 0 ≤ c ∧ c ≤ 32) (w : World) :
    Calls Tryd.prog 42 #[.int .u32 (n32 x), .int .i64 c] w fun e w' => e = .returned (.int .u32 (n32 (rr x c.toNat))) ∧ w' = w.drew := turn_any x c c.toNat (by omega) (by omega) w
def GrRel (w : World) (r : List UInt8) (v3 : Value) (wr : World) : Prop :=
  ∃ (n g c : Nat), 16 ≤ n ∧ n ≤ 64 ∧ v3 = .slice (some ⟨g, 0, none⟩) n c ∧ Own 51 wr w.heap.size v3 (cw (grL (firstW r 16) (n - 16))) ∧ Below w.heap.size w wr
theorem GrRel.mk {w wr : World} {r : List UInt8} {v3 : Value} (h : ∃ (n g c : Nat), 16 ≤ n ∧ n ≤ 64 ∧ v3 = .slice (some ⟨g, 0, none⟩) n c ∧ Own 51 wr w.heap.size v3 (cw (grL (firstW r 16) (n - 16))) ∧ Below w.heap.size w wr) : GrRel w r v3 wr := h
theorem GrRel.out {w wr : World} {r : List UInt8} {v3 : Value} (h : GrRel w r v3 wr) : ∃ (n g c : Nat), 16 ≤ n ∧ n ≤ 64 ∧ v3 = .slice (some ⟨g, 0, none⟩) n c ∧ Own 51 wr w.heap.size v3 (cw (grL (firstW r 16) (n - 16))) ∧ Below w.heap.size w wr := h
section
attribute [local go_sem] v32_add v32_xor v32_and v32_or v32_shr3 v32_shr10 v32_shl8
set_option maxHeartbeats 1600000 in
set_option maxRecDepth 100000 in
theorem grown_any (r : List UInt8) (hr : r.length = 64) (w : World) :
    Calls Tryd.prog 40 #[.string ⟨r.toArray⟩] w fun e w' => (∃ g c, e = .returned (.slice (some ⟨g, 0, none⟩) 64 c) ∧ Own 51 w' w.heap.size (.slice (some ⟨g, 0, none⟩) 64 c) (cw (w64 r))) ∧ Below w.heap.size w w' := by
  have hsz : (⟨r.toArray⟩ : ByteArray).size = 64 := by simp [ByteArray.size, hr]
  go_enter Tryd.func40, Tryd.ntmps40
  go_wp2_with fail
  go_loopw [3, 4, 5, 6] (fun v3 v4 v5 v6 wr => ∃ j : Nat, j ≤ 16 ∧ v4 = .int .i64 (4 * j) ∧ Own 51 wr w.heap.size v3 (cw (firstW r j)) ∧ Below w.heap.size w wr) (fun _ v _ _ _ => 64 - (intOf v).toNat)
  case atStart => exact ⟨0, by omega, rfl, own_nil _ _ _, Below.refl _ _⟩
  case round =>
    obtain ⟨j, hj, rfl, hB, hG⟩ := hrel
    have HB := Lib.hid hB
    have HG := Lib.hid hG
    clear hB hG
    by_cases hlt : j < 16
    · have e3 : 0 ≤ 4 * (j : Int) ∧ 4 * (j : Int) < 64 := by omega
      go_wp2_with fail
      go_loopw [5, 6] (fun v5 v6 wx => ∃ k : Nat, k ≤ 4 ∧ v6 = .int .i64 k ∧ v5 = .int .u32 (n32 (accW r (4 * j) k)) ∧ Own 51 wx w.heap.size u3 (cw (firstW r j)) ∧ Below w.heap.size w wx) (fun _ v _ => 4 - (intOf v).toNat)
      case atStart => exact ⟨0, by omega, rfl, rfl, HB.out, HG.out⟩
      case round =>
        obtain ⟨k, hk, rfl, rfl, hB2, hG2⟩ := hrel
        have HB2 := Lib.hid hB2
        have HG2 := Lib.hid hG2
        clear hB2 hG2
        by_cases hlt2 : k < 4
        · obtain ⟨b, hb⟩ : ∃ b, Hid (b = bd r (4 * j + k)) := ⟨_, rfl⟩
          have hbl : ∀ h, (⟨r.toArray⟩ : ByteArray)[4 * j + k]'h = b := fun h => by
            rw [hb.out]
            simp [bd, List.getD, List.getElem?_eq_getElem (show 4 * j + k < r.length by omega)]
            rfl
          have e4 : (4 * (j : Int) + (k : Int)).toNat = 4 * j + k := by omega
          go_wp2_with fail
          go_roundw
          case rel =>
            refine ⟨k + 1, by omega, by go_num, ?_, HB2.out, HG2.out⟩
            rw [accW, ← hb.out, ← v32_add, u8w_n32]
            have h8 : (b.toNat : Int) % 4294967296 = n8 b := by have := b.toNat_lt; show _ = (b.toNat : Int); omega
            simp only [h8]
          case measure => simp [intOf]; omega
        · obtain rfl : k = 4 := by omega
          obtain ⟨x, hx⟩ : ∃ x, Hid (x = accW r (4 * j) 4) := ⟨_, rfl⟩
          rw [← hx.out]
          obtain ⟨A', c', w', hrun, hown, hgr⟩ := own_append (ty := 65) elemU32 (HB2.out.alloc (.cells #[.int .u32 (n32 x)] 51)) wr.heap.size 1 1 [.int .u32 (n32 x)] rfl (fun j u h => new_cells wr _ _ j u h) (by intro u hu; simp at hu; subst hu; rfl) (by rw [cw_length, firstW_length]; omega) (by rw [cw_length, firstW_length]; omega) (by have := HG2.out.size; simp; omega)
          have hfin : Own 51 w' w.heap.size (.slice A' ((cw (firstW r j)).length + 1) c') (cw (firstW r (j + 1))) ∧ Below w.heap.size w w' := by
            rw [firstW, ← hx.out, cw_append _ [x]]
            exact ⟨hown, (HB2.out.alloc _).below_grown (HG2.out.alloc HG2.out.size _) (by have := HG2.out.size; simp; omega) hgr⟩
          have HF := Lib.hid hfin
          have HR := Lib.hid hrun
          clear hown hgr hfin hrun
          go_wp2_with (at_builtin; refine wpList_append_run rfl _ _ _ _ rfl rfl rfl HR.out ?_)
          exact ⟨⟨j + 1, by omega, by rw [show (4 : Int) * (j : Int) + 4 = 4 * ((j + 1 : Nat) : Int) by omega], HF.out.1, HF.out.2⟩, by simp [intOf]; omega⟩
    · obtain rfl : j = 16 := by omega
      rw [show (4 : Int) * ((16 : Nat) : Int) = 64 from rfl]
      go_wp2_with fail
      go_loopw [3, 7, 8, 9] (fun v3 v7 v8 v9 wr => GrRel w r v3 wr) (fun v _ _ _ _ => 64 - lenOfS v)
      case atStart =>
        obtain ⟨A, c, hv⟩ := HB.out.form
        rw [cw_length, firstW_length] at hv
        have hB := HB.out
        rw [hv] at hB
        obtain ⟨g, rfl, _⟩ := hB.at_ (by rw [cw_length, firstW_length]; omega)
        exact GrRel.mk ⟨16, g, c, by omega, by omega, hv, HB.out, HG.out⟩
      case round =>
        obtain ⟨n, g, c, hn1, hn2, rfl, hB3, hG3⟩ := hrel.out
        have hl : (grL (firstW r 16) (n - 16)).length = n := by rw [grL_length, firstW_length]; omega
        by_cases hlt3 : n < 64
        · obtain ⟨M, hM⟩ : ∃ M, Hid (M = grL (firstW r 16) (n - 16)) := ⟨_, rfl⟩
          rw [← hM.out] at hB3 hl
          have c1 := (hB3.cell (n - 15) (by rw [cw_length]; omega)).trans (cw_get M (n - 15) (by omega))
          have c2 := (hB3.cell (n - 2) (by rw [cw_length]; omega)).trans (cw_get M (n - 2) (by omega))
          have c3 := (hB3.cell (n - 16) (by rw [cw_length]; omega)).trans (cw_get M (n - 16) (by omega))
          have c4 := (hB3.cell (n - 7) (by rw [cw_length]; omega)).trans (cw_get M (n - 7) (by omega))
          have HB3 := Lib.hid hB3
          have HG3 := Lib.hid hG3
          have HL := Lib.hid hl
          have e1 : IntKind.i64.wrap ((n : Int) - 15) = ((n - 15 : Nat) : Int) := (IntWalk.i64_in _ (by omega)).trans (by omega)
          have e2 : IntKind.i64.wrap ((n : Int) - 2) = ((n - 2 : Nat) : Int) := (IntWalk.i64_in _ (by omega)).trans (by omega)
          have e3 : IntKind.i64.wrap ((n : Int) - 7) = ((n - 7 : Nat) : Int) := (IntWalk.i64_in _ (by omega)).trans (by omega)
          have e4 : IntKind.i64.wrap ((n : Int) - 16) = ((n - 16 : Nat) : Int) := (IntWalk.i64_in _ (by omega)).trans (by omega)
          have e5 : (0 : Int) ≤ ((n - 16 : Nat) : Int) ∧ ((n - 16 : Nat) : Int) < (n : Int) := by omega
          have e6 : (0 : Int) ≤ ((n - 7 : Nat) : Int) ∧ ((n - 7 : Nat) : Int) < (n : Int) := by omega
          have e7 : n - 16 < n := by omega
          have e8 : n - 7 < n := by omega
          have hgb : w.heap.size ≤ g := (hB3.lt g rfl).1
          clear hB3 hG3 hl
          go_wp2_with fail
          go_quiet (fail)
          go_wp2_with fail
          have G0 : GS w g (n - 16) (n - 7) (.int .u32 (n32 (wd M (n - 16)))) (.int .u32 (n32 (wd M (n - 7)))) (wr.drewN nq) := ⟨below_drewN HG3.out _, c3, c4⟩
          have HG0 := Lib.hid G0
          have hM1 : grL (firstW r 16) (n + 1 - 16) = M ++ [wd M (n - 16) + sig0 (wd M (n - 15)) + wd M (n - 7) + sig1 (wd M (n - 2))] := by
            rw [show n + 1 - 16 = (n - 16) + 1 by omega, grL, ← hM.out, show n - 16 + 1 = n - 15 by omega, show n - 16 + 9 = n - 7 by omega, show n - 16 + 14 = n - 2 by omega]
          have HM1 := Lib.hid hM1
          clear G0 c1 c2 c3 c4 hM1
          go_region_held_law (fun w' => Below w.heap.size w w' ∧ w'.cell? ⟨g, n - 16, none⟩ = some (.int .u32 (n32 (wd M (n - 16)))) ∧ w'.cell? ⟨g, n - 7, none⟩ = some (.int .u32 (n32 (wd M (n - 7)))))
            (first | exact HG0.out.drew | exact GS.drew ‹_› | exact GS.alloc ‹_› _ | exact ⟨hbw, (hcl _ (by rw [cw_length, HL.out]; omega)).trans (cw_get M _ (by rw [HL.out]; omega)), (hcl _ (by rw [cw_length, HL.out]; omega)).trans (cw_get M _ (by rw [HL.out]; omega))⟩)
            (first
              | (go_at_call 42; refine (turn_lit _ _ (by decide) _).mono ?_; rintro e w' ⟨rfl, rfl⟩)
              | (refine step_append_own (e := 51) rfl (.tmp 46) (.tmp 76) 65 rfl elemU32 rfl (Own.alloc (show Own 51 _ w.heap.size _ (cw M) from HB3.out) _) _ 1 1 [_] rfl rfl (fun j u h => new_cells _ _ _ j u h) ?h1 ?hl ?hl2 ?hB ?hK
                 case h1 => (intro u hu; simp at hu; subst hu; rfl)
                 case hl => (rw [cw_length, HL.out]; omega)
                 case hl2 => (rw [cw_length, HL.out]; omega)
                 case hB => (have := HG3.out.size; simp; omega)
                 intro A' c' wz hown hgr hcl
                 have hbw : Below w.heap.size w wz := by
                   refine below_of_only ?_ hgr hgb ?_
                   · apply And.left; assumption
                   · have := HG3.out.size; simp; omega))
          simp only [v32_addw] at hown
          have hfin : Own 51 wz w.heap.size (.slice A' (n + 1) c') (cw (grL (firstW r 16) (n + 1 - 16))) := by
            rw [HM1.out, cw_append M]
            rw [cw_length, HL.out] at hown
            exact hown
          obtain ⟨g', rfl, _⟩ := hfin.at_ (by rw [cw_length, HM1.out, List.length_append, HL.out]; simp)
          rw [cw_length, HL.out]
          have HF := Lib.hid hfin
          have HBW := Lib.hid hbw
          clear hown hfin hbw hcl hgr
          simp only [List.getElem_toArray, List.getElem_cons_succ, List.getElem_cons_zero, Act.put, List.setIfInBounds_toArray, List.set_cons_zero, List.set_cons_succ]
          go_wp2_with fail
          go_roundw
          case rel => exact GrRel.mk ⟨n + 1, g', c', by omega, by omega, rfl, HF.out, HBW.out⟩
          case measure => simp [lenOfS]; omega
        · obtain rfl : n = 64 := by omega
          go_wp2_with fail
          go_ret
          exact ⟨⟨g, c, rfl, hB3⟩, hG3⟩
end
end Go.Proofs.YtmaomfebhbpjmaaDoor

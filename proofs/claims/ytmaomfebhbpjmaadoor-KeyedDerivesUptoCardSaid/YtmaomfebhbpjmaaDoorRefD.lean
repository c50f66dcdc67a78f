/- The walk of the reference's Digest; Sum, Bind, Short with it. -/
import Derived.Test.YtmaomfebhbpjmaaDoorRefW
import Derived.WalkLawsBesides
namespace Go.Proofs.YtmaomfebhbpjmaaDoor
open Go.RowKit
set_option linter.unusedSimpArgs false
set_option linter.unusedVariables false
theorem outL_take (V : List (BitVec 32)) (j : Nat) (h : j < V.length) : outL (V.take (j + 1)) = outL (V.take j) ++ wordL (wd V j) := by
  rw [List.take_succ_eq_append_getElem h, outL, List.flatMap_append]
  simp [outL, wd, List.getD, List.getElem?_eq_getElem h]
theorem wordL_take (x : BitVec 32) (m : Nat) (h : m < 4) : (wordL x).take (m + 1) = (wordL x).take m ++ [w8 (x >>> (8 * (3 - m)))] := by
  match m, h with
  | 0, _ => rfl
  | 1, _ => rfl
  | 2, _ => rfl
  | 3, _ => rfl
  | n + 4, h => exact absurd h (by omega)
theorem cells8 {w : World} {g : Nat} {t : TypeId} {V : List (BitVec 32)} (h : Blk w g t (wc V)) (hl : V.length = 8) : Hid (Blk w g t (wc V)) ∧
    w.frozen? ⟨g, 0, none⟩ = false ∧ w.frozen? ⟨g, 1, none⟩ = false ∧ w.frozen? ⟨g, 2, none⟩ = false ∧ w.frozen? ⟨g, 3, none⟩ = false ∧ w.frozen? ⟨g, 4, none⟩ = false ∧ w.frozen? ⟨g, 5, none⟩ = false ∧ w.frozen? ⟨g, 6, none⟩ = false ∧ w.frozen? ⟨g, 7, none⟩ = false ∧
    w.cell? ⟨g, 0, none⟩ = some (.int .u32 (n32 (wd V 0))) ∧ w.cell? ⟨g, 1, none⟩ = some (.int .u32 (n32 (wd V 1))) ∧ w.cell? ⟨g, 2, none⟩ = some (.int .u32 (n32 (wd V 2))) ∧ w.cell? ⟨g, 3, none⟩ = some (.int .u32 (n32 (wd V 3))) ∧
    w.cell? ⟨g, 4, none⟩ = some (.int .u32 (n32 (wd V 4))) ∧ w.cell? ⟨g, 5, none⟩ = some (.int .u32 (n32 (wd V 5))) ∧ w.cell? ⟨g, 6, none⟩ = some (.int .u32 (n32 (wd V 6))) ∧ w.cell? ⟨g, 7, none⟩ = some (.int .u32 (n32 (wd V 7))) :=
  ⟨Lib.hid h, h.frozen 0, h.frozen 1, h.frozen 2, h.frozen 3, h.frozen 4, h.frozen 5, h.frozen 6, h.frozen 7, (h.cell 0).trans (wc_get V 0 (by omega)), (h.cell 1).trans (wc_get V 1 (by omega)), (h.cell 2).trans (wc_get V 2 (by omega)), (h.cell 3).trans (wc_get V 3 (by omega)),
    (h.cell 4).trans (wc_get V 4 (by omega)), (h.cell 5).trans (wc_get V 5 (by omega)), (h.cell 6).trans (wc_get V 6 (by omega)), (h.cell 7).trans (wc_get V 7 (by omega))⟩
theorem Blk.set8' {w : World} {g : Nat} {t : TypeId} {V U : List (BitVec 32)} (h : Blk w g t (wc V)) (hl : V.length = 8) (hu : U.length = 8) :
    Blk ((((((((w.setCell ⟨g, 0, none⟩ (.int .u32 (n32 (wd U 0)))).setCell ⟨g, 1, none⟩ (.int .u32 (n32 (wd U 1)))).setCell ⟨g, 2, none⟩ (.int .u32 (n32 (wd U 2)))).setCell ⟨g, 3, none⟩ (.int .u32 (n32 (wd U 3)))).setCell ⟨g, 4, none⟩ (.int .u32 (n32 (wd U 4)))).setCell ⟨g, 5, none⟩ (.int .u32 (n32 (wd U 5)))).setCell ⟨g, 6, none⟩ (.int .u32 (n32 (wd U 6)))).setCell ⟨g, 7, none⟩ (.int .u32 (n32 (wd U 7)))) g t (wc U) := by
  rw [wc8 U hu]
  rw [wc8 V hl] at h
  exact Blk.set8 (R := ⟨wd V 0, wd V 1, wd V 2, wd V 3, wd V 4, wd V 5, wd V 6, wd V 7⟩) h _ _ _ _ _ _ _ _
theorem wordL_length (x : BitVec 32) : (wordL x).length = 4 := rfl
set_option maxHeartbeats 1600000 in
set_option maxRecDepth 100000 in
theorem digest_any (l : List UInt8) (hl : l.length ≤ 1073741824) (w : World) :
    Calls Tryd.prog 22 #[.string ⟨l.toArray⟩] w fun e w' => e = .returned (.string ⟨(sha l).toArray⟩) ∧ Below w.heap.size w w' := by
  have Z := z45
  obtain ⟨all, hall⟩ : ∃ all, Hid (all = wholeL l) := ⟨_, rfl⟩
  have hN := wholeL_length l
  rw [← hall.out] at hN
  have hpad : padN l < 64 := by rw [padN]; omega
  obtain ⟨N, hNN⟩ : ∃ N, Hid (N = all.length) := ⟨_, rfl⟩
  have hN1 : N ≤ 1073742000 := by rw [hNN.out]; omega
  have hN2 : N % 64 = 0 := by rw [hNN.out]; exact hN.2
  have hsz : (⟨all.toArray⟩ : ByteArray).size = N := by rw [hNN.out]; simp [ByteArray.size]
  clear hN hpad
  go_enter Tryd.func22, Tryd.ntmps22
  go_wp2_with fail
  have h0 : wc (vAt all 0) = #[.int .u32 1779033703, .int .u32 3144134277, .int .u32 1013904242, .int .u32 2773480762, .int .u32 1359893119, .int .u32 2600822924, .int .u32 528734635, .int .u32 1541459225] := by rw [vAt_zero]; rfl
  rw [← h0]
  have hb0 := Blk.new w 52 (wc (vAt all 0))
  have hg0 := (Below.refl w.heap.size w).alloc (Nat.le_refl _) (.cells (wc (vAt all 0)) 52)
  obtain ⟨wa, hwa⟩ : ∃ wa, wa = w.alloc (.cells (wc (vAt all 0)) 52) := ⟨_, rfl⟩
  rw [← hwa] at hb0 hg0 ⊢
  clear hwa h0
  refine (whole_any l hl wa).mono ?_
  rintro e w1 ⟨rfl, b1⟩
  rw [← hall.out]
  have HB1 := Lib.hid (hb0.below b1 hb0.lt)
  have HG1 := Lib.hid (hg0.trans (b1.mono hg0.size))
  clear b1 hb0 hg0
  go_wp2_with fail
  go_loopw [5] (fun v5 wx => ∃ k : Nat, 64 * k ≤ N ∧ v5 = .int .i64 (64 * k : Nat) ∧ Blk wx w.heap.size 52 (wc (vAt all k)) ∧ Below w.heap.size w wx) (fun v _ => N - (intOf v).toNat)
  case atStart => exact ⟨0, by omega, rfl, HB1.out, HG1.out⟩
  case round =>
    obtain ⟨k, hk, rfl, hB, hG⟩ := hrel
    have HB := Lib.hid hB
    have HG := Lib.hid hG
    clear hB hG
    obtain ⟨i, HI⟩ : ∃ i, Hid (i = 64 * k) := ⟨_, rfl⟩
    rw [← HI.out] at hk ⊢
    have hi64 : i % 64 = 0 := by rw [HI.out]; omega
    by_cases hlt : i < N
    · have hik : i + 64 ≤ N := by omega
      obtain ⟨blk, hblk⟩ : ∃ blk, Hid (blk = (all.drop i).take 64) := ⟨_, rfl⟩
      have hbl : blk.length = 64 := by rw [hblk.out, List.length_take, List.length_drop, ← hNN.out]; omega
      have e2 : (⟨all.toArray⟩ : ByteArray).extract i (i + 64) = ⟨blk.toArray⟩ := by rw [extract_mid, hblk.out, Nat.add_sub_cancel_left]
      have hl8 := vAt_length all k
      have d0 := (HB.out.cell 0).trans (wc_get _ 0 (by omega))
      have d1 := (HB.out.cell 1).trans (wc_get _ 1 (by omega))
      have d2 := (HB.out.cell 2).trans (wc_get _ 2 (by omega))
      have d3 := (HB.out.cell 3).trans (wc_get _ 3 (by omega))
      have d4 := (HB.out.cell 4).trans (wc_get _ 4 (by omega))
      have d5 := (HB.out.cell 5).trans (wc_get _ 5 (by omega))
      have d6 := (HB.out.cell 6).trans (wc_get _ 6 (by omega))
      have d7 := (HB.out.cell 7).trans (wc_get _ 7 (by omega))
      have D0 := mixed_any (vAt all k) hl8 blk hbl wr.drew
      unfold agg8 at D0
      have HM := Lib.hid (show mixv (vAt all k) blk = vAt all (k + 1) by rw [vAt_succ all k (by have := HI.out; rw [← hNN.out]; omega), hblk.out, HI.out])
      rw [HM.out] at D0
      have D := Lib.hid D0
      clear D0
      have hl9 := vAt_length all (k + 1)
      have hikI : (i : Int) + 64 ≤ (N : Int) := by omega
      have hltI : (i : Int) < (N : Int) := by omega
      have hslice : ∀ w, (Instr.slice 9 (.string ⟨all.toArray⟩) (some (.int .i64 (i : Int))) (some (.int .i64 ((i : Int) + 64))) none).run Tryd.prog w = .ok (.string ⟨blk.toArray⟩) w := fun w => by
        rw [run_slice_string _ _ _ _ _ _ _ Tryd.underlying9 (by omega) (by omega) (by rw [hsz]; omega)]
        rw [show ((i : Int)).toNat = i by omega, show ((i : Int) + 64).toNat = i + 64 by omega, e2]
      have hw64 : IntKind.i64.wrap ((i : Int) + 64) = (i : Int) + 64 := by rw [IntKind.wrap_i64]; omega
      go_wp2_with fail
      go_region_with (first | (go_at_call 32; refine D.out.mono ?_; rintro e w9 ⟨rfl, b9⟩; obtain ⟨hb9, f0, f1, f2, f3, f4, f5, f6, f7, d0, d1, d2, d3, d4, d5, d6, d7⟩ := cells8 (HB.out.drew.below b9 HB.out.lt) hl8))
      have HF := Lib.hid (hb9.out.set8' hl8 hl9)
      have HGF := Lib.hid (below_of_only (HG.out.drew.trans (b9.mono HG.out.size)) (only_set8 (only_refl w9 (some w.heap.size)) (.int .u32 (n32 (wd (vAt all (k + 1)) 0))) (.int .u32 (n32 (wd (vAt all (k + 1)) 1))) (.int .u32 (n32 (wd (vAt all (k + 1)) 2))) (.int .u32 (n32 (wd (vAt all (k + 1)) 3))) (.int .u32 (n32 (wd (vAt all (k + 1)) 4))) (.int .u32 (n32 (wd (vAt all (k + 1)) 5))) (.int .u32 (n32 (wd (vAt all (k + 1)) 6))) (.int .u32 (n32 (wd (vAt all (k + 1)) 7)))) (Nat.le_refl _) (by have h1 := HG.out.size; have h2 := b9.size; simp at h2; omega))
      go_wp2_with fail
      go_roundw
      case rel =>
        have h64 := HI.out
        exact ⟨k + 1, by omega, by rw [show (i : Int) + 64 = ((64 * (k + 1) : Nat) : Int) by omega], HF.out, HGF.out⟩
      case measure => simp [intOf]; omega
    · have hkN : k = N / 64 := by have := HI.out; omega
      obtain ⟨V, hV⟩ : ∃ V, Hid (V = vAt all k) := ⟨_, rfl⟩
      have hVl : V.length = 8 := by rw [hV.out]; exact vAt_length all k
      have hsh : sha l = outL V := by rw [sha_vAt, hV.out, hkN, hNN.out, hall.out]
      have HSH := Lib.hid hsh
      rw [← hV.out] at HB
      obtain ⟨w4, rfl⟩ : ∃ w4, w4 = wr := ⟨_, rfl⟩
      clear hsh hkN
      go_wp2_with fail
      clear hN1 hN2 hsz hk hi64 hlt Z
      go_loopw [6, 7, 8] (fun v6 v7 v8 wx => ∃ j : Nat, j ≤ 8 ∧ v7 = .int .i64 j ∧ Own 5 wx (w.heap.size + 1) v6 (cb (outL (V.take j))) ∧ Blk wx w.heap.size 52 (wc V) ∧ Below w.heap.size w wx) (fun _ v _ _ => 8 - (intOf v).toNat)
      case atStart => exact ⟨0, by omega, rfl, own_nil _ _ _, HB.out, HG.out⟩
      case round =>
        obtain ⟨j, hj, rfl, hO, hB2, hG2⟩ := hrel
        have HO := Lib.hid hO
        have HB2 := Lib.hid hB2
        have HG2 := Lib.hid hG2
        clear hO hB2 hG2
        by_cases hlt2 : j < 8
        · obtain ⟨pre, hpre⟩ : ∃ pre, Hid (pre = outL (V.take j)) := ⟨_, rfl⟩
          have hpl : pre.length ≤ 32 := by rw [hpre.out, outL_length, List.length_take]; omega
          obtain ⟨x, hx⟩ : ∃ x, Hid (x = wd V j) := ⟨_, rfl⟩
          have hnx := outL_take V j (by omega)
          rw [← hpre.out, ← hx.out] at hnx
          have HNX := Lib.hid hnx
          rw [← hpre.out] at HO
          have hj8 : (0 : Int) ≤ (j : Int) ∧ (j : Int) < 8 := by omega
          clear hnx
          go_wp2_with fail
          go_loopw [6, 8] (fun v6 v8 wx => ∃ m : Nat, m ≤ 4 ∧ v8 = .int .i64 (3 - m) ∧ Own 5 wx (w.heap.size + 1) v6 (cb (pre ++ (wordL x).take m)) ∧ Blk wx w.heap.size 52 (wc V) ∧ Below w.heap.size w wx) (fun _ v _ => (intOf v + 1).toNat)
          case atStart => exact ⟨0, by omega, rfl, by simpa using HO.out, HB2.out, HG2.out⟩
          case round =>
            obtain ⟨m, hm, rfl, hO3, hB3, hG3⟩ := hrel
            have HO3 := Lib.hid hO3
            have HB3 := Lib.hid hB3
            have HG3 := Lib.hid hG3
            clear hO3 hB3 hG3
            by_cases hlt3 : m < 4
            · have c1 : wr.cell? ⟨w.heap.size, j, none⟩ = some (.int .u32 (n32 x)) := by rw [hx.out]; exact (HB3.out.cell j).trans (wc_get V j (by omega))
              have hst := wordL_take x m hlt3
              obtain ⟨y, hy⟩ : ∃ y, Hid (y = w8 (x >>> (8 * (3 - m)))) := ⟨_, rfl⟩
              rw [← hy.out] at hst
              have e1 : (n32 x / 2 ^ (8 * (3 - m))) % 256 = n8 y := by
                rw [hy.out, ← w8_n8, ← v32_shr_nat]
                push_cast
                rfl
              have hge : (0 : Int) ≤ 3 - (m : Int) := by omega
              have hm3 : (m : Int) ≤ 3 := by omega
              have hge2 : (0 : Int) ≤ 8 * (3 - (m : Int)) := by omega
              have hle : (cb (pre ++ (wordL x).take m)).length ≤ 36 := by rw [cb_length, List.length_append, List.length_take, wordL_length]; omega
              have hsz3 := HB3.out.lt
              obtain ⟨A', c', w', hrun, hown, hgr⟩ := own_append (ty := 30) elemU8 (HO3.out.alloc (.cells #[.int .u8 (n8 y)] 5)) wr.heap.size 1 1 [.int .u8 (n8 y)] rfl (fun j u h => new_cells wr _ _ j u h) (by intro u hu; simp at hu; subst hu; rfl) (by omega) (by omega) (by simp; omega)
              have hfin : Own 5 w' (w.heap.size + 1) (.slice A' ((cb (pre ++ (wordL x).take m)).length + 1) c') (cb (pre ++ (wordL x).take (m + 1))) ∧ Blk w' w.heap.size 52 (wc V) ∧ Below w.heap.size w w' := by
                rw [hst, ← List.append_assoc, cb_append _ [y]]
                refine ⟨hown, (HB3.out.alloc _).grown hgr (fun h => ?_), (HG3.out.alloc HG3.out.size _).grown hgr (by simp; omega) (fun k hk => Nat.le_of_succ_le ((HO3.out.alloc (.cells #[.int .u8 (n8 y)] 5)).lt k hk).1)⟩
                have := (HO3.out.lt _ h.symm).1
                omega
              have HF := Lib.hid hfin
              have HR := Lib.hid hrun
              clear hst hown hgr hfin hrun hle
              go_wp2_with (at_builtin; refine wpList_append_run rfl _ _ _ _ rfl rfl rfl HR.out ?_)
              exact ⟨⟨m + 1, by omega, by rw [show (3 : Int) - (m : Int) - 1 = 3 - ((m + 1 : Nat) : Int) by omega], HF.out.1, HF.out.2.1, HF.out.2.2⟩, by simp [intOf]; omega⟩
            · obtain rfl : m = 4 := by omega
              rw [show (wordL x).take 4 = wordL x from rfl, ← HNX.out] at HO3
              go_wp2_with fail
              go_roundw
              case rel => exact ⟨j + 1, by omega, by go_num, HO3.out, HB3.out, HG3.out⟩
              case measure => simp [intOf]; omega
        · obtain rfl : j = 8 := by omega
          rw [List.take_of_length_le (by omega), ← HSH.out] at HO
          obtain ⟨S, hS⟩ : ∃ S, Hid (S = sha l) := ⟨_, rfl⟩
          rw [← hS.out] at HO
          have hcv := own_string Tryd.underlying30 Tryd.underlying5 Tryd.underlying9 HO.out
          go_wp2_with fail
          go_ret
          exact ⟨by rw [← hS.out]; rfl, HG2.out⟩
end Go.Proofs.YtmaomfebhbpjmaaDoor

/- The law DiskLast. -/
import Derived.Test.YtbbmhcloigphjaaDkSynced
namespace Go.Proofs.Ytbbmhcloigphjaa
open Go.RowKit Go.Proofs.YtbbmhcloigphjaaW.PrintWords Go.Proofs.YtbbmhcloigphjaaW.PrintLast
set_option linter.unusedSimpArgs false
set_option linter.unusedVariables false
theorem notArr6 : ¬ DkT 39 := by unfold DkT; decide
/-- the place that is written next. -/
def lastAt (zs : List Int) (k : Nat) : Nat := if k < zs.length then amL (zs.getD k 0) 7 else 0
set_option maxHeartbeats 3200000 in
set_option maxRecDepth 20000 in
theorem law_DiskLast (A : Option Addr) (n c : Nat) (ls : List (List UInt8)) (A2 : Option Addr) (n2 c2 : Nat) (ats : List Int) (w : World) (hS : Strs w A n ls) (hl : ∀ l ∈ ls, l.length ≤ 140737488351232) (hP : Ints w A2 n2 ats) :
    Calls Try.prog 5 #[.slice A n c, .slice A2 n2 c2] w fun e w' => e = .returned (.bool true) ∧ Below w.heap.size w w' := by
  have HS := Lib.hid hS
  have HP := Lib.hid hP
  clear hS hP hl
  go_enter Try.func5, Try.ntmps5
  go_wp2_with fail
  refine (new_any 6 (by decide) (by decide) w).mono ?_
  rintro e w1 ⟨g, rfl, D, b_⟩
  have D1 := Lib.hid D
  have F1 := Lib.hid (Fr.of b_ (Nat.le_refl _))
  clear D b_
  go_wp2_with fail
  refine (works_any w1).mono ?_
  rintro e w2 ⟨rfl, b_⟩
  have D2 := Lib.hid (D1.out.below b_)
  have F2 := Lib.hid (F1.out.below b_ D1.out.hB)
  clear b_ F1 D1
  go_upto_region 5 with (first | ((with_reducible refine gate_dst (N := 7) rfl ?_); refine box_event ?hg (N := 7) ?hd (cs := #[.string ⟨#[]⟩, .string ⟨#[]⟩, .string ⟨#[]⟩, .string ⟨#[]⟩, .string ⟨#[]⟩, .string ⟨#[]⟩]) (t := 39) ?hr ?_; (case hd => rfl); (case hg => rfl); (case hr => first | (go_simp; done) | (go_simp; rfl)); intro gw hgw_ w3 hbox hb3; have hgw := Lib.hid hgw_; clear hgw_))
  have D3 := Lib.hid (D2.out.below hb3)
  have F3 := Lib.hid (F2.out.below hb3 D2.out.hB)
  have X3 := Lib.hid (show Blk w3 gw 39 (cstr (List.replicate 6 [])).toArray from hbox)
  have GW := Lib.hid (show w.heap.size ≤ gw by rw [hgw.out]; exact D2.out.hB)
  clear hbox hb3 hgw F2 D2
  go_wp2_with fail
  go_loopg [29] 7 (fun kq v wr => ∃ (k : Nat) (W : List (List UInt8)), kq = 7 - k ∧ v = .int .i64 (k : Nat) ∧ k ≤ 6 ∧ Hid (W.length = 6) ∧ Hid (∀ j, j < k → W.getD j [] = zs64) ∧ Hid (DkAt w.heap.size wr g (Dk.new 6)) ∧ Hid (Fr w.heap.size w wr) ∧ Hid (Blk wr gw 39 (cstr W).toArray))
  case atStart => exact ⟨0, _, rfl, rfl, by decide, Lib.hid rfl, Lib.hid (fun j hj => absurd hj (by omega)), D3, F3, X3⟩
  case round =>
    clear D3 F3 X3
    obtain ⟨k, W, rfl, rfl, hk, HW, HZ, HD, HF, HX⟩ := hrel
    by_cases hk6 : k < 6
    · have HK := Lib.hid hk6
      go_wp2_with fail
      refine (sector_any [] wr).mono ?_
      rintro e w5 ⟨rfl, b_⟩
      rw [show secL [] = zs64 from rfl]
      have D5 := Lib.hid (HD.out.below b_)
      have F5 := Lib.hid (HF.out.below b_ HD.out.hB)
      have X5 := Lib.hid (HX.out.below b_ HX.out.lt)
      have hcm : w5.cell? ⟨gw, k, none⟩ = some (.string ⟨(W.getD k []).toArray⟩) := (X5.out.cell k).trans (by rw [List.getElem?_toArray]; exact cstr_get W k (by rw [HW.out]; exact hk6))
      have hfm := X5.out.frozen k
      clear b_ HD HF HX
      go_wp2_with fail
      go_roundg (7 - (k + 1))
      case measure => omega
      case rel =>
        refine ⟨k + 1, W.set k zs64, rfl, by first | rfl | (congr 1; omega), by omega, Lib.hid (by rw [List.length_set]; exact HW.out), Lib.hid (fun j hj => ?_), Lib.hid (D5.out.foreign X5.out notArr6 _ _), Lib.hid (F5.out.far GW.out _ _), Lib.hid ?_⟩
        · rw [getD_set' _ _ _ _ (by rw [HW.out]; exact HK.out)]
          by_cases hjk : j = k
          · rw [if_pos hjk]
          · rw [if_neg hjk]; exact HZ.out j (by omega)
        · have := X5.out.set_ k (.string ⟨zs64.toArray⟩)
          rwa [cstr_set] at this
    · have e6 : W = (Dk.new 6).l := by
        apply List.ext_getElem?
        intro j
        show W[j]? = (List.replicate 6 zs64)[j]?
        rw [List.getElem?_replicate]
        by_cases hj : j < 6
        · have := HZ.out j (by omega)
          rw [List.getD_eq_getElem?_getD, List.getElem?_eq_getElem (by rw [HW.out]; exact hj)] at this
          rw [if_pos hj, List.getElem?_eq_getElem (by rw [HW.out]; exact hj)]
          exact congrArg some this
        · rw [if_neg hj, List.getElem?_eq_none (by rw [HW.out]; omega)]
      rw [e6] at HX
      clear HW HZ e6
      go_wp2_with fail
      go_loopg [9, 10] 61 (fun kq v9 v10 wr => ∃ (k : Nat) (d : Dk), kq = 61 - k ∧ v9 = .int .i64 (d.w.length : Nat) ∧ v10 = .int .i64 (k : Nat) ∧ k ≤ 60 ∧ k ≤ n ∧ Hid (d.w.length ≤ k) ∧ Hid d.Calm ∧ Hid (d.l.length = 6) ∧ Hid (DkAt w.heap.size wr g d) ∧ Hid (Fr w.heap.size w wr) ∧ Hid (Blk wr gw 39 (cstr d.l).toArray))
      case atStart => exact ⟨0, _, rfl, rfl, rfl, by decide, Nat.zero_le _, Lib.hid (Nat.le_refl _), Lib.hid ⟨rfl, rfl⟩, Lib.hid rfl, HD, HF, HX⟩
      case round =>
        clear HD HF HX hk hk6
        obtain ⟨i, d, rfl, rfl, rfl, hi, hin, hwi, HC, HL, HD, HF, HX⟩ := hrel
        by_cases hgo : i < n ∧ i < 60
        · obtain ⟨h1, h2⟩ := hgo
          obtain ⟨tg, tq, eA, htg, hc⟩ := HS.out.2 (by omega)
          subst eA
          obtain ⟨t, et⟩ : ∃ t, Hid (ls.getD i [] = t) := ⟨_, Lib.hid rfl⟩
          have HWI := Lib.hid hwi.out
          have hwv : d.w.length ≤ 60 := by have := HWI.out; omega
          have hiI : (i : Int) < 60 := by omega
          by_cases h3 : i < n2
          · obtain ⟨ag, ao, eA2, hag, hca⟩ := HP.out.2 (by omega)
            subst eA2
            have hcz := (HF.out.b.cell (p := ⟨ag, ao + i, none⟩) hag).trans (hca i h3)
            obtain ⟨z, ez⟩ : ∃ z, Hid (ats.getD i 0 = z) := ⟨_, Lib.hid rfl⟩
            rw [ez.out] at hcz
            clear hca
            go_wp2_with fail
            refine (among_any z 7 (by decide) (by decide) wr).mono ?_
            rintro e w4 ⟨rfl, b_⟩
            have hq7 := amL_lt z 7 (by decide)
            obtain ⟨q, eq⟩ : ∃ q, amL z 7 = q := ⟨_, rfl⟩
            rw [eq] at hq7 ⊢
            have hck := (HF.out.b.trans (b_.mono HD.out.hB)).cell (p := ⟨tg, tq + i, none⟩) htg |>.trans (hc i h1)
            rw [et.out] at hck
            have D4 := Lib.hid (HD.out.below b_)
            have F4 := Lib.hid (HF.out.below b_ HD.out.hB)
            have X4 := Lib.hid (HX.out.below b_ HX.out.lt)
            clear b_ HD HF HX hcz eq hc
            by_cases hq6 : q = 6
            · subst hq6
              clear hck
              go_wp2_with fail
              refine (sync_c D4.out HC.out).mono ?_
              rintro e w5 ⟨rfl, D, f⟩
              have D5 := Lib.hid D
              have F5 := Lib.hid (F4.out.trans f)
              have X5 := Lib.hid (X4.out.fr notArr6 f)
              clear D f D4 F4 X4
              go_wp2_with fail
              go_roundg (61 - (i + 1))
              case measure => omega
              case rel => exact ⟨i + 1, { d with w := [] }, rfl, rfl, by first | rfl | (congr 1; omega), by omega, by omega, Lib.hid (Nat.zero_le _), HC, HL, D5, F5, X5⟩
            · have hqm : q < 6 := by omega
              have HM := Lib.hid hqm
              have hqb : ((q : Int) == 6) = false := beq_eq_false_iff_ne.mpr (by omega)
              clear hq6 hq7
              go_wp2_with fail
              refine (sector_any t w4).mono ?_
              rintro e w5 ⟨rfl, b_⟩
              obtain ⟨s, es⟩ : ∃ s, Hid (secL t = s) := ⟨_, Lib.hid rfl⟩
              rw [es.out]
              have LS := Lib.hid (show s.length = 64 by rw [← es.out]; exact secL_length _)
              have D5 := Lib.hid (D4.out.below b_)
              have F5 := Lib.hid (F4.out.below b_ D4.out.hB)
              have X5 := Lib.hid (X4.out.below b_ X4.out.lt)
              have hcm : w5.cell? ⟨gw, q, none⟩ = some (.string ⟨(d.l.getD q []).toArray⟩) := (X5.out.cell q).trans (by rw [List.getElem?_toArray]; exact cstr_get d.l q (by rw [HL.out]; exact HM.out))
              have hfm := X5.out.frozen q
              clear b_ D4 F4 X4 hck
              go_upto_region 22 with fail
              refine gen_world (fun W' => DkAt w.heap.size W' g d ∧ Fr w.heap.size w W' ∧ Blk W' gw 39 (cstr (d.l.set q s)).toArray) ?_ ?_
              · exact ⟨D5.out.foreign X5.out notArr6 _ _, F5.out.far GW.out _ _, by have := X5.out.set_ q (.string ⟨s.toArray⟩); rwa [cstr_set] at this⟩
              clear hcm hfm D5 F5 X5
              rintro w6 ⟨hD, hF, hX⟩
              have D6 := Lib.hid hD
              have F6 := Lib.hid hF
              have X6 := Lib.hid hX
              have hcm : w6.cell? ⟨gw, q, none⟩ = some (.string ⟨s.toArray⟩) := (hX.cell q).trans (by rw [List.getElem?_toArray, cstr_get _ _ (by rw [List.length_set, HL.out]; exact HM.out), getD_set' _ _ _ _ (by rw [HL.out]; exact HM.out), if_pos rfl])
              clear hD hF hX
              go_wp2_with fail
              refine (write_c D6.out HC.out q (by rw [HL.out]; exact HM.out) s LS.out (by have := HWI.out; omega)).mono ?_
              rintro e w7 ⟨rfl, D, f⟩
              obtain ⟨d', ed⟩ : ∃ d', Hid (d.put q s = d') := ⟨_, Lib.hid rfl⟩
              rw [ed.out] at D
              have HC' := Lib.hid (show d'.Calm by rw [← ed.out]; exact HC.out)
              have HL' := Lib.hid (show d'.l.length = 6 by rw [← ed.out]; show (d.l.set q s).length = 6; rw [List.length_set]; exact HL.out)
              have HW' := Lib.hid (show d'.w.length = d.w.length + 1 by rw [← ed.out]; show (d.w ++ [_]).length = _; rw [List.length_append]; rfl)
              have X7 := Lib.hid (show Blk w7 gw 39 (cstr d'.l).toArray by rw [← ed.out]; exact X6.out.fr notArr6 f)
              have D7 := Lib.hid D
              have F7 := Lib.hid (F6.out.trans f)
              clear D f D6 F6 X6 hcm
              go_wp2_with fail
              refine (waits_c D7.out).mono ?_
              rintro e w8 ⟨rfl, b_⟩
              rw [HW'.out]
              have D8 := Lib.hid (D7.out.below b_)
              have F8 := Lib.hid (F7.out.below b_ D7.out.hB)
              have X8 := Lib.hid (X7.out.below b_ X7.out.lt)
              clear b_ D7 F7 X7
              go_wp2_with fail
              go_loopg [82] 7 (fun kq v wr => ∃ (j : Nat), kq = 7 - j ∧ v = .int .i64 (j : Nat) ∧ j ≤ 6 ∧ Hid (DkAt w.heap.size wr g d') ∧ Hid (Fr w.heap.size w wr) ∧ Hid (Blk wr gw 39 (cstr d'.l).toArray))
              case atStart => exact ⟨0, rfl, rfl, by decide, D8, F8, X8⟩
              case round =>
                clear D8 F8 X8
                obtain ⟨j, rfl, rfl, hj, HD, HF, HX⟩ := hrel
                by_cases hj6 : j < 6
                · have HJ := Lib.hid hj6
                  go_wp2_with fail
                  refine (read_c HD.out HC'.out j (by rw [HL'.out]; exact HJ.out)).mono ?_
                  rintro e w9 ⟨rfl, b_⟩
                  obtain ⟨x, ex⟩ : ∃ x, Hid (d'.l.getD j [] = x) := ⟨_, Lib.hid rfl⟩
                  rw [ex.out]
                  have D9 := Lib.hid (HD.out.below b_)
                  have F9 := Lib.hid (HF.out.below b_ HD.out.hB)
                  have X9 := Lib.hid (HX.out.below b_ HX.out.lt)
                  have hcj : w9.cell? ⟨gw, j, none⟩ = some (.string ⟨x.toArray⟩) := (X9.out.cell j).trans (by rw [List.getElem?_toArray, cstr_get _ _ (by rw [HL'.out]; exact HJ.out), ex.out])
                  clear b_ HD HF HX
                  go_wp2_with fail
                  go_roundg (7 - (j + 1))
                  case measure => omega
                  case rel => exact ⟨j + 1, rfl, by first | rfl | (congr 1; omega), by omega, D9, F9, X9⟩
                · go_wp2_with fail
                  go_roundg (61 - (i + 1))
                  case measure => omega
                  case rel => exact ⟨i + 1, d', rfl, by rw [HW'.out]; first | rfl | (congr 1; omega), by first | rfl | (congr 1; omega), by omega, by omega, Lib.hid (by rw [HW'.out]; have := HWI.out; omega), HC', HL', HD, HF, HX⟩
          · have HM := Lib.hid (show 0 < 6 by decide)
            have hck := (HF.out.b.cell (p := ⟨tg, tq + i, none⟩) htg).trans (hc i h1)
            rw [et.out] at hck
            clear hc
            go_wp2_with fail
            refine (sector_any t wr).mono ?_
            rintro e w5 ⟨rfl, b_⟩
            obtain ⟨s, es⟩ : ∃ s, Hid (secL t = s) := ⟨_, Lib.hid rfl⟩
            rw [es.out]
            have LS := Lib.hid (show s.length = 64 by rw [← es.out]; exact secL_length _)
            have D5 := Lib.hid (HD.out.below b_)
            have F5 := Lib.hid (HF.out.below b_ HD.out.hB)
            have X5 := Lib.hid (HX.out.below b_ HX.out.lt)
            have hcm : w5.cell? ⟨gw, 0, none⟩ = some (.string ⟨(d.l.getD 0 []).toArray⟩) := (X5.out.cell 0).trans (by rw [List.getElem?_toArray]; exact cstr_get d.l 0 (by rw [HL.out]; exact HM.out))
            have hfm := X5.out.frozen 0
            clear b_ HD HF HX hck
            go_upto_region 22 with fail
            refine gen_world (fun W' => DkAt w.heap.size W' g d ∧ Fr w.heap.size w W' ∧ Blk W' gw 39 (cstr (d.l.set 0 s)).toArray) ?_ ?_
            · exact ⟨D5.out.foreign X5.out notArr6 _ _, F5.out.far GW.out _ _, by have := X5.out.set_ 0 (.string ⟨s.toArray⟩); rwa [cstr_set] at this⟩
            clear hcm hfm D5 F5 X5
            rintro w6 ⟨hD, hF, hX⟩
            have D6 := Lib.hid hD
            have F6 := Lib.hid hF
            have X6 := Lib.hid hX
            have hcm : w6.cell? ⟨gw, 0, none⟩ = some (.string ⟨s.toArray⟩) := (hX.cell 0).trans (by rw [List.getElem?_toArray, cstr_get _ _ (by rw [List.length_set, HL.out]; exact HM.out), getD_set' _ _ _ _ (by rw [HL.out]; exact HM.out), if_pos rfl])
            clear hD hF hX
            go_wp2_with fail
            refine (write_c D6.out HC.out 0 (by rw [HL.out]; exact HM.out) s LS.out (by have := HWI.out; omega)).mono ?_
            rintro e w7 ⟨rfl, D, f⟩
            obtain ⟨d', ed⟩ : ∃ d', Hid (d.put 0 s = d') := ⟨_, Lib.hid rfl⟩
            rw [ed.out] at D
            have HC' := Lib.hid (show d'.Calm by rw [← ed.out]; exact HC.out)
            have HL' := Lib.hid (show d'.l.length = 6 by rw [← ed.out]; show (d.l.set 0 s).length = 6; rw [List.length_set]; exact HL.out)
            have HW' := Lib.hid (show d'.w.length = d.w.length + 1 by rw [← ed.out]; show (d.w ++ [_]).length = _; rw [List.length_append]; rfl)
            have X7 := Lib.hid (show Blk w7 gw 39 (cstr d'.l).toArray by rw [← ed.out]; exact X6.out.fr notArr6 f)
            have D7 := Lib.hid D
            have F7 := Lib.hid (F6.out.trans f)
            clear D f D6 F6 X6 hcm
            go_wp2_with fail
            refine (waits_c D7.out).mono ?_
            rintro e w8 ⟨rfl, b_⟩
            rw [HW'.out]
            have D8 := Lib.hid (D7.out.below b_)
            have F8 := Lib.hid (F7.out.below b_ D7.out.hB)
            have X8 := Lib.hid (X7.out.below b_ X7.out.lt)
            clear b_ D7 F7 X7
            go_wp2_with fail
            go_loopg [82] 7 (fun kq v wr => ∃ (j : Nat), kq = 7 - j ∧ v = .int .i64 (j : Nat) ∧ j ≤ 6 ∧ Hid (DkAt w.heap.size wr g d') ∧ Hid (Fr w.heap.size w wr) ∧ Hid (Blk wr gw 39 (cstr d'.l).toArray))
            case atStart => exact ⟨0, rfl, rfl, by decide, D8, F8, X8⟩
            case round =>
              clear D8 F8 X8
              obtain ⟨j, rfl, rfl, hj, HD, HF, HX⟩ := hrel
              by_cases hj6 : j < 6
              · have HJ := Lib.hid hj6
                go_wp2_with fail
                refine (read_c HD.out HC'.out j (by rw [HL'.out]; exact HJ.out)).mono ?_
                rintro e w9 ⟨rfl, b_⟩
                obtain ⟨x, ex⟩ : ∃ x, Hid (d'.l.getD j [] = x) := ⟨_, Lib.hid rfl⟩
                rw [ex.out]
                have D9 := Lib.hid (HD.out.below b_)
                have F9 := Lib.hid (HF.out.below b_ HD.out.hB)
                have X9 := Lib.hid (HX.out.below b_ HX.out.lt)
                have hcj : w9.cell? ⟨gw, j, none⟩ = some (.string ⟨x.toArray⟩) := (X9.out.cell j).trans (by rw [List.getElem?_toArray, cstr_get _ _ (by rw [HL'.out]; exact HJ.out), ex.out])
                clear b_ HD HF HX
                go_wp2_with fail
                go_roundg (7 - (j + 1))
                case measure => omega
                case rel => exact ⟨j + 1, rfl, by first | rfl | (congr 1; omega), by omega, D9, F9, X9⟩
              · go_wp2_with fail
                go_roundg (61 - (i + 1))
                case measure => omega
                case rel => exact ⟨i + 1, d', rfl, by rw [HW'.out]; first | rfl | (congr 1; omega), by first | rfl | (congr 1; omega), by omega, by omega, Lib.hid (by rw [HW'.out]; have := HWI.out; omega), HC', HL', HD, HF, HX⟩
        · have hx : (¬ i < n) ∨ (i < n ∧ ¬ i < 60) := by omega
          clear hgo
          rcases hx with h1 | ⟨h1, h2⟩
          all_goals
            go_wp2_with fail
            refine (size_c HD.out).mono ?_
            rintro e w5 ⟨rfl, b_⟩
            rw [HL.out]
            have F5 := Lib.hid (HF.out.below b_ HD.out.hB)
            clear b_ HD HF
            go_wp2_with fail
            go_ret
            exact ⟨rfl, F5.out.b⟩
end Go.Proofs.Ytbbmhcloigphjaa

/- The law DiskSynced. -/
import Derived.Test.YtbbmhcloigphjaaDkV
namespace Go.Proofs.Ytbbmhcloigphjaa
open Go.RowKit Go.Proofs.YtbbmhcloigphjaaW.PrintWords Go.Proofs.YtbbmhcloigphjaaW.PrintLast
set_option linter.unusedSimpArgs false
set_option linter.unusedVariables false
/-- what the law wrote down is what the disk has, where it wrote. -/
structure Noted (d : Dk) (n : Nat) (W : List (List UInt8)) : Prop where
  c : d.Calm
  l : d.l.length = n
  w : W.length = n
  e : ∀ j, j < n → d.l.getD j [] = if W.getD j [] = [] then zs64 else W.getD j []
theorem getD_set' (l : List (List UInt8)) (i j : Nat) (s : List UInt8) (hi : i < l.length) : (l.set i s).getD j [] = if j = i then s else l.getD j [] := by
  rw [List.getD_eq_getElem?_getD, List.getElem?_set]
  by_cases h : i = j
  · subst h
    simp [hi]
  · rw [if_neg h, if_neg (fun e => h e.symm)]
    exact (List.getD_eq_getElem?_getD).symm
theorem Noted.put {d : Dk} {n : Nat} {W : List (List UInt8)} (h : Noted d n W) {i : Nat} (hi : i < n) {s : List UInt8} (hs : s.length = 64) : Noted (d.put i s) n (W.set i s) := by
  refine ⟨h.c, ?_, ?_, fun j hj => ?_⟩
  · show (d.l.set i s).length = n; rw [List.length_set]; exact h.l
  · rw [List.length_set]; exact h.w
  · show (d.l.set i s).getD j [] = _
    rw [getD_set' _ _ _ _ (by rw [h.l]; exact hi), getD_set' _ _ _ _ (by rw [h.w]; exact hi)]
    by_cases hji : j = i
    · rw [if_pos hji, if_pos hji, if_neg (fun e => by rw [e] at hs; cases hs)]
    · rw [if_neg hji, if_neg hji]; exact h.e j hj
theorem noted_new (n : Nat) : Noted (Dk.new n) n (List.replicate n []) := by
  refine ⟨⟨rfl, rfl⟩, List.length_replicate, List.length_replicate, fun j hj => ?_⟩
  show (List.replicate n zs64).getD j [] = _
  simp [List.getD_eq_getElem?_getD, List.getElem?_replicate, hj]
theorem cstr_set (l : List (List UInt8)) (i : Nat) (s : List UInt8) : (cstr l).toArray.setIfInBounds i (.string ⟨s.toArray⟩) = (cstr (l.set i s)).toArray := by
  simp [cstr, List.map_set]
theorem notArr : ¬ DkT 29 := by unfold DkT; decide
theorem size_arr : (Try.prog.info? 29).map (·.size) = some 8 := by kernel_rfl
set_option maxHeartbeats 1600000 in
theorem law_DiskSynced (A : Option Addr) (n c : Nat) (ls : List (List UInt8)) (A2 : Option Addr) (n2 c2 : Nat) (picks : List Int) (w : World) (hS : Strs w A n ls) (hl : ∀ l ∈ ls, l.length ≤ 140737488351232) (hP : Ints w A2 n2 picks) :
    Calls Try.prog 3 #[.slice A n c, .slice A2 n2 c2] w fun e w' => e = .returned (.bool true) ∧ Below w.heap.size w w' := by
  have HS := Lib.hid hS
  have HP := Lib.hid (pk_arg hP)
  clear hS hP hl
  go_enter Try.func3, Try.ntmps3
  go_wp2_with fail
  refine (new_any 8 (by decide) (by decide) w).mono ?_
  rintro e w1 ⟨g, rfl, D, b_⟩
  have D1 := Lib.hid D
  have F1 := Lib.hid (Fr.of b_ (Nat.le_refl _))
  clear D b_
  go_wp2_with fail
  refine (works_any w1).mono ?_
  rintro e w2 ⟨rfl, b_⟩
  have D2 := Lib.hid (D1.out.below b_)
  have F2 := Lib.hid (F1.out.below b_ D1.out.hB)
  clear b_ F1 D1
  go_upto_region 5 with (first | ((with_reducible refine gate_dst (N := 7) rfl ?_); refine box_event ?hg (N := 7) ?hd (cs := #[.string ⟨#[]⟩, .string ⟨#[]⟩, .string ⟨#[]⟩, .string ⟨#[]⟩, .string ⟨#[]⟩, .string ⟨#[]⟩, .string ⟨#[]⟩, .string ⟨#[]⟩]) (t := 29) ?hr ?_; (case hd => rfl); (case hg => rfl); (case hr => first | (go_simp; done) | (go_simp; rfl)); intro gw hgw_ w3 hbox hb3; have hgw := Lib.hid hgw_; clear hgw_))
  have D3 := Lib.hid (D2.out.below hb3)
  have F3 := Lib.hid (F2.out.below hb3 D2.out.hB)
  have X3 := Lib.hid (show Blk w3 gw 29 (cstr (List.replicate 8 [])).toArray from hbox)
  have GW := Lib.hid (show w.heap.size ≤ gw by rw [hgw.out]; exact D2.out.hB)
  clear hbox hb3 hgw F2 D2
  go_wp2_with fail
  go_loopg [8] 41 (fun kq v wr => ∃ (k : Nat) (d : Dk) (W : List (List UInt8)), kq = 41 - k ∧ v = .int .i64 (k : Nat) ∧ k ≤ 40 ∧ k ≤ n ∧ Hid (Noted d 8 W) ∧ Hid (d.w.length = k) ∧ Hid (DkAt w.heap.size wr g d) ∧ Hid (Fr w.heap.size w wr) ∧ Hid (Blk wr gw 29 (cstr W).toArray))
  case atStart => exact ⟨0, _, _, rfl, rfl, by decide, Nat.zero_le _, Lib.hid (noted_new 8), Lib.hid rfl, D3, F3, X3⟩
  case round =>
    clear D3 F3 X3
    obtain ⟨k, d, W, rfl, rfl, hk, hkn, HN, HW, HD, HF, HX⟩ := hrel
    by_cases hgo : k < n ∧ k < 40
    · obtain ⟨h1, h2⟩ := hgo
      obtain ⟨tg, tq, eA, htg, hc⟩ := HS.out.2 (by omega)
      subst eA
      have hck := (HF.out.b.cell (p := ⟨tg, tq + k, none⟩) htg).trans (hc k h1)
      obtain ⟨t, et⟩ : ∃ t, Hid (ls.getD k [] = t) := ⟨_, Lib.hid rfl⟩
      rw [et.out] at hck
      obtain ⟨m, hm, hm8⟩ : ∃ m : Nat, (k : Int).tmod 8 = (m : Int) ∧ m < 8 := ⟨k % 8, by rw [Int.tmod_eq_emod_of_nonneg (by omega)]; omega, Nat.mod_lt _ (by decide)⟩
      have HM := Lib.hid hm8
      clear hc
      go_wp2_with fail
      refine (sector_any t wr).mono ?_
      rintro e w5 ⟨rfl, b_⟩
      obtain ⟨s, es⟩ : ∃ s, Hid (secL t = s) := ⟨_, Lib.hid rfl⟩
      rw [es.out]
      have LS := Lib.hid (show s.length = 64 by rw [← es.out]; exact secL_length _)
      have D5 := Lib.hid (HD.out.below b_)
      have F5 := Lib.hid (HF.out.below b_ HD.out.hB)
      have X5 := Lib.hid (HX.out.below b_ HX.out.lt)
      clear b_ HD HF HX hck
      go_wp2_with fail
      refine (write_c D5.out HN.out.c m (by rw [HN.out.l]; exact HM.out) s LS.out (by rw [HW.out]; omega)).mono ?_
      rintro e w6 ⟨rfl, D, f⟩
      have D6 := Lib.hid D
      have F6 := Lib.hid (F5.out.trans f)
      have X6 := Lib.hid (X5.out.fr notArr f)
      have hcm : w6.cell? ⟨gw, m, none⟩ = some (.string ⟨(W.getD m []).toArray⟩) := (X6.out.cell m).trans (by rw [List.getElem?_toArray]; exact cstr_get W m (by rw [HN.out.w]; exact HM.out))
      have hfm := X6.out.frozen m
      clear D f D5 F5 X5
      go_wp2_with fail
      go_roundg (41 - (k + 1))
      case measure => omega
      case rel =>
        refine ⟨k + 1, d.put m s, W.set m s, rfl, by first | rfl | (congr 1; omega), by omega, by omega, Lib.hid (HN.out.put HM.out LS.out), Lib.hid ?_, Lib.hid (D6.out.foreign X6.out notArr _ _), Lib.hid (F6.out.far GW.out _ _), Lib.hid ?_⟩
        · show (d.w ++ [_]).length = k + 1
          rw [List.length_append, HW.out]; rfl
        · have := X6.out.set_ m (.string ⟨s.toArray⟩)
          rwa [cstr_set] at this
    · have hx : (¬ k < n) ∨ (k < n ∧ ¬ k < 40) := by omega
      clear hgo
      rcases hx with h1 | ⟨h1, h2⟩
      all_goals
        go_wp2_with fail
        refine (sync_c HD.out HN.out.c).mono ?_
        rintro e w5 ⟨rfl, D, f⟩
        have D5 := Lib.hid D
        have F5 := Lib.hid (HF.out.trans f)
        have X5 := Lib.hid (HX.out.fr notArr f)
        clear D f HD HF HX
        go_wp2_with fail
        refine (crash_c D5.out A2 n2 c2 picks (HP.out.fr F5.out)).mono ?_
        rintro e w6 ⟨rfl, D, f⟩
        have D6 := Lib.hid (show DkAt w.heap.size w6 g { l := d.l, w := [], fuse := 0, down := false } from D)
        have F6 := Lib.hid (F5.out.trans f)
        have X6 := Lib.hid (X5.out.fr notArr f)
        clear D f D5 F5 X5
        go_wp2_with fail
        refine (crash_c D6.out A2 n2 c2 picks (HP.out.fr F6.out)).mono ?_
        rintro e w7 ⟨rfl, D, f⟩
        have D7 := Lib.hid (show DkAt w.heap.size w7 g { l := d.l, w := [], fuse := 0, down := false } from D)
        have F7 := Lib.hid (F6.out.trans f)
        have X7 := Lib.hid (X6.out.fr notArr f)
        clear D f D6 F6 X6
        go_wp2_with (first | ((with_reducible refine gate_dst (N := 69) rfl ?_); refine wpList_load_blk rfl 29 (.tmp 7) rfl gw rfl X7.out Try.underlying29 rfl ?hsz ?_; (case hsz => rw [List.size_toArray, cstr_length, HN.out.w]; exact size_arr)))
        go_loopg [70] 9 (fun kq v wr => ∃ (j : Nat), kq = 9 - j ∧ v = .int .i64 (j : Nat) ∧ j ≤ 8 ∧ Hid (DkAt w.heap.size wr g { l := d.l, w := [], fuse := 0, down := false }) ∧ Hid (Fr w.heap.size w wr))
        case atStart => exact ⟨0, rfl, rfl, by decide, D7, F7⟩
        case round =>
          clear D7 F7 X7
          obtain ⟨j, rfl, rfl, hj, HD, HF⟩ := hrel
          by_cases hj8 : j < 8
          · obtain ⟨x, ex⟩ : ∃ x, Hid (W.getD j [] = x) := ⟨_, Lib.hid rfl⟩
            have hix := fun w => index_texts (P := Try.prog) w 29 9 8 Try.underlying29 Try.underlying9 (Try.sizeOf9 w) W HN.out.w j hj8
            rw [ex.out] at hix
            have hre := HN.out.e j hj8
            rw [ex.out] at hre
            have HRE := Lib.hid hre
            have HJ := Lib.hid hj8
            clear hre
            by_cases hx : x = []
            · subst hx
              go_wp2_with fail
              refine (sector_any [] wr).mono ?_
              rintro e w8 ⟨rfl, b_⟩
              rw [show secL [] = zs64 from rfl]
              have D8 := Lib.hid (HD.out.below b_)
              have F8 := Lib.hid (HF.out.below b_ HD.out.hB)
              clear b_ HD HF
              go_wp2_with fail
              refine (read_c D8.out ⟨rfl, rfl⟩ j (by show j < d.l.length; rw [HN.out.l]; exact HJ.out)).mono ?_
              rintro e w9 ⟨rfl, b_⟩
              rw [show ({ l := d.l, w := [], fuse := 0, down := false } : Dk).l.getD j [] = zs64 from HRE.out.trans (by simp)]
              have D9 := Lib.hid (D8.out.below b_)
              have F9 := Lib.hid (F8.out.below b_ D8.out.hB)
              clear b_ D8 F8
              go_wp2_with fail
              go_roundg (9 - (j + 1))
              case measure => omega
              case rel => exact ⟨j + 1, rfl, by first | rfl | (congr 1; omega), by omega, D9, F9⟩
            · have hxb : (x == []) = false := beq_eq_false_iff_ne.mpr hx
              go_wp2_with fail
              refine (read_c HD.out ⟨rfl, rfl⟩ j (by show j < d.l.length; rw [HN.out.l]; exact HJ.out)).mono ?_
              rintro e w9 ⟨rfl, b_⟩
              rw [show ({ l := d.l, w := [], fuse := 0, down := false } : Dk).l.getD j [] = x from HRE.out.trans (if_neg hx)]
              have D9 := Lib.hid (HD.out.below b_)
              have F9 := Lib.hid (HF.out.below b_ HD.out.hB)
              clear b_ HD HF
              go_wp2_with fail
              go_roundg (9 - (j + 1))
              case measure => omega
              case rel => exact ⟨j + 1, rfl, by first | rfl | (congr 1; omega), by omega, D9, F9⟩
          · go_wp2_with fail
            go_ret
            exact ⟨rfl, HF.out.b⟩
end Go.Proofs.Ytbbmhcloigphjaa

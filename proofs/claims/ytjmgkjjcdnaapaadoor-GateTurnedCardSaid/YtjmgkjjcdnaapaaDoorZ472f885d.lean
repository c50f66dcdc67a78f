/- The law GateTurned. -/
import Derived.Test.YtjmgkjjcdnaapaaDoorZ06b3d6d7
import Derived.Test.YtjmgkjjcdnaapaaDoorZ1d1d9347
namespace Go.Proofs.YtjmgkjjcdnaapaaDoor
open Go.RowKit Go.Proofs.YtjmgkjjcdnaapaaDoor.PMailA Go.Proofs.YtjmgkjjcdnaapaaDoorW.PrintWords Go.Proofs.YtjmgkjjcdnaapaaDoorW.PrintLast Go.Proofs.YtjmgkjjcdnaapaaDoorW.PrintMore
set_option linter.unusedSimpArgs false
set_option linter.unusedVariables false
set_option maxRecDepth 20000
def gx16.T : Bool × List (List Nat × List Nat) := (true, [([], []), ([0], [0]), ([1], [1]), ([2], [2]), ([3, 2], [2, 3]), ([4, 2], [2, 4]), ([5, 2, 2], [2, 5]), ([2], [2]), ([7, 2], [2, 7]), ([6, 8, 2], [2, 6, 8]), ([2, 9], [2, 9])])
def gx16.B : List Nat := [0, 1, 3, 7, 15, 31, 63, 7, 135, 511, 1023]
theorem gx16.tab : rtab .any (opsOf Tryd.f7 16) = gx16.T := by kernel_rfl
theorem gx16.bits : waitsOk gx16.T.2 gx16.B = true := by kernel_rfl
def gx20.T : Bool × List (List Nat × List Nat) := (true, [([], []), ([], []), ([0, 1], [0, 1]), ([2], [2]), ([3, 2], [3]), ([4, 4], [4]), ([5, 4], [4, 5]), ([4], [4]), ([7, 4], [4, 7]), ([6, 8, 4], [4, 6, 8]), ([4, 9], [4, 9])])
def gx20.B : List Nat := [0, 0, 3, 7, 15, 31, 63, 31, 159, 511, 1023]
theorem gx20.tab : rtab .any (opsOf Tryd.f7 20) = gx20.T := by kernel_rfl
theorem gx20.bits : waitsOk gx20.T.2 gx20.B = true := by kernel_rfl
theorem Ad1.own20 {w w' : World} {gs : List Nat} {B e : Nat} {v : Value} {xs : List Value} (ha : Ad1 w w' gs) (ht : ∀ x ∈ gs, ∃ cs, Blk w x 80 cs) (h : Own e w B v xs) (hne : e ≠ 80) : Own e w' B v xs := by
  obtain ⟨w1, hw, rfl | ⟨x, hx, u, rfl⟩⟩ := ha
  · exact Own.below h hw
  · obtain ⟨cs', hc⟩ := ht x hx
    refine Own.setFar (Own.below h hw) (fun e => ?_) u
    obtain ⟨cs, hk⟩ := gt_typed (Own.below h hw) _ e
    exact hne (gt_type hk (hc.below hw hc.lt))
def txt7 : List UInt8 := b8 2 :: whoL 3 7 ++ tgP kyL 3 7
theorem txt7_length : txt7.length = 38 := by simp [txt7, whoL, tgP_length]
theorem n8_zero {b : UInt8} : n8 b = 0 ↔ b = 0 := by
  unfold n8
  constructor
  · intro h; exact UInt8.toNat_inj.1 (by simpa using h)
  · rintro rfl; rfl
theorem seq_idx (x : Int) : ∃ i : Nat, i < 38 ∧ wrap64 ((IntKind.u64.wrap x).tmod 38) = (i : Nat) := by
  rw [wrap_u64e]
  have h2 : 0 ≤ x % 18446744073709551616 := Int.emod_nonneg _ (by decide)
  rw [Int.tmod_eq_emod_of_nonneg h2]
  have h3 := Int.emod_nonneg (x % 18446744073709551616) (b := 38) (by decide)
  have h4 := Int.emod_lt_of_pos (x % 18446744073709551616) (b := 38) (by decide)
  refine ⟨(x % 18446744073709551616 % 38).toNat, by omega, ?_⟩
  unfold wrap64
  omega
set_option maxHeartbeats 6400000 in
theorem law_GateTurned (x : Int) (b : UInt8) (other : List UInt8) (w : World) (hol : other.length ≤ 140737488351232) (hk : KsAt w) (hks : 0 < w.heap.size) :
    Calls Tryd.prog 7 #[.int .i64 x, .int .u8 (n8 b), .string ⟨other.toArray⟩] w fun e w' => e = .returned (.bool true) ∧ Below w.heap.size w w' := by
  have HK := Lib.hid hk
  have HKS := Lib.hid hks
  have hb1 : ∀ s : List UInt8, Tryd.prog.built 44 [(0, Value.int .i64 3), (1, Value.string ⟨s.toArray⟩)] = some #[.int .i64 3, .string ⟨s.toArray⟩] := fun s => by kernel_rfl
  obtain ⟨ob, OB⟩ : ∃ t : ByteArray, Hid (⟨other.toArray⟩ = t) := ⟨_, Lib.hid rfl⟩
  have HOB := Lib.hid (show (ob.size : Int) = (other.length : Int) by rw [← OB.out]; simp [ByteArray.size])
  rw [OB.out]
  clear hk hks hol
  go_enter Tryd.func7, Tryd.ntmps7
  go_wp2_with fail
  refine (new_any _ 1 1 [⟨3, kyL⟩] _ (acc_lit w [⟨3, kyL⟩] (by decide)) (by decide)).mono ?_
  rintro e w1 ⟨g, v, gs, rfl, G1, b1⟩
  have D1 := Lib.hid (show GW w w1 g v gs (one3 0) from GW.start HK.out HKS.out ((Below.refl _ _).alloc (Nat.le_refl _) _) G1 b1)
  clear G1 b1
  go_wp2_with fail
  refine (works20_any w1 D1.out.k D1.out.ks).mono ?_
  rintro e w2 ⟨rfl, b2⟩
  have D2 := Lib.hid (D1.out.below b2)
  clear b2 D1
  go_wp2_with fail
  refine (pull_any kyL 7 w2 kyL_length (by decide) D2.out.k D2.out.ks).mono ?_
  rintro e w3 ⟨m, rfl, hP, b3⟩
  obtain ⟨A5, c5, A6, c6, em, h5, h6⟩ := hP
  have D3 := Lib.hid (D2.out.below b3)
  have H5 := Lib.hid h5
  have H6 := Lib.hid h6
  obtain ⟨ke, hke⟩ := (enc_pull 3 7 (tgP kyL 3 7) (by decide) (by decide) (tgP_length _ _ _)).rounds
  have HKE := Lib.hid hke
  subst em
  clear b3 h5 h6 hke D2
  go_wp2_with fail
  refine (mail_Encode.calls ke 2 3 7 ⟨#[]⟩ (tx (tgP kyL 3 7)) A5 c5 [] A6 c6 [] _ _ w3 H5.out.C H5.out.le H6.out.C H6.out.le HKE.out).mono ?_
  rintro e w4 ⟨rfl, b4⟩
  have D4 := Lib.hid (D3.out.below b4)
  clear b4 D3 H5 H6 HKE
  obtain ⟨s7, HS7⟩ : ∃ t, Hid (tx (b8 2 :: whoL 3 7 ++ tgP kyL 3 7) = t) := ⟨_, Lib.hid rfl⟩
  have hs7 : s7.size = 38 := by rw [← HS7.out, tx_size]; exact txt7_length
  rw [HS7.out]
  obtain ⟨cap, w5, hcv0, hCb, hb5⟩ := cb_of_string (P := Tryd.prog) w4 9 61 5 txt7 Tryd.underlying9 Tryd.underlying61 Tryd.underlying5 w4.heap.size (Nat.le_refl _)
  have hcv : (convert 9 61 (.string s7)).run Tryd.prog w4 = .ok (.slice (some ⟨w4.heap.size, 0, none⟩) 38 cap) w5 := by
    rw [← HS7.out]
    rw [txt7_length] at hcv0
    exact hcv0
  have HB5 := Lib.hid hb5
  have C5 := Lib.hid hCb
  have hcap : (6 : Int) ≤ (cap : Int) := by
    have := run_bytes_of_string (P := Tryd.prog) w4 9 61 5 s7 Tryd.underlying9 Tryd.underlying61 Tryd.underlying5
    rw [hcv] at this
    injection this with h1 h2
    injection h1 with _ _ h3
    have := grownCap_ge w4 s7.size 0 5
    omega
  clear hcv0 hCb hb5
  obtain ⟨gb, HGB⟩ : ∃ b, Hid (w4.heap.size = b) := ⟨_, Lib.hid rfl⟩
  rw [HGB.out] at hcv C5
  obtain ⟨i, hi, hix⟩ := seq_idx x
  obtain ⟨y, hy⟩ : ∃ y, Hid (bd txt7 i = y) := ⟨_, Lib.hid rfl⟩
  have hcy : w5.cell? ⟨gb, i, none⟩ = some (.int .u8 (n8 y)) := by rw [← hy.out]; exact (C5.out.2 i (by rw [txt7_length]; exact hi)).1
  have hfy : w5.frozen? ⟨gb, i, none⟩ = false := (C5.out.2 i (by rw [txt7_length]; exact hi)).2
  have e1 : 0 ≤ (i : Int) ∧ (i : Int) < 38 := by omega
  have hbz := @n8_zero b
  by_cases hb0 : b = 0
  · have d0 : (n8 b == 0) = true := beq_iff_eq.mpr (hbz.mpr hb0)
    have n1 : (1 : Int) = n8 1 := rfl
    clear hbz n1
    have hxor : bits .xor .u8 (n8 y) 1 = n8 (y ^^^ (1 : UInt8)) := n8_xor y (1 : UInt8)
    go_upto_region 11 with fail
    obtain ⟨sT, HST⟩ : ∃ l, Hid (txt7.set i (y ^^^ (1 : UInt8)) = l) := ⟨_, Lib.hid rfl⟩
    have hsTl : sT.length = 38 := by rw [← HST.out, List.length_set, txt7_length]
    refine gworld (fun W => Hid (GW w W g v gs (one3 0)) ∧ Hid (Cb W gb sT)) ⟨?_, ?_⟩ ?_
    · exact Lib.hid (D4.out.below (HB5.out.setCell (by rw [← HGB.out]; exact Nat.le_refl _) _))
    · exact Lib.hid (by rw [← HST.out]; exact C5.out.set_ i (by rw [txt7_length]; exact hi) _)
    clear hcv HB5 C5 D4 hix hcy hfy e1 hxor HST hy hi
    rintro w6 ⟨D6, C6⟩
    have hcs : (convert 61 9 (.slice (some ⟨gb, 0, none⟩) 38 cap)).run Tryd.prog w6 = .ok (.string (tx sT)) w6 := by
      have := C6.out.string (P := Tryd.prog) 61 9 5 cap Tryd.underlying61 Tryd.underlying5 Tryd.underlying9
      rw [hsTl] at this
      exact this
    rcases turned_dec sT hsTl with ⟨kd, hkd⟩ | ⟨kd, u, q, tg, hkd, hu, hq, htl, hbl⟩
    · have HKD := Lib.hid hkd
      clear hkd
      go_wp2_with fail
      refine (mail_Decode.calls kd _ _ _ _ _ _ _ _ _ w6 HKD.out).mono ?_
      rintro e w7 ⟨v5, v6, rfl, r5, r6, b7⟩
      obtain ⟨E5, f5, e5, p5⟩ := R_cq r5 (by decide)
      obtain ⟨E6, f6, e6, p6⟩ := R_cq r6 (by decide)
      subst e5
      subst e6
      have D7 := Lib.hid (D6.out.below b7)
      clear r5 r6 p5 p6 b7 D6 C6 hcs
      go_upto_region 12 with fail
      refine gworld (fun W => Hid (GW w W g v gs (one3 0))) (Lib.hid (D7.out.below ((Below.refl _ _).alloc (Nat.le_refl _) _))) ?_
      clear D7
      intro w8 D8
      by_cases hoth : other.length = 32 ∧ other ≠ kyL
      · have d1 : ((ob.size : Int) == 32) = true := by rw [HOB.out, hoth.1]; rfl
        have HOT := Lib.hid hoth
        clear hoth
        have HPL := Lib.hid (fun W => pull_any other 9 W HOT.out.1 (by decide))
        rw [OB.out] at HPL
        have hne : (ob.toList == [116, 104, 105, 114, 116, 121, 45, 116, 119, 111, 32, 98, 121, 116, 101, 115, 32, 97, 114, 101, 32, 106, 117, 115, 116, 32, 97, 32, 107, 101, 121, 46]) = false := beq_eq_false_iff_ne.mpr (fun h => HOT.out.2 (by rw [← OB.out, ByteArray.toList_eq] at h; exact h))
        go_wp2_with fail
        refine (HPL.out w8 D8.out.k D8.out.ks).mono ?_
        rintro e wo ⟨mo, rfl, hPo, bo'⟩
        obtain ⟨G5, i5, G6, i6, em, h5, h6⟩ := hPo
        obtain ⟨To, HTO⟩ : ∃ T, Hid ((⟨(tgP other 3 9).toArray⟩ : ByteArray) = T) := ⟨_, Lib.hid rfl⟩
        rw [HTO.out] at em
        subst em
        have DO := Lib.hid (D8.out.below bo')
        have O5 := Lib.hid h5
        have O6 := Lib.hid h6
        clear bo' h5 h6 D8 HPL hne
        go_upto_region 20 with fail
        obtain ⟨bo, HBO⟩ : ∃ b, Hid (wo.heap.size = b) := ⟨_, Lib.hid rfl⟩
        refine gworld (fun W => Hid (GW w W g v gs (one3 0)) ∧ Hid (Blk W bo 25 #[.int .i64 2, .int .i64 3, .int .i64 9, .string ⟨#[]⟩, .string To, .slice G5 ([] : List S68).length i5, .slice G6 ([] : List ByteArray).length i6])) ⟨Lib.hid (DO.out.below ((Below.refl _ _).alloc (Nat.le_refl _) _)), Lib.hid (by rw [← HBO.out]; exact Blk.new _ _ _)⟩ ?_
        clear DO
        rintro wp ⟨DP, BP⟩
        rw [HBO.out]
        have HPM := Lib.hid (show ∀ W, Pm W (.agg #[.int .i64 2, .int .i64 3, .int .i64 9, .string ⟨#[]⟩, .string To, .slice G5 ([] : List S68).length i5, .slice G6 ([] : List ByteArray).length i6]) 3 9 (tgP other 3 9) from fun W => ⟨G5, i5, G6, i6, by rw [HTO.out], O5.out.empty, O6.out.empty⟩)
        have DQ := Lib.hid (DP.out.below (below_drewN (Below.refl _ _) 1))
        have ML := Lib.hid (show ∀ W, Blk W bo 25 #[.int .i64 2, .int .i64 3, .int .i64 9, .string ⟨#[]⟩, .string To, .slice G5 ([] : List S68).length i5, .slice G6 ([] : List ByteArray).length i6] → W.cell? ⟨bo, 0, none⟩ = some (.int .i64 2) ∧ W.cell? ⟨bo, 1, none⟩ = some (.int .i64 3) ∧ W.cell? ⟨bo, 2, none⟩ = some (.int .i64 9) ∧ W.cell? ⟨bo, 3, none⟩ = some (.string ⟨#[]⟩) ∧ W.cell? ⟨bo, 4, none⟩ = some (.string To) ∧ W.cell? ⟨bo, 5, none⟩ = some (.slice G5 ([] : List S68).length i5) ∧ W.cell? ⟨bo, 6, none⟩ = some (.slice G6 ([] : List ByteArray).length i6) from fun W h => ⟨h.cell 0, h.cell 1, h.cell 2, h.cell 3, h.cell 4, h.cell 5, h.cell 6⟩)
        have S0 := ML.out wp.drew BP.out.drew
        obtain ⟨⟨z, l'⟩, hz⟩ : ∃ pr, adP (one3 0) 3 9 (tgP other 3 9) = pr := ⟨_, rfl⟩
        have HZZ := Lib.hid (show (z = 0 ∧ tgP kyL 3 9 = tgP other 3 9 ∧ ∃ p', l' = one3 p') ∨ (z ≠ 0 ∧ ∃ p', l' = one3 p') by
          have hf : fN (one3 0) 3 = some 0 := by simp [fN, one3]
          rw [adP_some hf (s := ⟨3, kyL, 0⟩) rfl] at hz
          split at hz
          · simp only [Prod.mk.injEq] at hz
            exact .inr ⟨by rw [← hz.1]; decide, _, hz.2.symm⟩
          · rename_i ht
            split at hz
            · simp only [Prod.mk.injEq] at hz
              exact .inr ⟨by rw [← hz.1]; decide, _, hz.2.symm⟩
            · simp only [Prod.mk.injEq] at hz
              exact .inl ⟨hz.1.symm, Classical.not_not.1 ht, 9, hz.2.symm⟩)
        have HCA := Lib.hid (show Calls Tryd.prog 17 #[.pointer (some ⟨g, 0, none⟩), .agg #[.int .i64 2, .int .i64 3, .int .i64 9, .string ⟨#[]⟩, .string To, .slice G5 ([] : List S68).length i5, .slice G6 ([] : List ByteArray).length i6]] wp.drew fun e W' => e = .returned (.int .i64 z) ∧ GW w W' g v gs l' ∧ Ad1 wp.drew W' gs from
          (admitP_any g _ v gs _ 3 9 _ _ wp.drew DQ.out.g (HPM.out wp.drew) (tgP_length _ _ _) (by decide) (by decide) DQ.out.k DQ.out.ks (one_key _)).mono (fun e W' ⟨he, hg, ha⟩ => by rw [hz] at he hg; exact ⟨he, DQ.out.ad hg ha HK.out HKS.out, ha⟩))
        clear hz HPM
        rcases HZZ.out with ⟨rfl, ht, p', rfl⟩ | ⟨hz0, p', rfl⟩
        · have HPK := Lib.hid (fun W => pull_any kyL 9 W kyL_length (by decide))
          have HTT := Lib.hid (show (⟨(tgP kyL 3 9).toArray⟩ : ByteArray) = To by rw [ht, HTO.out])
          clear ht HZZ
          refine start_ (n := 11) (S := fun W => W.cell? ⟨bo, 0, none⟩ = some (.int .i64 2) ∧ W.cell? ⟨bo, 1, none⟩ = some (.int .i64 3) ∧ W.cell? ⟨bo, 2, none⟩ = some (.int .i64 9) ∧ W.cell? ⟨bo, 3, none⟩ = some (.string ⟨#[]⟩) ∧ W.cell? ⟨bo, 4, none⟩ = some (.string To) ∧ W.cell? ⟨bo, 5, none⟩ = some (.slice G5 ([] : List S68).length i5) ∧ W.cell? ⟨bo, 6, none⟩ = some (.slice G6 ([] : List ByteArray).length i6)) (ds := []) #[false, false, false, false, false, false, false, false, false, false, false] (by kernel_rfl) rfl rfl S0 (fun hHeld => ?_)
          refine with_tabW gx20.tab gx20.bits (fun HT_ HW_ => ?_)
          refine pure_ (i := 0) (N := some 96) (v := ?_) (a' := ?_) #[true, false, false, false, false, false, false, false, false, false, false] rfl rfl (any_of HT_.out (by kernel_rfl)) (fun _ _ _ h => h) (Or.inl ⟨by rfl, ?_⟩) ?_ ?_
          rotate_left
          · intro w'
            go_simp
            try with_reducible rfl
          rotate_left
          · simp only [Act.put, List.setIfInBounds_toArray, List.set_cons_zero, List.set_cons_succ]
            rfl
          refine take_ (i := 1) (N := some 97) (v := ?_) (a' := ?_) #[true, true, false, false, false, false, false, false, false, false, false] rfl rfl (take_ofW HT_.out HW_.out (by kernel_rfl)) (fun _ _ _ h => h) (Or.inl ⟨by rfl, ?_⟩) hHeld ?_ ?_
          rotate_left
          · rintro w' ⟨s0, s1, s2, s3, s4, s5, s6⟩
            go_simp
            try with_reducible rfl
          rotate_left
          · simp only [Act.put, List.setIfInBounds_toArray, List.set_cons_zero, List.set_cons_succ]
            rfl
          refine one_ (i := 2) (N := some 98) #[true, true, true, false, false, false, false, false, false, false, false] rfl rfl (one_of HT_.out (by kernel_rfl)) (by decide) (fun K hK => ?_)
          refine goes_ Tryd.func17 (by kernel_rfl) rfl #[.pointer (some ⟨g, 0, none⟩), .agg #[.int .i64 2, .int .i64 3, .int .i64 9, .string ⟨#[]⟩, .string To, .slice G5 ([] : List S68).length i5, .slice G6 ([] : List ByteArray).length i6]] (by rfl) rfl rfl (by first | done | rfl | (simp only [List.map_toArray, List.map_cons, List.map_nil]; done) | (simp only [List.map_toArray, List.map_cons, List.map_nil]; rfl)) ?_
          refine (HCA.out).mono ?_
          rintro e' w7 ⟨rfl, D7', A7⟩
          refine ⟨_, rfl, ?_⟩
          refine hK.out _ _ (ML.out _ (A7.blk (fun x hx => (DQ.out.g.typed x hx).2) BP.out.drew (by decide))) (fun hHeld => ?_)
          clear hK K
          refine norm_ (a' := ?_) ?_ ?_
          rotate_left
          · show Act.put _ (some 98) _ = _
            simp only [Act.put, List.setIfInBounds_toArray, List.set_cons_zero, List.set_cons_succ]
            rfl
          refine pure_ (i := 3) (N := some 99) (v := ?_) (a' := ?_) #[true, true, true, true, false, false, false, false, false, false, false] rfl rfl (any_of HT_.out (by kernel_rfl)) (fun _ _ _ h => h) (Or.inl ⟨by rfl, ?_⟩) ?_ ?_
          rotate_left
          · intro w'
            go_simp
            try with_reducible rfl
          rotate_left
          · simp only [Act.put, List.setIfInBounds_toArray, List.set_cons_zero, List.set_cons_succ]
            rfl
          refine pure_ (i := 4) (N := some 100) (v := ?_) (a' := ?_) #[true, true, true, true, true, false, false, false, false, false, false] rfl rfl (any_of HT_.out (by kernel_rfl)) (fun _ _ _ h => h) (Or.inl ⟨by rfl, ?_⟩) ?_ ?_
          rotate_left
          · intro w'
            go_simp
            try with_reducible rfl
          rotate_left
          · simp only [Act.put, List.setIfInBounds_toArray, List.set_cons_zero, List.set_cons_succ]
            rfl
          refine pure_ (i := 7) (N := some 103) (v := ?_) (a' := ?_) #[true, true, true, true, true, false, false, true, false, false, false] rfl rfl (any_of HT_.out (by kernel_rfl)) (fun _ _ _ h => h) (Or.inl ⟨by rfl, ?_⟩) ?_ ?_
          rotate_left
          · intro w'
            go_simp
            try with_reducible rfl
          rotate_left
          · simp only [Act.put, List.setIfInBounds_toArray, List.set_cons_zero, List.set_cons_succ]
            rfl
          refine take_ (i := 8) (N := some 104) (v := ?_) (a' := ?_) #[true, true, true, true, true, false, false, true, true, false, false] rfl rfl (take_ofW HT_.out HW_.out (by kernel_rfl)) (fun _ _ _ h => h) (Or.inl ⟨by rfl, ?_⟩) hHeld ?_ ?_
          rotate_left
          · rintro w' ⟨s0, s1, s2, s3, s4, s5, s6⟩
            go_simp
            try with_reducible rfl
          rotate_left
          · simp only [Act.put, List.setIfInBounds_toArray, List.set_cons_zero, List.set_cons_succ]
            rfl
          refine one_ (i := 5) (N := some 101) #[true, true, true, true, true, true, false, true, true, false, false] rfl rfl (one_of HT_.out (by kernel_rfl)) (by decide) (fun K hK => ?_)
          refine goes_ Tryd.func22 (by kernel_rfl) rfl #[.string ⟨kyL.toArray⟩, .int .i64 9] (by rfl) rfl rfl (by first | done | rfl | (simp only [List.map_toArray, List.map_cons, List.map_nil]; done) | (simp only [List.map_toArray, List.map_cons, List.map_nil]; rfl)) ?_
          refine (HPK.out w7 D7'.k D7'.ks).mono ?_
          rintro e' w8 ⟨mk, rfl, ⟨K5, j5, K6, j6, emk, _, _⟩, b8⟩
          refine ⟨_, rfl, ?_⟩
          refine hK.out _ _ (ML.out _ ((A7.blk (fun x hx => (DQ.out.g.typed x hx).2) BP.out.drew (by decide)).below b8 (A7.blk (fun x hx => (DQ.out.g.typed x hx).2) BP.out.drew (by decide)).lt)) (fun hHeld => ?_)
          clear hK K
          refine norm_ (a' := ?_) ?_ ?_
          rotate_left
          · show Act.put _ (some 101) _ = _
            simp only [Act.put, List.setIfInBounds_toArray, List.set_cons_zero, List.set_cons_succ]
            rfl
          (subst emk; try simp only [HTT.out]); have hfld : ∀ W : World, (Instr.field 25 (.agg #[.int .i64 2, .int .i64 3, .int .i64 9, .string ⟨#[]⟩, .string To, .slice K5 0 j5, .slice K6 0 j6]) 4).run Tryd.prog W = .ok (.string To) W := fun W => by kernel_rfl
          refine pure_ (i := 6) (N := some 102) (v := ?_) (a' := ?_) #[true, true, true, true, true, true, true, true, true, false, false] rfl rfl (any_of HT_.out (by kernel_rfl)) (fun _ _ _ h => h) (Or.inl ⟨by rfl, ?_⟩) ?_ ?_
          rotate_left
          · intro w'
            go_simp
            try with_reducible rfl
          rotate_left
          · simp only [Act.put, List.setIfInBounds_toArray, List.set_cons_zero, List.set_cons_succ]
            rfl
          refine pure_ (i := 9) (N := some 105) (v := ?_) (a' := ?_) #[true, true, true, true, true, true, true, true, true, true, false] rfl rfl (any_of HT_.out (by kernel_rfl)) (fun _ _ _ h => h) (Or.inl ⟨by rfl, ?_⟩) ?_ ?_
          rotate_left
          · intro w'
            go_simp
            try with_reducible rfl
          rotate_left
          · simp only [Act.put, List.setIfInBounds_toArray, List.set_cons_zero, List.set_cons_succ]
            rfl
          refine pure_ (i := 10) (N := some 106) (v := ?_) (a' := ?_) #[true, true, true, true, true, true, true, true, true, true, true] rfl rfl (any_of HT_.out (by kernel_rfl)) (fun _ _ _ h => h) (Or.inl ⟨by rfl, ?_⟩) ?_ ?_
          rotate_left
          · intro w'
            go_simp
            try with_reducible rfl
          rotate_left
          · simp only [Act.put, List.setIfInBounds_toArray, List.set_cons_zero, List.set_cons_succ]
            rfl
          refine done_ (done_of HT_.out (by kernel_rfl)) ?_
          clear HT_ HW_
          have D9 := Lib.hid (D7'.below b8)
          clear D7' b8 A7 S0 ML DQ HCA hHeld DP BP HPK
          try simp only [bne_self_eq_false]
          go_wp2_with fail
          refine (pull_any kyL 2147483647 w8 kyL_length (by decide) D9.out.k D9.out.ks).mono ?_
          rintro e wa ⟨ma, rfl, hPa, ba⟩
          have PA := Lib.hid hPa
          have DA := Lib.hid (D9.out.below ba)
          clear hPa ba D9
          go_wp2_with fail
          refine (admitP_any g _ v gs _ 3 2147483647 _ ma wa DA.out.g PA.out (tgP_length _ _ _) (by decide) (by decide) DA.out.k DA.out.ks (one_key _)).mono ?_
          rintro e wb ⟨rfl, Gb, Ab⟩
          have DB := Lib.hid (DA.out.ad Gb Ab HK.out HKS.out)
          clear Gb Ab PA DA
          rcases Classical.em ((2147483647 : Int) ≤ p') with hz | hz
          · have HZ := Lib.hid (show adP (one3 p') 3 2147483647 (tgP kyL 3 2147483647) = (170, one3 p') by rw [adP_one, if_pos hz])
            rw [HZ.out] at DB ⊢
            clear hz
            go_wp2_with fail
            go_ret
            exact ⟨rfl, DB.out.b⟩
          · have HZ := Lib.hid (show adP (one3 p') 3 2147483647 (tgP kyL 3 2147483647) = (0, one3 2147483647) by rw [adP_one, if_neg hz])
            rw [HZ.out] at DB ⊢
            clear hz
            go_wp2_with fail
            go_ret
            exact ⟨rfl, DB.out.b⟩
        · have hz1 : (z == 0) = false := beq_eq_false_iff_ne.mpr hz0
          clear HZZ hz0
          refine start_ (n := 11) (S := fun W => W.cell? ⟨bo, 0, none⟩ = some (.int .i64 2) ∧ W.cell? ⟨bo, 1, none⟩ = some (.int .i64 3) ∧ W.cell? ⟨bo, 2, none⟩ = some (.int .i64 9) ∧ W.cell? ⟨bo, 3, none⟩ = some (.string ⟨#[]⟩) ∧ W.cell? ⟨bo, 4, none⟩ = some (.string To) ∧ W.cell? ⟨bo, 5, none⟩ = some (.slice G5 ([] : List S68).length i5) ∧ W.cell? ⟨bo, 6, none⟩ = some (.slice G6 ([] : List ByteArray).length i6)) (ds := []) #[false, false, false, false, false, false, false, false, false, false, false] (by kernel_rfl) rfl rfl S0 (fun hHeld => ?_)
          refine with_tabW gx20.tab gx20.bits (fun HT_ HW_ => ?_)
          refine pure_ (i := 0) (N := some 96) (v := ?_) (a' := ?_) #[true, false, false, false, false, false, false, false, false, false, false] rfl rfl (any_of HT_.out (by kernel_rfl)) (fun _ _ _ h => h) (Or.inl ⟨by rfl, ?_⟩) ?_ ?_
          rotate_left
          · intro w'
            go_simp
            try with_reducible rfl
          rotate_left
          · simp only [Act.put, List.setIfInBounds_toArray, List.set_cons_zero, List.set_cons_succ]
            rfl
          refine take_ (i := 1) (N := some 97) (v := ?_) (a' := ?_) #[true, true, false, false, false, false, false, false, false, false, false] rfl rfl (take_ofW HT_.out HW_.out (by kernel_rfl)) (fun _ _ _ h => h) (Or.inl ⟨by rfl, ?_⟩) hHeld ?_ ?_
          rotate_left
          · rintro w' ⟨s0, s1, s2, s3, s4, s5, s6⟩
            go_simp
            try with_reducible rfl
          rotate_left
          · simp only [Act.put, List.setIfInBounds_toArray, List.set_cons_zero, List.set_cons_succ]
            rfl
          refine one_ (i := 2) (N := some 98) #[true, true, true, false, false, false, false, false, false, false, false] rfl rfl (one_of HT_.out (by kernel_rfl)) (by decide) (fun K hK => ?_)
          refine goes_ Tryd.func17 (by kernel_rfl) rfl #[.pointer (some ⟨g, 0, none⟩), .agg #[.int .i64 2, .int .i64 3, .int .i64 9, .string ⟨#[]⟩, .string To, .slice G5 ([] : List S68).length i5, .slice G6 ([] : List ByteArray).length i6]] (by rfl) rfl rfl (by first | done | rfl | (simp only [List.map_toArray, List.map_cons, List.map_nil]; done) | (simp only [List.map_toArray, List.map_cons, List.map_nil]; rfl)) ?_
          refine (HCA.out).mono ?_
          rintro e' w7 ⟨rfl, D7', A7⟩
          refine ⟨_, rfl, ?_⟩
          refine hK.out _ _ (ML.out _ (A7.blk (fun x hx => (DQ.out.g.typed x hx).2) BP.out.drew (by decide))) (fun hHeld => ?_)
          clear hK K
          refine norm_ (a' := ?_) ?_ ?_
          rotate_left
          · show Act.put _ (some 98) _ = _
            simp only [Act.put, List.setIfInBounds_toArray, List.set_cons_zero, List.set_cons_succ]
            rfl
          refine pure_ (i := 3) (N := some 99) (v := ?_) (a' := ?_) #[true, true, true, true, false, false, false, false, false, false, false] rfl rfl (any_of HT_.out (by kernel_rfl)) (fun _ _ _ h => h) (Or.inl ⟨by rfl, ?_⟩) ?_ ?_
          rotate_left
          · intro w'
            go_simp
            try with_reducible rfl
          rotate_left
          · simp only [Act.put, List.setIfInBounds_toArray, List.set_cons_zero, List.set_cons_succ]
            rfl
          (try simp only [hz1])
          refine pure_ (i := 4) (N := some 100) (v := ?_) (a' := ?_) #[true, true, true, true, true, false, false, false, false, false, false] rfl rfl (any_of HT_.out (by kernel_rfl)) (fun _ _ _ h => h) (Or.inl ⟨by rfl, ?_⟩) ?_ ?_
          rotate_left
          · intro w'
            go_simp
            try with_reducible rfl
          rotate_left
          · simp only [Act.put, List.setIfInBounds_toArray, List.set_cons_zero, List.set_cons_succ]
            rfl
          refine pure_ (i := 7) (N := some 103) (v := undef) (a' := ?_) #[true, true, true, true, true, false, false, true, false, false, false] rfl rfl (any_of HT_.out (by kernel_rfl)) (fun _ _ _ h => h) (Or.inr ⟨by rfl, rfl⟩) ?_ ?_
          rotate_left
          · simp only [Act.put, List.setIfInBounds_toArray, List.set_cons_zero, List.set_cons_succ]
            rfl
          refine take_ (i := 8) (N := some 104) (v := undef) (a' := ?_) #[true, true, true, true, true, false, false, true, true, false, false] rfl rfl (take_ofW HT_.out HW_.out (by kernel_rfl)) (fun _ _ _ h => h) (Or.inr ⟨by rfl, rfl⟩) hHeld ?_ ?_
          rotate_left
          · simp only [Act.put, List.setIfInBounds_toArray, List.set_cons_zero, List.set_cons_succ]
            rfl
          refine one_ (i := 5) (N := some 101) #[true, true, true, true, true, true, false, true, true, false, false] rfl rfl (one_of HT_.out (by kernel_rfl)) (by decide) (fun K hK => ?_)
          refine Eq.mpr (if_neg (Bool.eq_false_iff.mp (by rfl))) ?_
          refine hK.out _ _ (by assumption) (fun hHeld => ?_)
          clear hK K
          refine norm_ (a' := ?_) ?_ ?_
          rotate_left
          · show Act.put _ (some 101) _ = _
            simp only [Act.put, List.setIfInBounds_toArray, List.set_cons_zero, List.set_cons_succ]
            rfl
          refine pure_ (i := 6) (N := some 102) (v := undef) (a' := ?_) #[true, true, true, true, true, true, true, true, true, false, false] rfl rfl (any_of HT_.out (by kernel_rfl)) (fun _ _ _ h => h) (Or.inr ⟨by rfl, rfl⟩) ?_ ?_
          rotate_left
          · simp only [Act.put, List.setIfInBounds_toArray, List.set_cons_zero, List.set_cons_succ]
            rfl
          refine pure_ (i := 9) (N := some 105) (v := undef) (a' := ?_) #[true, true, true, true, true, true, true, true, true, true, false] rfl rfl (any_of HT_.out (by kernel_rfl)) (fun _ _ _ h => h) (Or.inr ⟨by rfl, rfl⟩) ?_ ?_
          rotate_left
          · simp only [Act.put, List.setIfInBounds_toArray, List.set_cons_zero, List.set_cons_succ]
            rfl
          refine pure_ (i := 10) (N := some 106) (v := ?_) (a' := ?_) #[true, true, true, true, true, true, true, true, true, true, true] rfl rfl (any_of HT_.out (by kernel_rfl)) (fun _ _ _ h => h) (Or.inl ⟨by rfl, ?_⟩) ?_ ?_
          rotate_left
          · intro w'
            go_simp
            try with_reducible rfl
          rotate_left
          · simp only [Act.put, List.setIfInBounds_toArray, List.set_cons_zero, List.set_cons_succ]
            rfl
          refine done_ (done_of HT_.out (by kernel_rfl)) ?_
          clear HT_ HW_
          have D9 := Lib.hid D7'
          clear D7' A7 S0 ML DQ HCA hHeld DP BP
          go_wp2_with fail
          refine (pull_any kyL 2147483647 w7 kyL_length (by decide) D9.out.k D9.out.ks).mono ?_
          rintro e wa ⟨ma, rfl, hPa, ba⟩
          have PA := Lib.hid hPa
          have DA := Lib.hid (D9.out.below ba)
          clear hPa ba D9
          go_wp2_with fail
          refine (admitP_any g _ v gs _ 3 2147483647 _ ma wa DA.out.g PA.out (tgP_length _ _ _) (by decide) (by decide) DA.out.k DA.out.ks (one_key _)).mono ?_
          rintro e wb ⟨rfl, Gb, Ab⟩
          have DB := Lib.hid (DA.out.ad Gb Ab HK.out HKS.out)
          clear Gb Ab PA DA
          rcases Classical.em ((2147483647 : Int) ≤ p') with hz | hz
          · have HZ := Lib.hid (show adP (one3 p') 3 2147483647 (tgP kyL 3 2147483647) = (170, one3 p') by rw [adP_one, if_pos hz])
            rw [HZ.out] at DB ⊢
            clear hz
            go_wp2_with fail
            go_ret
            exact ⟨rfl, DB.out.b⟩
          · have HZ := Lib.hid (show adP (one3 p') 3 2147483647 (tgP kyL 3 2147483647) = (0, one3 2147483647) by rw [adP_one, if_neg hz])
            rw [HZ.out] at DB ⊢
            clear hz
            go_wp2_with fail
            go_ret
            exact ⟨rfl, DB.out.b⟩
      · have hoth2 : other.length ≠ 32 ∨ other = kyL := by
          rcases Classical.em (other.length = 32) with h | h
          · exact .inr (Classical.not_not.1 fun hn => hoth ⟨h, hn⟩)
          · exact .inl h
        clear hoth
        rcases hoth2 with h | h
        · have d1 : ((ob.size : Int) == 32) = false := beq_eq_false_iff_ne.mpr (by rw [HOB.out]; omega)
          clear h
          go_wp2_with fail
          refine (pull_any kyL 2147483647 w8 kyL_length (by decide) D8.out.k D8.out.ks).mono ?_
          rintro e wa ⟨ma, rfl, hPa, ba⟩
          have PA := Lib.hid hPa
          have DA := Lib.hid (D8.out.below ba)
          clear hPa ba D8
          go_wp2_with fail
          refine (admitP_any g _ v gs _ 3 2147483647 _ ma wa DA.out.g PA.out (tgP_length _ _ _) (by decide) (by decide) DA.out.k DA.out.ks (one_key _)).mono ?_
          rintro e wb ⟨rfl, Gb, Ab⟩
          have DB := Lib.hid (DA.out.ad Gb Ab HK.out HKS.out)
          clear Gb Ab PA DA
          rcases Classical.em ((2147483647 : Int) ≤ 0) with hz | hz
          · have HZ := Lib.hid (show adP (one3 0) 3 2147483647 (tgP kyL 3 2147483647) = (170, one3 0) by rw [adP_one, if_pos hz])
            rw [HZ.out] at DB ⊢
            clear hz
            go_wp2_with fail
            go_ret
            exact ⟨rfl, DB.out.b⟩
          · have HZ := Lib.hid (show adP (one3 0) 3 2147483647 (tgP kyL 3 2147483647) = (0, one3 2147483647) by rw [adP_one, if_neg hz])
            rw [HZ.out] at DB ⊢
            clear hz
            go_wp2_with fail
            go_ret
            exact ⟨rfl, DB.out.b⟩
        · have d1 : ((ob.size : Int) == 32) = true := by rw [HOB.out, h, kyL_length]; rfl
          have hne : (ob.toList == [116, 104, 105, 114, 116, 121, 45, 116, 119, 111, 32, 98, 121, 116, 101, 115, 32, 97, 114, 101, 32, 106, 117, 115, 116, 32, 97, 32, 107, 101, 121, 46]) = true := beq_iff_eq.mpr (by rw [← OB.out, h, ByteArray.toList_eq]; rfl)
          clear h
          go_wp2_with fail
          refine (pull_any kyL 2147483647 w8 kyL_length (by decide) D8.out.k D8.out.ks).mono ?_
          rintro e wa ⟨ma, rfl, hPa, ba⟩
          have PA := Lib.hid hPa
          have DA := Lib.hid (D8.out.below ba)
          clear hPa ba D8
          go_wp2_with fail
          refine (admitP_any g _ v gs _ 3 2147483647 _ ma wa DA.out.g PA.out (tgP_length _ _ _) (by decide) (by decide) DA.out.k DA.out.ks (one_key _)).mono ?_
          rintro e wb ⟨rfl, Gb, Ab⟩
          have DB := Lib.hid (DA.out.ad Gb Ab HK.out HKS.out)
          clear Gb Ab PA DA
          rcases Classical.em ((2147483647 : Int) ≤ 0) with hz | hz
          · have HZ := Lib.hid (show adP (one3 0) 3 2147483647 (tgP kyL 3 2147483647) = (170, one3 0) by rw [adP_one, if_pos hz])
            rw [HZ.out] at DB ⊢
            clear hz
            go_wp2_with fail
            go_ret
            exact ⟨rfl, DB.out.b⟩
          · have HZ := Lib.hid (show adP (one3 0) 3 2147483647 (tgP kyL 3 2147483647) = (0, one3 2147483647) by rw [adP_one, if_neg hz])
            rw [HZ.out] at DB ⊢
            clear hz
            go_wp2_with fail
            go_ret
            exact ⟨rfl, DB.out.b⟩
    · have HKD := Lib.hid hkd
      have HU := Lib.hid hu
      have HQ := Lib.hid hq
      have HTL := Lib.hid htl
      have HBL := Lib.hid hbl
      clear hkd hu hq htl hbl
      go_wp2_with fail
      refine (mail_Decode.calls kd _ _ _ _ _ _ _ _ _ w6 HKD.out).mono ?_
      rintro e w7 ⟨v5, v6, rfl, r5, r6, b7⟩
      obtain ⟨E5, f5, e5, p5⟩ := R_cq r5 (by decide)
      obtain ⟨E6, f6, e6, p6⟩ := R_cq r6 (by decide)
      subst e5
      subst e6
      have D7 := Lib.hid (D6.out.below b7)
      have P5 := Lib.hid p5
      have P6 := Lib.hid p6
      have C7 := Lib.hid (show Cb w7 gb sT from ⟨Nat.lt_of_lt_of_le C6.out.1 b7.size, fun j hj => ⟨(b7.cell (p := ⟨gb, j, none⟩) C6.out.1).trans (C6.out.2 j hj).1, (b7.frozen (p := ⟨gb, j, none⟩) C6.out.1).trans (C6.out.2 j hj).2⟩⟩)
      clear r5 r6 p5 p6 b7 D6 C6 hcs
      obtain ⟨tb, HTB⟩ : ∃ t, Hid (tx tg = t) := ⟨_, Lib.hid rfl⟩
      rw [HTB.out]
      go_upto_region 12 with fail
      obtain ⟨bm, HBM⟩ : ∃ b, Hid (w7.heap.size = b) := ⟨_, Lib.hid rfl⟩
      refine gworld (fun W => Hid (Below w7.heap.size w7 W) ∧ Hid (Blk W bm 25 #[.int .i64 2, .int .i64 u, .int .i64 q, .string ⟨#[]⟩, .string tb, .slice E5 ([] : List S68).length f5, .slice E6 ([] : List ByteArray).length f6])) ⟨Lib.hid ((Below.refl _ _).alloc (Nat.le_refl _) _), Lib.hid (by rw [← HBM.out]; exact Blk.new _ _ _)⟩ ?_
      rintro w8 ⟨B8, M8⟩
      rw [HBM.out]
      have D8 := Lib.hid (D7.out.below B8.out)
      have C8 := Lib.hid (show ∀ j, j < 38 → w8.cell? ⟨gb, j, none⟩ = some (.int .u8 (n8 (bd sT j))) from fun j hj => (B8.out.cell (p := ⟨gb, j, none⟩) C7.out.1).trans (C7.out.2 j (by rw [hsTl]; exact hj)).1)
      have hgb8 := Lib.hid (show gb < w8.heap.size from Nat.lt_of_lt_of_le C7.out.1 B8.out.size)
      clear B8 D7 C7
      have hown8 := my_own_lit (B := w8.heap.size) w8 5 [] (Nat.le_refl _) (by decide)
      have hcells : ∀ (j : Nat) (z : Value), (cb (sT.take 6))[j]? = some z → (w8.alloc (.cells ([] : List Value).toArray 5)).cell? ⟨gb, j, none⟩ = some z := fun j z hz => by
        have hj : j < 6 := by have := (List.getElem?_eq_some_iff.1 hz).1; simp [cb] at this; omega
        rw [(((Below.refl w8.heap.size w8).alloc (Nat.le_refl _) (.cells ([] : List Value).toArray 5)).cell (p := ⟨gb, j, none⟩) hgb8.out).trans (C8.out j (by omega)), ← hz]
        simp [cb, bd, List.getElem?_take, hj, List.getElem?_eq_getElem (show j < sT.length by omega)]
      obtain ⟨A9, c9, w9, hrun9, hown9, hgr9⟩ := own_append (ty := 61) elemU8 hown8 gb 6 cap (cb (sT.take 6)) (by simp [cb]; omega) hcells (by intro z hz; obtain ⟨y, _, rfl⟩ := List.mem_map.1 hz; rfl) (by simp) (by simp) (by simp)
      have B9 := Lib.hid (Own.below_grown hown8 ((Below.refl w8.heap.size w8).alloc (Nat.le_refl _) _) (by simp) hgr9)
      have hl6 : (([] : List Value) ++ cb (sT.take 6)).length = 6 := by simp [cb]; omega
      have hown9' : w9.ownsRow w8.heap.size 5 1 (.slice A9 6 c9) 6 (cb (sT.take 6)) := by
        have := hown9
        unfold Own at this
        rw [hl6] at this
        exact this
      obtain ⟨iz, hiz, hzz, hszz, hbyz⟩ := info_parts elemU8.2.1
      have hzl : (Builtin.zeroCells (Value.int .u8 0).cells 32).toList = cb (List.replicate 32 0) := by kernel_rfl
      obtain ⟨v10, w10, hrun10, hown10, hgr10, _⟩ := run_append_zeros (P := Tryd.prog) w9 w8.heap.size 61 3 61 5 iz (.int .u8 0) 1 1 Tryd.underlying61 Tryd.underlying3 hiz hzz hszz hbyz rfl (by decide) (by decide) (.slice A9 6 c9) 6 _ hown9' .i64 32 (by rw [hzl]; intro y hy; obtain ⟨y', _, rfl⟩ := List.mem_map.1 hy; rfl) (by decide) B9.out.size
      have B10 := Lib.hid (show Below w8.heap.size w8 w10 from Own.below_grown (show Own 5 w9 w8.heap.size (.slice A9 6 c9) (cb (sT.take 6)) by unfold Own; rw [show (cb (sT.take 6)).length = 6 by simp [cb]; omega]; exact hown9') B9.out B9.out.size hgr10)
      have hzc : cb (sT.take 6) ++ (Builtin.zeroCells (Value.int .u8 0).cells 32).toList = cb (sP u q) := by
        rw [← HBL.out, cb_append, hzl]
      rw [hzc] at hown10
      have hlS : (cb (sP u q)).length = 38 := by rw [cb_length, sP_length]
      have hO10 : Own 5 w10 w8.heap.size v10 (cb (sP u q)) := by unfold Own; rw [hlS]; exact hown10
      obtain ⟨A10, c10, ev10⟩ := Own.form hO10
      rw [hlS] at ev10
      subst ev10
      have O10 := Lib.hid hO10
      have D10 := Lib.hid (D8.out.below B10.out)
      have M10 := Lib.hid (M8.out.below B10.out M8.out.lt)
      clear hown8 hcells hgr9 hgr10 hown9 hown9' hown10 hO10 B9 B10 hzc D8 M8 C8
      have m0 : w10.cell? ⟨bm, 0, none⟩ = some (.int .i64 2) := M10.out.cell 0
      have m1 : w10.cell? ⟨bm, 1, none⟩ = some (.int .i64 u) := M10.out.cell 1
      have m2 : w10.cell? ⟨bm, 2, none⟩ = some (.int .i64 q) := M10.out.cell 2
      have m3 : w10.cell? ⟨bm, 3, none⟩ = some (.string ⟨#[]⟩) := M10.out.cell 3
      have m4 : w10.cell? ⟨bm, 4, none⟩ = some (.string tb) := M10.out.cell 4
      have m5 : w10.cell? ⟨bm, 5, none⟩ = some (.slice E5 ([] : List S68).length f5) := M10.out.cell 5
      have m6 : w10.cell? ⟨bm, 6, none⟩ = some (.slice E6 ([] : List ByteArray).length f6) := M10.out.cell 6
      go_wp2_with (first
        | ((with_reducible refine gate_builtin (b := .append) (xs := #[.tmp 67, .tmp 69]) rfl ?_); at_builtin; refine wpList_append_run rfl _ _ _ _ rfl rfl rfl hrun9 ?_)
        | ((with_reducible refine gate_builtin (b := .append) (xs := #[.tmp 71, .const (.int .i64 32)]) rfl ?_); at_builtin; refine wpList_append_run rfl _ _ _ _ rfl rfl rfl hrun10 ?_))
      obtain ⟨⟨z, l'⟩, hz⟩ : ∃ pr, adP (one3 0) u q tg = pr := ⟨_, rfl⟩
      refine (admitP_any g _ v gs (one3 0) u q tg _ w10 D10.out.g ⟨E5, f5, E6, f6, by rw [← HTB.out]; rfl, P5.out.empty, P6.out.empty⟩ HTL.out HU.out HQ.out D10.out.k D10.out.ks (one_key _)).mono ?_
      rintro e w11 ⟨rfl, G11, A11⟩
      rw [hz] at G11 ⊢
      have HZ1 := Lib.hid (show (z = 0 ∧ u = 3 ∧ tgP kyL 3 q = tg ∧ ∃ p', l' = one3 p') ∨ (z ≠ 0 ∧ ∃ p', l' = one3 p') by
        by_cases hu3 : u = 3
        · subst hu3
          have hf : fN (one3 0) 3 = some 0 := by simp [fN, one3]
          rw [adP_some hf (s := ⟨3, kyL, 0⟩) rfl] at hz
          split at hz
          · simp only [Prod.mk.injEq] at hz
            exact .inr ⟨by rw [← hz.1]; decide, _, hz.2.symm⟩
          · rename_i ht
            split at hz
            · simp only [Prod.mk.injEq] at hz
              exact .inr ⟨by rw [← hz.1]; decide, _, hz.2.symm⟩
            · simp only [Prod.mk.injEq] at hz
              exact .inl ⟨hz.1.symm, rfl, Classical.not_not.1 ht, q, hz.2.symm⟩
        · have hf : fN (one3 0) u = none := by
            have : ((3 : Int) == u) = false := beq_eq_false_iff_ne.mpr (fun h => hu3 h.symm)
            simp [fN, one3, this]
          unfold adP at hz
          rw [hf] at hz
          simp only [Prod.mk.injEq] at hz
          exact .inr ⟨by rw [← hz.1]; decide, 0, hz.2.symm⟩)
      have D11 := Lib.hid (D10.out.ad G11 A11 HK.out HKS.out)
      have M11 := Lib.hid (A11.blk (fun x hx => (D10.out.g.typed x hx).2) M10.out (by decide))
      have O11 := Lib.hid (A11.own20 (fun x hx => (D10.out.g.typed x hx).2) O10.out (by decide))
      clear G11 A11 D10 M10 O10 hz m0 m1 m2 m3 m4 m5 m6 hrun9 hrun10 P5 P6
      go_upto_region 16 with fail
      have S16 : w11.drew.cell? ⟨bm, 4, none⟩ = some (.string tb) := M11.out.drew.cell 4
      have D12 := Lib.hid (D11.out.below (below_drewN (Below.refl _ _) 1))
      rcases HZ1.out with ⟨rfl, rfl, ht, p', rfl⟩ | ⟨hz0, p', rfl⟩
      · have hcv4 : (convert 61 9 (.slice A10 38 c10)).run Tryd.prog w11.drew = .ok (.string ⟨(sP 3 q).toArray⟩) w11.drew := my_own_string Tryd.underlying61 Tryd.underlying5 Tryd.underlying9 O11.out.drew
        have BA := Lib.hid (show ∀ o, Below w11.drew.heap.size w11.drew (w11.drew.alloc o) from fun o => (Below.refl _ _).alloc (Nat.le_refl _) o)
        have HTG := Lib.hid (show ∀ (W : World) (A : Option Addr), Strs W A 2 [[103, 97, 116, 101], sP 3 q] → KsAt W → 0 < W.heap.size → Calls Tryd.prog 25 #[.string ⟨kyL.toArray⟩, .slice A 2 2] W fun e w' => e = .returned (.string tb) ∧ Below W.heap.size W w' from fun W A hS hk hg => by
          have := tag_any kyL A 2 2 [[103, 97, 116, 101], sP 3 q] W hS (by decide) (by
            intro y hy
            rcases List.mem_cons.1 hy with h | h
            · rw [h]; decide
            · rw [List.mem_singleton.1 h, sP_length]; decide) (by decide) hk hg
          have e : ([[103, 97, 116, 101], sP 3 q] : List (List UInt8)).flatten = gateL ++ sP 3 q := by simp [gateL]
          rw [e, show tagL kyL (gateL ++ sP 3 q) = tg from ht] at this
          have e2 : (⟨tg.toArray⟩ : ByteArray) = tb := HTB.out
          rw [e2] at this
          exact this)
        refine start_ (n := 11) (S := fun W => W.cell? ⟨bm, 4, none⟩ = some (.string tb)) (ds := []) #[false, false, false, false, false, false, false, false, false, false, false] (by kernel_rfl) rfl rfl S16 (fun hHeld => ?_)
        refine with_tabW gx16.tab gx16.bits (fun HT_ HW_ => ?_)
        refine pure_ (i := 0) (N := some 76) (v := ?_) (a' := ?_) #[true, false, false, false, false, false, false, false, false, false, false] rfl rfl (any_of HT_.out (by kernel_rfl)) (fun _ _ _ h => h) (Or.inl ⟨by rfl, ?_⟩) ?_ ?_
        rotate_left
        · intro w'
          go_simp
          try with_reducible rfl
        rotate_left
        · simp only [Act.put, List.setIfInBounds_toArray, List.set_cons_zero, List.set_cons_succ]
          rfl
        refine pure_ (i := 1) (N := some 77) (v := ?_) (a' := ?_) #[true, true, false, false, false, false, false, false, false, false, false] rfl rfl (any_of HT_.out (by kernel_rfl)) (fun _ _ _ h => h) (Or.inl ⟨by rfl, ?_⟩) ?_ ?_
        rotate_left
        · intro w'
          go_simp
          try with_reducible rfl
        rotate_left
        · simp only [Act.put, List.setIfInBounds_toArray, List.set_cons_zero, List.set_cons_succ]
          rfl
        refine pure_ (i := 2) (N := some 78) (v := ?_) (a' := ?_) #[true, true, true, false, false, false, false, false, false, false, false] rfl rfl (any_of HT_.out (by kernel_rfl)) (fun _ _ _ h => h) (Or.inl ⟨by rfl, ?_⟩) ?_ ?_
        rotate_left
        · intro w'
          go_simp
          try with_reducible rfl
        rotate_left
        · simp only [Act.put, List.setIfInBounds_toArray, List.set_cons_zero, List.set_cons_succ]
          rfl
        refine pure_ (i := 3) (N := some 79) (v := ?_) (a' := ?_) #[true, true, true, true, false, false, false, false, false, false, false] rfl rfl (any_of HT_.out (by kernel_rfl)) (fun _ _ _ h => h) (Or.inl ⟨by rfl, ?_⟩) ?_ ?_
        rotate_left
        · intro w'
          go_simp
          try with_reducible rfl
        rotate_left
        · simp only [Act.put, List.setIfInBounds_toArray, List.set_cons_zero, List.set_cons_succ]
          rfl
        refine pure_ (i := 7) (N := some 83) (v := ?_) (a' := ?_) #[true, true, true, true, false, false, false, true, false, false, false] rfl rfl (any_of HT_.out (by kernel_rfl)) (fun _ _ _ h => h) (Or.inl ⟨by rfl, ?_⟩) ?_ ?_
        rotate_left
        · intro w'
          go_simp
          try with_reducible rfl
        rotate_left
        · simp only [Act.put, List.setIfInBounds_toArray, List.set_cons_zero, List.set_cons_succ]
          rfl
        refine take_ (i := 8) (N := some 84) (v := ?_) (a' := ?_) #[true, true, true, true, false, false, false, true, true, false, false] rfl rfl (take_ofW HT_.out HW_.out (by kernel_rfl)) (fun _ _ _ h => h) (Or.inl ⟨by rfl, ?_⟩) hHeld ?_ ?_
        rotate_left
        · rintro w' s0
          go_simp
          try with_reducible rfl
        rotate_left
        · simp only [Act.put, List.setIfInBounds_toArray, List.set_cons_zero, List.set_cons_succ]
          rfl
        refine one_ (i := 4) (N := some 80) #[true, true, true, true, true, false, false, true, true, false, false] rfl rfl (one_of HT_.out (by kernel_rfl)) (by decide) (fun K hK => ?_)
        refine value_ (w1 := w11.drew) (v := .string ⟨(sP 3 q).toArray⟩) (by rfl) rfl (by go_simp) ?_
        refine hK.out _ _ (S16) (fun hHeld => ?_)
        clear hK K
        refine norm_ (a' := ?_) ?_ ?_
        rotate_left
        · show Act.put _ (some 80) _ = _
          simp only [Act.put, List.setIfInBounds_toArray, List.set_cons_zero, List.set_cons_succ]
          rfl
        refine one_ (i := 5) (N := some 81) #[true, true, true, true, true, true, false, true, true, false, false] rfl rfl (one_of HT_.out (by kernel_rfl)) (by decide) (fun K hK => ?_)
        refine value_ (w1 := w11.drew.alloc (.cells #[.string ⟨[103, 97, 116, 101].toArray⟩, .string ⟨(sP 3 q).toArray⟩] 9)) (v := .slice (some ⟨w11.drew.heap.size, 0, none⟩) 2 2) (by rfl) rfl (by go_simp; try rfl) ?_
        refine hK.out _ _ ((M11.out.drew.alloc _).cell 4) (fun hHeld => ?_)
        clear hK K
        refine norm_ (a' := ?_) ?_ ?_
        rotate_left
        · show Act.put _ (some 81) _ = _
          simp only [Act.put, List.setIfInBounds_toArray, List.set_cons_zero, List.set_cons_succ]
          rfl
        refine one_ (i := 6) (N := some 82) #[true, true, true, true, true, true, true, true, true, false, false] rfl rfl (one_of HT_.out (by kernel_rfl)) (by decide) (fun K hK => ?_)
        refine goes_ Tryd.func25 (by kernel_rfl) rfl #[.string ⟨kyL.toArray⟩, .slice (some ⟨w11.drew.heap.size, 0, none⟩) 2 2] (by rfl) rfl rfl (by first | done | rfl | (simp only [List.map_toArray, List.map_cons, List.map_nil]; done) | (simp only [List.map_toArray, List.map_cons, List.map_nil]; rfl)) ?_
        refine (HTG.out _ _ (strs_two w11.drew 9 [103, 97, 116, 101] (sP 3 q)) (D12.out.k.below D12.out.ks (BA.out _)) (Nat.lt_of_lt_of_le D12.out.ks (BA.out _).size)).mono ?_
        rintro e' w12 ⟨rfl, b12⟩
        refine ⟨_, rfl, ?_⟩
        refine hK.out _ _ (((M11.out.drew.alloc _).below b12 (M11.out.drew.alloc _).lt).cell 4) (fun hHeld => ?_)
        clear hK K
        refine norm_ (a' := ?_) ?_ ?_
        rotate_left
        · show Act.put _ (some 82) _ = _
          simp only [Act.put, List.setIfInBounds_toArray, List.set_cons_zero, List.set_cons_succ]
          rfl
        refine pure_ (i := 9) (N := some 85) (v := ?_) (a' := ?_) #[true, true, true, true, true, true, true, true, true, true, false] rfl rfl (any_of HT_.out (by kernel_rfl)) (fun _ _ _ h => h) (Or.inl ⟨by rfl, ?_⟩) ?_ ?_
        rotate_left
        · intro w'
          go_simp
          try with_reducible rfl
        rotate_left
        · simp only [Act.put, List.setIfInBounds_toArray, List.set_cons_zero, List.set_cons_succ]
          rfl
        refine pure_ (i := 10) (N := some 86) (v := ?_) (a' := ?_) #[true, true, true, true, true, true, true, true, true, true, true] rfl rfl (any_of HT_.out (by kernel_rfl)) (fun _ _ _ h => h) (Or.inl ⟨by rfl, ?_⟩) ?_ ?_
        rotate_left
        · intro w'
          go_simp
          try with_reducible rfl
        rotate_left
        · simp only [Act.put, List.setIfInBounds_toArray, List.set_cons_zero, List.set_cons_succ]
          rfl
        refine done_ (done_of HT_.out (by kernel_rfl)) ?_
        clear HT_ HW_
        have D13 := Lib.hid ((D12.out.below (BA.out _)).below b12)
        clear b12 D12 D11 M11 O11 BA HTG S16 hHeld hcv4 HZ1
        try simp only [bne_self_eq_false]
        by_cases hoth : other.length = 32 ∧ other ≠ kyL
        · have d1 : ((ob.size : Int) == 32) = true := by rw [HOB.out, hoth.1]; rfl
          have HOT := Lib.hid hoth
          clear hoth
          have HPL := Lib.hid (fun W => pull_any other 9 W HOT.out.1 (by decide))
          rw [OB.out] at HPL
          have hne : (ob.toList == [116, 104, 105, 114, 116, 121, 45, 116, 119, 111, 32, 98, 121, 116, 101, 115, 32, 97, 114, 101, 32, 106, 117, 115, 116, 32, 97, 32, 107, 101, 121, 46]) = false := beq_eq_false_iff_ne.mpr (fun h => HOT.out.2 (by rw [← OB.out, ByteArray.toList_eq] at h; exact h))
          go_wp2_with fail
          refine (HPL.out w12 D13.out.k D13.out.ks).mono ?_
          rintro e wo ⟨mo, rfl, hPo, bo'⟩
          obtain ⟨G5, i5, G6, i6, em, h5, h6⟩ := hPo
          obtain ⟨To, HTO⟩ : ∃ T, Hid ((⟨(tgP other 3 9).toArray⟩ : ByteArray) = T) := ⟨_, Lib.hid rfl⟩
          rw [HTO.out] at em
          subst em
          have DO := Lib.hid (D13.out.below bo')
          have O5 := Lib.hid h5
          have O6 := Lib.hid h6
          clear bo' h5 h6 D13 HPL hne
          go_upto_region 20 with fail
          obtain ⟨bo, HBO⟩ : ∃ b, Hid (wo.heap.size = b) := ⟨_, Lib.hid rfl⟩
          refine gworld (fun W => Hid (GW w W g v gs (one3 p')) ∧ Hid (Blk W bo 25 #[.int .i64 2, .int .i64 3, .int .i64 9, .string ⟨#[]⟩, .string To, .slice G5 ([] : List S68).length i5, .slice G6 ([] : List ByteArray).length i6])) ⟨Lib.hid (DO.out.below ((Below.refl _ _).alloc (Nat.le_refl _) _)), Lib.hid (by rw [← HBO.out]; exact Blk.new _ _ _)⟩ ?_
          clear DO
          rintro wp ⟨DP, BP⟩
          rw [HBO.out]
          have HPM := Lib.hid (show ∀ W, Pm W (.agg #[.int .i64 2, .int .i64 3, .int .i64 9, .string ⟨#[]⟩, .string To, .slice G5 ([] : List S68).length i5, .slice G6 ([] : List ByteArray).length i6]) 3 9 (tgP other 3 9) from fun W => ⟨G5, i5, G6, i6, by rw [HTO.out], O5.out.empty, O6.out.empty⟩)
          have DQ := Lib.hid (DP.out.below (below_drewN (Below.refl _ _) 1))
          have ML := Lib.hid (show ∀ W, Blk W bo 25 #[.int .i64 2, .int .i64 3, .int .i64 9, .string ⟨#[]⟩, .string To, .slice G5 ([] : List S68).length i5, .slice G6 ([] : List ByteArray).length i6] → W.cell? ⟨bo, 0, none⟩ = some (.int .i64 2) ∧ W.cell? ⟨bo, 1, none⟩ = some (.int .i64 3) ∧ W.cell? ⟨bo, 2, none⟩ = some (.int .i64 9) ∧ W.cell? ⟨bo, 3, none⟩ = some (.string ⟨#[]⟩) ∧ W.cell? ⟨bo, 4, none⟩ = some (.string To) ∧ W.cell? ⟨bo, 5, none⟩ = some (.slice G5 ([] : List S68).length i5) ∧ W.cell? ⟨bo, 6, none⟩ = some (.slice G6 ([] : List ByteArray).length i6) from fun W h => ⟨h.cell 0, h.cell 1, h.cell 2, h.cell 3, h.cell 4, h.cell 5, h.cell 6⟩)
          have S0 := ML.out wp.drew BP.out.drew
          obtain ⟨⟨z, l'⟩, hz⟩ : ∃ pr, adP (one3 p') 3 9 (tgP other 3 9) = pr := ⟨_, rfl⟩
          have HZZ := Lib.hid (show (z = 0 ∧ tgP kyL 3 9 = tgP other 3 9 ∧ ∃ p', l' = one3 p') ∨ (z ≠ 0 ∧ ∃ p', l' = one3 p') by
            have hf : fN (one3 p') 3 = some 0 := by simp [fN, one3]
            rw [adP_some hf (s := ⟨3, kyL, p'⟩) rfl] at hz
            split at hz
            · simp only [Prod.mk.injEq] at hz
              exact .inr ⟨by rw [← hz.1]; decide, _, hz.2.symm⟩
            · rename_i ht
              split at hz
              · simp only [Prod.mk.injEq] at hz
                exact .inr ⟨by rw [← hz.1]; decide, _, hz.2.symm⟩
              · simp only [Prod.mk.injEq] at hz
                exact .inl ⟨hz.1.symm, Classical.not_not.1 ht, 9, hz.2.symm⟩)
          have HCA := Lib.hid (show Calls Tryd.prog 17 #[.pointer (some ⟨g, 0, none⟩), .agg #[.int .i64 2, .int .i64 3, .int .i64 9, .string ⟨#[]⟩, .string To, .slice G5 ([] : List S68).length i5, .slice G6 ([] : List ByteArray).length i6]] wp.drew fun e W' => e = .returned (.int .i64 z) ∧ GW w W' g v gs l' ∧ Ad1 wp.drew W' gs from
            (admitP_any g _ v gs _ 3 9 _ _ wp.drew DQ.out.g (HPM.out wp.drew) (tgP_length _ _ _) (by decide) (by decide) DQ.out.k DQ.out.ks (one_key _)).mono (fun e W' ⟨he, hg, ha⟩ => by rw [hz] at he hg; exact ⟨he, DQ.out.ad hg ha HK.out HKS.out, ha⟩))
          clear hz HPM
          rcases HZZ.out with ⟨rfl, ht, p', rfl⟩ | ⟨hz0, p', rfl⟩
          · have HPK := Lib.hid (fun W => pull_any kyL 9 W kyL_length (by decide))
            have HTT := Lib.hid (show (⟨(tgP kyL 3 9).toArray⟩ : ByteArray) = To by rw [ht, HTO.out])
            clear ht HZZ
            refine start_ (n := 11) (S := fun W => W.cell? ⟨bo, 0, none⟩ = some (.int .i64 2) ∧ W.cell? ⟨bo, 1, none⟩ = some (.int .i64 3) ∧ W.cell? ⟨bo, 2, none⟩ = some (.int .i64 9) ∧ W.cell? ⟨bo, 3, none⟩ = some (.string ⟨#[]⟩) ∧ W.cell? ⟨bo, 4, none⟩ = some (.string To) ∧ W.cell? ⟨bo, 5, none⟩ = some (.slice G5 ([] : List S68).length i5) ∧ W.cell? ⟨bo, 6, none⟩ = some (.slice G6 ([] : List ByteArray).length i6)) (ds := []) #[false, false, false, false, false, false, false, false, false, false, false] (by kernel_rfl) rfl rfl S0 (fun hHeld => ?_)
            refine with_tabW gx20.tab gx20.bits (fun HT_ HW_ => ?_)
            refine pure_ (i := 0) (N := some 96) (v := ?_) (a' := ?_) #[true, false, false, false, false, false, false, false, false, false, false] rfl rfl (any_of HT_.out (by kernel_rfl)) (fun _ _ _ h => h) (Or.inl ⟨by rfl, ?_⟩) ?_ ?_
            rotate_left
            · intro w'
              go_simp
              try with_reducible rfl
            rotate_left
            · simp only [Act.put, List.setIfInBounds_toArray, List.set_cons_zero, List.set_cons_succ]
              rfl
            refine take_ (i := 1) (N := some 97) (v := ?_) (a' := ?_) #[true, true, false, false, false, false, false, false, false, false, false] rfl rfl (take_ofW HT_.out HW_.out (by kernel_rfl)) (fun _ _ _ h => h) (Or.inl ⟨by rfl, ?_⟩) hHeld ?_ ?_
            rotate_left
            · rintro w' ⟨s0, s1, s2, s3, s4, s5, s6⟩
              go_simp
              try with_reducible rfl
            rotate_left
            · simp only [Act.put, List.setIfInBounds_toArray, List.set_cons_zero, List.set_cons_succ]
              rfl
            refine one_ (i := 2) (N := some 98) #[true, true, true, false, false, false, false, false, false, false, false] rfl rfl (one_of HT_.out (by kernel_rfl)) (by decide) (fun K hK => ?_)
            refine goes_ Tryd.func17 (by kernel_rfl) rfl #[.pointer (some ⟨g, 0, none⟩), .agg #[.int .i64 2, .int .i64 3, .int .i64 9, .string ⟨#[]⟩, .string To, .slice G5 ([] : List S68).length i5, .slice G6 ([] : List ByteArray).length i6]] (by rfl) rfl rfl (by first | done | rfl | (simp only [List.map_toArray, List.map_cons, List.map_nil]; done) | (simp only [List.map_toArray, List.map_cons, List.map_nil]; rfl)) ?_
            refine (HCA.out).mono ?_
            rintro e' w7 ⟨rfl, D7', A7⟩
            refine ⟨_, rfl, ?_⟩
            refine hK.out _ _ (ML.out _ (A7.blk (fun x hx => (DQ.out.g.typed x hx).2) BP.out.drew (by decide))) (fun hHeld => ?_)
            clear hK K
            refine norm_ (a' := ?_) ?_ ?_
            rotate_left
            · show Act.put _ (some 98) _ = _
              simp only [Act.put, List.setIfInBounds_toArray, List.set_cons_zero, List.set_cons_succ]
              rfl
            refine pure_ (i := 3) (N := some 99) (v := ?_) (a' := ?_) #[true, true, true, true, false, false, false, false, false, false, false] rfl rfl (any_of HT_.out (by kernel_rfl)) (fun _ _ _ h => h) (Or.inl ⟨by rfl, ?_⟩) ?_ ?_
            rotate_left
            · intro w'
              go_simp
              try with_reducible rfl
            rotate_left
            · simp only [Act.put, List.setIfInBounds_toArray, List.set_cons_zero, List.set_cons_succ]
              rfl
            refine pure_ (i := 4) (N := some 100) (v := ?_) (a' := ?_) #[true, true, true, true, true, false, false, false, false, false, false] rfl rfl (any_of HT_.out (by kernel_rfl)) (fun _ _ _ h => h) (Or.inl ⟨by rfl, ?_⟩) ?_ ?_
            rotate_left
            · intro w'
              go_simp
              try with_reducible rfl
            rotate_left
            · simp only [Act.put, List.setIfInBounds_toArray, List.set_cons_zero, List.set_cons_succ]
              rfl
            refine pure_ (i := 7) (N := some 103) (v := ?_) (a' := ?_) #[true, true, true, true, true, false, false, true, false, false, false] rfl rfl (any_of HT_.out (by kernel_rfl)) (fun _ _ _ h => h) (Or.inl ⟨by rfl, ?_⟩) ?_ ?_
            rotate_left
            · intro w'
              go_simp
              try with_reducible rfl
            rotate_left
            · simp only [Act.put, List.setIfInBounds_toArray, List.set_cons_zero, List.set_cons_succ]
              rfl
            refine take_ (i := 8) (N := some 104) (v := ?_) (a' := ?_) #[true, true, true, true, true, false, false, true, true, false, false] rfl rfl (take_ofW HT_.out HW_.out (by kernel_rfl)) (fun _ _ _ h => h) (Or.inl ⟨by rfl, ?_⟩) hHeld ?_ ?_
            rotate_left
            · rintro w' ⟨s0, s1, s2, s3, s4, s5, s6⟩
              go_simp
              try with_reducible rfl
            rotate_left
            · simp only [Act.put, List.setIfInBounds_toArray, List.set_cons_zero, List.set_cons_succ]
              rfl
            refine one_ (i := 5) (N := some 101) #[true, true, true, true, true, true, false, true, true, false, false] rfl rfl (one_of HT_.out (by kernel_rfl)) (by decide) (fun K hK => ?_)
            refine goes_ Tryd.func22 (by kernel_rfl) rfl #[.string ⟨kyL.toArray⟩, .int .i64 9] (by rfl) rfl rfl (by first | done | rfl | (simp only [List.map_toArray, List.map_cons, List.map_nil]; done) | (simp only [List.map_toArray, List.map_cons, List.map_nil]; rfl)) ?_
            refine (HPK.out w7 D7'.k D7'.ks).mono ?_
            rintro e' w8 ⟨mk, rfl, ⟨K5, j5, K6, j6, emk, _, _⟩, b8⟩
            refine ⟨_, rfl, ?_⟩
            refine hK.out _ _ (ML.out _ ((A7.blk (fun x hx => (DQ.out.g.typed x hx).2) BP.out.drew (by decide)).below b8 (A7.blk (fun x hx => (DQ.out.g.typed x hx).2) BP.out.drew (by decide)).lt)) (fun hHeld => ?_)
            clear hK K
            refine norm_ (a' := ?_) ?_ ?_
            rotate_left
            · show Act.put _ (some 101) _ = _
              simp only [Act.put, List.setIfInBounds_toArray, List.set_cons_zero, List.set_cons_succ]
              rfl
            (subst emk; try simp only [HTT.out]); have hfld : ∀ W : World, (Instr.field 25 (.agg #[.int .i64 2, .int .i64 3, .int .i64 9, .string ⟨#[]⟩, .string To, .slice K5 0 j5, .slice K6 0 j6]) 4).run Tryd.prog W = .ok (.string To) W := fun W => by kernel_rfl
            refine pure_ (i := 6) (N := some 102) (v := ?_) (a' := ?_) #[true, true, true, true, true, true, true, true, true, false, false] rfl rfl (any_of HT_.out (by kernel_rfl)) (fun _ _ _ h => h) (Or.inl ⟨by rfl, ?_⟩) ?_ ?_
            rotate_left
            · intro w'
              go_simp
              try with_reducible rfl
            rotate_left
            · simp only [Act.put, List.setIfInBounds_toArray, List.set_cons_zero, List.set_cons_succ]
              rfl
            refine pure_ (i := 9) (N := some 105) (v := ?_) (a' := ?_) #[true, true, true, true, true, true, true, true, true, true, false] rfl rfl (any_of HT_.out (by kernel_rfl)) (fun _ _ _ h => h) (Or.inl ⟨by rfl, ?_⟩) ?_ ?_
            rotate_left
            · intro w'
              go_simp
              try with_reducible rfl
            rotate_left
            · simp only [Act.put, List.setIfInBounds_toArray, List.set_cons_zero, List.set_cons_succ]
              rfl
            refine pure_ (i := 10) (N := some 106) (v := ?_) (a' := ?_) #[true, true, true, true, true, true, true, true, true, true, true] rfl rfl (any_of HT_.out (by kernel_rfl)) (fun _ _ _ h => h) (Or.inl ⟨by rfl, ?_⟩) ?_ ?_
            rotate_left
            · intro w'
              go_simp
              try with_reducible rfl
            rotate_left
            · simp only [Act.put, List.setIfInBounds_toArray, List.set_cons_zero, List.set_cons_succ]
              rfl
            refine done_ (done_of HT_.out (by kernel_rfl)) ?_
            clear HT_ HW_
            have D9 := Lib.hid (D7'.below b8)
            clear D7' b8 A7 S0 ML DQ HCA hHeld DP BP HPK
            try simp only [bne_self_eq_false]
            go_wp2_with fail
            refine (pull_any kyL 2147483647 w8 kyL_length (by decide) D9.out.k D9.out.ks).mono ?_
            rintro e wa ⟨ma, rfl, hPa, ba⟩
            have PA := Lib.hid hPa
            have DA := Lib.hid (D9.out.below ba)
            clear hPa ba D9
            go_wp2_with fail
            refine (admitP_any g _ v gs _ 3 2147483647 _ ma wa DA.out.g PA.out (tgP_length _ _ _) (by decide) (by decide) DA.out.k DA.out.ks (one_key _)).mono ?_
            rintro e wb ⟨rfl, Gb, Ab⟩
            have DB := Lib.hid (DA.out.ad Gb Ab HK.out HKS.out)
            clear Gb Ab PA DA
            rcases Classical.em ((2147483647 : Int) ≤ p') with hz | hz
            · have HZ := Lib.hid (show adP (one3 p') 3 2147483647 (tgP kyL 3 2147483647) = (170, one3 p') by rw [adP_one, if_pos hz])
              rw [HZ.out] at DB ⊢
              clear hz
              go_wp2_with fail
              go_ret
              exact ⟨rfl, DB.out.b⟩
            · have HZ := Lib.hid (show adP (one3 p') 3 2147483647 (tgP kyL 3 2147483647) = (0, one3 2147483647) by rw [adP_one, if_neg hz])
              rw [HZ.out] at DB ⊢
              clear hz
              go_wp2_with fail
              go_ret
              exact ⟨rfl, DB.out.b⟩
          · have hz1 : (z == 0) = false := beq_eq_false_iff_ne.mpr hz0
            clear HZZ hz0
            refine start_ (n := 11) (S := fun W => W.cell? ⟨bo, 0, none⟩ = some (.int .i64 2) ∧ W.cell? ⟨bo, 1, none⟩ = some (.int .i64 3) ∧ W.cell? ⟨bo, 2, none⟩ = some (.int .i64 9) ∧ W.cell? ⟨bo, 3, none⟩ = some (.string ⟨#[]⟩) ∧ W.cell? ⟨bo, 4, none⟩ = some (.string To) ∧ W.cell? ⟨bo, 5, none⟩ = some (.slice G5 ([] : List S68).length i5) ∧ W.cell? ⟨bo, 6, none⟩ = some (.slice G6 ([] : List ByteArray).length i6)) (ds := []) #[false, false, false, false, false, false, false, false, false, false, false] (by kernel_rfl) rfl rfl S0 (fun hHeld => ?_)
            refine with_tabW gx20.tab gx20.bits (fun HT_ HW_ => ?_)
            refine pure_ (i := 0) (N := some 96) (v := ?_) (a' := ?_) #[true, false, false, false, false, false, false, false, false, false, false] rfl rfl (any_of HT_.out (by kernel_rfl)) (fun _ _ _ h => h) (Or.inl ⟨by rfl, ?_⟩) ?_ ?_
            rotate_left
            · intro w'
              go_simp
              try with_reducible rfl
            rotate_left
            · simp only [Act.put, List.setIfInBounds_toArray, List.set_cons_zero, List.set_cons_succ]
              rfl
            refine take_ (i := 1) (N := some 97) (v := ?_) (a' := ?_) #[true, true, false, false, false, false, false, false, false, false, false] rfl rfl (take_ofW HT_.out HW_.out (by kernel_rfl)) (fun _ _ _ h => h) (Or.inl ⟨by rfl, ?_⟩) hHeld ?_ ?_
            rotate_left
            · rintro w' ⟨s0, s1, s2, s3, s4, s5, s6⟩
              go_simp
              try with_reducible rfl
            rotate_left
            · simp only [Act.put, List.setIfInBounds_toArray, List.set_cons_zero, List.set_cons_succ]
              rfl
            refine one_ (i := 2) (N := some 98) #[true, true, true, false, false, false, false, false, false, false, false] rfl rfl (one_of HT_.out (by kernel_rfl)) (by decide) (fun K hK => ?_)
            refine goes_ Tryd.func17 (by kernel_rfl) rfl #[.pointer (some ⟨g, 0, none⟩), .agg #[.int .i64 2, .int .i64 3, .int .i64 9, .string ⟨#[]⟩, .string To, .slice G5 ([] : List S68).length i5, .slice G6 ([] : List ByteArray).length i6]] (by rfl) rfl rfl (by first | done | rfl | (simp only [List.map_toArray, List.map_cons, List.map_nil]; done) | (simp only [List.map_toArray, List.map_cons, List.map_nil]; rfl)) ?_
            refine (HCA.out).mono ?_
            rintro e' w7 ⟨rfl, D7', A7⟩
            refine ⟨_, rfl, ?_⟩
            refine hK.out _ _ (ML.out _ (A7.blk (fun x hx => (DQ.out.g.typed x hx).2) BP.out.drew (by decide))) (fun hHeld => ?_)
            clear hK K
            refine norm_ (a' := ?_) ?_ ?_
            rotate_left
            · show Act.put _ (some 98) _ = _
              simp only [Act.put, List.setIfInBounds_toArray, List.set_cons_zero, List.set_cons_succ]
              rfl
            refine pure_ (i := 3) (N := some 99) (v := ?_) (a' := ?_) #[true, true, true, true, false, false, false, false, false, false, false] rfl rfl (any_of HT_.out (by kernel_rfl)) (fun _ _ _ h => h) (Or.inl ⟨by rfl, ?_⟩) ?_ ?_
            rotate_left
            · intro w'
              go_simp
              try with_reducible rfl
            rotate_left
            · simp only [Act.put, List.setIfInBounds_toArray, List.set_cons_zero, List.set_cons_succ]
              rfl
            (try simp only [hz1])
            refine pure_ (i := 4) (N := some 100) (v := ?_) (a' := ?_) #[true, true, true, true, true, false, false, false, false, false, false] rfl rfl (any_of HT_.out (by kernel_rfl)) (fun _ _ _ h => h) (Or.inl ⟨by rfl, ?_⟩) ?_ ?_
            rotate_left
            · intro w'
              go_simp
              try with_reducible rfl
            rotate_left
            · simp only [Act.put, List.setIfInBounds_toArray, List.set_cons_zero, List.set_cons_succ]
              rfl
            refine pure_ (i := 7) (N := some 103) (v := undef) (a' := ?_) #[true, true, true, true, true, false, false, true, false, false, false] rfl rfl (any_of HT_.out (by kernel_rfl)) (fun _ _ _ h => h) (Or.inr ⟨by rfl, rfl⟩) ?_ ?_
            rotate_left
            · simp only [Act.put, List.setIfInBounds_toArray, List.set_cons_zero, List.set_cons_succ]
              rfl
            refine take_ (i := 8) (N := some 104) (v := undef) (a' := ?_) #[true, true, true, true, true, false, false, true, true, false, false] rfl rfl (take_ofW HT_.out HW_.out (by kernel_rfl)) (fun _ _ _ h => h) (Or.inr ⟨by rfl, rfl⟩) hHeld ?_ ?_
            rotate_left
            · simp only [Act.put, List.setIfInBounds_toArray, List.set_cons_zero, List.set_cons_succ]
              rfl
            refine one_ (i := 5) (N := some 101) #[true, true, true, true, true, true, false, true, true, false, false] rfl rfl (one_of HT_.out (by kernel_rfl)) (by decide) (fun K hK => ?_)
            refine Eq.mpr (if_neg (Bool.eq_false_iff.mp (by rfl))) ?_
            refine hK.out _ _ (by assumption) (fun hHeld => ?_)
            clear hK K
            refine norm_ (a' := ?_) ?_ ?_
            rotate_left
            · show Act.put _ (some 101) _ = _
              simp only [Act.put, List.setIfInBounds_toArray, List.set_cons_zero, List.set_cons_succ]
              rfl
            refine pure_ (i := 6) (N := some 102) (v := undef) (a' := ?_) #[true, true, true, true, true, true, true, true, true, false, false] rfl rfl (any_of HT_.out (by kernel_rfl)) (fun _ _ _ h => h) (Or.inr ⟨by rfl, rfl⟩) ?_ ?_
            rotate_left
            · simp only [Act.put, List.setIfInBounds_toArray, List.set_cons_zero, List.set_cons_succ]
              rfl
            refine pure_ (i := 9) (N := some 105) (v := undef) (a' := ?_) #[true, true, true, true, true, true, true, true, true, true, false] rfl rfl (any_of HT_.out (by kernel_rfl)) (fun _ _ _ h => h) (Or.inr ⟨by rfl, rfl⟩) ?_ ?_
            rotate_left
            · simp only [Act.put, List.setIfInBounds_toArray, List.set_cons_zero, List.set_cons_succ]
              rfl
            refine pure_ (i := 10) (N := some 106) (v := ?_) (a' := ?_) #[true, true, true, true, true, true, true, true, true, true, true] rfl rfl (any_of HT_.out (by kernel_rfl)) (fun _ _ _ h => h) (Or.inl ⟨by rfl, ?_⟩) ?_ ?_
            rotate_left
            · intro w'
              go_simp
              try with_reducible rfl
            rotate_left
            · simp only [Act.put, List.setIfInBounds_toArray, List.set_cons_zero, List.set_cons_succ]
              rfl
            refine done_ (done_of HT_.out (by kernel_rfl)) ?_
            clear HT_ HW_
            have D9 := Lib.hid D7'
            clear D7' A7 S0 ML DQ HCA hHeld DP BP
            go_wp2_with fail
            refine (pull_any kyL 2147483647 w7 kyL_length (by decide) D9.out.k D9.out.ks).mono ?_
            rintro e wa ⟨ma, rfl, hPa, ba⟩
            have PA := Lib.hid hPa
            have DA := Lib.hid (D9.out.below ba)
            clear hPa ba D9
            go_wp2_with fail
            refine (admitP_any g _ v gs _ 3 2147483647 _ ma wa DA.out.g PA.out (tgP_length _ _ _) (by decide) (by decide) DA.out.k DA.out.ks (one_key _)).mono ?_
            rintro e wb ⟨rfl, Gb, Ab⟩
            have DB := Lib.hid (DA.out.ad Gb Ab HK.out HKS.out)
            clear Gb Ab PA DA
            rcases Classical.em ((2147483647 : Int) ≤ p') with hz | hz
            · have HZ := Lib.hid (show adP (one3 p') 3 2147483647 (tgP kyL 3 2147483647) = (170, one3 p') by rw [adP_one, if_pos hz])
              rw [HZ.out] at DB ⊢
              clear hz
              go_wp2_with fail
              go_ret
              exact ⟨rfl, DB.out.b⟩
            · have HZ := Lib.hid (show adP (one3 p') 3 2147483647 (tgP kyL 3 2147483647) = (0, one3 2147483647) by rw [adP_one, if_neg hz])
              rw [HZ.out] at DB ⊢
              clear hz
              go_wp2_with fail
              go_ret
              exact ⟨rfl, DB.out.b⟩
        · have hoth2 : other.length ≠ 32 ∨ other = kyL := by
            rcases Classical.em (other.length = 32) with h | h
            · exact .inr (Classical.not_not.1 fun hn => hoth ⟨h, hn⟩)
            · exact .inl h
          clear hoth
          rcases hoth2 with h | h
          · have d1 : ((ob.size : Int) == 32) = false := beq_eq_false_iff_ne.mpr (by rw [HOB.out]; omega)
            clear h
            go_wp2_with fail
            refine (pull_any kyL 2147483647 w12 kyL_length (by decide) D13.out.k D13.out.ks).mono ?_
            rintro e wa ⟨ma, rfl, hPa, ba⟩
            have PA := Lib.hid hPa
            have DA := Lib.hid (D13.out.below ba)
            clear hPa ba D13
            go_wp2_with fail
            refine (admitP_any g _ v gs _ 3 2147483647 _ ma wa DA.out.g PA.out (tgP_length _ _ _) (by decide) (by decide) DA.out.k DA.out.ks (one_key _)).mono ?_
            rintro e wb ⟨rfl, Gb, Ab⟩
            have DB := Lib.hid (DA.out.ad Gb Ab HK.out HKS.out)
            clear Gb Ab PA DA
            rcases Classical.em ((2147483647 : Int) ≤ p') with hz | hz
            · have HZ := Lib.hid (show adP (one3 p') 3 2147483647 (tgP kyL 3 2147483647) = (170, one3 p') by rw [adP_one, if_pos hz])
              rw [HZ.out] at DB ⊢
              clear hz
              go_wp2_with fail
              go_ret
              exact ⟨rfl, DB.out.b⟩
            · have HZ := Lib.hid (show adP (one3 p') 3 2147483647 (tgP kyL 3 2147483647) = (0, one3 2147483647) by rw [adP_one, if_neg hz])
              rw [HZ.out] at DB ⊢
              clear hz
              go_wp2_with fail
              go_ret
              exact ⟨rfl, DB.out.b⟩
          · have d1 : ((ob.size : Int) == 32) = true := by rw [HOB.out, h, kyL_length]; rfl
            have hne : (ob.toList == [116, 104, 105, 114, 116, 121, 45, 116, 119, 111, 32, 98, 121, 116, 101, 115, 32, 97, 114, 101, 32, 106, 117, 115, 116, 32, 97, 32, 107, 101, 121, 46]) = true := beq_iff_eq.mpr (by rw [← OB.out, h, ByteArray.toList_eq]; rfl)
            clear h
            go_wp2_with fail
            refine (pull_any kyL 2147483647 w12 kyL_length (by decide) D13.out.k D13.out.ks).mono ?_
            rintro e wa ⟨ma, rfl, hPa, ba⟩
            have PA := Lib.hid hPa
            have DA := Lib.hid (D13.out.below ba)
            clear hPa ba D13
            go_wp2_with fail
            refine (admitP_any g _ v gs _ 3 2147483647 _ ma wa DA.out.g PA.out (tgP_length _ _ _) (by decide) (by decide) DA.out.k DA.out.ks (one_key _)).mono ?_
            rintro e wb ⟨rfl, Gb, Ab⟩
            have DB := Lib.hid (DA.out.ad Gb Ab HK.out HKS.out)
            clear Gb Ab PA DA
            rcases Classical.em ((2147483647 : Int) ≤ p') with hz | hz
            · have HZ := Lib.hid (show adP (one3 p') 3 2147483647 (tgP kyL 3 2147483647) = (170, one3 p') by rw [adP_one, if_pos hz])
              rw [HZ.out] at DB ⊢
              clear hz
              go_wp2_with fail
              go_ret
              exact ⟨rfl, DB.out.b⟩
            · have HZ := Lib.hid (show adP (one3 p') 3 2147483647 (tgP kyL 3 2147483647) = (0, one3 2147483647) by rw [adP_one, if_neg hz])
              rw [HZ.out] at DB ⊢
              clear hz
              go_wp2_with fail
              go_ret
              exact ⟨rfl, DB.out.b⟩
      · have hz1 : (z == 0) = false := beq_eq_false_iff_ne.mpr hz0
        clear HZ1 hz0
        refine start_ (n := 11) (S := fun W => W.cell? ⟨bm, 4, none⟩ = some (.string tb)) (ds := []) #[false, false, false, false, false, false, false, false, false, false, false] (by kernel_rfl) rfl rfl S16 (fun hHeld => ?_)
        refine with_tabW gx16.tab gx16.bits (fun HT_ HW_ => ?_)
        refine pure_ (i := 0) (N := some 76) (v := ?_) (a' := ?_) #[true, false, false, false, false, false, false, false, false, false, false] rfl rfl (any_of HT_.out (by kernel_rfl)) (fun _ _ _ h => h) (Or.inl ⟨by rfl, ?_⟩) ?_ ?_
        rotate_left
        · intro w'
          go_simp
          try with_reducible rfl
        rotate_left
        · simp only [Act.put, List.setIfInBounds_toArray, List.set_cons_zero, List.set_cons_succ]
          rfl
        refine pure_ (i := 1) (N := some 77) (v := ?_) (a' := ?_) #[true, true, false, false, false, false, false, false, false, false, false] rfl rfl (any_of HT_.out (by kernel_rfl)) (fun _ _ _ h => h) (Or.inl ⟨by rfl, ?_⟩) ?_ ?_
        rotate_left
        · intro w'
          go_simp
          try with_reducible rfl
        rotate_left
        · simp only [Act.put, List.setIfInBounds_toArray, List.set_cons_zero, List.set_cons_succ]
          rfl
        (try simp only [hz1])
        refine pure_ (i := 2) (N := some 78) (v := ?_) (a' := ?_) #[true, true, true, false, false, false, false, false, false, false, false] rfl rfl (any_of HT_.out (by kernel_rfl)) (fun _ _ _ h => h) (Or.inl ⟨by rfl, ?_⟩) ?_ ?_
        rotate_left
        · intro w'
          go_simp
          try with_reducible rfl
        rotate_left
        · simp only [Act.put, List.setIfInBounds_toArray, List.set_cons_zero, List.set_cons_succ]
          rfl
        refine pure_ (i := 3) (N := some 79) (v := undef) (a' := ?_) #[true, true, true, true, false, false, false, false, false, false, false] rfl rfl (any_of HT_.out (by kernel_rfl)) (fun _ _ _ h => h) (Or.inr ⟨by rfl, rfl⟩) ?_ ?_
        rotate_left
        · simp only [Act.put, List.setIfInBounds_toArray, List.set_cons_zero, List.set_cons_succ]
          rfl
        refine pure_ (i := 4) (N := some 80) (v := undef) (a' := ?_) #[true, true, true, true, true, false, false, false, false, false, false] rfl rfl (any_of HT_.out (by kernel_rfl)) (fun _ _ _ h => h) (Or.inr ⟨by rfl, rfl⟩) ?_ ?_
        rotate_left
        · simp only [Act.put, List.setIfInBounds_toArray, List.set_cons_zero, List.set_cons_succ]
          rfl
        refine pure_ (i := 7) (N := some 83) (v := undef) (a' := ?_) #[true, true, true, true, true, false, false, true, false, false, false] rfl rfl (any_of HT_.out (by kernel_rfl)) (fun _ _ _ h => h) (Or.inr ⟨by rfl, rfl⟩) ?_ ?_
        rotate_left
        · simp only [Act.put, List.setIfInBounds_toArray, List.set_cons_zero, List.set_cons_succ]
          rfl
        refine take_ (i := 8) (N := some 84) (v := undef) (a' := ?_) #[true, true, true, true, true, false, false, true, true, false, false] rfl rfl (take_ofW HT_.out HW_.out (by kernel_rfl)) (fun _ _ _ h => h) (Or.inr ⟨by rfl, rfl⟩) hHeld ?_ ?_
        rotate_left
        · simp only [Act.put, List.setIfInBounds_toArray, List.set_cons_zero, List.set_cons_succ]
          rfl
        refine one_ (i := 5) (N := some 81) #[true, true, true, true, true, true, false, true, true, false, false] rfl rfl (one_of HT_.out (by kernel_rfl)) (by decide) (fun K hK => ?_)
        refine Eq.mpr (if_neg (Bool.eq_false_iff.mp (by rfl))) ?_
        refine hK.out _ _ (by assumption) (fun hHeld => ?_)
        clear hK K
        refine norm_ (a' := ?_) ?_ ?_
        rotate_left
        · show Act.put _ (some 81) _ = _
          simp only [Act.put, List.setIfInBounds_toArray, List.set_cons_zero, List.set_cons_succ]
          rfl
        refine one_ (i := 6) (N := some 82) #[true, true, true, true, true, true, true, true, true, false, false] rfl rfl (one_of HT_.out (by kernel_rfl)) (by decide) (fun K hK => ?_)
        refine Eq.mpr (if_neg (Bool.eq_false_iff.mp (by rfl))) ?_
        refine hK.out _ _ (by assumption) (fun hHeld => ?_)
        clear hK K
        refine norm_ (a' := ?_) ?_ ?_
        rotate_left
        · show Act.put _ (some 82) _ = _
          simp only [Act.put, List.setIfInBounds_toArray, List.set_cons_zero, List.set_cons_succ]
          rfl
        refine pure_ (i := 9) (N := some 85) (v := undef) (a' := ?_) #[true, true, true, true, true, true, true, true, true, true, false] rfl rfl (any_of HT_.out (by kernel_rfl)) (fun _ _ _ h => h) (Or.inr ⟨by rfl, rfl⟩) ?_ ?_
        rotate_left
        · simp only [Act.put, List.setIfInBounds_toArray, List.set_cons_zero, List.set_cons_succ]
          rfl
        refine pure_ (i := 10) (N := some 86) (v := ?_) (a' := ?_) #[true, true, true, true, true, true, true, true, true, true, true] rfl rfl (any_of HT_.out (by kernel_rfl)) (fun _ _ _ h => h) (Or.inl ⟨by rfl, ?_⟩) ?_ ?_
        rotate_left
        · intro w'
          go_simp
          try with_reducible rfl
        rotate_left
        · simp only [Act.put, List.setIfInBounds_toArray, List.set_cons_zero, List.set_cons_succ]
          rfl
        refine done_ (done_of HT_.out (by kernel_rfl)) ?_
        clear HT_ HW_
        clear D11 M11 O11 S16
        by_cases hoth : other.length = 32 ∧ other ≠ kyL
        · have d1 : ((ob.size : Int) == 32) = true := by rw [HOB.out, hoth.1]; rfl
          have HOT := Lib.hid hoth
          clear hoth
          have HPL := Lib.hid (fun W => pull_any other 9 W HOT.out.1 (by decide))
          rw [OB.out] at HPL
          have hne : (ob.toList == [116, 104, 105, 114, 116, 121, 45, 116, 119, 111, 32, 98, 121, 116, 101, 115, 32, 97, 114, 101, 32, 106, 117, 115, 116, 32, 97, 32, 107, 101, 121, 46]) = false := beq_eq_false_iff_ne.mpr (fun h => HOT.out.2 (by rw [← OB.out, ByteArray.toList_eq] at h; exact h))
          go_wp2_with fail
          refine (HPL.out w11.drew D12.out.k D12.out.ks).mono ?_
          rintro e wo ⟨mo, rfl, hPo, bo'⟩
          obtain ⟨G5, i5, G6, i6, em, h5, h6⟩ := hPo
          obtain ⟨To, HTO⟩ : ∃ T, Hid ((⟨(tgP other 3 9).toArray⟩ : ByteArray) = T) := ⟨_, Lib.hid rfl⟩
          rw [HTO.out] at em
          subst em
          have DO := Lib.hid (D12.out.below bo')
          have O5 := Lib.hid h5
          have O6 := Lib.hid h6
          clear bo' h5 h6 D12 HPL hne
          go_upto_region 20 with fail
          obtain ⟨bo, HBO⟩ : ∃ b, Hid (wo.heap.size = b) := ⟨_, Lib.hid rfl⟩
          refine gworld (fun W => Hid (GW w W g v gs (one3 p')) ∧ Hid (Blk W bo 25 #[.int .i64 2, .int .i64 3, .int .i64 9, .string ⟨#[]⟩, .string To, .slice G5 ([] : List S68).length i5, .slice G6 ([] : List ByteArray).length i6])) ⟨Lib.hid (DO.out.below ((Below.refl _ _).alloc (Nat.le_refl _) _)), Lib.hid (by rw [← HBO.out]; exact Blk.new _ _ _)⟩ ?_
          clear DO
          rintro wp ⟨DP, BP⟩
          rw [HBO.out]
          have HPM := Lib.hid (show ∀ W, Pm W (.agg #[.int .i64 2, .int .i64 3, .int .i64 9, .string ⟨#[]⟩, .string To, .slice G5 ([] : List S68).length i5, .slice G6 ([] : List ByteArray).length i6]) 3 9 (tgP other 3 9) from fun W => ⟨G5, i5, G6, i6, by rw [HTO.out], O5.out.empty, O6.out.empty⟩)
          have DQ := Lib.hid (DP.out.below (below_drewN (Below.refl _ _) 1))
          have ML := Lib.hid (show ∀ W, Blk W bo 25 #[.int .i64 2, .int .i64 3, .int .i64 9, .string ⟨#[]⟩, .string To, .slice G5 ([] : List S68).length i5, .slice G6 ([] : List ByteArray).length i6] → W.cell? ⟨bo, 0, none⟩ = some (.int .i64 2) ∧ W.cell? ⟨bo, 1, none⟩ = some (.int .i64 3) ∧ W.cell? ⟨bo, 2, none⟩ = some (.int .i64 9) ∧ W.cell? ⟨bo, 3, none⟩ = some (.string ⟨#[]⟩) ∧ W.cell? ⟨bo, 4, none⟩ = some (.string To) ∧ W.cell? ⟨bo, 5, none⟩ = some (.slice G5 ([] : List S68).length i5) ∧ W.cell? ⟨bo, 6, none⟩ = some (.slice G6 ([] : List ByteArray).length i6) from fun W h => ⟨h.cell 0, h.cell 1, h.cell 2, h.cell 3, h.cell 4, h.cell 5, h.cell 6⟩)
          have S0 := ML.out wp.drew BP.out.drew
          obtain ⟨⟨z, l'⟩, hz⟩ : ∃ pr, adP (one3 p') 3 9 (tgP other 3 9) = pr := ⟨_, rfl⟩
          have HZZ := Lib.hid (show (z = 0 ∧ tgP kyL 3 9 = tgP other 3 9 ∧ ∃ p', l' = one3 p') ∨ (z ≠ 0 ∧ ∃ p', l' = one3 p') by
            have hf : fN (one3 p') 3 = some 0 := by simp [fN, one3]
            rw [adP_some hf (s := ⟨3, kyL, p'⟩) rfl] at hz
            split at hz
            · simp only [Prod.mk.injEq] at hz
              exact .inr ⟨by rw [← hz.1]; decide, _, hz.2.symm⟩
            · rename_i ht
              split at hz
              · simp only [Prod.mk.injEq] at hz
                exact .inr ⟨by rw [← hz.1]; decide, _, hz.2.symm⟩
              · simp only [Prod.mk.injEq] at hz
                exact .inl ⟨hz.1.symm, Classical.not_not.1 ht, 9, hz.2.symm⟩)
          have HCA := Lib.hid (show Calls Tryd.prog 17 #[.pointer (some ⟨g, 0, none⟩), .agg #[.int .i64 2, .int .i64 3, .int .i64 9, .string ⟨#[]⟩, .string To, .slice G5 ([] : List S68).length i5, .slice G6 ([] : List ByteArray).length i6]] wp.drew fun e W' => e = .returned (.int .i64 z) ∧ GW w W' g v gs l' ∧ Ad1 wp.drew W' gs from
            (admitP_any g _ v gs _ 3 9 _ _ wp.drew DQ.out.g (HPM.out wp.drew) (tgP_length _ _ _) (by decide) (by decide) DQ.out.k DQ.out.ks (one_key _)).mono (fun e W' ⟨he, hg, ha⟩ => by rw [hz] at he hg; exact ⟨he, DQ.out.ad hg ha HK.out HKS.out, ha⟩))
          clear hz HPM
          rcases HZZ.out with ⟨rfl, ht, p', rfl⟩ | ⟨hz0, p', rfl⟩
          · have HPK := Lib.hid (fun W => pull_any kyL 9 W kyL_length (by decide))
            have HTT := Lib.hid (show (⟨(tgP kyL 3 9).toArray⟩ : ByteArray) = To by rw [ht, HTO.out])
            clear ht HZZ
            refine start_ (n := 11) (S := fun W => W.cell? ⟨bo, 0, none⟩ = some (.int .i64 2) ∧ W.cell? ⟨bo, 1, none⟩ = some (.int .i64 3) ∧ W.cell? ⟨bo, 2, none⟩ = some (.int .i64 9) ∧ W.cell? ⟨bo, 3, none⟩ = some (.string ⟨#[]⟩) ∧ W.cell? ⟨bo, 4, none⟩ = some (.string To) ∧ W.cell? ⟨bo, 5, none⟩ = some (.slice G5 ([] : List S68).length i5) ∧ W.cell? ⟨bo, 6, none⟩ = some (.slice G6 ([] : List ByteArray).length i6)) (ds := []) #[false, false, false, false, false, false, false, false, false, false, false] (by kernel_rfl) rfl rfl S0 (fun hHeld => ?_)
            refine with_tabW gx20.tab gx20.bits (fun HT_ HW_ => ?_)
            refine pure_ (i := 0) (N := some 96) (v := ?_) (a' := ?_) #[true, false, false, false, false, false, false, false, false, false, false] rfl rfl (any_of HT_.out (by kernel_rfl)) (fun _ _ _ h => h) (Or.inl ⟨by rfl, ?_⟩) ?_ ?_
            rotate_left
            · intro w'
              go_simp
              try with_reducible rfl
            rotate_left
            · simp only [Act.put, List.setIfInBounds_toArray, List.set_cons_zero, List.set_cons_succ]
              rfl
            refine take_ (i := 1) (N := some 97) (v := ?_) (a' := ?_) #[true, true, false, false, false, false, false, false, false, false, false] rfl rfl (take_ofW HT_.out HW_.out (by kernel_rfl)) (fun _ _ _ h => h) (Or.inl ⟨by rfl, ?_⟩) hHeld ?_ ?_
            rotate_left
            · rintro w' ⟨s0, s1, s2, s3, s4, s5, s6⟩
              go_simp
              try with_reducible rfl
            rotate_left
            · simp only [Act.put, List.setIfInBounds_toArray, List.set_cons_zero, List.set_cons_succ]
              rfl
            refine one_ (i := 2) (N := some 98) #[true, true, true, false, false, false, false, false, false, false, false] rfl rfl (one_of HT_.out (by kernel_rfl)) (by decide) (fun K hK => ?_)
            refine goes_ Tryd.func17 (by kernel_rfl) rfl #[.pointer (some ⟨g, 0, none⟩), .agg #[.int .i64 2, .int .i64 3, .int .i64 9, .string ⟨#[]⟩, .string To, .slice G5 ([] : List S68).length i5, .slice G6 ([] : List ByteArray).length i6]] (by rfl) rfl rfl (by first | done | rfl | (simp only [List.map_toArray, List.map_cons, List.map_nil]; done) | (simp only [List.map_toArray, List.map_cons, List.map_nil]; rfl)) ?_
            refine (HCA.out).mono ?_
            rintro e' w7 ⟨rfl, D7', A7⟩
            refine ⟨_, rfl, ?_⟩
            refine hK.out _ _ (ML.out _ (A7.blk (fun x hx => (DQ.out.g.typed x hx).2) BP.out.drew (by decide))) (fun hHeld => ?_)
            clear hK K
            refine norm_ (a' := ?_) ?_ ?_
            rotate_left
            · show Act.put _ (some 98) _ = _
              simp only [Act.put, List.setIfInBounds_toArray, List.set_cons_zero, List.set_cons_succ]
              rfl
            refine pure_ (i := 3) (N := some 99) (v := ?_) (a' := ?_) #[true, true, true, true, false, false, false, false, false, false, false] rfl rfl (any_of HT_.out (by kernel_rfl)) (fun _ _ _ h => h) (Or.inl ⟨by rfl, ?_⟩) ?_ ?_
            rotate_left
            · intro w'
              go_simp
              try with_reducible rfl
            rotate_left
            · simp only [Act.put, List.setIfInBounds_toArray, List.set_cons_zero, List.set_cons_succ]
              rfl
            refine pure_ (i := 4) (N := some 100) (v := ?_) (a' := ?_) #[true, true, true, true, true, false, false, false, false, false, false] rfl rfl (any_of HT_.out (by kernel_rfl)) (fun _ _ _ h => h) (Or.inl ⟨by rfl, ?_⟩) ?_ ?_
            rotate_left
            · intro w'
              go_simp
              try with_reducible rfl
            rotate_left
            · simp only [Act.put, List.setIfInBounds_toArray, List.set_cons_zero, List.set_cons_succ]
              rfl
            refine pure_ (i := 7) (N := some 103) (v := ?_) (a' := ?_) #[true, true, true, true, true, false, false, true, false, false, false] rfl rfl (any_of HT_.out (by kernel_rfl)) (fun _ _ _ h => h) (Or.inl ⟨by rfl, ?_⟩) ?_ ?_
            rotate_left
            · intro w'
              go_simp
              try with_reducible rfl
            rotate_left
            · simp only [Act.put, List.setIfInBounds_toArray, List.set_cons_zero, List.set_cons_succ]
              rfl
            refine take_ (i := 8) (N := some 104) (v := ?_) (a' := ?_) #[true, true, true, true, true, false, false, true, true, false, false] rfl rfl (take_ofW HT_.out HW_.out (by kernel_rfl)) (fun _ _ _ h => h) (Or.inl ⟨by rfl, ?_⟩) hHeld ?_ ?_
            rotate_left
            · rintro w' ⟨s0, s1, s2, s3, s4, s5, s6⟩
              go_simp
              try with_reducible rfl
            rotate_left
            · simp only [Act.put, List.setIfInBounds_toArray, List.set_cons_zero, List.set_cons_succ]
              rfl
            refine one_ (i := 5) (N := some 101) #[true, true, true, true, true, true, false, true, true, false, false] rfl rfl (one_of HT_.out (by kernel_rfl)) (by decide) (fun K hK => ?_)
            refine goes_ Tryd.func22 (by kernel_rfl) rfl #[.string ⟨kyL.toArray⟩, .int .i64 9] (by rfl) rfl rfl (by first | done | rfl | (simp only [List.map_toArray, List.map_cons, List.map_nil]; done) | (simp only [List.map_toArray, List.map_cons, List.map_nil]; rfl)) ?_
            refine (HPK.out w7 D7'.k D7'.ks).mono ?_
            rintro e' w8 ⟨mk, rfl, ⟨K5, j5, K6, j6, emk, _, _⟩, b8⟩
            refine ⟨_, rfl, ?_⟩
            refine hK.out _ _ (ML.out _ ((A7.blk (fun x hx => (DQ.out.g.typed x hx).2) BP.out.drew (by decide)).below b8 (A7.blk (fun x hx => (DQ.out.g.typed x hx).2) BP.out.drew (by decide)).lt)) (fun hHeld => ?_)
            clear hK K
            refine norm_ (a' := ?_) ?_ ?_
            rotate_left
            · show Act.put _ (some 101) _ = _
              simp only [Act.put, List.setIfInBounds_toArray, List.set_cons_zero, List.set_cons_succ]
              rfl
            (subst emk; try simp only [HTT.out]); have hfld : ∀ W : World, (Instr.field 25 (.agg #[.int .i64 2, .int .i64 3, .int .i64 9, .string ⟨#[]⟩, .string To, .slice K5 0 j5, .slice K6 0 j6]) 4).run Tryd.prog W = .ok (.string To) W := fun W => by kernel_rfl
            refine pure_ (i := 6) (N := some 102) (v := ?_) (a' := ?_) #[true, true, true, true, true, true, true, true, true, false, false] rfl rfl (any_of HT_.out (by kernel_rfl)) (fun _ _ _ h => h) (Or.inl ⟨by rfl, ?_⟩) ?_ ?_
            rotate_left
            · intro w'
              go_simp
              try with_reducible rfl
            rotate_left
            · simp only [Act.put, List.setIfInBounds_toArray, List.set_cons_zero, List.set_cons_succ]
              rfl
            refine pure_ (i := 9) (N := some 105) (v := ?_) (a' := ?_) #[true, true, true, true, true, true, true, true, true, true, false] rfl rfl (any_of HT_.out (by kernel_rfl)) (fun _ _ _ h => h) (Or.inl ⟨by rfl, ?_⟩) ?_ ?_
            rotate_left
            · intro w'
              go_simp
              try with_reducible rfl
            rotate_left
            · simp only [Act.put, List.setIfInBounds_toArray, List.set_cons_zero, List.set_cons_succ]
              rfl
            refine pure_ (i := 10) (N := some 106) (v := ?_) (a' := ?_) #[true, true, true, true, true, true, true, true, true, true, true] rfl rfl (any_of HT_.out (by kernel_rfl)) (fun _ _ _ h => h) (Or.inl ⟨by rfl, ?_⟩) ?_ ?_
            rotate_left
            · intro w'
              go_simp
              try with_reducible rfl
            rotate_left
            · simp only [Act.put, List.setIfInBounds_toArray, List.set_cons_zero, List.set_cons_succ]
              rfl
            refine done_ (done_of HT_.out (by kernel_rfl)) ?_
            clear HT_ HW_
            have D9 := Lib.hid (D7'.below b8)
            clear D7' b8 A7 S0 ML DQ HCA hHeld DP BP HPK
            try simp only [bne_self_eq_false]
            go_wp2_with fail
            refine (pull_any kyL 2147483647 w8 kyL_length (by decide) D9.out.k D9.out.ks).mono ?_
            rintro e wa ⟨ma, rfl, hPa, ba⟩
            have PA := Lib.hid hPa
            have DA := Lib.hid (D9.out.below ba)
            clear hPa ba D9
            go_wp2_with fail
            refine (admitP_any g _ v gs _ 3 2147483647 _ ma wa DA.out.g PA.out (tgP_length _ _ _) (by decide) (by decide) DA.out.k DA.out.ks (one_key _)).mono ?_
            rintro e wb ⟨rfl, Gb, Ab⟩
            have DB := Lib.hid (DA.out.ad Gb Ab HK.out HKS.out)
            clear Gb Ab PA DA
            rcases Classical.em ((2147483647 : Int) ≤ p') with hz | hz
            · have HZ := Lib.hid (show adP (one3 p') 3 2147483647 (tgP kyL 3 2147483647) = (170, one3 p') by rw [adP_one, if_pos hz])
              rw [HZ.out] at DB ⊢
              clear hz
              go_wp2_with fail
              go_ret
              exact ⟨rfl, DB.out.b⟩
            · have HZ := Lib.hid (show adP (one3 p') 3 2147483647 (tgP kyL 3 2147483647) = (0, one3 2147483647) by rw [adP_one, if_neg hz])
              rw [HZ.out] at DB ⊢
              clear hz
              go_wp2_with fail
              go_ret
              exact ⟨rfl, DB.out.b⟩
          · have hz1 : (z == 0) = false := beq_eq_false_iff_ne.mpr hz0
            clear HZZ hz0
            refine start_ (n := 11) (S := fun W => W.cell? ⟨bo, 0, none⟩ = some (.int .i64 2) ∧ W.cell? ⟨bo, 1, none⟩ = some (.int .i64 3) ∧ W.cell? ⟨bo, 2, none⟩ = some (.int .i64 9) ∧ W.cell? ⟨bo, 3, none⟩ = some (.string ⟨#[]⟩) ∧ W.cell? ⟨bo, 4, none⟩ = some (.string To) ∧ W.cell? ⟨bo, 5, none⟩ = some (.slice G5 ([] : List S68).length i5) ∧ W.cell? ⟨bo, 6, none⟩ = some (.slice G6 ([] : List ByteArray).length i6)) (ds := []) #[false, false, false, false, false, false, false, false, false, false, false] (by kernel_rfl) rfl rfl S0 (fun hHeld => ?_)
            refine with_tabW gx20.tab gx20.bits (fun HT_ HW_ => ?_)
            refine pure_ (i := 0) (N := some 96) (v := ?_) (a' := ?_) #[true, false, false, false, false, false, false, false, false, false, false] rfl rfl (any_of HT_.out (by kernel_rfl)) (fun _ _ _ h => h) (Or.inl ⟨by rfl, ?_⟩) ?_ ?_
            rotate_left
            · intro w'
              go_simp
              try with_reducible rfl
            rotate_left
            · simp only [Act.put, List.setIfInBounds_toArray, List.set_cons_zero, List.set_cons_succ]
              rfl
            refine take_ (i := 1) (N := some 97) (v := ?_) (a' := ?_) #[true, true, false, false, false, false, false, false, false, false, false] rfl rfl (take_ofW HT_.out HW_.out (by kernel_rfl)) (fun _ _ _ h => h) (Or.inl ⟨by rfl, ?_⟩) hHeld ?_ ?_
            rotate_left
            · rintro w' ⟨s0, s1, s2, s3, s4, s5, s6⟩
              go_simp
              try with_reducible rfl
            rotate_left
            · simp only [Act.put, List.setIfInBounds_toArray, List.set_cons_zero, List.set_cons_succ]
              rfl
            refine one_ (i := 2) (N := some 98) #[true, true, true, false, false, false, false, false, false, false, false] rfl rfl (one_of HT_.out (by kernel_rfl)) (by decide) (fun K hK => ?_)
            refine goes_ Tryd.func17 (by kernel_rfl) rfl #[.pointer (some ⟨g, 0, none⟩), .agg #[.int .i64 2, .int .i64 3, .int .i64 9, .string ⟨#[]⟩, .string To, .slice G5 ([] : List S68).length i5, .slice G6 ([] : List ByteArray).length i6]] (by rfl) rfl rfl (by first | done | rfl | (simp only [List.map_toArray, List.map_cons, List.map_nil]; done) | (simp only [List.map_toArray, List.map_cons, List.map_nil]; rfl)) ?_
            refine (HCA.out).mono ?_
            rintro e' w7 ⟨rfl, D7', A7⟩
            refine ⟨_, rfl, ?_⟩
            refine hK.out _ _ (ML.out _ (A7.blk (fun x hx => (DQ.out.g.typed x hx).2) BP.out.drew (by decide))) (fun hHeld => ?_)
            clear hK K
            refine norm_ (a' := ?_) ?_ ?_
            rotate_left
            · show Act.put _ (some 98) _ = _
              simp only [Act.put, List.setIfInBounds_toArray, List.set_cons_zero, List.set_cons_succ]
              rfl
            refine pure_ (i := 3) (N := some 99) (v := ?_) (a' := ?_) #[true, true, true, true, false, false, false, false, false, false, false] rfl rfl (any_of HT_.out (by kernel_rfl)) (fun _ _ _ h => h) (Or.inl ⟨by rfl, ?_⟩) ?_ ?_
            rotate_left
            · intro w'
              go_simp
              try with_reducible rfl
            rotate_left
            · simp only [Act.put, List.setIfInBounds_toArray, List.set_cons_zero, List.set_cons_succ]
              rfl
            (try simp only [hz1])
            refine pure_ (i := 4) (N := some 100) (v := ?_) (a' := ?_) #[true, true, true, true, true, false, false, false, false, false, false] rfl rfl (any_of HT_.out (by kernel_rfl)) (fun _ _ _ h => h) (Or.inl ⟨by rfl, ?_⟩) ?_ ?_
            rotate_left
            · intro w'
              go_simp
              try with_reducible rfl
            rotate_left
            · simp only [Act.put, List.setIfInBounds_toArray, List.set_cons_zero, List.set_cons_succ]
              rfl
            refine pure_ (i := 7) (N := some 103) (v := undef) (a' := ?_) #[true, true, true, true, true, false, false, true, false, false, false] rfl rfl (any_of HT_.out (by kernel_rfl)) (fun _ _ _ h => h) (Or.inr ⟨by rfl, rfl⟩) ?_ ?_
            rotate_left
            · simp only [Act.put, List.setIfInBounds_toArray, List.set_cons_zero, List.set_cons_succ]
              rfl
            refine take_ (i := 8) (N := some 104) (v := undef) (a' := ?_) #[true, true, true, true, true, false, false, true, true, false, false] rfl rfl (take_ofW HT_.out HW_.out (by kernel_rfl)) (fun _ _ _ h => h) (Or.inr ⟨by rfl, rfl⟩) hHeld ?_ ?_
            rotate_left
            · simp only [Act.put, List.setIfInBounds_toArray, List.set_cons_zero, List.set_cons_succ]
              rfl
            refine one_ (i := 5) (N := some 101) #[true, true, true, true, true, true, false, true, true, false, false] rfl rfl (one_of HT_.out (by kernel_rfl)) (by decide) (fun K hK => ?_)
            refine Eq.mpr (if_neg (Bool.eq_false_iff.mp (by rfl))) ?_
            refine hK.out _ _ (by assumption) (fun hHeld => ?_)
            clear hK K
            refine norm_ (a' := ?_) ?_ ?_
            rotate_left
            · show Act.put _ (some 101) _ = _
              simp only [Act.put, List.setIfInBounds_toArray, List.set_cons_zero, List.set_cons_succ]
              rfl
            refine pure_ (i := 6) (N := some 102) (v := undef) (a' := ?_) #[true, true, true, true, true, true, true, true, true, false, false] rfl rfl (any_of HT_.out (by kernel_rfl)) (fun _ _ _ h => h) (Or.inr ⟨by rfl, rfl⟩) ?_ ?_
            rotate_left
            · simp only [Act.put, List.setIfInBounds_toArray, List.set_cons_zero, List.set_cons_succ]
              rfl
            refine pure_ (i := 9) (N := some 105) (v := undef) (a' := ?_) #[true, true, true, true, true, true, true, true, true, true, false] rfl rfl (any_of HT_.out (by kernel_rfl)) (fun _ _ _ h => h) (Or.inr ⟨by rfl, rfl⟩) ?_ ?_
            rotate_left
            · simp only [Act.put, List.setIfInBounds_toArray, List.set_cons_zero, List.set_cons_succ]
              rfl
            refine pure_ (i := 10) (N := some 106) (v := ?_) (a' := ?_) #[true, true, true, true, true, true, true, true, true, true, true] rfl rfl (any_of HT_.out (by kernel_rfl)) (fun _ _ _ h => h) (Or.inl ⟨by rfl, ?_⟩) ?_ ?_
            rotate_left
            · intro w'
              go_simp
              try with_reducible rfl
            rotate_left
            · simp only [Act.put, List.setIfInBounds_toArray, List.set_cons_zero, List.set_cons_succ]
              rfl
            refine done_ (done_of HT_.out (by kernel_rfl)) ?_
            clear HT_ HW_
            have D9 := Lib.hid D7'
            clear D7' A7 S0 ML DQ HCA hHeld DP BP
            go_wp2_with fail
            refine (pull_any kyL 2147483647 w7 kyL_length (by decide) D9.out.k D9.out.ks).mono ?_
            rintro e wa ⟨ma, rfl, hPa, ba⟩
            have PA := Lib.hid hPa
            have DA := Lib.hid (D9.out.below ba)
            clear hPa ba D9
            go_wp2_with fail
            refine (admitP_any g _ v gs _ 3 2147483647 _ ma wa DA.out.g PA.out (tgP_length _ _ _) (by decide) (by decide) DA.out.k DA.out.ks (one_key _)).mono ?_
            rintro e wb ⟨rfl, Gb, Ab⟩
            have DB := Lib.hid (DA.out.ad Gb Ab HK.out HKS.out)
            clear Gb Ab PA DA
            rcases Classical.em ((2147483647 : Int) ≤ p') with hz | hz
            · have HZ := Lib.hid (show adP (one3 p') 3 2147483647 (tgP kyL 3 2147483647) = (170, one3 p') by rw [adP_one, if_pos hz])
              rw [HZ.out] at DB ⊢
              clear hz
              go_wp2_with fail
              go_ret
              exact ⟨rfl, DB.out.b⟩
            · have HZ := Lib.hid (show adP (one3 p') 3 2147483647 (tgP kyL 3 2147483647) = (0, one3 2147483647) by rw [adP_one, if_neg hz])
              rw [HZ.out] at DB ⊢
              clear hz
              go_wp2_with fail
              go_ret
              exact ⟨rfl, DB.out.b⟩
        · have hoth2 : other.length ≠ 32 ∨ other = kyL := by
            rcases Classical.em (other.length = 32) with h | h
            · exact .inr (Classical.not_not.1 fun hn => hoth ⟨h, hn⟩)
            · exact .inl h
          clear hoth
          rcases hoth2 with h | h
          · have d1 : ((ob.size : Int) == 32) = false := beq_eq_false_iff_ne.mpr (by rw [HOB.out]; omega)
            clear h
            go_wp2_with fail
            refine (pull_any kyL 2147483647 w11.drew kyL_length (by decide) D12.out.k D12.out.ks).mono ?_
            rintro e wa ⟨ma, rfl, hPa, ba⟩
            have PA := Lib.hid hPa
            have DA := Lib.hid (D12.out.below ba)
            clear hPa ba D12
            go_wp2_with fail
            refine (admitP_any g _ v gs _ 3 2147483647 _ ma wa DA.out.g PA.out (tgP_length _ _ _) (by decide) (by decide) DA.out.k DA.out.ks (one_key _)).mono ?_
            rintro e wb ⟨rfl, Gb, Ab⟩
            have DB := Lib.hid (DA.out.ad Gb Ab HK.out HKS.out)
            clear Gb Ab PA DA
            rcases Classical.em ((2147483647 : Int) ≤ p') with hz | hz
            · have HZ := Lib.hid (show adP (one3 p') 3 2147483647 (tgP kyL 3 2147483647) = (170, one3 p') by rw [adP_one, if_pos hz])
              rw [HZ.out] at DB ⊢
              clear hz
              go_wp2_with fail
              go_ret
              exact ⟨rfl, DB.out.b⟩
            · have HZ := Lib.hid (show adP (one3 p') 3 2147483647 (tgP kyL 3 2147483647) = (0, one3 2147483647) by rw [adP_one, if_neg hz])
              rw [HZ.out] at DB ⊢
              clear hz
              go_wp2_with fail
              go_ret
              exact ⟨rfl, DB.out.b⟩
          · have d1 : ((ob.size : Int) == 32) = true := by rw [HOB.out, h, kyL_length]; rfl
            have hne : (ob.toList == [116, 104, 105, 114, 116, 121, 45, 116, 119, 111, 32, 98, 121, 116, 101, 115, 32, 97, 114, 101, 32, 106, 117, 115, 116, 32, 97, 32, 107, 101, 121, 46]) = true := beq_iff_eq.mpr (by rw [← OB.out, h, ByteArray.toList_eq]; rfl)
            clear h
            go_wp2_with fail
            refine (pull_any kyL 2147483647 w11.drew kyL_length (by decide) D12.out.k D12.out.ks).mono ?_
            rintro e wa ⟨ma, rfl, hPa, ba⟩
            have PA := Lib.hid hPa
            have DA := Lib.hid (D12.out.below ba)
            clear hPa ba D12
            go_wp2_with fail
            refine (admitP_any g _ v gs _ 3 2147483647 _ ma wa DA.out.g PA.out (tgP_length _ _ _) (by decide) (by decide) DA.out.k DA.out.ks (one_key _)).mono ?_
            rintro e wb ⟨rfl, Gb, Ab⟩
            have DB := Lib.hid (DA.out.ad Gb Ab HK.out HKS.out)
            clear Gb Ab PA DA
            rcases Classical.em ((2147483647 : Int) ≤ p') with hz | hz
            · have HZ := Lib.hid (show adP (one3 p') 3 2147483647 (tgP kyL 3 2147483647) = (170, one3 p') by rw [adP_one, if_pos hz])
              rw [HZ.out] at DB ⊢
              clear hz
              go_wp2_with fail
              go_ret
              exact ⟨rfl, DB.out.b⟩
            · have HZ := Lib.hid (show adP (one3 p') 3 2147483647 (tgP kyL 3 2147483647) = (0, one3 2147483647) by rw [adP_one, if_neg hz])
              rw [HZ.out] at DB ⊢
              clear hz
              go_wp2_with fail
              go_ret
              exact ⟨rfl, DB.out.b⟩
  · have d0 : (n8 b == 0) = false := beq_eq_false_iff_ne.mpr (fun h => hb0 (hbz.mp h))
    clear hbz
    have hxor : bits .xor .u8 (n8 y) (n8 b) = n8 (y ^^^ b) := n8_xor y b
    go_upto_region 11 with fail
    obtain ⟨sT, HST⟩ : ∃ l, Hid (txt7.set i (y ^^^ b) = l) := ⟨_, Lib.hid rfl⟩
    have hsTl : sT.length = 38 := by rw [← HST.out, List.length_set, txt7_length]
    refine gworld (fun W => Hid (GW w W g v gs (one3 0)) ∧ Hid (Cb W gb sT)) ⟨?_, ?_⟩ ?_
    · exact Lib.hid (D4.out.below (HB5.out.setCell (by rw [← HGB.out]; exact Nat.le_refl _) _))
    · exact Lib.hid (by rw [← HST.out]; exact C5.out.set_ i (by rw [txt7_length]; exact hi) _)
    clear hcv HB5 C5 D4 hix hcy hfy e1 hxor HST hy hi
    rintro w6 ⟨D6, C6⟩
    have hcs : (convert 61 9 (.slice (some ⟨gb, 0, none⟩) 38 cap)).run Tryd.prog w6 = .ok (.string (tx sT)) w6 := by
      have := C6.out.string (P := Tryd.prog) 61 9 5 cap Tryd.underlying61 Tryd.underlying5 Tryd.underlying9
      rw [hsTl] at this
      exact this
    rcases turned_dec sT hsTl with ⟨kd, hkd⟩ | ⟨kd, u, q, tg, hkd, hu, hq, htl, hbl⟩
    · have HKD := Lib.hid hkd
      clear hkd
      go_wp2_with fail
      refine (mail_Decode.calls kd _ _ _ _ _ _ _ _ _ w6 HKD.out).mono ?_
      rintro e w7 ⟨v5, v6, rfl, r5, r6, b7⟩
      obtain ⟨E5, f5, e5, p5⟩ := R_cq r5 (by decide)
      obtain ⟨E6, f6, e6, p6⟩ := R_cq r6 (by decide)
      subst e5
      subst e6
      have D7 := Lib.hid (D6.out.below b7)
      clear r5 r6 p5 p6 b7 D6 C6 hcs
      go_upto_region 12 with fail
      refine gworld (fun W => Hid (GW w W g v gs (one3 0))) (Lib.hid (D7.out.below ((Below.refl _ _).alloc (Nat.le_refl _) _))) ?_
      clear D7
      intro w8 D8
      by_cases hoth : other.length = 32 ∧ other ≠ kyL
      · have d1 : ((ob.size : Int) == 32) = true := by rw [HOB.out, hoth.1]; rfl
        have HOT := Lib.hid hoth
        clear hoth
        have HPL := Lib.hid (fun W => pull_any other 9 W HOT.out.1 (by decide))
        rw [OB.out] at HPL
        have hne : (ob.toList == [116, 104, 105, 114, 116, 121, 45, 116, 119, 111, 32, 98, 121, 116, 101, 115, 32, 97, 114, 101, 32, 106, 117, 115, 116, 32, 97, 32, 107, 101, 121, 46]) = false := beq_eq_false_iff_ne.mpr (fun h => HOT.out.2 (by rw [← OB.out, ByteArray.toList_eq] at h; exact h))
        go_wp2_with fail
        refine (HPL.out w8 D8.out.k D8.out.ks).mono ?_
        rintro e wo ⟨mo, rfl, hPo, bo'⟩
        obtain ⟨G5, i5, G6, i6, em, h5, h6⟩ := hPo
        obtain ⟨To, HTO⟩ : ∃ T, Hid ((⟨(tgP other 3 9).toArray⟩ : ByteArray) = T) := ⟨_, Lib.hid rfl⟩
        rw [HTO.out] at em
        subst em
        have DO := Lib.hid (D8.out.below bo')
        have O5 := Lib.hid h5
        have O6 := Lib.hid h6
        clear bo' h5 h6 D8 HPL hne
        go_upto_region 20 with fail
        obtain ⟨bo, HBO⟩ : ∃ b, Hid (wo.heap.size = b) := ⟨_, Lib.hid rfl⟩
        refine gworld (fun W => Hid (GW w W g v gs (one3 0)) ∧ Hid (Blk W bo 25 #[.int .i64 2, .int .i64 3, .int .i64 9, .string ⟨#[]⟩, .string To, .slice G5 ([] : List S68).length i5, .slice G6 ([] : List ByteArray).length i6])) ⟨Lib.hid (DO.out.below ((Below.refl _ _).alloc (Nat.le_refl _) _)), Lib.hid (by rw [← HBO.out]; exact Blk.new _ _ _)⟩ ?_
        clear DO
        rintro wp ⟨DP, BP⟩
        rw [HBO.out]
        have HPM := Lib.hid (show ∀ W, Pm W (.agg #[.int .i64 2, .int .i64 3, .int .i64 9, .string ⟨#[]⟩, .string To, .slice G5 ([] : List S68).length i5, .slice G6 ([] : List ByteArray).length i6]) 3 9 (tgP other 3 9) from fun W => ⟨G5, i5, G6, i6, by rw [HTO.out], O5.out.empty, O6.out.empty⟩)
        have DQ := Lib.hid (DP.out.below (below_drewN (Below.refl _ _) 1))
        have ML := Lib.hid (show ∀ W, Blk W bo 25 #[.int .i64 2, .int .i64 3, .int .i64 9, .string ⟨#[]⟩, .string To, .slice G5 ([] : List S68).length i5, .slice G6 ([] : List ByteArray).length i6] → W.cell? ⟨bo, 0, none⟩ = some (.int .i64 2) ∧ W.cell? ⟨bo, 1, none⟩ = some (.int .i64 3) ∧ W.cell? ⟨bo, 2, none⟩ = some (.int .i64 9) ∧ W.cell? ⟨bo, 3, none⟩ = some (.string ⟨#[]⟩) ∧ W.cell? ⟨bo, 4, none⟩ = some (.string To) ∧ W.cell? ⟨bo, 5, none⟩ = some (.slice G5 ([] : List S68).length i5) ∧ W.cell? ⟨bo, 6, none⟩ = some (.slice G6 ([] : List ByteArray).length i6) from fun W h => ⟨h.cell 0, h.cell 1, h.cell 2, h.cell 3, h.cell 4, h.cell 5, h.cell 6⟩)
        have S0 := ML.out wp.drew BP.out.drew
        obtain ⟨⟨z, l'⟩, hz⟩ : ∃ pr, adP (one3 0) 3 9 (tgP other 3 9) = pr := ⟨_, rfl⟩
        have HZZ := Lib.hid (show (z = 0 ∧ tgP kyL 3 9 = tgP other 3 9 ∧ ∃ p', l' = one3 p') ∨ (z ≠ 0 ∧ ∃ p', l' = one3 p') by
          have hf : fN (one3 0) 3 = some 0 := by simp [fN, one3]
          rw [adP_some hf (s := ⟨3, kyL, 0⟩) rfl] at hz
          split at hz
          · simp only [Prod.mk.injEq] at hz
            exact .inr ⟨by rw [← hz.1]; decide, _, hz.2.symm⟩
          · rename_i ht
            split at hz
            · simp only [Prod.mk.injEq] at hz
              exact .inr ⟨by rw [← hz.1]; decide, _, hz.2.symm⟩
            · simp only [Prod.mk.injEq] at hz
              exact .inl ⟨hz.1.symm, Classical.not_not.1 ht, 9, hz.2.symm⟩)
        have HCA := Lib.hid (show Calls Tryd.prog 17 #[.pointer (some ⟨g, 0, none⟩), .agg #[.int .i64 2, .int .i64 3, .int .i64 9, .string ⟨#[]⟩, .string To, .slice G5 ([] : List S68).length i5, .slice G6 ([] : List ByteArray).length i6]] wp.drew fun e W' => e = .returned (.int .i64 z) ∧ GW w W' g v gs l' ∧ Ad1 wp.drew W' gs from
          (admitP_any g _ v gs _ 3 9 _ _ wp.drew DQ.out.g (HPM.out wp.drew) (tgP_length _ _ _) (by decide) (by decide) DQ.out.k DQ.out.ks (one_key _)).mono (fun e W' ⟨he, hg, ha⟩ => by rw [hz] at he hg; exact ⟨he, DQ.out.ad hg ha HK.out HKS.out, ha⟩))
        clear hz HPM
        rcases HZZ.out with ⟨rfl, ht, p', rfl⟩ | ⟨hz0, p', rfl⟩
        · have HPK := Lib.hid (fun W => pull_any kyL 9 W kyL_length (by decide))
          have HTT := Lib.hid (show (⟨(tgP kyL 3 9).toArray⟩ : ByteArray) = To by rw [ht, HTO.out])
          clear ht HZZ
          refine start_ (n := 11) (S := fun W => W.cell? ⟨bo, 0, none⟩ = some (.int .i64 2) ∧ W.cell? ⟨bo, 1, none⟩ = some (.int .i64 3) ∧ W.cell? ⟨bo, 2, none⟩ = some (.int .i64 9) ∧ W.cell? ⟨bo, 3, none⟩ = some (.string ⟨#[]⟩) ∧ W.cell? ⟨bo, 4, none⟩ = some (.string To) ∧ W.cell? ⟨bo, 5, none⟩ = some (.slice G5 ([] : List S68).length i5) ∧ W.cell? ⟨bo, 6, none⟩ = some (.slice G6 ([] : List ByteArray).length i6)) (ds := []) #[false, false, false, false, false, false, false, false, false, false, false] (by kernel_rfl) rfl rfl S0 (fun hHeld => ?_)
          refine with_tabW gx20.tab gx20.bits (fun HT_ HW_ => ?_)
          refine pure_ (i := 0) (N := some 96) (v := ?_) (a' := ?_) #[true, false, false, false, false, false, false, false, false, false, false] rfl rfl (any_of HT_.out (by kernel_rfl)) (fun _ _ _ h => h) (Or.inl ⟨by rfl, ?_⟩) ?_ ?_
          rotate_left
          · intro w'
            go_simp
            try with_reducible rfl
          rotate_left
          · simp only [Act.put, List.setIfInBounds_toArray, List.set_cons_zero, List.set_cons_succ]
            rfl
          refine take_ (i := 1) (N := some 97) (v := ?_) (a' := ?_) #[true, true, false, false, false, false, false, false, false, false, false] rfl rfl (take_ofW HT_.out HW_.out (by kernel_rfl)) (fun _ _ _ h => h) (Or.inl ⟨by rfl, ?_⟩) hHeld ?_ ?_
          rotate_left
          · rintro w' ⟨s0, s1, s2, s3, s4, s5, s6⟩
            go_simp
            try with_reducible rfl
          rotate_left
          · simp only [Act.put, List.setIfInBounds_toArray, List.set_cons_zero, List.set_cons_succ]
            rfl
          refine one_ (i := 2) (N := some 98) #[true, true, true, false, false, false, false, false, false, false, false] rfl rfl (one_of HT_.out (by kernel_rfl)) (by decide) (fun K hK => ?_)
          refine goes_ Tryd.func17 (by kernel_rfl) rfl #[.pointer (some ⟨g, 0, none⟩), .agg #[.int .i64 2, .int .i64 3, .int .i64 9, .string ⟨#[]⟩, .string To, .slice G5 ([] : List S68).length i5, .slice G6 ([] : List ByteArray).length i6]] (by rfl) rfl rfl (by first | done | rfl | (simp only [List.map_toArray, List.map_cons, List.map_nil]; done) | (simp only [List.map_toArray, List.map_cons, List.map_nil]; rfl)) ?_
          refine (HCA.out).mono ?_
          rintro e' w7 ⟨rfl, D7', A7⟩
          refine ⟨_, rfl, ?_⟩
          refine hK.out _ _ (ML.out _ (A7.blk (fun x hx => (DQ.out.g.typed x hx).2) BP.out.drew (by decide))) (fun hHeld => ?_)
          clear hK K
          refine norm_ (a' := ?_) ?_ ?_
          rotate_left
          · show Act.put _ (some 98) _ = _
            simp only [Act.put, List.setIfInBounds_toArray, List.set_cons_zero, List.set_cons_succ]
            rfl
          refine pure_ (i := 3) (N := some 99) (v := ?_) (a' := ?_) #[true, true, true, true, false, false, false, false, false, false, false] rfl rfl (any_of HT_.out (by kernel_rfl)) (fun _ _ _ h => h) (Or.inl ⟨by rfl, ?_⟩) ?_ ?_
          rotate_left
          · intro w'
            go_simp
            try with_reducible rfl
          rotate_left
          · simp only [Act.put, List.setIfInBounds_toArray, List.set_cons_zero, List.set_cons_succ]
            rfl
          refine pure_ (i := 4) (N := some 100) (v := ?_) (a' := ?_) #[true, true, true, true, true, false, false, false, false, false, false] rfl rfl (any_of HT_.out (by kernel_rfl)) (fun _ _ _ h => h) (Or.inl ⟨by rfl, ?_⟩) ?_ ?_
          rotate_left
          · intro w'
            go_simp
            try with_reducible rfl
          rotate_left
          · simp only [Act.put, List.setIfInBounds_toArray, List.set_cons_zero, List.set_cons_succ]
            rfl
          refine pure_ (i := 7) (N := some 103) (v := ?_) (a' := ?_) #[true, true, true, true, true, false, false, true, false, false, false] rfl rfl (any_of HT_.out (by kernel_rfl)) (fun _ _ _ h => h) (Or.inl ⟨by rfl, ?_⟩) ?_ ?_
          rotate_left
          · intro w'
            go_simp
            try with_reducible rfl
          rotate_left
          · simp only [Act.put, List.setIfInBounds_toArray, List.set_cons_zero, List.set_cons_succ]
            rfl
          refine take_ (i := 8) (N := some 104) (v := ?_) (a' := ?_) #[true, true, true, true, true, false, false, true, true, false, false] rfl rfl (take_ofW HT_.out HW_.out (by kernel_rfl)) (fun _ _ _ h => h) (Or.inl ⟨by rfl, ?_⟩) hHeld ?_ ?_
          rotate_left
          · rintro w' ⟨s0, s1, s2, s3, s4, s5, s6⟩
            go_simp
            try with_reducible rfl
          rotate_left
          · simp only [Act.put, List.setIfInBounds_toArray, List.set_cons_zero, List.set_cons_succ]
            rfl
          refine one_ (i := 5) (N := some 101) #[true, true, true, true, true, true, false, true, true, false, false] rfl rfl (one_of HT_.out (by kernel_rfl)) (by decide) (fun K hK => ?_)
          refine goes_ Tryd.func22 (by kernel_rfl) rfl #[.string ⟨kyL.toArray⟩, .int .i64 9] (by rfl) rfl rfl (by first | done | rfl | (simp only [List.map_toArray, List.map_cons, List.map_nil]; done) | (simp only [List.map_toArray, List.map_cons, List.map_nil]; rfl)) ?_
          refine (HPK.out w7 D7'.k D7'.ks).mono ?_
          rintro e' w8 ⟨mk, rfl, ⟨K5, j5, K6, j6, emk, _, _⟩, b8⟩
          refine ⟨_, rfl, ?_⟩
          refine hK.out _ _ (ML.out _ ((A7.blk (fun x hx => (DQ.out.g.typed x hx).2) BP.out.drew (by decide)).below b8 (A7.blk (fun x hx => (DQ.out.g.typed x hx).2) BP.out.drew (by decide)).lt)) (fun hHeld => ?_)
          clear hK K
          refine norm_ (a' := ?_) ?_ ?_
          rotate_left
          · show Act.put _ (some 101) _ = _
            simp only [Act.put, List.setIfInBounds_toArray, List.set_cons_zero, List.set_cons_succ]
            rfl
          (subst emk; try simp only [HTT.out]); have hfld : ∀ W : World, (Instr.field 25 (.agg #[.int .i64 2, .int .i64 3, .int .i64 9, .string ⟨#[]⟩, .string To, .slice K5 0 j5, .slice K6 0 j6]) 4).run Tryd.prog W = .ok (.string To) W := fun W => by kernel_rfl
          refine pure_ (i := 6) (N := some 102) (v := ?_) (a' := ?_) #[true, true, true, true, true, true, true, true, true, false, false] rfl rfl (any_of HT_.out (by kernel_rfl)) (fun _ _ _ h => h) (Or.inl ⟨by rfl, ?_⟩) ?_ ?_
          rotate_left
          · intro w'
            go_simp
            try with_reducible rfl
          rotate_left
          · simp only [Act.put, List.setIfInBounds_toArray, List.set_cons_zero, List.set_cons_succ]
            rfl
          refine pure_ (i := 9) (N := some 105) (v := ?_) (a' := ?_) #[true, true, true, true, true, true, true, true, true, true, false] rfl rfl (any_of HT_.out (by kernel_rfl)) (fun _ _ _ h => h) (Or.inl ⟨by rfl, ?_⟩) ?_ ?_
          rotate_left
          · intro w'
            go_simp
            try with_reducible rfl
          rotate_left
          · simp only [Act.put, List.setIfInBounds_toArray, List.set_cons_zero, List.set_cons_succ]
            rfl
          refine pure_ (i := 10) (N := some 106) (v := ?_) (a' := ?_) #[true, true, true, true, true, true, true, true, true, true, true] rfl rfl (any_of HT_.out (by kernel_rfl)) (fun _ _ _ h => h) (Or.inl ⟨by rfl, ?_⟩) ?_ ?_
          rotate_left
          · intro w'
            go_simp
            try with_reducible rfl
          rotate_left
          · simp only [Act.put, List.setIfInBounds_toArray, List.set_cons_zero, List.set_cons_succ]
            rfl
          refine done_ (done_of HT_.out (by kernel_rfl)) ?_
          clear HT_ HW_
          have D9 := Lib.hid (D7'.below b8)
          clear D7' b8 A7 S0 ML DQ HCA hHeld DP BP HPK
          try simp only [bne_self_eq_false]
          go_wp2_with fail
          refine (pull_any kyL 2147483647 w8 kyL_length (by decide) D9.out.k D9.out.ks).mono ?_
          rintro e wa ⟨ma, rfl, hPa, ba⟩
          have PA := Lib.hid hPa
          have DA := Lib.hid (D9.out.below ba)
          clear hPa ba D9
          go_wp2_with fail
          refine (admitP_any g _ v gs _ 3 2147483647 _ ma wa DA.out.g PA.out (tgP_length _ _ _) (by decide) (by decide) DA.out.k DA.out.ks (one_key _)).mono ?_
          rintro e wb ⟨rfl, Gb, Ab⟩
          have DB := Lib.hid (DA.out.ad Gb Ab HK.out HKS.out)
          clear Gb Ab PA DA
          rcases Classical.em ((2147483647 : Int) ≤ p') with hz | hz
          · have HZ := Lib.hid (show adP (one3 p') 3 2147483647 (tgP kyL 3 2147483647) = (170, one3 p') by rw [adP_one, if_pos hz])
            rw [HZ.out] at DB ⊢
            clear hz
            go_wp2_with fail
            go_ret
            exact ⟨rfl, DB.out.b⟩
          · have HZ := Lib.hid (show adP (one3 p') 3 2147483647 (tgP kyL 3 2147483647) = (0, one3 2147483647) by rw [adP_one, if_neg hz])
            rw [HZ.out] at DB ⊢
            clear hz
            go_wp2_with fail
            go_ret
            exact ⟨rfl, DB.out.b⟩
        · have hz1 : (z == 0) = false := beq_eq_false_iff_ne.mpr hz0
          clear HZZ hz0
          refine start_ (n := 11) (S := fun W => W.cell? ⟨bo, 0, none⟩ = some (.int .i64 2) ∧ W.cell? ⟨bo, 1, none⟩ = some (.int .i64 3) ∧ W.cell? ⟨bo, 2, none⟩ = some (.int .i64 9) ∧ W.cell? ⟨bo, 3, none⟩ = some (.string ⟨#[]⟩) ∧ W.cell? ⟨bo, 4, none⟩ = some (.string To) ∧ W.cell? ⟨bo, 5, none⟩ = some (.slice G5 ([] : List S68).length i5) ∧ W.cell? ⟨bo, 6, none⟩ = some (.slice G6 ([] : List ByteArray).length i6)) (ds := []) #[false, false, false, false, false, false, false, false, false, false, false] (by kernel_rfl) rfl rfl S0 (fun hHeld => ?_)
          refine with_tabW gx20.tab gx20.bits (fun HT_ HW_ => ?_)
          refine pure_ (i := 0) (N := some 96) (v := ?_) (a' := ?_) #[true, false, false, false, false, false, false, false, false, false, false] rfl rfl (any_of HT_.out (by kernel_rfl)) (fun _ _ _ h => h) (Or.inl ⟨by rfl, ?_⟩) ?_ ?_
          rotate_left
          · intro w'
            go_simp
            try with_reducible rfl
          rotate_left
          · simp only [Act.put, List.setIfInBounds_toArray, List.set_cons_zero, List.set_cons_succ]
            rfl
          refine take_ (i := 1) (N := some 97) (v := ?_) (a' := ?_) #[true, true, false, false, false, false, false, false, false, false, false] rfl rfl (take_ofW HT_.out HW_.out (by kernel_rfl)) (fun _ _ _ h => h) (Or.inl ⟨by rfl, ?_⟩) hHeld ?_ ?_
          rotate_left
          · rintro w' ⟨s0, s1, s2, s3, s4, s5, s6⟩
            go_simp
            try with_reducible rfl
          rotate_left
          · simp only [Act.put, List.setIfInBounds_toArray, List.set_cons_zero, List.set_cons_succ]
            rfl
          refine one_ (i := 2) (N := some 98) #[true, true, true, false, false, false, false, false, false, false, false] rfl rfl (one_of HT_.out (by kernel_rfl)) (by decide) (fun K hK => ?_)
          refine goes_ Tryd.func17 (by kernel_rfl) rfl #[.pointer (some ⟨g, 0, none⟩), .agg #[.int .i64 2, .int .i64 3, .int .i64 9, .string ⟨#[]⟩, .string To, .slice G5 ([] : List S68).length i5, .slice G6 ([] : List ByteArray).length i6]] (by rfl) rfl rfl (by first | done | rfl | (simp only [List.map_toArray, List.map_cons, List.map_nil]; done) | (simp only [List.map_toArray, List.map_cons, List.map_nil]; rfl)) ?_
          refine (HCA.out).mono ?_
          rintro e' w7 ⟨rfl, D7', A7⟩
          refine ⟨_, rfl, ?_⟩
          refine hK.out _ _ (ML.out _ (A7.blk (fun x hx => (DQ.out.g.typed x hx).2) BP.out.drew (by decide))) (fun hHeld => ?_)
          clear hK K
          refine norm_ (a' := ?_) ?_ ?_
          rotate_left
          · show Act.put _ (some 98) _ = _
            simp only [Act.put, List.setIfInBounds_toArray, List.set_cons_zero, List.set_cons_succ]
            rfl
          refine pure_ (i := 3) (N := some 99) (v := ?_) (a' := ?_) #[true, true, true, true, false, false, false, false, false, false, false] rfl rfl (any_of HT_.out (by kernel_rfl)) (fun _ _ _ h => h) (Or.inl ⟨by rfl, ?_⟩) ?_ ?_
          rotate_left
          · intro w'
            go_simp
            try with_reducible rfl
          rotate_left
          · simp only [Act.put, List.setIfInBounds_toArray, List.set_cons_zero, List.set_cons_succ]
            rfl
          (try simp only [hz1])
          refine pure_ (i := 4) (N := some 100) (v := ?_) (a' := ?_) #[true, true, true, true, true, false, false, false, false, false, false] rfl rfl (any_of HT_.out (by kernel_rfl)) (fun _ _ _ h => h) (Or.inl ⟨by rfl, ?_⟩) ?_ ?_
          rotate_left
          · intro w'
            go_simp
            try with_reducible rfl
          rotate_left
          · simp only [Act.put, List.setIfInBounds_toArray, List.set_cons_zero, List.set_cons_succ]
            rfl
          refine pure_ (i := 7) (N := some 103) (v := undef) (a' := ?_) #[true, true, true, true, true, false, false, true, false, false, false] rfl rfl (any_of HT_.out (by kernel_rfl)) (fun _ _ _ h => h) (Or.inr ⟨by rfl, rfl⟩) ?_ ?_
          rotate_left
          · simp only [Act.put, List.setIfInBounds_toArray, List.set_cons_zero, List.set_cons_succ]
            rfl
          refine take_ (i := 8) (N := some 104) (v := undef) (a' := ?_) #[true, true, true, true, true, false, false, true, true, false, false] rfl rfl (take_ofW HT_.out HW_.out (by kernel_rfl)) (fun _ _ _ h => h) (Or.inr ⟨by rfl, rfl⟩) hHeld ?_ ?_
          rotate_left
          · simp only [Act.put, List.setIfInBounds_toArray, List.set_cons_zero, List.set_cons_succ]
            rfl
          refine one_ (i := 5) (N := some 101) #[true, true, true, true, true, true, false, true, true, false, false] rfl rfl (one_of HT_.out (by kernel_rfl)) (by decide) (fun K hK => ?_)
          refine Eq.mpr (if_neg (Bool.eq_false_iff.mp (by rfl))) ?_
          refine hK.out _ _ (by assumption) (fun hHeld => ?_)
          clear hK K
          refine norm_ (a' := ?_) ?_ ?_
          rotate_left
          · show Act.put _ (some 101) _ = _
            simp only [Act.put, List.setIfInBounds_toArray, List.set_cons_zero, List.set_cons_succ]
            rfl
          refine pure_ (i := 6) (N := some 102) (v := undef) (a' := ?_) #[true, true, true, true, true, true, true, true, true, false, false] rfl rfl (any_of HT_.out (by kernel_rfl)) (fun _ _ _ h => h) (Or.inr ⟨by rfl, rfl⟩) ?_ ?_
          rotate_left
          · simp only [Act.put, List.setIfInBounds_toArray, List.set_cons_zero, List.set_cons_succ]
            rfl
          refine pure_ (i := 9) (N := some 105) (v := undef) (a' := ?_) #[true, true, true, true, true, true, true, true, true, true, false] rfl rfl (any_of HT_.out (by kernel_rfl)) (fun _ _ _ h => h) (Or.inr ⟨by rfl, rfl⟩) ?_ ?_
          rotate_left
          · simp only [Act.put, List.setIfInBounds_toArray, List.set_cons_zero, List.set_cons_succ]
            rfl
          refine pure_ (i := 10) (N := some 106) (v := ?_) (a' := ?_) #[true, true, true, true, true, true, true, true, true, true, true] rfl rfl (any_of HT_.out (by kernel_rfl)) (fun _ _ _ h => h) (Or.inl ⟨by rfl, ?_⟩) ?_ ?_
          rotate_left
          · intro w'
            go_simp
            try with_reducible rfl
          rotate_left
          · simp only [Act.put, List.setIfInBounds_toArray, List.set_cons_zero, List.set_cons_succ]
            rfl
          refine done_ (done_of HT_.out (by kernel_rfl)) ?_
          clear HT_ HW_
          have D9 := Lib.hid D7'
          clear D7' A7 S0 ML DQ HCA hHeld DP BP
          go_wp2_with fail
          refine (pull_any kyL 2147483647 w7 kyL_length (by decide) D9.out.k D9.out.ks).mono ?_
          rintro e wa ⟨ma, rfl, hPa, ba⟩
          have PA := Lib.hid hPa
          have DA := Lib.hid (D9.out.below ba)
          clear hPa ba D9
          go_wp2_with fail
          refine (admitP_any g _ v gs _ 3 2147483647 _ ma wa DA.out.g PA.out (tgP_length _ _ _) (by decide) (by decide) DA.out.k DA.out.ks (one_key _)).mono ?_
          rintro e wb ⟨rfl, Gb, Ab⟩
          have DB := Lib.hid (DA.out.ad Gb Ab HK.out HKS.out)
          clear Gb Ab PA DA
          rcases Classical.em ((2147483647 : Int) ≤ p') with hz | hz
          · have HZ := Lib.hid (show adP (one3 p') 3 2147483647 (tgP kyL 3 2147483647) = (170, one3 p') by rw [adP_one, if_pos hz])
            rw [HZ.out] at DB ⊢
            clear hz
            go_wp2_with fail
            go_ret
            exact ⟨rfl, DB.out.b⟩
          · have HZ := Lib.hid (show adP (one3 p') 3 2147483647 (tgP kyL 3 2147483647) = (0, one3 2147483647) by rw [adP_one, if_neg hz])
            rw [HZ.out] at DB ⊢
            clear hz
            go_wp2_with fail
            go_ret
            exact ⟨rfl, DB.out.b⟩
      · have hoth2 : other.length ≠ 32 ∨ other = kyL := by
          rcases Classical.em (other.length = 32) with h | h
          · exact .inr (Classical.not_not.1 fun hn => hoth ⟨h, hn⟩)
          · exact .inl h
        clear hoth
        rcases hoth2 with h | h
        · have d1 : ((ob.size : Int) == 32) = false := beq_eq_false_iff_ne.mpr (by rw [HOB.out]; omega)
          clear h
          go_wp2_with fail
          refine (pull_any kyL 2147483647 w8 kyL_length (by decide) D8.out.k D8.out.ks).mono ?_
          rintro e wa ⟨ma, rfl, hPa, ba⟩
          have PA := Lib.hid hPa
          have DA := Lib.hid (D8.out.below ba)
          clear hPa ba D8
          go_wp2_with fail
          refine (admitP_any g _ v gs _ 3 2147483647 _ ma wa DA.out.g PA.out (tgP_length _ _ _) (by decide) (by decide) DA.out.k DA.out.ks (one_key _)).mono ?_
          rintro e wb ⟨rfl, Gb, Ab⟩
          have DB := Lib.hid (DA.out.ad Gb Ab HK.out HKS.out)
          clear Gb Ab PA DA
          rcases Classical.em ((2147483647 : Int) ≤ 0) with hz | hz
          · have HZ := Lib.hid (show adP (one3 0) 3 2147483647 (tgP kyL 3 2147483647) = (170, one3 0) by rw [adP_one, if_pos hz])
            rw [HZ.out] at DB ⊢
            clear hz
            go_wp2_with fail
            go_ret
            exact ⟨rfl, DB.out.b⟩
          · have HZ := Lib.hid (show adP (one3 0) 3 2147483647 (tgP kyL 3 2147483647) = (0, one3 2147483647) by rw [adP_one, if_neg hz])
            rw [HZ.out] at DB ⊢
            clear hz
            go_wp2_with fail
            go_ret
            exact ⟨rfl, DB.out.b⟩
        · have d1 : ((ob.size : Int) == 32) = true := by rw [HOB.out, h, kyL_length]; rfl
          have hne : (ob.toList == [116, 104, 105, 114, 116, 121, 45, 116, 119, 111, 32, 98, 121, 116, 101, 115, 32, 97, 114, 101, 32, 106, 117, 115, 116, 32, 97, 32, 107, 101, 121, 46]) = true := beq_iff_eq.mpr (by rw [← OB.out, h, ByteArray.toList_eq]; rfl)
          clear h
          go_wp2_with fail
          refine (pull_any kyL 2147483647 w8 kyL_length (by decide) D8.out.k D8.out.ks).mono ?_
          rintro e wa ⟨ma, rfl, hPa, ba⟩
          have PA := Lib.hid hPa
          have DA := Lib.hid (D8.out.below ba)
          clear hPa ba D8
          go_wp2_with fail
          refine (admitP_any g _ v gs _ 3 2147483647 _ ma wa DA.out.g PA.out (tgP_length _ _ _) (by decide) (by decide) DA.out.k DA.out.ks (one_key _)).mono ?_
          rintro e wb ⟨rfl, Gb, Ab⟩
          have DB := Lib.hid (DA.out.ad Gb Ab HK.out HKS.out)
          clear Gb Ab PA DA
          rcases Classical.em ((2147483647 : Int) ≤ 0) with hz | hz
          · have HZ := Lib.hid (show adP (one3 0) 3 2147483647 (tgP kyL 3 2147483647) = (170, one3 0) by rw [adP_one, if_pos hz])
            rw [HZ.out] at DB ⊢
            clear hz
            go_wp2_with fail
            go_ret
            exact ⟨rfl, DB.out.b⟩
          · have HZ := Lib.hid (show adP (one3 0) 3 2147483647 (tgP kyL 3 2147483647) = (0, one3 2147483647) by rw [adP_one, if_neg hz])
            rw [HZ.out] at DB ⊢
            clear hz
            go_wp2_with fail
            go_ret
            exact ⟨rfl, DB.out.b⟩
    · have HKD := Lib.hid hkd
      have HU := Lib.hid hu
      have HQ := Lib.hid hq
      have HTL := Lib.hid htl
      have HBL := Lib.hid hbl
      clear hkd hu hq htl hbl
      go_wp2_with fail
      refine (mail_Decode.calls kd _ _ _ _ _ _ _ _ _ w6 HKD.out).mono ?_
      rintro e w7 ⟨v5, v6, rfl, r5, r6, b7⟩
      obtain ⟨E5, f5, e5, p5⟩ := R_cq r5 (by decide)
      obtain ⟨E6, f6, e6, p6⟩ := R_cq r6 (by decide)
      subst e5
      subst e6
      have D7 := Lib.hid (D6.out.below b7)
      have P5 := Lib.hid p5
      have P6 := Lib.hid p6
      have C7 := Lib.hid (show Cb w7 gb sT from ⟨Nat.lt_of_lt_of_le C6.out.1 b7.size, fun j hj => ⟨(b7.cell (p := ⟨gb, j, none⟩) C6.out.1).trans (C6.out.2 j hj).1, (b7.frozen (p := ⟨gb, j, none⟩) C6.out.1).trans (C6.out.2 j hj).2⟩⟩)
      clear r5 r6 p5 p6 b7 D6 C6 hcs
      obtain ⟨tb, HTB⟩ : ∃ t, Hid (tx tg = t) := ⟨_, Lib.hid rfl⟩
      rw [HTB.out]
      go_upto_region 12 with fail
      obtain ⟨bm, HBM⟩ : ∃ b, Hid (w7.heap.size = b) := ⟨_, Lib.hid rfl⟩
      refine gworld (fun W => Hid (Below w7.heap.size w7 W) ∧ Hid (Blk W bm 25 #[.int .i64 2, .int .i64 u, .int .i64 q, .string ⟨#[]⟩, .string tb, .slice E5 ([] : List S68).length f5, .slice E6 ([] : List ByteArray).length f6])) ⟨Lib.hid ((Below.refl _ _).alloc (Nat.le_refl _) _), Lib.hid (by rw [← HBM.out]; exact Blk.new _ _ _)⟩ ?_
      rintro w8 ⟨B8, M8⟩
      rw [HBM.out]
      have D8 := Lib.hid (D7.out.below B8.out)
      have C8 := Lib.hid (show ∀ j, j < 38 → w8.cell? ⟨gb, j, none⟩ = some (.int .u8 (n8 (bd sT j))) from fun j hj => (B8.out.cell (p := ⟨gb, j, none⟩) C7.out.1).trans (C7.out.2 j (by rw [hsTl]; exact hj)).1)
      have hgb8 := Lib.hid (show gb < w8.heap.size from Nat.lt_of_lt_of_le C7.out.1 B8.out.size)
      clear B8 D7 C7
      have hown8 := my_own_lit (B := w8.heap.size) w8 5 [] (Nat.le_refl _) (by decide)
      have hcells : ∀ (j : Nat) (z : Value), (cb (sT.take 6))[j]? = some z → (w8.alloc (.cells ([] : List Value).toArray 5)).cell? ⟨gb, j, none⟩ = some z := fun j z hz => by
        have hj : j < 6 := by have := (List.getElem?_eq_some_iff.1 hz).1; simp [cb] at this; omega
        rw [(((Below.refl w8.heap.size w8).alloc (Nat.le_refl _) (.cells ([] : List Value).toArray 5)).cell (p := ⟨gb, j, none⟩) hgb8.out).trans (C8.out j (by omega)), ← hz]
        simp [cb, bd, List.getElem?_take, hj, List.getElem?_eq_getElem (show j < sT.length by omega)]
      obtain ⟨A9, c9, w9, hrun9, hown9, hgr9⟩ := own_append (ty := 61) elemU8 hown8 gb 6 cap (cb (sT.take 6)) (by simp [cb]; omega) hcells (by intro z hz; obtain ⟨y, _, rfl⟩ := List.mem_map.1 hz; rfl) (by simp) (by simp) (by simp)
      have B9 := Lib.hid (Own.below_grown hown8 ((Below.refl w8.heap.size w8).alloc (Nat.le_refl _) _) (by simp) hgr9)
      have hl6 : (([] : List Value) ++ cb (sT.take 6)).length = 6 := by simp [cb]; omega
      have hown9' : w9.ownsRow w8.heap.size 5 1 (.slice A9 6 c9) 6 (cb (sT.take 6)) := by
        have := hown9
        unfold Own at this
        rw [hl6] at this
        exact this
      obtain ⟨iz, hiz, hzz, hszz, hbyz⟩ := info_parts elemU8.2.1
      have hzl : (Builtin.zeroCells (Value.int .u8 0).cells 32).toList = cb (List.replicate 32 0) := by kernel_rfl
      obtain ⟨v10, w10, hrun10, hown10, hgr10, _⟩ := run_append_zeros (P := Tryd.prog) w9 w8.heap.size 61 3 61 5 iz (.int .u8 0) 1 1 Tryd.underlying61 Tryd.underlying3 hiz hzz hszz hbyz rfl (by decide) (by decide) (.slice A9 6 c9) 6 _ hown9' .i64 32 (by rw [hzl]; intro y hy; obtain ⟨y', _, rfl⟩ := List.mem_map.1 hy; rfl) (by decide) B9.out.size
      have B10 := Lib.hid (show Below w8.heap.size w8 w10 from Own.below_grown (show Own 5 w9 w8.heap.size (.slice A9 6 c9) (cb (sT.take 6)) by unfold Own; rw [show (cb (sT.take 6)).length = 6 by simp [cb]; omega]; exact hown9') B9.out B9.out.size hgr10)
      have hzc : cb (sT.take 6) ++ (Builtin.zeroCells (Value.int .u8 0).cells 32).toList = cb (sP u q) := by
        rw [← HBL.out, cb_append, hzl]
      rw [hzc] at hown10
      have hlS : (cb (sP u q)).length = 38 := by rw [cb_length, sP_length]
      have hO10 : Own 5 w10 w8.heap.size v10 (cb (sP u q)) := by unfold Own; rw [hlS]; exact hown10
      obtain ⟨A10, c10, ev10⟩ := Own.form hO10
      rw [hlS] at ev10
      subst ev10
      have O10 := Lib.hid hO10
      have D10 := Lib.hid (D8.out.below B10.out)
      have M10 := Lib.hid (M8.out.below B10.out M8.out.lt)
      clear hown8 hcells hgr9 hgr10 hown9 hown9' hown10 hO10 B9 B10 hzc D8 M8 C8
      have m0 : w10.cell? ⟨bm, 0, none⟩ = some (.int .i64 2) := M10.out.cell 0
      have m1 : w10.cell? ⟨bm, 1, none⟩ = some (.int .i64 u) := M10.out.cell 1
      have m2 : w10.cell? ⟨bm, 2, none⟩ = some (.int .i64 q) := M10.out.cell 2
      have m3 : w10.cell? ⟨bm, 3, none⟩ = some (.string ⟨#[]⟩) := M10.out.cell 3
      have m4 : w10.cell? ⟨bm, 4, none⟩ = some (.string tb) := M10.out.cell 4
      have m5 : w10.cell? ⟨bm, 5, none⟩ = some (.slice E5 ([] : List S68).length f5) := M10.out.cell 5
      have m6 : w10.cell? ⟨bm, 6, none⟩ = some (.slice E6 ([] : List ByteArray).length f6) := M10.out.cell 6
      go_wp2_with (first
        | ((with_reducible refine gate_builtin (b := .append) (xs := #[.tmp 67, .tmp 69]) rfl ?_); at_builtin; refine wpList_append_run rfl _ _ _ _ rfl rfl rfl hrun9 ?_)
        | ((with_reducible refine gate_builtin (b := .append) (xs := #[.tmp 71, .const (.int .i64 32)]) rfl ?_); at_builtin; refine wpList_append_run rfl _ _ _ _ rfl rfl rfl hrun10 ?_))
      obtain ⟨⟨z, l'⟩, hz⟩ : ∃ pr, adP (one3 0) u q tg = pr := ⟨_, rfl⟩
      refine (admitP_any g _ v gs (one3 0) u q tg _ w10 D10.out.g ⟨E5, f5, E6, f6, by rw [← HTB.out]; rfl, P5.out.empty, P6.out.empty⟩ HTL.out HU.out HQ.out D10.out.k D10.out.ks (one_key _)).mono ?_
      rintro e w11 ⟨rfl, G11, A11⟩
      rw [hz] at G11 ⊢
      have HZ1 := Lib.hid (show (z = 0 ∧ u = 3 ∧ tgP kyL 3 q = tg ∧ ∃ p', l' = one3 p') ∨ (z ≠ 0 ∧ ∃ p', l' = one3 p') by
        by_cases hu3 : u = 3
        · subst hu3
          have hf : fN (one3 0) 3 = some 0 := by simp [fN, one3]
          rw [adP_some hf (s := ⟨3, kyL, 0⟩) rfl] at hz
          split at hz
          · simp only [Prod.mk.injEq] at hz
            exact .inr ⟨by rw [← hz.1]; decide, _, hz.2.symm⟩
          · rename_i ht
            split at hz
            · simp only [Prod.mk.injEq] at hz
              exact .inr ⟨by rw [← hz.1]; decide, _, hz.2.symm⟩
            · simp only [Prod.mk.injEq] at hz
              exact .inl ⟨hz.1.symm, rfl, Classical.not_not.1 ht, q, hz.2.symm⟩
        · have hf : fN (one3 0) u = none := by
            have : ((3 : Int) == u) = false := beq_eq_false_iff_ne.mpr (fun h => hu3 h.symm)
            simp [fN, one3, this]
          unfold adP at hz
          rw [hf] at hz
          simp only [Prod.mk.injEq] at hz
          exact .inr ⟨by rw [← hz.1]; decide, 0, hz.2.symm⟩)
      have D11 := Lib.hid (D10.out.ad G11 A11 HK.out HKS.out)
      have M11 := Lib.hid (A11.blk (fun x hx => (D10.out.g.typed x hx).2) M10.out (by decide))
      have O11 := Lib.hid (A11.own20 (fun x hx => (D10.out.g.typed x hx).2) O10.out (by decide))
      clear G11 A11 D10 M10 O10 hz m0 m1 m2 m3 m4 m5 m6 hrun9 hrun10 P5 P6
      go_upto_region 16 with fail
      have S16 : w11.drew.cell? ⟨bm, 4, none⟩ = some (.string tb) := M11.out.drew.cell 4
      have D12 := Lib.hid (D11.out.below (below_drewN (Below.refl _ _) 1))
      rcases HZ1.out with ⟨rfl, rfl, ht, p', rfl⟩ | ⟨hz0, p', rfl⟩
      · have hcv4 : (convert 61 9 (.slice A10 38 c10)).run Tryd.prog w11.drew = .ok (.string ⟨(sP 3 q).toArray⟩) w11.drew := my_own_string Tryd.underlying61 Tryd.underlying5 Tryd.underlying9 O11.out.drew
        have BA := Lib.hid (show ∀ o, Below w11.drew.heap.size w11.drew (w11.drew.alloc o) from fun o => (Below.refl _ _).alloc (Nat.le_refl _) o)
        have HTG := Lib.hid (show ∀ (W : World) (A : Option Addr), Strs W A 2 [[103, 97, 116, 101], sP 3 q] → KsAt W → 0 < W.heap.size → Calls Tryd.prog 25 #[.string ⟨kyL.toArray⟩, .slice A 2 2] W fun e w' => e = .returned (.string tb) ∧ Below W.heap.size W w' from fun W A hS hk hg => by
          have := tag_any kyL A 2 2 [[103, 97, 116, 101], sP 3 q] W hS (by decide) (by
            intro y hy
            rcases List.mem_cons.1 hy with h | h
            · rw [h]; decide
            · rw [List.mem_singleton.1 h, sP_length]; decide) (by decide) hk hg
          have e : ([[103, 97, 116, 101], sP 3 q] : List (List UInt8)).flatten = gateL ++ sP 3 q := by simp [gateL]
          rw [e, show tagL kyL (gateL ++ sP 3 q) = tg from ht] at this
          have e2 : (⟨tg.toArray⟩ : ByteArray) = tb := HTB.out
          rw [e2] at this
          exact this)
        refine start_ (n := 11) (S := fun W => W.cell? ⟨bm, 4, none⟩ = some (.string tb)) (ds := []) #[false, false, false, false, false, false, false, false, false, false, false] (by kernel_rfl) rfl rfl S16 (fun hHeld => ?_)
        refine with_tabW gx16.tab gx16.bits (fun HT_ HW_ => ?_)
        refine pure_ (i := 0) (N := some 76) (v := ?_) (a' := ?_) #[true, false, false, false, false, false, false, false, false, false, false] rfl rfl (any_of HT_.out (by kernel_rfl)) (fun _ _ _ h => h) (Or.inl ⟨by rfl, ?_⟩) ?_ ?_
        rotate_left
        · intro w'
          go_simp
          try with_reducible rfl
        rotate_left
        · simp only [Act.put, List.setIfInBounds_toArray, List.set_cons_zero, List.set_cons_succ]
          rfl
        refine pure_ (i := 1) (N := some 77) (v := ?_) (a' := ?_) #[true, true, false, false, false, false, false, false, false, false, false] rfl rfl (any_of HT_.out (by kernel_rfl)) (fun _ _ _ h => h) (Or.inl ⟨by rfl, ?_⟩) ?_ ?_
        rotate_left
        · intro w'
          go_simp
          try with_reducible rfl
        rotate_left
        · simp only [Act.put, List.setIfInBounds_toArray, List.set_cons_zero, List.set_cons_succ]
          rfl
        refine pure_ (i := 2) (N := some 78) (v := ?_) (a' := ?_) #[true, true, true, false, false, false, false, false, false, false, false] rfl rfl (any_of HT_.out (by kernel_rfl)) (fun _ _ _ h => h) (Or.inl ⟨by rfl, ?_⟩) ?_ ?_
        rotate_left
        · intro w'
          go_simp
          try with_reducible rfl
        rotate_left
        · simp only [Act.put, List.setIfInBounds_toArray, List.set_cons_zero, List.set_cons_succ]
          rfl
        refine pure_ (i := 3) (N := some 79) (v := ?_) (a' := ?_) #[true, true, true, true, false, false, false, false, false, false, false] rfl rfl (any_of HT_.out (by kernel_rfl)) (fun _ _ _ h => h) (Or.inl ⟨by rfl, ?_⟩) ?_ ?_
        rotate_left
        · intro w'
          go_simp
          try with_reducible rfl
        rotate_left
        · simp only [Act.put, List.setIfInBounds_toArray, List.set_cons_zero, List.set_cons_succ]
          rfl
        refine pure_ (i := 7) (N := some 83) (v := ?_) (a' := ?_) #[true, true, true, true, false, false, false, true, false, false, false] rfl rfl (any_of HT_.out (by kernel_rfl)) (fun _ _ _ h => h) (Or.inl ⟨by rfl, ?_⟩) ?_ ?_
        rotate_left
        · intro w'
          go_simp
          try with_reducible rfl
        rotate_left
        · simp only [Act.put, List.setIfInBounds_toArray, List.set_cons_zero, List.set_cons_succ]
          rfl
        refine take_ (i := 8) (N := some 84) (v := ?_) (a' := ?_) #[true, true, true, true, false, false, false, true, true, false, false] rfl rfl (take_ofW HT_.out HW_.out (by kernel_rfl)) (fun _ _ _ h => h) (Or.inl ⟨by rfl, ?_⟩) hHeld ?_ ?_
        rotate_left
        · rintro w' s0
          go_simp
          try with_reducible rfl
        rotate_left
        · simp only [Act.put, List.setIfInBounds_toArray, List.set_cons_zero, List.set_cons_succ]
          rfl
        refine one_ (i := 4) (N := some 80) #[true, true, true, true, true, false, false, true, true, false, false] rfl rfl (one_of HT_.out (by kernel_rfl)) (by decide) (fun K hK => ?_)
        refine value_ (w1 := w11.drew) (v := .string ⟨(sP 3 q).toArray⟩) (by rfl) rfl (by go_simp) ?_
        refine hK.out _ _ (S16) (fun hHeld => ?_)
        clear hK K
        refine norm_ (a' := ?_) ?_ ?_
        rotate_left
        · show Act.put _ (some 80) _ = _
          simp only [Act.put, List.setIfInBounds_toArray, List.set_cons_zero, List.set_cons_succ]
          rfl
        refine one_ (i := 5) (N := some 81) #[true, true, true, true, true, true, false, true, true, false, false] rfl rfl (one_of HT_.out (by kernel_rfl)) (by decide) (fun K hK => ?_)
        refine value_ (w1 := w11.drew.alloc (.cells #[.string ⟨[103, 97, 116, 101].toArray⟩, .string ⟨(sP 3 q).toArray⟩] 9)) (v := .slice (some ⟨w11.drew.heap.size, 0, none⟩) 2 2) (by rfl) rfl (by go_simp; try rfl) ?_
        refine hK.out _ _ ((M11.out.drew.alloc _).cell 4) (fun hHeld => ?_)
        clear hK K
        refine norm_ (a' := ?_) ?_ ?_
        rotate_left
        · show Act.put _ (some 81) _ = _
          simp only [Act.put, List.setIfInBounds_toArray, List.set_cons_zero, List.set_cons_succ]
          rfl
        refine one_ (i := 6) (N := some 82) #[true, true, true, true, true, true, true, true, true, false, false] rfl rfl (one_of HT_.out (by kernel_rfl)) (by decide) (fun K hK => ?_)
        refine goes_ Tryd.func25 (by kernel_rfl) rfl #[.string ⟨kyL.toArray⟩, .slice (some ⟨w11.drew.heap.size, 0, none⟩) 2 2] (by rfl) rfl rfl (by first | done | rfl | (simp only [List.map_toArray, List.map_cons, List.map_nil]; done) | (simp only [List.map_toArray, List.map_cons, List.map_nil]; rfl)) ?_
        refine (HTG.out _ _ (strs_two w11.drew 9 [103, 97, 116, 101] (sP 3 q)) (D12.out.k.below D12.out.ks (BA.out _)) (Nat.lt_of_lt_of_le D12.out.ks (BA.out _).size)).mono ?_
        rintro e' w12 ⟨rfl, b12⟩
        refine ⟨_, rfl, ?_⟩
        refine hK.out _ _ (((M11.out.drew.alloc _).below b12 (M11.out.drew.alloc _).lt).cell 4) (fun hHeld => ?_)
        clear hK K
        refine norm_ (a' := ?_) ?_ ?_
        rotate_left
        · show Act.put _ (some 82) _ = _
          simp only [Act.put, List.setIfInBounds_toArray, List.set_cons_zero, List.set_cons_succ]
          rfl
        refine pure_ (i := 9) (N := some 85) (v := ?_) (a' := ?_) #[true, true, true, true, true, true, true, true, true, true, false] rfl rfl (any_of HT_.out (by kernel_rfl)) (fun _ _ _ h => h) (Or.inl ⟨by rfl, ?_⟩) ?_ ?_
        rotate_left
        · intro w'
          go_simp
          try with_reducible rfl
        rotate_left
        · simp only [Act.put, List.setIfInBounds_toArray, List.set_cons_zero, List.set_cons_succ]
          rfl
        refine pure_ (i := 10) (N := some 86) (v := ?_) (a' := ?_) #[true, true, true, true, true, true, true, true, true, true, true] rfl rfl (any_of HT_.out (by kernel_rfl)) (fun _ _ _ h => h) (Or.inl ⟨by rfl, ?_⟩) ?_ ?_
        rotate_left
        · intro w'
          go_simp
          try with_reducible rfl
        rotate_left
        · simp only [Act.put, List.setIfInBounds_toArray, List.set_cons_zero, List.set_cons_succ]
          rfl
        refine done_ (done_of HT_.out (by kernel_rfl)) ?_
        clear HT_ HW_
        have D13 := Lib.hid ((D12.out.below (BA.out _)).below b12)
        clear b12 D12 D11 M11 O11 BA HTG S16 hHeld hcv4 HZ1
        try simp only [bne_self_eq_false]
        by_cases hoth : other.length = 32 ∧ other ≠ kyL
        · have d1 : ((ob.size : Int) == 32) = true := by rw [HOB.out, hoth.1]; rfl
          have HOT := Lib.hid hoth
          clear hoth
          have HPL := Lib.hid (fun W => pull_any other 9 W HOT.out.1 (by decide))
          rw [OB.out] at HPL
          have hne : (ob.toList == [116, 104, 105, 114, 116, 121, 45, 116, 119, 111, 32, 98, 121, 116, 101, 115, 32, 97, 114, 101, 32, 106, 117, 115, 116, 32, 97, 32, 107, 101, 121, 46]) = false := beq_eq_false_iff_ne.mpr (fun h => HOT.out.2 (by rw [← OB.out, ByteArray.toList_eq] at h; exact h))
          go_wp2_with fail
          refine (HPL.out w12 D13.out.k D13.out.ks).mono ?_
          rintro e wo ⟨mo, rfl, hPo, bo'⟩
          obtain ⟨G5, i5, G6, i6, em, h5, h6⟩ := hPo
          obtain ⟨To, HTO⟩ : ∃ T, Hid ((⟨(tgP other 3 9).toArray⟩ : ByteArray) = T) := ⟨_, Lib.hid rfl⟩
          rw [HTO.out] at em
          subst em
          have DO := Lib.hid (D13.out.below bo')
          have O5 := Lib.hid h5
          have O6 := Lib.hid h6
          clear bo' h5 h6 D13 HPL hne
          go_upto_region 20 with fail
          obtain ⟨bo, HBO⟩ : ∃ b, Hid (wo.heap.size = b) := ⟨_, Lib.hid rfl⟩
          refine gworld (fun W => Hid (GW w W g v gs (one3 p')) ∧ Hid (Blk W bo 25 #[.int .i64 2, .int .i64 3, .int .i64 9, .string ⟨#[]⟩, .string To, .slice G5 ([] : List S68).length i5, .slice G6 ([] : List ByteArray).length i6])) ⟨Lib.hid (DO.out.below ((Below.refl _ _).alloc (Nat.le_refl _) _)), Lib.hid (by rw [← HBO.out]; exact Blk.new _ _ _)⟩ ?_
          clear DO
          rintro wp ⟨DP, BP⟩
          rw [HBO.out]
          have HPM := Lib.hid (show ∀ W, Pm W (.agg #[.int .i64 2, .int .i64 3, .int .i64 9, .string ⟨#[]⟩, .string To, .slice G5 ([] : List S68).length i5, .slice G6 ([] : List ByteArray).length i6]) 3 9 (tgP other 3 9) from fun W => ⟨G5, i5, G6, i6, by rw [HTO.out], O5.out.empty, O6.out.empty⟩)
          have DQ := Lib.hid (DP.out.below (below_drewN (Below.refl _ _) 1))
          have ML := Lib.hid (show ∀ W, Blk W bo 25 #[.int .i64 2, .int .i64 3, .int .i64 9, .string ⟨#[]⟩, .string To, .slice G5 ([] : List S68).length i5, .slice G6 ([] : List ByteArray).length i6] → W.cell? ⟨bo, 0, none⟩ = some (.int .i64 2) ∧ W.cell? ⟨bo, 1, none⟩ = some (.int .i64 3) ∧ W.cell? ⟨bo, 2, none⟩ = some (.int .i64 9) ∧ W.cell? ⟨bo, 3, none⟩ = some (.string ⟨#[]⟩) ∧ W.cell? ⟨bo, 4, none⟩ = some (.string To) ∧ W.cell? ⟨bo, 5, none⟩ = some (.slice G5 ([] : List S68).length i5) ∧ W.cell? ⟨bo, 6, none⟩ = some (.slice G6 ([] : List ByteArray).length i6) from fun W h => ⟨h.cell 0, h.cell 1, h.cell 2, h.cell 3, h.cell 4, h.cell 5, h.cell 6⟩)
          have S0 := ML.out wp.drew BP.out.drew
          obtain ⟨⟨z, l'⟩, hz⟩ : ∃ pr, adP (one3 p') 3 9 (tgP other 3 9) = pr := ⟨_, rfl⟩
          have HZZ := Lib.hid (show (z = 0 ∧ tgP kyL 3 9 = tgP other 3 9 ∧ ∃ p', l' = one3 p') ∨ (z ≠ 0 ∧ ∃ p', l' = one3 p') by
            have hf : fN (one3 p') 3 = some 0 := by simp [fN, one3]
            rw [adP_some hf (s := ⟨3, kyL, p'⟩) rfl] at hz
            split at hz
            · simp only [Prod.mk.injEq] at hz
              exact .inr ⟨by rw [← hz.1]; decide, _, hz.2.symm⟩
            · rename_i ht
              split at hz
              · simp only [Prod.mk.injEq] at hz
                exact .inr ⟨by rw [← hz.1]; decide, _, hz.2.symm⟩
              · simp only [Prod.mk.injEq] at hz
                exact .inl ⟨hz.1.symm, Classical.not_not.1 ht, 9, hz.2.symm⟩)
          have HCA := Lib.hid (show Calls Tryd.prog 17 #[.pointer (some ⟨g, 0, none⟩), .agg #[.int .i64 2, .int .i64 3, .int .i64 9, .string ⟨#[]⟩, .string To, .slice G5 ([] : List S68).length i5, .slice G6 ([] : List ByteArray).length i6]] wp.drew fun e W' => e = .returned (.int .i64 z) ∧ GW w W' g v gs l' ∧ Ad1 wp.drew W' gs from
            (admitP_any g _ v gs _ 3 9 _ _ wp.drew DQ.out.g (HPM.out wp.drew) (tgP_length _ _ _) (by decide) (by decide) DQ.out.k DQ.out.ks (one_key _)).mono (fun e W' ⟨he, hg, ha⟩ => by rw [hz] at he hg; exact ⟨he, DQ.out.ad hg ha HK.out HKS.out, ha⟩))
          clear hz HPM
          rcases HZZ.out with ⟨rfl, ht, p', rfl⟩ | ⟨hz0, p', rfl⟩
          · have HPK := Lib.hid (fun W => pull_any kyL 9 W kyL_length (by decide))
            have HTT := Lib.hid (show (⟨(tgP kyL 3 9).toArray⟩ : ByteArray) = To by rw [ht, HTO.out])
            clear ht HZZ
            refine start_ (n := 11) (S := fun W => W.cell? ⟨bo, 0, none⟩ = some (.int .i64 2) ∧ W.cell? ⟨bo, 1, none⟩ = some (.int .i64 3) ∧ W.cell? ⟨bo, 2, none⟩ = some (.int .i64 9) ∧ W.cell? ⟨bo, 3, none⟩ = some (.string ⟨#[]⟩) ∧ W.cell? ⟨bo, 4, none⟩ = some (.string To) ∧ W.cell? ⟨bo, 5, none⟩ = some (.slice G5 ([] : List S68).length i5) ∧ W.cell? ⟨bo, 6, none⟩ = some (.slice G6 ([] : List ByteArray).length i6)) (ds := []) #[false, false, false, false, false, false, false, false, false, false, false] (by kernel_rfl) rfl rfl S0 (fun hHeld => ?_)
            refine with_tabW gx20.tab gx20.bits (fun HT_ HW_ => ?_)
            refine pure_ (i := 0) (N := some 96) (v := ?_) (a' := ?_) #[true, false, false, false, false, false, false, false, false, false, false] rfl rfl (any_of HT_.out (by kernel_rfl)) (fun _ _ _ h => h) (Or.inl ⟨by rfl, ?_⟩) ?_ ?_
            rotate_left
            · intro w'
              go_simp
              try with_reducible rfl
            rotate_left
            · simp only [Act.put, List.setIfInBounds_toArray, List.set_cons_zero, List.set_cons_succ]
              rfl
            refine take_ (i := 1) (N := some 97) (v := ?_) (a' := ?_) #[true, true, false, false, false, false, false, false, false, false, false] rfl rfl (take_ofW HT_.out HW_.out (by kernel_rfl)) (fun _ _ _ h => h) (Or.inl ⟨by rfl, ?_⟩) hHeld ?_ ?_
            rotate_left
            · rintro w' ⟨s0, s1, s2, s3, s4, s5, s6⟩
              go_simp
              try with_reducible rfl
            rotate_left
            · simp only [Act.put, List.setIfInBounds_toArray, List.set_cons_zero, List.set_cons_succ]
              rfl
            refine one_ (i := 2) (N := some 98) #[true, true, true, false, false, false, false, false, false, false, false] rfl rfl (one_of HT_.out (by kernel_rfl)) (by decide) (fun K hK => ?_)
            refine goes_ Tryd.func17 (by kernel_rfl) rfl #[.pointer (some ⟨g, 0, none⟩), .agg #[.int .i64 2, .int .i64 3, .int .i64 9, .string ⟨#[]⟩, .string To, .slice G5 ([] : List S68).length i5, .slice G6 ([] : List ByteArray).length i6]] (by rfl) rfl rfl (by first | done | rfl | (simp only [List.map_toArray, List.map_cons, List.map_nil]; done) | (simp only [List.map_toArray, List.map_cons, List.map_nil]; rfl)) ?_
            refine (HCA.out).mono ?_
            rintro e' w7 ⟨rfl, D7', A7⟩
            refine ⟨_, rfl, ?_⟩
            refine hK.out _ _ (ML.out _ (A7.blk (fun x hx => (DQ.out.g.typed x hx).2) BP.out.drew (by decide))) (fun hHeld => ?_)
            clear hK K
            refine norm_ (a' := ?_) ?_ ?_
            rotate_left
            · show Act.put _ (some 98) _ = _
              simp only [Act.put, List.setIfInBounds_toArray, List.set_cons_zero, List.set_cons_succ]
              rfl
            refine pure_ (i := 3) (N := some 99) (v := ?_) (a' := ?_) #[true, true, true, true, false, false, false, false, false, false, false] rfl rfl (any_of HT_.out (by kernel_rfl)) (fun _ _ _ h => h) (Or.inl ⟨by rfl, ?_⟩) ?_ ?_
            rotate_left
            · intro w'
              go_simp
              try with_reducible rfl
            rotate_left
            · simp only [Act.put, List.setIfInBounds_toArray, List.set_cons_zero, List.set_cons_succ]
              rfl
            refine pure_ (i := 4) (N := some 100) (v := ?_) (a' := ?_) #[true, true, true, true, true, false, false, false, false, false, false] rfl rfl (any_of HT_.out (by kernel_rfl)) (fun _ _ _ h => h) (Or.inl ⟨by rfl, ?_⟩) ?_ ?_
            rotate_left
            · intro w'
              go_simp
              try with_reducible rfl
            rotate_left
            · simp only [Act.put, List.setIfInBounds_toArray, List.set_cons_zero, List.set_cons_succ]
              rfl
            refine pure_ (i := 7) (N := some 103) (v := ?_) (a' := ?_) #[true, true, true, true, true, false, false, true, false, false, false] rfl rfl (any_of HT_.out (by kernel_rfl)) (fun _ _ _ h => h) (Or.inl ⟨by rfl, ?_⟩) ?_ ?_
            rotate_left
            · intro w'
              go_simp
              try with_reducible rfl
            rotate_left
            · simp only [Act.put, List.setIfInBounds_toArray, List.set_cons_zero, List.set_cons_succ]
              rfl
            refine take_ (i := 8) (N := some 104) (v := ?_) (a' := ?_) #[true, true, true, true, true, false, false, true, true, false, false] rfl rfl (take_ofW HT_.out HW_.out (by kernel_rfl)) (fun _ _ _ h => h) (Or.inl ⟨by rfl, ?_⟩) hHeld ?_ ?_
            rotate_left
            · rintro w' ⟨s0, s1, s2, s3, s4, s5, s6⟩
              go_simp
              try with_reducible rfl
            rotate_left
            · simp only [Act.put, List.setIfInBounds_toArray, List.set_cons_zero, List.set_cons_succ]
              rfl
            refine one_ (i := 5) (N := some 101) #[true, true, true, true, true, true, false, true, true, false, false] rfl rfl (one_of HT_.out (by kernel_rfl)) (by decide) (fun K hK => ?_)
            refine goes_ Tryd.func22 (by kernel_rfl) rfl #[.string ⟨kyL.toArray⟩, .int .i64 9] (by rfl) rfl rfl (by first | done | rfl | (simp only [List.map_toArray, List.map_cons, List.map_nil]; done) | (simp only [List.map_toArray, List.map_cons, List.map_nil]; rfl)) ?_
            refine (HPK.out w7 D7'.k D7'.ks).mono ?_
            rintro e' w8 ⟨mk, rfl, ⟨K5, j5, K6, j6, emk, _, _⟩, b8⟩
            refine ⟨_, rfl, ?_⟩
            refine hK.out _ _ (ML.out _ ((A7.blk (fun x hx => (DQ.out.g.typed x hx).2) BP.out.drew (by decide)).below b8 (A7.blk (fun x hx => (DQ.out.g.typed x hx).2) BP.out.drew (by decide)).lt)) (fun hHeld => ?_)
            clear hK K
            refine norm_ (a' := ?_) ?_ ?_
            rotate_left
            · show Act.put _ (some 101) _ = _
              simp only [Act.put, List.setIfInBounds_toArray, List.set_cons_zero, List.set_cons_succ]
              rfl
            (subst emk; try simp only [HTT.out]); have hfld : ∀ W : World, (Instr.field 25 (.agg #[.int .i64 2, .int .i64 3, .int .i64 9, .string ⟨#[]⟩, .string To, .slice K5 0 j5, .slice K6 0 j6]) 4).run Tryd.prog W = .ok (.string To) W := fun W => by kernel_rfl
            refine pure_ (i := 6) (N := some 102) (v := ?_) (a' := ?_) #[true, true, true, true, true, true, true, true, true, false, false] rfl rfl (any_of HT_.out (by kernel_rfl)) (fun _ _ _ h => h) (Or.inl ⟨by rfl, ?_⟩) ?_ ?_
            rotate_left
            · intro w'
              go_simp
              try with_reducible rfl
            rotate_left
            · simp only [Act.put, List.setIfInBounds_toArray, List.set_cons_zero, List.set_cons_succ]
              rfl
            refine pure_ (i := 9) (N := some 105) (v := ?_) (a' := ?_) #[true, true, true, true, true, true, true, true, true, true, false] rfl rfl (any_of HT_.out (by kernel_rfl)) (fun _ _ _ h => h) (Or.inl ⟨by rfl, ?_⟩) ?_ ?_
            rotate_left
            · intro w'
              go_simp
              try with_reducible rfl
            rotate_left
            · simp only [Act.put, List.setIfInBounds_toArray, List.set_cons_zero, List.set_cons_succ]
              rfl
            refine pure_ (i := 10) (N := some 106) (v := ?_) (a' := ?_) #[true, true, true, true, true, true, true, true, true, true, true] rfl rfl (any_of HT_.out (by kernel_rfl)) (fun _ _ _ h => h) (Or.inl ⟨by rfl, ?_⟩) ?_ ?_
            rotate_left
            · intro w'
              go_simp
              try with_reducible rfl
            rotate_left
            · simp only [Act.put, List.setIfInBounds_toArray, List.set_cons_zero, List.set_cons_succ]
              rfl
            refine done_ (done_of HT_.out (by kernel_rfl)) ?_
            clear HT_ HW_
            have D9 := Lib.hid (D7'.below b8)
            clear D7' b8 A7 S0 ML DQ HCA hHeld DP BP HPK
            try simp only [bne_self_eq_false]
            go_wp2_with fail
            refine (pull_any kyL 2147483647 w8 kyL_length (by decide) D9.out.k D9.out.ks).mono ?_
            rintro e wa ⟨ma, rfl, hPa, ba⟩
            have PA := Lib.hid hPa
            have DA := Lib.hid (D9.out.below ba)
            clear hPa ba D9
            go_wp2_with fail
            refine (admitP_any g _ v gs _ 3 2147483647 _ ma wa DA.out.g PA.out (tgP_length _ _ _) (by decide) (by decide) DA.out.k DA.out.ks (one_key _)).mono ?_
            rintro e wb ⟨rfl, Gb, Ab⟩
            have DB := Lib.hid (DA.out.ad Gb Ab HK.out HKS.out)
            clear Gb Ab PA DA
            rcases Classical.em ((2147483647 : Int) ≤ p') with hz | hz
            · have HZ := Lib.hid (show adP (one3 p') 3 2147483647 (tgP kyL 3 2147483647) = (170, one3 p') by rw [adP_one, if_pos hz])
              rw [HZ.out] at DB ⊢
              clear hz
              go_wp2_with fail
              go_ret
              exact ⟨rfl, DB.out.b⟩
            · have HZ := Lib.hid (show adP (one3 p') 3 2147483647 (tgP kyL 3 2147483647) = (0, one3 2147483647) by rw [adP_one, if_neg hz])
              rw [HZ.out] at DB ⊢
              clear hz
              go_wp2_with fail
              go_ret
              exact ⟨rfl, DB.out.b⟩
          · have hz1 : (z == 0) = false := beq_eq_false_iff_ne.mpr hz0
            clear HZZ hz0
            refine start_ (n := 11) (S := fun W => W.cell? ⟨bo, 0, none⟩ = some (.int .i64 2) ∧ W.cell? ⟨bo, 1, none⟩ = some (.int .i64 3) ∧ W.cell? ⟨bo, 2, none⟩ = some (.int .i64 9) ∧ W.cell? ⟨bo, 3, none⟩ = some (.string ⟨#[]⟩) ∧ W.cell? ⟨bo, 4, none⟩ = some (.string To) ∧ W.cell? ⟨bo, 5, none⟩ = some (.slice G5 ([] : List S68).length i5) ∧ W.cell? ⟨bo, 6, none⟩ = some (.slice G6 ([] : List ByteArray).length i6)) (ds := []) #[false, false, false, false, false, false, false, false, false, false, false] (by kernel_rfl) rfl rfl S0 (fun hHeld => ?_)
            refine with_tabW gx20.tab gx20.bits (fun HT_ HW_ => ?_)
            refine pure_ (i := 0) (N := some 96) (v := ?_) (a' := ?_) #[true, false, false, false, false, false, false, false, false, false, false] rfl rfl (any_of HT_.out (by kernel_rfl)) (fun _ _ _ h => h) (Or.inl ⟨by rfl, ?_⟩) ?_ ?_
            rotate_left
            · intro w'
              go_simp
              try with_reducible rfl
            rotate_left
            · simp only [Act.put, List.setIfInBounds_toArray, List.set_cons_zero, List.set_cons_succ]
              rfl
            refine take_ (i := 1) (N := some 97) (v := ?_) (a' := ?_) #[true, true, false, false, false, false, false, false, false, false, false] rfl rfl (take_ofW HT_.out HW_.out (by kernel_rfl)) (fun _ _ _ h => h) (Or.inl ⟨by rfl, ?_⟩) hHeld ?_ ?_
            rotate_left
            · rintro w' ⟨s0, s1, s2, s3, s4, s5, s6⟩
              go_simp
              try with_reducible rfl
            rotate_left
            · simp only [Act.put, List.setIfInBounds_toArray, List.set_cons_zero, List.set_cons_succ]
              rfl
            refine one_ (i := 2) (N := some 98) #[true, true, true, false, false, false, false, false, false, false, false] rfl rfl (one_of HT_.out (by kernel_rfl)) (by decide) (fun K hK => ?_)
            refine goes_ Tryd.func17 (by kernel_rfl) rfl #[.pointer (some ⟨g, 0, none⟩), .agg #[.int .i64 2, .int .i64 3, .int .i64 9, .string ⟨#[]⟩, .string To, .slice G5 ([] : List S68).length i5, .slice G6 ([] : List ByteArray).length i6]] (by rfl) rfl rfl (by first | done | rfl | (simp only [List.map_toArray, List.map_cons, List.map_nil]; done) | (simp only [List.map_toArray, List.map_cons, List.map_nil]; rfl)) ?_
            refine (HCA.out).mono ?_
            rintro e' w7 ⟨rfl, D7', A7⟩
            refine ⟨_, rfl, ?_⟩
            refine hK.out _ _ (ML.out _ (A7.blk (fun x hx => (DQ.out.g.typed x hx).2) BP.out.drew (by decide))) (fun hHeld => ?_)
            clear hK K
            refine norm_ (a' := ?_) ?_ ?_
            rotate_left
            · show Act.put _ (some 98) _ = _
              simp only [Act.put, List.setIfInBounds_toArray, List.set_cons_zero, List.set_cons_succ]
              rfl
            refine pure_ (i := 3) (N := some 99) (v := ?_) (a' := ?_) #[true, true, true, true, false, false, false, false, false, false, false] rfl rfl (any_of HT_.out (by kernel_rfl)) (fun _ _ _ h => h) (Or.inl ⟨by rfl, ?_⟩) ?_ ?_
            rotate_left
            · intro w'
              go_simp
              try with_reducible rfl
            rotate_left
            · simp only [Act.put, List.setIfInBounds_toArray, List.set_cons_zero, List.set_cons_succ]
              rfl
            (try simp only [hz1])
            refine pure_ (i := 4) (N := some 100) (v := ?_) (a' := ?_) #[true, true, true, true, true, false, false, false, false, false, false] rfl rfl (any_of HT_.out (by kernel_rfl)) (fun _ _ _ h => h) (Or.inl ⟨by rfl, ?_⟩) ?_ ?_
            rotate_left
            · intro w'
              go_simp
              try with_reducible rfl
            rotate_left
            · simp only [Act.put, List.setIfInBounds_toArray, List.set_cons_zero, List.set_cons_succ]
              rfl
            refine pure_ (i := 7) (N := some 103) (v := undef) (a' := ?_) #[true, true, true, true, true, false, false, true, false, false, false] rfl rfl (any_of HT_.out (by kernel_rfl)) (fun _ _ _ h => h) (Or.inr ⟨by rfl, rfl⟩) ?_ ?_
            rotate_left
            · simp only [Act.put, List.setIfInBounds_toArray, List.set_cons_zero, List.set_cons_succ]
              rfl
            refine take_ (i := 8) (N := some 104) (v := undef) (a' := ?_) #[true, true, true, true, true, false, false, true, true, false, false] rfl rfl (take_ofW HT_.out HW_.out (by kernel_rfl)) (fun _ _ _ h => h) (Or.inr ⟨by rfl, rfl⟩) hHeld ?_ ?_
            rotate_left
            · simp only [Act.put, List.setIfInBounds_toArray, List.set_cons_zero, List.set_cons_succ]
              rfl
            refine one_ (i := 5) (N := some 101) #[true, true, true, true, true, true, false, true, true, false, false] rfl rfl (one_of HT_.out (by kernel_rfl)) (by decide) (fun K hK => ?_)
            refine Eq.mpr (if_neg (Bool.eq_false_iff.mp (by rfl))) ?_
            refine hK.out _ _ (by assumption) (fun hHeld => ?_)
            clear hK K
            refine norm_ (a' := ?_) ?_ ?_
            rotate_left
            · show Act.put _ (some 101) _ = _
              simp only [Act.put, List.setIfInBounds_toArray, List.set_cons_zero, List.set_cons_succ]
              rfl
            refine pure_ (i := 6) (N := some 102) (v := undef) (a' := ?_) #[true, true, true, true, true, true, true, true, true, false, false] rfl rfl (any_of HT_.out (by kernel_rfl)) (fun _ _ _ h => h) (Or.inr ⟨by rfl, rfl⟩) ?_ ?_
            rotate_left
            · simp only [Act.put, List.setIfInBounds_toArray, List.set_cons_zero, List.set_cons_succ]
              rfl
            refine pure_ (i := 9) (N := some 105) (v := undef) (a' := ?_) #[true, true, true, true, true, true, true, true, true, true, false] rfl rfl (any_of HT_.out (by kernel_rfl)) (fun _ _ _ h => h) (Or.inr ⟨by rfl, rfl⟩) ?_ ?_
            rotate_left
            · simp only [Act.put, List.setIfInBounds_toArray, List.set_cons_zero, List.set_cons_succ]
              rfl
            refine pure_ (i := 10) (N := some 106) (v := ?_) (a' := ?_) #[true, true, true, true, true, true, true, true, true, true, true] rfl rfl (any_of HT_.out (by kernel_rfl)) (fun _ _ _ h => h) (Or.inl ⟨by rfl, ?_⟩) ?_ ?_
            rotate_left
            · intro w'
              go_simp
              try with_reducible rfl
            rotate_left
            · simp only [Act.put, List.setIfInBounds_toArray, List.set_cons_zero, List.set_cons_succ]
              rfl
            refine done_ (done_of HT_.out (by kernel_rfl)) ?_
            clear HT_ HW_
            have D9 := Lib.hid D7'
            clear D7' A7 S0 ML DQ HCA hHeld DP BP
            go_wp2_with fail
            refine (pull_any kyL 2147483647 w7 kyL_length (by decide) D9.out.k D9.out.ks).mono ?_
            rintro e wa ⟨ma, rfl, hPa, ba⟩
            have PA := Lib.hid hPa
            have DA := Lib.hid (D9.out.below ba)
            clear hPa ba D9
            go_wp2_with fail
            refine (admitP_any g _ v gs _ 3 2147483647 _ ma wa DA.out.g PA.out (tgP_length _ _ _) (by decide) (by decide) DA.out.k DA.out.ks (one_key _)).mono ?_
            rintro e wb ⟨rfl, Gb, Ab⟩
            have DB := Lib.hid (DA.out.ad Gb Ab HK.out HKS.out)
            clear Gb Ab PA DA
            rcases Classical.em ((2147483647 : Int) ≤ p') with hz | hz
            · have HZ := Lib.hid (show adP (one3 p') 3 2147483647 (tgP kyL 3 2147483647) = (170, one3 p') by rw [adP_one, if_pos hz])
              rw [HZ.out] at DB ⊢
              clear hz
              go_wp2_with fail
              go_ret
              exact ⟨rfl, DB.out.b⟩
            · have HZ := Lib.hid (show adP (one3 p') 3 2147483647 (tgP kyL 3 2147483647) = (0, one3 2147483647) by rw [adP_one, if_neg hz])
              rw [HZ.out] at DB ⊢
              clear hz
              go_wp2_with fail
              go_ret
              exact ⟨rfl, DB.out.b⟩
        · have hoth2 : other.length ≠ 32 ∨ other = kyL := by
            rcases Classical.em (other.length = 32) with h | h
            · exact .inr (Classical.not_not.1 fun hn => hoth ⟨h, hn⟩)
            · exact .inl h
          clear hoth
          rcases hoth2 with h | h
          · have d1 : ((ob.size : Int) == 32) = false := beq_eq_false_iff_ne.mpr (by rw [HOB.out]; omega)
            clear h
            go_wp2_with fail
            refine (pull_any kyL 2147483647 w12 kyL_length (by decide) D13.out.k D13.out.ks).mono ?_
            rintro e wa ⟨ma, rfl, hPa, ba⟩
            have PA := Lib.hid hPa
            have DA := Lib.hid (D13.out.below ba)
            clear hPa ba D13
            go_wp2_with fail
            refine (admitP_any g _ v gs _ 3 2147483647 _ ma wa DA.out.g PA.out (tgP_length _ _ _) (by decide) (by decide) DA.out.k DA.out.ks (one_key _)).mono ?_
            rintro e wb ⟨rfl, Gb, Ab⟩
            have DB := Lib.hid (DA.out.ad Gb Ab HK.out HKS.out)
            clear Gb Ab PA DA
            rcases Classical.em ((2147483647 : Int) ≤ p') with hz | hz
            · have HZ := Lib.hid (show adP (one3 p') 3 2147483647 (tgP kyL 3 2147483647) = (170, one3 p') by rw [adP_one, if_pos hz])
              rw [HZ.out] at DB ⊢
              clear hz
              go_wp2_with fail
              go_ret
              exact ⟨rfl, DB.out.b⟩
            · have HZ := Lib.hid (show adP (one3 p') 3 2147483647 (tgP kyL 3 2147483647) = (0, one3 2147483647) by rw [adP_one, if_neg hz])
              rw [HZ.out] at DB ⊢
              clear hz
              go_wp2_with fail
              go_ret
              exact ⟨rfl, DB.out.b⟩
          · have d1 : ((ob.size : Int) == 32) = true := by rw [HOB.out, h, kyL_length]; rfl
            have hne : (ob.toList == [116, 104, 105, 114, 116, 121, 45, 116, 119, 111, 32, 98, 121, 116, 101, 115, 32, 97, 114, 101, 32, 106, 117, 115, 116, 32, 97, 32, 107, 101, 121, 46]) = true := beq_iff_eq.mpr (by rw [← OB.out, h, ByteArray.toList_eq]; rfl)
            clear h
            go_wp2_with fail
            refine (pull_any kyL 2147483647 w12 kyL_length (by decide) D13.out.k D13.out.ks).mono ?_
            rintro e wa ⟨ma, rfl, hPa, ba⟩
            have PA := Lib.hid hPa
            have DA := Lib.hid (D13.out.below ba)
            clear hPa ba D13
            go_wp2_with fail
            refine (admitP_any g _ v gs _ 3 2147483647 _ ma wa DA.out.g PA.out (tgP_length _ _ _) (by decide) (by decide) DA.out.k DA.out.ks (one_key _)).mono ?_
            rintro e wb ⟨rfl, Gb, Ab⟩
            have DB := Lib.hid (DA.out.ad Gb Ab HK.out HKS.out)
            clear Gb Ab PA DA
            rcases Classical.em ((2147483647 : Int) ≤ p') with hz | hz
            · have HZ := Lib.hid (show adP (one3 p') 3 2147483647 (tgP kyL 3 2147483647) = (170, one3 p') by rw [adP_one, if_pos hz])
              rw [HZ.out] at DB ⊢
              clear hz
              go_wp2_with fail
              go_ret
              exact ⟨rfl, DB.out.b⟩
            · have HZ := Lib.hid (show adP (one3 p') 3 2147483647 (tgP kyL 3 2147483647) = (0, one3 2147483647) by rw [adP_one, if_neg hz])
              rw [HZ.out] at DB ⊢
              clear hz
              go_wp2_with fail
              go_ret
              exact ⟨rfl, DB.out.b⟩
      · have hz1 : (z == 0) = false := beq_eq_false_iff_ne.mpr hz0
        clear HZ1 hz0
        refine start_ (n := 11) (S := fun W => W.cell? ⟨bm, 4, none⟩ = some (.string tb)) (ds := []) #[false, false, false, false, false, false, false, false, false, false, false] (by kernel_rfl) rfl rfl S16 (fun hHeld => ?_)
        refine with_tabW gx16.tab gx16.bits (fun HT_ HW_ => ?_)
        refine pure_ (i := 0) (N := some 76) (v := ?_) (a' := ?_) #[true, false, false, false, false, false, false, false, false, false, false] rfl rfl (any_of HT_.out (by kernel_rfl)) (fun _ _ _ h => h) (Or.inl ⟨by rfl, ?_⟩) ?_ ?_
        rotate_left
        · intro w'
          go_simp
          try with_reducible rfl
        rotate_left
        · simp only [Act.put, List.setIfInBounds_toArray, List.set_cons_zero, List.set_cons_succ]
          rfl
        refine pure_ (i := 1) (N := some 77) (v := ?_) (a' := ?_) #[true, true, false, false, false, false, false, false, false, false, false] rfl rfl (any_of HT_.out (by kernel_rfl)) (fun _ _ _ h => h) (Or.inl ⟨by rfl, ?_⟩) ?_ ?_
        rotate_left
        · intro w'
          go_simp
          try with_reducible rfl
        rotate_left
        · simp only [Act.put, List.setIfInBounds_toArray, List.set_cons_zero, List.set_cons_succ]
          rfl
        (try simp only [hz1])
        refine pure_ (i := 2) (N := some 78) (v := ?_) (a' := ?_) #[true, true, true, false, false, false, false, false, false, false, false] rfl rfl (any_of HT_.out (by kernel_rfl)) (fun _ _ _ h => h) (Or.inl ⟨by rfl, ?_⟩) ?_ ?_
        rotate_left
        · intro w'
          go_simp
          try with_reducible rfl
        rotate_left
        · simp only [Act.put, List.setIfInBounds_toArray, List.set_cons_zero, List.set_cons_succ]
          rfl
        refine pure_ (i := 3) (N := some 79) (v := undef) (a' := ?_) #[true, true, true, true, false, false, false, false, false, false, false] rfl rfl (any_of HT_.out (by kernel_rfl)) (fun _ _ _ h => h) (Or.inr ⟨by rfl, rfl⟩) ?_ ?_
        rotate_left
        · simp only [Act.put, List.setIfInBounds_toArray, List.set_cons_zero, List.set_cons_succ]
          rfl
        refine pure_ (i := 4) (N := some 80) (v := undef) (a' := ?_) #[true, true, true, true, true, false, false, false, false, false, false] rfl rfl (any_of HT_.out (by kernel_rfl)) (fun _ _ _ h => h) (Or.inr ⟨by rfl, rfl⟩) ?_ ?_
        rotate_left
        · simp only [Act.put, List.setIfInBounds_toArray, List.set_cons_zero, List.set_cons_succ]
          rfl
        refine pure_ (i := 7) (N := some 83) (v := undef) (a' := ?_) #[true, true, true, true, true, false, false, true, false, false, false] rfl rfl (any_of HT_.out (by kernel_rfl)) (fun _ _ _ h => h) (Or.inr ⟨by rfl, rfl⟩) ?_ ?_
        rotate_left
        · simp only [Act.put, List.setIfInBounds_toArray, List.set_cons_zero, List.set_cons_succ]
          rfl
        refine take_ (i := 8) (N := some 84) (v := undef) (a' := ?_) #[true, true, true, true, true, false, false, true, true, false, false] rfl rfl (take_ofW HT_.out HW_.out (by kernel_rfl)) (fun _ _ _ h => h) (Or.inr ⟨by rfl, rfl⟩) hHeld ?_ ?_
        rotate_left
        · simp only [Act.put, List.setIfInBounds_toArray, List.set_cons_zero, List.set_cons_succ]
          rfl
        refine one_ (i := 5) (N := some 81) #[true, true, true, true, true, true, false, true, true, false, false] rfl rfl (one_of HT_.out (by kernel_rfl)) (by decide) (fun K hK => ?_)
        refine Eq.mpr (if_neg (Bool.eq_false_iff.mp (by rfl))) ?_
        refine hK.out _ _ (by assumption) (fun hHeld => ?_)
        clear hK K
        refine norm_ (a' := ?_) ?_ ?_
        rotate_left
        · show Act.put _ (some 81) _ = _
          simp only [Act.put, List.setIfInBounds_toArray, List.set_cons_zero, List.set_cons_succ]
          rfl
        refine one_ (i := 6) (N := some 82) #[true, true, true, true, true, true, true, true, true, false, false] rfl rfl (one_of HT_.out (by kernel_rfl)) (by decide) (fun K hK => ?_)
        refine Eq.mpr (if_neg (Bool.eq_false_iff.mp (by rfl))) ?_
        refine hK.out _ _ (by assumption) (fun hHeld => ?_)
        clear hK K
        refine norm_ (a' := ?_) ?_ ?_
        rotate_left
        · show Act.put _ (some 82) _ = _
          simp only [Act.put, List.setIfInBounds_toArray, List.set_cons_zero, List.set_cons_succ]
          rfl
        refine pure_ (i := 9) (N := some 85) (v := undef) (a' := ?_) #[true, true, true, true, true, true, true, true, true, true, false] rfl rfl (any_of HT_.out (by kernel_rfl)) (fun _ _ _ h => h) (Or.inr ⟨by rfl, rfl⟩) ?_ ?_
        rotate_left
        · simp only [Act.put, List.setIfInBounds_toArray, List.set_cons_zero, List.set_cons_succ]
          rfl
        refine pure_ (i := 10) (N := some 86) (v := ?_) (a' := ?_) #[true, true, true, true, true, true, true, true, true, true, true] rfl rfl (any_of HT_.out (by kernel_rfl)) (fun _ _ _ h => h) (Or.inl ⟨by rfl, ?_⟩) ?_ ?_
        rotate_left
        · intro w'
          go_simp
          try with_reducible rfl
        rotate_left
        · simp only [Act.put, List.setIfInBounds_toArray, List.set_cons_zero, List.set_cons_succ]
          rfl
        refine done_ (done_of HT_.out (by kernel_rfl)) ?_
        clear HT_ HW_
        clear D11 M11 O11 S16
        by_cases hoth : other.length = 32 ∧ other ≠ kyL
        · have d1 : ((ob.size : Int) == 32) = true := by rw [HOB.out, hoth.1]; rfl
          have HOT := Lib.hid hoth
          clear hoth
          have HPL := Lib.hid (fun W => pull_any other 9 W HOT.out.1 (by decide))
          rw [OB.out] at HPL
          have hne : (ob.toList == [116, 104, 105, 114, 116, 121, 45, 116, 119, 111, 32, 98, 121, 116, 101, 115, 32, 97, 114, 101, 32, 106, 117, 115, 116, 32, 97, 32, 107, 101, 121, 46]) = false := beq_eq_false_iff_ne.mpr (fun h => HOT.out.2 (by rw [← OB.out, ByteArray.toList_eq] at h; exact h))
          go_wp2_with fail
          refine (HPL.out w11.drew D12.out.k D12.out.ks).mono ?_
          rintro e wo ⟨mo, rfl, hPo, bo'⟩
          obtain ⟨G5, i5, G6, i6, em, h5, h6⟩ := hPo
          obtain ⟨To, HTO⟩ : ∃ T, Hid ((⟨(tgP other 3 9).toArray⟩ : ByteArray) = T) := ⟨_, Lib.hid rfl⟩
          rw [HTO.out] at em
          subst em
          have DO := Lib.hid (D12.out.below bo')
          have O5 := Lib.hid h5
          have O6 := Lib.hid h6
          clear bo' h5 h6 D12 HPL hne
          go_upto_region 20 with fail
          obtain ⟨bo, HBO⟩ : ∃ b, Hid (wo.heap.size = b) := ⟨_, Lib.hid rfl⟩
          refine gworld (fun W => Hid (GW w W g v gs (one3 p')) ∧ Hid (Blk W bo 25 #[.int .i64 2, .int .i64 3, .int .i64 9, .string ⟨#[]⟩, .string To, .slice G5 ([] : List S68).length i5, .slice G6 ([] : List ByteArray).length i6])) ⟨Lib.hid (DO.out.below ((Below.refl _ _).alloc (Nat.le_refl _) _)), Lib.hid (by rw [← HBO.out]; exact Blk.new _ _ _)⟩ ?_
          clear DO
          rintro wp ⟨DP, BP⟩
          rw [HBO.out]
          have HPM := Lib.hid (show ∀ W, Pm W (.agg #[.int .i64 2, .int .i64 3, .int .i64 9, .string ⟨#[]⟩, .string To, .slice G5 ([] : List S68).length i5, .slice G6 ([] : List ByteArray).length i6]) 3 9 (tgP other 3 9) from fun W => ⟨G5, i5, G6, i6, by rw [HTO.out], O5.out.empty, O6.out.empty⟩)
          have DQ := Lib.hid (DP.out.below (below_drewN (Below.refl _ _) 1))
          have ML := Lib.hid (show ∀ W, Blk W bo 25 #[.int .i64 2, .int .i64 3, .int .i64 9, .string ⟨#[]⟩, .string To, .slice G5 ([] : List S68).length i5, .slice G6 ([] : List ByteArray).length i6] → W.cell? ⟨bo, 0, none⟩ = some (.int .i64 2) ∧ W.cell? ⟨bo, 1, none⟩ = some (.int .i64 3) ∧ W.cell? ⟨bo, 2, none⟩ = some (.int .i64 9) ∧ W.cell? ⟨bo, 3, none⟩ = some (.string ⟨#[]⟩) ∧ W.cell? ⟨bo, 4, none⟩ = some (.string To) ∧ W.cell? ⟨bo, 5, none⟩ = some (.slice G5 ([] : List S68).length i5) ∧ W.cell? ⟨bo, 6, none⟩ = some (.slice G6 ([] : List ByteArray).length i6) from fun W h => ⟨h.cell 0, h.cell 1, h.cell 2, h.cell 3, h.cell 4, h.cell 5, h.cell 6⟩)
          have S0 := ML.out wp.drew BP.out.drew
          obtain ⟨⟨z, l'⟩, hz⟩ : ∃ pr, adP (one3 p') 3 9 (tgP other 3 9) = pr := ⟨_, rfl⟩
          have HZZ := Lib.hid (show (z = 0 ∧ tgP kyL 3 9 = tgP other 3 9 ∧ ∃ p', l' = one3 p') ∨ (z ≠ 0 ∧ ∃ p', l' = one3 p') by
            have hf : fN (one3 p') 3 = some 0 := by simp [fN, one3]
            rw [adP_some hf (s := ⟨3, kyL, p'⟩) rfl] at hz
            split at hz
            · simp only [Prod.mk.injEq] at hz
              exact .inr ⟨by rw [← hz.1]; decide, _, hz.2.symm⟩
            · rename_i ht
              split at hz
              · simp only [Prod.mk.injEq] at hz
                exact .inr ⟨by rw [← hz.1]; decide, _, hz.2.symm⟩
              · simp only [Prod.mk.injEq] at hz
                exact .inl ⟨hz.1.symm, Classical.not_not.1 ht, 9, hz.2.symm⟩)
          have HCA := Lib.hid (show Calls Tryd.prog 17 #[.pointer (some ⟨g, 0, none⟩), .agg #[.int .i64 2, .int .i64 3, .int .i64 9, .string ⟨#[]⟩, .string To, .slice G5 ([] : List S68).length i5, .slice G6 ([] : List ByteArray).length i6]] wp.drew fun e W' => e = .returned (.int .i64 z) ∧ GW w W' g v gs l' ∧ Ad1 wp.drew W' gs from
            (admitP_any g _ v gs _ 3 9 _ _ wp.drew DQ.out.g (HPM.out wp.drew) (tgP_length _ _ _) (by decide) (by decide) DQ.out.k DQ.out.ks (one_key _)).mono (fun e W' ⟨he, hg, ha⟩ => by rw [hz] at he hg; exact ⟨he, DQ.out.ad hg ha HK.out HKS.out, ha⟩))
          clear hz HPM
          rcases HZZ.out with ⟨rfl, ht, p', rfl⟩ | ⟨hz0, p', rfl⟩
          · have HPK := Lib.hid (fun W => pull_any kyL 9 W kyL_length (by decide))
            have HTT := Lib.hid (show (⟨(tgP kyL 3 9).toArray⟩ : ByteArray) = To by rw [ht, HTO.out])
            clear ht HZZ
            refine start_ (n := 11) (S := fun W => W.cell? ⟨bo, 0, none⟩ = some (.int .i64 2) ∧ W.cell? ⟨bo, 1, none⟩ = some (.int .i64 3) ∧ W.cell? ⟨bo, 2, none⟩ = some (.int .i64 9) ∧ W.cell? ⟨bo, 3, none⟩ = some (.string ⟨#[]⟩) ∧ W.cell? ⟨bo, 4, none⟩ = some (.string To) ∧ W.cell? ⟨bo, 5, none⟩ = some (.slice G5 ([] : List S68).length i5) ∧ W.cell? ⟨bo, 6, none⟩ = some (.slice G6 ([] : List ByteArray).length i6)) (ds := []) #[false, false, false, false, false, false, false, false, false, false, false] (by kernel_rfl) rfl rfl S0 (fun hHeld => ?_)
            refine with_tabW gx20.tab gx20.bits (fun HT_ HW_ => ?_)
            refine pure_ (i := 0) (N := some 96) (v := ?_) (a' := ?_) #[true, false, false, false, false, false, false, false, false, false, false] rfl rfl (any_of HT_.out (by kernel_rfl)) (fun _ _ _ h => h) (Or.inl ⟨by rfl, ?_⟩) ?_ ?_
            rotate_left
            · intro w'
              go_simp
              try with_reducible rfl
            rotate_left
            · simp only [Act.put, List.setIfInBounds_toArray, List.set_cons_zero, List.set_cons_succ]
              rfl
            refine take_ (i := 1) (N := some 97) (v := ?_) (a' := ?_) #[true, true, false, false, false, false, false, false, false, false, false] rfl rfl (take_ofW HT_.out HW_.out (by kernel_rfl)) (fun _ _ _ h => h) (Or.inl ⟨by rfl, ?_⟩) hHeld ?_ ?_
            rotate_left
            · rintro w' ⟨s0, s1, s2, s3, s4, s5, s6⟩
              go_simp
              try with_reducible rfl
            rotate_left
            · simp only [Act.put, List.setIfInBounds_toArray, List.set_cons_zero, List.set_cons_succ]
              rfl
            refine one_ (i := 2) (N := some 98) #[true, true, true, false, false, false, false, false, false, false, false] rfl rfl (one_of HT_.out (by kernel_rfl)) (by decide) (fun K hK => ?_)
            refine goes_ Tryd.func17 (by kernel_rfl) rfl #[.pointer (some ⟨g, 0, none⟩), .agg #[.int .i64 2, .int .i64 3, .int .i64 9, .string ⟨#[]⟩, .string To, .slice G5 ([] : List S68).length i5, .slice G6 ([] : List ByteArray).length i6]] (by rfl) rfl rfl (by first | done | rfl | (simp only [List.map_toArray, List.map_cons, List.map_nil]; done) | (simp only [List.map_toArray, List.map_cons, List.map_nil]; rfl)) ?_
            refine (HCA.out).mono ?_
            rintro e' w7 ⟨rfl, D7', A7⟩
            refine ⟨_, rfl, ?_⟩
            refine hK.out _ _ (ML.out _ (A7.blk (fun x hx => (DQ.out.g.typed x hx).2) BP.out.drew (by decide))) (fun hHeld => ?_)
            clear hK K
            refine norm_ (a' := ?_) ?_ ?_
            rotate_left
            · show Act.put _ (some 98) _ = _
              simp only [Act.put, List.setIfInBounds_toArray, List.set_cons_zero, List.set_cons_succ]
              rfl
            refine pure_ (i := 3) (N := some 99) (v := ?_) (a' := ?_) #[true, true, true, true, false, false, false, false, false, false, false] rfl rfl (any_of HT_.out (by kernel_rfl)) (fun _ _ _ h => h) (Or.inl ⟨by rfl, ?_⟩) ?_ ?_
            rotate_left
            · intro w'
              go_simp
              try with_reducible rfl
            rotate_left
            · simp only [Act.put, List.setIfInBounds_toArray, List.set_cons_zero, List.set_cons_succ]
              rfl
            refine pure_ (i := 4) (N := some 100) (v := ?_) (a' := ?_) #[true, true, true, true, true, false, false, false, false, false, false] rfl rfl (any_of HT_.out (by kernel_rfl)) (fun _ _ _ h => h) (Or.inl ⟨by rfl, ?_⟩) ?_ ?_
            rotate_left
            · intro w'
              go_simp
              try with_reducible rfl
            rotate_left
            · simp only [Act.put, List.setIfInBounds_toArray, List.set_cons_zero, List.set_cons_succ]
              rfl
            refine pure_ (i := 7) (N := some 103) (v := ?_) (a' := ?_) #[true, true, true, true, true, false, false, true, false, false, false] rfl rfl (any_of HT_.out (by kernel_rfl)) (fun _ _ _ h => h) (Or.inl ⟨by rfl, ?_⟩) ?_ ?_
            rotate_left
            · intro w'
              go_simp
              try with_reducible rfl
            rotate_left
            · simp only [Act.put, List.setIfInBounds_toArray, List.set_cons_zero, List.set_cons_succ]
              rfl
            refine take_ (i := 8) (N := some 104) (v := ?_) (a' := ?_) #[true, true, true, true, true, false, false, true, true, false, false] rfl rfl (take_ofW HT_.out HW_.out (by kernel_rfl)) (fun _ _ _ h => h) (Or.inl ⟨by rfl, ?_⟩) hHeld ?_ ?_
            rotate_left
            · rintro w' ⟨s0, s1, s2, s3, s4, s5, s6⟩
              go_simp
              try with_reducible rfl
            rotate_left
            · simp only [Act.put, List.setIfInBounds_toArray, List.set_cons_zero, List.set_cons_succ]
              rfl
            refine one_ (i := 5) (N := some 101) #[true, true, true, true, true, true, false, true, true, false, false] rfl rfl (one_of HT_.out (by kernel_rfl)) (by decide) (fun K hK => ?_)
            refine goes_ Tryd.func22 (by kernel_rfl) rfl #[.string ⟨kyL.toArray⟩, .int .i64 9] (by rfl) rfl rfl (by first | done | rfl | (simp only [List.map_toArray, List.map_cons, List.map_nil]; done) | (simp only [List.map_toArray, List.map_cons, List.map_nil]; rfl)) ?_
            refine (HPK.out w7 D7'.k D7'.ks).mono ?_
            rintro e' w8 ⟨mk, rfl, ⟨K5, j5, K6, j6, emk, _, _⟩, b8⟩
            refine ⟨_, rfl, ?_⟩
            refine hK.out _ _ (ML.out _ ((A7.blk (fun x hx => (DQ.out.g.typed x hx).2) BP.out.drew (by decide)).below b8 (A7.blk (fun x hx => (DQ.out.g.typed x hx).2) BP.out.drew (by decide)).lt)) (fun hHeld => ?_)
            clear hK K
            refine norm_ (a' := ?_) ?_ ?_
            rotate_left
            · show Act.put _ (some 101) _ = _
              simp only [Act.put, List.setIfInBounds_toArray, List.set_cons_zero, List.set_cons_succ]
              rfl
            (subst emk; try simp only [HTT.out]); have hfld : ∀ W : World, (Instr.field 25 (.agg #[.int .i64 2, .int .i64 3, .int .i64 9, .string ⟨#[]⟩, .string To, .slice K5 0 j5, .slice K6 0 j6]) 4).run Tryd.prog W = .ok (.string To) W := fun W => by kernel_rfl
            refine pure_ (i := 6) (N := some 102) (v := ?_) (a' := ?_) #[true, true, true, true, true, true, true, true, true, false, false] rfl rfl (any_of HT_.out (by kernel_rfl)) (fun _ _ _ h => h) (Or.inl ⟨by rfl, ?_⟩) ?_ ?_
            rotate_left
            · intro w'
              go_simp
              try with_reducible rfl
            rotate_left
            · simp only [Act.put, List.setIfInBounds_toArray, List.set_cons_zero, List.set_cons_succ]
              rfl
            refine pure_ (i := 9) (N := some 105) (v := ?_) (a' := ?_) #[true, true, true, true, true, true, true, true, true, true, false] rfl rfl (any_of HT_.out (by kernel_rfl)) (fun _ _ _ h => h) (Or.inl ⟨by rfl, ?_⟩) ?_ ?_
            rotate_left
            · intro w'
              go_simp
              try with_reducible rfl
            rotate_left
            · simp only [Act.put, List.setIfInBounds_toArray, List.set_cons_zero, List.set_cons_succ]
              rfl
            refine pure_ (i := 10) (N := some 106) (v := ?_) (a' := ?_) #[true, true, true, true, true, true, true, true, true, true, true] rfl rfl (any_of HT_.out (by kernel_rfl)) (fun _ _ _ h => h) (Or.inl ⟨by rfl, ?_⟩) ?_ ?_
            rotate_left
            · intro w'
              go_simp
              try with_reducible rfl
            rotate_left
            · simp only [Act.put, List.setIfInBounds_toArray, List.set_cons_zero, List.set_cons_succ]
              rfl
            refine done_ (done_of HT_.out (by kernel_rfl)) ?_
            clear HT_ HW_
            have D9 := Lib.hid (D7'.below b8)
            clear D7' b8 A7 S0 ML DQ HCA hHeld DP BP HPK
            try simp only [bne_self_eq_false]
            go_wp2_with fail
            refine (pull_any kyL 2147483647 w8 kyL_length (by decide) D9.out.k D9.out.ks).mono ?_
            rintro e wa ⟨ma, rfl, hPa, ba⟩
            have PA := Lib.hid hPa
            have DA := Lib.hid (D9.out.below ba)
            clear hPa ba D9
            go_wp2_with fail
            refine (admitP_any g _ v gs _ 3 2147483647 _ ma wa DA.out.g PA.out (tgP_length _ _ _) (by decide) (by decide) DA.out.k DA.out.ks (one_key _)).mono ?_
            rintro e wb ⟨rfl, Gb, Ab⟩
            have DB := Lib.hid (DA.out.ad Gb Ab HK.out HKS.out)
            clear Gb Ab PA DA
            rcases Classical.em ((2147483647 : Int) ≤ p') with hz | hz
            · have HZ := Lib.hid (show adP (one3 p') 3 2147483647 (tgP kyL 3 2147483647) = (170, one3 p') by rw [adP_one, if_pos hz])
              rw [HZ.out] at DB ⊢
              clear hz
              go_wp2_with fail
              go_ret
              exact ⟨rfl, DB.out.b⟩
            · have HZ := Lib.hid (show adP (one3 p') 3 2147483647 (tgP kyL 3 2147483647) = (0, one3 2147483647) by rw [adP_one, if_neg hz])
              rw [HZ.out] at DB ⊢
              clear hz
              go_wp2_with fail
              go_ret
              exact ⟨rfl, DB.out.b⟩
          · have hz1 : (z == 0) = false := beq_eq_false_iff_ne.mpr hz0
            clear HZZ hz0
            refine start_ (n := 11) (S := fun W => W.cell? ⟨bo, 0, none⟩ = some (.int .i64 2) ∧ W.cell? ⟨bo, 1, none⟩ = some (.int .i64 3) ∧ W.cell? ⟨bo, 2, none⟩ = some (.int .i64 9) ∧ W.cell? ⟨bo, 3, none⟩ = some (.string ⟨#[]⟩) ∧ W.cell? ⟨bo, 4, none⟩ = some (.string To) ∧ W.cell? ⟨bo, 5, none⟩ = some (.slice G5 ([] : List S68).length i5) ∧ W.cell? ⟨bo, 6, none⟩ = some (.slice G6 ([] : List ByteArray).length i6)) (ds := []) #[false, false, false, false, false, false, false, false, false, false, false] (by kernel_rfl) rfl rfl S0 (fun hHeld => ?_)
            refine with_tabW gx20.tab gx20.bits (fun HT_ HW_ => ?_)
            refine pure_ (i := 0) (N := some 96) (v := ?_) (a' := ?_) #[true, false, false, false, false, false, false, false, false, false, false] rfl rfl (any_of HT_.out (by kernel_rfl)) (fun _ _ _ h => h) (Or.inl ⟨by rfl, ?_⟩) ?_ ?_
            rotate_left
            · intro w'
              go_simp
              try with_reducible rfl
            rotate_left
            · simp only [Act.put, List.setIfInBounds_toArray, List.set_cons_zero, List.set_cons_succ]
              rfl
            refine take_ (i := 1) (N := some 97) (v := ?_) (a' := ?_) #[true, true, false, false, false, false, false, false, false, false, false] rfl rfl (take_ofW HT_.out HW_.out (by kernel_rfl)) (fun _ _ _ h => h) (Or.inl ⟨by rfl, ?_⟩) hHeld ?_ ?_
            rotate_left
            · rintro w' ⟨s0, s1, s2, s3, s4, s5, s6⟩
              go_simp
              try with_reducible rfl
            rotate_left
            · simp only [Act.put, List.setIfInBounds_toArray, List.set_cons_zero, List.set_cons_succ]
              rfl
            refine one_ (i := 2) (N := some 98) #[true, true, true, false, false, false, false, false, false, false, false] rfl rfl (one_of HT_.out (by kernel_rfl)) (by decide) (fun K hK => ?_)
            refine goes_ Tryd.func17 (by kernel_rfl) rfl #[.pointer (some ⟨g, 0, none⟩), .agg #[.int .i64 2, .int .i64 3, .int .i64 9, .string ⟨#[]⟩, .string To, .slice G5 ([] : List S68).length i5, .slice G6 ([] : List ByteArray).length i6]] (by rfl) rfl rfl (by first | done | rfl | (simp only [List.map_toArray, List.map_cons, List.map_nil]; done) | (simp only [List.map_toArray, List.map_cons, List.map_nil]; rfl)) ?_
            refine (HCA.out).mono ?_
            rintro e' w7 ⟨rfl, D7', A7⟩
            refine ⟨_, rfl, ?_⟩
            refine hK.out _ _ (ML.out _ (A7.blk (fun x hx => (DQ.out.g.typed x hx).2) BP.out.drew (by decide))) (fun hHeld => ?_)
            clear hK K
            refine norm_ (a' := ?_) ?_ ?_
            rotate_left
            · show Act.put _ (some 98) _ = _
              simp only [Act.put, List.setIfInBounds_toArray, List.set_cons_zero, List.set_cons_succ]
              rfl
            refine pure_ (i := 3) (N := some 99) (v := ?_) (a' := ?_) #[true, true, true, true, false, false, false, false, false, false, false] rfl rfl (any_of HT_.out (by kernel_rfl)) (fun _ _ _ h => h) (Or.inl ⟨by rfl, ?_⟩) ?_ ?_
            rotate_left
            · intro w'
              go_simp
              try with_reducible rfl
            rotate_left
            · simp only [Act.put, List.setIfInBounds_toArray, List.set_cons_zero, List.set_cons_succ]
              rfl
            (try simp only [hz1])
            refine pure_ (i := 4) (N := some 100) (v := ?_) (a' := ?_) #[true, true, true, true, true, false, false, false, false, false, false] rfl rfl (any_of HT_.out (by kernel_rfl)) (fun _ _ _ h => h) (Or.inl ⟨by rfl, ?_⟩) ?_ ?_
            rotate_left
            · intro w'
              go_simp
              try with_reducible rfl
            rotate_left
            · simp only [Act.put, List.setIfInBounds_toArray, List.set_cons_zero, List.set_cons_succ]
              rfl
            refine pure_ (i := 7) (N := some 103) (v := undef) (a' := ?_) #[true, true, true, true, true, false, false, true, false, false, false] rfl rfl (any_of HT_.out (by kernel_rfl)) (fun _ _ _ h => h) (Or.inr ⟨by rfl, rfl⟩) ?_ ?_
            rotate_left
            · simp only [Act.put, List.setIfInBounds_toArray, List.set_cons_zero, List.set_cons_succ]
              rfl
            refine take_ (i := 8) (N := some 104) (v := undef) (a' := ?_) #[true, true, true, true, true, false, false, true, true, false, false] rfl rfl (take_ofW HT_.out HW_.out (by kernel_rfl)) (fun _ _ _ h => h) (Or.inr ⟨by rfl, rfl⟩) hHeld ?_ ?_
            rotate_left
            · simp only [Act.put, List.setIfInBounds_toArray, List.set_cons_zero, List.set_cons_succ]
              rfl
            refine one_ (i := 5) (N := some 101) #[true, true, true, true, true, true, false, true, true, false, false] rfl rfl (one_of HT_.out (by kernel_rfl)) (by decide) (fun K hK => ?_)
            refine Eq.mpr (if_neg (Bool.eq_false_iff.mp (by rfl))) ?_
            refine hK.out _ _ (by assumption) (fun hHeld => ?_)
            clear hK K
            refine norm_ (a' := ?_) ?_ ?_
            rotate_left
            · show Act.put _ (some 101) _ = _
              simp only [Act.put, List.setIfInBounds_toArray, List.set_cons_zero, List.set_cons_succ]
              rfl
            refine pure_ (i := 6) (N := some 102) (v := undef) (a' := ?_) #[true, true, true, true, true, true, true, true, true, false, false] rfl rfl (any_of HT_.out (by kernel_rfl)) (fun _ _ _ h => h) (Or.inr ⟨by rfl, rfl⟩) ?_ ?_
            rotate_left
            · simp only [Act.put, List.setIfInBounds_toArray, List.set_cons_zero, List.set_cons_succ]
              rfl
            refine pure_ (i := 9) (N := some 105) (v := undef) (a' := ?_) #[true, true, true, true, true, true, true, true, true, true, false] rfl rfl (any_of HT_.out (by kernel_rfl)) (fun _ _ _ h => h) (Or.inr ⟨by rfl, rfl⟩) ?_ ?_
            rotate_left
            · simp only [Act.put, List.setIfInBounds_toArray, List.set_cons_zero, List.set_cons_succ]
              rfl
            refine pure_ (i := 10) (N := some 106) (v := ?_) (a' := ?_) #[true, true, true, true, true, true, true, true, true, true, true] rfl rfl (any_of HT_.out (by kernel_rfl)) (fun _ _ _ h => h) (Or.inl ⟨by rfl, ?_⟩) ?_ ?_
            rotate_left
            · intro w'
              go_simp
              try with_reducible rfl
            rotate_left
            · simp only [Act.put, List.setIfInBounds_toArray, List.set_cons_zero, List.set_cons_succ]
              rfl
            refine done_ (done_of HT_.out (by kernel_rfl)) ?_
            clear HT_ HW_
            have D9 := Lib.hid D7'
            clear D7' A7 S0 ML DQ HCA hHeld DP BP
            go_wp2_with fail
            refine (pull_any kyL 2147483647 w7 kyL_length (by decide) D9.out.k D9.out.ks).mono ?_
            rintro e wa ⟨ma, rfl, hPa, ba⟩
            have PA := Lib.hid hPa
            have DA := Lib.hid (D9.out.below ba)
            clear hPa ba D9
            go_wp2_with fail
            refine (admitP_any g _ v gs _ 3 2147483647 _ ma wa DA.out.g PA.out (tgP_length _ _ _) (by decide) (by decide) DA.out.k DA.out.ks (one_key _)).mono ?_
            rintro e wb ⟨rfl, Gb, Ab⟩
            have DB := Lib.hid (DA.out.ad Gb Ab HK.out HKS.out)
            clear Gb Ab PA DA
            rcases Classical.em ((2147483647 : Int) ≤ p') with hz | hz
            · have HZ := Lib.hid (show adP (one3 p') 3 2147483647 (tgP kyL 3 2147483647) = (170, one3 p') by rw [adP_one, if_pos hz])
              rw [HZ.out] at DB ⊢
              clear hz
              go_wp2_with fail
              go_ret
              exact ⟨rfl, DB.out.b⟩
            · have HZ := Lib.hid (show adP (one3 p') 3 2147483647 (tgP kyL 3 2147483647) = (0, one3 2147483647) by rw [adP_one, if_neg hz])
              rw [HZ.out] at DB ⊢
              clear hz
              go_wp2_with fail
              go_ret
              exact ⟨rfl, DB.out.b⟩
        · have hoth2 : other.length ≠ 32 ∨ other = kyL := by
            rcases Classical.em (other.length = 32) with h | h
            · exact .inr (Classical.not_not.1 fun hn => hoth ⟨h, hn⟩)
            · exact .inl h
          clear hoth
          rcases hoth2 with h | h
          · have d1 : ((ob.size : Int) == 32) = false := beq_eq_false_iff_ne.mpr (by rw [HOB.out]; omega)
            clear h
            go_wp2_with fail
            refine (pull_any kyL 2147483647 w11.drew kyL_length (by decide) D12.out.k D12.out.ks).mono ?_
            rintro e wa ⟨ma, rfl, hPa, ba⟩
            have PA := Lib.hid hPa
            have DA := Lib.hid (D12.out.below ba)
            clear hPa ba D12
            go_wp2_with fail
            refine (admitP_any g _ v gs _ 3 2147483647 _ ma wa DA.out.g PA.out (tgP_length _ _ _) (by decide) (by decide) DA.out.k DA.out.ks (one_key _)).mono ?_
            rintro e wb ⟨rfl, Gb, Ab⟩
            have DB := Lib.hid (DA.out.ad Gb Ab HK.out HKS.out)
            clear Gb Ab PA DA
            rcases Classical.em ((2147483647 : Int) ≤ p') with hz | hz
            · have HZ := Lib.hid (show adP (one3 p') 3 2147483647 (tgP kyL 3 2147483647) = (170, one3 p') by rw [adP_one, if_pos hz])
              rw [HZ.out] at DB ⊢
              clear hz
              go_wp2_with fail
              go_ret
              exact ⟨rfl, DB.out.b⟩
            · have HZ := Lib.hid (show adP (one3 p') 3 2147483647 (tgP kyL 3 2147483647) = (0, one3 2147483647) by rw [adP_one, if_neg hz])
              rw [HZ.out] at DB ⊢
              clear hz
              go_wp2_with fail
              go_ret
              exact ⟨rfl, DB.out.b⟩
          · have d1 : ((ob.size : Int) == 32) = true := by rw [HOB.out, h, kyL_length]; rfl
            have hne : (ob.toList == [116, 104, 105, 114, 116, 121, 45, 116, 119, 111, 32, 98, 121, 116, 101, 115, 32, 97, 114, 101, 32, 106, 117, 115, 116, 32, 97, 32, 107, 101, 121, 46]) = true := beq_iff_eq.mpr (by rw [← OB.out, h, ByteArray.toList_eq]; rfl)
            clear h
            go_wp2_with fail
            refine (pull_any kyL 2147483647 w11.drew kyL_length (by decide) D12.out.k D12.out.ks).mono ?_
            rintro e wa ⟨ma, rfl, hPa, ba⟩
            have PA := Lib.hid hPa
            have DA := Lib.hid (D12.out.below ba)
            clear hPa ba D12
            go_wp2_with fail
            refine (admitP_any g _ v gs _ 3 2147483647 _ ma wa DA.out.g PA.out (tgP_length _ _ _) (by decide) (by decide) DA.out.k DA.out.ks (one_key _)).mono ?_
            rintro e wb ⟨rfl, Gb, Ab⟩
            have DB := Lib.hid (DA.out.ad Gb Ab HK.out HKS.out)
            clear Gb Ab PA DA
            rcases Classical.em ((2147483647 : Int) ≤ p') with hz | hz
            · have HZ := Lib.hid (show adP (one3 p') 3 2147483647 (tgP kyL 3 2147483647) = (170, one3 p') by rw [adP_one, if_pos hz])
              rw [HZ.out] at DB ⊢
              clear hz
              go_wp2_with fail
              go_ret
              exact ⟨rfl, DB.out.b⟩
            · have HZ := Lib.hid (show adP (one3 p') 3 2147483647 (tgP kyL 3 2147483647) = (0, one3 2147483647) by rw [adP_one, if_neg hz])
              rw [HZ.out] at DB ⊢
              clear hz
              go_wp2_with fail
              go_ret
              exact ⟨rfl, DB.out.b⟩
end Go.Proofs.YtjmgkjjcdnaapaaDoor

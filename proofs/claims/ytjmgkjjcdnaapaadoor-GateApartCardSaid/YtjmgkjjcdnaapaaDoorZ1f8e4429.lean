/- The law GateApart: what one account's user was admitted does not hang on what others sent. -/
import Derived.Test.YtjmgkjjcdnaapaaDoorZ38f9cd0a
namespace Go.Proofs.YtjmgkjjcdnaapaaDoor
open Go.RowKit Go.Proofs.YtjmgkjjcdnaapaaDoor.PMailA Go.Proofs.YtjmgkjjcdnaapaaDoorW.PrintWords Go.Proofs.YtjmgkjjcdnaapaaDoorW.PrintLast Go.Proofs.YtjmgkjjcdnaapaaDoorW.PrintMore
set_option linter.unusedSimpArgs false
set_option linter.unusedVariables false
set_option maxRecDepth 20000
def ap11.T : Bool × List (List Nat × List Nat) := (true, [([], []), ([0], [0]), ([1], [1]), ([2], [2]), ([2], [2]), ([3, 4, 2, 2], [2, 3, 4]), ([2], [2]), ([2], [2]), ([6, 7, 5, 2], [2, 6, 7]), ([5, 8, 2], [2, 5, 8]), ([2, 9], [2, 9])])
def ap11.B : List Nat := [0, 1, 3, 7, 7, 31, 7, 7, 255, 511, 1023]
theorem ap11.tab : rtab .any (opsOf Tryd.f6 11) = ap11.T := by kernel_rfl
theorem ap11.bits : waitsOk ap11.T.2 ap11.B = true := by kernel_rfl
def two (p r : Int) : List Sg := [⟨3, kyL, p⟩, ⟨9, kyL, r⟩]
def one9 (r : Int) : List Sg := [⟨9, kyL, r⟩]
theorem adP_two3 (p r q : Int) : adP (two p r) 3 q (tgP kyL 3 q) = if q ≤ p then (170, two p r) else (0, two q r) := by
  have hf : fN (two p r) 3 = some 0 := by simp [fN, two, List.findIdx_cons]
  rw [adP_some hf (s := ⟨3, kyL, p⟩) rfl, if_neg (fun h => h rfl)]
  rfl
theorem adP_two9 (p r q : Int) : adP (two p r) 9 q (tgP kyL 9 q) = if q ≤ r then (170, two p r) else (0, two p q) := by
  have hf : fN (two p r) 9 = some 1 := by simp [fN, two, List.findIdx_cons]
  rw [adP_some hf (s := ⟨9, kyL, r⟩) rfl, if_neg (fun h => h rfl)]
  rfl
theorem adP_one9 (r q : Int) : adP (one9 r) 9 q (tgP kyL 9 q) = if q ≤ r then (170, one9 r) else (0, one9 q) := by
  have hf : fN (one9 r) 9 = some 0 := by simp [fN, one9, List.findIdx_cons]
  rw [adP_some hf (s := ⟨9, kyL, r⟩) rfl, if_neg (fun h => h rfl)]
  rfl
theorem two_key (p r : Int) : ∀ x ∈ two p r, x.k.length ≤ 1000000 := fun x hx => by
  simp only [two, List.mem_cons, List.not_mem_nil, or_false] at hx
  rcases hx with rfl | rfl <;> (show kyL.length ≤ _; rw [kyL_length]; decide)
theorem one9_key (r : Int) : ∀ x ∈ one9 r, x.k.length ≤ 1000000 := fun x hx => by
  rw [List.mem_singleton.1 hx]; show kyL.length ≤ _; rw [kyL_length]; decide
/-- two gates. -/
structure GW2 (w0 w : World) (g : Nat) (v : Value) (gs : List Nat) (l : List Sg) (g' : Nat) (v' : Value) (gs' : List Nat) (l' : List Sg) : Prop where
  b : Below w0.heap.size w0 w
  g : GtA w0.heap.size w g v gs l
  g' : GtA w0.heap.size w g' v' gs' l'
  d : ∀ x ∈ gs, x ∉ gs'
  k : KsAt w
  ks : 0 < w.heap.size
section
variable {w0 w w' : World} {g : Nat} {v : Value} {gs : List Nat} {l : List Sg} {g' : Nat} {v' : Value} {gs' : List Nat} {l' l2 : List Sg}
theorem GW2.below (h : GW2 w0 w g v gs l g' v' gs' l') (hb : Below w.heap.size w w') : GW2 w0 w' g v gs l g' v' gs' l' :=
  ⟨h.b.trans (hb.mono h.b.size), h.g.below hb, h.g'.below hb, h.d, h.k.below h.ks hb, Nat.lt_of_lt_of_le h.ks hb.size⟩
theorem GW2.adA (h : GW2 w0 w g v gs l g' v' gs' l') (hg : GtA w0.heap.size w' g v gs l2) (ha : Ad1 w w' gs) (hk0 : KsAt w0) (hks0 : 0 < w0.heap.size) : GW2 w0 w' g v gs l2 g' v' gs' l' := by
  have hb0 := h.b.trans (ha.below (fun x hx => (h.g.typed x hx).1) h.b.size)
  exact ⟨hb0, hg, h.g'.other ha (fun x hx => (h.g.typed x hx).2) h.d, h.d, hk0.below hks0 hb0, Nat.lt_of_lt_of_le hks0 hb0.size⟩
theorem GW2.adB (h : GW2 w0 w g v gs l g' v' gs' l') (hg : GtA w0.heap.size w' g' v' gs' l2) (ha : Ad1 w w' gs') (hk0 : KsAt w0) (hks0 : 0 < w0.heap.size) : GW2 w0 w' g v gs l g' v' gs' l2 := by
  have hb0 := h.b.trans (ha.below (fun x hx => (h.g'.typed x hx).1) h.b.size)
  exact ⟨hb0, h.g.other ha (fun x hx => (h.g'.typed x hx).2) (fun x hx hx2 => h.d x hx2 hx), hg, h.d, hk0.below hks0 hb0, Nat.lt_of_lt_of_le hks0 hb0.size⟩
theorem GW2.start {w1 : World} (h : GW w0 w1 g v gs l) (hb : Below w1.heap.size w1 w) (h2 : GtA w.heap.size w' g' v' gs' l') (hb2 : Below w.heap.size w w') : GW2 w0 w' g v gs l g' v' gs' l' := by
  have hw := h.below hb
  have hw' := hw.below hb2
  exact ⟨hw'.b, hw'.g, h2.lower hw.b.size, fun x hx hx2 => by
    have h1 := (hw.g.typed x hx).2.elim fun cs hc => hc.lt
    have h3 := (h2.typed x hx2).1
    omega, hw'.k, hw'.ks⟩
end
set_option maxHeartbeats 6400000 in
theorem law_GateApart (A : Option Addr) (n c : Nat) (zs : List Int) (A' : Option Addr) (n' c' : Nat) (zs' : List Int) (w : World) (hS : Ints w A n zs) (hS' : Ints w A' n' zs') (hk : KsAt w) (hks : 0 < w.heap.size) :
    Calls Tryd.prog 6 #[.slice A n c, .slice A' n' c'] w fun e w' => e = .returned (.bool true) ∧ Below w.heap.size w w' := by
  have HS := Lib.hid hS
  have HS' := Lib.hid hS'
  have HK := Lib.hid hk
  have HKS := Lib.hid hks
  have hb1 : ∀ s : List UInt8, Tryd.prog.built 44 [(0, Value.int .i64 3), (1, Value.string ⟨s.toArray⟩)] = some #[.int .i64 3, .string ⟨s.toArray⟩] := fun s => by kernel_rfl
  have hb2 : ∀ s : List UInt8, Tryd.prog.built 44 [(0, Value.int .i64 9), (1, Value.string ⟨s.toArray⟩)] = some #[.int .i64 9, .string ⟨s.toArray⟩] := fun s => by kernel_rfl
  clear hk hks hS hS'
  go_enter Tryd.func6, Tryd.ntmps6
  go_wp2_with fail
  refine (new_any _ 2 2 [⟨3, kyL⟩, ⟨9, kyL⟩] _ (acc_lit w [⟨3, kyL⟩, ⟨9, kyL⟩] (by decide)) (by decide)).mono ?_
  rintro e w1 ⟨g, v, gs, rfl, G1, b1⟩
  have D1 := Lib.hid (show GW w w1 g v gs (two 0 0) from GW.start HK.out HKS.out ((Below.refl _ _).alloc (Nat.le_refl _) _) G1 b1)
  clear G1 b1
  go_wp2_with fail
  refine (new_any _ 1 1 [⟨9, kyL⟩] _ (acc_lit w1 [⟨9, kyL⟩] (by decide)) (by decide)).mono ?_
  rintro e w2 ⟨g', v', gs', rfl, G2, b2⟩
  have D2 := Lib.hid (show GW2 w w2 g v gs (two 0 0) g' v' gs' (one9 0) from GW2.start D1.out ((Below.refl _ _).alloc (Nat.le_refl _) _) G2 b2)
  clear G2 b2 D1
  go_wp2_with fail
  refine (works20_any w2 D2.out.k D2.out.ks).mono ?_
  rintro e w3 ⟨rfl, b3⟩
  have D3 := Lib.hid (D2.out.below b3)
  clear b3 D2
  go_wp2_with fail
  go_loopg [9] 41 (fun kq v9 wr => ∃ (k : Nat) (p r : Int), kq = 41 - k ∧ k ≤ 40 ∧ k ≤ n ∧ v9 = .int .i64 (k : Nat) ∧ Hid (GW2 w wr g v gs (two p r) g' v' gs' (one9 r)))
  case atStart => exact ⟨0, 0, 0, rfl, by decide, Nat.zero_le _, rfl, D3⟩
  case round =>
    clear D3
    obtain ⟨k, p, r, rfl, hk, hkn, rfl, D⟩ := hrel
    by_cases hgo : k < n ∧ k < 40
    · obtain ⟨h1, h2⟩ := hgo
      obtain ⟨ib, io, eA, hib, hic⟩ := HS.out.2 (by omega)
      subst eA
      obtain ⟨x, hx⟩ : ∃ x, Hid (zs.getD k 0 = x) := ⟨_, Lib.hid rfl⟩
      have HC := Lib.hid (show ∀ W, Below w.heap.size w W → W.cell? ⟨ib, io + k, none⟩ = some (.int .i64 x) from fun W hb => by rw [← hx.out]; exact (hb.cell (p := ⟨ib, io + k, none⟩) hib).trans (hic k h1))
      have e1 : 0 ≤ (k : Int) ∧ (k : Int) < (n : Int) := by omega
      have e2 : (k : Int) < 40 := by omega
      clear hic hx
      by_cases h3 : k < n'
      · obtain ⟨ib', io', eA', hib', hic'⟩ := HS'.out.2 (by omega)
        subst eA'
        obtain ⟨y, hy⟩ : ∃ y, Hid (zs'.getD k 0 = y) := ⟨_, Lib.hid rfl⟩
        have hcy : wr.cell? ⟨ib', io' + k, none⟩ = some (.int .i64 y) := by rw [← hy.out]; exact (D.out.b.cell (p := ⟨ib', io' + k, none⟩) hib').trans (hic' k h3)
        have e3 : 0 ≤ (k : Int) ∧ (k : Int) < (n' : Int) := by omega
        have hb := sq_bd y 1000 (by decide) (by decide)
        obtain ⟨q0, hq0⟩ : ∃ q, wrap64 (1 + wrap64 ((IntKind.u64.wrap y).tmod 1000)) = q := ⟨_, rfl⟩
        rw [hq0] at hb
        have HQ0 := Lib.hid (show 1 ≤ q0 ∧ q0 ≤ 2147483647 by omega)
        have HQE0 := Lib.hid hq0
        clear hb hq0 hic' hy
        go_wp2_with fail
        rw [HQE0.out]
        refine (pull_any kyL q0 wr kyL_length HQ0.out D.out.k D.out.ks).mono ?_
        rintro e w3 ⟨m0, rfl, hP, b3⟩
        have P3 := Lib.hid hP
        have D3 := Lib.hid (D.out.below b3)
        clear hP b3 D hcy
        go_wp2_with fail
        refine (admitP_any g _ v gs _ 3 q0 _ m0 w3 D3.out.g P3.out (tgP_length _ _ _) (by decide) HQ0.out D3.out.k D3.out.ks (two_key _ _)).mono ?_
        rintro e wx ⟨rfl, G4, A4⟩
        obtain ⟨z0, P, hz0⟩ : ∃ z P, adP (two p r) 3 q0 (tgP kyL 3 q0) = (z, two P r) := by
          rw [adP_two3]
          by_cases h : q0 ≤ p
          · exact ⟨170, p, by rw [if_pos h]⟩
          · exact ⟨0, q0, by rw [if_neg h]⟩
        rw [hz0] at G4 ⊢
        have DX := Lib.hid (D3.out.adA G4 A4 HK.out HKS.out)
        clear G4 A4 P3 D3 HQ0 HQE0 hz0
        have hc := HC.out _ DX.out.b
        have HSG := Lib.hid (fun (q : Int) (hq : 1 ≤ q ∧ q ≤ 2147483647) => signP_any kyL 9 q wx kyL_length (by decide) hq DX.out.k DX.out.ks)
        have hb := sq_bd x 100 (by decide) (by decide)
        obtain ⟨q, hq⟩ : ∃ q, wrap64 (1 + wrap64 ((IntKind.u64.wrap x).tmod 100)) = q := ⟨_, rfl⟩
        rw [hq] at hb
        have HQ := Lib.hid (show 1 ≤ q ∧ q ≤ 2147483647 by omega)
        have HQE := Lib.hid hq
        clear hb hq
        go_wp2_with fail
        rw [HQE.out]
        refine (HSG.out q HQ.out).mono ?_
        rintro e w5 ⟨m, rfl, hP, b5⟩
        obtain ⟨A5, c5, A6, c6, em, h5, h6⟩ := hP
        have H5 := Lib.hid h5
        have H6 := Lib.hid h6
        have D5 := Lib.hid (DX.out.below b5)
        clear b5 DX HSG HQE h5 h6 hc
        obtain ⟨T, ET⟩ : ∃ T, Hid ((⟨(tgP kyL 9 q).toArray⟩ : ByteArray) = T) := ⟨_, Lib.hid rfl⟩
        rw [ET.out] at em
        subst em
        go_upto_region 11 with fail
        refine gworld (fun W => Hid (Blk W w5.heap.size 25 #[.int .i64 2, .int .i64 9, .int .i64 q, .string ⟨#[]⟩, .string T, .slice A5 ([] : List S68).length c5, .slice A6 ([] : List ByteArray).length c6]) ∧ Hid (GW2 w W g v gs (two P r) g' v' gs' (one9 r))) ⟨Lib.hid (Blk.new _ _ _), Lib.hid (D5.out.below ((Below.refl _ _).alloc (Nat.le_refl _) _))⟩ ?_
        obtain ⟨bm, hbm⟩ : ∃ b, Hid (w5.heap.size = b) := ⟨_, Lib.hid rfl⟩
        rw [hbm.out]
        clear D5
        rintro w6 ⟨HM, D6⟩
        have HZ := Lib.hid (show ∃ z r', adP (two P r) 9 q (tgP kyL 9 q) = (z, two P r') ∧ adP (one9 r) 9 q (tgP kyL 9 q) = (z, one9 r') by
          rw [adP_two9, adP_one9]
          by_cases h : q ≤ r
          · exact ⟨170, r, by rw [if_pos h], by rw [if_pos h]⟩
          · exact ⟨0, q, by rw [if_neg h], by rw [if_neg h]⟩)
        obtain ⟨z, r', hz1, hz2⟩ := HZ.out
        have HPM := Lib.hid (show ∀ W, Pm W (.agg #[.int .i64 2, .int .i64 9, .int .i64 q, .string ⟨#[]⟩, .string T, .slice A5 ([] : List S68).length c5, .slice A6 ([] : List ByteArray).length c6]) 9 q (tgP kyL 9 q) from fun W => ⟨A5, c5, A6, c6, by rw [ET.out], H5.out.empty, H6.out.empty⟩)
        have HCA := Lib.hid (show ∀ W, GW2 w W g v gs (two P r) g' v' gs' (one9 r) → Calls Tryd.prog 17 #[.pointer (some ⟨g, 0, none⟩), .agg #[.int .i64 2, .int .i64 9, .int .i64 q, .string ⟨#[]⟩, .string T, .slice A5 ([] : List S68).length c5, .slice A6 ([] : List ByteArray).length c6]] W fun e W' => e = .returned (.int .i64 z) ∧ GW2 w W' g v gs (two P r') g' v' gs' (one9 r) ∧ Ad1 W W' gs from fun W hG =>
          (admitP_any g _ v gs _ 9 q _ _ W hG.g (HPM.out W) (tgP_length _ _ _) (by decide) HQ.out hG.k hG.ks (two_key _ _)).mono (fun e W' ⟨he, hg, ha⟩ => by rw [hz1] at he hg; exact ⟨he, hG.adA hg ha HK.out HKS.out, ha⟩))
        have HCB := Lib.hid (show ∀ W, GW2 w W g v gs (two P r') g' v' gs' (one9 r) → Calls Tryd.prog 17 #[.pointer (some ⟨g', 0, none⟩), .agg #[.int .i64 2, .int .i64 9, .int .i64 q, .string ⟨#[]⟩, .string T, .slice A5 ([] : List S68).length c5, .slice A6 ([] : List ByteArray).length c6]] W fun e W' => e = .returned (.int .i64 z) ∧ GW2 w W' g v gs (two P r') g' v' gs' (one9 r') ∧ Ad1 W W' gs' from fun W hG =>
          (admitP_any g' _ v' gs' _ 9 q _ _ W hG.g' (HPM.out W) (tgP_length _ _ _) (by decide) HQ.out hG.k hG.ks (one9_key _)).mono (fun e W' ⟨he, hg, ha⟩ => by rw [hz2] at he hg; exact ⟨he, hG.adB hg ha HK.out HKS.out, ha⟩))
        clear hz1 hz2 HZ HPM
        have DD := Lib.hid (D6.out.below (below_drewN (Below.refl _ _) 1))
        have ML := Lib.hid (show ∀ W, Blk W bm 25 #[.int .i64 2, .int .i64 9, .int .i64 q, .string ⟨#[]⟩, .string T, .slice A5 ([] : List S68).length c5, .slice A6 ([] : List ByteArray).length c6] → W.cell? ⟨bm, 0, none⟩ = some (.int .i64 2) ∧ W.cell? ⟨bm, 1, none⟩ = some (.int .i64 9) ∧ W.cell? ⟨bm, 2, none⟩ = some (.int .i64 q) ∧ W.cell? ⟨bm, 3, none⟩ = some (.string ⟨#[]⟩) ∧ W.cell? ⟨bm, 4, none⟩ = some (.string T) ∧ W.cell? ⟨bm, 5, none⟩ = some (.slice A5 ([] : List S68).length c5) ∧ W.cell? ⟨bm, 6, none⟩ = some (.slice A6 ([] : List ByteArray).length c6) from fun W h => ⟨h.cell 0, h.cell 1, h.cell 2, h.cell 3, h.cell 4, h.cell 5, h.cell 6⟩)
        have S0 := ML.out w6.drew HM.out.drew
        refine start_ (n := 11) (S := fun W => W.cell? ⟨bm, 0, none⟩ = some (.int .i64 2) ∧ W.cell? ⟨bm, 1, none⟩ = some (.int .i64 9) ∧ W.cell? ⟨bm, 2, none⟩ = some (.int .i64 q) ∧ W.cell? ⟨bm, 3, none⟩ = some (.string ⟨#[]⟩) ∧ W.cell? ⟨bm, 4, none⟩ = some (.string T) ∧ W.cell? ⟨bm, 5, none⟩ = some (.slice A5 ([] : List S68).length c5) ∧ W.cell? ⟨bm, 6, none⟩ = some (.slice A6 ([] : List ByteArray).length c6)) (ds := []) #[false, false, false, false, false, false, false, false, false, false, false] (by kernel_rfl) rfl rfl S0 (fun hHeld => ?_)
        refine with_tabW ap11.tab ap11.bits (fun HT_ HW_ => ?_)
        refine pure_ (i := 0) (N := some 83) (v := ?_) (a' := ?_) #[true, false, false, false, false, false, false, false, false, false, false] rfl rfl (any_of HT_.out (by kernel_rfl)) (fun _ _ _ h => h) (Or.inl ⟨by rfl, ?_⟩) ?_ ?_
        rotate_left
        · intro w'
          go_simp
          try with_reducible rfl
        rotate_left
        · simp only [Act.put, List.setIfInBounds_toArray, List.set_cons_zero, List.set_cons_succ]
          rfl
        refine pure_ (i := 1) (N := some 84) (v := ?_) (a' := ?_) #[true, true, false, false, false, false, false, false, false, false, false] rfl rfl (any_of HT_.out (by kernel_rfl)) (fun _ _ _ h => h) (Or.inl ⟨by rfl, ?_⟩) ?_ ?_
        rotate_left
        · intro w'
          go_simp
          try with_reducible rfl
        rotate_left
        · simp only [Act.put, List.setIfInBounds_toArray, List.set_cons_zero, List.set_cons_succ]
          rfl
        refine pure_ (i := 2) (N := some 85) (v := ?_) (a' := ?_) #[true, true, true, false, false, false, false, false, false, false, false] rfl rfl (any_of HT_.out (by kernel_rfl)) (fun _ _ _ h => h) (Or.inl ⟨by rfl, ?_⟩) ?_ ?_
        rotate_left
        · intro w'
          go_simp
          try with_reducible rfl
        rotate_left
        · simp only [Act.put, List.setIfInBounds_toArray, List.set_cons_zero, List.set_cons_succ]
          rfl
        refine pure_ (i := 3) (N := some 86) (v := ?_) (a' := ?_) #[true, true, true, true, false, false, false, false, false, false, false] rfl rfl (any_of HT_.out (by kernel_rfl)) (fun _ _ _ h => h) (Or.inl ⟨by rfl, ?_⟩) ?_ ?_
        rotate_left
        · intro w'
          go_simp
          try with_reducible rfl
        rotate_left
        · simp only [Act.put, List.setIfInBounds_toArray, List.set_cons_zero, List.set_cons_succ]
          rfl
        refine pure_ (i := 6) (N := some 89) (v := ?_) (a' := ?_) #[true, true, true, true, false, false, true, false, false, false, false] rfl rfl (any_of HT_.out (by kernel_rfl)) (fun _ _ _ h => h) (Or.inl ⟨by rfl, ?_⟩) ?_ ?_
        rotate_left
        · intro w'
          go_simp
          try with_reducible rfl
        rotate_left
        · simp only [Act.put, List.setIfInBounds_toArray, List.set_cons_zero, List.set_cons_succ]
          rfl
        refine take_ (i := 4) (N := some 87) (v := ?_) (a' := ?_) #[true, true, true, true, true, false, true, false, false, false, false] rfl rfl (take_ofW HT_.out HW_.out (by kernel_rfl)) (fun _ _ _ h => h) (Or.inl ⟨by rfl, ?_⟩) hHeld ?_ ?_
        rotate_left
        · rintro w' ⟨s0, s1, s2, s3, s4, s5, s6⟩
          go_simp
          try with_reducible rfl
        rotate_left
        · simp only [Act.put, List.setIfInBounds_toArray, List.set_cons_zero, List.set_cons_succ]
          rfl
        refine take_ (i := 7) (N := some 90) (v := ?_) (a' := ?_) #[true, true, true, true, true, false, true, true, false, false, false] rfl rfl (take_ofW HT_.out HW_.out (by kernel_rfl)) (fun _ _ _ h => h) (Or.inl ⟨by rfl, ?_⟩) hHeld ?_ ?_
        rotate_left
        · rintro w' ⟨s0, s1, s2, s3, s4, s5, s6⟩
          go_simp
          try with_reducible rfl
        rotate_left
        · simp only [Act.put, List.setIfInBounds_toArray, List.set_cons_zero, List.set_cons_succ]
          rfl
        refine one_ (i := 5) (N := some 88) #[true, true, true, true, true, true, true, true, false, false, false] rfl rfl (one_of HT_.out (by kernel_rfl)) (by decide) (fun K hK => ?_)
        refine goes_ Tryd.func17 (by kernel_rfl) rfl #[.pointer (some ⟨g, 0, none⟩), .agg #[.int .i64 2, .int .i64 9, .int .i64 q, .string ⟨#[]⟩, .string T, .slice A5 ([] : List S68).length c5, .slice A6 ([] : List ByteArray).length c6]] (by rfl) rfl rfl (by first | done | rfl | (simp only [List.map_toArray, List.map_cons, List.map_nil]; done) | (simp only [List.map_toArray, List.map_cons, List.map_nil]; rfl)) ?_
        refine (HCA.out _ DD.out).mono ?_
        rintro e' w7 ⟨rfl, D7, A7⟩
        refine ⟨_, rfl, ?_⟩
        refine hK.out _ _ (ML.out _ (A7.blk (fun x hx => (DD.out.g.typed x hx).2) HM.out.drew (by decide))) (fun hHeld => ?_)
        clear hK K
        refine norm_ (a' := ?_) ?_ ?_
        rotate_left
        · show Act.put _ (some 88) _ = _
          simp only [Act.put, List.setIfInBounds_toArray, List.set_cons_zero, List.set_cons_succ]
          rfl
        refine one_ (i := 8) (N := some 91) #[true, true, true, true, true, true, true, true, true, false, false] rfl rfl (one_of HT_.out (by kernel_rfl)) (by decide) (fun K hK => ?_)
        refine goes_ Tryd.func17 (by kernel_rfl) rfl #[.pointer (some ⟨g', 0, none⟩), .agg #[.int .i64 2, .int .i64 9, .int .i64 q, .string ⟨#[]⟩, .string T, .slice A5 ([] : List S68).length c5, .slice A6 ([] : List ByteArray).length c6]] (by rfl) rfl rfl (by first | done | rfl | (simp only [List.map_toArray, List.map_cons, List.map_nil]; done) | (simp only [List.map_toArray, List.map_cons, List.map_nil]; rfl)) ?_
        refine (HCB.out _ D7).mono ?_
        rintro e' w8 ⟨rfl, D8, A8⟩
        refine ⟨_, rfl, ?_⟩
        refine hK.out _ _ (ML.out _ (A8.blk (fun x hx => (D7.g'.typed x hx).2) (A7.blk (fun x hx => (DD.out.g.typed x hx).2) HM.out.drew (by decide)) (by decide))) (fun hHeld => ?_)
        clear hK K
        refine norm_ (a' := ?_) ?_ ?_
        rotate_left
        · show Act.put _ (some 91) _ = _
          simp only [Act.put, List.setIfInBounds_toArray, List.set_cons_zero, List.set_cons_succ]
          rfl
        refine pure_ (i := 9) (N := some 92) (v := ?_) (a' := ?_) #[true, true, true, true, true, true, true, true, true, true, false] rfl rfl (any_of HT_.out (by kernel_rfl)) (fun _ _ _ h => h) (Or.inl ⟨by rfl, ?_⟩) ?_ ?_
        rotate_left
        · intro w'
          go_simp
          try with_reducible rfl
        rotate_left
        · simp only [Act.put, List.setIfInBounds_toArray, List.set_cons_zero, List.set_cons_succ]
          rfl
        refine pure_ (i := 10) (N := some 93) (v := ?_) (a' := ?_) #[true, true, true, true, true, true, true, true, true, true, true] rfl rfl (any_of HT_.out (by kernel_rfl)) (fun _ _ _ h => h) (Or.inl ⟨by rfl, ?_⟩) ?_ ?_
        rotate_left
        · intro w'
          go_simp
          try with_reducible rfl
        rotate_left
        · simp only [Act.put, List.setIfInBounds_toArray, List.set_cons_zero, List.set_cons_succ]
          rfl
        refine done_ (done_of HT_.out (by kernel_rfl)) ?_
        clear HT_ HW_
        have D9 := Lib.hid D8
        clear D8 A8 D7 A7 S0 ML DD HCA HCB hHeld D6 HM
        try simp only [bne_self_eq_false]
        go_wp2_with fail
        go_roundg (41 - (k + 1))
        case measure => omega
        case rel => exact ⟨k + 1, P, r', rfl, by omega, by omega, by first | rfl | (congr 1; omega), D9⟩
      · obtain ⟨P, hP⟩ : ∃ P, P = p := ⟨_, rfl⟩
        obtain ⟨wx, hwx⟩ : ∃ W, W = wr := ⟨_, rfl⟩
        rw [← hP] at D
        rw [← hwx] at D ⊢
        have DX := Lib.hid D.out
        have h3' : n' ≤ k := by omega
        clear hP hwx D
        have hc := HC.out _ DX.out.b
        have HSG := Lib.hid (fun (q : Int) (hq : 1 ≤ q ∧ q ≤ 2147483647) => signP_any kyL 9 q wx kyL_length (by decide) hq DX.out.k DX.out.ks)
        have hb := sq_bd x 100 (by decide) (by decide)
        obtain ⟨q, hq⟩ : ∃ q, wrap64 (1 + wrap64 ((IntKind.u64.wrap x).tmod 100)) = q := ⟨_, rfl⟩
        rw [hq] at hb
        have HQ := Lib.hid (show 1 ≤ q ∧ q ≤ 2147483647 by omega)
        have HQE := Lib.hid hq
        clear hb hq
        go_wp2_with fail
        rw [HQE.out]
        refine (HSG.out q HQ.out).mono ?_
        rintro e w5 ⟨m, rfl, hP, b5⟩
        obtain ⟨A5, c5, A6, c6, em, h5, h6⟩ := hP
        have H5 := Lib.hid h5
        have H6 := Lib.hid h6
        have D5 := Lib.hid (DX.out.below b5)
        clear b5 DX HSG HQE h5 h6 hc
        obtain ⟨T, ET⟩ : ∃ T, Hid ((⟨(tgP kyL 9 q).toArray⟩ : ByteArray) = T) := ⟨_, Lib.hid rfl⟩
        rw [ET.out] at em
        subst em
        go_upto_region 11 with fail
        refine gworld (fun W => Hid (Blk W w5.heap.size 25 #[.int .i64 2, .int .i64 9, .int .i64 q, .string ⟨#[]⟩, .string T, .slice A5 ([] : List S68).length c5, .slice A6 ([] : List ByteArray).length c6]) ∧ Hid (GW2 w W g v gs (two P r) g' v' gs' (one9 r))) ⟨Lib.hid (Blk.new _ _ _), Lib.hid (D5.out.below ((Below.refl _ _).alloc (Nat.le_refl _) _))⟩ ?_
        obtain ⟨bm, hbm⟩ : ∃ b, Hid (w5.heap.size = b) := ⟨_, Lib.hid rfl⟩
        rw [hbm.out]
        clear D5
        rintro w6 ⟨HM, D6⟩
        have HZ := Lib.hid (show ∃ z r', adP (two P r) 9 q (tgP kyL 9 q) = (z, two P r') ∧ adP (one9 r) 9 q (tgP kyL 9 q) = (z, one9 r') by
          rw [adP_two9, adP_one9]
          by_cases h : q ≤ r
          · exact ⟨170, r, by rw [if_pos h], by rw [if_pos h]⟩
          · exact ⟨0, q, by rw [if_neg h], by rw [if_neg h]⟩)
        obtain ⟨z, r', hz1, hz2⟩ := HZ.out
        have HPM := Lib.hid (show ∀ W, Pm W (.agg #[.int .i64 2, .int .i64 9, .int .i64 q, .string ⟨#[]⟩, .string T, .slice A5 ([] : List S68).length c5, .slice A6 ([] : List ByteArray).length c6]) 9 q (tgP kyL 9 q) from fun W => ⟨A5, c5, A6, c6, by rw [ET.out], H5.out.empty, H6.out.empty⟩)
        have HCA := Lib.hid (show ∀ W, GW2 w W g v gs (two P r) g' v' gs' (one9 r) → Calls Tryd.prog 17 #[.pointer (some ⟨g, 0, none⟩), .agg #[.int .i64 2, .int .i64 9, .int .i64 q, .string ⟨#[]⟩, .string T, .slice A5 ([] : List S68).length c5, .slice A6 ([] : List ByteArray).length c6]] W fun e W' => e = .returned (.int .i64 z) ∧ GW2 w W' g v gs (two P r') g' v' gs' (one9 r) ∧ Ad1 W W' gs from fun W hG =>
          (admitP_any g _ v gs _ 9 q _ _ W hG.g (HPM.out W) (tgP_length _ _ _) (by decide) HQ.out hG.k hG.ks (two_key _ _)).mono (fun e W' ⟨he, hg, ha⟩ => by rw [hz1] at he hg; exact ⟨he, hG.adA hg ha HK.out HKS.out, ha⟩))
        have HCB := Lib.hid (show ∀ W, GW2 w W g v gs (two P r') g' v' gs' (one9 r) → Calls Tryd.prog 17 #[.pointer (some ⟨g', 0, none⟩), .agg #[.int .i64 2, .int .i64 9, .int .i64 q, .string ⟨#[]⟩, .string T, .slice A5 ([] : List S68).length c5, .slice A6 ([] : List ByteArray).length c6]] W fun e W' => e = .returned (.int .i64 z) ∧ GW2 w W' g v gs (two P r') g' v' gs' (one9 r') ∧ Ad1 W W' gs' from fun W hG =>
          (admitP_any g' _ v' gs' _ 9 q _ _ W hG.g' (HPM.out W) (tgP_length _ _ _) (by decide) HQ.out hG.k hG.ks (one9_key _)).mono (fun e W' ⟨he, hg, ha⟩ => by rw [hz2] at he hg; exact ⟨he, hG.adB hg ha HK.out HKS.out, ha⟩))
        clear hz1 hz2 HZ HPM
        have DD := Lib.hid (D6.out.below (below_drewN (Below.refl _ _) 1))
        have ML := Lib.hid (show ∀ W, Blk W bm 25 #[.int .i64 2, .int .i64 9, .int .i64 q, .string ⟨#[]⟩, .string T, .slice A5 ([] : List S68).length c5, .slice A6 ([] : List ByteArray).length c6] → W.cell? ⟨bm, 0, none⟩ = some (.int .i64 2) ∧ W.cell? ⟨bm, 1, none⟩ = some (.int .i64 9) ∧ W.cell? ⟨bm, 2, none⟩ = some (.int .i64 q) ∧ W.cell? ⟨bm, 3, none⟩ = some (.string ⟨#[]⟩) ∧ W.cell? ⟨bm, 4, none⟩ = some (.string T) ∧ W.cell? ⟨bm, 5, none⟩ = some (.slice A5 ([] : List S68).length c5) ∧ W.cell? ⟨bm, 6, none⟩ = some (.slice A6 ([] : List ByteArray).length c6) from fun W h => ⟨h.cell 0, h.cell 1, h.cell 2, h.cell 3, h.cell 4, h.cell 5, h.cell 6⟩)
        have S0 := ML.out w6.drew HM.out.drew
        refine start_ (n := 11) (S := fun W => W.cell? ⟨bm, 0, none⟩ = some (.int .i64 2) ∧ W.cell? ⟨bm, 1, none⟩ = some (.int .i64 9) ∧ W.cell? ⟨bm, 2, none⟩ = some (.int .i64 q) ∧ W.cell? ⟨bm, 3, none⟩ = some (.string ⟨#[]⟩) ∧ W.cell? ⟨bm, 4, none⟩ = some (.string T) ∧ W.cell? ⟨bm, 5, none⟩ = some (.slice A5 ([] : List S68).length c5) ∧ W.cell? ⟨bm, 6, none⟩ = some (.slice A6 ([] : List ByteArray).length c6)) (ds := []) #[false, false, false, false, false, false, false, false, false, false, false] (by kernel_rfl) rfl rfl S0 (fun hHeld => ?_)
        refine with_tabW ap11.tab ap11.bits (fun HT_ HW_ => ?_)
        refine pure_ (i := 0) (N := some 83) (v := ?_) (a' := ?_) #[true, false, false, false, false, false, false, false, false, false, false] rfl rfl (any_of HT_.out (by kernel_rfl)) (fun _ _ _ h => h) (Or.inl ⟨by rfl, ?_⟩) ?_ ?_
        rotate_left
        · intro w'
          go_simp
          try with_reducible rfl
        rotate_left
        · simp only [Act.put, List.setIfInBounds_toArray, List.set_cons_zero, List.set_cons_succ]
          rfl
        refine pure_ (i := 1) (N := some 84) (v := ?_) (a' := ?_) #[true, true, false, false, false, false, false, false, false, false, false] rfl rfl (any_of HT_.out (by kernel_rfl)) (fun _ _ _ h => h) (Or.inl ⟨by rfl, ?_⟩) ?_ ?_
        rotate_left
        · intro w'
          go_simp
          try with_reducible rfl
        rotate_left
        · simp only [Act.put, List.setIfInBounds_toArray, List.set_cons_zero, List.set_cons_succ]
          rfl
        refine pure_ (i := 2) (N := some 85) (v := ?_) (a' := ?_) #[true, true, true, false, false, false, false, false, false, false, false] rfl rfl (any_of HT_.out (by kernel_rfl)) (fun _ _ _ h => h) (Or.inl ⟨by rfl, ?_⟩) ?_ ?_
        rotate_left
        · intro w'
          go_simp
          try with_reducible rfl
        rotate_left
        · simp only [Act.put, List.setIfInBounds_toArray, List.set_cons_zero, List.set_cons_succ]
          rfl
        refine pure_ (i := 3) (N := some 86) (v := ?_) (a' := ?_) #[true, true, true, true, false, false, false, false, false, false, false] rfl rfl (any_of HT_.out (by kernel_rfl)) (fun _ _ _ h => h) (Or.inl ⟨by rfl, ?_⟩) ?_ ?_
        rotate_left
        · intro w'
          go_simp
          try with_reducible rfl
        rotate_left
        · simp only [Act.put, List.setIfInBounds_toArray, List.set_cons_zero, List.set_cons_succ]
          rfl
        refine pure_ (i := 6) (N := some 89) (v := ?_) (a' := ?_) #[true, true, true, true, false, false, true, false, false, false, false] rfl rfl (any_of HT_.out (by kernel_rfl)) (fun _ _ _ h => h) (Or.inl ⟨by rfl, ?_⟩) ?_ ?_
        rotate_left
        · intro w'
          go_simp
          try with_reducible rfl
        rotate_left
        · simp only [Act.put, List.setIfInBounds_toArray, List.set_cons_zero, List.set_cons_succ]
          rfl
        refine take_ (i := 4) (N := some 87) (v := ?_) (a' := ?_) #[true, true, true, true, true, false, true, false, false, false, false] rfl rfl (take_ofW HT_.out HW_.out (by kernel_rfl)) (fun _ _ _ h => h) (Or.inl ⟨by rfl, ?_⟩) hHeld ?_ ?_
        rotate_left
        · rintro w' ⟨s0, s1, s2, s3, s4, s5, s6⟩
          go_simp
          try with_reducible rfl
        rotate_left
        · simp only [Act.put, List.setIfInBounds_toArray, List.set_cons_zero, List.set_cons_succ]
          rfl
        refine take_ (i := 7) (N := some 90) (v := ?_) (a' := ?_) #[true, true, true, true, true, false, true, true, false, false, false] rfl rfl (take_ofW HT_.out HW_.out (by kernel_rfl)) (fun _ _ _ h => h) (Or.inl ⟨by rfl, ?_⟩) hHeld ?_ ?_
        rotate_left
        · rintro w' ⟨s0, s1, s2, s3, s4, s5, s6⟩
          go_simp
          try with_reducible rfl
        rotate_left
        · simp only [Act.put, List.setIfInBounds_toArray, List.set_cons_zero, List.set_cons_succ]
          rfl
        refine one_ (i := 5) (N := some 88) #[true, true, true, true, true, true, true, true, false, false, false] rfl rfl (one_of HT_.out (by kernel_rfl)) (by decide) (fun K hK => ?_)
        refine goes_ Tryd.func17 (by kernel_rfl) rfl #[.pointer (some ⟨g, 0, none⟩), .agg #[.int .i64 2, .int .i64 9, .int .i64 q, .string ⟨#[]⟩, .string T, .slice A5 ([] : List S68).length c5, .slice A6 ([] : List ByteArray).length c6]] (by rfl) rfl rfl (by first | done | rfl | (simp only [List.map_toArray, List.map_cons, List.map_nil]; done) | (simp only [List.map_toArray, List.map_cons, List.map_nil]; rfl)) ?_
        refine (HCA.out _ DD.out).mono ?_
        rintro e' w7 ⟨rfl, D7, A7⟩
        refine ⟨_, rfl, ?_⟩
        refine hK.out _ _ (ML.out _ (A7.blk (fun x hx => (DD.out.g.typed x hx).2) HM.out.drew (by decide))) (fun hHeld => ?_)
        clear hK K
        refine norm_ (a' := ?_) ?_ ?_
        rotate_left
        · show Act.put _ (some 88) _ = _
          simp only [Act.put, List.setIfInBounds_toArray, List.set_cons_zero, List.set_cons_succ]
          rfl
        refine one_ (i := 8) (N := some 91) #[true, true, true, true, true, true, true, true, true, false, false] rfl rfl (one_of HT_.out (by kernel_rfl)) (by decide) (fun K hK => ?_)
        refine goes_ Tryd.func17 (by kernel_rfl) rfl #[.pointer (some ⟨g', 0, none⟩), .agg #[.int .i64 2, .int .i64 9, .int .i64 q, .string ⟨#[]⟩, .string T, .slice A5 ([] : List S68).length c5, .slice A6 ([] : List ByteArray).length c6]] (by rfl) rfl rfl (by first | done | rfl | (simp only [List.map_toArray, List.map_cons, List.map_nil]; done) | (simp only [List.map_toArray, List.map_cons, List.map_nil]; rfl)) ?_
        refine (HCB.out _ D7).mono ?_
        rintro e' w8 ⟨rfl, D8, A8⟩
        refine ⟨_, rfl, ?_⟩
        refine hK.out _ _ (ML.out _ (A8.blk (fun x hx => (D7.g'.typed x hx).2) (A7.blk (fun x hx => (DD.out.g.typed x hx).2) HM.out.drew (by decide)) (by decide))) (fun hHeld => ?_)
        clear hK K
        refine norm_ (a' := ?_) ?_ ?_
        rotate_left
        · show Act.put _ (some 91) _ = _
          simp only [Act.put, List.setIfInBounds_toArray, List.set_cons_zero, List.set_cons_succ]
          rfl
        refine pure_ (i := 9) (N := some 92) (v := ?_) (a' := ?_) #[true, true, true, true, true, true, true, true, true, true, false] rfl rfl (any_of HT_.out (by kernel_rfl)) (fun _ _ _ h => h) (Or.inl ⟨by rfl, ?_⟩) ?_ ?_
        rotate_left
        · intro w'
          go_simp
          try with_reducible rfl
        rotate_left
        · simp only [Act.put, List.setIfInBounds_toArray, List.set_cons_zero, List.set_cons_succ]
          rfl
        refine pure_ (i := 10) (N := some 93) (v := ?_) (a' := ?_) #[true, true, true, true, true, true, true, true, true, true, true] rfl rfl (any_of HT_.out (by kernel_rfl)) (fun _ _ _ h => h) (Or.inl ⟨by rfl, ?_⟩) ?_ ?_
        rotate_left
        · intro w'
          go_simp
          try with_reducible rfl
        rotate_left
        · simp only [Act.put, List.setIfInBounds_toArray, List.set_cons_zero, List.set_cons_succ]
          rfl
        refine done_ (done_of HT_.out (by kernel_rfl)) ?_
        clear HT_ HW_
        have D9 := Lib.hid D8
        clear D8 A8 D7 A7 S0 ML DD HCA HCB hHeld D6 HM
        try simp only [bne_self_eq_false]
        go_wp2_with fail
        go_roundg (41 - (k + 1))
        case measure => omega
        case rel => exact ⟨k + 1, P, r', rfl, by omega, by omega, by first | rfl | (congr 1; omega), D9⟩
    · rcases Nat.lt_or_ge k n with h1 | h1
      · obtain rfl : k = 40 := by omega
        have h2 : (40 : Int) < (n : Int) := by omega
        clear hgo
        have hfa : fN (two p r) 9 = some 1 := by simp [fN, two, List.findIdx_cons]
        have hfb : fN (one9 r) 9 = some 0 := by simp [fN, one9, List.findIdx_cons]
        have HFA := Lib.hid hfa
        have HFB := Lib.hid hfb
        clear hfa hfb
        go_wp2_with fail
        refine (last_any g _ v gs _ 9 wr D.out.g _ HFA.out).mono ?_
        rintro e w5 ⟨rfl, b5⟩
        have D5 := Lib.hid (D.out.below b5)
        have el : lastV (two p r) (some 1) = (r, 0) := rfl
        rw [el]
        clear b5 D el
        go_wp2_with fail
        refine (last_any g' _ v' gs' _ 9 w5 D5.out.g' _ HFB.out).mono ?_
        rintro e w6 ⟨rfl, b6⟩
        have D6 := Lib.hid (D5.out.below b6)
        have el : lastV (one9 r) (some 0) = (r, 0) := rfl
        rw [el]
        clear b6 D5 el
        go_wp2_with fail
        go_ret
        exact ⟨rfl, D6.out.b⟩
      · obtain rfl : k = n := by omega
        clear hgo h1 hkn
        have hfa : fN (two p r) 9 = some 1 := by simp [fN, two, List.findIdx_cons]
        have hfb : fN (one9 r) 9 = some 0 := by simp [fN, one9, List.findIdx_cons]
        have HFA := Lib.hid hfa
        have HFB := Lib.hid hfb
        clear hfa hfb
        go_wp2_with fail
        refine (last_any g _ v gs _ 9 wr D.out.g _ HFA.out).mono ?_
        rintro e w5 ⟨rfl, b5⟩
        have D5 := Lib.hid (D.out.below b5)
        have el : lastV (two p r) (some 1) = (r, 0) := rfl
        rw [el]
        clear b5 D el
        go_wp2_with fail
        refine (last_any g' _ v' gs' _ 9 w5 D5.out.g' _ HFB.out).mono ?_
        rintro e w6 ⟨rfl, b6⟩
        have D6 := Lib.hid (D5.out.below b6)
        have el : lastV (one9 r) (some 0) = (r, 0) := rfl
        rw [el]
        clear b6 D5 el
        go_wp2_with fail
        go_ret
        exact ⟨rfl, D6.out.b⟩
end Go.Proofs.YtjmgkjjcdnaapaaDoor

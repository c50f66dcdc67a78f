/- The law PartsWhole. -/
import Derived.Test.YtlogcgeinbefjaaDoorZbbd77838
namespace Go.Proofs.YtlogcgeinbefjaaDoor
open Go.RowKit Go.Proofs.YtlogcgeinbefjaaDoorW.PrintWords Go.Proofs.YtlogcgeinbefjaaDoorW.PrintLast
set_option linter.unusedSimpArgs false
set_option linter.unusedVariables false
set_option maxRecDepth 20000
/-- what the law holds at a round's head. -/
structure WL (w0 w : World) (B j g : Nat) (pb off n N cap i : Nat) (L : List (List UInt8)) (M : Mg) (c : List Bool) (J : Jn) : Prop where
  jw : JW B w (fun q => q = g ∨ False) j J
  hB : w0.heap.size ≤ B ∧ B ≤ g
  got : Got J M c
  few : J.some.length + J.done.length ≤ if c.count true = 0 then 0 else 1
  mo : J.most = 3 ∧ J.noted = 3
  blk : Blk w g 4 (bls c).toArray
  b : Below w0.heap.size w0 w
  p : Pts B w (some ⟨pb, off, none⟩) N cap L
  all : ∀ t, t < N → n + t < i → c[t]? = some true
theorem got_all (c : List Bool) (N : Nat) (hl : c.length = N) (h : ∀ t, t < N → c[t]? = some true) : c.count false = 0 := by
  refine List.count_eq_zero.2 (fun hm => ?_)
  obtain ⟨t, ht, e⟩ := List.mem_iff_getElem.1 hm
  have := h t (by omega)
  rw [List.getElem?_eq_getElem ht, e] at this
  cases this
theorem JNext.below {B : Nat} {w w' w'' : World} {F : Nat → Prop} {j : Nat} {J : Jn} (h : JNext B w w' F j J) (hb : Below w'.heap.size w' w'') : JNext B w w'' F j J :=
  ⟨h.j.below hb, h.b.trans (hb.mono h.j.bs), fun g hg => (hb.block g (h.j.f g hg)).trans (h.o g hg)⟩
section
variable {w0 w w' : World} {B j g pb off n N cap i k : Nat} {L : List (List UInt8)} {M : Mg} {c : List Bool} {J J' : Jn}
/-- a part that had come. -/
theorem WL.same (h : WL w0 w B j g pb off n N cap i L M c J) (hN : JNext B w w' (fun q => q = g ∨ False) j J) (hk : c[k]? = some true) (hi : n ≤ i → i = n + k) : WL w0 w' B j g pb off n N cap (i + 1) L M c J :=
  ⟨hN.j, h.hB, h.got, h.few, h.mo, (hN.o g (.inl rfl)).trans h.blk, h.b.trans (hN.b.mono h.hB.1), h.p.below hN.b, fun t ht hlt => by
    by_cases he : n + t < i
    · exact h.all t ht he
    · have := hi (by omega)
      have : t = k := by omega
      subst this; exact hk⟩
/-- a part that had not. -/
theorem WL.came (h : WL w0 w B j g pb off n N cap i L M c J) (hM : M.ok) (hd : digL M.id M.ps.flatten = M.sum) (hk : c[k]? = some false) (hN : JNext B w w' (fun q => q = g ∨ False) j (takeF J (M.part k)).1) (hi : n ≤ i → i = n + k) :
    WL w0 (w'.setCell ⟨g, k, none⟩ (.bool true)) B j g pb off n N cap (i + 1) L M (c.set k true) (takeF J (M.part k)).1 := by
  have hf : c.count false ≠ 0 := by have := (count_set c k hk).1; omega
  have hroom : J.some.length < J.most ∧ J.done.length < J.noted := by
    have h1 := h.few
    have h2 := h.mo
    split at h1 <;> omega
  obtain ⟨a1, a2, a3⟩ := take_comes J M c k hM h.got hk hroom.1 hroom.2
  have hcount := (count_set c k hk).2
  have hkp : Kp (fun q => q = g ∨ False) w' (w'.setCell ⟨g, k, none⟩ (.bool true)) := Kp.set_ (S := fun q => q = g ∨ False) (.inl rfl) _ _
  have hge : ∀ q, (q = g ∨ False) → B ≤ q := fun q hq => by rcases hq with rfl | hq; exact h.hB.2; exact hq.elim
  have hb2 : Below B w' (w'.setCell ⟨g, k, none⟩ (.bool true)) := hkp.below hge hN.j.bs
  refine ⟨hN.j.wrote hkp hge, h.hB, a3 (fun _ => hd), ?_, ⟨a2.most.trans h.mo.1, a2.noted.trans h.mo.2⟩, ?_, (h.b.trans (hN.b.mono h.hB.1)).trans (hb2.mono h.hB.1), (h.p.below hN.b).below hb2, fun t ht hlt => ?_⟩
  · have h1 := a2.sum
    have h2 := h.few
    rw [if_neg (by omega)]
    split at h1
    · rw [if_pos (by assumption)] at h2; omega
    · rw [if_neg (by assumption)] at h2; omega
  · have h1 : Blk w' g 4 (bls c).toArray := (hN.o g (.inl rfl)).trans h.blk
    have h2 := h1.set_ k (.bool true)
    rw [bls_set] at h2
    exact h2
  · rw [List.getElem?_set]
    split
    · rename_i e; rw [if_pos (by rw [e]; have := h.got.1; exact (List.getElem?_eq_some_iff.1 (e ▸ hk)).1)]
    · rename_i e
      refine h.all t ht ?_
      by_cases he : n + t < i
      · exact he
      · have := hi (by omega); omega
theorem WL.below (h : WL w0 w B j g pb off n N cap i L M c J) (hb : Below w.heap.size w w') : WL w0 w' B j g pb off n N cap i L M c J :=
  ⟨h.jw.below hb, h.hB, h.got, h.few, h.mo, h.blk.below hb h.blk.lt, h.b.trans (hb.mono h.b.size), h.p.below (hb.mono h.jw.bs), h.all⟩
/-- at the end nothing waits. -/
theorem WL.none (h : WL w0 w B j g pb off n N cap i L M c J) (hc : c.count false = 0) : J.some.length = 0 := by
  have h1 := h.got.2.2.1 hc
  have h2 := List.length_pos_of_mem h1
  have h3 := h.few
  split at h3 <;> omega
end
theorem mod_bd (x : Int) (N : Nat) (h0 : 0 < N) (h1 : N ≤ 11) : ∃ k : Nat, k < N ∧ wrap64 ((IntKind.u64.wrap x).tmod (N : Int)) = (k : Int) := by
  rw [wrap_u64e]
  have h2 : 0 ≤ x % 18446744073709551616 := Int.emod_nonneg _ (by decide)
  rw [Int.tmod_eq_emod_of_nonneg h2]
  have h3 := Int.emod_nonneg (x % 18446744073709551616) (b := (N : Int)) (by omega)
  have h4 := Int.emod_lt_of_pos (x % 18446744073709551616) (b := (N : Int)) (by omega)
  refine ⟨((x % 18446744073709551616) % (N : Int)).toNat, by omega, ?_⟩
  unfold wrap64
  omega
set_option maxHeartbeats 6400000 in
theorem law_PartsWhole (id body : List UInt8) (A : Option Addr) (n c : Nat) (zs : List Int) (w : World) (hid : id.length ≤ 140737488351232) (hb : body.length ≤ 140737488351232) (hS : Ints w A n zs) (hn : n ≤ 140737488351232) (hk : KsAt w) (hks : 1 < w.heap.size) :
    Calls Tryd.prog 8 #[.string ⟨id.toArray⟩, .string ⟨body.toArray⟩, .slice A n c] w fun e w' => e = .returned (.bool true) ∧ Below w.heap.size w w' := by
  have HK := Lib.hid hk
  have HKS := Lib.hid hks
  have HS := Lib.hid hS
  have HW := Lib.hid (works22_any w hk hks)
  have HB := Lib.hid hb
  have HF8 := Lib.hid (fitL_length id 8)
  clear hk hks hb hS
  by_cases hl : 2048 < body.length
  · have HL := Lib.hid hl
    have hd : decide (2048 < (body.length : Int)) = true := decide_eq_true (by omega)
    clear hl
    go_enter Tryd.func8, Tryd.ntmps8
    go_wp2_with fail
    refine HW.out.mono ?_
    rintro e w1 ⟨rfl, b1⟩
    have B1 := Lib.hid b1
    clear b1
    go_wp2_with fail
    refine (fit_any id 8 (by decide) w1).mono ?_
    rintro e w2 ⟨rfl, b2⟩
    have B2 := Lib.hid (B1.out.trans (b2.mono B1.out.size))
    clear b2 B1
    go_wp2_with fail
    refine (cut_long _ body w2 HF8.out HL.out (by have := HB.out; omega)).mono ?_
    rintro e w3 ⟨rfl, rfl⟩
    go_wp2_with fail
    refine (new3_any _).mono ?_
    rintro e w4 ⟨rfl, _, b4⟩
    have B4 := Lib.hid (B2.out.trans (b4.mono B2.out.size))
    clear b4
    go_wp2_with fail
    go_ret
    exact ⟨rfl, B4.out⟩
  · have hl' : body.length ≤ 2048 := by omega
    have HL := Lib.hid hl'
    clear hl hl'
    obtain ⟨ID, HID⟩ : ∃ ID, Hid (fitL id 8 = ID) := ⟨_, Lib.hid rfl⟩
    have HI := Lib.hid (HID.out ▸ HF8.out)
    have HM := Lib.hid (mgOf_ok ID body HI.out HL.out)
    have HD := Lib.hid (mgOf_dig ID body)
    have HPS := Lib.hid (mgOf_len ID body)
    have HFL := Lib.hid (mgOf_flat ID body)
    have HMI := Lib.hid (mgOf_id ID body)
    have HCP := Lib.hid (show ∀ k, k < cutN body → (cutL ID body)[k]? = some ((mgOf ID body).part k) from fun k hk => by rw [cutL_get _ _ k hk, mgOf_part _ _ _ hk])
    have HPL := Lib.hid (show ∀ k, k < cutN body → ((mgOf ID body).part k).length ≤ 140737488355328 from fun k hk => by
      rw [mgOf_part _ _ _ hk, part_length _ _ _ HI.out]; have := pieceL_le body k; omega)
    obtain ⟨N, hN⟩ : ∃ N, Hid (cutN body = N) := ⟨_, Lib.hid rfl⟩
    have hN2 := cutN_max body HL.out
    rw [hN.out] at HPS HCP HPL hN2
    have HN2 := Lib.hid hN2
    have hn9 : 0 < (N : Int) ∧ (N : Int) ≤ 11 := by omega
    have hn8 : N ≤ 11 := by omega
    have hmk := fun W => mk_bool N hn8 W
    clear hN2
    go_enter Tryd.func8, Tryd.ntmps8
    go_wp2_with fail
    refine HW.out.mono ?_
    rintro e w1 ⟨rfl, b1⟩
    have B1 := Lib.hid b1
    clear b1
    go_wp2_with fail
    refine (fit_any id 8 (by decide) w1).mono ?_
    rintro e w2 ⟨rfl, b2⟩
    have B2 := Lib.hid (B1.out.trans (b2.mono B1.out.size))
    clear b2 B1
    rw [HID.out]
    go_wp2_with fail
    have HK2 := Lib.hid (HK.out.below HKS.out B2.out)
    have HKS2 := Lib.hid (Nat.lt_of_lt_of_le HKS.out B2.out.size)
    refine (cut_any ID body w2 HI.out HL.out HK2.out HKS2.out).mono ?_
    rintro e w3 ⟨v, rfl, hW, b3⟩
    obtain ⟨A2, cap, rfl, hP⟩ := hW.pts
    rw [cutL_length, hN.out] at hP ⊢
    obtain ⟨L, hL⟩ : ∃ L, Hid (cutL ID body = L) := ⟨_, Lib.hid rfl⟩
    rw [hL.out] at HCP hP
    obtain ⟨pb, off, rfl⟩ := hP.some (by omega)
    have P3 := Lib.hid hP
    have B3 := Lib.hid (B2.out.trans (b3.mono B2.out.size))
    have HK3 := Lib.hid (HK2.out.below HKS2.out b3)
    have HKS3 := Lib.hid (Nat.lt_of_lt_of_le HKS2.out b3.size)
    clear hW hP b3 B2 HK2 HKS2
    go_wp2_with fail
    refine (new3_any w3).mono ?_
    rintro e w4 ⟨rfl, hJ, b4⟩
    have J4 := Lib.hid (JW.start hJ b4 HK3.out HKS3.out)
    have P4 := Lib.hid (P3.out.below b4)
    have B4 := Lib.hid (B3.out.trans (b4.mono B3.out.size))
    clear hJ b4 P3
    obtain ⟨j, hj⟩ : ∃ j, Hid (w3.heap.size = j) := ⟨_, Lib.hid rfl⟩
    rw [hj.out]
    go_upto_block 12 with fail
    obtain ⟨g, hg⟩ : ∃ g, Hid (w4.heap.size = g) := ⟨_, Lib.hid rfl⟩
    have HWL := Lib.hid (show WL w (w4.alloc (.cells (bls (List.replicate N false)).toArray 4)) w3.heap.size j w4.heap.size pb off n N cap 0 L (mgOf ID body) (List.replicate N false) (newJ 3 3) from by
      have hgot := Got.start _ HM.out 3 3
      rw [HPS.out] at hgot
      refine ⟨?_, ⟨B3.out.size, J4.out.bs⟩, hgot, ?_, ⟨rfl, rfl⟩, Blk.new _ _ _, B4.out.alloc B4.out.size _, P4.out.below ((Below.refl _ _).alloc J4.out.bs _), fun t _ h => by omega⟩
      · rw [← hj.out]
        exact J4.out.more ((Below.refl _ _).alloc (Nat.le_refl _) _) w4.heap.size (Nat.le_refl _) (by simp)
      · rw [if_pos (by simp [List.count_replicate])]; simp [newJ])
    rw [hg.out] at HWL ⊢
    obtain ⟨B, hB⟩ : ∃ B, Hid (w3.heap.size = B) := ⟨_, Lib.hid rfl⟩
    rw [hB.out] at HWL
    obtain ⟨M, hMM⟩ : ∃ M, Hid (mgOf ID body = M) := ⟨_, Lib.hid rfl⟩
    rw [hMM.out] at HWL HM HD HPS HFL HCP HPL HMI
    clear J4 P4 B4 B3 HK3 HKS3 hg hB hj hL hMM
    obtain ⟨ib, IB⟩ : ∃ t : ByteArray, Hid (⟨ID.toArray⟩ = t) := ⟨_, Lib.hid rfl⟩
    obtain ⟨bb, BB⟩ : ∃ t : ByteArray, Hid (⟨body.toArray⟩ = t) := ⟨_, Lib.hid rfl⟩
    rw [IB.out, BB.out]
    go_loopg [12, 13, 14] 201 (fun kq v12 v13 v14 wr => ∃ (i : Nat) (c : List Bool) (J : Jn), kq = 201 - i ∧ i ≤ 200 ∧ i ≤ n + N ∧ v14 = .int .i64 i ∧ v12 = .int .i64 (c.count false : Nat) ∧ v13 = .bool (decide (c.count false = 0)) ∧ Hid (WL w wr B j g pb off n N cap i L M c J))
    case atStart => exact ⟨0, _, _, rfl, by omega, by omega, rfl, by simp [List.count_replicate], by simp [List.count_replicate]; omega, HWL⟩
    case round =>
      clear HWL
      obtain ⟨i, cs, J, rfl, hi1, hi2, rfl, rfl, rfl, HL⟩ := hrel
      obtain ⟨lf, hlf⟩ : ∃ lf, Hid (cs.count false = lf) := ⟨_, Lib.hid rfl⟩
      rw [hlf.out]
      obtain ⟨tl, htl⟩ : ∃ tl, Hid (decide (lf = 0) = tl) := ⟨_, Lib.hid rfl⟩
      rw [htl.out]
      by_cases hgo : i < n + N ∧ i < 200
      · obtain ⟨h1, h2⟩ := hgo
        have e1 : (i : Int) < (n : Int) + (N : Int) := by omega
        have e2 : (i : Int) < 200 := by omega
        have hnN : n + N ≤ 9223372036854775807 := by omega
        have hnN' : (n : Int) + (N : Int) ≤ 9223372036854775807 := by omega
        have hkk : ∃ k : Nat, k < N ∧ (n ≤ i → i = n + k) ∧ ((i < n ∧ ∃ x : Int, zs.getD i 0 = x ∧ wrap64 ((IntKind.u64.wrap x).tmod (N : Int)) = (k : Int)) ∨ (n ≤ i ∧ (i : Int) - (n : Int) = (k : Int))) := by
          rcases Nat.lt_or_ge i n with h | h
          · obtain ⟨k, h3, h4⟩ := mod_bd (zs.getD i 0) N (by omega) (by omega)
            exact ⟨k, h3, fun h5 => by omega, .inl ⟨h, _, rfl, h4⟩⟩
          · exact ⟨i - n, by omega, fun _ => by omega, .inr ⟨h, by omega⟩⟩
        obtain ⟨k, hkN, hki, hk2⟩ := hkk
        have HKI := Lib.hid hki
        clear hki
        rcases hk2 with ⟨hin, x, hx, hk2⟩ | ⟨hin, hk2⟩
        case' inl =>
          obtain ⟨gb, io, eA, hib, hic⟩ := HS.out.2 (by omega)
          subst eA
          have hc : wr.cell? ⟨gb, io + i, none⟩ = some (.int .i64 x) := by rw [← hx]; exact (HL.out.b.cell (p := ⟨gb, io + i, none⟩) hib).trans (hic i hin)
          have e3 : (i : Int) < (n : Int) := by omega
          have e4 : (k : Int) < (N : Int) := by omega
          have e5 : 0 ≤ (k : Int) := by omega
          have e6 : decide ((k : Int) < 0) = false := decide_eq_false (by omega)
          have e7 : decide ((N : Int) ≤ (k : Int)) = false := decide_eq_false (by omega)
          have e8 : decide (N ≤ k) = false := decide_eq_false (by omega)
          clear hic hx
          go_upto_region 16 with fail
          go_upto_region 17 with fail
          simp only [hk2]
          have HK2 := Lib.hid hk2
          clear hk2
          go_upto_region 18 with fail
        case' inr =>
          have e3 : decide ((i : Int) < (n : Int)) = false := decide_eq_false (by omega)
          have e3' : decide (i < n) = false := decide_eq_false (by omega)
          go_upto_region 15 with fail
          have e4 : (k : Int) < (N : Int) := by omega
          have e5 : 0 ≤ (k : Int) := by omega
          have e6 : decide ((k : Int) < 0) = false := decide_eq_false (by omega)
          have e7 : decide ((N : Int) ≤ (k : Int)) = false := decide_eq_false (by omega)
          have e8 : decide (N ≤ k) = false := decide_eq_false (by omega)
          have HK2 := Lib.hid hk2
          clear hk2
          go_upto_region 18 with fail
        all_goals
          clear e3 e6 e7 e8 HK2 hin
          obtain ⟨_, hcell⟩ := HL.out.p.cell k _ (HCP.out k hkN)
          have hple := HPL.out k hkN
          obtain ⟨s, hs⟩ : ∃ s, Hid (M.part k = s) := ⟨_, Lib.hid rfl⟩
          rw [hs.out] at hcell hple
          obtain ⟨sb, SB⟩ : ∃ t : ByteArray, Hid (⟨s.toArray⟩ = t) := ⟨_, Lib.hid rfl⟩
          rw [SB.out] at hcell
          obtain ⟨b, hb⟩ : ∃ b, cs[k]? = some b := ⟨_, List.getElem?_eq_getElem (by rw [HL.out.got.1, HPS.out]; exact hkN)⟩
          have HPLE := Lib.hid hple
          clear hple
          cases b with
          | true =>
            have HB1 := Lib.hid hb
            have TK := Lib.hid (show Calls Tryd.prog 15 #[.pointer (some ⟨j, 0, none⟩), .string sb] wr fun e w' => e = .returned (.tuple #[.agg zTold, .bool false, .int .i64 6]) ∧ JNext B wr w' (fun q => q = g ∨ False) j J by
              rw [← SB.out]
              refine (take_jw HL.out.jw s HPLE.out).mono ?_
              rintro e w5 ⟨rfl, hN⟩
              rw [← hs.out, take_came J M cs k HM.out HL.out.got hb] at hN ⊢
              exact ⟨rfl, hN⟩)
            clear hb
            go_wp2_with fail
            refine TK.out.mono ?_
            rintro e w5 ⟨rfl, N5⟩
            have W5 := Lib.hid (HL.out.same N5 HB1.out HKI.out)
            clear N5 TK hcell
            go_upto_region 19 with (first
              | ((with_reducible refine gate_store (t := 36) (p := 16) (v := .tmp 101) rfl ?_); refine wpList_store_row rfl 36 (.tmp 16) (.tmp 101) rfl w5.heap.size zTold rfl rfl 36 zTold (Blk.new w5 36 zTold) size_told rfl one_ztold ?_))
            refine gworld (fun W => Hid (WL w W B j g pb off n N cap (i + 1) L M cs J)) (Lib.hid (W5.out.below (below_newrow w5 _ _))) ?_
            intro w6 W6
            have hck : w6.cell? ⟨g, k, none⟩ = some (.bool true) := by rw [W6.out.blk.cell k]; simp [bls, HB1.out]
            clear W5 HL
            cases tl with
            | true =>
              go_wp2_with fail
              go_roundg (201 - (i + 1))
              case measure => omega
              case rel => exact ⟨i + 1, cs, J, rfl, by omega, by omega, by go_num, by rw [hlf.out], by rw [hlf.out, htl.out], W6⟩
            | false =>
              go_wp2_with fail
              go_roundg (201 - (i + 1))
              case measure => omega
              case rel => exact ⟨i + 1, cs, J, rfl, by omega, by omega, by go_num, by rw [hlf.out], by rw [hlf.out, htl.out], W6⟩
          | false =>
            have HB1 := Lib.hid hb
            obtain ⟨q, hq⟩ : ∃ q, Hid ((cs.set k true).count false = q) := ⟨_, Lib.hid rfl⟩
            have hql : lf = q + 1 := by rw [← hq.out, ← hlf.out]; exact (count_set cs k hb).1.symm
            obtain rfl : tl = false := by rw [← htl.out, hql]; simp
            have hroom : J.some.length < J.most ∧ J.done.length < J.noted := by
              have h1 := HL.out.few
              have h2 := HL.out.mo
              split at h1 <;> omega
            have hT := (take_comes J M cs k HM.out HL.out.got hb hroom.1 hroom.2).1
            have hql2 : (lf : Int) - 1 = (q : Int) := by omega
            have hlb : 1 ≤ (lf : Int) ∧ (lf : Int) ≤ 11 := by
              have h1 := count_two cs
              have h2 := HL.out.got.1
              have h3 := HPS.out
              have h4 := hlf.out
              omega
            rw [ans_ok M _ HD.out, hq.out, HMI.out, HFL.out, hs.out] at hT
            have HT := Lib.hid hT
            clear hb hroom hT hql htl
            by_cases hq0 : q = 0
            · have TK := Lib.hid (show Calls Tryd.prog 15 #[.pointer (some ⟨j, 0, none⟩), .string sb] wr fun e w' => e = .returned (.tuple #[.agg #[.string ib, .string bb], .bool true, .int .i64 0]) ∧ JNext B wr w' (fun q => q = g ∨ False) j (takeF J s).1 by
                rw [← SB.out]
                refine (take_jw HL.out.jw s HPLE.out).mono ?_
                rintro e w5 ⟨rfl, hN⟩
                rw [HT.out, if_pos hq0]
                exact ⟨by rw [← IB.out, ← BB.out]; rfl, hN⟩)
              subst hq0
              have HLF := Lib.hid (show (lf : Int) - 1 = 0 from hql2)
              clear hql2
              go_wp2_with fail
              refine TK.out.mono ?_
              rintro e w5 ⟨rfl, N5⟩
              clear TK hcell
              go_upto_region 19 with (first
                | ((with_reducible refine gate_store (t := 36) (p := 16) (v := .tmp 101) rfl ?_); refine wpList_store_row rfl 36 (.tmp 16) (.tmp 101) rfl w5.heap.size #[.string ib, .string bb] rfl rfl 36 zTold (Blk.new w5 36 zTold) size_told rfl (one_told2 _ _) ?_))
              obtain ⟨gx, hgx⟩ : ∃ g, Hid (w5.heap.size = g) := ⟨_, Lib.hid rfl⟩
              have hne : g ≠ gx := by have := N5.j.f g (.inl rfl); have := hgx.out; omega
              refine gworld (fun W => Hid (JNext B wr W (fun q => q = g ∨ False) j (takeF J s).1) ∧ Hid (Blk W gx 36 #[.string ib, .string bb])) ⟨Lib.hid (N5.below (below_newrow w5 _ _)), Lib.hid (by rw [← hgx.out]; exact (Blk.new w5 36 zTold).setRow _)⟩ ?_
              rintro w6 ⟨N6, M6⟩
              rw [hgx.out]
              have hblk : Blk w6 g 4 (bls cs).toArray := (N6.out.o g (.inl rfl)).trans HL.out.blk
              have hck : w6.cell? ⟨g, k, none⟩ = some (.bool false) := by rw [hblk.cell k]; simp [bls, HB1.out]
              have hcf : w6.frozen? ⟨g, k, none⟩ = false := hblk.frozen k
              have W7 := Lib.hid (HL.out.came HM.out HD.out HB1.out (by rw [hs.out]; exact N6.out) HKI.out)
              have M7 := Lib.hid (M6.out.far (p := ⟨g, k, none⟩) (Ne.symm hne) (.bool true))
              rw [hs.out] at W7
              clear hblk N5 HL hne hgx
              go_upto_region 24 with fail
              refine gworld (fun W => Hid (WL w W B j g pb off n N cap (i + 1) L M (cs.set k true) (takeF J s).1) ∧ Hid (Blk W gx 36 #[.string ib, .string bb])) ⟨W7, M7⟩ ?_
              clear W7 M7 M6 N6 hck hcf
              rintro w8 ⟨W8, M8⟩
              simp only [HLF.out]
              have m0 : w8.cell? ⟨gx, 0, none⟩ = some (.string ib) := M8.out.cell 0
              have m1 : w8.cell? ⟨gx, 1, none⟩ = some (.string bb) := M8.out.cell 1
              go_wp2_with fail
              go_roundg (201 - (i + 1))
              case measure => omega
              case rel => exact ⟨i + 1, cs.set k true, (takeF J s).1, rfl, by omega, by omega, by go_num, by (rw [hq.out]); try go_num, by (rw [hq.out]); try (first | rfl | simp), W8⟩
            · have TK := Lib.hid (show Calls Tryd.prog 15 #[.pointer (some ⟨j, 0, none⟩), .string sb] wr fun e w' => e = .returned (.tuple #[.agg zTold, .bool false, .int .i64 0]) ∧ JNext B wr w' (fun q => q = g ∨ False) j (takeF J s).1 by
                rw [← SB.out]
                refine (take_jw HL.out.jw s HPLE.out).mono ?_
                rintro e w5 ⟨rfl, hN⟩
                rw [HT.out, if_neg hq0]
                exact ⟨rfl, hN⟩)
              have hq1 : ((q : Int) == 0) = false := by simpa using hq0
              have hq2 : 0 < q := by omega
              have HLF := Lib.hid hql2
              clear hql2
              go_wp2_with fail
              refine TK.out.mono ?_
              rintro e w5 ⟨rfl, N5⟩
              clear TK hcell
              go_upto_region 19 with (first
                | ((with_reducible refine gate_store (t := 36) (p := 16) (v := .tmp 101) rfl ?_); refine wpList_store_row rfl 36 (.tmp 16) (.tmp 101) rfl w5.heap.size zTold rfl rfl 36 zTold (Blk.new w5 36 zTold) size_told rfl one_ztold ?_))
              obtain ⟨gx, hgx⟩ : ∃ g, Hid (w5.heap.size = g) := ⟨_, Lib.hid rfl⟩
              have hne : g ≠ gx := by have := N5.j.f g (.inl rfl); have := hgx.out; omega
              refine gworld (fun W => Hid (JNext B wr W (fun q => q = g ∨ False) j (takeF J s).1) ∧ Hid (Blk W gx 36 zTold)) ⟨Lib.hid (N5.below (below_newrow w5 _ _)), Lib.hid (by rw [← hgx.out]; exact (Blk.new w5 36 zTold).setRow _)⟩ ?_
              rintro w6 ⟨N6, M6⟩
              rw [hgx.out]
              have hblk : Blk w6 g 4 (bls cs).toArray := (N6.out.o g (.inl rfl)).trans HL.out.blk
              have hck : w6.cell? ⟨g, k, none⟩ = some (.bool false) := by rw [hblk.cell k]; simp [bls, HB1.out]
              have hcf : w6.frozen? ⟨g, k, none⟩ = false := hblk.frozen k
              have W7 := Lib.hid (HL.out.came HM.out HD.out HB1.out (by rw [hs.out]; exact N6.out) HKI.out)
              have M7 := Lib.hid (M6.out.far (p := ⟨g, k, none⟩) (Ne.symm hne) (.bool true))
              rw [hs.out] at W7
              clear hblk N5 HL hne hgx
              go_upto_region 24 with fail
              refine gworld (fun W => Hid (WL w W B j g pb off n N cap (i + 1) L M (cs.set k true) (takeF J s).1) ∧ Hid (Blk W gx 36 zTold)) ⟨W7, M7⟩ ?_
              clear W7 M7 M6 N6 hck hcf
              rintro w8 ⟨W8, M8⟩
              simp only [HLF.out]
              have m0 : w8.cell? ⟨gx, 0, none⟩ = some (.string ⟨#[]⟩) := M8.out.cell 0
              have m1 : w8.cell? ⟨gx, 1, none⟩ = some (.string ⟨#[]⟩) := M8.out.cell 1
              go_wp2_with fail
              go_roundg (201 - (i + 1))
              case measure => omega
              case rel => exact ⟨i + 1, cs.set k true, (takeF J s).1, rfl, by omega, by omega, by go_num, by (rw [hq.out]); try go_num, by (rw [hq.out]); try (first | rfl | simp [hq0]), W8⟩
      · have hend : 180 < n ∨ (i = n + N ∧ n ≤ 180) := by omega
        rcases hend with h1 | ⟨h1, h2⟩
        · have e1 : (180 : Int) < (n : Int) := by omega
          have hnN : n + N ≤ 9223372036854775807 := by omega
          have hnN' : (n : Int) + (N : Int) ≤ 9223372036854775807 := by omega
          by_cases hx : i < n + N
          · obtain rfl : i = 200 := by omega
            have e2 : (200 : Int) < (n : Int) + (N : Int) := by omega
            clear hx hgo hi1 hi2
            go_wp2_with fail
            go_ret
            exact ⟨rfl, HL.out.b⟩
          · obtain rfl : i = n + N := by omega
            clear hx hgo hi2
            go_wp2_with fail
            go_ret
            exact ⟨rfl, HL.out.b⟩
        · obtain rfl : i = n + N := by omega
          have hnN : n + N ≤ 9223372036854775807 := by omega
          have hnN' : (n : Int) + (N : Int) ≤ 9223372036854775807 := by omega
          have hcf := got_all cs N (HL.out.got.1.trans HPS.out) (fun t ht => HL.out.all t ht (by omega))
          have hw0 := HL.out.none hcf
          obtain rfl : tl = true := by rw [← htl.out, ← hlf.out]; simpa using hcf
          have e1 : (n : Int) ≤ 180 := by omega
          clear hgo hi2 h1 hcf
          have HW0 := Lib.hid hw0
          clear hw0
          go_wp2_with fail
          refine (waits_any HL.out.jw).mono ?_
          rintro e w5 ⟨rfl, rfl⟩
          rw [HW0.out]
          go_wp2_with fail
          go_ret
          exact ⟨rfl, HL.out.b⟩
end Go.Proofs.YtlogcgeinbefjaaDoor

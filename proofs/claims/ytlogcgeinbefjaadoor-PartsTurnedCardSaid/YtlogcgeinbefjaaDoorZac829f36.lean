/- The law PartsTurned. -/
import Derived.Test.YtlogcgeinbefjaaDoorZa898cda8
namespace Go.Proofs.YtlogcgeinbefjaaDoor
open Go.RowKit Go.Proofs.YtlogcgeinbefjaaDoorW.PrintWords Go.Proofs.YtlogcgeinbefjaaDoorW.PrintLast
set_option linter.unusedSimpArgs false
set_option linter.unusedVariables false
set_option maxRecDepth 20000
def turnB (s : List UInt8) (r : Nat) : List UInt8 := s.set r (bd s r ^^^ 1)
theorem turnB_length (s : List UInt8) (r : Nat) : (turnB s r).length = s.length := by simp [turnB]
theorem xor_one (x : UInt8) : x ^^^ 1 ≠ x := by
  intro h
  have h2 := congrArg UInt8.toBitVec h
  rw [UInt8.toBitVec_xor] at h2
  have : (1 : UInt8).toBitVec = 1#8 := rfl
  rw [this] at h2
  generalize x.toBitVec = y at h2
  revert y
  decide
theorem turnB_ne (s : List UInt8) (r : Nat) (h : r < s.length) : turnB s r ≠ s := by
  intro e
  have := congrArg (fun l => bd l r) e
  simp only [turnB, bd_set_eq _ _ _ h] at this
  exact xor_one _ this
def Mg.turn (M : Mg) (q r : Nat) : Mg := ⟨M.id, M.sum, M.ps.set q (turnB (M.ps.getD q []) r)⟩
theorem Mg.turn_len (M : Mg) (q r : Nat) : (M.turn q r).ps.length = M.ps.length := by simp [Mg.turn]
theorem Mg.turn_ok {M : Mg} (h : M.ok) (q r : Nat) : (M.turn q r).ok := by
  refine ⟨h.id, h.sum, by rw [M.turn_len]; exact h.n, fun i s hs => ?_⟩
  rw [M.turn_len]
  have hs' : (M.ps.set q (turnB (M.ps.getD q []) r))[i]? = some s := hs
  by_cases hq : q = i
  · subst hq
    have hlt : q < M.ps.length := by have := (List.getElem?_eq_some_iff.1 hs').1; simpa using this
    rw [List.getElem?_set_self hlt] at hs'
    cases hs'
    rw [turnB_length]
    exact h.pc q _ (by rw [List.getD_eq_getElem?_getD, List.getElem?_eq_getElem hlt]; rfl)
  · rw [List.getElem?_set_ne hq] at hs'
    exact h.pc i s hs'
theorem Mg.turn_part (M : Mg) (h : M.ok) (q r i : Nat) (hr : r < (M.ps.getD q []).length) (hq : q < M.ps.length) : (M.turn q r).part i = if i = q then turnB (M.part q) (16 + r) else M.part i := by
  have hlen : (M.turn q r).ps.length = M.ps.length := M.turn_len q r
  unfold Mg.part
  rw [hlen]
  by_cases hi : i = q
  · subst hi
    rw [if_pos rfl]
    have hg : (M.turn i r).ps.getD i [] = turnB (M.ps.getD i []) r := by
      show (M.ps.set i _).getD i [] = _
      rw [List.getD_eq_getElem?_getD, List.getElem?_set_self hq]; rfl
    rw [hg]
    have hl : (M.id ++ [UInt8.ofNat i, UInt8.ofNat M.ps.length] ++ M.sum).length = 16 := by simp [h.id, h.sum]
    show M.id ++ [UInt8.ofNat i, UInt8.ofNat M.ps.length] ++ M.sum ++ _ = turnB _ _
    generalize M.id ++ [UInt8.ofNat i, UInt8.ofNat M.ps.length] ++ M.sum = a at hl
    unfold turnB
    have hb : bd (a ++ M.ps.getD i []) (16 + r) = bd (M.ps.getD i []) r := by
      unfold bd
      rw [List.getD_eq_getElem?_getD, List.getD_eq_getElem?_getD, List.getElem?_append_right (by omega), hl]
      congr 2; omega
    rw [hb, List.set_append_right _ _ (by omega), hl]
    congr 2; omega
  · rw [if_neg hi]
    have hg : (M.turn q r).ps.getD i [] = M.ps.getD i [] := by
      show (M.ps.set q _).getD i [] = _
      rw [List.getD_eq_getElem?_getD, List.getElem?_set_ne (Ne.symm hi), ← List.getD_eq_getElem?_getD]
    rw [hg]; rfl
theorem flat_inj : ∀ (a b : List (List UInt8)), a.length = b.length → (∀ i : Nat, (a.getD i []).length = (b.getD i []).length) → a.flatten = b.flatten → a = b
  | [], [], _, _, _ => rfl
  | [], _ :: _, h, _, _ => by simp at h
  | _ :: _, [], h, _, _ => by simp at h
  | x :: a, y :: b, h, hl, hf => by
    have h0 : x.length = y.length := by simpa using hl 0
    simp only [List.flatten_cons] at hf
    obtain ⟨e1, e2⟩ := List.append_inj hf h0
    rw [e1, flat_inj a b (by simpa using h) (fun i => by simpa using hl (i + 1)) e2]
theorem Mg.turn_flat (M : Mg) (q r : Nat) (hr : r < (M.ps.getD q []).length) (hq : q < M.ps.length) : (M.turn q r).ps.flatten ≠ M.ps.flatten := by
  intro e
  have hlen : ∀ i : Nat, ((M.turn q r).ps.getD i []).length = (M.ps.getD i []).length := fun i => by
    show ((M.ps.set q _).getD i []).length = _
    by_cases hi : i = q
    · subst hi
      rw [List.getD_eq_getElem?_getD, List.getElem?_set_self hq]
      exact turnB_length _ _
    · rw [List.getD_eq_getElem?_getD, List.getElem?_set_ne (Ne.symm hi), ← List.getD_eq_getElem?_getD]
  have := flat_inj _ _ (M.turn_len q r) hlen e
  have h2 := congrArg (fun l : List (List UInt8) => l.getD q []) this
  have h3 : (M.ps.set q (turnB (M.ps.getD q []) r)).getD q [] = M.ps.getD q [] := h2
  rw [List.getD_eq_getElem?_getD, List.getElem?_set_self hq] at h3
  exact turnB_ne _ _ hr h3
/-- the first i pieces came. -/
def firstC (N i : Nat) : List Bool := List.replicate i true ++ List.replicate (N - i) false
theorem firstC_at (N i : Nat) (h : i < N) : (firstC N i)[i]? = some false := by
  unfold firstC
  rw [List.getElem?_append_right (by simp), List.length_replicate, Nat.sub_self, List.getElem?_replicate, if_pos (by omega)]
theorem firstC_set (N i : Nat) (h : i < N) : (firstC N i).set i true = firstC N (i + 1) := by
  unfold firstC
  rw [List.set_append_right _ _ (by simp), List.length_replicate, Nat.sub_self, show N - i = (N - (i + 1)) + 1 by omega, List.replicate_succ, List.set_cons_zero, List.replicate_succ', List.append_assoc]
  rfl
theorem firstC_count (N i : Nat) : (firstC N i).count false = N - i ∧ (firstC N i).count true = i := by
  unfold firstC
  rw [List.count_append, List.count_append]
  simp [List.count_replicate]
theorem firstC_zero (N : Nat) : firstC N 0 = List.replicate N false := by simp [firstC]
theorem Win.blk {e : TypeId} {w : World} {B b off n cap : Nat} {xs : List Value} (h : Win e w B (.slice (some ⟨b, off, none⟩) n cap) xs) : ∃ cur, Blk w b e cur ∧ B ≤ b ∧ ∀ (i : Nat) (x : Value), xs[i]? = some x → cur[off + i]? = some x := by
  rcases h with ⟨h, _⟩ | ⟨b', off', cap', cur, hv, h1, h2, h3, h4, h5, h6⟩
  · cases h
  · injection hv with e1
    injection e1 with e1
    injection e1 with e1 e2
    subst e1; subst e2
    exact ⟨cur, h2, h1, fun i x hx => by rw [h6 i (List.getElem?_eq_some_iff.1 hx).1, hx]⟩
theorem mod_at (x : Int) (n : Nat) (h0 : 0 < n) (h1 : n ≤ 2048) : ∃ k : Nat, k < n ∧ wrap64 ((IntKind.u64.wrap x).tmod (n : Int)) = (k : Int) := by
  rw [wrap_u64e]
  have h2 : 0 ≤ x % 18446744073709551616 := Int.emod_nonneg _ (by decide)
  rw [Int.tmod_eq_emod_of_nonneg h2]
  have h3 := Int.emod_nonneg (x % 18446744073709551616) (b := (n : Int)) (by omega)
  have h4 := Int.emod_lt_of_pos (x % 18446744073709551616) (b := (n : Int)) (by omega)
  refine ⟨((x % 18446744073709551616) % (n : Int)).toNat, by omega, ?_⟩
  unfold wrap64
  omega
set_option maxHeartbeats 6400000 in
theorem law_PartsTurned (body : List UInt8) (at_ : Int) (w : World) (hb : body.length ≤ 140737488351232) (hk : KsAt w) (hks : 1 < w.heap.size) :
    Calls Tryd.prog 6 #[.string ⟨body.toArray⟩, .int .i64 at_] w fun e w' => e = .returned (.bool true) ∧ Below w.heap.size w w' := by
  have HK := Lib.hid hk
  have HKS := Lib.hid hks
  have HW := Lib.hid (works22_any w hk hks)
  have HB := Lib.hid hb
  clear hk hks hb
  have hbs : (⟨body.toArray⟩ : ByteArray).size = body.length := by simp [ByteArray.size]
  obtain ⟨bb, BB⟩ : ∃ t : ByteArray, Hid (⟨body.toArray⟩ = t) := ⟨_, Lib.hid rfl⟩
  rw [BB.out] at hbs
  have hbt : bb.toList = body := by rw [← BB.out, ByteArray.toList_eq]
  by_cases h0 : body = []
  · have hbt0 : bb.toList = [] := by rw [hbt, h0]
    have hbt1 : (bb.toList == []) = true := by rw [hbt0]; rfl
    have hbt2 : bb.toList.isEmpty = true := by rw [hbt0]; rfl
    rw [BB.out]
    clear hbt0 hbt hbs h0
    go_enter Tryd.func6, Tryd.ntmps6
    go_wp2_with fail
    refine HW.out.mono ?_
    rintro e w1 ⟨rfl, b1⟩
    have B1 := Lib.hid b1
    clear b1
    go_wp2_with fail
    go_ret
    exact ⟨rfl, B1.out⟩
  · have hbt1 : (bb.toList == []) = false := by rw [hbt]; simpa using h0
    have hbt2 : bb.toList.isEmpty = false := by rw [hbt]; simpa using h0
    have hbt3 : (!bb.toList.isEmpty) = true := by rw [hbt2]; rfl
    have HN0 := Lib.hid (show 0 < body.length from List.length_pos_iff.2 h0)
    have HBS := Lib.hid hbs
    have HBT := Lib.hid hbt
    clear hbt hbs h0
    by_cases hl : 2048 < body.length
    · have d1 : 2048 < (bb.size : Int) := by have := HBS.out; omega
      have d2 : 2048 < bb.size := by omega
      clear hl
      rw [BB.out]
      go_enter Tryd.func6, Tryd.ntmps6
      go_wp2_with fail
      refine HW.out.mono ?_
      rintro e w1 ⟨rfl, b1⟩
      have B1 := Lib.hid b1
      clear b1
      go_wp2_with fail
      go_ret
      exact ⟨rfl, B1.out⟩
    · have hl' : body.length ≤ 2048 := by omega
      have HL := Lib.hid hl'
      have d1 : decide (2048 < (bb.size : Int)) = false := decide_eq_false (by have := HBS.out; omega)
      have d2 : decide (2048 < bb.size) = false := decide_eq_false (by have := HBS.out; omega)
      have HM0 := Lib.hid (mgOf_ok idL body idL_length HL.out)
      have HD0 := Lib.hid (mgOf_dig idL body)
      have HPS := Lib.hid (mgOf_len idL body)
      have HFL := Lib.hid (mgOf_flat idL body)
      have HMI := Lib.hid (mgOf_id idL body)
      have HGD := Lib.hid (show ∀ i, i < cutN body → ((mgOf idL body).ps.getD i []).length = min 200 (body.length - 200 * i) from fun i hi => by rw [mgOf_getD _ _ _ hi, piece_length])
      have HCP := Lib.hid (show ∀ k, k < cutN body → (cutL idL body)[k]? = some ((mgOf idL body).part k) from fun k hk => by rw [cutL_get _ _ k hk, mgOf_part _ _ _ hk])
      have HPL := Lib.hid (show ∀ k, k < cutN body → ((mgOf idL body).part k).length = 16 + min 200 (body.length - 200 * k) from fun k hk => by
        rw [mgOf_part _ _ _ hk, part_length _ _ _ idL_length, piece_length])
      have HCU := Lib.hid (show ∀ W : World, KsAt W → 1 < W.heap.size → Calls Tryd.prog 9 #[.string ⟨#[97, 110, 32, 105, 100, 32, 105, 115]⟩, .string bb] W fun e w' => ∃ v, e = .returned (.tuple #[v, .int .i64 0]) ∧ Win 9 w' W.heap.size v (cstr (cutL idL body)) ∧ Below W.heap.size W w' from fun W h1 h2 => by
        rw [← BB.out]; exact cut_any idL body W idL_length HL.out h1 h2)
      obtain ⟨M, hMM⟩ : ∃ M, Hid (mgOf idL body = M) := ⟨_, Lib.hid rfl⟩
      rw [hMM.out] at HM0 HD0 HPS HFL HMI HGD HCP HPL
      obtain ⟨N, hN⟩ : ∃ N, Hid (cutN body = N) := ⟨_, Lib.hid rfl⟩
      have hN2 := cutN_max body HL.out
      have hcl := cutL_length idL body
      obtain ⟨L, hL⟩ : ∃ L, Hid (cutL idL body = L) := ⟨_, Lib.hid rfl⟩
      obtain ⟨k, hk1, hk2⟩ := mod_at at_ body.length HN0.out HL.out
      have hkN : k / 200 < N := by rw [← hN.out]; unfold cutN; omega
      rw [hN.out] at HPS HGD HCP HPL hN2 hcl
      rw [hL.out] at HCP HCU hcl
      have HCL := Lib.hid hcl
      have hn9 : 0 < (N : Int) ∧ (N : Int) ≤ 11 := by omega
      have hrk : k % 200 < (M.ps.getD (k / 200) []).length := by rw [HGD.out _ hkN]; omega
      have HRK := Lib.hid hrk
      have HK1 := Lib.hid hk1
      have HK2 := Lib.hid (show wrap64 ((IntKind.u64.wrap at_).tmod (bb.size : Int)) = (k : Int) by rw [HBS.out]; exact hk2)
      have HKN := Lib.hid hkN
      rw [BB.out]
      clear hL hN hMM hl hl' hcl hk1 hk2 hkN hrk
      go_enter Tryd.func6, Tryd.ntmps6
      go_wp2_with fail
      refine HW.out.mono ?_
      rintro e w1 ⟨rfl, b1⟩
      have B1 := Lib.hid b1
      have HK1w := Lib.hid (HK.out.below HKS.out b1)
      have HKS1 := Lib.hid (Nat.lt_of_lt_of_le HKS.out b1.size)
      clear b1
      go_wp2_with fail
      refine (HCU.out w1 HK1w.out HKS1.out).mono ?_
      rintro e w2 ⟨v, rfl, hW, b2⟩
      obtain ⟨A2, cap, rfl, hP⟩ := hW.pts
      rw [HCL.out] at hP hW ⊢
      obtain ⟨pb, off, rfl⟩ := hP.some (by omega)
      obtain ⟨cur, hcur, hpb, hcells⟩ := hW.blk
      have C2 := Lib.hid hcur
      have CC := Lib.hid (show ∀ i, i < N → cur[off + i]? = some (.string ⟨(M.part i).toArray⟩) from fun i hi => hcells i _ (by simp [cstr, HCP.out i hi]))
      have PB := Lib.hid hpb
      have B2 := Lib.hid (B1.out.trans (b2.mono B1.out.size))
      have K2 := Lib.hid (HK1w.out.below HKS1.out b2)
      have KS2 := Lib.hid (Nat.lt_of_lt_of_le HKS1.out b2.size)
      clear hW hP b2 hcur hpb hcells HK1w HKS1 HCU
      go_wp2_with fail
      refine (new2_any w2).mono ?_
      rintro e w3 ⟨rfl, hJ, b3⟩
      have J3 := Lib.hid (show JW w.heap.size w3 (fun q => q = pb ∨ False) w2.heap.size (newJ 2 2) from
        ⟨⟨_, _, _, hJ.lower B2.out.size, fun i hi => by
          rcases hi with rfl | hi | hi | ⟨t, ht, _⟩
          · rintro (e | e)
            · have := C2.out.lt; omega
            · exact e
          · cases hi
          · cases hi
          · cases ht⟩, fun i hi => by
          rcases hi with rfl | hi
          · exact Nat.lt_of_lt_of_le C2.out.lt b3.size
          · exact hi.elim, Nat.le_trans B2.out.size b3.size, K2.out.below KS2.out b3, HKS.out, fun m hm => by simp [newJ] at hm⟩)
      have C3 := Lib.hid (C2.out.below b3 C2.out.lt)
      have B3 := Lib.hid (B2.out.trans (b3.mono B2.out.size))
      have PB1 := Lib.hid (show w.heap.size ≤ pb from Nat.le_trans B1.out.size PB.out)
      clear hJ b3 K2 KS2 B2 C2 PB B1
      obtain ⟨j, hj⟩ : ∃ j, Hid (w2.heap.size = j) := ⟨_, Lib.hid rfl⟩
      rw [hj.out] at J3 ⊢
      clear hj
      have f1 : 0 < (bb.size : Int) ∧ (bb.size : Int) ≤ 2048 := by have h1 := HBS.out; have h2 := HN0.out; have h3 := HL.out; omega
      have f2 : 0 < bb.size := by omega
      go_upto_region 10 with fail
      simp only [HK2.out]
      obtain ⟨q, hq⟩ : ∃ q, Hid (k / 200 = q) := ⟨_, Lib.hid rfl⟩
      obtain ⟨r, hr⟩ : ∃ r, Hid (k % 200 = r) := ⟨_, Lib.hid rfl⟩
      have q1 : (k : Int) / 200 = (q : Int) := by have := hq.out; omega
      have r1 : (k : Int) % 200 = (r : Int) := by have := hr.out; omega
      have hqN := HKN.out
      have hrk := HRK.out
      rw [hq.out] at hqN hrk
      rw [hr.out] at hrk
      have HQN := Lib.hid hqN
      have HRK := Lib.hid hrk
      have hpl := HPL.out q hqN
      obtain ⟨s, hs⟩ : ∃ s, Hid (M.part q = s) := ⟨_, Lib.hid rfl⟩
      have hgd := HGD.out q hqN
      rw [hs.out] at hpl
      have hrs : 16 + r < s.length := by omega
      have hs216 : s.length ≤ 216 := by omega
      have hcq : w3.cell? ⟨pb, off + q, none⟩ = some (.string ⟨s.toArray⟩) := by rw [C3.out.cell, CC.out q hqN, hs.out]
      obtain ⟨cb_, w4, hcv, hCb, hb4⟩ := cb_of_string (P := Tryd.prog) w3 9 42 5 s Tryd.underlying9 Tryd.underlying42 Tryd.underlying5 w3.heap.size (Nat.le_refl _)
      obtain ⟨sb, SB⟩ : ∃ t : ByteArray, Hid (⟨s.toArray⟩ = t) := ⟨_, Lib.hid rfl⟩
      rw [SB.out] at hcv hcq
      obtain ⟨gb, hgb⟩ : ∃ g, Hid (w3.heap.size = g) := ⟨_, Lib.hid rfl⟩
      rw [hgb.out] at hcv hCb
      obtain ⟨n, hn⟩ : ∃ n, Hid (s.length = n) := ⟨_, Lib.hid rfl⟩
      rw [hn.out] at hcv hrs hs216
      have D4 := Lib.hid hCb
      have B4 := Lib.hid hb4
      have q2 : (q : Int) < (N : Int) := by omega
      have HPL2 := Lib.hid hpl
      have HGD2 := Lib.hid hgd
      clear hqN hrk hpl hgd hCb hb4
      go_upto_region 11 with fail
      have hcr := D4.out.2 (16 + r) (by rw [hn.out]; exact hrs)
      obtain ⟨x, hx⟩ : ∃ x, Hid (bd s (16 + r) = x) := ⟨_, Lib.hid rfl⟩
      rw [hx.out] at hcr
      have hcr1 := hcr.1
      have hcr2 := hcr.2
      have hxor : bits .xor .u8 (n8 x) 1 = n8 (x ^^^ 1) := n8_xor x 1
      have r2 : 16 + (r : Int) < (n : Int) := by omega
      clear hcr hcq hcv
      go_upto_region 12 with fail
      refine gworld (fun W => Hid (Below w3.heap.size w3 W) ∧ Hid (Cb W gb (turnB s (16 + r)))) ⟨Lib.hid (B4.out.setCell (by rw [← hgb.out]; exact Nat.le_refl _) _), Lib.hid (by have := D4.out.set_ (16 + r) (by rw [hn.out]; exact hrs) (x ^^^ 1); rw [← hx.out] at this ⊢; exact this)⟩ ?_
      clear hcr1 hcr2 hxor D4 B4
      rintro w5 ⟨B5, D5⟩
      have C5 := Lib.hid (C3.out.below B5.out C3.out.lt)
      have hcv := D5.out.string (P := Tryd.prog) 42 9 5 cb_ Tryd.underlying42 Tryd.underlying5 Tryd.underlying9
      rw [turnB_length, hn.out] at hcv
      obtain ⟨tb, TB⟩ : ∃ t : ByteArray, Hid (⟨(turnB s (16 + r)).toArray⟩ = t) := ⟨_, Lib.hid rfl⟩
      rw [TB.out] at hcv
      have hcq : w5.cell? ⟨pb, off + q, none⟩ = some (.string sb) := by rw [C5.out.cell, CC.out q HQN.out, hs.out, SB.out]
      have hfq : w5.frozen? ⟨pb, off + q, none⟩ = false := C5.out.frozen _
      go_upto_region 13 with fail
      have hgb : ∀ q', (q' = pb ∨ False) → w.heap.size ≤ q' := fun q' h => by
        rcases h with rfl | h
        · exact PB1.out
        · exact h.elim
      have hkp : Kp (fun q' => q' = pb ∨ False) w3 (w5.setCell ⟨pb, off + q, none⟩ (.string tb)) := (Kp.of_below B5.out).trans (Kp.set_ (S := fun q' => q' = pb ∨ False) (.inl rfl) _ _)
      have HGB := Lib.hid hgb
      have hkp2 := hkp.below hgb J3.out.bs
      refine gworld (fun W => Hid (JW w.heap.size W (fun q' => q' = pb ∨ False) j (newJ 2 2)) ∧ Hid (Blk W pb 9 (cur.setIfInBounds (off + q) (.string tb))) ∧ Hid (Below w.heap.size w W)) ⟨Lib.hid (J3.out.wrote hkp hgb), Lib.hid (C5.out.set_ _ _), Lib.hid (B3.out.trans hkp2)⟩ ?_
      clear hkp hkp2 hgb hcv hcq hfq D5 B5 C5 C3 B3 J3
      rintro w6 ⟨J6, C6, B6⟩
      have CC2 := Lib.hid (show ∀ i, i < N → (cur.setIfInBounds (off + q) (.string tb))[off + i]? = some (.string ⟨((M.turn q r).part i).toArray⟩) from fun i hi => by
        rw [M.turn_part HM0.out q r i HRK.out (by rw [HPS.out]; exact HQN.out), Array.getElem?_setIfInBounds]
        by_cases hiq : i = q
        · subst hiq
          have := CC.out i hi
          rw [if_pos rfl, if_pos (by exact (Array.getElem?_eq_some_iff.1 this).1), if_pos rfl, hs.out, TB.out]
        · rw [if_neg (by omega), if_neg hiq]
          exact CC.out i hi)
      have HM := Lib.hid (Mg.turn_ok HM0.out q r)
      have HPS2 := Lib.hid (show (M.turn q r).ps.length = N by rw [M.turn_len, HPS.out])
      have HPL3 := Lib.hid (show ∀ i, i < N → ((M.turn q r).part i).length ≤ 140737488355328 from fun i hi => by
        rw [M.turn_part HM0.out q r i HRK.out (by rw [HPS.out]; exact HQN.out)]
        split
        · rw [turnB_length, HPL.out q HQN.out]; omega
        · rw [HPL.out i hi]; omega)
      have HNE := Lib.hid (show (M.turn q r).ps.flatten ≠ body from fun e => Mg.turn_flat M q r HRK.out (by rw [HPS.out]; exact HQN.out) (by rw [e, HFL.out]))
      obtain ⟨M', hM'⟩ : ∃ M', Hid (M.turn q r = M') := ⟨_, Lib.hid rfl⟩
      rw [hM'.out] at CC2 HM HPS2 HPL3 HNE
      obtain ⟨cur', hcur'⟩ : ∃ c, Hid (cur.setIfInBounds (off + q) (.string tb) = c) := ⟨_, Lib.hid rfl⟩
      rw [hcur'.out] at C6 CC2
      have HG := Lib.hid (Got.start M' HM.out 2 2)
      rw [HPS2.out] at HG
      rw [← firstC_zero] at HG
      clear hcur' hM' CC
      go_wp2_with fail
      try simp only [r1, q1]
      clear r1 q1
      go_loopg [73] (N + 1) (fun kq v73 wr => ∃ (i : Nat) (J : Jn), i + kq = N + 1 ∧ i < N ∧ v73 = .int .i64 i ∧ Hid (JW w.heap.size wr (fun q' => q' = pb ∨ False) j J) ∧ Hid (Got J M' (firstC N i)) ∧ Hid (J.most = 2 ∧ J.noted = 2 ∧ J.some.length + J.done.length ≤ if i = 0 then 0 else 1) ∧ Hid (Blk wr pb 9 cur') ∧ Hid (Below w.heap.size w wr))
      case atStart => exact ⟨0, _, by omega, by omega, rfl, J6, HG, Lib.hid ⟨rfl, rfl, by simp [newJ]⟩, C6, B6⟩
      case round =>
        clear J6 HG C6 B6
        obtain ⟨i, J, hik, hiN, rfl, JR, GR, FR, CR, BR⟩ := hrel
        have hci : wr.cell? ⟨pb, off + i, none⟩ = some (.string ⟨(M'.part i).toArray⟩) := by rw [CR.out.cell, CC2.out i hiN]
        have hpl := HPL3.out i hiN
        obtain ⟨y, hy⟩ : ∃ y, Hid (M'.part i = y) := ⟨_, Lib.hid rfl⟩
        rw [hy.out] at hci hpl
        have HPY := Lib.hid hpl
        obtain ⟨yb, YB⟩ : ∃ t : ByteArray, Hid (⟨y.toArray⟩ = t) := ⟨_, Lib.hid rfl⟩
        rw [YB.out] at hci
        have e1 : (i : Int) < (N : Int) := by omega
        have hroom : J.some.length < J.most ∧ J.done.length < J.noted := by
          have h1 := FR.out.2.2
          have h2 := FR.out.1
          have h3 := FR.out.2.1
          split at h1 <;> omega
        have hci1 := firstC_at N i hiN
        have hT := take_comes J M' (firstC N i) i HM.out GR.out hci1 hroom.1 hroom.2
        rw [firstC_set N i hiN, hy.out] at hT
        have HT := Lib.hid hT
        clear hT hpl hroom hci1
        by_cases hlast : i + 1 < N
        · have TK := Lib.hid (show Calls Tryd.prog 15 #[.pointer (some ⟨j, 0, none⟩), .string yb] wr fun e w' => e = .returned (.tuple #[.agg zTold, .bool false, .int .i64 0]) ∧ JNext w.heap.size wr w' (fun q' => q' = pb ∨ False) j (takeF J y).1 by
            rw [← YB.out]
            refine (take_jw JR.out y HPY.out).mono ?_
            rintro e w5 ⟨rfl, hN⟩
            have h2 : (takeF J y).2 = noTk 0 := by
              rw [HT.out.1]
              unfold Mg.ans
              rw [if_neg (by rw [(firstC_count N (i + 1)).1]; omega)]
            rw [h2]
            exact ⟨rfl, hN⟩)
          have e2 : (i : Int) < (N : Int) - 1 := by omega
          have e3 : 0 ≤ (N : Int) - 1 ∧ (N : Int) - 1 ≤ 11 := by omega
          go_wp2_with fail
          refine TK.out.mono ?_
          rintro e w7 ⟨rfl, N7⟩
          have CR7 := Lib.hid (show Blk w7 pb 9 cur' from (N7.o pb (.inl rfl)).trans CR.out)
          have JR7 := Lib.hid N7.j
          have BR7 := Lib.hid (BR.out.trans N7.b)
          clear N7 TK hci JR CR BR
          go_upto_region 17 with (first
            | ((with_reducible refine gate_store (t := 36) (p := 13) (v := .tmp 82) rfl ?_); refine wpList_store_row rfl 36 (.tmp 13) (.tmp 82) rfl w7.heap.size zTold rfl rfl 36 zTold (Blk.new w7 36 zTold) size_told rfl one_ztold ?_))
          have bn := below_newrow w7 (.cells zTold 36) zTold
          refine gworld (fun W => Hid (JW w.heap.size W (fun q' => q' = pb ∨ False) j (takeF J y).1) ∧ Hid (Blk W pb 9 cur') ∧ Hid (Below w.heap.size w W)) ⟨Lib.hid (JR7.out.below bn), Lib.hid (CR7.out.below bn CR7.out.lt), Lib.hid (BR7.out.trans (bn.mono BR7.out.size))⟩ ?_
          clear bn JR7 CR7 BR7
          rintro w8 ⟨J8, C8, B8⟩
          go_wp2_with fail
          go_roundg (N - i)
          case measure => omega
          case rel => exact ⟨i + 1, _, by omega, hlast, by go_num, J8, Lib.hid (HT.out.2.2 (fun h => by rw [(firstC_count N (i + 1)).1] at h; omega)), Lib.hid ⟨HT.out.2.1.most.trans FR.out.1, HT.out.2.1.noted.trans FR.out.2.1, by
              have h1 := HT.out.2.1.sum
              have h2 := FR.out.2.2
              rw [(firstC_count N i).2] at h1
              rw [if_neg (by omega)]
              split at h1
              · rw [if_pos (by assumption)] at h2; omega
              · rw [if_neg (by assumption)] at h2; omega⟩, C8, B8⟩
        · have hNi : N = i + 1 := by omega
          have e2 : ((N : Int) - 1) = (i : Int) := by omega
          have e3 : decide ((i : Int) < (i : Int)) = false := decide_eq_false (by omega)
          have e4 : (0 : Int) ≤ (N : Int) - 1 ∧ (N : Int) - 1 ≤ 11 := by omega
          have hcf : (firstC N (i + 1)).count false = 0 := by rw [(firstC_count N (i + 1)).1]; omega
          have hans : (takeF J y).2 = if digL M'.id M'.ps.flatten = M'.sum then ⟨M'.id, M'.ps.flatten, true, 0⟩ else noTk 220 := by
            rw [HT.out.1]; unfold Mg.ans; rw [if_pos hcf]
          by_cases hdg : digL M'.id M'.ps.flatten = M'.sum
          · rw [if_pos hdg] at hans
            obtain ⟨ub, UB⟩ : ∃ t : ByteArray, Hid (⟨M'.ps.flatten.toArray⟩ = t) := ⟨_, Lib.hid rfl⟩
            obtain ⟨vb, VB⟩ : ∃ t : ByteArray, Hid (⟨M'.id.toArray⟩ = t) := ⟨_, Lib.hid rfl⟩
            have hub : ub.toList ≠ bb.toList := by
              rw [HBT.out, ← UB.out, ByteArray.toList_eq]
              exact HNE.out
            have hub2 : (ub.toList != bb.toList) = true := by simpa using hub
            have hub3 : (ub.toList == bb.toList) = false := by simpa using hub
            have HANS := Lib.hid hans
            have TK := Lib.hid (show Calls Tryd.prog 15 #[.pointer (some ⟨j, 0, none⟩), .string yb] wr fun e w' => e = .returned (.tuple #[.agg #[.string vb, .string ub], .bool true, .int .i64 0]) ∧ JNext w.heap.size wr w' (fun q' => q' = pb ∨ False) j (takeF J y).1 by
              rw [← YB.out]
              refine (take_jw JR.out y HPY.out).mono ?_
              rintro e w5 ⟨rfl, hN⟩
              rw [HANS.out]
              refine ⟨?_, hN⟩
              rw [← UB.out, ← VB.out]
              rfl)
            clear hdg hans hcf hNi hub e1
            have e1 : (i : Int) < (N : Int) := by omega
            go_wp2_with fail
            refine TK.out.mono ?_
            rintro e w7 ⟨rfl, N7⟩
            have BR7 := Lib.hid (BR.out.trans N7.b)
            clear N7 TK hci JR CR BR
            go_upto_region 17 with (first
              | ((with_reducible refine gate_store (t := 36) (p := 13) (v := .tmp 82) rfl ?_); refine wpList_store_row rfl 36 (.tmp 13) (.tmp 82) rfl w7.heap.size #[.string vb, .string ub] rfl rfl 36 zTold (Blk.new w7 36 zTold) size_told rfl (one_told2 _ _) ?_))
            have bn := below_newrow w7 (.cells zTold 36) #[.string vb, .string ub]
            obtain ⟨gx, hgx⟩ : ∃ g, Hid (w7.heap.size = g) := ⟨_, Lib.hid rfl⟩
            refine gworld (fun W => Hid (Blk W gx 36 #[.string vb, .string ub]) ∧ Hid (Below w.heap.size w W)) ⟨Lib.hid (by rw [← hgx.out]; exact (Blk.new w7 36 zTold).setRow _), Lib.hid (BR7.out.trans (bn.mono BR7.out.size))⟩ ?_
            clear bn BR7
            rintro w8 ⟨M8, B8⟩
            rw [hgx.out]
            have m1 : w8.cell? ⟨gx, 1, none⟩ = some (.string ub) := M8.out.cell 1
            go_wp2_with fail
            go_ret
            exact ⟨rfl, B8.out⟩
          · rw [if_neg hdg] at hans
            have HANS := Lib.hid hans
            have TK := Lib.hid (show Calls Tryd.prog 15 #[.pointer (some ⟨j, 0, none⟩), .string yb] wr fun e w' => e = .returned (.tuple #[.agg zTold, .bool false, .int .i64 220]) ∧ JNext w.heap.size wr w' (fun q' => q' = pb ∨ False) j (takeF J y).1 by
              rw [← YB.out]
              refine (take_jw JR.out y HPY.out).mono ?_
              rintro e w5 ⟨rfl, hN⟩
              rw [HANS.out]
              exact ⟨rfl, hN⟩)
            clear hdg hans hcf hNi e1
            have e1 : (i : Int) < (N : Int) := by omega
            go_wp2_with fail
            refine TK.out.mono ?_
            rintro e w7 ⟨rfl, N7⟩
            have BR7 := Lib.hid (BR.out.trans N7.b)
            clear N7 TK hci JR CR BR
            go_upto_region 17 with (first
              | ((with_reducible refine gate_store (t := 36) (p := 13) (v := .tmp 82) rfl ?_); refine wpList_store_row rfl 36 (.tmp 13) (.tmp 82) rfl w7.heap.size zTold rfl rfl 36 zTold (Blk.new w7 36 zTold) size_told rfl one_ztold ?_))
            have bn := below_newrow w7 (.cells zTold 36) zTold
            refine gworld (fun W => Hid (Below w.heap.size w W)) (Lib.hid (BR7.out.trans (bn.mono BR7.out.size))) ?_
            clear bn BR7
            intro w8 B8
            go_wp2_with fail
            go_ret
            exact ⟨rfl, B8.out⟩
end Go.Proofs.YtlogcgeinbefjaaDoor

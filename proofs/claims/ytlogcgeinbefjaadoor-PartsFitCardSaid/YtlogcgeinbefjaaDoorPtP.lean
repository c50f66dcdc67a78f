/- The queues' puts. -/
import Derived.Test.YtlogcgeinbefjaaDoorPtB
namespace Go.Proofs.YtlogcgeinbefjaaDoor
open Go.RowKit Go.Proofs.YtlogcgeinbefjaaDoorW.PrintWords Go.Proofs.YtlogcgeinbefjaaDoorW.PrintLast
set_option linter.unusedSimpArgs false
set_option linter.unusedVariables false
set_option maxRecDepth 20000
def pushQ {α : Type} (most : Nat) (xs : List α) (x : α) : List α := (if xs.length = most then xs.drop 1 else xs) ++ [x]
theorem Blk.ty {w : World} {g : Nat} {t u : TypeId} {cs ds : Array Value} (h : Blk w g t cs) (k : Blk w g u ds) : t = u ∧ cs = ds := by
  have e := Option.some.inj (h.symm.trans k)
  injection e with e1 e2 e3
  exact ⟨e2, e1⟩
theorem elemTx : Elem Tryd.prog 22 9 (.string ⟨#[]⟩) 16 := ⟨Tryd.underlying22, by kernel_rfl, by rfl⟩
theorem cstr_one (l : List (List UInt8)) : ∀ u ∈ cstr l, u.oneCell' = true := by
  intro u hu
  obtain ⟨s, _, rfl⟩ := List.mem_map.1 hu
  rfl
theorem cstr_snoc (l : List (List UInt8)) (s : List UInt8) : cstr (l ++ [s]) = cstr l ++ [.string ⟨s.toArray⟩] := by simp [cstr]
def ptrN (l : List Nat) : List Value := l.map fun x => .pointer (some ⟨x, 0, none⟩)
theorem ptrN_length (l : List Nat) : (ptrN l).length = l.length := by simp [ptrN]
theorem ptrN_snoc (l : List Nat) (x : Nat) : ptrN (l ++ [x]) = ptrN l ++ [.pointer (some ⟨x, 0, none⟩)] := by simp [ptrN]
theorem ptrN_one (l : List Nat) : ∀ u ∈ ptrN l, u.oneCell' = true := by
  intro u hu
  obtain ⟨s, _, rfl⟩ := List.mem_map.1 hu
  rfl
theorem elemMs : Elem Tryd.prog 57 70 (.pointer none) 8 := ⟨Tryd.underlying57, by kernel_rfl, by rfl⟩
structure PutT (B j : Nat) (a : Int) (vS : Value) (m : Nat) (v : Value) (xs : List (List UInt8)) (w w' : World) (e : Ending) : Prop where
  e : e = .returned (.tuple #[])
  r : ∃ v', Blk w' j 63 #[.int .i64 a, vS, .int .i64 (m : Nat), v'] ∧ Win 9 w' B v' (cstr xs) ∧ Kp (fun i => i = j ∨ v.ownBlock = some i) w w' ∧ (v'.ownBlock = v.ownBlock ∨ ∃ b, v'.ownBlock = some b ∧ w.heap.size ≤ b)
set_option maxHeartbeats 1600000 in
theorem putT_any (B j : Nat) (a : Int) (vS : Value) (v : Value) (m : Nat) (xs : List (List UInt8)) (s : List UInt8) (w : World) (hj : Blk w j 63 #[.int .i64 a, vS, .int .i64 (m : Nat), v]) (hB : B ≤ w.heap.size) (hW : Win 9 w B v (cstr xs)) (hm : 1 ≤ m ∧ m ≤ 1024) (hx : xs.length ≤ m) :
    Calls Tryd.prog 28 #[.pointer (some ⟨j, 2, none⟩), .string ⟨s.toArray⟩] w fun e w' => PutT B j a vS m v (pushQ m xs s) w w' e := by
  have nb : ∀ n, Kp (fun i => i = j ∨ v.ownBlock = some i) w (w.drewN n) := fun n => Kp.of_below (below_drewN (Below.refl _ _) n)
  obtain ⟨sb, SB⟩ : ∃ t : ByteArray, Hid (⟨s.toArray⟩ = t) := ⟨_, Lib.hid rfl⟩
  rw [SB.out]
  obtain ⟨A, c, hv, hc1, hc2⟩ := hW.form
  rw [cstr_length] at hv hc1
  have HB := Lib.hid hB
  have HJ := Lib.hid hj
  have HW := Lib.hid hW
  have c2 : w.cell? ⟨j, 2, none⟩ = some (.int .i64 (m : Nat)) := hj.cell 2
  have c3 : w.cell? ⟨j, 3, none⟩ = some v := hj.cell 3
  have f3 : w.frozen? ⟨j, 3, none⟩ = false := hj.frozen 3
  have HNJ : Hid (∀ b, v.ownBlock = some b → b ≠ j) := Lib.hid (fun b h e => by
    obtain ⟨_, cs, hb⟩ := hW.typed b h
    subst e
    exact absurd (hb.ty hj).1 (by decide))
  by_cases hf : xs.length = m
  · obtain ⟨y, r, hr⟩ : ∃ y r, xs = y :: r := by
      cases xs with
      | nil => simp at hf; omega
      | cons y r => exact ⟨y, r, rfl⟩
    have HP := Lib.hid (show pushQ m xs s = r ++ [s] by unfold pushQ; rw [if_pos hf, hr]; rfl)
    obtain ⟨b, off, off', cap, hv2, hcap, ho, HT0⟩ := hW.tail (show cstr xs = .string ⟨y.toArray⟩ :: cstr r by rw [hr]; rfl)
    have HT := Lib.hid HT0
    rw [cstr_length] at hv2 HT
    have hrl : r.length + 1 = xs.length := by rw [hr]; rfl
    have d0 : ((xs.length : Int) == (m : Int)) = true := by rw [hf]; exact beq_self_eq_true _
    obtain ⟨n, hn⟩ : ∃ n, Hid (xs.length = n) := ⟨_, Lib.hid rfl⟩
    rw [hn.out] at d0 hv2 hrl
    have hcc := hv.symm.trans hv2
    rw [hn.out] at hcc
    injection hcc with _ _ hcc
    subst hcc
    rw [hn.out] at hc1
    rw [hv2] at c3
    have HV := Lib.hid hv2
    have HL := Lib.hid (show (r.length + 1) * 16 ≤ 140737488355328 ∧ r.length + 1 ≤ 9223372036854775807 by have := hn.out; omega)
    have e1 : (1 : Int) ≤ (n : Int) ∧ (n : Int) ≤ (c : Int) := by omega
    have HRL := Lib.hid hrl
    by_cases hc : c = 1
    · subst hc
      rw [if_pos rfl] at ho
      rw [ho] at HT
      clear ho
      have hn1 : n = 1 := by omega
      subst hn1
      have hr0 : r.length = 0 := by omega
      rw [hr0] at HT
      clear hj hB hW hm hx hf hr hv hv2 hrl HT0 hc1 hr0
      go_enter Tryd.func28, Tryd.ntmps28
      go_wp2_with fail
      go_quiet (fail)
      go_upto_region 2 with fail
      refine gworld (fun W => Hid (Blk W j 63 #[.int .i64 a, vS, .int .i64 (m : Nat), (Value.slice (some ⟨b, off, none⟩) 0 0)]) ∧ Hid (Win 9 W B (Value.slice (some ⟨b, off, none⟩) 0 0) (cstr r)) ∧ Hid (Kp (fun i => i = j ∨ v.ownBlock = some i) w W)) ⟨Lib.hid ((HJ.out.drewN _).set_ 3 _), Lib.hid ((HT.out.below (below_drewN (Below.refl _ _) _)).kp (Kp.set_ (S := fun i => i = j) rfl _ _) (fun b h e => HNJ.out b (by rw [HV.out]; exact h) e)), Lib.hid ((nb _).trans (Kp.set_ (.inl rfl) _ _))⟩ ?_
      rintro w1 ⟨J1, W1, K1⟩
      obtain ⟨v2, w2, hap, h2, h3, h4⟩ := win_append (P := Tryd.prog) (ty := 22) elemTx (W1.out.below ((Below.refl _ _).alloc (Nat.le_refl _) (.cells #[Value.string sb] 9))) (cstr_one _) w1.heap.size 1 (Value.string sb) ((Blk.new w1 9 #[Value.string sb]).cell 0) rfl (by rw [cstr_length]; exact HL.out.1) (by rw [cstr_length]; exact HL.out.2) (by simp; have := HB.out; have := K1.out.size; omega)
      obtain ⟨A2, c2', hv2, hc2', _⟩ := h2.form
      have N1 := Lib.hid (show ((Value.slice (some ⟨b, off, none⟩) 0 0)).ownBlock ≠ some j from fun h => by
        obtain ⟨_, cs, hb⟩ := W1.out.typed j h
        exact absurd (hb.ty J1.out).1 (by decide))
      have J2 := Lib.hid ((J1.out.alloc (.cells #[Value.string sb] 9)).grown h3 (fun h => N1.out h.symm))
      have c5 : w2.cell? ⟨j, 3, none⟩ = some ((Value.slice (some ⟨b, off, none⟩) 0 0)) := J2.out.cell 3
      have c4 : w1.cell? ⟨j, 3, none⟩ = some ((Value.slice (some ⟨b, off, none⟩) 0 0)) := J1.out.cell 3
      have f5 : w2.frozen? ⟨j, 3, none⟩ = false := J2.out.frozen 3
      have HV2 := Lib.hid hv2
      rw [hv2] at hap
      have HR := Lib.hid hap
      have H2 := Lib.hid h2
      have H3 := Lib.hid h3
      have H4 := Lib.hid h4
      clear hap h2 h3 h4 hc2' hv2
      obtain ⟨n2, hn2⟩ : ∃ n2, Hid ((cstr r ++ [Value.string sb]).length = n2) := ⟨_, Lib.hid rfl⟩
      rw [hn2.out] at HR HV2
      go_wp2_with ((with_reducible refine gate_dst (N := 29) rfl ?_); refine wpList_append_run rfl (.tmp 26) (.tmp 28) _ _ rfl rfl rfl HR.out ?_)
      go_end0
      rw [← HV2.out, HP.out]
      have N2 : ∀ b, v2.ownBlock = some b → b ≠ j := fun b h e => by
        obtain ⟨_, cs, hb⟩ := H2.out.typed b h
        subst e
        exact absurd (hb.ty J2.out).1 (by decide)
      refine ⟨rfl, v2, J2.out.set_ 3 _, ?_, ?_, ?_⟩
      · rw [cstr_snoc, SB.out]
        exact H2.out.kp (Kp.set_ (S := fun i => i = j) rfl _ _) (fun b h e => N2 b h e)
      · refine (K1.out.trans ((Kp.of_below ((Below.refl _ _).alloc (Nat.le_refl _) _)).trans (Kp.grown H3.out (fun k hk _ => .inr (by rw [HV.out]; exact hk))))).trans (Kp.set_ (.inl rfl) _ _)
      · rcases H4.out with h | h
        · exact .inl (h.trans (by rw [HV.out]; rfl))
        · exact .inr ⟨_, h, by simp; exact Nat.le_succ_of_le K1.out.size⟩
    · have hn1 : n - 1 = r.length := by omega
      rw [if_neg hc] at ho
      rw [ho] at HT
      clear ho
      rw [← hn1] at HT
      clear hj hB hW hm hx hf hr hv hv2 hrl HT0 hc1 hn1
      go_enter Tryd.func28, Tryd.ntmps28
      go_wp2_with fail
      go_quiet (fail)
      go_upto_region 2 with fail
      refine gworld (fun W => Hid (Blk W j 63 #[.int .i64 a, vS, .int .i64 (m : Nat), (Value.slice (some ⟨b, off + 1, none⟩) (n - 1) (c - 1))]) ∧ Hid (Win 9 W B (Value.slice (some ⟨b, off + 1, none⟩) (n - 1) (c - 1)) (cstr r)) ∧ Hid (Kp (fun i => i = j ∨ v.ownBlock = some i) w W)) ⟨Lib.hid ((HJ.out.drewN _).set_ 3 _), Lib.hid ((HT.out.below (below_drewN (Below.refl _ _) _)).kp (Kp.set_ (S := fun i => i = j) rfl _ _) (fun b h e => HNJ.out b (by rw [HV.out]; exact h) e)), Lib.hid ((nb _).trans (Kp.set_ (.inl rfl) _ _))⟩ ?_
      rintro w1 ⟨J1, W1, K1⟩
      obtain ⟨v2, w2, hap, h2, h3, h4⟩ := win_append (P := Tryd.prog) (ty := 22) elemTx (W1.out.below ((Below.refl _ _).alloc (Nat.le_refl _) (.cells #[Value.string sb] 9))) (cstr_one _) w1.heap.size 1 (Value.string sb) ((Blk.new w1 9 #[Value.string sb]).cell 0) rfl (by rw [cstr_length]; exact HL.out.1) (by rw [cstr_length]; exact HL.out.2) (by simp; have := HB.out; have := K1.out.size; omega)
      obtain ⟨A2, c2', hv2, hc2', _⟩ := h2.form
      have N1 := Lib.hid (show ((Value.slice (some ⟨b, off + 1, none⟩) (n - 1) (c - 1))).ownBlock ≠ some j from fun h => by
        obtain ⟨_, cs, hb⟩ := W1.out.typed j h
        exact absurd (hb.ty J1.out).1 (by decide))
      have J2 := Lib.hid ((J1.out.alloc (.cells #[Value.string sb] 9)).grown h3 (fun h => N1.out h.symm))
      have c5 : w2.cell? ⟨j, 3, none⟩ = some ((Value.slice (some ⟨b, off + 1, none⟩) (n - 1) (c - 1))) := J2.out.cell 3
      have c4 : w1.cell? ⟨j, 3, none⟩ = some ((Value.slice (some ⟨b, off + 1, none⟩) (n - 1) (c - 1))) := J1.out.cell 3
      have f5 : w2.frozen? ⟨j, 3, none⟩ = false := J2.out.frozen 3
      have HV2 := Lib.hid hv2
      rw [hv2] at hap
      have HR := Lib.hid hap
      have H2 := Lib.hid h2
      have H3 := Lib.hid h3
      have H4 := Lib.hid h4
      clear hap h2 h3 h4 hc2' hv2
      obtain ⟨n2, hn2⟩ : ∃ n2, Hid ((cstr r ++ [Value.string sb]).length = n2) := ⟨_, Lib.hid rfl⟩
      rw [hn2.out] at HR HV2
      go_wp2_with ((with_reducible refine gate_dst (N := 29) rfl ?_); refine wpList_append_run rfl (.tmp 26) (.tmp 28) _ _ rfl rfl rfl HR.out ?_)
      go_end0
      rw [← HV2.out, HP.out]
      have N2 : ∀ b, v2.ownBlock = some b → b ≠ j := fun b h e => by
        obtain ⟨_, cs, hb⟩ := H2.out.typed b h
        subst e
        exact absurd (hb.ty J2.out).1 (by decide)
      refine ⟨rfl, v2, J2.out.set_ 3 _, ?_, ?_, ?_⟩
      · rw [cstr_snoc, SB.out]
        exact H2.out.kp (Kp.set_ (S := fun i => i = j) rfl _ _) (fun b h e => N2 b h e)
      · refine (K1.out.trans ((Kp.of_below ((Below.refl _ _).alloc (Nat.le_refl _) _)).trans (Kp.grown H3.out (fun k hk _ => .inr (by rw [HV.out]; exact hk))))).trans (Kp.set_ (.inl rfl) _ _)
      · rcases H4.out with h | h
        · exact .inl (h.trans (by rw [HV.out]; rfl))
        · exact .inr ⟨_, h, by simp; exact Nat.le_succ_of_le K1.out.size⟩
  · have HP := Lib.hid (show pushQ m xs s = xs ++ [s] by unfold pushQ; rw [if_neg hf])
    have d0 : ((xs.length : Int) == (m : Int)) = false := beq_eq_false_iff_ne.mpr (by omega)
    have HL := Lib.hid (show (xs.length + 1) * 16 ≤ 140737488355328 ∧ xs.length + 1 ≤ 9223372036854775807 by omega)
    obtain ⟨n, hn⟩ : ∃ n, Hid (xs.length = n) := ⟨_, Lib.hid rfl⟩
    rw [hn.out] at d0 hc1 hv
    have c3' := c3
    rw [hv] at c3
    have HV := Lib.hid hv
    clear hj hB hW hm hx hf hv c3'
    go_enter Tryd.func28, Tryd.ntmps28
    go_wp2_with fail
    go_quiet (fail)
    go_upto_region 2 with fail
    refine gworld (fun W => Hid (Blk W j 63 #[.int .i64 a, vS, .int .i64 (m : Nat), v]) ∧ Hid (Win 9 W B v (cstr xs)) ∧ Hid (Kp (fun i => i = j ∨ v.ownBlock = some i) w W)) ⟨Lib.hid (HJ.out.drewN _), Lib.hid (HW.out.below (below_drewN (Below.refl _ _) _)), Lib.hid (nb _)⟩ ?_
    rintro w1 ⟨J1, W1, K1⟩
    obtain ⟨v2, w2, hap, h2, h3, h4⟩ := win_append (P := Tryd.prog) (ty := 22) elemTx (W1.out.below ((Below.refl _ _).alloc (Nat.le_refl _) (.cells #[Value.string sb] 9))) (cstr_one _) w1.heap.size 1 (Value.string sb) ((Blk.new w1 9 #[Value.string sb]).cell 0) rfl (by rw [cstr_length]; exact HL.out.1) (by rw [cstr_length]; exact HL.out.2) (by simp; have := HB.out; have := K1.out.size; omega)
    obtain ⟨A2, c2', hv2, hc2', _⟩ := h2.form
    have N1 := Lib.hid (show (v).ownBlock ≠ some j from fun h => by
      obtain ⟨_, cs, hb⟩ := W1.out.typed j h
      exact absurd (hb.ty J1.out).1 (by decide))
    have J2 := Lib.hid ((J1.out.alloc (.cells #[Value.string sb] 9)).grown h3 (fun h => N1.out h.symm))
    have c5 : w2.cell? ⟨j, 3, none⟩ = some (v) := J2.out.cell 3
    have c4 : w1.cell? ⟨j, 3, none⟩ = some (v) := J1.out.cell 3
    have f5 : w2.frozen? ⟨j, 3, none⟩ = false := J2.out.frozen 3
    have HV2 := Lib.hid hv2
    rw [hv2] at hap
    have HR := Lib.hid hap
    have H2 := Lib.hid h2
    have H3 := Lib.hid h3
    have H4 := Lib.hid h4
    clear hap h2 h3 h4 hc2' hv2
    rw [HV.out] at HR c4 c5
    obtain ⟨n2, hn2⟩ : ∃ n2, Hid ((cstr xs ++ [Value.string sb]).length = n2) := ⟨_, Lib.hid rfl⟩
    rw [hn2.out] at HR HV2
    go_wp2_with ((with_reducible refine gate_dst (N := 29) rfl ?_); refine wpList_append_run rfl (.tmp 26) (.tmp 28) _ _ rfl rfl rfl HR.out ?_)
    go_end0
    rw [← HV2.out, HP.out]
    have N2 : ∀ b, v2.ownBlock = some b → b ≠ j := fun b h e => by
      obtain ⟨_, cs, hb⟩ := H2.out.typed b h
      subst e
      exact absurd (hb.ty J2.out).1 (by decide)
    refine ⟨rfl, v2, J2.out.set_ 3 _, ?_, ?_, ?_⟩
    · rw [cstr_snoc, SB.out]
      exact H2.out.kp (Kp.set_ (S := fun i => i = j) rfl _ _) (fun b h e => N2 b h e)
    · refine (K1.out.trans ((Kp.of_below ((Below.refl _ _).alloc (Nat.le_refl _) _)).trans (Kp.grown H3.out (fun k hk _ => .inr hk)))).trans (Kp.set_ (.inl rfl) _ _)
    · rcases H4.out with h | h
      · exact .inl (h.trans rfl)
      · exact .inr ⟨_, h, by simp; exact Nat.le_succ_of_le K1.out.size⟩
structure PutM (B j : Nat) (a : Int) (vN : Value) (m : Nat) (v : Value) (xs : List (Nat)) (w w' : World) (e : Ending) : Prop where
  e : e = .returned (.tuple #[])
  r : ∃ v', Blk w' j 63 #[.int .i64 (m : Nat), v', .int .i64 a, vN] ∧ Win 70 w' B v' (ptrN xs) ∧ Kp (fun i => i = j ∨ v.ownBlock = some i) w w' ∧ (v'.ownBlock = v.ownBlock ∨ ∃ b, v'.ownBlock = some b ∧ w.heap.size ≤ b)
set_option maxHeartbeats 1600000 in
theorem putM_any (B j : Nat) (a : Int) (vN : Value) (v : Value) (m : Nat) (xs : List (Nat)) (s : Nat) (w : World) (hj : Blk w j 63 #[.int .i64 (m : Nat), v, .int .i64 a, vN]) (hB : B ≤ w.heap.size) (hW : Win 70 w B v (ptrN xs)) (hm : 1 ≤ m ∧ m ≤ 1024) (hx : xs.length ≤ m) :
    Calls Tryd.prog 25 #[.pointer (some ⟨j, 0, none⟩), .pointer (some ⟨s, 0, none⟩)] w fun e w' => PutM B j a vN m v (pushQ m xs s) w w' e := by
  have nb : ∀ n, Kp (fun i => i = j ∨ v.ownBlock = some i) w (w.drewN n) := fun n => Kp.of_below (below_drewN (Below.refl _ _) n)
  obtain ⟨A, c, hv, hc1, hc2⟩ := hW.form
  rw [ptrN_length] at hv hc1
  have HB := Lib.hid hB
  have HJ := Lib.hid hj
  have HW := Lib.hid hW
  have c2 : w.cell? ⟨j, 0, none⟩ = some (.int .i64 (m : Nat)) := hj.cell 0
  have c3 : w.cell? ⟨j, 1, none⟩ = some v := hj.cell 1
  have f3 : w.frozen? ⟨j, 1, none⟩ = false := hj.frozen 1
  have HNJ : Hid (∀ b, v.ownBlock = some b → b ≠ j) := Lib.hid (fun b h e => by
    obtain ⟨_, cs, hb⟩ := hW.typed b h
    subst e
    exact absurd (hb.ty hj).1 (by decide))
  by_cases hf : xs.length = m
  · obtain ⟨y, r, hr⟩ : ∃ y r, xs = y :: r := by
      cases xs with
      | nil => simp at hf; omega
      | cons y r => exact ⟨y, r, rfl⟩
    have HP := Lib.hid (show pushQ m xs s = r ++ [s] by unfold pushQ; rw [if_pos hf, hr]; rfl)
    obtain ⟨b, off, off', cap, hv2, hcap, ho, HT0⟩ := hW.tail (show ptrN xs = .pointer (some ⟨y, 0, none⟩) :: ptrN r by rw [hr]; rfl)
    have HT := Lib.hid HT0
    rw [ptrN_length] at hv2 HT
    have hrl : r.length + 1 = xs.length := by rw [hr]; rfl
    have d0 : ((xs.length : Int) == (m : Int)) = true := by rw [hf]; exact beq_self_eq_true _
    obtain ⟨n, hn⟩ : ∃ n, Hid (xs.length = n) := ⟨_, Lib.hid rfl⟩
    rw [hn.out] at d0 hv2 hrl
    have hcc := hv.symm.trans hv2
    rw [hn.out] at hcc
    injection hcc with _ _ hcc
    subst hcc
    rw [hn.out] at hc1
    rw [hv2] at c3
    have HV := Lib.hid hv2
    have HL := Lib.hid (show (r.length + 1) * 8 ≤ 140737488355328 ∧ r.length + 1 ≤ 9223372036854775807 by have := hn.out; omega)
    have e1 : (1 : Int) ≤ (n : Int) ∧ (n : Int) ≤ (c : Int) := by omega
    have HRL := Lib.hid hrl
    by_cases hc : c = 1
    · subst hc
      rw [if_pos rfl] at ho
      rw [ho] at HT
      clear ho
      have hn1 : n = 1 := by omega
      subst hn1
      have hr0 : r.length = 0 := by omega
      rw [hr0] at HT
      clear hj hB hW hm hx hf hr hv hv2 hrl HT0 hc1 hr0
      go_enter Tryd.func25, Tryd.ntmps25
      go_wp2_with fail
      go_quiet (fail)
      go_upto_region 2 with fail
      refine gworld (fun W => Hid (Blk W j 63 #[.int .i64 (m : Nat), (Value.slice (some ⟨b, off, none⟩) 0 0), .int .i64 a, vN]) ∧ Hid (Win 70 W B (Value.slice (some ⟨b, off, none⟩) 0 0) (ptrN r)) ∧ Hid (Kp (fun i => i = j ∨ v.ownBlock = some i) w W)) ⟨Lib.hid ((HJ.out.drewN _).set_ 1 _), Lib.hid ((HT.out.below (below_drewN (Below.refl _ _) _)).kp (Kp.set_ (S := fun i => i = j) rfl _ _) (fun b h e => HNJ.out b (by rw [HV.out]; exact h) e)), Lib.hid ((nb _).trans (Kp.set_ (.inl rfl) _ _))⟩ ?_
      rintro w1 ⟨J1, W1, K1⟩
      obtain ⟨v2, w2, hap, h2, h3, h4⟩ := win_append (P := Tryd.prog) (ty := 57) elemMs (W1.out.below ((Below.refl _ _).alloc (Nat.le_refl _) (.cells #[Value.pointer (some ⟨s, 0, none⟩)] 70))) (ptrN_one _) w1.heap.size 1 (Value.pointer (some ⟨s, 0, none⟩)) ((Blk.new w1 70 #[Value.pointer (some ⟨s, 0, none⟩)]).cell 0) rfl (by rw [ptrN_length]; exact HL.out.1) (by rw [ptrN_length]; exact HL.out.2) (by simp; have := HB.out; have := K1.out.size; omega)
      obtain ⟨A2, c2', hv2, hc2', _⟩ := h2.form
      have N1 := Lib.hid (show ((Value.slice (some ⟨b, off, none⟩) 0 0)).ownBlock ≠ some j from fun h => by
        obtain ⟨_, cs, hb⟩ := W1.out.typed j h
        exact absurd (hb.ty J1.out).1 (by decide))
      have J2 := Lib.hid ((J1.out.alloc (.cells #[Value.pointer (some ⟨s, 0, none⟩)] 70)).grown h3 (fun h => N1.out h.symm))
      have c5 : w2.cell? ⟨j, 1, none⟩ = some ((Value.slice (some ⟨b, off, none⟩) 0 0)) := J2.out.cell 1
      have c4 : w1.cell? ⟨j, 1, none⟩ = some ((Value.slice (some ⟨b, off, none⟩) 0 0)) := J1.out.cell 1
      have f5 : w2.frozen? ⟨j, 1, none⟩ = false := J2.out.frozen 1
      have HV2 := Lib.hid hv2
      rw [hv2] at hap
      have HR := Lib.hid hap
      have H2 := Lib.hid h2
      have H3 := Lib.hid h3
      have H4 := Lib.hid h4
      clear hap h2 h3 h4 hc2' hv2
      obtain ⟨n2, hn2⟩ : ∃ n2, Hid ((ptrN r ++ [Value.pointer (some ⟨s, 0, none⟩)]).length = n2) := ⟨_, Lib.hid rfl⟩
      rw [hn2.out] at HR HV2
      go_wp2_with ((with_reducible refine gate_dst (N := 29) rfl ?_); refine wpList_append_run rfl (.tmp 26) (.tmp 28) _ _ rfl rfl rfl HR.out ?_)
      go_end0
      rw [← HV2.out, HP.out]
      have N2 : ∀ b, v2.ownBlock = some b → b ≠ j := fun b h e => by
        obtain ⟨_, cs, hb⟩ := H2.out.typed b h
        subst e
        exact absurd (hb.ty J2.out).1 (by decide)
      refine ⟨rfl, v2, J2.out.set_ 1 _, ?_, ?_, ?_⟩
      · rw [ptrN_snoc]
        exact H2.out.kp (Kp.set_ (S := fun i => i = j) rfl _ _) (fun b h e => N2 b h e)
      · refine (K1.out.trans ((Kp.of_below ((Below.refl _ _).alloc (Nat.le_refl _) _)).trans (Kp.grown H3.out (fun k hk _ => .inr (by rw [HV.out]; exact hk))))).trans (Kp.set_ (.inl rfl) _ _)
      · rcases H4.out with h | h
        · exact .inl (h.trans (by rw [HV.out]; rfl))
        · exact .inr ⟨_, h, by simp; exact Nat.le_succ_of_le K1.out.size⟩
    · have hn1 : n - 1 = r.length := by omega
      rw [if_neg hc] at ho
      rw [ho] at HT
      clear ho
      rw [← hn1] at HT
      clear hj hB hW hm hx hf hr hv hv2 hrl HT0 hc1 hn1
      go_enter Tryd.func25, Tryd.ntmps25
      go_wp2_with fail
      go_quiet (fail)
      go_upto_region 2 with fail
      refine gworld (fun W => Hid (Blk W j 63 #[.int .i64 (m : Nat), (Value.slice (some ⟨b, off + 1, none⟩) (n - 1) (c - 1)), .int .i64 a, vN]) ∧ Hid (Win 70 W B (Value.slice (some ⟨b, off + 1, none⟩) (n - 1) (c - 1)) (ptrN r)) ∧ Hid (Kp (fun i => i = j ∨ v.ownBlock = some i) w W)) ⟨Lib.hid ((HJ.out.drewN _).set_ 1 _), Lib.hid ((HT.out.below (below_drewN (Below.refl _ _) _)).kp (Kp.set_ (S := fun i => i = j) rfl _ _) (fun b h e => HNJ.out b (by rw [HV.out]; exact h) e)), Lib.hid ((nb _).trans (Kp.set_ (.inl rfl) _ _))⟩ ?_
      rintro w1 ⟨J1, W1, K1⟩
      obtain ⟨v2, w2, hap, h2, h3, h4⟩ := win_append (P := Tryd.prog) (ty := 57) elemMs (W1.out.below ((Below.refl _ _).alloc (Nat.le_refl _) (.cells #[Value.pointer (some ⟨s, 0, none⟩)] 70))) (ptrN_one _) w1.heap.size 1 (Value.pointer (some ⟨s, 0, none⟩)) ((Blk.new w1 70 #[Value.pointer (some ⟨s, 0, none⟩)]).cell 0) rfl (by rw [ptrN_length]; exact HL.out.1) (by rw [ptrN_length]; exact HL.out.2) (by simp; have := HB.out; have := K1.out.size; omega)
      obtain ⟨A2, c2', hv2, hc2', _⟩ := h2.form
      have N1 := Lib.hid (show ((Value.slice (some ⟨b, off + 1, none⟩) (n - 1) (c - 1))).ownBlock ≠ some j from fun h => by
        obtain ⟨_, cs, hb⟩ := W1.out.typed j h
        exact absurd (hb.ty J1.out).1 (by decide))
      have J2 := Lib.hid ((J1.out.alloc (.cells #[Value.pointer (some ⟨s, 0, none⟩)] 70)).grown h3 (fun h => N1.out h.symm))
      have c5 : w2.cell? ⟨j, 1, none⟩ = some ((Value.slice (some ⟨b, off + 1, none⟩) (n - 1) (c - 1))) := J2.out.cell 1
      have c4 : w1.cell? ⟨j, 1, none⟩ = some ((Value.slice (some ⟨b, off + 1, none⟩) (n - 1) (c - 1))) := J1.out.cell 1
      have f5 : w2.frozen? ⟨j, 1, none⟩ = false := J2.out.frozen 1
      have HV2 := Lib.hid hv2
      rw [hv2] at hap
      have HR := Lib.hid hap
      have H2 := Lib.hid h2
      have H3 := Lib.hid h3
      have H4 := Lib.hid h4
      clear hap h2 h3 h4 hc2' hv2
      obtain ⟨n2, hn2⟩ : ∃ n2, Hid ((ptrN r ++ [Value.pointer (some ⟨s, 0, none⟩)]).length = n2) := ⟨_, Lib.hid rfl⟩
      rw [hn2.out] at HR HV2
      go_wp2_with ((with_reducible refine gate_dst (N := 29) rfl ?_); refine wpList_append_run rfl (.tmp 26) (.tmp 28) _ _ rfl rfl rfl HR.out ?_)
      go_end0
      rw [← HV2.out, HP.out]
      have N2 : ∀ b, v2.ownBlock = some b → b ≠ j := fun b h e => by
        obtain ⟨_, cs, hb⟩ := H2.out.typed b h
        subst e
        exact absurd (hb.ty J2.out).1 (by decide)
      refine ⟨rfl, v2, J2.out.set_ 1 _, ?_, ?_, ?_⟩
      · rw [ptrN_snoc]
        exact H2.out.kp (Kp.set_ (S := fun i => i = j) rfl _ _) (fun b h e => N2 b h e)
      · refine (K1.out.trans ((Kp.of_below ((Below.refl _ _).alloc (Nat.le_refl _) _)).trans (Kp.grown H3.out (fun k hk _ => .inr (by rw [HV.out]; exact hk))))).trans (Kp.set_ (.inl rfl) _ _)
      · rcases H4.out with h | h
        · exact .inl (h.trans (by rw [HV.out]; rfl))
        · exact .inr ⟨_, h, by simp; exact Nat.le_succ_of_le K1.out.size⟩
  · have HP := Lib.hid (show pushQ m xs s = xs ++ [s] by unfold pushQ; rw [if_neg hf])
    have d0 : ((xs.length : Int) == (m : Int)) = false := beq_eq_false_iff_ne.mpr (by omega)
    have HL := Lib.hid (show (xs.length + 1) * 8 ≤ 140737488355328 ∧ xs.length + 1 ≤ 9223372036854775807 by omega)
    obtain ⟨n, hn⟩ : ∃ n, Hid (xs.length = n) := ⟨_, Lib.hid rfl⟩
    rw [hn.out] at d0 hc1 hv
    have c3' := c3
    rw [hv] at c3
    have HV := Lib.hid hv
    clear hj hB hW hm hx hf hv c3'
    go_enter Tryd.func25, Tryd.ntmps25
    go_wp2_with fail
    go_quiet (fail)
    go_upto_region 2 with fail
    refine gworld (fun W => Hid (Blk W j 63 #[.int .i64 (m : Nat), v, .int .i64 a, vN]) ∧ Hid (Win 70 W B v (ptrN xs)) ∧ Hid (Kp (fun i => i = j ∨ v.ownBlock = some i) w W)) ⟨Lib.hid (HJ.out.drewN _), Lib.hid (HW.out.below (below_drewN (Below.refl _ _) _)), Lib.hid (nb _)⟩ ?_
    rintro w1 ⟨J1, W1, K1⟩
    obtain ⟨v2, w2, hap, h2, h3, h4⟩ := win_append (P := Tryd.prog) (ty := 57) elemMs (W1.out.below ((Below.refl _ _).alloc (Nat.le_refl _) (.cells #[Value.pointer (some ⟨s, 0, none⟩)] 70))) (ptrN_one _) w1.heap.size 1 (Value.pointer (some ⟨s, 0, none⟩)) ((Blk.new w1 70 #[Value.pointer (some ⟨s, 0, none⟩)]).cell 0) rfl (by rw [ptrN_length]; exact HL.out.1) (by rw [ptrN_length]; exact HL.out.2) (by simp; have := HB.out; have := K1.out.size; omega)
    obtain ⟨A2, c2', hv2, hc2', _⟩ := h2.form
    have N1 := Lib.hid (show (v).ownBlock ≠ some j from fun h => by
      obtain ⟨_, cs, hb⟩ := W1.out.typed j h
      exact absurd (hb.ty J1.out).1 (by decide))
    have J2 := Lib.hid ((J1.out.alloc (.cells #[Value.pointer (some ⟨s, 0, none⟩)] 70)).grown h3 (fun h => N1.out h.symm))
    have c5 : w2.cell? ⟨j, 1, none⟩ = some (v) := J2.out.cell 1
    have c4 : w1.cell? ⟨j, 1, none⟩ = some (v) := J1.out.cell 1
    have f5 : w2.frozen? ⟨j, 1, none⟩ = false := J2.out.frozen 1
    have HV2 := Lib.hid hv2
    rw [hv2] at hap
    have HR := Lib.hid hap
    have H2 := Lib.hid h2
    have H3 := Lib.hid h3
    have H4 := Lib.hid h4
    clear hap h2 h3 h4 hc2' hv2
    rw [HV.out] at HR c4 c5
    obtain ⟨n2, hn2⟩ : ∃ n2, Hid ((ptrN xs ++ [Value.pointer (some ⟨s, 0, none⟩)]).length = n2) := ⟨_, Lib.hid rfl⟩
    rw [hn2.out] at HR HV2
    go_wp2_with ((with_reducible refine gate_dst (N := 29) rfl ?_); refine wpList_append_run rfl (.tmp 26) (.tmp 28) _ _ rfl rfl rfl HR.out ?_)
    go_end0
    rw [← HV2.out, HP.out]
    have N2 : ∀ b, v2.ownBlock = some b → b ≠ j := fun b h e => by
      obtain ⟨_, cs, hb⟩ := H2.out.typed b h
      subst e
      exact absurd (hb.ty J2.out).1 (by decide)
    refine ⟨rfl, v2, J2.out.set_ 1 _, ?_, ?_, ?_⟩
    · rw [ptrN_snoc]
      exact H2.out.kp (Kp.set_ (S := fun i => i = j) rfl _ _) (fun b h e => N2 b h e)
    · refine (K1.out.trans ((Kp.of_below ((Below.refl _ _).alloc (Nat.le_refl _) _)).trans (Kp.grown H3.out (fun k hk _ => .inr hk)))).trans (Kp.set_ (.inl rfl) _ _)
    · rcases H4.out with h | h
      · exact .inl (h.trans rfl)
      · exact .inr ⟨_, h, by simp; exact Nat.le_succ_of_le K1.out.size⟩
end Go.Proofs.YtlogcgeinbefjaaDoor

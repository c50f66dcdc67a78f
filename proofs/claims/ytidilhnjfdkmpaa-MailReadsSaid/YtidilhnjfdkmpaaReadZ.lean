/- The law MailReads: what Decode and the reference's Decode give, alike. The law MailReads: the walk. -/


import Derived.Test.YtidilhnjfdkmpaaRefDecZ
import Derived.Test.YtidilhnjfdkmpaaExt11c
import Derived.Test.YtidilhnjfdkmpaaL11f
import Derived.Test.YtidilhnjfdkmpaaPMailWx
namespace Go.Proofs.Ytidilhnjfdkmpaa
open Go.RowKit Go.Proofs.Ytidilhnjfdkmpaa.PMailA Go.Proofs.Ytidilhnjfdkmpaa.PMailW Go.Proofs.YtidilhnjfdkmpaaW.PrintWords Go.Proofs.YtidilhnjfdkmpaaW.PrintLast
set_option linter.unusedSimpArgs false
set_option linter.unusedVariables false
set_option maxRecDepth 100000 in
theorem works11r_ev : Ev (fun k => dovecotelaw11_works.f k) true := Ev.of (fun k => dovecotelaw11_works.mono k) (k := 40) (by decide +kernel)
theorem slots_same3 (l : List S43) (hl : l.length ≤ 9000000000000000) (d : Nat) : ∀ i, i + d = l.length → Ev (fun k => dovecotebook_SameSlots.l0 k l l (i : Int)) true := by
  induction d with
  | zero =>
    intro i hi
    refine Ev.step (f := fun _ => some true) (fun k => ?_) (Ev.now _)
    simp only [dovecotebook_SameSlots.l0]
    rw [if_neg (by omega)]
  | succ d ih =>
    intro i hi
    refine Ev.step (f := fun k => dovecotebook_SameSlots.l0 k l l ((i + 1 : Nat) : Int)) (fun k => ?_) (ih (i + 1) (by omega))
    simp only [dovecotebook_SameSlots.l0]
    rw [if_pos (by omega), if_pos (by omega), if_pos (by omega), if_neg (by simp), show wrap64 ((i : Int) + 1) = ((i + 1 : Nat) : Int) by unfold wrap64; omega]
theorem texts_same3 (l : List ByteArray) (hl : l.length ≤ 9000000000000000) (d : Nat) : ∀ i, i + d = l.length → Ev (fun k => dovecotebook_SameTexts.l0 k l l (i : Int)) true := by
  induction d with
  | zero =>
    intro i hi
    refine Ev.step (f := fun _ => some true) (fun k => ?_) (Ev.now _)
    simp only [dovecotebook_SameTexts.l0]
    rw [if_neg (by omega)]
  | succ d ih =>
    intro i hi
    refine Ev.step (f := fun k => dovecotebook_SameTexts.l0 k l l ((i + 1 : Nat) : Int)) (fun k => ?_) (ih (i + 1) (by omega))
    simp only [dovecotebook_SameTexts.l0]
    rw [if_pos (by omega), if_pos (by omega), if_pos (by omega), if_pos trivial, show wrap64 ((i : Int) + 1) = ((i + 1 : Nat) : Int) by unfold wrap64; omega]
theorem same_ev3 (a0 a1 a2 : Int) (a3 a4 : ByteArray) (l5 : List S43) (l6 : List ByteArray) (h5 : l5.length ≤ 9000000000000000) (h6 : l6.length ≤ 9000000000000000) : Ev (fun k => dovecotebook_SameMail.f k a0 a1 a2 a3 a4 l5 l6 a0 a1 a2 a3 a4 l5 l6) true := by
  unfold dovecotebook_SameMail.f
  refine Ev.congr (fun k => by rw [if_pos rfl, if_pos rfl, if_pos rfl, if_pos rfl, if_pos rfl]) ?_
  refine Ev.bind (a := true) ?_ (Ev.congr (fun k => if_pos rfl) (Ev.bind (a := true) ?_ (Ev.now _)))
  · unfold dovecotebook_SameSlots.f
    exact Ev.congr (fun k => if_pos rfl) (slots_same3 l5 h5 l5.length 0 (by omega))
  · unfold dovecotebook_SameTexts.f
    exact Ev.congr (fun k => if_pos rfl) (texts_same3 l6 h6 l6.length 0 (by omega))
theorem long_same3 (a : Int) : ∃ n, mail_Long.f a = some n ∧ dovecoteref11_Long.f a = some n := by
  unfold mail_Long.f dovecoteref11_Long.f
  by_cases h1 : a = 1
  · exact ⟨_, if_pos h1, if_pos h1⟩
  rw [if_neg h1]
  by_cases h2 : a = 2
  · exact ⟨_, if_pos h2, if_pos h2⟩
  rw [if_neg h2]
  by_cases h3 : a = 3
  · exact ⟨_, if_pos h3, if_pos h3⟩
  rw [if_neg h3]
  by_cases h4 : a = 4
  · exact ⟨_, if_pos h4, if_pos h4⟩
  exact ⟨_, if_neg h4, if_neg h4⟩
theorem dSlots_len (n : Nat) : ∀ r ls, (dSlots n r ls).length = ls.length + n := by
  induction n with
  | zero => intro r ls; rfl
  | succ n ih => intro r ls; show (dSlots n _ (ls ++ [slotT r])).length = _; rw [ih, List.length_append, List.length_singleton]; omega
theorem dIds_len (n : Nat) : ∀ r li, (dIds n r li).length ≤ li.length + n := by
  induction n with
  | zero => intro r li; exact Nat.le_refl _
  | succ n ih =>
    intro r li
    show (dIds n (r.drop 16) (if r.take 16 = noIdL then li else li ++ [tx (r.take 16)])).length ≤ _
    refine Nat.le_trans (ih _ _) ?_
    split
    · omega
    · rw [List.length_append, List.length_singleton]; omega
theorem ref_parts {k : Nat} {kd u q : Int} {text tag : ByteArray} {ls : List S43} {li : List ByteArray} {t : ByteArray} {e0 : Int} (h : dovecoteref11_Encode.f k kd u q text tag ls li = some (t, e0)) :
    dovecoteref11_Check.f k kd u q text tag ls li = some e0 ∧ (e0 = 0 → dovecoteref11_Text.f k kd u q text tag ls li = some t) := by
  unfold dovecoteref11_Encode.f at h
  obtain ⟨c, hc, h⟩ := Option.bind_eq_some_iff.mp h
  split at h
  · rename_i h0
    obtain ⟨x, hx, h⟩ := Option.bind_eq_some_iff.mp h
    simp only [Option.some.injEq, Prod.mk.injEq] at h
    obtain ⟨rfl, rfl⟩ := h
    exact ⟨by rw [hc, h0], fun _ => hx⟩
  · rename_i h0
    simp only [Option.some.injEq, Prod.mk.injEq] at h
    obtain ⟨rfl, rfl⟩ := h
    exact ⟨hc, fun h => absurd h h0⟩
def Both (a0 : ByteArray) (r : DecR) : Prop := Ev (fun k => mail_Decode.f k a0) r ∧ (∀ w, Calls Try.prog 17 #[.string a0] w fun e w' => DecOut w r.1 r.2.1 r.2.2.1 r.2.2.2.1 r.2.2.2.2.1 r.2.2.2.2.2.1 r.2.2.2.2.2.2.1 r.2.2.2.2.2.2.2 e w') ∧ r.2.2.2.2.2.1.length ≤ 4 ∧ r.2.2.2.2.2.2.1.length ≤ 4
theorem tail_both (a0 : ByteArray) (kd : Int) (tag : ByteArray) (ls : List S43) (li : List ByteArray) (h1 : ls.length ≤ 4) (h2 : li.length ≤ 4) (hd : ∀ k, mail_Decode.f k a0 = decTail k a0 kd tag ls li)
    (hR : ∀ kE c t, dovecoteref11_Check.f kE kd (uL a0.data.toList) (qL a0.data.toList) ⟨#[]⟩ tag ls li = some c → (c = 0 → dovecoteref11_Text.f kE kd (uL a0.data.toList) (qL a0.data.toList) ⟨#[]⟩ tag ls li = some t) → ∀ w, Calls Try.prog 17 #[.string a0] w fun e w' => (c = 0 ∧ t.toList = a0.toList → DecOut w kd (uL a0.data.toList) (qL a0.data.toList) ⟨#[]⟩ tag ls li 0 e w') ∧ (¬ (c = 0 ∧ t.toList = a0.toList) → DecOut w 0 0 0 ⟨#[]⟩ ⟨#[]⟩ [] [] 110 e w')) : ∃ r, Both a0 r := by
  obtain ⟨⟨t, e0⟩, c, ⟨K1, k1⟩, ⟨K2, k2⟩, _, _⟩ := both_enc kd (uL a0.data.toList) (qL a0.data.toList) ⟨#[]⟩ tag ls li (by omega)
  obtain ⟨hc, ht⟩ := ref_parts (k2 K2 (Nat.le_refl _))
  have hR := hR K2 e0 t hc ht
  by_cases h : e0 = 0 ∧ t.toList = a0.toList
  · refine ⟨(kd, uL a0.data.toList, qL a0.data.toList, ⟨#[]⟩, tag, ls, li, 0), ⟨K1, fun k hk => ?_⟩, fun w => (hR w).mono fun e w' hh => hh.1 h, h1, h2⟩
    show mail_Decode.f k a0 = _
    have e1 : mail_Encode.f k kd (uL a0.data.toList) (qL a0.data.toList) ⟨#[]⟩ tag ls li = some (t, e0) := k1 k hk
    rw [hd k]
    unfold decTail
    rw [e1]
    exact if_pos h
  · refine ⟨zeroR, ⟨K1, fun k hk => ?_⟩, fun w => (hR w).mono fun e w' hh => hh.2 h, by simp [zeroR], by simp [zeroR]⟩
    show mail_Decode.f k a0 = _
    have e1 : mail_Encode.f k kd (uL a0.data.toList) (qL a0.data.toList) ⟨#[]⟩ tag ls li = some (t, e0) := k1 k hk
    rw [hd k]
    unfold decTail
    rw [e1]
    exact if_neg h
theorem both_any (a0 : ByteArray) : ∃ r, Both a0 r := by
  by_cases h0 : a0.size = 0
  · refine ⟨zeroR, Ev.congr (f := fun _ => some zeroR) (fun k => by unfold mail_Decode.f; rw [if_pos h0]) (Ev.now _), fun w => ?_, by simp [zeroR], by simp [zeroR]⟩
    refine (rdec_none a0 w (by rw [ByteArray.toList_eq]; exact List.eq_nil_of_length_eq_zero (by rw [Array.length_toList]; exact h0))).mono ?_
    rintro e w' ⟨rfl, hb⟩
    exact DecOut.zero hb
  · have q : 0 < a0.size := by omega
    obtain ⟨n, hn, hm⟩ := long_same3 (wrap64 (bt a0 0))
    have hD : ∀ k, mail_Decode.f k a0 = if (a0.size : Int) = n then decKind k a0 (wrap64 (bt a0 0)) else some zeroR := fun k => by
      unfold mail_Decode.f
      rw [if_neg h0, hn]
      rfl
    by_cases h1 : (a0.size : Int) = n
    · have hD2 : ∀ k, mail_Decode.f k a0 = decKind k a0 (wrap64 (bt a0 0)) := fun k => by rw [hD k, if_pos h1]
      rcases long_cases hn (by omega) with ⟨hk, hn2⟩ | ⟨hk, hn2⟩ | ⟨hk, hn2⟩ | ⟨hk, hn2⟩
      · refine ⟨(wrap64 (bt a0 0), 0, 0, tx (a0.data.toList.drop 1), ⟨#[]⟩, [], [], 0), Ev.congr (f := fun _ => some (wrap64 (bt a0 0), 0, 0, tx (a0.data.toList.drop 1), ⟨#[]⟩, [], [], 0)) (fun k => by rw [hD2 k]; unfold decKind; rw [if_pos hk]) (Ev.now _), fun w => ?_, by simp, by simp⟩
        refine (rdec_pac a0 n _ w q rfl hm h1 hk).mono ?_
        rintro e w' ⟨rfl, hb⟩
        exact ⟨_, _, rfl, Kd.R_nil _ _ _ _ _, Kd.R_nil _ _ _ _ _, hb⟩
      · exact tail_both a0 _ _ [] [] (by simp) (by simp) (fun k => by rw [hD2 k]; unfold decKind; rw [if_neg (by omega), if_neg (by omega), if_neg (by omega)]; rfl) (fun kE c t m1 m2 w => rdec_two a0 n _ w q rfl hm h1 (by omega) (by omega) hk (by omega) kE c t m1 m2)
      · exact tail_both a0 _ _ _ [] (by rw [dSlots_len]; simp) (by simp) (fun k => by rw [hD2 k]; unfold decKind; rw [if_neg (by omega), if_pos hk]) (fun kE c t m1 m2 w => rdec_three a0 n _ w q rfl hm h1 (by omega) (by omega) hk (by omega) kE c t m1 m2)
      · exact tail_both a0 _ _ [] _ (by simp) (Nat.le_trans (dIds_len _ _ _) (by simp)) (fun k => by rw [hD2 k]; unfold decKind; rw [if_neg (by omega), if_neg (by omega), if_pos hk]) (fun kE c t m1 m2 w => rdec_four a0 n _ w q rfl hm h1 (by omega) (by omega) hk (by omega) kE c t m1 m2)
    · refine ⟨zeroR, Ev.congr (f := fun _ => some zeroR) (fun k => by rw [hD k, if_neg h1]) (Ev.now _), fun w => ?_, by simp [zeroR], by simp [zeroR]⟩
      refine (rdec_long a0 _ n w q rfl hm h1).mono ?_
      rintro e w' ⟨rfl, hb⟩
      exact DecOut.zero hb
end Go.Proofs.Ytidilhnjfdkmpaa
namespace Go.Proofs.Ytidilhnjfdkmpaa
open Go.RowKit Go.Proofs.Ytidilhnjfdkmpaa.PMailA Go.Proofs.Ytidilhnjfdkmpaa.PMailW Go.Proofs.YtidilhnjfdkmpaaW.PrintWords Go.Proofs.YtidilhnjfdkmpaaW.PrintLast Go.Proofs.YtidilhnjfdkmpaaW.PrintMore
set_option linter.unusedSimpArgs false
set_option linter.unusedVariables false
/-- a box, filled, and what its slices tell. -/
structure MQ (W w : World) (g3 : Nat) (cs3 : Array Value) (A5 : Option Addr) (r6 : List S43) (A6 : Option Addr) (r7 : List ByteArray) : Prop where
  b : Below W.heap.size W w
  h3 : Blk w g3 25 cs3
  n3 : W.heap.size ≤ g3
  s5 : Kd.C k43 w A5 r6.length r6
  s6 : Kd.C Kd.string w A6 r7.length r7
theorem MQ.below {W w w1 : World} {g3 : Nat} {cs3 : Array Value} {A5 : Option Addr} {r6 : List S43} {A6 : Option Addr} {r7 : List ByteArray} (h : MQ W w g3 cs3 A5 r6 A6 r7) (hb : Below w.heap.size w w1) : MQ W w1 g3 cs3 A5 r6 A6 r7 :=
  ⟨h.b.trans (hb.mono h.b.size), h.h3.below hb h.h3.lt, h.n3, Kd.C_below h.s5 hb, Kd.C_below h.s6 hb⟩
structure MR (W w : World) (g : Nat) (cs : Array Value) : Prop where
  b : Below W.heap.size W w
  h : Blk w g 25 cs
  n : W.heap.size ≤ g
theorem MR.put {W w : World} {g : Nat} {cs : Array Value} (h : MR W w g cs) (i : Nat) (u : Value) : MR W (w.setCell ⟨g, i, none⟩ u) g (cs.setIfInBounds i u) :=
  ⟨h.b.setCell h.n _, h.h.set_ i _, h.n⟩
set_option maxHeartbeats 1600000 in
theorem walk_MailReads (k : Nat) (a0 : ByteArray) (r1 r2 r3 : Int) (r4 r5 : ByteArray) (r6 : List S43) (r7 : List ByteArray) (r8 : Int) (W : World)
    (m1 : mail_Decode.f k a0 = some (r1, r2, r3, r4, r5, r6, r7, r8)) (m2 : ∀ w, Calls Try.prog 17 #[.string a0] w fun e w' => DecOut w r1 r2 r3 r4 r5 r6 r7 r8 e w')
    (m5 : dovecotebook_SameMail.f k r1 r2 r3 r4 r5 r6 r7 r1 r2 r3 r4 r5 r6 r7 = some true) (m6 : dovecotelaw11_works.f k = some true) :
    Calls Try.prog 4 #[.string a0] W fun e W' => e = .returned (.bool true) ∧ Below W.heap.size W W' := by
  have M1 := Lib.hid m1
  have M2 := Lib.hid m2
  have M5 := Lib.hid m5
  have M6 := Lib.hid m6
  clear m1 m2 m5 m6
  go_enter Try.func4, Try.ntmps4
  go_wp2_with fail
  refine (mail_Decode.calls k a0 r1 r2 r3 r4 r5 r6 r7 r8 _ M1.out).mono ?_
  rintro e' w1 ⟨v5, v6, rfl, q5, q6, hb1⟩
  obtain ⟨A5, c5, rfl, hd5, s5⟩ := Kd.R_reads q5
  obtain ⟨A6, c6, rfl, hd6, s6⟩ := Kd.R_reads q6
  have HB1 := Lib.hid hb1
  have S5 := Lib.hid s5
  have S6 := Lib.hid s6
  have H5 := Lib.hid hd5
  have H6 := Lib.hid hd6
  clear q5 q6 s5 s6 hb1 hd5 hd6
  go_upto_region 2 with (first | ((with_reducible refine gate_dst (N := 3) rfl ?_); refine box_event ?hg (N := 3) ?hd (cs := Z7) (t := 25) ?hr ?_; (case hd => rfl); (case hg => rfl); (case hr => first | (go_simp; done) | (go_simp; rfl)); intro g_ hg w3 hbox hb; subst hg; have hz0 : w3.cell? ⟨w1.heap.size, 0, none⟩ = some (.int .i64 0) := blk_cell hbox 0; have fz0 := blk_frozen hbox 0; have hz1 : w3.cell? ⟨w1.heap.size, 1, none⟩ = some (.int .i64 0) := blk_cell hbox 1; have fz1 := blk_frozen hbox 1; have hz2 : w3.cell? ⟨w1.heap.size, 2, none⟩ = some (.int .i64 0) := blk_cell hbox 2; have fz2 := blk_frozen hbox 2; have hz3 : w3.cell? ⟨w1.heap.size, 3, none⟩ = some (.string ⟨#[]⟩) := blk_cell hbox 3; have fz3 := blk_frozen hbox 3; have hz4 : w3.cell? ⟨w1.heap.size, 4, none⟩ = some (.string ⟨#[]⟩) := blk_cell hbox 4; have fz4 := blk_frozen hbox 4; have hz5 : w3.cell? ⟨w1.heap.size, 5, none⟩ = some (.slice none 0 0) := blk_cell hbox 5; have fz5 := blk_frozen hbox 5; have hz6 : w3.cell? ⟨w1.heap.size, 6, none⟩ = some (.slice none 0 0) := blk_cell hbox 6; have fz6 := blk_frozen hbox 6))
  refine gen_world (fun w' => ∃ g, Hid (g = w1.heap.size) ∧ MQ W w' g #[.int .i64 r1, .int .i64 r2, .int .i64 r3, .string r4, .string r5, .slice A5 r6.length c5, .slice A6 r7.length c6] A5 r6 A6 r7) ?_ ?_
  · refine ⟨_, Lib.hid rfl, ?_⟩
    have P := (((((((MR.mk (W := w1) (w := w3) (g := w1.heap.size) hb hbox (Nat.le_refl _)).put 0 (.int .i64 r1)).put 1 (.int .i64 r2)).put 2 (.int .i64 r3)).put 3 (.string r4)).put 4 (.string r5)).put 5 (.slice A5 r6.length c5)).put 6 (.slice A6 r7.length c6)
    exact ⟨HB1.out.trans (P.b.mono HB1.out.size), P.h, HB1.out.size, Kd.C_below S5.out P.b, Kd.C_below S6.out P.b⟩
  obtain ⟨g3, G3⟩ : ∃ g, Hid (w1.heap.size = g) := ⟨_, Lib.hid rfl⟩
  rintro w4 ⟨g, hg, D4⟩
  have hg' : g = g3 := hg.out.trans G3.out
  subst hg'
  rw [G3.out]
  have D4 := Lib.hid D4
  clear hg G3 S5 S6 HB1 hbox hb hz0 fz0 hz1 fz1 hz2 fz2 hz3 fz3 hz4 fz4 hz5 fz5 hz6 fz6
  go_wp2_with fail
  refine (M2.out _).mono ?_
  rintro e' w5 ⟨v5, v6, rfl, q5, q6, hb5⟩
  obtain ⟨B5, d5, rfl, hd5, s5⟩ := Kd.R_reads q5
  obtain ⟨B6, d6, rfl, hd6, s6⟩ := Kd.R_reads q6
  have D5 := Lib.hid (D4.out.below hb5)
  have S5 := Lib.hid s5
  have S6 := Lib.hid s6
  have L5 := Lib.hid hd5
  have L6 := Lib.hid hd6
  clear q5 q6 s5 s6 hb5 hd5 hd6 D4
  go_upto_region 3 with (first | ((with_reducible refine gate_dst (N := 5) rfl ?_); refine box_event ?hg (N := 5) ?hd (cs := Z7) (t := 25) ?hr ?_; (case hd => rfl); (case hg => rfl); (case hr => first | (go_simp; done) | (go_simp; rfl)); intro g_ hg w6 hbox hb; subst hg; have hz0 : w6.cell? ⟨w5.heap.size, 0, none⟩ = some (.int .i64 0) := blk_cell hbox 0; have fz0 := blk_frozen hbox 0; have hz1 : w6.cell? ⟨w5.heap.size, 1, none⟩ = some (.int .i64 0) := blk_cell hbox 1; have fz1 := blk_frozen hbox 1; have hz2 : w6.cell? ⟨w5.heap.size, 2, none⟩ = some (.int .i64 0) := blk_cell hbox 2; have fz2 := blk_frozen hbox 2; have hz3 : w6.cell? ⟨w5.heap.size, 3, none⟩ = some (.string ⟨#[]⟩) := blk_cell hbox 3; have fz3 := blk_frozen hbox 3; have hz4 : w6.cell? ⟨w5.heap.size, 4, none⟩ = some (.string ⟨#[]⟩) := blk_cell hbox 4; have fz4 := blk_frozen hbox 4; have hz5 : w6.cell? ⟨w5.heap.size, 5, none⟩ = some (.slice none 0 0) := blk_cell hbox 5; have fz5 := blk_frozen hbox 5; have hz6 : w6.cell? ⟨w5.heap.size, 6, none⟩ = some (.slice none 0 0) := blk_cell hbox 6; have fz6 := blk_frozen hbox 6))
  refine gen_world (fun w' => ∃ g', Hid (g' = w5.heap.size) ∧ MQ W w' g #[.int .i64 r1, .int .i64 r2, .int .i64 r3, .string r4, .string r5, .slice A5 r6.length c5, .slice A6 r7.length c6] A5 r6 A6 r7 ∧ MQ W w' g' #[.int .i64 r1, .int .i64 r2, .int .i64 r3, .string r4, .string r5, .slice B5 r6.length d5, .slice B6 r7.length d6] B5 r6 B6 r7) ?_ ?_
  · refine ⟨_, Lib.hid rfl, ?_⟩
    have P := (((((((MR.mk (W := w5) (w := w6) (g := w5.heap.size) hb hbox (Nat.le_refl _)).put 0 (.int .i64 r1)).put 1 (.int .i64 r2)).put 2 (.int .i64 r3)).put 3 (.string r4)).put 4 (.string r5)).put 5 (.slice B5 r6.length d5)).put 6 (.slice B6 r7.length d6)
    exact ⟨D5.out.below P.b, D5.out.b.trans (P.b.mono D5.out.b.size), P.h, D5.out.b.size, Kd.C_below S5.out P.b, Kd.C_below S6.out P.b⟩
  obtain ⟨g5, G5⟩ : ∃ g, Hid (w5.heap.size = g) := ⟨_, Lib.hid rfl⟩
  rintro w7 ⟨g', hg', D7, E7⟩
  have hg2 : g' = g5 := hg'.out.trans G5.out
  subst hg2
  rw [G5.out]
  have D7 := Lib.hid D7
  have E7 := Lib.hid E7
  clear hg' G5 S5 S6 D5 hbox hb hz0 fz0 hz1 fz1 hz2 fz2 hz3 fz3 hz4 fz4 hz5 fz5 hz6 fz6
  have p0 : w7.cell? ⟨g, 0, none⟩ = some (.int .i64 r1) := D7.out.h3.cell 0
  have p1 : w7.cell? ⟨g, 1, none⟩ = some (.int .i64 r2) := D7.out.h3.cell 1
  have p2 : w7.cell? ⟨g, 2, none⟩ = some (.int .i64 r3) := D7.out.h3.cell 2
  have p3 : w7.cell? ⟨g, 3, none⟩ = some (.string r4) := D7.out.h3.cell 3
  have p4 : w7.cell? ⟨g, 4, none⟩ = some (.string r5) := D7.out.h3.cell 4
  have p5 : w7.cell? ⟨g, 5, none⟩ = some (.slice A5 r6.length c5) := D7.out.h3.cell 5
  have p6 : w7.cell? ⟨g, 6, none⟩ = some (.slice A6 r7.length c6) := D7.out.h3.cell 6
  have q0 : w7.cell? ⟨g', 0, none⟩ = some (.int .i64 r1) := E7.out.h3.cell 0
  have q1 : w7.cell? ⟨g', 1, none⟩ = some (.int .i64 r2) := E7.out.h3.cell 1
  have q2 : w7.cell? ⟨g', 2, none⟩ = some (.int .i64 r3) := E7.out.h3.cell 2
  have q3 : w7.cell? ⟨g', 3, none⟩ = some (.string r4) := E7.out.h3.cell 3
  have q4 : w7.cell? ⟨g', 4, none⟩ = some (.string r5) := E7.out.h3.cell 4
  have q5 : w7.cell? ⟨g', 5, none⟩ = some (.slice B5 r6.length d5) := E7.out.h3.cell 5
  have q6 : w7.cell? ⟨g', 6, none⟩ = some (.slice B6 r7.length d6) := E7.out.h3.cell 6
  go_wp2_with fail
  refine (dovecotebook_SameMail.calls k r1 r2 r3 r4 r5 A5 c5 r6 A6 c6 r7 r1 r2 r3 r4 r5 B5 d5 r6 B6 d6 r7 true _ D7.out.s5 H5.out D7.out.s6 H6.out E7.out.s5 L5.out E7.out.s6 L6.out M5.out).mono ?_
  rintro e' w8 ⟨rfl, b8⟩
  have D8 := Lib.hid (D7.out.below b8)
  clear p0 p1 p2 p3 p4 p5 p6 q0 q1 q2 q3 q4 q5 q6 D7 E7 b8
  have z1 : (r8 == r8) = true := by simp
  go_wp2_with fail
  refine (dovecotelaw11_works.calls k _ M6.out).mono ?_
  rintro e' w9 ⟨rfl, b9⟩
  have D9 := Lib.hid (D8.out.below b9)
  clear D8 b9
  go_wp2_with fail
  go_ret
  exact ⟨rfl, D9.out.b⟩
theorem law_MailReads0 (a0 : ByteArray) (W : World) : Calls Try.prog 4 #[.string a0] W fun e W' => e = .returned (.bool true) ∧ Below W.heap.size W W' := by
  obtain ⟨⟨r1, r2, r3, r4, r5, r6, r7, r8⟩, ⟨K1, k1⟩, hR, h6, h7⟩ := both_any a0
  obtain ⟨K5, k5⟩ := same_ev3 r1 r2 r3 r4 r5 r6 r7 (Nat.le_trans h6 (by decide)) (Nat.le_trans h7 (by decide))
  obtain ⟨K6, k6⟩ := works11r_ev
  exact walk_MailReads (K1 + K5 + K6) a0 r1 r2 r3 r4 r5 r6 r7 r8 W (k1 _ (by omega)) hR (k5 _ (by omega)) (k6 _ (by omega))
theorem law_MailReads (s : List UInt8) (W : World) (_ : s.length ≤ 140737488351232) : Calls Try.prog 4 #[.string ⟨s.toArray⟩] W fun e W' => e = .returned (.bool true) ∧ Below W.heap.size W W' := law_MailReads0 ⟨s.toArray⟩ W
end Go.Proofs.Ytidilhnjfdkmpaa

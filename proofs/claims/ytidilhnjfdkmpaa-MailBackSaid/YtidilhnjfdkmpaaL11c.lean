/- There and back, plainly: what Decode gives of what Encode wrote, and of any text. -/
import Derived.Test.YtidilhnjfdkmpaaL11a
import Derived.Test.YtidilhnjfdkmpaaExt11c
namespace Go.Proofs.Ytidilhnjfdkmpaa
open Go.RowKit Go.Proofs.Ytidilhnjfdkmpaa.PMailA Go.Proofs.YtidilhnjfdkmpaaW.PrintWords Go.Proofs.YtidilhnjfdkmpaaW.PrintLast
set_option linter.unusedSimpArgs false
set_option linter.unusedVariables false
theorem chk_pac (t : ByteArray) (h : t.size = 504) : Ev (fun k => mail_Check.f k 1 0 0 t ⟨#[]⟩ [] []) 0 := by
  refine Ev.of (fun k => mail_Check.mono _ _ _ _ _ _ _ k) (k := 2) ?_
  rw [chk_f, chk_j, mail_Check.j1]
  have e : (⟨#[]⟩ : ByteArray).toList = [] := by rw [ByteArray.toList_eq]
  simp [h, e]
theorem tail_ev (a0 : ByteArray) (kd : Int) (tag : ByteArray) (ls : List S43) (li : List ByteArray) :
    ∃ r, Ev (fun k => decTail k a0 kd tag ls li) r ∧ (r = zeroR ∨ (r.2.2.2.2.2.2.2 = 0 ∧ ∃ t, Ev (fun k => mail_Encode.f k r.1 r.2.1 r.2.2.1 r.2.2.2.1 r.2.2.2.2.1 r.2.2.2.2.2.1 r.2.2.2.2.2.2.1) (t, 0) ∧ t.toList = a0.toList)) := by
  have key : ∀ x : ByteArray × Int, Ev (fun k => mail_Encode.f k kd (uL a0.data.toList) (qL a0.data.toList) ⟨#[]⟩ tag ls li) x →
      ∃ r, Ev (fun k => decTail k a0 kd tag ls li) r ∧ (r = zeroR ∨ (r.2.2.2.2.2.2.2 = 0 ∧ ∃ t, Ev (fun k => mail_Encode.f k r.1 r.2.1 r.2.2.1 r.2.2.2.1 r.2.2.2.2.1 r.2.2.2.2.2.1 r.2.2.2.2.2.2.1) (t, 0) ∧ t.toList = a0.toList)) := by
    intro x hx
    by_cases hc : x.2 = 0 ∧ x.1.toList = a0.toList
    · refine ⟨(kd, uL a0.data.toList, qL a0.data.toList, ⟨#[]⟩, tag, ls, li, 0), ?_, Or.inr ⟨rfl, x.1, ?_, hc.2⟩⟩
      · unfold decTail
        exact Ev.bind hx (Ev.congr (f := fun _ => some _) (fun k => if_pos hc) (Ev.now _))
      · have e : x = (x.1, 0) := by rw [← hc.1]
        rw [e] at hx
        exact hx
    · refine ⟨zeroR, ?_, Or.inl rfl⟩
      unfold decTail
      exact Ev.bind hx (Ev.congr (f := fun _ => some _) (fun k => if_neg hc) (Ev.now _))
  rcases enc_any kd (uL a0.data.toList) (qL a0.data.toList) ⟨#[]⟩ tag ls li with ⟨h, _⟩ | h
  · exact key _ h
  · exact key _ h
theorem bt_mk (b : UInt8) (l : List UInt8) : bt (tx (b :: l)) 0 = n8 b := by
  unfold bt
  rw [dif_pos (by rw [tx_size]; simp)]
  rfl
theorem wrap_n8 (b : UInt8) : wrap64 (n8 b) = n8 b := by
  have := n8_bd b
  unfold wrap64
  omega
/-- what Decode gives of any text. -/
theorem dec_any (s : ByteArray) : ∃ r, Ev (fun k => mail_Decode.f k s) r ∧ (r = zeroR ∨ (r.2.2.2.2.2.2.2 = 0 ∧ ∃ t, Ev (fun k => mail_Encode.f k r.1 r.2.1 r.2.2.1 r.2.2.2.1 r.2.2.2.2.1 r.2.2.2.2.2.1 r.2.2.2.2.2.2.1) (t, 0) ∧ t.toList = s.toList)) := by
  by_cases h0 : s.size = 0
  · exact ⟨zeroR, Ev.congr (f := fun _ => some zeroR) (fun k => by unfold mail_Decode.f; rw [if_pos h0]) (Ev.now _), Or.inl rfl⟩
  · obtain ⟨n, hn⟩ : ∃ n, mail_Long.f (wrap64 (bt s 0)) = some n := by
      unfold mail_Long.f
      repeat' split
      all_goals exact ⟨_, rfl⟩
    have hD : ∀ k, mail_Decode.f k s = if (s.size : Int) = n then decKind k s (wrap64 (bt s 0)) else some zeroR := fun k => by
      unfold mail_Decode.f
      rw [if_neg h0, hn]
      rfl
    by_cases h1 : (s.size : Int) = n
    · have hD2 : ∀ k, mail_Decode.f k s = decKind k s (wrap64 (bt s 0)) := fun k => by rw [hD k, if_pos h1]
      have go : ∀ {tag ls li}, (∀ k, decKind k s (wrap64 (bt s 0)) = decTail k s (wrap64 (bt s 0)) tag ls li) → ∃ r, Ev (fun k => mail_Decode.f k s) r ∧ (r = zeroR ∨ (r.2.2.2.2.2.2.2 = 0 ∧ ∃ t, Ev (fun k => mail_Encode.f k r.1 r.2.1 r.2.2.1 r.2.2.2.1 r.2.2.2.2.1 r.2.2.2.2.2.1 r.2.2.2.2.2.2.1) (t, 0) ∧ t.toList = s.toList)) := by
        intro tag ls li e
        obtain ⟨r, hr, hp⟩ := tail_ev s (wrap64 (bt s 0)) tag ls li
        exact ⟨r, Ev.congr (fun k => (hD2 k).trans (e k)) hr, hp⟩
      rcases long_cases hn (by omega) with ⟨hk, hn2⟩ | ⟨hk, hn2⟩ | ⟨hk, hn2⟩ | ⟨hk, hn2⟩
      · refine ⟨(wrap64 (bt s 0), 0, 0, tx (s.data.toList.drop 1), ⟨#[]⟩, [], [], 0), Ev.congr (f := fun _ => some _) (fun k => by rw [hD2 k]; unfold decKind; rw [if_pos hk]) (Ev.now _), Or.inr ⟨rfl, ?_⟩⟩
        have hlen : s.data.toList.length = s.size := Array.length_toList
        have hsz : (tx (s.data.toList.drop 1)).size = 504 := by rw [tx_size, List.length_drop]; omega
        refine ⟨tx (encL 1 0 0 (tx (s.data.toList.drop 1)) ⟨#[]⟩ [] []), ?_, ?_⟩
        · show Ev (fun k => mail_Encode.f k (wrap64 (bt s 0)) 0 0 (tx (s.data.toList.drop 1)) ⟨#[]⟩ [] []) _
          rw [hk]
          exact enc_good (chk_pac _ hsz) (Or.inl ⟨rfl, rfl, rfl, hsz, by rw [ByteArray.toList_eq], rfl, rfl⟩)
        · rw [ByteArray.toList_eq, ByteArray.toList_eq, tx_list, encL, if_pos rfl, tx_list]
          cases hl : s.data.toList with
          | nil => rw [hl] at hlen; simp at hlen; omega
          | cons b l =>
            have e1 : s = tx (b :: l) := tx_ext hl
            have e2 : n8 b = 1 := by
              have := hk
              rw [e1, bt_mk, wrap_n8] at this
              exact this
            have e3 : b = 1 := by
              unfold n8 at e2
              exact UInt8.toNat_inj.1 (by show b.toNat = 1; omega)
            rw [e3]
            rfl
      · exact go (fun k => by unfold decKind; rw [if_neg (by omega), if_neg (by omega), if_neg (by omega)])
      · exact go (fun k => by unfold decKind; rw [if_neg (by omega), if_pos hk])
      · exact go (fun k => by unfold decKind; rw [if_neg (by omega), if_neg (by omega), if_pos hk])
    · exact ⟨zeroR, Ev.congr (f := fun _ => some zeroR) (fun k => by rw [hD k, if_neg h1]) (Ev.now _), Or.inl rfl⟩
/-! ### of what Encode wrote -/
theorem ids_back (n : Nat) : ∀ (li acc : List ByteArray), li.length ≤ n → (∀ a ∈ li, idB a = true) → dIds n ((li.map (·.data.toList)).flatten ++ List.replicate (16 * n - 16 * li.length) 0) acc = acc ++ li := by
  induction n with
  | zero =>
    intro li acc h _
    have : li = [] := List.eq_nil_of_length_eq_zero (by omega)
    subst this
    simp [dIds]
  | succ n ih =>
    intro li acc h hi
    cases li with
    | nil =>
      rw [dIds]
      have e1 : ((([] : List ByteArray).map (·.data.toList)).flatten ++ List.replicate (16 * (n + 1) - 16 * ([] : List ByteArray).length) (0 : UInt8)) = List.replicate 16 0 ++ List.replicate (16 * n) 0 := by
        rw [List.replicate_append_replicate]; simp; omega
      rw [e1, List.take_left' (by simp), List.drop_left' (by simp), if_pos (by rfl)]
      have := ih [] acc (by simp) (fun a ha => (by cases ha))
      simpa using this
    | cons a li =>
      have ha := hi a (List.mem_cons_self ..)
      unfold idB at ha
      simp only [Bool.and_eq_true, beq_iff_eq, bne_iff_ne, ne_eq] at ha
      have hl : a.data.toList.length = 16 := by rw [← ha.1]; exact Array.length_toList
      rw [dIds, List.map_cons, List.flatten_cons, List.append_assoc, List.take_left' hl, List.drop_left' hl, if_neg (by rw [← ByteArray.toList_eq]; exact ha.2), ← tx_of]
      have e1 : 16 * (n + 1) - 16 * (a :: li).length = 16 * n - 16 * li.length := by rw [List.length_cons]; omega
      rw [e1, ih li (acc ++ [a]) (by simpa using h) (fun b hb => hi b (List.mem_cons_of_mem _ hb)), List.append_assoc]
      rfl
theorem n8_small (n : Nat) (h : n < 256) : n8 (b8 (n : Int)) = n := by rw [n8_b8]; omega
theorem slot_back (a : S43) (r : List UInt8) (hs : a.f0.size ≤ 16 ∧ a.f1.size ≤ 222) (h : idB a.f0 = true ∨ a.f0.data.toList = []) : slotT (slotL a ++ r) = a ∧ (((slotL a ++ r).drop 16).drop 1).drop 222 = r := by
  have e0 : a.f0.data.toList.length = a.f0.size := Array.length_toList
  have e1 : a.f1.data.toList.length = a.f1.size := Array.length_toList
  have hA : (a.f0.data.toList ++ List.replicate (16 - a.f0.size) (0 : UInt8)).length = 16 := by simp only [List.length_append, List.length_replicate]; omega
  have hB : (a.f1.data.toList ++ List.replicate (222 - a.f1.size) (0 : UInt8)).length = 222 := by simp only [List.length_append, List.length_replicate]; omega
  have e : slotL a ++ r = (a.f0.data.toList ++ List.replicate (16 - a.f0.size) 0) ++ ([b8 (a.f1.size : Int)] ++ ((a.f1.data.toList ++ List.replicate (222 - a.f1.size) 0) ++ r)) := by
    unfold slotL; simp only [List.append_assoc]
  have d16 : (slotL a ++ r).drop 16 = [b8 (a.f1.size : Int)] ++ ((a.f1.data.toList ++ List.replicate (222 - a.f1.size) 0) ++ r) := by rw [e, List.drop_left' hA]
  have t16 : (slotL a ++ r).take 16 = a.f0.data.toList ++ List.replicate (16 - a.f0.size) 0 := by rw [e, List.take_left' hA]
  have d17 : ((slotL a ++ r).drop 16).drop 1 = (a.f1.data.toList ++ List.replicate (222 - a.f1.size) 0) ++ r := by rw [d16]; rfl
  refine ⟨?_, by rw [d17, List.drop_left' hB]⟩
  unfold slotT
  rw [t16, d17, List.take_left' hB, d16]
  have hm : mnT ([b8 (a.f1.size : Int)] ++ ((a.f1.data.toList ++ List.replicate (222 - a.f1.size) 0) ++ r)) = (a.f1.size : Int) := by
    unfold mnT
    have : ([b8 (a.f1.size : Int)] ++ ((a.f1.data.toList ++ List.replicate (222 - a.f1.size) 0) ++ r)).take 1 = [b8 (a.f1.size : Int)] := rfl
    rw [this, bt_mk, wrap_n8, n8_small _ (by omega), if_neg (by omega)]
  rw [hm, Int.toNat_natCast, tx_take, List.take_left' e1, ← tx_of]
  have hid : idT (a.f0.data.toList ++ List.replicate (16 - a.f0.size) 0) = a.f0 := by
    unfold idT
    rcases h with h | h
    · unfold idB at h
      simp only [Bool.and_eq_true, beq_iff_eq, bne_iff_ne, ne_eq] at h
      rw [h.1, show 16 - 16 = 0 from rfl, List.replicate_zero, List.append_nil, if_neg (by rw [← ByteArray.toList_eq]; exact h.2), ← tx_of]
    · rw [size_nil h, h, List.nil_append, if_pos (by rfl)]
      have := tx_ext h
      rw [this]; rfl
  rw [hid]
theorem slots_back (ls : List S43) : ∀ acc, (∀ a ∈ ls, (a.f0.size ≤ 16 ∧ a.f1.size ≤ 222) ∧ (idB a.f0 = true ∨ a.f0.data.toList = [])) → dSlots ls.length ((ls.map slotL).flatten) acc = acc ++ ls := by
  induction ls with
  | nil => intro acc _; simp [dSlots]
  | cons a ls ih =>
    intro acc h
    obtain ⟨hs, hi⟩ := h a (List.mem_cons_self ..)
    obtain ⟨b1, b2⟩ := slot_back a ((ls.map slotL).flatten) hs hi
    rw [List.length_cons, dSlots, List.map_cons, List.flatten_cons, b1, b2, ih (acc ++ [a]) (fun b hb => h b (List.mem_cons_of_mem _ hb)), List.append_assoc]
    rfl
theorem filled_kind (l : List S43) : ((l.drop (leadN l)).any someB) = false → ∀ a ∈ l, idB a.f0 = true ∨ a.f0.data.toList = [] := by
  induction l with
  | nil => intro _ a ha; cases ha
  | cons b l ih =>
    intro h a ha
    unfold leadN at h ih
    by_cases hb : entryB b = true
    · rw [List.takeWhile_cons_of_pos hb, List.length_cons, List.drop_succ_cons] at h
      rcases List.mem_cons.1 ha with rfl | ha
      · unfold entryB at hb
        simp only [Bool.and_eq_true] at hb
        exact Or.inl hb.1
      · exact ih h a ha
    · rw [List.takeWhile_cons_of_neg hb, List.length_nil, List.drop_zero] at h
      have h2 := List.any_eq_false.1 h a ha
      obtain ⟨h0, _⟩ := someB_no (by simpa using h2)
      rw [ByteArray.toList_eq] at h0
      exact Or.inr h0
end Go.Proofs.Ytidilhnjfdkmpaa

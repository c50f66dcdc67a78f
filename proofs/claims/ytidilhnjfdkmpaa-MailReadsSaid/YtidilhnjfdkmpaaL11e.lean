/- The reference's Check is Check, plainly. -/
import Derived.Test.YtidilhnjfdkmpaaL11a
import Derived.Test.YtidilhnjfdkmpaaPMailAx10
namespace Go.Proofs.Ytidilhnjfdkmpaa
open Go.RowKit Go.Proofs.Ytidilhnjfdkmpaa.PMailA Go.Proofs.YtidilhnjfdkmpaaW.PrintWords Go.Proofs.YtidilhnjfdkmpaaW.PrintLast
set_option linter.unusedSimpArgs false
set_option linter.unusedVariables false
theorem slotsOk_true (l : List S43) : slotsOk true l = !(l.any someB) := by
  induction l with
  | nil => rfl
  | cons a l ih =>
    rw [slotsOk, List.any_cons]
    cases h : someB a with
    | true => simp
    | false =>
      have : slotsOk (!false) l = !(l.any someB) := ih
      rw [this]; simp
theorem entry_some {a : S43} (h : entryB a = true) : someB a = true := by
  unfold entryB idB at h
  simp only [Bool.and_eq_true, beq_iff_eq] at h
  cases hs : someB a with
  | true => rfl
  | false =>
    obtain ⟨h0, _⟩ := someB_no hs
    rw [ByteArray.toList_eq] at h0
    have := size_nil h0
    omega
theorem slotsOk_lead (l : List S43) : slotsOk false l = !((l.drop (leadN l)).any someB) := by
  induction l with
  | nil => rfl
  | cons a l ih =>
    unfold leadN at ih ⊢
    rw [slotsOk]
    by_cases he : entryB a = true
    · rw [List.takeWhile_cons_of_pos he, List.length_cons, List.drop_succ_cons, entry_some he, he, ← ih]
      rfl
    · rw [List.takeWhile_cons_of_neg he, List.length_nil, List.drop_zero, List.any_cons]
      have he2 : entryB a = false := by simpa using he
      rw [he2]
      cases h : someB a with
      | true => simp
      | false =>
        have := slotsOk_true l
        show (_ && slotsOk true l) = _
        rw [this]; simp
theorem slots_filled (l : List S43) : ((l.length == 4) && slotsOk false l) = filledB l := by
  unfold filledB
  rw [slotsOk_lead]
theorem refId_eq (a : ByteArray) : dovecoteref11_id.f a = some (idB a) := by
  have e : strOfNums (List.replicate 16 (0 : Int)) = tx noIdL := by
    have := strOfNums_n8 noIdL
    rw [← show strOfNums (noIdL.map n8) = tx noIdL from this]
    rfl
  unfold dovecoteref11_id.f idB
  rw [e, ByteArray.toList_eq (tx noIdL), tx_list]
  by_cases h : a.size = 16
  · rw [if_pos (by omega), if_pos (by decide), h]; rfl
  · rw [if_neg (by omega)]
    rw [show (a.size == 16) = false by simpa using h]; rfl
theorem ids_ev (l : List ByteArray) (hl : l.length ≤ 9223372036854775807) (d : Nat) : ∀ i, i + d = l.length → Ev (fun k => dovecoteref11_ids.l0 k l (i : Int)) ((l.drop i).all idB && decide (l.length ≤ 4)) := by
  induction d with
  | zero =>
    intro i hi
    obtain rfl : i = l.length := by omega
    refine Ev.step (f := fun _ => some _) (fun k => ?_) (Ev.now _)
    simp only [dovecoteref11_ids.l0]
    rw [if_neg (by omega), List.drop_length]
    simp
    omega
  | succ d ih =>
    intro i hi
    have hlt : i < l.length := by omega
    have hd : l.drop i = l[i] :: l.drop (i + 1) := List.drop_eq_getElem_cons hlt
    have hr : rdOf ByteArray.empty l (i : Int) = l[i] := by
      unfold rdOf
      rw [Int.toNat_natCast, List.getD_eq_getElem?_getD, List.getElem?_eq_getElem hlt]
      rfl
    cases hb : idB l[i] with
    | true =>
      rw [hd, List.all_cons, hb, Bool.true_and]
      refine Ev.step (f := fun k => dovecoteref11_ids.l0 k l ((i + 1 : Nat) : Int)) (fun k => ?_) (ih (i + 1) (by omega))
      simp only [dovecoteref11_ids.l0]
      rw [if_pos (by omega), if_pos (by omega), hr, refId_eq, hb]
      simp only [Option.bind_some, if_true]
      rw [show wrap64 ((i : Int) + 1) = ((i + 1 : Nat) : Int) by unfold wrap64; omega]
    | false =>
      rw [hd, List.all_cons, hb, Bool.false_and, Bool.false_and]
      refine Ev.step (f := fun _ => some false) (fun k => ?_) (Ev.now _)
      simp only [dovecoteref11_ids.l0]
      rw [if_pos (by omega), if_pos (by omega), hr, refId_eq, hb]
      simp
theorem any_all (l : List ByteArray) : (l.any fun a => !idB a) = !(l.all idB) := by
  induction l with
  | nil => rfl
  | cons a l ih => rw [List.any_cons, List.all_cons, ih, Bool.not_and]
theorem chk_good {kd u q : Int} {text tag : ByteArray} {ls : List S43} {li : List ByteArray} (g : Good kd u q text tag ls li) : mail_Check.f 2 kd u q text tag ls li = some 0 := by
  rw [chk_f, chk_j, mail_Check.j1]
  unfold mail_filled.f mail_stranger.f
  simp only [Option.bind_some]
  rcases g with ⟨rfl, rfl, rfl, h1, h2, rfl, rfl⟩ | ⟨⟨r1, r2, r3, r4⟩, ht, ⟨rfl, h1, rfl, rfl⟩ | ⟨rfl, h1, h2, rfl⟩ | ⟨rfl, h1, rfl, h2, h3⟩⟩
  · simp [h1, h2]
  · simp [h1, ht, r1, r2, r3, r4]
  · simp [h1, ht, r1, r2, r3, r4, h2]
  · simp [h1, ht, r1, r2, r3, r4, h3]
    omega
theorem ref_f (k : Nat) (kd u q : Int) (text tag : ByteArray) (ls : List S43) (li : List ByteArray) :
    dovecoteref11_Check.f k kd u q text tag ls li = dovecoteref11_Check.j0 k (decide ((0 ≤ u ∧ u < 64 ∧ 1 ≤ q ∧ q ≤ 2147483647) ∧ text.toList = [])) kd u q text tag ls li := by
  unfold dovecoteref11_Check.f
  by_cases h1 : 0 ≤ u
  · by_cases h2 : u < 64
    · by_cases h3 : 1 ≤ q
      · by_cases h4 : q ≤ 2147483647
        · by_cases h5 : text.toList = []
          · simp [h1, h2, h3, h4, h5]
          · have h6 : (text.toList == []) = false := beq_eq_false_iff_ne.mpr h5
            rw [if_pos h1, if_pos h2, if_pos h3, if_pos h4, h6]
            simp [h5]
        · simp [h1, h2, h3, h4]
      · simp [h1, h2, h3]
    · simp [h1, h2]
  · simp [h1]
/-- the reference lets pass what may be, and no more. -/
theorem refchk (kd u q : Int) (text tag : ByteArray) (ls : List S43) (li : List ByteArray) (hl : li.length ≤ 9223372036854775807) :
    (Ev (fun k => dovecoteref11_Check.f k kd u q text tag ls li) 0 ∧ Good kd u q text tag ls li) ∨ (Ev (fun k => dovecoteref11_Check.f k kd u q text tag ls li) 110 ∧ ¬ Good kd u q text tag ls li) := by
  have hids : Ev (fun k => dovecoteref11_ids.f k li) (li.all idB && decide (li.length ≤ 4)) := by
    unfold dovecoteref11_ids.f
    have := ids_ev li hl li.length 0 (by omega)
    simpa using this
  obtain ⟨K, hK⟩ := hids
  have hs : ∀ l, dovecoteref11_slots.f l = some (filledB l) := fun l => by unfold dovecoteref11_slots.f; rw [slots_filled]
  by_cases g : Good kd u q text tag ls li
  · refine Or.inl ⟨⟨K + 1, fun k hk => ?_⟩, g⟩
    obtain ⟨k', rfl⟩ : ∃ k', k = k' + 1 := ⟨k - 1, by omega⟩
    have hk' : dovecoteref11_ids.f k' li = some (li.all idB && decide (li.length ≤ 4)) := hK k' (by omega)
    show dovecoteref11_Check.f (k' + 1) kd u q text tag ls li = some 0
    rw [ref_f, dovecoteref11_Check.j0, hs, hk']
    rcases g with ⟨rfl, rfl, rfl, h1, h2, rfl, rfl⟩ | ⟨⟨r1, r2, r3, r4⟩, ht, ⟨rfl, h1, rfl, rfl⟩ | ⟨rfl, h1, h2, rfl⟩ | ⟨rfl, h1, rfl, h2, h3⟩⟩
    · simp [h1, h2]
    · simp [h1, ht, r1, r2, r3, r4]
    · simp [h1, ht, r1, r2, r3, r4, h2]
    · rw [any_all] at h3
      have h4 : li.all idB = true := by simpa using h3
      simp [h1, ht, r1, r2, r3, r4, h2, h4]
  · refine Or.inr ⟨⟨K + 1, fun k hk => ?_⟩, g⟩
    obtain ⟨k', rfl⟩ : ∃ k', k = k' + 1 := ⟨k - 1, by omega⟩
    have hk' : dovecoteref11_ids.f k' li = some (li.all idB && decide (li.length ≤ 4)) := hK k' (by omega)
    show dovecoteref11_Check.f (k' + 1) kd u q text tag ls li = some 110
    rw [ref_f, dovecoteref11_Check.j0, hs, hk']
    simp only [Option.bind_some]
    unfold Good at g
    rw [any_all] at g
    repeat' split
    all_goals first | rfl | skip
    all_goals
      exfalso
      apply g
      simp_all
      try omega
end Go.Proofs.Ytidilhnjfdkmpaa

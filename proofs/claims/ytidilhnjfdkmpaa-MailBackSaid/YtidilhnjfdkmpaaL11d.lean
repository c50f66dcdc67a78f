/- The law MailBack, plainly. -/
import Derived.Test.YtidilhnjfdkmpaaL11c
import Derived.Test.YtidilhnjfdkmpaaPMailKx
namespace Go.Proofs.Ytidilhnjfdkmpaa
open Go.RowKit Go.Proofs.Ytidilhnjfdkmpaa.PMailA Go.Proofs.Ytidilhnjfdkmpaa.PMailK Go.Proofs.YtidilhnjfdkmpaaW.PrintWords Go.Proofs.YtidilhnjfdkmpaaW.PrintLast
set_option linter.unusedSimpArgs false
set_option linter.unusedVariables false
theorem tail_same (a0 : ByteArray) (kd u q : Int) (tag : ByteArray) (ls : List S43) (li : List ByteArray) (t : ByteArray) (hu : uL a0.data.toList = u) (hq : qL a0.data.toList = q)
    (he : Ev (fun k => mail_Encode.f k kd u q ⟨#[]⟩ tag ls li) (t, 0)) (ht : t.toList = a0.toList) : Ev (fun k => decTail k a0 kd tag ls li) (kd, u, q, ⟨#[]⟩, tag, ls, li, 0) := by
  subst hu hq
  unfold decTail
  exact Ev.bind he (Ev.congr (f := fun _ => some _) (fun k => if_pos ⟨rfl, ht⟩) (Ev.now _))
theorem dec_at (s : ByteArray) (kd : Int) (n : Int) (h0 : ¬ s.size = 0) (hk : wrap64 (bt s 0) = kd) (hn : mail_Long.f kd = some n) (hs : (s.size : Int) = n) (k : Nat) : mail_Decode.f k s = decKind k s kd := by
  unfold mail_Decode.f
  rw [if_neg h0, hk, hn]
  show (if (s.size : Int) = n then _ else _) = _
  rw [if_pos hs]
def tailL (n : Nat) (kd u q : Int) (tag : ByteArray) (ls : List S43) (li : List ByteArray) : List UInt8 := tag.data.toList ++ ((ls.map slotL).flatten ++ ((li.map (·.data.toList)).flatten ++ List.replicate (n - ((headL kd u q tag ls).length + (li.map (·.data.toList)).flatten.length)) 0))
theorem encL_shape {kd : Int} (u q : Int) (text tag : ByteArray) (ls : List S43) (li : List ByteArray) (h1 : ¬ kd = 1) :
    encL kd u q text tag ls li = b8 kd :: b8 u :: b8 (q / 16777216) :: b8 (q / 65536) :: b8 (q / 256) :: b8 q :: tailL (longN kd) kd u q tag ls li := by
  rw [encL, if_neg h1, restL]
  unfold tailL
  conv => lhs; rw [headL, whoL]
  simp only [List.cons_append, List.nil_append, List.append_assoc, headL, whoL]
theorem uL_at {b : UInt8} {u : Int} {l : List UInt8} (h : 0 ≤ u ∧ u < 64) : uL (b :: b8 u :: l) = u := by
  unfold uL
  have : ((b :: b8 u :: l).drop 1).take 1 = [b8 u] := rfl
  rw [this, bt_mk, wrap_n8, n8_b8]
  omega
theorem qL_at {a b : UInt8} {q : Int} {l : List UInt8} (h : 1 ≤ q ∧ q ≤ 2147483647) : qL (a :: b :: b8 (q / 16777216) :: b8 (q / 65536) :: b8 (q / 256) :: b8 q :: l) = q := by
  unfold qL
  have : (((a :: b :: b8 (q / 16777216) :: b8 (q / 65536) :: b8 (q / 256) :: b8 q :: l).drop 1).drop 1).take 4 = [b8 (q / 16777216), b8 (q / 65536), b8 (q / 256), b8 q] := rfl
  rw [this]
  simp only [sq, List.foldl_cons, List.foldl_nil, n8_b8]
  omega
theorem empty_of {a : ByteArray} (h : a.toList = []) : a = ⟨#[]⟩ := by
  rw [ByteArray.toList_eq] at h
  exact tx_ext h
theorem kind_at {kd : Int} (h : 0 ≤ kd ∧ kd < 256) (l : List UInt8) : wrap64 (bt (tx (b8 kd :: l)) 0) = kd := by
  rw [bt_mk, wrap_n8, n8_b8]
  omega
/-- what is encoded is decoded as the message. -/
theorem dec_enc {kd u q : Int} {text tag : ByteArray} {ls : List S43} {li : List ByteArray} (he : Ev (fun k => mail_Encode.f k kd u q text tag ls li) (tx (encL kd u q text tag ls li), 0)) (g : Good kd u q text tag ls li) :
    Ev (fun k => mail_Decode.f k (tx (encL kd u q text tag ls li))) (kd, u, q, text, tag, ls, li, 0) := by
  have hlong := g.long
  have hpos : ¬ (tx (encL kd u q text tag ls li)).size = 0 := by
    rw [tx_size]
    intro h
    rw [h] at hlong
    rcases g with ⟨rfl, _⟩ | ⟨_, _, ⟨rfl, _⟩ | ⟨rfl, _⟩ | ⟨rfl, _⟩⟩ <;> exact absurd hlong (by decide)
  have hkd : 0 ≤ kd ∧ kd < 256 := by
    rcases g with ⟨rfl, _⟩ | ⟨_, _, ⟨rfl, _⟩ | ⟨rfl, _⟩ | ⟨rfl, _⟩⟩ <;> decide
  by_cases h1 : kd = 1
  · have e0 : encL kd u q text tag ls li = b8 kd :: text.data.toList := by rw [encL, if_pos h1]
    have hk : wrap64 (bt (tx (encL kd u q text tag ls li)) 0) = kd := by rw [e0]; exact kind_at hkd _
    refine Ev.congr (f := fun _ => some _) (fun k => ?_) (Ev.now _)
    rw [dec_at _ kd _ hpos hk hlong (by rw [tx_size]) k]
    unfold decKind
    rw [if_pos h1, tx_list, e0]
    rcases g with ⟨_, rfl, rfl, _, ht, rfl, rfl⟩ | ⟨_, _, ⟨h, _⟩ | ⟨h, _⟩ | ⟨h, _⟩⟩
    · rw [empty_of ht]
      have e : tx ((b8 kd :: text.data.toList).drop 1) = text := (tx_of text).symm
      rw [e]
    all_goals omega
  · have es := encL_shape u q text tag ls li h1
    have hk : wrap64 (bt (tx (encL kd u q text tag ls li)) 0) = kd := by rw [es]; exact kind_at hkd _
    rcases g with g | ⟨hr, htx, hc⟩
    · exact absurd g.1 h1
    have hu : uL (tx (encL kd u q text tag ls li)).data.toList = u := by rw [tx_list, es]; exact uL_at ⟨hr.1, hr.2.1⟩
    have hq : qL (tx (encL kd u q text tag ls li)).data.toList = q := by rw [tx_list, es]; exact qL_at hr.2.2
    have h3 : r3L (tx (encL kd u q text tag ls li)).data.toList = tailL (longN kd) kd u q tag ls li := by rw [tx_list, es]; rfl
    have etx := empty_of htx
    have he2 : Ev (fun k => mail_Encode.f k kd u q ⟨#[]⟩ tag ls li) (tx (encL kd u q text tag ls li), 0) := by rw [← etx]; exact he
    have hT := tail_same (tx (encL kd u q text tag ls li)) kd u q tag ls li _ hu hq he2 rfl
    rw [← etx] at hT
    refine Ev.congr (fun k => ?_) hT
    rw [dec_at _ kd _ hpos hk hlong (by rw [tx_size]) k]
    unfold decKind
    rw [if_neg h1, h3]
    rcases hc with ⟨rfl, ht, rfl, rfl⟩ | ⟨rfl, ht, hf, rfl⟩ | ⟨rfl, ht, rfl, h4, hi⟩
    · have htl : tag.data.toList.length = 32 := by rw [← ht]; exact Array.length_toList
      rw [if_neg (by decide), if_neg (by decide)]
      have e1 : (tailL (longN 2) 2 u q tag [] []).take 32 = tag.data.toList := by unfold tailL; exact List.take_left' htl
      rw [e1, ← tx_of]
      rfl
    · rw [if_pos rfl]
      have hf2 : ls.length = 4 ∧ ((ls.drop (leadN ls)).any someB) = false := by
        unfold filledB at hf
        simpa using hf
      have hs := filled_small ls hf2.2
      have htl : tag.data.toList = [] := by rw [← ByteArray.toList_eq]; exact ht
      have e1 : tailL (longN 3) 3 u q tag ls [] = (ls.map slotL).flatten := by
        unfold tailL
        rw [headL_len _ _ _ _ _ hs, hf2.1, htl, size_nil htl]
        have : longN 3 - (6 + 0 + 239 * 4 + ((([] : List ByteArray).map (·.data.toList)).flatten).length) = 0 := by decide
        rw [this]
        simp
      have e2 := slots_back ls [] (fun a ha => ⟨hs a ha, filled_kind ls hf2.2 a ha⟩)
      rw [hf2.1] at e2
      rw [e1, e2, List.nil_append, ← empty_of ht]
    · have htl : tag.data.toList.length = 32 := by rw [← ht]; exact Array.length_toList
      rw [if_neg (by decide), if_pos rfl]
      have e1 : (tailL (longN 4) 4 u q tag [] li).take 32 = tag.data.toList := by unfold tailL; exact List.take_left' htl
      have e2 : (tailL (longN 4) 4 u q tag [] li).drop 32 = (li.map (·.data.toList)).flatten ++ List.replicate (16 * 4 - 16 * li.length) 0 := by
        unfold tailL
        rw [List.drop_left' htl, headL_len _ _ _ _ _ (fun a ha => (by cases ha)), ht, ids_len li (ids_16 hi)]
        have : longN 4 - (6 + 32 + 239 * ([] : List S43).length + 16 * li.length) = 16 * 4 - 16 * li.length := by
          rw [show longN 4 = 102 from rfl, List.length_nil]; omega
        rw [this]
        rfl
      have e3 := ids_back 4 li [] h4 (fun a ha => by
        have := List.any_eq_false.1 hi a ha
        simpa using this)
      rw [e1, e2, e3, List.nil_append, ← tx_of]
/-! ### the same message -/
theorem slots_same (l : List S43) (hl : l.length ≤ 1000) (d : Nat) : ∀ i, i + d = l.length → Ev (fun k => dovecotebook_SameSlots.l0 k l l (i : Int)) true := by
  induction d with
  | zero =>
    intro i hi
    refine Ev.step (f := fun _ => some true) (fun k => ?_) (Ev.now _)
    simp only [dovecotebook_SameSlots.l0]
    rw [if_neg (by omega)]
  | succ d ih =>
    intro i hi
    refine Ev.step (f := fun k => dovecotebook_SameSlots.l0 k l l ((i + 1 : Nat) : Int)) (fun k => ?_) (ih (i + 1) (by omega))
    simp only [dovecotebook_SameSlots.l0]
    rw [if_pos (by omega), if_pos (by omega), if_pos (by omega), if_neg (by simp), show wrap64 ((i : Int) + 1) = ((i + 1 : Nat) : Int) by unfold wrap64; omega]
theorem texts_same (l : List ByteArray) (hl : l.length ≤ 1000) (d : Nat) : ∀ i, i + d = l.length → Ev (fun k => dovecotebook_SameTexts.l0 k l l (i : Int)) true := by
  induction d with
  | zero =>
    intro i hi
    refine Ev.step (f := fun _ => some true) (fun k => ?_) (Ev.now _)
    simp only [dovecotebook_SameTexts.l0]
    rw [if_neg (by omega)]
  | succ d ih =>
    intro i hi
    refine Ev.step (f := fun k => dovecotebook_SameTexts.l0 k l l ((i + 1 : Nat) : Int)) (fun k => ?_) (ih (i + 1) (by omega))
    simp only [dovecotebook_SameTexts.l0]
    rw [if_pos (by omega), if_pos (by omega), if_pos (by omega), if_pos trivial, show wrap64 ((i : Int) + 1) = ((i + 1 : Nat) : Int) by unfold wrap64; omega]
theorem same_ev (a0 a1 a2 : Int) (a3 a4 : ByteArray) (l5 : List S43) (l6 : List ByteArray) (h5 : l5.length ≤ 1000) (h6 : l6.length ≤ 1000) : Ev (fun k => dovecotebook_SameMail.f k a0 a1 a2 a3 a4 l5 l6 a0 a1 a2 a3 a4 l5 l6) true := by
  unfold dovecotebook_SameMail.f
  refine Ev.congr (fun k => by rw [if_pos rfl, if_pos rfl, if_pos rfl, if_pos rfl, if_pos rfl]) ?_
  refine Ev.bind (a := true) ?_ (Ev.congr (fun k => if_pos rfl) (Ev.bind (a := true) ?_ (Ev.now _)))
  · unfold dovecotebook_SameSlots.f
    exact Ev.congr (fun k => if_pos rfl) (slots_same l5 h5 l5.length 0 (by omega))
  · unfold dovecotebook_SameTexts.f
    exact Ev.congr (fun k => if_pos rfl) (texts_same l6 h6 l6.length 0 (by omega))
theorem Good.few {kd u q : Int} {text tag : ByteArray} {ls : List S43} {li : List ByteArray} (g : Good kd u q text tag ls li) : ls.length ≤ 1000 ∧ li.length ≤ 1000 := by
  by_cases h1 : kd = 1
  · rcases g with ⟨_, _, _, _, _, rfl, rfl⟩ | ⟨_, _, ⟨h, _⟩ | ⟨h, _⟩ | ⟨h, _⟩⟩
    · simp
    all_goals omega
  · obtain ⟨_, _, _, h4, h5, _, _⟩ := g.sizes h1
    omega
set_option maxRecDepth 100000 in
theorem works11k_ev : Ev (fun k => dovecotelaw11_works.f k) true := Ev.of (fun k => dovecotelaw11_works.mono k) (k := 40) (by decide +kernel)
theorem back_j0 (s : ByteArray) : Ev (fun k => dovecotelaw11_MailBack.j0 k s) true := by
  refine Ev.step (fun k => by rw [dovecotelaw11_MailBack.j0]) ?_
  obtain ⟨r, hr, hp⟩ := dec_any s
  refine Ev.bind hr ?_
  rcases hp with rfl | ⟨h0, t, ht, hs⟩
  · refine Ev.congr (fun k => if_neg (by decide)) ?_
    exact Ev.bind (same_ev 0 0 0 ⟨#[]⟩ ⟨#[]⟩ [] [] (by simp) (by simp)) (Ev.now _)
  · refine Ev.congr (fun k => if_pos h0) ?_
    refine Ev.bind ht ?_
    refine Ev.congr (f := fun _ => some true) (fun k => ?_) (Ev.now _)
    rw [if_pos rfl, hs]
    simp
theorem MailBack_ev (a0 a1 a2 : Int) (a3 a4 : ByteArray) (a5 : List S43) (a6 : List ByteArray) (s : ByteArray) : Ev (fun k => dovecotelaw11_MailBack.f k a0 a1 a2 a3 a4 a5 a6 s) true := by
  unfold dovecotelaw11_MailBack.f
  refine Ev.bind works11k_ev (Ev.congr (fun k => if_pos rfl) ?_)
  rcases enc_any a0 a1 a2 a3 a4 a5 a6 with ⟨ha, ga⟩ | ha
  · refine Ev.bind ha (Ev.congr (fun k => if_pos rfl) ?_)
    refine Ev.bind (dec_enc ha ga) (Ev.congr (fun k => if_pos rfl) ?_)
    refine Ev.bind (same_ev a0 a1 a2 a3 a4 a5 a6 ga.few.1 ga.few.2) (Ev.congr (fun k => if_pos rfl) ?_)
    refine Ev.congr (fun k => ?_) (back_j0 s)
    rw [ga.long]
    show (if _ then _ else _) = _
    rw [if_pos (by rw [tx_size])]
  · refine Ev.bind ha (Ev.congr (fun k => if_neg (by decide)) ?_)
    refine Ev.congr (fun k => ?_) (back_j0 s)
    rw [if_pos (by rw [ByteArray.toList_eq]), if_pos rfl]
theorem law_MailBack (a0 a1 a2 : Int) (a3 a4 : ByteArray) (A5 : Option Addr) (c5 : Nat) (l5 : List S43) (A6 : Option Addr) (c6 : Nat) (l6 : List ByteArray) (s : List UInt8) (W : World)
    (hA : Kd.C k43 W A5 l5.length l5) (hB : l5.length ≤ c5) (hC : Kd.C Kd.string W A6 l6.length l6) (hD : l6.length ≤ c6) (hs : s.length ≤ 140737488351232) :
    Calls Try.prog 5 #[.agg #[.int .i64 a0, .int .i64 a1, .int .i64 a2, .string a3, .string a4, .slice A5 l5.length c5, .slice A6 l6.length c6], .string ⟨s.toArray⟩] W fun e W' => e = .returned (.bool true) ∧ Below W.heap.size W W' := by
  obtain ⟨k, hk⟩ := (MailBack_ev a0 a1 a2 a3 a4 l5 l6 ⟨s.toArray⟩).rounds
  exact dovecotelaw11_MailBack.calls k a0 a1 a2 a3 a4 A5 c5 l5 A6 c6 l6 ⟨s.toArray⟩ true W hA hB hC hD hk
end Go.Proofs.Ytidilhnjfdkmpaa

/- The plain laws of mail: what Check lets pass, what Encode writes. -/
import Derived.Test.YtidilhnjfdkmpaaMailF
import Derived.Test.YtidilhnjfdkmpaaPMailAx5
namespace Go.Proofs.Ytidilhnjfdkmpaa
open Go.RowKit Go.Proofs.Ytidilhnjfdkmpaa.PMailA Go.Proofs.YtidilhnjfdkmpaaW.PrintWords Go.Proofs.YtidilhnjfdkmpaaW.PrintLast
set_option linter.unusedSimpArgs false
set_option linter.unusedVariables false
/-- a message that may be. -/
def Good (kd u q : Int) (text tag : ByteArray) (ls : List S43) (li : List ByteArray) : Prop :=
  (kd = 1 ∧ u = 0 ∧ q = 0 ∧ text.size = 504 ∧ tag.toList = [] ∧ ls = [] ∧ li = []) ∨
  ((0 ≤ u ∧ u < 64 ∧ 1 ≤ q ∧ q ≤ 2147483647) ∧ text.toList = [] ∧
    ((kd = 2 ∧ tag.size = 32 ∧ ls = [] ∧ li = []) ∨ (kd = 3 ∧ tag.toList = [] ∧ filledB ls = true ∧ li = []) ∨ (kd = 4 ∧ tag.size = 32 ∧ ls = [] ∧ li.length ≤ 4 ∧ (li.any fun a => !idB a) = false)))
theorem chk_f (kd u q : Int) (text tag : ByteArray) (ls : List S43) (li : List ByteArray) :
    mail_Check.f 2 kd u q text tag ls li = mail_Check.j0 2 (decide (0 ≤ u ∧ u < 64 ∧ 1 ≤ q ∧ q ≤ 2147483647)) kd u q text tag ls li := by
  unfold mail_Check.f
  by_cases h1 : 0 ≤ u
  · by_cases h2 : u < 64
    · by_cases h3 : 1 ≤ q
      · simp [h1, h2, h3]
      · simp [h1, h2, h3]
    · simp [h1, h2]
  · simp [h1]
theorem chk_j (b : Bool) (kd u q : Int) (text tag : ByteArray) (ls : List S43) (li : List ByteArray) :
    mail_Check.j0 2 b kd u q text tag ls li = mail_Check.j1 1 b (decide (u = 0 ∧ q = 0)) kd u q text tag ls li := by
  rw [mail_Check.j0]
  by_cases h1 : u = 0
  · by_cases h2 : q = 0
    · simp [h1, h2]
    · have h3 : (q == 0) = false := by simpa using h2
      simp [h1, h2, h3]
  · simp [h1]
theorem chk (kd u q : Int) (text tag : ByteArray) (ls : List S43) (li : List ByteArray) :
    (mail_Check.f 2 kd u q text tag ls li = some 0 ∧ Good kd u q text tag ls li) ∨ mail_Check.f 2 kd u q text tag ls li = some 110 := by
  rw [chk_f, chk_j, mail_Check.j1]
  unfold mail_filled.f mail_stranger.f
  simp only [Option.bind_some]
  repeat' split
  all_goals first | exact Or.inr rfl | skip
  all_goals
    refine Or.inl ⟨rfl, ?_⟩
    unfold Good
    simp_all
    try omega
theorem chk_ev {kd u q : Int} {text tag : ByteArray} {ls : List S43} {li : List ByteArray} :
    (Ev (fun k => mail_Check.f k kd u q text tag ls li) 0 ∧ Good kd u q text tag ls li) ∨ Ev (fun k => mail_Check.f k kd u q text tag ls li) 110 := by
  rcases chk kd u q text tag ls li with ⟨h, g⟩ | h
  · exact Or.inl ⟨Ev.of (fun k => mail_Check.mono _ _ _ _ _ _ _ k) h, g⟩
  · exact Or.inr (Ev.of (fun k => mail_Check.mono _ _ _ _ _ _ _ k) h)
theorem size_nil {a : ByteArray} (h : a.data.toList = []) : a.size = 0 := by
  have e : a.data.toList.length = a.size := Array.length_toList
  rw [h] at e
  exact e.symm
theorem filled_small (l : List S43) : ((l.drop (leadN l)).any someB) = false → ∀ a ∈ l, a.f0.size ≤ 16 ∧ a.f1.size ≤ 222 := by
  induction l with
  | nil => intro _ a ha; cases ha
  | cons b l ih =>
    intro h a ha
    unfold leadN at h ih
    have none_small : ∀ c : S43, someB c = false → c.f0.size ≤ 16 ∧ c.f1.size ≤ 222 := by
      intro c hc
      obtain ⟨h0, h1⟩ := someB_no hc
      rw [ByteArray.toList_eq] at h0 h1
      have e0 := size_nil h0
      have e1 := size_nil h1
      omega
    by_cases hb : entryB b = true
    · rw [List.takeWhile_cons_of_pos hb, List.length_cons, List.drop_succ_cons] at h
      rcases List.mem_cons.1 ha with rfl | ha
      · unfold entryB idB at hb
        simp only [Bool.and_eq_true, beq_iff_eq, decide_eq_true_eq] at hb
        omega
      · exact ih h a ha
    · rw [List.takeWhile_cons_of_neg hb, List.length_nil, List.drop_zero] at h
      have := List.any_eq_false.1 h a ha
      exact none_small a (by simpa using this)
def b8 (x : Int) : UInt8 := UInt8.ofNat (x % 256).toNat
theorem n8_b8 (x : Int) : n8 (b8 x) = x % 256 := by
  unfold n8 b8
  rw [UInt8.toNat_ofNat']
  omega
def slotL (a : S43) : List UInt8 := a.f0.data.toList ++ List.replicate (16 - a.f0.size) 0 ++ [b8 (a.f1.size : Int)] ++ (a.f1.data.toList ++ List.replicate (222 - a.f1.size) 0)
theorem slotL_len (a : S43) (h : a.f0.size ≤ 16 ∧ a.f1.size ≤ 222) : (slotL a).length = 239 := by
  have e0 : a.f0.data.toList.length = a.f0.size := Array.length_toList
  have e1 : a.f1.data.toList.length = a.f1.size := Array.length_toList
  unfold slotL
  simp only [List.length_append, List.length_replicate, List.length_singleton]
  omega
theorem join_eq (ls : List (List UInt8)) (h : ls.length ≤ 100000) (h2 : ls.flatten.length ≤ 100000) : mail_join.f (ls.map tx) = some (tx ls.flatten) := by
  have e : Lib.join ((ls.map tx).map (·.data.toList)) [] = ls.flatten := by
    rw [List.map_map, show ((·.data.toList) ∘ tx) = id from funext fun l => tx_list l, List.map_id]
    unfold Lib.join
    induction ls with
    | nil => rfl
    | cons a l ih =>
      cases l with
      | nil => simp [List.intercalate]
      | cons b l => 
        have := ih (by simp at h ⊢; omega) (by simp at h2 ⊢; omega)
        simp only [List.intercalate, List.intersperse, List.flatten_cons, List.nil_append] at this ⊢
        rw [this]
  unfold mail_join.f
  rw [e, if_pos ⟨by rw [List.length_map]; omega, by omega⟩]
  rfl
theorem pad_eq (l : List UInt8) (n : Nat) (h : l.length ≤ n) (hn : n ≤ 100000) : mail_pad.f (tx l) (n : Int) = some (tx (l ++ List.replicate (n - l.length) 0)) := by
  unfold mail_pad.f strings_Repeat.f
  have e : wrap64 ((n : Int) - ((tx l).size : Int)) = ((n - l.length : Nat) : Int) := by rw [tx_size]; unfold wrap64; omega
  rw [e, if_pos ⟨by omega, by omega, by simp [ByteArray.size]; omega⟩]
  simp only [Option.bind_some, Int.toNat_natCast]
  rw [repeat_zero]
  have e2 : (⟨(List.replicate (n - l.length) (0 : UInt8)).toArray⟩ : ByteArray) = tx (List.replicate (n - l.length) 0) := rfl
  rw [e2, if_pos (by rw [tx_size, tx_size, List.length_replicate]; omega)]
  exact congrArg some (tx_ext (by rw [ByteArray.data_append, Array.toList_append, tx_list, tx_list]))
theorem strs_b8 (l : List Int) : strOfNums (l.map (· % 256)) = tx (l.map b8) := by
  have e : l.map (· % 256) = (l.map b8).map n8 := by
    rw [List.map_map]
    exact List.map_congr_left fun x _ => (n8_b8 x).symm
  rw [e, strOfNums_n8]
  rfl
def whoL (u q : Int) : List UInt8 := [b8 u, b8 (q / 16777216), b8 (q / 65536), b8 (q / 256), b8 q]
def restL (n : Nat) (y : List UInt8) (li : List ByteArray) : List UInt8 := y ++ (li.map (·.data.toList)).flatten ++ List.replicate (n - (y.length + (li.map (·.data.toList)).flatten.length)) 0
theorem tx_map (li : List ByteArray) : (li.map (·.data.toList)).map tx = li := by
  rw [List.map_map]
  conv => rhs; rw [← List.map_id li]
  exact List.map_congr_left fun a _ => (tx_of a).symm
theorem rd_get (ls : List S43) (i : Nat) (h : i < ls.length) : rd_T43 ls (i : Int) = ls[i] := by
  unfold rd_T43
  rw [Int.toNat_natCast, List.getD_eq_getElem?_getD, List.getElem?_eq_getElem h]
  rfl
theorem l0_ev (ls ls0 : List S43) (li : List ByteArray) (kd u q : Int) (text tag : ByteArray) (n : Nat) (hn : mail_Long.f kd = some (n : Int)) (hn2 : n ≤ 1000) (hs : ∀ a ∈ ls, a.f0.size ≤ 16 ∧ a.f1.size ≤ 222) (hl : li.length ≤ 4) (hls : ls.length ≤ 4) (d : Nat) :
    ∀ (i : Nat) (x : List UInt8), i + d = ls.length → (x ++ ((ls.drop i).map slotL).flatten).length + (li.map (·.data.toList)).flatten.length ≤ n →
      Ev (fun k => mail_Encode.l0 k (tx x) ls (ls.length : Int) (i : Int) kd u q text tag ls0 li) (tx (restL n (x ++ ((ls.drop i).map slotL).flatten) li), 0) := by
  induction d with
  | zero =>
    intro i x hi hb
    obtain rfl : i = ls.length := by omega
    rw [List.drop_length, List.map_nil, List.flatten_nil, List.append_nil] at hb ⊢
    refine Ev.step (f := fun _ => some (tx (restL n x li), 0)) (fun k => ?_) (Ev.now _)
    simp only [mail_Encode.l0]
    have j1 : mail_join.f li = some (tx (li.map (·.data.toList)).flatten) := by
      conv => lhs; rw [← tx_map li]
      exact join_eq _ (by rw [List.length_map]; omega) (by omega)
    have j2 : mail_join.f [tx x, tx (li.map (·.data.toList)).flatten] = some (tx (x ++ (li.map (·.data.toList)).flatten)) := by
      have := join_eq [x, (li.map (·.data.toList)).flatten] (by simp) (by simp only [List.flatten_cons, List.flatten_nil, List.append_nil, List.length_append]; omega)
      simpa using this
    rw [if_neg (by omega), j1]
    simp only [Option.bind_some]
    rw [j2]
    simp only [Option.bind_some]
    rw [hn]
    simp only [Option.bind_some]
    rw [pad_eq _ n (by rw [List.length_append]; exact hb) (by omega)]
    simp only [Option.bind_some]
    rw [List.length_append]
    rfl
  | succ d ih =>
    intro i x hi hb
    have hlt : i < ls.length := by omega
    have hdrop : ls.drop i = ls[i] :: ls.drop (i + 1) := List.drop_eq_getElem_cons hlt
    have hsz := hs ls[i] (List.getElem_mem hlt)
    have e : x ++ ((ls.drop i).map slotL).flatten = (x ++ slotL ls[i]) ++ ((ls.drop (i + 1)).map slotL).flatten := by
      rw [hdrop, List.map_cons, List.flatten_cons, List.append_assoc]
    rw [e] at hb ⊢
    refine Ev.step (f := fun k => mail_Encode.l0 k (tx (x ++ slotL ls[i])) ls (ls.length : Int) ((i + 1 : Nat) : Int) kd u q text tag ls0 li) (fun k => ?_) (ih (i + 1) _ (by omega) hb)
    simp only [mail_Encode.l0]
    rw [if_pos (by omega), if_pos (by omega), if_pos (by omega), rd_get ls i hlt]
    have e0 : ls[i].f0.data.toList.length = ls[i].f0.size := Array.length_toList
    have e1 : ls[i].f1.data.toList.length = ls[i].f1.size := Array.length_toList
    have p0 := pad_eq ls[i].f0.data.toList 16 (by omega) (by omega)
    have p1 := pad_eq ls[i].f1.data.toList 222 (by omega) (by omega)
    rw [← tx_of, e0] at p0
    rw [← tx_of, e1] at p1
    have b := strs_b8 [((ls[i].f1).size : Int)]
    simp only [List.map_cons, List.map_nil] at b
    have hb1 : (x ++ slotL ls[i]).length ≤ 1000 := by rw [List.length_append] at hb; omega
    have j := join_eq [x, ls[i].f0.data.toList ++ List.replicate (16 - ls[i].f0.size) 0, [b8 (ls[i].f1.size : Int)], ls[i].f1.data.toList ++ List.replicate (222 - ls[i].f1.size) 0] (by simp) (by
      have e5 : [x, ls[i].f0.data.toList ++ List.replicate (16 - ls[i].f0.size) 0, [b8 (ls[i].f1.size : Int)], ls[i].f1.data.toList ++ List.replicate (222 - ls[i].f1.size) 0].flatten = x ++ slotL ls[i] := by simp [slotL]
      rw [e5]; omega)
    have e5 : [x, ls[i].f0.data.toList ++ List.replicate (16 - ls[i].f0.size) 0, [b8 (ls[i].f1.size : Int)], ls[i].f1.data.toList ++ List.replicate (222 - ls[i].f1.size) 0].flatten = x ++ slotL ls[i] := by simp [slotL]
    rw [e5] at j
    simp only [List.map_cons, List.map_nil] at j
    have p0' : mail_pad.f ls[i].f0 16 = some (tx (ls[i].f0.data.toList ++ List.replicate (16 - ls[i].f0.size) 0)) := p0
    have p1' : mail_pad.f ls[i].f1 222 = some (tx (ls[i].f1.data.toList ++ List.replicate (222 - ls[i].f1.size) 0)) := p1
    rw [p0']
    simp only [Option.bind_some]
    rw [p1']
    simp only [Option.bind_some]
    rw [b, j]
    simp only [Option.bind_some]
    rw [show wrap64 ((i : Int) + 1) = ((i + 1 : Nat) : Int) by unfold wrap64; omega]
/-- the text of a message that may be. -/
def headL (kd u q : Int) (tag : ByteArray) (ls : List S43) : List UInt8 := b8 kd :: (whoL u q ++ tag.data.toList) ++ (ls.map slotL).flatten
def longN (kd : Int) : Nat := if kd = 2 then 38 else if kd = 3 then 962 else 102
def encL (kd u q : Int) (text tag : ByteArray) (ls : List S43) (li : List ByteArray) : List UInt8 :=
  if kd = 1 then b8 kd :: text.data.toList else restL (longN kd) (headL kd u q tag ls) li
theorem slots_len (ls : List S43) (h : ∀ a ∈ ls, a.f0.size ≤ 16 ∧ a.f1.size ≤ 222) : ((ls.map slotL).flatten).length = 239 * ls.length := by
  induction ls with
  | nil => rfl
  | cons a l ih =>
    rw [List.map_cons, List.flatten_cons, List.length_append, slotL_len a (h a (List.mem_cons_self ..)), ih (fun b hb => h b (List.mem_cons_of_mem _ hb)), List.length_cons]
    omega
theorem ids_len (li : List ByteArray) (h : ∀ a ∈ li, a.size = 16) : ((li.map (·.data.toList)).flatten).length = 16 * li.length := by
  induction li with
  | nil => rfl
  | cons a l ih =>
    have e : a.data.toList.length = a.size := Array.length_toList
    rw [List.map_cons, List.flatten_cons, List.length_append, e, h a (List.mem_cons_self ..), ih (fun b hb => h b (List.mem_cons_of_mem _ hb)), List.length_cons]
    omega
theorem ids_16 {li : List ByteArray} (h : (li.any fun a => !idB a) = false) : ∀ a ∈ li, a.size = 16 := by
  intro a ha
  have := List.any_eq_false.1 h a ha
  simp only [Bool.not_eq_true, Bool.not_eq_false'] at this
  unfold idB at this
  simp only [Bool.and_eq_true, beq_iff_eq] at this
  exact this.1
theorem headL_len (kd u q : Int) (tag : ByteArray) (ls : List S43) (h : ∀ a ∈ ls, a.f0.size ≤ 16 ∧ a.f1.size ≤ 222) : (headL kd u q tag ls).length = 6 + tag.size + 239 * ls.length := by
  have e : tag.data.toList.length = tag.size := Array.length_toList
  unfold headL whoL
  rw [List.length_append, slots_len ls h]
  simp only [List.length_cons, List.length_append, List.length_nil, e]
  omega
/-- what a message that may be, of no packet's kind, tells. -/
theorem Good.sizes {kd u q : Int} {text tag : ByteArray} {ls : List S43} {li : List ByteArray} (g : Good kd u q text tag ls li) (h1 : ¬ kd = 1) :
    mail_Long.f kd = some (longN kd : Int) ∧ longN kd ≤ 1000 ∧ (∀ a ∈ ls, a.f0.size ≤ 16 ∧ a.f1.size ≤ 222) ∧ li.length ≤ 4 ∧ ls.length ≤ 4 ∧ tag.size ≤ 32 ∧ (headL kd u q tag ls).length + ((li.map (·.data.toList)).flatten).length ≤ longN kd := by
  rcases g with g | ⟨_, _, ⟨rfl, ht, rfl, rfl⟩ | ⟨rfl, ht, hf, rfl⟩ | ⟨rfl, ht, rfl, h4, hi⟩⟩
  · exact absurd g.1 h1
  · refine ⟨rfl, by decide, fun a ha => (by cases ha), by simp, by simp, by omega, ?_⟩
    rw [headL_len _ _ _ _ _ (fun a ha => (by cases ha)), ht]
    decide
  · have hf2 : ls.length = 4 ∧ ((ls.drop (leadN ls)).any someB) = false := by
      unfold filledB at hf
      simpa using hf
    have hs := filled_small ls hf2.2
    rw [ByteArray.toList_eq] at ht
    have h0 := size_nil ht
    refine ⟨rfl, by decide, hs, by simp, by omega, by omega, ?_⟩
    rw [headL_len _ _ _ _ _ hs, hf2.1, h0]
    decide
  · have h16 := ids_16 hi
    refine ⟨rfl, by decide, fun a ha => (by cases ha), h4, by simp, by omega, ?_⟩
    rw [headL_len _ _ _ _ _ (fun a ha => (by cases ha)), ht, ids_len li h16]
    have e : longN 4 = 102 := rfl
    rw [e, List.length_nil]
    omega
theorem enc_good {kd u q : Int} {text tag : ByteArray} {ls : List S43} {li : List ByteArray} (hc : Ev (fun k => mail_Check.f k kd u q text tag ls li) 0) (g : Good kd u q text tag ls li) :
    Ev (fun k => mail_Encode.f k kd u q text tag ls li) (tx (encL kd u q text tag ls li), 0) := by
  unfold mail_Encode.f
  refine Ev.bind hc ?_
  have b := strs_b8 [kd]
  simp only [List.map_cons, List.map_nil] at b
  by_cases h1 : kd = 1
  · refine Ev.congr (f := fun _ => some (tx (encL kd u q text tag ls li), 0)) (fun k => ?_) (Ev.now _)
    have ht : text.size = 504 := by
      rcases g with g | ⟨_, _, ⟨h, _⟩ | ⟨h, _⟩ | ⟨h, _⟩⟩
      · exact g.2.2.2.1
      all_goals omega
    have e : text.data.toList.length = text.size := Array.length_toList
    have j := join_eq [[b8 kd], text.data.toList] (by simp) (by simp only [List.flatten_cons, List.flatten_nil, List.append_nil, List.length_append, List.length_singleton]; omega)
    simp only [List.map_cons, List.map_nil, List.flatten_cons, List.flatten_nil, List.append_nil] at j
    rw [← tx_of] at j
    rw [if_pos rfl]
    simp only [Option.bind_some]
    rw [if_pos h1, b, j]
    simp only [Option.bind_some]
    rw [encL, if_pos h1]
    rfl
  · obtain ⟨hn, hn2, hs, hl, hls, htg, hsum⟩ := g.sizes h1
    have e : tag.data.toList.length = tag.size := Array.length_toList
    have w5 := strs_b8 [u, q / 16777216, q / 65536, q / 256, q]
    simp only [List.map_cons, List.map_nil] at w5
    have j := join_eq [[b8 kd], whoL u q, tag.data.toList] (by simp) (by simp only [whoL, List.flatten_cons, List.flatten_nil, List.append_nil, List.length_append, List.length_singleton, List.length_cons, List.length_nil]; omega)
    simp only [List.map_cons, List.map_nil, List.flatten_cons, List.flatten_nil, List.append_nil] at j
    rw [← tx_of] at j
    have l := l0_ev ls ls li kd u q text tag (longN kd) hn hn2 hs hl hls ls.length 0 ([b8 kd] ++ (whoL u q ++ tag.data.toList)) (by omega) hsum
    refine Ev.congr (fun k => ?_) (by rw [encL, if_neg h1]; exact l)
    rw [if_pos rfl]
    simp only [Option.bind_some]
    rw [if_neg h1, b, w5]
    show (mail_join.f [tx [b8 kd], tx (whoL u q), tag]).bind _ = _
    rw [j]
    rfl
end Go.Proofs.Ytidilhnjfdkmpaa

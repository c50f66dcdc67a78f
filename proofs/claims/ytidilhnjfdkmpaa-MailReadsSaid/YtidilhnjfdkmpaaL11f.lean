/- The reference's Encode is Encode, plainly. -/
import Derived.Test.YtidilhnjfdkmpaaL11e
namespace Go.Proofs.Ytidilhnjfdkmpaa
open Go.RowKit Go.Proofs.Ytidilhnjfdkmpaa.PMailA Go.Proofs.YtidilhnjfdkmpaaW.PrintWords Go.Proofs.YtidilhnjfdkmpaaW.PrintLast
set_option linter.unusedSimpArgs false
set_option linter.unusedVariables false
theorem tx_app (a b : List UInt8) : tx a ++ tx b = tx (a ++ b) := tx_ext (by rw [ByteArray.data_append, Array.toList_append, tx_list, tx_list])
theorem strs_zero (n : Nat) : strOfNums (List.replicate n (0 : Int)) = tx (List.replicate n 0) := by
  have := strs_b8 (List.replicate n (0 : Int))
  rw [List.map_replicate, List.map_replicate] at this
  exact this
theorem padded_eq (l : List UInt8) (n : Nat) (h : l.length ≤ n) (hn : n ≤ 100000) : dovecoteref11_padded.f (tx l) (n : Int) = some (tx (l ++ List.replicate (n - l.length) 0)) := by
  unfold dovecoteref11_padded.f
  have e : wrap64 ((n : Int) - ((tx l).size : Int)) = ((n - l.length : Nat) : Int) := by rw [tx_size]; unfold wrap64; omega
  rw [e, if_pos (by omega), if_pos (by omega)]
  simp only [Option.bind_some, Int.toNat_natCast]
  rw [strs_zero, if_pos (by rw [tx_size, tx_size, List.length_replicate]; omega), tx_app]
theorem l1_ev (ls : List S43) (li : List ByteArray) (kd u q : Int) (text tag : ByteArray) (hs : ∀ a ∈ ls, a.f0.size ≤ 16 ∧ a.f1.size ≤ 222) (hls : ls.length ≤ 4) (d : Nat) :
    ∀ (i : Nat) (x : List UInt8), i + d = ls.length → x.length + 239 * d ≤ 10000 →
      Ev (fun k => dovecoteref11_Text.l1 k (tx x) (i : Int) kd u q text tag ls li) (tx (x ++ ((ls.drop i).map slotL).flatten)) := by
  induction d with
  | zero =>
    intro i x hi hb
    obtain rfl : i = ls.length := by omega
    refine Ev.step (f := fun _ => some (tx x)) (fun k => ?_) (by rw [List.drop_length]; simpa using Ev.now (tx x))
    simp only [dovecoteref11_Text.l1]
    rw [if_neg (by omega)]
  | succ d ih =>
    intro i x hi hb
    have hlt : i < ls.length := by omega
    have hdrop : ls.drop i = ls[i] :: ls.drop (i + 1) := List.drop_eq_getElem_cons hlt
    have hsz := hs ls[i] (List.getElem_mem hlt)
    have hsl := slotL_len ls[i] hsz
    have e : x ++ ((ls.drop i).map slotL).flatten = (x ++ slotL ls[i]) ++ ((ls.drop (i + 1)).map slotL).flatten := by
      rw [hdrop, List.map_cons, List.flatten_cons, List.append_assoc]
    rw [e]
    refine Ev.step (f := fun k => dovecoteref11_Text.l1 k (tx (x ++ slotL ls[i])) ((i + 1 : Nat) : Int) kd u q text tag ls li) (fun k => ?_) (ih (i + 1) (x ++ slotL ls[i]) (by omega) (by rw [List.length_append, hsl]; omega))
    simp only [dovecoteref11_Text.l1]
    rw [if_pos (by omega), if_pos (by omega), rd_get ls i hlt]
    have e0 : ls[i].f0.data.toList.length = ls[i].f0.size := Array.length_toList
    have e1 : ls[i].f1.data.toList.length = ls[i].f1.size := Array.length_toList
    have p0 := padded_eq ls[i].f0.data.toList 16 (by omega) (by omega)
    have p1 := padded_eq ls[i].f1.data.toList 222 (by omega) (by omega)
    rw [← tx_of, e0] at p0
    rw [← tx_of, e1] at p1
    have p0' : dovecoteref11_padded.f ls[i].f0 16 = some (tx (ls[i].f0.data.toList ++ List.replicate (16 - ls[i].f0.size) 0)) := p0
    have p1' : dovecoteref11_padded.f ls[i].f1 222 = some (tx (ls[i].f1.data.toList ++ List.replicate (222 - ls[i].f1.size) 0)) := p1
    have b := strs_b8 [((ls[i].f1).size : Int)]
    simp only [List.map_cons, List.map_nil] at b
    have es : (ls[i].f0.data.toList ++ List.replicate (16 - ls[i].f0.size) 0 ++ [b8 (ls[i].f1.size : Int)]) ++ (ls[i].f1.data.toList ++ List.replicate (222 - ls[i].f1.size) 0) = slotL ls[i] := rfl
    rw [p0']
    simp only [Option.bind_some]
    rw [b, p1']
    simp only [Option.bind_some]
    rw [tx_app, tx_app, tx_app, es, tx_size, tx_size, tx_size, tx_size, tx_size]
    rw [if_pos (by simp only [List.length_append, List.length_replicate, List.length_singleton]; omega), if_pos (by simp only [List.length_append, List.length_replicate, List.length_singleton]; omega), if_pos (by rw [tx_size, hsl]; omega)]
    rw [show wrap64 ((i : Int) + 1) = ((i + 1 : Nat) : Int) by unfold wrap64; omega]
def idsFrom (li : List ByteArray) (i : Nat) : List UInt8 := ((li.drop i).map (·.data.toList)).flatten ++ List.replicate (16 * (4 - max i li.length)) 0
theorem ids_loop (li : List ByteArray) (u q : Int) (text tag : ByteArray) (hl : li.length ≤ 4) (h16 : ∀ a ∈ li, a.size = 16) (d : Nat) :
    ∀ (i : Nat) (x : List UInt8), i + d = 4 → x.length + 16 * d ≤ 10000 → Ev (fun k => dovecoteref11_Text.l0 k (tx x) (i : Int) 4 u q text tag [] li) (tx (x ++ idsFrom li i)) := by
  induction d with
  | zero =>
    intro i x hi hb
    obtain rfl : i = 4 := by omega
    have e : idsFrom li 4 = [] := by
      unfold idsFrom
      rw [List.drop_eq_nil_of_le (by omega), show 4 - max 4 li.length = 0 by omega]
      rfl
    rw [e, List.append_nil]
    refine Ev.step (fun k => by simp only [dovecoteref11_Text.l0]; rw [if_neg (by decide)]) ?_
    refine Ev.step (fun k => by simp only [dovecoteref11_Text.j1]; rw [if_neg (by decide)]) ?_
    have := l1_ev [] li 4 u q text tag (fun a ha => (by cases ha)) (by simp) 0 0 x (by simp) (by omega)
    simpa using this
  | succ d ih =>
    intro i x hi hb
    refine Ev.step (fun k => by simp only [dovecoteref11_Text.l0]; rw [if_pos (by omega)]) ?_
    by_cases hlt : i < li.length
    · have hr : rdOf ByteArray.empty li (i : Int) = li[i] := by
        unfold rdOf
        rw [Int.toNat_natCast, List.getD_eq_getElem?_getD, List.getElem?_eq_getElem hlt]
        rfl
      have e0 : li[i].data.toList.length = li[i].size := Array.length_toList
      have hz := h16 li[i] (List.getElem_mem hlt)
      have hd : li.drop i = li[i] :: li.drop (i + 1) := List.drop_eq_getElem_cons hlt
      have e : x ++ idsFrom li i = (x ++ li[i].data.toList) ++ idsFrom li (i + 1) := by
        unfold idsFrom
        rw [hd, List.map_cons, List.flatten_cons, show max i li.length = max (i + 1) li.length by omega]
        simp only [List.append_assoc]
      rw [e]
      refine Ev.step (f := fun k => dovecoteref11_Text.l0 k (tx (x ++ li[i].data.toList)) ((i + 1 : Nat) : Int) 4 u q text tag [] li) (fun k => ?_) (ih (i + 1) (x ++ li[i].data.toList) (by omega) (by rw [List.length_append, e0, hz]; omega))
      simp only [dovecoteref11_Text.j1]
      rw [if_pos (by decide), if_pos (by omega), if_pos (by omega), hr, if_pos (by rw [tx_size, hz]; omega), show wrap64 ((i : Int) + 1) = ((i + 1 : Nat) : Int) by unfold wrap64; omega]
      conv => lhs; rw [tx_of li[i], tx_app]
    · have e : x ++ idsFrom li i = (x ++ List.replicate 16 0) ++ idsFrom li (i + 1) := by
        unfold idsFrom
        rw [List.drop_eq_nil_of_le (by omega), List.drop_eq_nil_of_le (by omega)]
        simp only [List.map_nil, List.flatten_nil, List.nil_append, List.append_assoc, List.replicate_append_replicate]
        rw [show 16 * (4 - max i li.length) = 16 + 16 * (4 - max (i + 1) li.length) by omega]
      rw [e]
      refine Ev.step (f := fun k => dovecoteref11_Text.l0 k (tx (x ++ List.replicate 16 0)) ((i + 1 : Nat) : Int) 4 u q text tag [] li) (fun k => ?_) (ih (i + 1) (x ++ List.replicate 16 0) (by omega) (by rw [List.length_append, List.length_replicate]; omega))
      simp only [dovecoteref11_Text.j1]
      have p : dovecoteref11_padded.f (⟨#[]⟩ : ByteArray) 16 = some (tx (List.replicate 16 0)) := padded_eq [] 16 (by simp) (by omega)
      rw [if_pos (by decide), if_neg (by omega), p]
      simp only [Option.bind_some]
      rw [if_pos (by rw [tx_size, tx_size, List.length_replicate]; omega), tx_app, show wrap64 ((i : Int) + 1) = ((i + 1 : Nat) : Int) by unfold wrap64; omega]
theorem text_ev {kd u q : Int} {text tag : ByteArray} {ls : List S43} {li : List ByteArray} (g : Good kd u q text tag ls li) :
    Ev (fun k => dovecoteref11_Text.f k kd u q text tag ls li) (tx (encL kd u q text tag ls li)) := by
  unfold dovecoteref11_Text.f
  by_cases h1 : kd = 1
  · have ht : text.size = 504 := by
      rcases g with g | ⟨_, _, ⟨h, _⟩ | ⟨h, _⟩ | ⟨h, _⟩⟩
      · exact g.2.2.2.1
      all_goals omega
    refine Ev.congr (f := fun _ => some _) (fun k => ?_) (Ev.now _)
    rw [if_pos h1, if_pos (by omega), encL, if_pos h1, h1]
    have e : (⟨#[1]⟩ : ByteArray) = tx [1] := rfl
    conv => lhs; rw [e, tx_of text, tx_app]
    rfl
  · obtain ⟨_, _, hs, hl4, hls4, htg, hsum⟩ := g.sizes h1
    have htl : tag.data.toList.length = tag.size := Array.length_toList
    have b := strs_b8 [kd, u, q / 16777216, q / 65536, q / 256, q]
    simp only [List.map_cons, List.map_nil] at b
    have eh : tx [b8 kd, b8 u, b8 (q / 16777216), b8 (q / 65536), b8 (q / 256), b8 q] ++ tag = tx (b8 kd :: (whoL u q ++ tag.data.toList)) := by
      conv => lhs; rw [tx_of tag, tx_app]
      rfl
    refine Ev.congr (f := fun k => dovecoteref11_Text.l0 k (tx (b8 kd :: (whoL u q ++ tag.data.toList))) ((0 : Nat) : Int) kd u q text tag ls li) (fun k => ?_) ?_
    · rw [if_neg h1]
      simp only [Option.bind_some]
      rw [b, if_pos (by rw [tx_size]; simp only [List.length_cons, List.length_nil]; omega), eh]
      rfl
    have hlen : (b8 kd :: (whoL u q ++ tag.data.toList)).length = 6 + tag.size := by
      unfold whoL
      simp only [List.length_cons, List.length_append, List.length_nil, htl]
      omega
    by_cases h4 : kd = 4
    · rcases g with g | ⟨_, _, ⟨h, _⟩ | ⟨h, _⟩ | ⟨_, ht, rfl, hn, hi⟩⟩
      · exact absurd g.1 h1
      · omega
      · omega
      · subst h4
        have h16 := ids_16 hi
        have r := ids_loop li u q text tag hn h16 4 0 (b8 4 :: (whoL u q ++ tag.data.toList)) rfl (by rw [hlen]; omega)
        have e : encL 4 u q text tag [] li = (b8 4 :: (whoL u q ++ tag.data.toList)) ++ idsFrom li 0 := by
          rw [encL, if_neg h1, restL, headL_len _ _ _ _ _ (fun a ha => (by cases ha)), ids_len li h16, ht]
          unfold idsFrom headL
          rw [show longN 4 - (6 + 32 + 239 * ([] : List S43).length + 16 * li.length) = 16 * (4 - max 0 li.length) by rw [show longN 4 = 102 from rfl, List.length_nil]; omega, List.drop_zero]
          simp
        rw [e]
        exact r
    · have hli : li = [] := by
        rcases g with g | ⟨_, _, ⟨_, _, _, h⟩ | ⟨_, _, _, h⟩ | ⟨h, _⟩⟩
        · exact absurd g.1 h1
        · exact h
        · exact h
        · exact absurd h h4
      subst hli
      have e : encL kd u q text tag ls [] = (b8 kd :: (whoL u q ++ tag.data.toList)) ++ ((ls.drop 0).map slotL).flatten := by
        have hz : longN kd - ((headL kd u q tag ls).length + ((([] : List ByteArray).map (·.data.toList)).flatten).length) = 0 := by
          rw [headL_len _ _ _ _ _ hs]
          rcases g with g | ⟨_, _, ⟨rfl, ht, rfl, _⟩ | ⟨rfl, ht, hf, _⟩ | ⟨h, _⟩⟩
          · exact absurd g.1 h1
          · rw [ht]; decide
          · have hf2 : ls.length = 4 := by
              unfold filledB at hf
              simp only [Bool.and_eq_true, beq_iff_eq] at hf
              exact hf.1
            rw [hf2, show longN 3 = 962 from rfl]; omega
          · exact absurd h h4
        rw [encL, if_neg h1, restL, hz]
        simp [headL]
      rw [e]
      refine Ev.step (fun k => by simp only [dovecoteref11_Text.l0]; rw [if_pos (by decide)]) ?_
      refine Ev.step (fun k => by simp only [dovecoteref11_Text.j1]; rw [if_neg (by simpa using h4)]) ?_
      exact l1_ev ls [] kd u q text tag hs hls4 ls.length 0 _ (by omega) (by rw [hlen]; omega)
/-- Encode and the reference's Encode, alike. -/
theorem both_enc (kd u q : Int) (text tag : ByteArray) (ls : List S43) (li : List ByteArray) (hl : li.length ≤ 9223372036854775807) :
    ∃ x : ByteArray × Int, ∃ c : Int, Ev (fun k => mail_Encode.f k kd u q text tag ls li) x ∧ Ev (fun k => dovecoteref11_Encode.f k kd u q text tag ls li) x ∧
      Ev (fun k => mail_Check.f k kd u q text tag ls li) c ∧ Ev (fun k => dovecoteref11_Check.f k kd u q text tag ls li) c := by
  rcases refchk kd u q text tag ls li hl with ⟨hr, g⟩ | ⟨hr, g⟩
  · have hc : Ev (fun k => mail_Check.f k kd u q text tag ls li) 0 := Ev.of (fun k => mail_Check.mono _ _ _ _ _ _ _ k) (chk_good g)
    refine ⟨_, 0, enc_good hc g, ?_, hc, hr⟩
    unfold dovecoteref11_Encode.f
    refine Ev.bind hr (Ev.congr (fun k => if_pos rfl) (Ev.bind (text_ev g) (Ev.now _)))
  · rcases chk_ev (kd := kd) (u := u) (q := q) (text := text) (tag := tag) (ls := ls) (li := li) with ⟨_, g2⟩ | hc
    · exact absurd g2 g
    · refine ⟨(⟨#[]⟩, 110), 110, ?_, ?_, hc, hr⟩
      · unfold mail_Encode.f
        exact Ev.bind hc (Ev.congr (f := fun _ => some (⟨#[]⟩, 110)) (fun k => if_neg (by decide)) (Ev.now _))
      · unfold dovecoteref11_Encode.f
        exact Ev.bind hr (Ev.congr (f := fun _ => some (⟨#[]⟩, 110)) (fun k => if_neg (by decide)) (Ev.now _))
end Go.Proofs.Ytidilhnjfdkmpaa

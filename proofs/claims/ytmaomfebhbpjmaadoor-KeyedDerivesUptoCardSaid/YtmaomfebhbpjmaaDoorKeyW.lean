/- The walks of package keyed: padded, Tag, Extract. -/
import Derived.Test.YtmaomfebhbpjmaaDoorCb
import Derived.Test.YtmaomfebhbpjmaaDoorKeyP
import Derived.Test.YtmaomfebhbpjmaaDoorHashV
import Derived.Test.YtmaomfebhbpjmaaDoorOwnU
import Derived.Test.YtmaomfebhbpjmaaDoorShelf
namespace Go.Proofs.YtmaomfebhbpjmaaDoor
open Go.RowKit
set_option linter.unusedSimpArgs false
set_option linter.unusedVariables false
theorem repeat_zero (m : Nat) : Lib.repeatL (⟨#[0]⟩ : ByteArray).data.toList m = List.replicate m 0 := by
  induction m with
  | zero => rfl
  | succ m ih => rw [Lib.repeatL, ih]; rfl
/-- so many of them xor a byte. -/
def xorTo (l : List UInt8) (b : UInt8) (i : Nat) : List UInt8 := (l.take i).map (· ^^^ b) ++ l.drop i
theorem xorTo_length (l : List UInt8) (b : UInt8) (i : Nat) : (xorTo l b i).length = l.length := by
  simp [xorTo]
  omega
theorem xorTo_get (l : List UInt8) (b : UInt8) (i : Nat) (h : i < l.length) : bd (xorTo l b i) i = bd l i := by
  have hl : ((l.take i).map (· ^^^ b)).length = i := by simp; omega
  simp only [xorTo, bd, List.getD]
  rw [List.getElem?_append_right (by omega), hl, Nat.sub_self, List.getElem?_drop]
  simp
theorem xorTo_set (l : List UInt8) (b : UInt8) (i : Nat) (h : i < l.length) : (xorTo l b i).set i (bd l i ^^^ b) = xorTo l b (i + 1) := by
  have hl : ((l.take i).map (· ^^^ b)).length = i := by simp; omega
  unfold xorTo
  rw [List.set_append_right _ _ (by omega), hl, Nat.sub_self, List.drop_eq_getElem_cons h, List.set_cons_zero, List.take_succ_eq_append_getElem h, List.map_append, List.append_assoc]
  simp [bd, List.getD, List.getElem?_eq_getElem h]
set_option maxHeartbeats 1600000 in
set_option maxRecDepth 100000 in
theorem padded_any (k : List UInt8) (b : UInt8) (w : World) (hkl : k.length ≤ 140737488351232) (hk : KsAt w) (hg : 0 < w.heap.size) :
    Calls Tryd.prog 21 #[.string ⟨k.toArray⟩, .int .u8 (n8 b)] w fun e w' => e = .returned (.string ⟨(padL k b).toArray⟩) ∧ Below w.heap.size w w' := by
  have HK := Lib.hid hk
  clear hk
  have hszk : (⟨k.toArray⟩ : ByteArray).size = k.length := by simp [ByteArray.size]
  obtain ⟨x, hx⟩ : ∃ x, Hid (x = keyL k) := ⟨_, rfl⟩
  have hxl : x.length ≤ 64 := by rw [hx.out]; exact keyL_le k
  have hszx : (⟨x.toArray⟩ : ByteArray).size = x.length := by simp [ByteArray.size]
  obtain ⟨m, hm⟩ : ∃ m, Hid (m = 64 - x.length) := ⟨_, rfl⟩
  have e3 := Lib.hid (show (64 : Int) - (x.length : Int) = (m : Int) by rw [hm.out]; omega)
  obtain ⟨y, hy⟩ : ∃ y, Hid (y = key64 k) := ⟨_, rfl⟩
  have hyl : y.length = 64 := by rw [hy.out]; exact key64_length k
  have HY := Lib.hid (show x ++ List.replicate m 0 = y by rw [hy.out, key64, hm.out, hx.out])
  obtain ⟨zr, hzr⟩ : ∃ zr, Hid (zr = List.replicate m (0 : UInt8)) := ⟨_, rfl⟩
  have hszr : (⟨zr.toArray⟩ : ByteArray).size = m := by rw [hzr.out]; simp [ByteArray.size]
  have hm64 : m ≤ 64 := by rw [hm.out]; omega
  go_enter Tryd.func21, Tryd.ntmps21
  by_cases h64 : 64 < k.length
  · have h64i : (64 : Int) < (k.length : Int) := by omega
    have HX : Hid (sha k = x) := Lib.hid (by rw [hx.out, keyL, if_pos h64])
    go_wp2_with fail
    have B1 := Lib.hid ((Below.refl w.heap.size w).alloc (Nat.le_refl _) (.cells #[.string ⟨k.toArray⟩] 9))
    refine (sum_any _ 1 1 _ [k] (strs_one w 9 k) (by intro l hl; simp at hl; subst hl; omega) (by decide) (HK.out.below hg B1.out) (Nat.lt_of_lt_of_le hg B1.out.size)).mono ?_
    rintro e w2 ⟨rfl, b2⟩
    rw [show sha ([k] : List (List UInt8)).flatten = x by rw [← HX.out]; simp]
    have B2 := Lib.hid (B1.out.trans (b2.mono B1.out.size))
    clear b2
    go_wp2_with fail
    simp only [e3.out]
    refine (Tryd.strings_Repeat ⟨#[0]⟩ m w2 (by omega) (by simp [ByteArray.size]; omega)).mono ?_
    rintro e w3 ⟨rfl, b3⟩
    rw [repeat_zero, ← hzr.out]
    have B3 := Lib.hid (B2.out.trans (b3.mono B2.out.size))
    clear b3
    obtain ⟨cap, w4, hcv, hcb, hbl⟩ := cb_of_string (P := Tryd.prog) w3 9 30 5 y Tryd.underlying9 Tryd.underlying30 Tryd.underlying5 w.heap.size B3.out.size
    have B4 := Lib.hid (B3.out.trans hbl)
    have HC := Lib.hid hcb
    have hw34 := B3.out.size
    clear hcb hbl
    have hcat : (⟨x.toArray⟩ : ByteArray) ++ ⟨zr.toArray⟩ = ⟨y.toArray⟩ := by rw [cat_eq, hzr.out, HY.out]
    obtain ⟨g, hgw⟩ : ∃ g, g = w3.heap.size := ⟨_, rfl⟩
    rw [← hgw] at hcv HC hw34
    clear hgw
    go_wp2_with fail
    clear hcv
    go_loopw [6, 22] (fun v6 v22 wx => ∃ i : Nat, i ≤ 64 ∧ v22 = .int .i64 i ∧ Cb wx g (xorTo y b i) ∧ Below w.heap.size w wx) (fun _ v _ => 64 - (intOf v).toNat)
    case atStart => exact ⟨0, by omega, rfl, HC.out, B4.out⟩
    case round =>
      obtain ⟨i, hi, rfl, hC, hG⟩ := hrel
      have HC5 := Lib.hid hC
      have HG5 := Lib.hid hG
      clear hC hG
      have hxy := xorTo_length y b i
      by_cases hlt : i < 64
      · obtain ⟨z, hz⟩ : ∃ z, Hid (z = bd y i) := ⟨_, rfl⟩
        have c1 := (HC5.out.2 i (by omega)).1
        have f1 := (HC5.out.2 i (by omega)).2
        rw [xorTo_get y b i (by omega), ← hz.out] at c1
        have hn := n8_xor z b
        have hi64 : (0 : Int) ≤ (i : Int) ∧ (i : Int) < 64 := by omega
        have hfin : Cb (wr.setCell ⟨g, i, none⟩ (.int .u8 (n8 (z ^^^ b)))) g (xorTo y b (i + 1)) ∧ Below w.heap.size w (wr.setCell ⟨g, i, none⟩ (.int .u8 (n8 (z ^^^ b)))) := by
          have := HC5.out.set_ i (by omega) (z ^^^ b)
          rw [hz.out, xorTo_set y b i (by omega), ← hz.out] at this
          exact ⟨this, below_of_only HG5.out (only_set (only_refl _ (some g)) (.inl rfl) _) hw34 HG5.out.size⟩
        have HF := Lib.hid hfin
        clear hfin
        have hyl' : y.length = 64 := hyl
        go_wp2_with fail
        go_roundw
        case rel => exact ⟨i + 1, by omega, by go_num, HF.out⟩
        case measure => simp [intOf]; omega
      · obtain rfl : i = 64 := by omega
        have hp : xorTo y b 64 = padL k b := by rw [xorTo, List.take_of_length_le (by omega), List.drop_of_length_le (by omega), List.append_nil, hy.out]; rfl
        rw [hp] at HC5
        have hpl := padL_length k b
        obtain ⟨p, hpp⟩ : ∃ p, Hid (p = padL k b) := ⟨_, rfl⟩
        rw [← hpp.out] at HC5 hpl
        have hcv := HC5.out.string 30 9 5 cap Tryd.underlying30 Tryd.underlying5 Tryd.underlying9
        rw [hpl] at hcv
        clear hp hpl
        go_wp2_with fail
        go_ret
        exact ⟨by rw [← hpp.out]; rfl, HG5.out⟩
  · have h64i : (k.length : Int) ≤ 64 := by omega
    have hxk : x = k := by rw [hx.out, keyL, if_neg h64]
    subst hxk
    have B2 := Lib.hid (Below.refl w.heap.size w)
    go_wp2_with fail
    simp only [e3.out]
    refine (Tryd.strings_Repeat ⟨#[0]⟩ m w (by omega) (by simp [ByteArray.size]; omega)).mono ?_
    rintro e w3 ⟨rfl, b3⟩
    rw [repeat_zero, ← hzr.out]
    have B3 := Lib.hid (B2.out.trans (b3.mono B2.out.size))
    clear b3
    obtain ⟨cap, w4, hcv, hcb, hbl⟩ := cb_of_string (P := Tryd.prog) w3 9 30 5 y Tryd.underlying9 Tryd.underlying30 Tryd.underlying5 w.heap.size B3.out.size
    have B4 := Lib.hid (B3.out.trans hbl)
    have HC := Lib.hid hcb
    have hw34 := B3.out.size
    clear hcb hbl
    have hcat : (⟨x.toArray⟩ : ByteArray) ++ ⟨zr.toArray⟩ = ⟨y.toArray⟩ := by rw [cat_eq, hzr.out, HY.out]
    obtain ⟨g, hgw⟩ : ∃ g, g = w3.heap.size := ⟨_, rfl⟩
    rw [← hgw] at hcv HC hw34
    clear hgw
    go_wp2_with fail
    clear hcv
    go_loopw [6, 22] (fun v6 v22 wx => ∃ i : Nat, i ≤ 64 ∧ v22 = .int .i64 i ∧ Cb wx g (xorTo y b i) ∧ Below w.heap.size w wx) (fun _ v _ => 64 - (intOf v).toNat)
    case atStart => exact ⟨0, by omega, rfl, HC.out, B4.out⟩
    case round =>
      obtain ⟨i, hi, rfl, hC, hG⟩ := hrel
      have HC5 := Lib.hid hC
      have HG5 := Lib.hid hG
      clear hC hG
      have hxy := xorTo_length y b i
      by_cases hlt : i < 64
      · obtain ⟨z, hz⟩ : ∃ z, Hid (z = bd y i) := ⟨_, rfl⟩
        have c1 := (HC5.out.2 i (by omega)).1
        have f1 := (HC5.out.2 i (by omega)).2
        rw [xorTo_get y b i (by omega), ← hz.out] at c1
        have hn := n8_xor z b
        have hi64 : (0 : Int) ≤ (i : Int) ∧ (i : Int) < 64 := by omega
        have hfin : Cb (wr.setCell ⟨g, i, none⟩ (.int .u8 (n8 (z ^^^ b)))) g (xorTo y b (i + 1)) ∧ Below w.heap.size w (wr.setCell ⟨g, i, none⟩ (.int .u8 (n8 (z ^^^ b)))) := by
          have := HC5.out.set_ i (by omega) (z ^^^ b)
          rw [hz.out, xorTo_set y b i (by omega), ← hz.out] at this
          exact ⟨this, below_of_only HG5.out (only_set (only_refl _ (some g)) (.inl rfl) _) hw34 HG5.out.size⟩
        have HF := Lib.hid hfin
        clear hfin
        have hyl' : y.length = 64 := hyl
        go_wp2_with fail
        go_roundw
        case rel => exact ⟨i + 1, by omega, by go_num, HF.out⟩
        case measure => simp [intOf]; omega
      · obtain rfl : i = 64 := by omega
        have hp : xorTo y b 64 = padL x b := by rw [xorTo, List.take_of_length_le (by omega), List.drop_of_length_le (by omega), List.append_nil, hy.out]; rfl
        rw [hp] at HC5
        have hpl := padL_length x b
        obtain ⟨p, hpp⟩ : ∃ p, Hid (p = padL x b) := ⟨_, rfl⟩
        rw [← hpp.out] at HC5 hpl
        have hcv := HC5.out.string 30 9 5 cap Tryd.underlying30 Tryd.underlying5 Tryd.underlying9
        rw [hpl] at hcv
        clear hp hpl
        go_wp2_with fail
        go_ret
        exact ⟨by rw [← hpp.out]; rfl, HG5.out⟩

/-- 'append(own, l...)': the call's own slice of texts, and whatever slice behind it. -/
theorem own_append_strs {w : World} {B q n0 cap0 : Nat} {xs : List (List UInt8)} (ho : Own 9 w B (.slice (some ⟨q, 0, none⟩) n0 cap0) (cstr xs)) (A : Option Addr) (n c : Nat) (ls : List (List UInt8)) (h : Strs w A n ls) (hB : B ≤ w.heap.size) (hn : xs.length + n ≤ 1048577) (hx : 0 < xs.length) :
    ∃ A' c' w', (Builtin.append_ #[22, 22] 22 #[.slice (some ⟨q, 0, none⟩) n0 cap0, .slice A n c]).run Tryd.prog w = .ok (.slice A' (xs.length + n) c') w' ∧ Strs w' A' (xs.length + n) (xs ++ ls) ∧ w.grownBy w' (some q) := by
  have hl0 : (cstr xs).length = xs.length := cstr_length xs
  obtain ⟨A0, c0, hv⟩ := ho.form
  injection hv with e1 e2 e3
  rcases Nat.eq_zero_or_pos n with rfl | hpos
  · have hcap : n0 ≤ cap0 := by
      rcases ho.2 with ⟨h0, _⟩ | ⟨g, cap, cur, h1, _, _, hnc, _⟩
      · cases h0
      · injection h1 with _ a1 a2
        omega
    rcases run_append_zero (ty := 22) elemStr w (.slice (some ⟨q, 0, none⟩) n0 cap0) _ _ _ rfl A c with hr | ⟨_, _, h3⟩ | hc
    · have hls : ls = [] := List.eq_nil_of_length_eq_zero h.1
      subst hls
      rw [hl0] at e2
      subst e2
      exact ⟨_, _, _, hr, by simpa using ho.strs, only_refl _ _⟩
    · cases h3
    · omega
  · obtain ⟨g, o, rfl, hg, hcell⟩ := h.2 hpos
    obtain ⟨A', c', w', hrun, hown, hgr⟩ := own_append_from (ty := 22) elemStr ho g o n c (cstr ls) (by rw [cstr_length]; exact h.1) (fun j u hj => by
        have hjl : j < ls.length := by have := (List.getElem?_eq_some_iff.1 hj).1; rwa [cstr_length] at this
        rw [cstr_get _ _ hjl] at hj
        rw [hcell j (by rw [← h.1]; exact hjl)]
        exact hj) (by
        intro u hu
        obtain ⟨l, _, rfl⟩ := List.mem_map.1 hu
        rfl) (by rw [hl0]; omega) (by rw [hl0]; omega) hB
    rw [hl0] at hrun hown
    rw [← cstr_append] at hown
    exact ⟨A', c', w', hrun, hown.strs, hgr⟩
theorem own_one (w : World) (B : Nat) (a : List UInt8) (hB : B ≤ w.heap.size) : Own 9 (w.alloc (.cells #[.string ⟨a.toArray⟩] 9)) B (.slice (some ⟨w.heap.size, 0, none⟩) 1 1) (cstr [a]) :=
  own_lit w 9 [.string ⟨a.toArray⟩] hB (by simp)
set_option maxHeartbeats 1600000 in
set_option maxRecDepth 100000 in
theorem tag_any (k : List UInt8) (A : Option Addr) (n c : Nat) (ls : List (List UInt8)) (w : World) (h : Strs w A n ls) (hkl : k.length ≤ 140737488351232) (hlen : ∀ l ∈ ls, l.length ≤ 140737488355328) (hn : n ≤ 1048576) (hk : KsAt w) (hg : 0 < w.heap.size) :
    Calls Tryd.prog 10 #[.string ⟨k.toArray⟩, .slice A n c] w fun e w' => e = .returned (.string ⟨(tagL k ls.flatten).toArray⟩) ∧ Below w.heap.size w w' := by
  have HK := Lib.hid hk
  have H := Lib.hid h
  have HL := Lib.hid hlen
  clear hk h hlen
  obtain ⟨p, hp⟩ : ∃ p, Hid (p = padL k 54) := ⟨_, rfl⟩
  obtain ⟨q, hq⟩ : ∃ q, Hid (q = padL k 92) := ⟨_, rfl⟩
  have hpl := Lib.hid (show p.length = 64 by rw [hp.out]; exact padL_length _ _)
  have hql := Lib.hid (show q.length = 64 by rw [hq.out]; exact padL_length _ _)
  go_enter Tryd.func10, Tryd.ntmps10
  go_wp2_with fail
  refine (padded_any k 54 w hkl HK.out hg).mono ?_
  rintro e w1 ⟨rfl, b1⟩
  rw [← hp.out]
  have B1 := Lib.hid b1
  clear b1
  have B2 := Lib.hid (B1.out.alloc B1.out.size (.cells #[.string ⟨p.toArray⟩] 9))
  obtain ⟨A', c', w3, hrun, hst, hgr⟩ := own_append_strs (own_one w1 w.heap.size p B1.out.size) A n c ls (H.out.below B2.out) B2.out.size (by simp; omega) (by simp)
  have B3 := Lib.hid (below_of_only B2.out hgr B1.out.size B2.out.size)
  have HR := Lib.hid hrun
  have HS := Lib.hid hst
  clear hrun hst hgr
  go_wp2_with (at_builtin; refine wpList_append_run rfl _ _ _ _ rfl rfl rfl HR.out ?_)
  refine (sum_any A' ([p].length + n) c' w3 ([p] ++ ls) HS.out (fun l hl => by
    rcases List.mem_append.1 hl with h | h
    · simp at h; subst h; rw [hpl.out]; omega
    · exact HL.out l h) (by simp; omega) (HK.out.below hg B3.out) (Nat.lt_of_lt_of_le hg B3.out.size)).mono ?_
  rintro e w4 ⟨rfl, b4⟩
  obtain ⟨S, hS⟩ : ∃ S, Hid (S = sha (padL k 54 ++ ls.flatten)) := ⟨_, rfl⟩
  have hSl := Lib.hid (show S.length = 32 by rw [hS.out]; exact sha_length _)
  rw [show sha ([p] ++ ls).flatten = S by rw [hS.out, hp.out]; simp]
  have B4 := Lib.hid (B3.out.trans (b4.mono B3.out.size))
  clear b4
  go_wp2_with fail
  refine (padded_any k 92 w4 hkl (HK.out.below hg B4.out) (Nat.lt_of_lt_of_le hg B4.out.size)).mono ?_
  rintro e w5 ⟨rfl, b5⟩
  rw [← hq.out]
  have B5 := Lib.hid (B4.out.trans (b5.mono B4.out.size))
  clear b5
  go_wp2_with fail
  have B6 := Lib.hid (B5.out.alloc B5.out.size (.cells #[.string ⟨q.toArray⟩, .string ⟨S.toArray⟩] 9))
  refine (sum_any _ 2 2 _ [q, S] (strs_two w5 9 q S) (by intro l hl; simp at hl; have h1 := hql.out; have h2 := hSl.out; rcases hl with rfl | rfl <;> omega) (by decide) (HK.out.below hg B6.out) (Nat.lt_of_lt_of_le hg B6.out.size)).mono ?_
  rintro e w7 ⟨rfl, b7⟩
  have B7 := Lib.hid (B6.out.trans (b7.mono B6.out.size))
  clear b7
  go_wp2_with fail
  go_ret
  refine ⟨?_, B7.out⟩
  rw [tagL, ← hS.out, ← hq.out]
  simp
end Go.Proofs.YtmaomfebhbpjmaaDoor

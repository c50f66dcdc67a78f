/- Laws of layer 3: HashPieces, with the reference's Bind and Short. -/
import Derived.Test.YtjkppikpgiageaaDoorL03e
import Derived.Test.YtjkppikpgiageaaDoorStrsT
namespace Go.Proofs.YtjkppikpgiageaaDoor
open Go.RowKit
set_option linter.unusedSimpArgs false
set_option linter.unusedVariables false
set_option maxHeartbeats 1000000 in
set_option maxRecDepth 100000 in
theorem refBind_any (A : Option Addr) (n c : Nat) (w : World) (ls : List (List UInt8)) (h : Strs w A n ls) (hl : ls.flatten.length + n ≤ 1048576) :
    Calls Tryd.prog 19 #[.slice A n c] w fun e w' => e = .returned (.string ⟨(sha (boundLs ls).flatten).toArray⟩) ∧ Below w.heap.size w w' := by
  have H := Lib.hid h
  have HL := Lib.hid hl
  have hnb : n ≤ 1048576 := by omega
  clear h hl
  go_enter Tryd.func19, Tryd.ntmps19
  go_wp2_with fail
  go_loopw [3, 4] (fun v3 v4 wr => ∃ k : Nat, k ≤ n ∧ v4 = .int .i64 k ∧ Own 5 wr w.heap.size v3 (cb (sumTo (boundLs ls) k)) ∧ Below w.heap.size w wr) (fun _ v _ => n - (intOf v).toNat)
  case atStart => exact ⟨0, by omega, rfl, own_nil _ _ _, Below.refl _ _⟩
  case round =>
    obtain ⟨k, hkn, rfl, hB, hG⟩ := hrel
    have HB := Lib.hid hB
    have HG := Lib.hid hG
    clear hB hG
    by_cases hlt : k < n
    · obtain ⟨g, o, rfl, hgb, hcell⟩ := (H.out.below HG.out).2 (by omega)
      have c1 := hcell k hlt
      obtain ⟨x, hx⟩ : ∃ x, Hid (x = ls.getD k []) := ⟨_, rfl⟩
      rw [← hx.out] at c1
      have hlen : ls.length = n := H.out.1
      have hsucc := boundTo_succ ls k (by omega)
      rw [← hx.out] at hsucc
      have hle := boundTo_le ls (k + 1) (by omega)
      have hL := HL.out
      rw [hsucc, List.length_append, List.length_append, eightL_length] at hle
      have hxl : x.length ≤ 9437184 := by omega
      have hpre : (sumTo (boundLs ls) k).length ≤ 9437184 := by omega
      obtain ⟨pre, hp⟩ : ∃ pre, Hid (pre = sumTo (boundLs ls) k) := ⟨_, rfl⟩
      rw [← hp.out] at HB hsucc hpre
      have hsz : (⟨x.toArray⟩ : ByteArray).size = x.length := by simp [ByteArray.size]
      have HS := Lib.hid hsucc
      clear hcell hlen hsucc hle hL
      go_wp2_with fail
      refine (refEight_any x.length wr (by omega)).mono ?_
      rintro e w2 ⟨rfl, b2⟩
      have HB2 := Lib.hid (HB.out.below b2)
      have HG2 := Lib.hid (HG.out.trans (b2.mono HG.out.size))
      have c2 : w2.cell? ⟨g, o + k, none⟩ = some (.string ⟨x.toArray⟩) := (b2.cell (p := ⟨g, o + k, none⟩) hgb).trans c1
      clear b2 c1
      obtain ⟨E8, hE8⟩ : ∃ E8, Hid (E8 = eightL x.length) := ⟨_, rfl⟩
      have hE8l : E8.length = 8 := by rw [hE8.out]; exact eightL_length _
      rw [← hE8.out] at HS ⊢
      obtain ⟨A', c', w3, hrun, hown, hgr⟩ := own_append_str (ty := 30) elemU8 Tryd.underlying9 HB2.out E8 (by rw [cb_length]; omega) HG2.out.size
      have hG3 := HB2.out.below_grown HG2.out HG2.out.size hgr
      have c3 := (H.out.below hG3).at_ k hlt
      rw [← hx.out] at c3
      have HE8l := Lib.hid hE8l
      have HR := Lib.hid hrun
      have HG3 := Lib.hid hG3
      rw [← cb_append] at hown
      have HB3 := Lib.hid hown
      obtain ⟨A2, c2', w4, hrun2, hown2, hgr2⟩ := own_append_str (ty := 30) elemU8 Tryd.underlying9 HB3.out x (by rw [cb_length, List.length_append]; omega) HG3.out.size
      have hfin : Own 5 w4 w.heap.size (.slice A2 ((cb (pre ++ E8)).length + x.length) c2') (cb (sumTo (boundLs ls) (k + 1))) ∧ Below w.heap.size w w4 := by
        rw [HS.out, ← List.append_assoc, cb_append _ x]
        exact ⟨hown2, HB3.out.below_grown HG3.out HG3.out.size hgr2⟩
      have HF := Lib.hid hfin
      have HR2 := Lib.hid hrun2
      clear hrun hgr hown hG3 hrun2 hown2 hgr2 hfin hE8l
      go_wp2_with (first | (at_builtin; refine wpList_append_run rfl _ _ _ _ rfl rfl rfl HR.out ?_) | (at_builtin; refine wpList_append_run rfl _ _ _ _ rfl rfl rfl HR2.out ?_))
      exact ⟨⟨k + 1, by omega, by go_num, HF.out.1, HF.out.2⟩, by simp [intOf]; omega⟩
    · obtain rfl : k = n := by omega
      obtain ⟨bs, hbs⟩ : ∃ bs, Hid (bs = (boundLs ls).flatten) := ⟨_, rfl⟩
      have hlen : (boundLs ls).length = k := by rw [boundLs, List.length_map]; exact H.out.1
      have h2 : sumTo (boundLs ls) k = bs := by rw [hbs.out]; unfold sumTo; rw [← hlen, List.take_length]
      have hbl : bs.length ≤ 1073741824 := by
        have h1 := boundTo_le ls k (by rw [H.out.1]; exact Nat.le_refl _)
        rw [h2, H.out.1] at h1
        have := HL.out
        omega
      rw [h2] at HB
      have hcv := own_string Tryd.underlying30 Tryd.underlying5 Tryd.underlying9 HB.out
      clear h2 hlen
      go_wp2_with fail
      refine (digest_any bs hbl _).mono ?_
      rintro e w2 ⟨rfl, b2⟩
      have HG2 := Lib.hid (HG.out.trans (b2.mono HG.out.size))
      clear b2
      go_wp2_with fail
      go_ret
      exact ⟨by rw [hbs.out]; rfl, HG2.out⟩
set_option maxHeartbeats 800000 in
theorem refShort_bad (k : Int) (v : Value) (w : World) (h : k < 1 ∨ 32 < k) :
    Calls Tryd.prog 17 #[.int .i64 k, v] w fun e w' => e = .returned (.tuple #[.string ⟨#[]⟩, .int .i64 1]) ∧ w' = w := by
  by_cases h1 : k < 1
  · go_enter Tryd.func17, Tryd.ntmps17
    go_wp2_with fail
    go_ret2
    exact ⟨rfl, rfl⟩
  · have h2 : 32 < k := by omega
    go_enter Tryd.func17, Tryd.ntmps17
    go_wp2_with fail
    go_ret2
    exact ⟨rfl, rfl⟩
set_option maxHeartbeats 800000 in
theorem refShort_any (k : Int) (hk1 : 1 ≤ k) (hk2 : k ≤ 32) (A : Option Addr) (n c : Nat) (w : World) (ls : List (List UInt8)) (h : Strs w A n ls) (hlen : ls.flatten.length ≤ 1073741824) (hn : n ≤ 9223372036854775807) :
    Calls Tryd.prog 17 #[.int .i64 k, .slice A n c] w fun e w' => e = .returned (.tuple #[.string ⟨((sha ls.flatten).take k.toNat).toArray⟩, .int .i64 0]) ∧ Below w.heap.size w w' := by
  obtain ⟨m, rfl⟩ := Int.eq_ofNat_of_zero_le (show 0 ≤ k by omega)
  rw [Int.toNat_natCast]
  have H := Lib.hid h
  clear h
  go_enter Tryd.func17, Tryd.ntmps17
  go_wp2_with fail
  refine (refSum_any A n c w ls H.out hlen hn).mono ?_
  rintro e w1 ⟨rfl, b1⟩
  obtain ⟨R, hR⟩ : ∃ R, Hid (R = sha ls.flatten) := ⟨_, rfl⟩
  rw [← hR.out]
  have hRl : R.length = 32 := by rw [hR.out]; exact sha_length _
  have hsz : (⟨R.toArray⟩ : ByteArray).size = 32 := by simp [ByteArray.size, hRl]
  have HX := Lib.hid (extract_take R m)
  have B1 := Lib.hid b1
  clear b1
  go_wp2_with fail
  go_ret2
  refine ⟨?_, B1.out⟩
  rw [← hR.out]
  simp only [HX.out]
  rfl
set_option maxHeartbeats 2000000 in
set_option maxRecDepth 100000 in
theorem law_HashPieces (A : Option Addr) (n c : Nat) (ls : List (List UInt8)) (m : Int) (w : World) (h : Strs w A n ls) (hl : ls.flatten.length + n ≤ 1048576) (hk : KsAt w) (hg : 0 < w.heap.size) :
    Calls Tryd.prog 8 #[.slice A n c, .int .i64 m] w fun e w' => e = .returned (.bool true) ∧ Below w.heap.size w w' := by
  obtain ⟨A', c', w1, hrun, hs1, b1⟩ := own_copy_strs w A n c ls h (by omega)
  have HK := Lib.hid hk
  have H := Lib.hid h
  have HL := Lib.hid hl
  have HR := Lib.hid hrun
  have HS := Lib.hid hs1
  have B1 := Lib.hid b1
  have hnb : n ≤ 9223372036854775807 := by omega
  have HLE : ∀ l ∈ ls, l.length ≤ 140737488355328 := fun l hl => by have := mem_le_flatten hl; have := HL.out; omega
  have HLE := Lib.hid HLE
  clear hk h hl hrun hs1 b1
  go_enter Tryd.func8, Tryd.ntmps8
  go_wp2_with (at_builtin; refine wpList_append_run rfl _ _ _ _ rfl rfl rfl HR.out ?_)
  by_cases hm : m < 1 ∨ 32 < m
  · refine (short_bad m _ _ hm).mono ?_
    rintro e w2 ⟨rfl, rfl⟩
    go_wp2_with fail
    refine (refShort_bad m _ _ hm).mono ?_
    rintro e w2 ⟨rfl, rfl⟩
    go_wp2_with fail
    refine (sum_any A' n c' _ ls HS.out HLE.out hnb (HK.out.below hg B1.out) (Nat.lt_of_lt_of_le hg B1.out.size)).mono ?_
    rintro e w3 ⟨rfl, b3⟩
    have B3 := Lib.hid (B1.out.trans (b3.mono B1.out.size))
    have HS3 := Lib.hid (HS.out.below b3)
    obtain ⟨R, hR⟩ : ∃ R, Hid (R = sha ls.flatten) := ⟨_, rfl⟩
    rw [← hR.out]
    clear b3
    go_wp2_with fail
    refine (refSum_any A n c _ ls (H.out.below B3.out) (by have := HL.out; omega) hnb).mono ?_
    rintro e w4 ⟨rfl, b4⟩
    have B4 := Lib.hid (B3.out.trans (b4.mono B3.out.size))
    have HS4 := Lib.hid (HS3.out.below b4)
    rw [← hR.out]
    clear b4
    go_wp2_with fail
    refine (bind_any A' n c' _ ls HS4.out HLE.out hnb (HK.out.below hg B4.out) (Nat.lt_of_lt_of_le hg B4.out.size)).mono ?_
    rintro e w5 ⟨rfl, b5⟩
    have B5 := Lib.hid (B4.out.trans (b5.mono B4.out.size))
    obtain ⟨U, hU⟩ : ∃ U, Hid (U = sha (boundLs ls).flatten) := ⟨_, rfl⟩
    rw [← hU.out]
    clear b5
    go_wp2_with fail
    refine (refBind_any A n c _ ls (H.out.below B5.out) HL.out).mono ?_
    rintro e w6 ⟨rfl, b6⟩
    have B6 := Lib.hid (B5.out.trans (b6.mono B5.out.size))
    rw [← hU.out]
    clear b6
    go_wp2_with fail
    refine (works_any _ (HK.out.below hg B6.out) (Nat.lt_of_lt_of_le hg B6.out.size)).mono ?_
    rintro e w7 ⟨rfl, b7⟩
    have B7 := Lib.hid (B6.out.trans (b7.mono B6.out.size))
    clear b7
    go_wp2_with fail
    go_ret
    exact ⟨rfl, B7.out⟩
  · refine (short_any m (by omega) (by omega) A' n c' _ ls HS.out HLE.out hnb (HK.out.below hg B1.out) (Nat.lt_of_lt_of_le hg B1.out.size)).mono ?_
    rintro e w2 ⟨rfl, b2⟩
    obtain ⟨Y, hY⟩ : ∃ Y, Hid (Y = (sha ls.flatten).take m.toNat) := ⟨_, rfl⟩
    rw [← hY.out]
    have B2 := Lib.hid (B1.out.trans (b2.mono B1.out.size))
    have HS2 := Lib.hid (HS.out.below b2)
    clear b2
    go_wp2_with fail
    refine (refShort_any m (by omega) (by omega) A n c _ ls (H.out.below B2.out) (by have := HL.out; omega) hnb).mono ?_
    rintro e w22 ⟨rfl, b22⟩
    rw [← hY.out]
    have B22 := Lib.hid (B2.out.trans (b22.mono B2.out.size))
    have HS22 := Lib.hid (HS2.out.below b22)
    clear b22
    go_wp2_with fail
    refine (sum_any A' n c' _ ls HS22.out HLE.out hnb (HK.out.below hg B22.out) (Nat.lt_of_lt_of_le hg B22.out.size)).mono ?_
    rintro e w3 ⟨rfl, b3⟩
    have B3 := Lib.hid (B22.out.trans (b3.mono B22.out.size))
    have HS3 := Lib.hid (HS22.out.below b3)
    obtain ⟨R, hR⟩ : ∃ R, Hid (R = sha ls.flatten) := ⟨_, rfl⟩
    rw [← hR.out]
    clear b3
    go_wp2_with fail
    refine (refSum_any A n c _ ls (H.out.below B3.out) (by have := HL.out; omega) hnb).mono ?_
    rintro e w4 ⟨rfl, b4⟩
    have B4 := Lib.hid (B3.out.trans (b4.mono B3.out.size))
    have HS4 := Lib.hid (HS3.out.below b4)
    rw [← hR.out]
    clear b4
    go_wp2_with fail
    refine (bind_any A' n c' _ ls HS4.out HLE.out hnb (HK.out.below hg B4.out) (Nat.lt_of_lt_of_le hg B4.out.size)).mono ?_
    rintro e w5 ⟨rfl, b5⟩
    have B5 := Lib.hid (B4.out.trans (b5.mono B4.out.size))
    obtain ⟨U, hU⟩ : ∃ U, Hid (U = sha (boundLs ls).flatten) := ⟨_, rfl⟩
    rw [← hU.out]
    clear b5
    go_wp2_with fail
    refine (refBind_any A n c _ ls (H.out.below B5.out) HL.out).mono ?_
    rintro e w6 ⟨rfl, b6⟩
    have B6 := Lib.hid (B5.out.trans (b6.mono B5.out.size))
    rw [← hU.out]
    clear b6
    go_wp2_with fail
    refine (works_any _ (HK.out.below hg B6.out) (Nat.lt_of_lt_of_le hg B6.out.size)).mono ?_
    rintro e w7 ⟨rfl, b7⟩
    have B7 := Lib.hid (B6.out.trans (b7.mono B6.out.size))
    clear b7
    go_wp2_with fail
    go_ret
    exact ⟨rfl, B7.out⟩
end Go.Proofs.YtjkppikpgiageaaDoor

/- The walks of package hash's hasher.take, begin, eight. -/
import Derived.Test.YtlogcgeinbefjaaDoorHashN
namespace Go.Proofs.YtlogcgeinbefjaaDoor
open Go.RowKit
set_option linter.unusedSimpArgs false
set_option linter.unusedVariables false
set_option maxRecDepth 100000

theorem hc_splice {s : St} (h : s.okL) (t : BitVec 64) (n m : Nat) (hn : n + m ≤ 64) (l : List UInt8) (hl : l.length = m) :
    ((hc s t).toList.take (8 + n) ++ cb l ++ (hc s t).toList.drop (8 + n + m)).toArray = hc ⟨s.v, s.r.take n ++ l ++ s.r.drop (n + m), s.n⟩ t := by
  have h1 := h.1; have h2 := h.2
  have e1 : (cw s.v).length = 8 := by simp [cw, h1]
  have e2 : (cb s.r).length = 64 := by simp [cb, h2]
  simp only [hc, List.append_assoc]
  congr 1
  rw [List.take_append, List.take_of_length_le (by omega), List.append_assoc, List.drop_append, List.drop_eq_nil_of_le (by omega), e1]
  rw [List.take_append_of_le_length (by omega), show 8 + n + m - 8 = n + m from by omega, show 8 + n - 8 = n from by omega, List.drop_append_of_le_length (by omega)]
  simp [cb, List.map_take, List.map_drop]

def strLen : Value → Nat | .string s => s.size | _ => 0

set_option maxHeartbeats 1600000 in
set_option maxRecDepth 100000 in
theorem take_any (b : Nat) (w : World) (s : St) (t : BitVec 64) (l : List UInt8) (hs : s.ok) (hl : l.length ≤ 140737488355328) (hb : Blk w b 122 (hc s t)) (hk : KsAt w) (hg : 1 < b) :
    Calls Tryd.prog 47 #[.pointer (some ⟨b, 0, none⟩), .string ⟨l.toArray⟩] w fun e w' => e = .returned (.tuple #[]) ∧
      Blk w' b 122 (hc (pushes s l) (t + BitVec.ofNat 64 l.length)) ∧ w.grownBy w' (some b) := by
  have c1 := (hb.cell 73).trans (hc_t hs.l t)
  have f1 := hb.frozen 73
  have hsz : (⟨l.toArray⟩ : ByteArray).size = l.length := by simp [ByteArray.size]
  have ht : IntKind.u64.wrap ((t.toNat : Int) + (l.length : Int)) = ((t + BitVec.ofNat 64 l.length).toNat : Int) := by
    rw [wrap_u64e, BitVec.toNat_add, BitVec.toNat_ofNat]; omega
  obtain ⟨W1, hW1⟩ : ∃ W, Hid (W = w.setCell ⟨b, 73, none⟩ (.int .u64 ((t + BitVec.ofNat 64 l.length).toNat : Int))) := ⟨_, rfl⟩
  have hB1 : Blk W1 b 122 (hc s (t + BitVec.ofNat 64 l.length)) ∧ w.grownBy W1 (some b) := by
    have := hb.set_ 73 (.int .u64 ((t + BitVec.ofNat 64 l.length).toNat : Int))
    rw [hc_set_t hs.l] at this
    rw [hW1.out]
    exact ⟨this, only_set (only_refl _ _) (.inl rfl) _⟩
  have HB1 := Lib.hid hB1
  have HT := Lib.hid ht
  have HK := Lib.hid hk
  obtain ⟨u, hu⟩ : ∃ u, Hid (u = t + BitVec.ofNat 64 l.length) := ⟨_, rfl⟩
  rw [← hu.out] at HT HB1 hW1
  rw [← hu.out]
  clear hb hk hB1 ht
  go_enter Tryd.func47, Tryd.ntmps47
  go_wp2_with fail
  rw [HT.out, ← hW1.out]
  go_loopw [1] (fun v wr => ∃ l1 l2, l = l1 ++ l2 ∧ v = .string ⟨l2.toArray⟩ ∧ Blk wr b 122 (hc (pushes s l1) u) ∧ w.grownBy wr (some b)) (fun v _ => strLen v)
  case atStart => exact ⟨[], l, rfl, rfl, HB1.out.1, HB1.out.2⟩
  case round =>
    obtain ⟨l1, l2, hl12, rfl, hB, hG⟩ := hrel
    have HL := Lib.hid hl12
    clear hl12
    have hok := pushes_ok hs l1
    obtain ⟨s1, hs1⟩ : ∃ s1, Hid (s1 = pushes s l1) := ⟨_, rfl⟩
    rw [← hs1.out] at hok hB
    by_cases hne : l2 = []
    · subst hne
      have he : l = l1 := by rw [HL.out, List.append_nil]
      have HF := Lib.hid (show Blk wr b 122 (hc (pushes s l) u) ∧ w.grownBy wr (some b) by rw [he, ← hs1.out]; exact ⟨hB, hG⟩)
      clear hB hG he
      go_wp2_with fail
      go_end0
      exact ⟨rfl, HF.out⟩
    · have hl2 : 0 < l2.length := List.length_pos_iff.2 hne
      have c1 := (hB.cell 72).trans (hc_n hok.l u)
      have f1 := hB.frozen 72
      have he : l2.isEmpty = false := by simpa using hne
      have hn64 : ¬ (64 = s1.n) := by have := hok.2.2; omega
      obtain ⟨m, hm⟩ : ∃ m, Hid (m = Nat.min l2.length (64 - s1.n)) := ⟨_, rfl⟩
      have hmm : m = min l2.length (64 - s1.n) := hm.out
      have hm0 : 0 < m := by have := hok.2.2; omega
      have hm1 : m ≤ l2.length := by omega
      have hm2 : s1.n + m ≤ 64 := by have := hok.2.2; omega
      have hm3 : s1.n + m = 64 ∨ l2.drop m = [] := by
        rcases Nat.lt_or_ge m l2.length with h | h
        · left; have := hok.2.2; omega
        · right; exact List.drop_eq_nil_of_le h
      have hlen : (l2.take m).length = m := by simp; omega
      obtain ⟨r2, hr2⟩ : ∃ r2, Hid (r2 = s1.r.take s1.n ++ l2.take m ++ s1.r.drop (s1.n + m)) := ⟨_, rfl⟩
      obtain ⟨W2, hW2⟩ : ∃ W2, Hid (W2 = wr.drew.setRow b ((hc s1 u).toList.take (8 + s1.n) ++ cb (l2.take m) ++ (hc s1 u).toList.drop (8 + s1.n + m)).toArray) := ⟨_, rfl⟩
      have hcp : (Builtin.copy_ #[42, 9] 3 #[.slice (some ⟨b, 8 + s1.n, none⟩) (64 - s1.n) (64 - s1.n), .string ⟨l2.toArray⟩]).run Tryd.prog wr.drew = .ok (.int .i64 (m : Int)) W2 := by
        rw [hW2.out]
        exact run_copy_str wr.drew _ _ _ 5 b (8 + s1.n) _ _ l2 _ _ m Tryd.underlying42 (by kernel_rfl) hB.drew hm.out (by rw [hc_size hok.l]; omega)
      have hB2 : Blk W2 b 122 (hc ⟨s1.v, r2, s1.n⟩ u) ∧ w.grownBy W2 (some b) := by
        rw [hW2.out, hr2.out]
        refine ⟨?_, only_setRow (only_drew hG) _⟩
        rw [← hc_splice hok.l u s1.n m hm2 (l2.take m) hlen]
        exact hB.drew.setRow _
      have hok2 : St.okL ⟨s1.v, r2, s1.n⟩ := ⟨hok.1, by rw [hr2.out]; have := hok.2.1; simp; omega⟩
      obtain ⟨W3, hW3⟩ : ∃ W3, Hid (W3 = W2.setCell ⟨b, 72, none⟩ (.int .i64 ((s1.n : Int) + (m : Int)))) := ⟨_, rfl⟩
      have hB3 : Blk W3 b 122 (hc ⟨s1.v, r2, s1.n + m⟩ u) ∧ w.grownBy W3 (some b) := by
        have := hB2.1.set_ 72 (.int .i64 (((s1.n + m : Nat)) : Int))
        rw [hc_set_n hok2] at this
        rw [hW3.out]
        rw [Int.natCast_add] at this
        exact ⟨this, only_set hB2.2 (.inl rfl) _⟩
      have c2 := (hB2.1.cell 72).trans (hc_n hok2 u)
      have f2 := hB2.1.frozen 72
      have hpt := pushes_part s1 hok (l2.take m) (by rw [hlen]; exact hm2)
      rw [hlen, ← hr2.out] at hpt
      have HPT := Lib.hid hpt
      have hx : (⟨l2.toArray⟩ : ByteArray).extract m l2.length = ⟨(l2.drop m).toArray⟩ := extract_eq l2 m
      have HX := Lib.hid hx
      have HB3 := Lib.hid hB3
      have HM3 := Lib.hid hm3
      have hdl : (l2.drop m).length < l2.length := by rw [List.length_drop]; omega
      have HDL := Lib.hid hdl
      have hm4 : (m : Int) ≤ (l2.length : Int) := by omega
      have HKW := Lib.hid (show KsAt W3 from fun i hi => hB3.2.cell (HK.out i hi) (by simp; omega))
      have hl' : l = (l1 ++ l2.take m) ++ l2.drop m := by rw [HL.out, List.append_assoc, List.take_append_drop]
      have HL' := Lib.hid hl'
      have hp' : pushes s (l1 ++ l2.take m) = pushes s1 (l2.take m) := by rw [pushes_append, ← hs1.out]
      have HP' := Lib.hid hp'
      have HR2 := Lib.hid hok2.2
      clear hB hG hB2 hpt hx hmm hm3 hB3 hm1 hdl hl' hp' hlen
      have e3 : 0 ≤ (s1.n : Int) ∧ (s1.n : Int) ≤ 64 := ⟨by omega, by omega⟩
      by_cases hf : s1.n + m = 64
      · have hfull : ((s1.n : Int) + (m : Int) == 64) = true := by simp; omega
        have HF := Lib.hid hf
        clear hf
        go_wp2_with fail
        refine still_tail 9 (by kernel_rfl) (by kernel_rfl) ?_
        simp only [List.take_succ_cons, List.take_zero, List.drop_succ_cons, List.drop_zero]
        repeat still_step
        refine wpStill_nil ?_
        go_wp2_with fail
        rw [← hW3.out]
        refine (mix_any b W3 ⟨s1.v, r2, s1.n + m⟩ u hok.1 HR2.out HB3.out.1 HKW.out hg).mono ?_
        rintro e w4 ⟨rfl, h4, g4⟩
        have hfin : Blk w4 b 122 (hc (pushes s (l1 ++ l2.take m)) u) ∧ w.grownBy w4 (some b) := by
          rw [HP'.out, HPT.out, if_pos HF.out]
          exact ⟨h4, only_trans HB3.out.2 g4⟩
        have HFI := Lib.hid hfin
        clear hfin h4 g4
        go_wp2_with fail
        rw [HX.out]
        exact ⟨⟨_, _, HL'.out, rfl, HFI.out.1, HFI.out.2⟩, by simpa [strLen, ByteArray.size] using HDL.out⟩
      · have hfull : ((s1.n : Int) + (m : Int) == 64) = false := by simp; omega
        have hd0 : l2.drop m = [] := HM3.out.resolve_left hf
        have hfin : Blk W3 b 122 (hc (pushes s (l1 ++ l2.take m)) u) ∧ w.grownBy W3 (some b) := by
          rw [HP'.out, HPT.out, if_neg hf]
          exact HB3.out
        have HFI := Lib.hid hfin
        clear hfin hf hd0
        go_wp2_with fail
        refine still_tail 9 (by kernel_rfl) (by kernel_rfl) ?_
        simp only [List.take_succ_cons, List.take_zero, List.drop_succ_cons, List.drop_zero]
        repeat still_step
        refine wpStill_nil ?_
        go_wp2_with fail
        rw [HX.out, ← hW3.out]
        exact ⟨⟨_, _, HL'.out, rfl, HFI.out.1, HFI.out.2⟩, by simpa [strLen, ByteArray.size] using HDL.out⟩
end Go.Proofs.YtlogcgeinbefjaaDoor

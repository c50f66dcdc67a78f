/- Laws of layer 3: the walk of HashCuts. -/
import Derived.Test.YtjkppikpgiageaaDoorHashW
import Derived.Test.YtjkppikpgiageaaDoorRef03
namespace Go.Proofs.YtjkppikpgiageaaDoor
open Go.RowKit
set_option linter.unusedSimpArgs false
set_option linter.unusedVariables false
theorem elemStr : Elem Tryd.prog 27 9 (.string ⟨#[]⟩) 16 := ⟨Tryd.underlying27, by kernel_rfl, rfl⟩
theorem Own.strs {w : World} {B : Nat} {A : Option Addr} {n c : Nat} {ls : List (List UInt8)} (h : Own 9 w B (.slice A n c) (cstr ls)) : Strs w A n ls := by
  obtain ⟨A', c', hv⟩ := h.form
  injection hv with h1 h2 h3
  refine ⟨by rw [h2, cstr_length], fun hn => ?_⟩
  obtain ⟨g, hA, hB, hg⟩ := h.at_ (by omega)
  subst hA
  refine ⟨g, 0, rfl, hg, fun i hi => ?_⟩
  rw [Nat.zero_add, h.cell i (by omega), cstr_get _ _ (by rw [← cstr_length, ← h2]; exact hi)]

set_option maxHeartbeats 2000000 in
set_option maxRecDepth 100000 in
theorem law_HashCuts (a : List UInt8) (A : Option Addr) (n c : Nat) (zs : List Int) (w : World) (ha : a.length ≤ 140737488351232) (hz : Ints w A n zs) (hk : KsAt w) (hg : 0 < w.heap.size) :
    Calls Tryd.prog 5 #[.string ⟨a.toArray⟩, .slice A n c] w fun e w' => e = .returned (.bool true) ∧ Below w.heap.size w w' := by
  have HK := Lib.hid hk
  have HZ := Lib.hid hz
  clear hk hz
  have hsz : (⟨a.toArray⟩ : ByteArray).size = a.length := by simp [ByteArray.size]
  go_enter Tryd.func5, Tryd.ntmps5
  go_wp2_with fail
  refine (works_any w HK.out hg).mono ?_
  rintro e w1 ⟨rfl, b1⟩
  have B1 := Lib.hid b1
  clear b1
  go_wp2_with fail
  go_loopw [5, 6, 7] (fun v5 v6 v7 wr => ∃ (k p : Nat) (ls : List (List UInt8)), k ≤ 20 ∧ v7 = .int .i64 k ∧ p ≤ a.length ∧ v6 = .int .i64 p ∧ Own 9 wr w.heap.size v5 (cstr ls) ∧ ls.length = 2 * k ∧ ls.flatten = a.take p ∧ (∀ l ∈ ls, l.length ≤ a.length) ∧ Below w.heap.size w wr) (fun _ _ v _ => 20 - (intOf v).toNat)
  case atStart => exact ⟨0, 0, [], by omega, rfl, by omega, rfl, own_nil _ _ _, rfl, by simp, by simp, B1.out⟩
  case round =>
    obtain ⟨k, p, ls, hk, rfl, hp, rfl, hO, hll, hfl, hle, hG⟩ := hrel
    have HO := Lib.hid hO
    have HG := Lib.hid hG
    have HLL := Lib.hid hll
    have HFL := Lib.hid hfl
    have HLE := Lib.hid hle
    clear hO hG hll hfl hle
    by_cases hlt : k < n ∧ k < 20
    · obtain ⟨h1, h2⟩ := hlt
      obtain ⟨g, o, rfl, hgb, hcell⟩ := (HZ.out.below HG.out).2 (by omega)
      have c1 := hcell k h1
      obtain ⟨z, hz⟩ : ∃ z, Hid (z = zs.getD k 0) := ⟨_, rfl⟩
      rw [← hz.out] at c1
      obtain ⟨m, hm, e1⟩ : ∃ m : Nat, p + m ≤ a.length ∧ (IntKind.u64.wrap z).tmod ((a.length : Int) - (p : Int) + 1) = (m : Int) := by
        have h1 : 0 ≤ IntKind.u64.wrap z := by rw [wrap_u64e]; omega
        rw [Int.tmod_eq_emod_of_nonneg h1]
        have h2 : 0 ≤ IntKind.u64.wrap z % ((a.length : Int) - (p : Int) + 1) := Int.emod_nonneg _ (by omega)
        have h3 : IntKind.u64.wrap z % ((a.length : Int) - (p : Int) + 1) < (a.length : Int) - (p : Int) + 1 := Int.emod_lt_of_pos _ (by omega)
        exact ⟨(IntKind.u64.wrap z % ((a.length : Int) - (p : Int) + 1)).toNat, by omega, by omega⟩
      obtain ⟨x, hx⟩ : ∃ x, Hid (x = (a.drop p).take m) := ⟨_, rfl⟩
      obtain ⟨q, hq⟩ : ∃ q : Nat, q = p + m := ⟨_, rfl⟩
      have e3 : Hid ((p : Int) + (m : Int) = (q : Int)) := Lib.hid (by omega)
      have e2 : (⟨a.toArray⟩ : ByteArray).extract p q = ⟨x.toArray⟩ := by rw [hq, extract_mid, hx.out, Nat.add_sub_cancel_left]
      have hll := HLL.out
      obtain ⟨A', c', w', hrun, hown, hgr⟩ := own_append (ty := 27) elemStr (HO.out.alloc (.cells #[.string ⟨x.toArray⟩, .string ⟨#[]⟩] 9)) wr.heap.size 2 2 [.string ⟨x.toArray⟩, .string ⟨#[]⟩] rfl (fun j u h => new_cells wr _ _ j u h) (by intro u hu; simp at hu; rcases hu with rfl | rfl <;> rfl) (by rw [cstr_length]; omega) (by rw [cstr_length]; omega) (by have := HG.out.size; simp; omega)
      have hfin : Own 9 w' w.heap.size (.slice A' ((cstr ls).length + 2) c') (cstr (ls ++ [x, []])) ∧ (ls ++ [x, []]).length = 2 * (k + 1) ∧ (ls ++ [x, []]).flatten = a.take q ∧ (∀ l ∈ ls ++ [x, []], l.length ≤ a.length) ∧ Below w.heap.size w w' := by
        refine ⟨by rw [cstr_append]; exact hown, by simp; omega, ?_, ?_, (HO.out.alloc _).below_grown (HG.out.alloc HG.out.size _) (by have := HG.out.size; simp; omega) hgr⟩
        · rw [List.flatten_append, HFL.out, hx.out, hq, List.take_add]; simp
        · intro l hl
          rcases List.mem_append.1 hl with h | h
          · exact HLE.out l h
          · simp only [List.mem_cons, List.not_mem_nil, or_false] at h
            rcases h with rfl | rfl
            · rw [hx.out, List.length_take, List.length_drop]; omega
            · simp
      have HF := Lib.hid hfin
      have HR := Lib.hid hrun
      have hpi : (p : Int) ≤ (q : Int) := by omega
      have hqi : (q : Int) ≤ (a.length : Int) := by omega
      have hpq : p ≤ q := by omega
      have hql : q ≤ a.length := by omega
      have hpm : (p : Int) + (m : Int) ≤ (a.length : Int) := by omega
      have hbi : (a.length : Int) ≤ 140737488351232 := by omega
      have HQ := Lib.hid hq
      clear hll hown hgr hfin hrun hcell hq
      go_wp2_with fail
      simp only [e3.out]
      rw [run_slice_string _ _ _ _ _ _ _ (by kernel_rfl) (by omega) (by omega) (by omega)]
      simp only [Int.toNat_natCast, e2]
      go_wp2_with (at_builtin; refine wpList_append_run rfl _ _ _ _ rfl rfl rfl HR.out ?_)
      have hq := HQ.out
      exact ⟨⟨k + 1, q, ls ++ [x, []], by omega, by go_num, by omega, by go_num, HF.out.1, HF.out.2.1, HF.out.2.2.1, HF.out.2.2.2.1, HF.out.2.2.2.2⟩, by simp [intOf]; omega⟩
    · have hx0 : (⟨a.toArray⟩ : ByteArray).extract p a.length = ⟨(a.drop p).toArray⟩ := extract_eq a p
      obtain ⟨x, hx⟩ : ∃ x, Hid (x = a.drop p) := ⟨_, rfl⟩
      rw [← hx.out] at hx0
      have hll := HLL.out
      obtain ⟨A', c', w', hrun, hown, hgr⟩ := own_append (ty := 27) elemStr (HO.out.alloc (.cells #[.string ⟨x.toArray⟩] 9)) wr.heap.size 1 1 [.string ⟨x.toArray⟩] rfl (fun j u h => new_cells wr _ _ j u h) (by intro u hu; simp at hu; subst hu; rfl) (by rw [cstr_length]; omega) (by rw [cstr_length]; omega) (by have := HG.out.size; simp; omega)
      have hg1 := (HO.out.alloc _).below_grown (HG.out.alloc HG.out.size _) (by have := HG.out.size; simp; omega) hgr
      have hst : Strs w' A' ((cstr ls).length + 1) (ls ++ [x]) := by
        have : cstr ls ++ [.string ⟨x.toArray⟩] = cstr (ls ++ [x]) := by rw [cstr_append]; rfl
        rw [this] at hown
        exact hown.strs
      have hfl2 : (ls ++ [x]).flatten = a := by rw [List.flatten_append, HFL.out, hx.out]; simp
      have hle2 : ∀ l ∈ ls ++ [x], l.length ≤ 140737488355328 := by
        intro l hl
        rcases List.mem_append.1 hl with h | h
        · have := HLE.out l h; omega
        · simp only [List.mem_singleton] at h
          subst h
          rw [hx.out, List.length_drop]; omega
      obtain ⟨R, hR⟩ : ∃ R, Hid (R = sha a) := ⟨_, rfl⟩
      have D1 := sum_any A' ((cstr ls).length + 1) c' w' (ls ++ [x]) hst hle2 (by rw [cstr_length]; omega) (HK.out.below hg hg1) (Nat.lt_of_lt_of_le hg hg1.size)
      rw [hfl2, ← hR.out] at D1
      have HD := Lib.hid D1
      have HR := Lib.hid hrun
      have HG1 := Lib.hid hg1
      have hbi : (a.length : Int) ≤ 140737488351232 := by omega
      have hpi : (p : Int) ≤ (a.length : Int) := by omega
      clear hll hown hgr hrun hg1 hst hfl2 hle2 D1
      by_cases h1 : k < n
      all_goals
        (try (have h2 : ¬ (k < 20) := by omega))
        go_wp2_with (at_builtin; refine wpList_append_run rfl _ _ _ _ rfl rfl rfl HR.out ?_)
        refine HD.out.mono ?_
        rintro e w3 ⟨rfl, b3⟩
        have B3 := Lib.hid (HG1.out.trans (b3.mono HG1.out.size))
        clear b3
        go_wp2_with fail
        have B4 := Lib.hid (B3.out.alloc B3.out.size (.cells #[.string ⟨a.toArray⟩] 9))
        refine (sum_any _ 1 1 _ [a] (strs_one w3 9 a) (by intro l hl; simp at hl; subst hl; omega) (by decide) (HK.out.below hg B4.out) (Nat.lt_of_lt_of_le hg B4.out.size)).mono ?_
        rintro e w5 ⟨rfl, b5⟩
        rw [show sha ([a] : List (List UInt8)).flatten = R by rw [hR.out]; simp]
        have B5 := Lib.hid (B4.out.trans (b5.mono B4.out.size))
        clear b5
        go_wp2_with fail
        go_ret
        exact ⟨rfl, B5.out⟩
end Go.Proofs.YtjkppikpgiageaaDoor

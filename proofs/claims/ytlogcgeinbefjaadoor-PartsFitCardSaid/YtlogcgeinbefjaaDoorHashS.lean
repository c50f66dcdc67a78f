/- The walks of package hash's Sum, Bind, Short. -/
import Derived.Test.YtlogcgeinbefjaaDoorHashE
namespace Go.Proofs.YtlogcgeinbefjaaDoor
open Go.RowKit
set_option linter.unusedSimpArgs false
set_option linter.unusedVariables false
set_option maxRecDepth 100000

/-- a slice of texts. -/
def Strs (w : World) (A : Option Addr) (n : Nat) (ls : List (List UInt8)) : Prop :=
  ls.length = n ∧ (0 < n → ∃ g o, A = some ⟨g, o, none⟩ ∧ g < w.heap.size ∧ ∀ i, i < n → w.cell? ⟨g, o + i, none⟩ = some (.string ⟨(ls.getD i []).toArray⟩))
theorem Strs.below {w w' : World} {A : Option Addr} {n : Nat} {ls : List (List UInt8)} (h : Strs w A n ls) (hb : Below w.heap.size w w') : Strs w' A n ls :=
  ⟨h.1, fun hn => by
    obtain ⟨g, o, e, hg, hc⟩ := h.2 hn
    exact ⟨g, o, e, Nat.lt_of_lt_of_le hg hb.size, fun i hi => (hb.cell (p := ⟨g, o + i, none⟩) hg).trans (hc i hi)⟩⟩
theorem Strs.draw {w : World} {A : Option Addr} {n : Nat} {ls : List (List UInt8)} (h : Strs w A n ls) (k : Nat) : Strs (w.drewN k) A n ls := h

def sumTo (ls : List (List UInt8)) (k : Nat) : List UInt8 := (ls.take k).flatten
theorem sumTo_succ (ls : List (List UInt8)) (k : Nat) (h : k < ls.length) : sumTo ls (k + 1) = sumTo ls k ++ ls.getD k [] := by
  unfold sumTo
  rw [List.take_succ_eq_append_getElem h, List.flatten_append]
  simp [List.getElem?_eq_getElem h]
theorem ofNat_add64 (a b : Nat) : BitVec.ofNat 64 a + BitVec.ofNat 64 b = BitVec.ofNat 64 (a + b) := by
  rw [BitVec.ofNat_add]
theorem finish_mod (s : St) (n : Nat) : finish s (BitVec.ofNat 64 n).toNat = finish s n := by
  unfold finish
  rw [BitVec.toNat_ofNat, show n % 2 ^ 64 * 8 % 18446744073709551616 = n * 8 % 18446744073709551616 from by omega]
def boundL (l : List UInt8) : List UInt8 := eightL l.length ++ l
def boundLs (ls : List (List UInt8)) : List (List UInt8) := ls.map boundL
theorem boundLs_getD (ls : List (List UInt8)) (k : Nat) (h : k < ls.length) : (boundLs ls).getD k [] = boundL (ls.getD k []) := by
  simp [boundLs, List.getElem?_eq_getElem h]

set_option maxHeartbeats 1600000 in
set_option maxRecDepth 100000 in
theorem sum_any (A : Option Addr) (n c : Nat) (w : World) (ls : List (List UInt8)) (h : Strs w A n ls) (hlen : ∀ l ∈ ls, l.length ≤ 140737488355328) (hn : n ≤ 9223372036854775807) (hk : KsAt w) (hg : 1 < w.heap.size) :
    Calls Tryd.prog 40 #[.slice A n c] w fun e w' => e = .returned (.string ⟨(sha ls.flatten).toArray⟩) ∧ Below w.heap.size w w' := by
  have H := Lib.hid h
  have HL := Lib.hid hlen
  have HK := Lib.hid hk
  clear h hlen hk
  go_enter Tryd.func40, Tryd.ntmps40
  go_wp2_with fail
  refine (begin_any w).mono ?_
  rintro e w1 ⟨rfl, hw1⟩
  have h1 := Lib.hid (show Blk w1 w.heap.size 122 (hc (pushes st0 (sumTo ls 0)) (BitVec.ofNat 64 (sumTo ls 0).length)) by rw [hw1]; exact Blk.new _ _ _)
  have b1 := Lib.hid (show Below w.heap.size w w1 by rw [hw1]; exact (Below.refl _ _).alloc (Nat.le_refl _) _)
  clear hw1
  go_wp2_with fail
  go_loopw [9] (fun v wr => ∃ k : Nat, k ≤ n ∧ v = .int .i64 k ∧ Blk wr w.heap.size 122 (hc (pushes st0 (sumTo ls k)) (BitVec.ofNat 64 (sumTo ls k).length)) ∧ Below w.heap.size w wr) (fun v _ => n - (intOf v).toNat)
  case atStart => exact ⟨0, by omega, rfl, h1.out, b1.out⟩
  case round =>
    obtain ⟨k, hk, rfl, hB, hG⟩ := hrel
    have HKW := Lib.hid (show KsAt wr from fun i hi => (hG.cell (p := ⟨1, i, none⟩) hg).trans (HK.out i hi))
    by_cases hlt : k < n
    · obtain ⟨g, o, rfl, hgb, hcell⟩ := (H.out.below hG).2 (by omega)
      have c1 := hcell k hlt
      have hll : (ls.getD k []).length ≤ 140737488355328 := by
        have : k < ls.length := by rw [H.out.1]; exact hlt
        rw [List.getD_eq_getElem?_getD, List.getElem?_eq_getElem this]
        exact HL.out _ (List.getElem_mem this)
      have HLL := Lib.hid hll
      have hsu := sumTo_succ ls k (by rw [H.out.1]; exact hlt)
      have HSU := Lib.hid hsu
      obtain ⟨lk, hlk⟩ : ∃ lk, Hid (lk = ls.getD k []) := ⟨_, rfl⟩
      rw [← hlk.out] at c1 HLL HSU
      have HB := Lib.hid hB
      have HG := Lib.hid hG
      clear hcell hll hsu hB hG
      go_wp2_with fail
      refine (take_any w.heap.size _ _ _ lk (pushes_ok st0_ok _) HLL.out HB.out HKW.out hg).mono ?_
      rintro e w2 ⟨rfl, h2, g2⟩
      rw [← pushes_append, ← HSU.out, ofNat_add64, ← List.length_append, ← HSU.out] at h2
      have H2 := Lib.hid h2
      have G2 := Lib.hid (below_of_only HG.out g2 (Nat.le_refl _) HG.out.size)
      clear h2 g2
      go_wp2_with fail
      exact ⟨⟨k + 1, by omega, by go_num, H2.out, G2.out⟩, by simp [intOf]; omega⟩
    · obtain rfl : k = n := by omega
      have hfl : sumTo ls k = ls.flatten := by unfold sumTo; rw [← H.out.1, List.take_length]
      rw [hfl] at hB
      have HB := Lib.hid hB
      have HG := Lib.hid hG
      clear hB hG hfl
      go_wp2_with fail
      refine (end_any w.heap.size _ _ _ (pushes_ok st0_ok _) HB.out HKW.out hg).mono ?_
      rintro e w2 ⟨rfl, g2⟩
      obtain ⟨R, hR⟩ : ∃ R, Hid (R = sha ls.flatten) := ⟨_, rfl⟩
      rw [finish_mod, show finish (pushes st0 ls.flatten) ls.flatten.length = R from hR.out.symm]
      have G2 := Lib.hid (below_of_only HG.out g2 (Nat.le_refl _) HG.out.size)
      clear g2
      go_wp2_with fail
      go_ret
      refine ⟨?_, G2.out⟩
      rw [hR.out]
      rfl

theorem sha_take (l : List UInt8) (n : Nat) (hn : n ≤ 32) : (⟨(sha l).toArray⟩ : ByteArray).size = 32 := by simp [ByteArray.size, sha_length]
theorem extract_take (l : List UInt8) (m : Nat) : (⟨l.toArray⟩ : ByteArray).extract 0 m = ⟨(l.take m).toArray⟩ := by
  apply ByteArray.ext
  rw [ByteArray.data_extract]
  simp
end Go.Proofs.YtlogcgeinbefjaaDoor

/- The walk of package hash's hasher.end. -/
import Derived.Test.YtlogcgeinbefjaaDoorHashU
import Derived.Deep.LoopGhost
namespace Go.Proofs.YtlogcgeinbefjaaDoor
open Go.RowKit
set_option linter.unusedSimpArgs false
set_option linter.unusedVariables false
set_option maxRecDepth 100000

theorem push_n {s : St} (h : s.ok) (b : UInt8) : (push s b).n = (s.n + 1) % 64 := by
  have := h.2.2
  unfold push
  split
  · show 0 = _; omega
  · show s.n + 1 = _; omega
theorem pushes_count (l : List UInt8) : ∀ {s : St}, s.ok → (pushes s l).n = (s.n + l.length) % 64 := by
  induction l with
  | nil => intro s h; have := h.2.2; show s.n = (s.n + 0) % 64; omega
  | cons b l ih =>
    intro s h
    show (pushes (push s b) l).n = _
    rw [ih (push_ok h b), push_n h]
    simp only [List.length_cons]
    omega
def outAt (v : List (BitVec 32)) (i : Nat) : UInt8 := w8 (wd v (i / 4) >>> (24 - i % 4 * 8))
def outTo (v : List (BitVec 32)) : Nat → List UInt8
  | 0 => List.replicate 32 0
  | k + 1 => (outTo v k).set k (outAt v k)
theorem outTo_length (v : List (BitVec 32)) (k : Nat) : (outTo v k).length = 32 := by
  induction k with
  | zero => rfl
  | succ k ih => simp [outTo, ih]
theorem outTo_32 (v : List (BitVec 32)) (h : v.length = 8) : outTo v 32 = outL v := by
  match v, h with
  | [a, b, c, d, e, f, g, k], _ => simp [outTo, outL, outAt, wordL, wd, List.replicate]
theorem v32_shrz (x : BitVec 32) (k : Nat) (hk : k ≤ 32) : n32 x / 2 ^ k = n32 (x >>> k) := by
  rw [← v32_shr_nat, Int.natCast_pow]; rfl

set_option maxHeartbeats 1600000 in
set_option maxRecDepth 100000 in
theorem end_any (b : Nat) (w : World) (s : St) (t : BitVec 64) (hs : s.ok) (hb : Blk w b 122 (hc s t)) (hk : KsAt w) (hg : 1 < b) :
    Calls Tryd.prog 48 #[.pointer (some ⟨b, 0, none⟩)] w fun e w' => e = .returned (.string ⟨(finish s t.toNat).toArray⟩) ∧ w.grownBy w' (some b) := by
  have c1 := (hb.cell 73).trans (hc_t hs.l t)
  have ht : IntKind.u64.wrap ((t.toNat : Int) * 8) = ((t.toNat * 8 % 18446744073709551616 : Nat) : Int) := by
    rw [wrap_u64e]; omega
  obtain ⟨q8, hq8⟩ : ∃ q, Hid (q = t.toNat * 8 % 18446744073709551616) := ⟨_, rfl⟩
  have hq9 : q8 < 18446744073709551616 := by rw [hq8.out]; omega
  rw [← hq8.out] at ht
  have HT := Lib.hid ht
  have HB := Lib.hid hb
  have HK := Lib.hid hk
  clear hb hk ht
  have HS1 := Lib.hid (push_ok hs 128)
  obtain ⟨s1, hs1⟩ : ∃ s1, Hid (s1 = push s 128) := ⟨_, rfl⟩
  rw [← hs1.out] at HS1
  obtain ⟨z, hz⟩ : ∃ z, Hid (z = (120 - s1.n) % 64) := ⟨_, rfl⟩
  go_enter Tryd.func48, Tryd.ntmps48
  go_wp2_with fail
  rw [HT.out]
  refine (take_any b _ s t [128] hs (by decide) HB.out HK.out hg).mono ?_
  rintro e w1 ⟨rfl, h1, g1⟩
  have H1 := Lib.hid (show Blk w1 b 122 (hc (pushes s1 (List.replicate 0 0)) (t + BitVec.ofNat 64 1)) by rw [hs1.out]; exact h1)
  have G1 := Lib.hid g1
  clear h1 g1
  go_wp2_with fail
  go_loopg [] z (fun q wr => q ≤ z ∧ (∃ tj, Blk wr b 122 (hc (pushes s1 (List.replicate (z - q) 0)) tj)) ∧ w.grownBy wr (some b))
  case atStart => exact ⟨Nat.le_refl _, ⟨_, by rw [Nat.sub_self]; exact H1.out⟩, G1.out⟩
  case round =>
    obtain ⟨hq, ⟨tj, hB⟩, hG⟩ := hrel
    have hok := pushes_ok HS1.out (List.replicate (z - gk) 0)
    have hcnt := pushes_count (List.replicate (z - gk) 0) HS1.out
    rw [List.length_replicate] at hcnt
    have hz' := hz.out
    have hsn := HS1.out.2.2
    have c2 := (hB.cell 72).trans (hc_n hok.l tj)
    rw [hcnt] at c2
    have HKW := Lib.hid (show KsAt wr from fun i hi => hG.cell (HK.out i hi) (by simp; omega))
    cases gk with
    | zero =>
      have he : (((s1.n + (z - 0)) % 64 : Nat) : Int) = 56 := by omega
      rw [he] at c2
      have hp : pushes s1 (List.replicate (z - 0) 0) = padZ s1 := by rw [Nat.sub_zero, hz.out]; rfl
      rw [hp] at hB hok
      have HB2 := Lib.hid hB
      have HG2 := Lib.hid hG
      have HOK := Lib.hid hok
      clear hB hG hcnt hz' hsn hp hok he hq
      go_wp2_with fail
      refine (eight_any q8 _ hq9).mono ?_
      rintro e w2 ⟨rfl, hb2⟩
      have H2 := Lib.hid hb2
      clear hb2
      go_wp2_with fail
      refine (take_any b _ (padZ s1) tj (eightL q8) HOK.out (by rw [eightL_length]; decide) (HB2.out.below H2.out HB2.out.lt) (fun i hi => (H2.out.cell (by have := HB2.out.lt; show 1 < _; omega)).trans (HKW.out i hi)) hg).mono ?_
      rintro e w3 ⟨rfl, hb3, hg3⟩
      obtain ⟨s3, hs3⟩ : ∃ s3, Hid (s3 = pushes (padZ s1) (eightL q8)) := ⟨_, rfl⟩
      have HV := Lib.hid (pushes_ok HOK.out (eightL q8)).l
      rw [← hs3.out] at hb3 HV
      have HB3 := Lib.hid hb3
      have HG3 := Lib.hid (only_trans (only_of_below HG2.out H2.out) hg3)
      have hfi : (finish s t.toNat) = outL s3.v := by
        rw [hs3.out, hq8.out, hs1.out]; rfl
      have HFI := Lib.hid hfi
      clear hb3 hg3 hfi c2
      go_wp2_with fail
      go_loopw [24] (fun v wr => ∃ k : Nat, k ≤ 32 ∧ v = .int .i64 k ∧ Blk wr w3.heap.size 124 (cb (outTo s3.v k)).toArray ∧ Below w3.heap.size w3 wr) (fun v _ => 32 - (intOf v).toNat)
      case atStart => exact ⟨0, by omega, rfl, Blk.new _ _ _, (Below.refl _ _).alloc (Nat.le_refl _) _⟩
      case round =>
        obtain ⟨k, hk, rfl, hB4, hG4⟩ := hrel
        by_cases hlt : k < 32
        · have d1 := ((HB3.out.below hG4 HB3.out.lt).cell (k / 4)).trans (hc_v HV.out _ (k / 4) (by omega))
          have d2 := (hB4.cell k).trans (cb_get (outTo s3.v k) k (by rw [outTo_length]; omega))
          have f2 := hB4.frozen k
          have hsh := v32_shrz (wd s3.v (k / 4)) (24 - k % 4 * 8) (by omega)
          have hfin : Blk (wr.setCell ⟨w3.heap.size, k, none⟩ (.int .u8 (n8 (outAt s3.v k)))) w3.heap.size 124 (cb (outTo s3.v (k + 1))).toArray ∧
              Below w3.heap.size w3 (wr.setCell ⟨w3.heap.size, k, none⟩ (.int .u8 (n8 (outAt s3.v k)))) := by
            have := hB4.set_ k (.int .u8 (n8 (outAt s3.v k)))
            rw [cb_set] at this
            exact ⟨this, hG4.setCell (Nat.le_refl _) _⟩
          have HF := Lib.hid hfin
          have HSH := Lib.hid hsh
          clear hfin hB4 hG4 hsh
          have e2 : 0 ≤ 24 - (k : Int) % 4 * 8 := by omega
          have e3 : 0 ≤ (k : Int) ∧ (k : Int) < 32 := by omega
          have e4 : 0 ≤ (k : Int) / 4 ∧ (k : Int) / 4 < 8 := by omega
          go_wp2_with fail
          rw [HSH.out, w8_n8]
          exact ⟨⟨k + 1, by omega, by go_num, HF.out⟩, by simp [intOf]; omega⟩
        · obtain rfl : k = 32 := by omega
          have hcv := run_bytes_cells (P := Tryd.prog) wr 42 9 5 Tryd.underlying42 Tryd.underlying5 Tryd.underlying9 w3.heap.size 0 32 (outTo s3.v 32) 32 (outTo_length _ _) (fun i hi => by
            rw [Nat.zero_add]; exact (hB4.cell i).trans (cb_get _ i (by rw [outTo_length]; omega)))
          rw [outTo_32 _ HV.out.1, ← HFI.out] at hcv
          have HG5 := Lib.hid (only_of_below HG3.out hG4)
          clear hB4 hG4
          go_wp2_with fail
          go_ret
          exact ⟨rfl, HG5.out⟩
    | succ k1 =>
      have he : ((((s1.n + (z - (k1 + 1))) % 64 : Nat) : Int) == 56) = false := by simp; omega
      have he2 : ((((s1.n + (z - (k1 + 1))) % 64 : Nat) : Int) != 56) = true := by simp; omega
      have hp : pushes s1 (List.replicate (z - k1) 0) = pushes (pushes s1 (List.replicate (z - (k1 + 1)) 0)) [0] := by
        rw [← pushes_append, show z - k1 = (z - (k1 + 1)) + 1 from by omega, List.replicate_succ']
      have HP := Lib.hid hp
      have HB2 := Lib.hid hB
      have HG2 := Lib.hid hG
      have HOK := Lib.hid hok
      obtain ⟨n1, hn1⟩ : ∃ n1, Hid (n1 = (s1.n + (z - (k1 + 1))) % 64) := ⟨_, rfl⟩
      rw [← hn1.out] at c2 he he2
      clear hB hG hcnt hz' hsn hp hok
      go_wp2_with fail
      refine (take_any b _ _ tj [0] HOK.out (by decide) HB2.out HKW.out hg).mono ?_
      rintro e w2 ⟨rfl, h2, g2⟩
      rw [← HP.out] at h2
      have H2 := Lib.hid h2
      have G2 := Lib.hid (only_trans HG2.out g2)
      clear h2 g2
      go_wp2_with fail
      go_roundg k1
      case measure => omega
      case rel => exact ⟨by omega, ⟨_, H2.out⟩, G2.out⟩
end Go.Proofs.YtlogcgeinbefjaaDoor

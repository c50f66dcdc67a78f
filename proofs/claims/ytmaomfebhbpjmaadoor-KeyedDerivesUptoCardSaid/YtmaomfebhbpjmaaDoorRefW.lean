/- The walks of the reference's whole and Digest. -/
import Derived.Test.YtmaomfebhbpjmaaDoorRefX
import Derived.Test.YtmaomfebhbpjmaaDoorRefJ
import Derived.Test.YtmaomfebhbpjmaaDoorHashV
import Derived.Deep.RegionHeld3
namespace Go.Proofs.YtmaomfebhbpjmaaDoor
open Go.RowKit
set_option linter.unusedSimpArgs false
set_option linter.unusedVariables false
theorem eightL_drop (t i : Nat) (h : i < 8) : (eightL t).drop (7 - i) = UInt8.ofNat (t / 2 ^ (8 * i)) :: (eightL t).drop (8 - i) := by
  match i, h with
  | 0, _ => simp [eightL]
  | 1, _ => rfl
  | 2, _ => rfl
  | 3, _ => rfl
  | 4, _ => rfl
  | 5, _ => rfl
  | 6, _ => rfl
  | 7, _ => rfl
  | n + 8, h => exact absurd h (by omega)
/-- what stands behind a text, so much of it written. -/
def endAt (p t i : Nat) : List UInt8 := 128 :: (List.replicate (p + 8 - i) 0 ++ (eightL t).drop (8 - i))
theorem endAt_set (p t i : Nat) (h : i < 8) : (endAt p t i).set (p + 8 - i) (UInt8.ofNat (t / 2 ^ (8 * i))) = endAt p t (i + 1) := by
  unfold endAt
  rw [show p + 8 - i = (p + 7 - i) + 1 by omega, List.set_cons_succ, List.replicate_succ', List.append_assoc, List.set_append_right _ _ (by simp)]
  simp only [List.length_replicate, Nat.sub_self, List.cons_append, List.nil_append, List.set_cons_zero]
  rw [show p + 8 - (i + 1) = p + 7 - i by omega, show 8 - (i + 1) = 7 - i by omega, eightL_drop t i h]
theorem endAt_length (p t i : Nat) (h : i ≤ 8) : (endAt p t i).length = p + 9 := by
  simp [endAt, eightL_length]
  omega
theorem cb_set' (l : List UInt8) (i : Nat) (x : UInt8) : (cb l).set i (.int .u8 (n8 x)) = cb (l.set i x) := by simp [cb, List.map_set]
set_option maxHeartbeats 1000000 in
set_option maxRecDepth 100000 in
theorem whole_any (l : List UInt8) (hl : l.length ≤ 1073741824) (w : World) :
    Calls Tryd.prog 31 #[.string ⟨l.toArray⟩] w fun e w' => e = .returned (.string ⟨(wholeL l).toArray⟩) ∧ Below w.heap.size w w' := by
  have hsz : (⟨l.toArray⟩ : ByteArray).size = l.length := by simp [ByteArray.size]
  obtain ⟨p, hp⟩ : ∃ p, Hid (p = padN l) := ⟨_, rfl⟩
  have hp64 : p < 64 := by rw [hp.out, padN]; omega
  obtain ⟨m, hm⟩ : ∃ m, Hid (m = p + 9) := ⟨_, rfl⟩
  obtain ⟨q, hq⟩ : ∃ q, Hid (q = l.length % 64) := ⟨_, rfl⟩
  have hq64 : q < 64 := by rw [hq.out]; omega
  have e1 : (l.length : Int).tmod 64 = (q : Int) := by rw [hq.out, Int.tmod_eq_emod_of_nonneg (by omega)]; omega
  have e2 : ((119 : Int) - (q : Int)).tmod 64 = (p : Int) := by rw [hp.out, padN, Int.tmod_eq_emod_of_nonneg (by omega), hq.out]; omega
  have e1' : (l.length : Int) % 64 = (q : Int) := by rw [hq.out]; omega
  have e2' : ((119 : Int) - (q : Int)) % 64 = (p : Int) := by rw [hp.out, padN, hq.out]; omega
  have e3 := Lib.hid (show (p : Int) + 9 = (m : Int) by rw [hm.out]; omega)
  obtain ⟨w1, hmk, hown, hgr⟩ := own_make (B := w.heap.size) (t := 30) elemU8 w .i64 .i64 m (by rw [hm.out]; omega) (by rw [hm.out]; omega) (Nat.le_refl _)
  go_enter Tryd.func31, Tryd.ntmps31
  go_wp2_with fail
  have hrep : (List.replicate m (Value.int IntKind.u8 0).cells[0]!) = cb (List.replicate m 0) := by
    have : (Value.int IntKind.u8 0).cells[0]! = .int .u8 (n8 0) := rfl
    rw [this]
    simp [cb, List.map_replicate]
  rw [hrep] at hown
  have c0 := (hown.cell 0 (by rw [cb_length, List.length_replicate, hm.out]; omega)).trans (show _ = some (.int .u8 0) by rw [hm.out]; rfl)
  have f0 := hown.frozen 0
  have hm0 : 0 < m := by rw [hm.out]; omega
  have hset := hown.set_ 0 (.int .u8 (n8 128))
  obtain ⟨T, hT⟩ : ∃ T, Hid (T = l.length * 8 % 18446744073709551616) := ⟨_, rfl⟩
  have hs0 : (cb (List.replicate m 0)).set 0 (.int .u8 (n8 128)) = cb (endAt p T 0) := by
    rw [cb_set', hm.out]
    simp [endAt, List.replicate_succ, eightL]
  rw [hs0] at hset
  have hbel : Below w.heap.size w (w1.setCell ⟨w.heap.size, 0, none⟩ (.int .u8 (n8 128))) := by
    refine below_of_only (w := w1) ⟨hgr.os, hgr.tape, hgr.output, hgr.size, fun i h => hgr.block i h (by simp)⟩ (only_set (only_refl _ (some w.heap.size)) (.inl rfl) _) (Nat.le_refl _) hgr.size
  have HS := Lib.hid hset
  have HB := Lib.hid hbel
  have hglt : w.heap.size < w1.heap.size := (hown.lt _ rfl).2
  clear hset hbel hown hrep hs0
  simp only [e3.out]
  rw [hmk]
  clear hmk
  go_wp2_with fail
  clear c0 f0 hm0 hgr
  go_loopw [5] (fun v5 wx => ∃ i : Nat, i ≤ 8 ∧ v5 = .int .i64 i ∧ Own 5 wx w.heap.size (.slice (some ⟨w.heap.size, 0, none⟩) m m) (cb (endAt p T i)) ∧ Below w.heap.size w wx) (fun v _ => 8 - (intOf v).toNat)
  case atStart => exact ⟨0, by omega, rfl, HS.out, HB.out⟩
  case round =>
    obtain ⟨i, hi, rfl, hB2, hG2⟩ := hrel
    have HB2 := Lib.hid hB2
    have HG2 := Lib.hid hG2
    clear hB2 hG2
    by_cases hlt : i < 8
    · have hm9 : m = p + 9 := hm.out
      have ej : ((p : Int) + 8 - (i : Int)).toNat = p + 8 - i := by omega
      have e5 : 0 ≤ (p : Int) + 8 - (i : Int) ∧ (p : Int) + 8 - (i : Int) < (m : Int) := by omega
      have e6 : 0 ≤ 8 * (i : Int) := by omega
      have e7 : 0 ≤ (i : Int) ∧ (i : Int) < 8 := by omega
      obtain ⟨y, hy⟩ : ∃ y, Hid (y = UInt8.ofNat (T / 2 ^ (8 * i))) := ⟨_, rfl⟩
      have hTl : T = l.length * 8 := by rw [hT.out]; omega
      have e8 : ((l.length : Int) * 8 / 2 ^ (8 * i)) % 256 = n8 y := by
        have := n8_shr T (8 * i)
        rw [← hy.out] at this
        rw [← this, hTl]
        push_cast
        rfl
      have c1 : wr.cell? ⟨w.heap.size, p + 8 - i, none⟩ = some (.int .u8 (n8 (bd (endAt p T i) (p + 8 - i)))) := by
        refine (HB2.out.cell (p + 8 - i) (by rw [cb_length, endAt_length _ _ _ hi]; omega)).trans ?_
        have := cb_get (endAt p T i) (p + 8 - i) (by rw [endAt_length _ _ _ hi]; omega)
        simpa using this
      have f1 : wr.frozen? ⟨w.heap.size, p + 8 - i, none⟩ = false := HB2.out.frozen _
      have hfin : Own 5 (wr.setCell ⟨w.heap.size, p + 8 - i, none⟩ (.int .u8 (n8 y))) w.heap.size (.slice (some ⟨w.heap.size, 0, none⟩) m m) (cb (endAt p T (i + 1))) ∧ Below w.heap.size w (wr.setCell ⟨w.heap.size, p + 8 - i, none⟩ (.int .u8 (n8 y))) := by
        have h1 := HB2.out.set_ (p + 8 - i) (.int .u8 (n8 y))
        rw [cb_set', hy.out, endAt_set p T i hlt, ← hy.out] at h1
        exact ⟨h1, below_of_only HG2.out (only_set (only_refl _ (some w.heap.size)) (.inl rfl) _) (Nat.le_refl _) HG2.out.size⟩
      have HF := Lib.hid hfin
      have EJ := Lib.hid ej
      clear hfin ej hm9 hTl
      go_wp2_with fail
      go_roundw
      case rel =>
        refine ⟨i + 1, by omega, by go_num, ?_⟩
        exact HF.out
      case measure => simp [intOf]; omega
    · obtain rfl : i = 8 := by omega
      have hcv := own_string Tryd.underlying30 Tryd.underlying5 Tryd.underlying9 HB2.out
      obtain ⟨x, hx⟩ : ∃ x, Hid (x = endAt p T 8) := ⟨_, rfl⟩
      rw [← hx.out] at hcv
      have hfw : l ++ x = wholeL l := by rw [hx.out, endAt, wholeL, ← hT.out, ← hp.out]; simp
      have HFW := Lib.hid hfw
      have hxl : x.length ≤ 80 := by rw [hx.out, endAt_length _ _ _ (Nat.le_refl _)]; omega
      have hsx : (⟨x.toArray⟩ : ByteArray).size = x.length := by simp [ByteArray.size]
      clear hfw
      go_wp2_with fail
      go_ret
      refine ⟨?_, HG2.out⟩
      rw [← HFW.out, ← cat_eq]
      rfl
end Go.Proofs.YtmaomfebhbpjmaaDoor

/- The walk of package hash's Hex. -/
import Derived.Test.YtomflcpebnebpaaBuild
namespace Go.Proofs.Ytomflcpebnebpaa
open Go.RowKit
set_option linter.unusedSimpArgs false
set_option linter.unusedVariables false

def digit (i : Nat) : UInt8 := ([48, 49, 50, 51, 52, 53, 54, 55, 56, 57, 97, 98, 99, 100, 101, 102] : List UInt8).getD i 0
def hexB (b : UInt8) : List UInt8 := [digit (b.toNat / 16), digit (b.toNat % 16)]
def hexL (l : List UInt8) : List UInt8 := l.flatMap hexB
theorem hexL_append (a b : List UInt8) : hexL (a ++ b) = hexL a ++ hexL b := by simp [hexL]
theorem hexL_length (l : List UInt8) : (hexL l).length = 2 * l.length := by
  induction l with
  | nil => rfl
  | cons b l ih =>
    show (hexB b ++ hexL l).length = _
    rw [List.length_append, ih]; simp [hexB]; omega
theorem digs_get : ∀ (j : Nat) (h : j < (⟨#[48, 49, 50, 51, 52, 53, 54, 55, 56, 57, 97, 98, 99, 100, 101, 102]⟩ : ByteArray).size), (⟨#[48, 49, 50, 51, 52, 53, 54, 55, 56, 57, 97, 98, 99, 100, 101, 102]⟩ : ByteArray)[j] = digit j := by
  decide
theorem and15_u8 (b : UInt8) : bits .and .u8 (b.toNat : Int) 15 = (b.toNat : Int) % 16 := by
  have := u8_and_nat b.toNat 15 b.toNat_lt (by decide)
  rw [show ((15 : Nat) : Int) = 15 from rfl] at this
  rw [this, show (15 : Nat) = 2 ^ 4 - 1 from rfl, Nat.and_two_pow_sub_one_eq_mod]
  omega
theorem byteCells_append (a b : List UInt8) : Lib.byteCells (a ++ b) = Lib.byteCells a ++ Lib.byteCells b := by simp [Lib.byteCells]

set_option maxHeartbeats 1000000 in
set_option maxRecDepth 100000 in
theorem hex_any (l : List UInt8) (w : World) (hl : 2 * l.length ≤ 140737488355328) :
    Calls Try.prog 22 #[.string ⟨l.toArray⟩] w fun e w' => e = .returned (.string ⟨(hexL l).toArray⟩) ∧ Below w.heap.size w w' := by
  have hsz : (⟨l.toArray⟩ : ByteArray).size = l.length := by simp [ByteArray.size]
  go_enter Try.func22, Try.ntmps22
  go_wp2_with fail
  go_loopw [7] (fun v wr => ∃ k : Nat, k ≤ l.length ∧ v = .int .i64 k ∧ Lib.IsBuilder 56 5 w.heap.size w.heap.size (Lib.byteCells (hexL (l.take k))) wr ∧ Below w.heap.size w wr) (fun v _ => l.length - (intOf v).toNat)
  case atStart => exact ⟨0, by omega, rfl, Lib.fresh_isBuilder _ _ _, (Below.refl _ _).alloc (Nat.le_refl _) _⟩
  case round =>
    obtain ⟨k, hk, rfl, hB, hG⟩ := hrel
    have HB := Lib.hid hB
    have HG := Lib.hid hG
    clear hB hG
    by_cases hlt : k < l.length
    · obtain ⟨b, hb⟩ : ∃ b, b = l[k] := ⟨_, rfl⟩
      have hbl : ∀ h, (⟨l.toArray⟩ : ByteArray)[k]'h = b := fun h => hb.symm
      have htk : hexL (l.take (k + 1)) = hexL (l.take k) ++ [digit (b.toNat / 16)] ++ [digit (b.toNat % 16)] := by
        rw [List.take_succ_eq_append_getElem hlt, hexL_append, ← hb]; simp [hexL, hexB]
      have HTK := Lib.hid htk
      have hlen1 : (Lib.byteCells (hexL (l.take k))).length + 2 ≤ 140737488355328 := by
        simp only [Lib.byteCells, List.length_map, hexL_length, List.length_take]; omega
      have e1 : 0 ≤ (b.toNat : Int) / 16 ∧ (b.toNat : Int) / 16 < 16 := by have := b.toNat_lt; omega
      have e2 : 0 ≤ (b.toNat : Int) % 16 ∧ (b.toNat : Int) % 16 < 16 := by omega
      have e3 := and15_u8 b
      have HD1 := Lib.hid (digs_get (b.toNat / 16) (by have := b.toNat_lt; show _ < 16; omega))
      have HD2 := Lib.hid (digs_get (b.toNat % 16) (by show _ < 16; omega))
      have HLN := Lib.hid hlen1
      clear htk hb hlen1
      go_wp2_with fail
      refine (writeByte_any w.heap.size w.heap.size _ _ _ HB.out (by have := HLN.out; omega) HG.out.size).mono ?_
      rintro e w1 ⟨rfl, h1, b1⟩
      rw [HD1.out] at h1
      have H1 := Lib.hid h1
      have G1 := Lib.hid (HG.out.trans b1)
      clear h1 b1
      go_wp2_with fail
      refine (writeByte_any w.heap.size w.heap.size _ _ _ H1.out (by have := HLN.out; rw [List.length_append, List.length_singleton]; omega) G1.out.size).mono ?_
      rintro e w2 ⟨rfl, h2, b2⟩
      rw [HD2.out] at h2
      have hh : Lib.byteCells (hexL (l.take (k + 1))) = Lib.byteCells (hexL (l.take k)) ++ [.int .u8 ((digit (b.toNat / 16)).toNat : Int)] ++ [.int .u8 ((digit (b.toNat % 16)).toNat : Int)] := by
        rw [HTK.out]; simp [Lib.byteCells]
      rw [← hh] at h2
      have H2 := Lib.hid h2
      have G2 := Lib.hid (G1.out.trans b2)
      clear h2 b2 hh
      go_wp2_with fail
      exact ⟨⟨k + 1, by omega, by go_num, H2.out, G2.out⟩, by simp [intOf]; omega⟩
    · obtain rfl : k = l.length := by omega
      have htk : hexL (l.take l.length) = hexL l := by rw [List.take_length]
      rw [htk] at HB
      clear htk
      go_wp2_with fail
      refine (builder_string w.heap.size w.heap.size _ _ HB.out HG.out.size).mono ?_
      rintro e w1 ⟨rfl, b1⟩
      have G1 := Lib.hid (HG.out.trans b1)
      clear b1
      go_wp2_with fail
      go_ret
      exact ⟨rfl, G1.out⟩
end Go.Proofs.Ytomflcpebnebpaa

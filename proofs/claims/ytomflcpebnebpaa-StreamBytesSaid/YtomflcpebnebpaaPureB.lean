/- Plain law: what the reference's Xor (as the print tells it) makes is the text, xor the stream; the law StreamXors. -/
import Derived.Test.YtomflcpebnebpaaPureA
import Derived.Test.YtomflcpebnebpaaPStrx4
namespace Go.Proofs.Ytomflcpebnebpaa.PStr
open Go.RowKit Go.Proofs.YtomflcpebnebpaaW.PrintWords Go.Proofs.YtomflcpebnebpaaW.PrintLast Go.Proofs.YtomflcpebnebpaaW.PrintMore
set_option linter.unusedSimpArgs false
set_option linter.unusedVariables false
theorem strL_take (key nonce : List UInt8) (ctr m n : Nat) (h : n ≤ m) : (strL key nonce ctr m).take n = strL key nonce ctr n := by
  apply list_ext_bd (by rw [List.length_take, strL_length, strL_length]; omega)
  intro i hi
  rw [List.length_take, strL_length] at hi
  rw [bd_take _ _ _ (by omega), strL_get _ _ _ _ _ (by omega), strL_get _ _ _ _ _ (by omega)]
theorem strL_64 (key nonce : List UInt8) (ctr i : Nat) : strL key nonce ctr (64 * (i + 1)) = strL key nonce ctr (64 * i) ++ chaB key nonce (BitVec.ofNat 32 (ctr + i)) := by
  rw [show 64 * (i + 1) = 64 * i + 64 by omega, ← List.take_append_drop (64 * i) (strL key nonce ctr (64 * i + 64)), strL_take _ _ _ _ _ (by omega), strL_drop, ← strL_block key nonce (ctr + i) 64 (by omega), List.take_of_length_le (by rw [strL_length]; omega)]
theorem bytesOf_n8 (l : List UInt8) : bytesOf ⟨l.toArray⟩ = l.map n8 := rfl
theorem size_mk (l : List UInt8) : (⟨l.toArray⟩ : ByteArray).size = l.length := by simp [ByteArray.size]
theorem stream_loop (a0 a1 : ByteArray) (u : BitVec 32) (n : Nat) (hn : n ≤ 65536) (h0 : a0.size = 32) (h1 : a1.size = 12) (d : Nat) : ∀ i, i + d = (n + 63) / 64 →
    Ev (fun k => dovecoteref05_Stream.l0 k a0 a1 (n32 u) n ((strL a0.data.toList a1.data.toList u.toNat (64 * i)).map n8) (i : Int)) ⟨(strL a0.data.toList a1.data.toList u.toNat n).toArray⟩ := by
  induction d with
  | zero =>
    intro i hi
    refine Ev.step (f := fun _ => some (⟨(strL a0.data.toList a1.data.toList u.toNat n).toArray⟩ : ByteArray)) (fun k => ?_) (Ev.now _)
    simp only [dovecoteref05_Stream.l0]
    rw [if_neg (by rw [List.length_map, strL_length]; omega), if_pos (by omega), if_pos (by rw [List.length_map, strL_length]; omega), Int.toNat_natCast, ← List.map_take, strL_take _ _ _ _ _ (by omega), strOfNums_n8]
  | succ d ih =>
    intro i hi
    have hu := u.isLt
    have hc : ((n32 u % 4294967296 + (i : Int) % 4294967296) % 4294967296) = n32 (BitVec.ofNat 32 (u.toNat + i)) := by
      unfold n32; rw [BitVec.toNat_ofNat]; omega
    refine Ev.step (f := fun k => (dovecoteref05_block.f k a0 a1 (n32 (BitVec.ofNat 32 (u.toNat + i)))).bind fun t173 => if ((strL a0.data.toList a1.data.toList u.toNat (64 * i)).map n8).length + t173.size < 140737488355328 then dovecoteref05_Stream.l0 k a0 a1 (n32 u) n ((strL a0.data.toList a1.data.toList u.toNat (64 * i)).map n8 ++ bytesOf t173) ((i + 1 : Nat) : Int) else none) (fun k => ?_) (Ev.bind (block_ev a0 a1 _ h0 h1) ?_)
    · simp only [dovecoteref05_Stream.l0]
      rw [if_pos (by rw [List.length_map, strL_length]; omega), hc, wrap64_id (n := (i : Int) + 1) (by omega) (by omega)]
      rfl
    · refine Ev.congr (fun k => ?_) (ih (i + 1) (by omega))
      rw [if_pos (by rw [List.length_map, strL_length, size_mk, chaB_length]; omega), bytesOf_n8, ← List.map_append, ← strL_64]
theorem Stream_ev (a0 a1 : ByteArray) (u : BitVec 32) (n : Nat) (hn : n ≤ 65536) (h0 : a0.size = 32) (h1 : a1.size = 12) : Ev (fun k => dovecoteref05_Stream.f k a0 a1 (n32 u) n) ⟨(strL a0.data.toList a1.data.toList u.toNat n).toArray⟩ :=
  stream_loop a0 a1 u n hn h0 h1 ((n + 63) / 64) 0 (by omega)
theorem with_loop (key nonce : List UInt8) (ctr : Nat) (t : ByteArray) (ht : t.size ≤ 65536) (d : Nat) : ∀ i, i + d = t.size →
    Ev (fun k => dovecoteref05_With.l0 k t ⟨(strL key nonce ctr t.size).toArray⟩ ((xorS key nonce ctr t.data.toList i).map n8) (i : Int)) ⟨(xorS key nonce ctr t.data.toList t.size).toArray⟩ := by
  induction d with
  | zero =>
    intro i hi
    obtain rfl : i = t.size := by omega
    refine Ev.step (f := fun _ => some (⟨(xorS key nonce ctr t.data.toList t.size).toArray⟩ : ByteArray)) (fun k => ?_) (Ev.now _)
    simp only [dovecoteref05_With.l0]
    rw [if_neg (by omega), strOfNums_n8]
  | succ d ih =>
    intro i hi
    refine Ev.step (fun k => ?_) (ih (i + 1) (by omega))
    simp only [dovecoteref05_With.l0]
    rw [if_pos (by omega), if_pos (by omega), if_pos (by rw [size_mk, strL_length]; omega), if_pos (by rw [List.length_map, xorS_length]; omega), bt_bd, bt_bd, n8_xor, Int.toNat_natCast, wrap64_id (n := (i : Int) + 1) (by omega) (by omega)]
    have e : (xorS key nonce ctr t.data.toList i).map n8 ++ [n8 (bd t.data.toList i ^^^ bd (strL key nonce ctr t.size) i)] = (xorS key nonce ctr t.data.toList (i + 1)).map n8 := by
      rw [strL_get _ _ _ _ _ (by omega), xorS, List.map_append]; rfl
    rw [show ((⟨(strL key nonce ctr t.size).toArray⟩ : ByteArray).data.toList) = strL key nonce ctr t.size from rfl, e]
    rfl
theorem With_ev (key nonce : List UInt8) (ctr : Nat) (t : ByteArray) (ht : t.size ≤ 65536) : Ev (fun k => dovecoteref05_With.f k t ⟨(strL key nonce ctr t.size).toArray⟩) ⟨(xorS key nonce ctr t.data.toList t.size).toArray⟩ :=
  with_loop key nonce ctr t ht t.size 0 (by omega)
theorem Xor_ev (a0 a1 : ByteArray) (c : Int) (t : ByteArray) : Ev (fun k => dovecoteref05_Xor.f k a0 a1 c t) (⟨(xorL a0.data.toList a1.data.toList c t.data.toList).toArray⟩, xorE a0.data.toList a1.data.toList c t.data.toList) := by
  unfold dovecoteref05_Xor.f
  refine Ev.bind (may_ev a0 a1 c) ?_
  have hl : t.data.toList.length = t.size := data_length t
  by_cases h : wrongN a0.data.toList.length a1.data.toList.length c = 0
  · obtain ⟨h0, h1, h2, h3⟩ := wrongN_ok h
    rw [data_length] at h0 h1
    by_cases ht : t.size ≤ 65536
    · refine Ev.congr (f := fun k => (dovecoteref05_Stream.f k a0 a1 (n32 (ctr32 c)) ((t.size : Nat) : Int)).bind fun t182 => (dovecoteref05_With.f k t t182).bind fun t183 => some (t183, 0)) (fun k => ?_) (Ev.bind (Stream_ev a0 a1 (ctr32 c) t.size ht h0 h1) (Ev.bind (With_ev _ _ _ t ht) ?_))
      · rw [if_pos h, if_neg (by omega), ← ctr32_n32 c h2 h3]
      · have e : (ctr32 c).toNat = c.toNat := by
          have := ctr32_n32 c h2 h3
          unfold n32 at this
          omega
        rw [xorL, xorE, if_pos h, if_pos h, if_pos (by omega), if_pos (by omega), hl, e]
        exact Ev.now _
    · refine Ev.congr (f := fun _ => some (⟨(xorL a0.data.toList a1.data.toList c t.data.toList).toArray⟩, xorE a0.data.toList a1.data.toList c t.data.toList)) (fun k => ?_) (Ev.now _)
      rw [if_pos h, if_pos (by omega), xorL, xorE, if_pos h, if_pos h, if_neg (by omega), if_neg (by omega)]
  · refine Ev.congr (f := fun _ => some (⟨(xorL a0.data.toList a1.data.toList c t.data.toList).toArray⟩, xorE a0.data.toList a1.data.toList c t.data.toList)) (fun k => ?_) (Ev.now _)
    rw [if_neg h, xorL, xorE, if_neg h, if_neg h]
theorem Xors_ev (a0 a1 : ByteArray) (c : Int) (t : ByteArray) (ht : t.size ≤ 140737488351232) : Ev (fun k => dovecotelaw05_StreamXors.f k a0 a1 c t) true := by
  unfold dovecotelaw05_StreamXors.f stream_Xor.f
  rw [if_pos ht]
  simp only [Option.bind_some]
  refine Ev.bind (Xor_ev a0 a1 c t) ?_
  refine Ev.congr (f := fun k => (dovecotelaw05_works.f k).bind fun t => some t) (fun k => ?_) (Ev.bind works_ev (Ev.now _))
  rw [if_pos rfl, if_pos rfl]
end Go.Proofs.Ytomflcpebnebpaa.PStr
namespace Go.Proofs.Ytomflcpebnebpaa
set_option linter.unusedVariables false
open Go.RowKit
theorem law_StreamXors (l0 l1 : List UInt8) (c : Int) (t : List UInt8) (W : World) (h0 : l0.length ≤ 140737488351232) (h1 : l1.length ≤ 140737488351232) (ht : t.length ≤ 140737488351232) :
    Calls Try.prog 4 #[.agg #[.string ⟨l0.toArray⟩, .string ⟨l1.toArray⟩], .int .i64 c, .string ⟨t.toArray⟩] W fun e W' => e = .returned (.bool true) ∧ Below W.heap.size W W' := by
  obtain ⟨k, hk⟩ := (PStr.Xors_ev ⟨l0.toArray⟩ ⟨l1.toArray⟩ c ⟨t.toArray⟩ (by rw [PStr.size_mk]; exact ht)).rounds
  exact PStr.dovecotelaw05_StreamXors.calls k ⟨l0.toArray⟩ ⟨l1.toArray⟩ c ⟨t.toArray⟩ true W hk
end Go.Proofs.Ytomflcpebnebpaa

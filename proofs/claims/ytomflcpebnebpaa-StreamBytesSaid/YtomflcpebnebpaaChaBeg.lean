/- The walk of stream.begin: the state of a key, a nonce and a counter. -/
import Derived.Test.YtomflcpebnebpaaChaQ
import Derived.Test.YtomflcpebnebpaaArr
namespace Go.Proofs.Ytomflcpebnebpaa
open Go.RowKit
set_option linter.unusedSimpArgs false
set_option linter.unusedVariables false
theorem leW_drop (l : List UInt8) (n : Nat) : leW (l.drop n) 0 = leW l n := by
  simp [leW, bd, List.getD, List.getElem?_drop]
/-- the state, so many words of the key and of the nonce being there. -/
def begK (key : List UInt8) (c : BitVec 32) (k : Nat) : List (BitVec 32) := chaC ++ (leWs key k ++ (List.replicate (8 - k) 0 ++ ([c] ++ List.replicate 3 0)))
def begN (key nonce : List UInt8) (c : BitVec 32) (k : Nat) : List (BitVec 32) := chaC ++ (leWs key 8 ++ ([c] ++ (leWs nonce k ++ List.replicate (3 - k) 0)))
theorem begK_length (key : List UInt8) (c : BitVec 32) (k : Nat) (h : k ≤ 8) : (begK key c k).length = 16 := by
  simp [begK, chaC, leWs_length]; omega
theorem begN_length (key nonce : List UInt8) (c : BitVec 32) (k : Nat) (h : k ≤ 3) : (begN key nonce c k).length = 16 := by
  simp [begN, chaC, leWs_length]; omega
theorem set_rep (a : List (BitVec 32)) (n : Nat) (r : List (BitVec 32)) (x : BitVec 32) (h : 0 < n) : (a ++ (List.replicate n 0 ++ r)).set a.length x = (a ++ [x]) ++ (List.replicate (n - 1) 0 ++ r) := by
  obtain ⟨m, rfl⟩ : ∃ m, n = m + 1 := ⟨n - 1, by omega⟩
  rw [List.set_append_right _ _ (Nat.le_refl _), Nat.sub_self, List.replicate_succ]
  simp
theorem begK_set (key : List UInt8) (c : BitVec 32) (k : Nat) (h : k < 8) : (begK key c k).set (4 + k) (leW key (4 * k)) = begK key c (k + 1) := by
  have := set_rep (chaC ++ leWs key k) (8 - k) ([c] ++ List.replicate 3 0) (leW key (4 * k)) (by omega)
  rw [List.length_append, leWs_length, show chaC.length = 4 from rfl] at this
  rw [begK, ← List.append_assoc, this, begK, leWs]
  simp [Nat.sub_sub]
theorem begN_set (key nonce : List UInt8) (c : BitVec 32) (k : Nat) (h : k < 3) : (begN key nonce c k).set (13 + k) (leW nonce (4 * k)) = begN key nonce c (k + 1) := by
  have := set_rep (chaC ++ leWs key 8 ++ [c] ++ leWs nonce k) (3 - k) [] (leW nonce (4 * k)) (by omega)
  simp only [List.length_append, leWs_length, show chaC.length = 4 from rfl, List.length_singleton, List.append_nil] at this
  rw [begN, begN, show leWs nonce (k + 1) = leWs nonce k ++ [leW nonce (4 * k)] from rfl]
  simp only [List.append_assoc] at this ⊢
  rw [show 13 + k = 4 + 8 + 1 + k from by omega, this, Nat.sub_sub]
theorem begK_8 (key nonce : List UInt8) (c : BitVec 32) : begK key c 8 = begN key nonce c 0 := rfl
theorem begN_3 (key nonce : List UInt8) (c : BitVec 32) : begN key nonce c 3 = chaS key nonce c := by
  simp [begN, chaS, List.append_assoc]
theorem Blk.new2 (w : World) (o : Obj) (t : TypeId) (cs : Array Value) : Blk ((w.alloc o).alloc (.cells cs t)) (w.heap.size + 1) t cs := by
  have := Blk.new (w.alloc o) t cs
  simpa using this
theorem oneCells (l : List (BitVec 32)) : (wc l).all (·.oneCell') = true := by
  rw [Array.all_eq_true_iff_forall_mem]
  intro v hv
  simp only [wc, cw, List.mem_toArray, List.mem_map] at hv
  obtain ⟨x, _, rfl⟩ := hv
  rfl
set_option maxHeartbeats 1600000 in
set_option maxRecDepth 100000 in
theorem begin_any (key nonce : List UInt8) (c : BitVec 32) (w : World) (hk : key.length = 32) (hn : nonce.length = 12) :
    Calls Try.prog 18 #[.string ⟨key.toArray⟩, .string ⟨nonce.toArray⟩, .int .u32 (n32 c)] w fun e w' => e = .returned (.agg (wc (chaS key nonce c))) ∧ Below w.heap.size w w' := by
  have hsk : (⟨key.toArray⟩ : ByteArray).size = 32 := by simp [ByteArray.size, hk]
  have hsn : (⟨nonce.toArray⟩ : ByteArray).size = 12 := by simp [ByteArray.size, hn]
  have HLK := Lib.hid hk
  have HLN := Lib.hid hn
  clear hk hn
  go_enter Try.func18, Try.ntmps18
  go_wp2_with fail
  go_loopw [12] (fun v wr => ∃ k : Nat, k ≤ 8 ∧ v = .int .i64 k ∧ Blk wr (w.heap.size + 1) 41 (wc (begK key c k)) ∧ Blk wr w.heap.size 41 (wc (List.replicate 16 0)) ∧ Below w.heap.size w wr) (fun v _ => 8 - (intOf v).toNat)
  case atStart => exact ⟨0, by omega, rfl, Blk.new2 _ _ _ _, (Blk.new _ _ _).alloc _, ((Below.refl w.heap.size w).alloc (Nat.le_refl _) _).alloc (by simp) _⟩
  case round =>
    obtain ⟨k, hk, rfl, hB, hZ, hG⟩ := hrel
    by_cases hlt : k < 8
    · have hx : (⟨key.toArray⟩ : ByteArray).extract (4 * k) 32 = ⟨(key.drop (4 * k)).toArray⟩ := by rw [← HLK.out]; exact extract_eq key (4 * k)
      have HX := Lib.hid hx
      have HB := Lib.hid hB
      have HZ := Lib.hid hZ
      have HG := Lib.hid hG
      clear hB hZ hG hx
      go_wp2_with fail
      rw [HX.out]
      refine (word_any (key.drop (4 * k)) _ (by rw [List.length_drop, HLK.out]; omega)).mono ?_
      rintro e w1 ⟨rfl, hb⟩
      rw [leW_drop]
      have hB1 := HB.out.below hb HB.out.lt
      have hG1 := HG.out.trans (hb.mono HG.out.size)
      have c1 := (hB1.cell (4 + k)).trans (wc_get _ _ (by rw [begK_length key c k hk]; omega))
      have f1 := hB1.frozen (4 + k)
      have HZ1 := Lib.hid (HZ.out.below hb HZ.out.lt)
      have HB1 := Lib.hid (show Blk (w1.setCell ⟨w.heap.size + 1, 4 + k, none⟩ (.int .u32 (n32 (leW key (4 * k))))) (w.heap.size + 1) 41 (wc (begK key c (k + 1))) by
        have := hB1.set_ (4 + k) (.int .u32 (n32 (leW key (4 * k))))
        rwa [wc_set, begK_set key c k hlt] at this)
      have HG1 := Lib.hid hG1
      have e3 : 0 ≤ 4 + (k : Int) ∧ 4 + (k : Int) < 16 := by omega
      clear hB1 hb hG1
      go_wp2_with fail
      go_roundw
      case rel => exact ⟨k + 1, by omega, by go_num, HB1.out, HZ1.out.far (by simp) _, HG1.out.setCell (by simp) _⟩
      case measure => simp [intOf]; omega
    · obtain rfl : k = 8 := by omega
      rw [show ((8 : Nat) : Int) = 8 from rfl]
      rw [begK_8 key nonce c] at hB
      have HB := Lib.hid hB
      have HZ := Lib.hid hZ
      have HG := Lib.hid hG
      clear hB hZ hG
      go_wp2_with fail
      go_loopw [24] (fun v wr => ∃ k : Nat, k ≤ 3 ∧ v = .int .i64 k ∧ Blk wr (w.heap.size + 1) 41 (wc (begN key nonce c k)) ∧ Blk wr w.heap.size 41 (wc (List.replicate 16 0)) ∧ Below w.heap.size w wr) (fun v _ => 3 - (intOf v).toNat)
      case atStart => exact ⟨0, by omega, rfl, HB.out, HZ.out, HG.out⟩
      case round =>
        obtain ⟨k, hk, rfl, hB, hZ, hG⟩ := hrel
        clear HB HZ HG
        by_cases hlt : k < 3
        · have hx : (⟨nonce.toArray⟩ : ByteArray).extract (4 * k) 12 = ⟨(nonce.drop (4 * k)).toArray⟩ := by rw [← HLN.out]; exact extract_eq nonce (4 * k)
          have HX := Lib.hid hx
          have HB := Lib.hid hB
          have HZ := Lib.hid hZ
          have HG := Lib.hid hG
          clear hB hZ hG hx
          go_wp2_with fail
          rw [HX.out]
          refine (word_any (nonce.drop (4 * k)) _ (by rw [List.length_drop, HLN.out]; omega)).mono ?_
          rintro e w1 ⟨rfl, hb⟩
          rw [leW_drop]
          have hB1 := HB.out.below hb HB.out.lt
          have hG1 := HG.out.trans (hb.mono HG.out.size)
          have c1 := (hB1.cell (13 + k)).trans (wc_get _ _ (by rw [begN_length key nonce c k hk]; omega))
          have f1 := hB1.frozen (13 + k)
          have HZ1 := Lib.hid (HZ.out.below hb HZ.out.lt)
          have HB1 := Lib.hid (show Blk (w1.setCell ⟨w.heap.size + 1, 13 + k, none⟩ (.int .u32 (n32 (leW nonce (4 * k))))) (w.heap.size + 1) 41 (wc (begN key nonce c (k + 1))) by
            have := hB1.set_ (13 + k) (.int .u32 (n32 (leW nonce (4 * k))))
            rwa [wc_set, begN_set key nonce c k hlt] at this)
          have HG1 := Lib.hid hG1
          have e3 : 0 ≤ 13 + (k : Int) ∧ 13 + (k : Int) < 16 := by omega
          clear hB1 hb hG1
          go_wp2_with fail
          go_roundw
          case rel => exact ⟨k + 1, by omega, by go_num, HB1.out, HZ1.out.far (by simp) _, HG1.out.setCell (by simp) _⟩
          case measure => simp [intOf]; omega
        · obtain rfl : k = 3 := by omega
          rw [begN_3] at hB
          have HB := Lib.hid hB
          have HZ := Lib.hid hZ
          have HG := Lib.hid hG
          have HS := Lib.hid (show (wc (chaS key nonce c)).size = 16 by rw [wc_size, chaS_length])
          clear hB hZ hG
          obtain ⟨S, hS⟩ : ∃ S, Hid (S = wc (chaS key nonce c)) := ⟨_, rfl⟩
          rw [← hS.out] at HB HS
          go_wp2_with (first
            | (refine wpList_load_blk (t := 41) rfl 41 (.tmp 7) rfl (w.heap.size + 1) rfl HB.out Try.underlying41 rfl (by rw [HS.out]; kernel_rfl) ?_)
            | (refine wpList_store_blk (t := 41) rfl 41 (.tmp 6) (.tmp 36) rfl w.heap.size S rfl rfl HZ.out (by rw [HS.out]; rfl) (by rw [HS.out]; kernel_rfl) (by rw [hS.out]; exact oneCells _) ?_; intro w2 hB2 hG2))
          have HB2 := Lib.hid hB2
          have HG2 := Lib.hid hG2
          clear hB2 hG2
          go_wp2
          rw [← hS.out]
          exact bodyPost_ret (results_cell_row rfl _ _ w.heap.size 41 _ (0, 0) _ rfl HB2.out Try.underlying41 rfl (by rw [HS.out]; kernel_rfl)) rfl ⟨rfl, below_of_only HG.out HG2.out (Nat.le_refl _) (HG.out.size)⟩
end Go.Proofs.Ytomflcpebnebpaa

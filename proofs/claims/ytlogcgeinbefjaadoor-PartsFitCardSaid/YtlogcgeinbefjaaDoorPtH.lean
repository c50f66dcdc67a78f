/- parts.Cut. -/
import Derived.Test.YtlogcgeinbefjaaDoorPtG
import Derived.Test.YtlogcgeinbefjaaDoorOwnU
namespace Go.Proofs.YtlogcgeinbefjaaDoor
open Go.RowKit Go.Proofs.YtlogcgeinbefjaaDoorW.PrintWords Go.Proofs.YtlogcgeinbefjaaDoorW.PrintLast
set_option linter.unusedSimpArgs false
set_option linter.unusedVariables false
set_option maxRecDepth 20000
set_option maxHeartbeats 800000 in
theorem cut_long (id body : List UInt8) (w : World) (h8 : id.length = 8) (hl : 2048 < body.length) (hb : body.length ≤ 140737488355328) :
    Calls Tryd.prog 9 #[.string ⟨id.toArray⟩, .string ⟨body.toArray⟩] w fun e w' => e = .returned (.tuple #[.slice none 0 0, .int .i64 2]) ∧ w' = w := by
  have hs1 : (⟨id.toArray⟩ : ByteArray).size = 8 := by simp [ByteArray.size, h8]
  have hs2 : (⟨body.toArray⟩ : ByteArray).size = body.length := by simp [ByteArray.size]
  obtain ⟨ib, IB⟩ : ∃ t : ByteArray, Hid (⟨id.toArray⟩ = t) := ⟨_, Lib.hid rfl⟩
  obtain ⟨bb, BB⟩ : ∃ t : ByteArray, Hid (⟨body.toArray⟩ = t) := ⟨_, Lib.hid rfl⟩
  rw [IB.out] at hs1 ⊢
  rw [BB.out] at hs2 ⊢
  have d1 : 2048 < (bb.size : Int) := by omega
  have d2 : 2048 < bb.size := by omega
  clear hs2 hl hb h8
  go_enter Tryd.func9, Tryd.ntmps9
  go_wp2_with fail
  go_ret2
  exact ⟨by rfl, rfl⟩
set_option maxHeartbeats 1600000 in
theorem cut_any (id body : List UInt8) (w : World) (h8 : id.length = 8) (hl : body.length ≤ 2048) (hk : KsAt w) (hks : 1 < w.heap.size) :
    Calls Tryd.prog 9 #[.string ⟨id.toArray⟩, .string ⟨body.toArray⟩] w fun e w' => ∃ v, e = .returned (.tuple #[v, .int .i64 0]) ∧ Win 9 w' w.heap.size v (cstr (cutL id body)) ∧ Below w.heap.size w w' := by
  have hs1 : (⟨id.toArray⟩ : ByteArray).size = 8 := by simp [ByteArray.size, h8]
  have hs2 : (⟨body.toArray⟩ : ByteArray).size = body.length := by simp [ByteArray.size]
  have HD := Lib.hid (digest_any id body w (by omega) (by omega) hk hks)
  have hN := cutN_max body hl
  obtain ⟨ib, IB⟩ : ∃ t : ByteArray, Hid (⟨id.toArray⟩ = t) := ⟨_, Lib.hid rfl⟩
  obtain ⟨bb, BB⟩ : ∃ t : ByteArray, Hid (⟨body.toArray⟩ = t) := ⟨_, Lib.hid rfl⟩
  obtain ⟨db, DB⟩ : ∃ t : ByteArray, Hid (⟨(digL id body).toArray⟩ = t) := ⟨_, Lib.hid rfl⟩
  rw [IB.out] at hs1 HD ⊢
  rw [BB.out] at hs2 HD ⊢
  rw [DB.out] at HD
  obtain ⟨n, hn⟩ : ∃ n, Hid (bb.size = n) := ⟨_, Lib.hid rfl⟩
  obtain ⟨N, hNN⟩ : ∃ n, Hid (cutN body = n) := ⟨_, Lib.hid rfl⟩
  have e1 : (n : Int) ≤ 2048 := by have := hn.out; omega
  have d1 : decide (2048 < (n : Int)) = false := decide_eq_false (by omega)
  have HN := Lib.hid hN
  have hbz : bb.size = n := hn.out
  rw [hn.out] at hs2
  have HS2 := Lib.hid hs2
  have e2 : ¬ (2048 < (n : Int)) := by omega
  clear hs2 hN hk hks
  go_enter Tryd.func9, Tryd.ntmps9
  go_upto_region 5 with fail
  clear e2
  go_wp2_with fail
  refine HD.out.mono ?_
  rintro e w1 ⟨rfl, b1⟩
  have B1 := Lib.hid b1
  clear b1
  go_upto_region 8 with fail
  have eN : max 1 (((n : Int) + 200 - 1) / 200) = (N : Int) := by
    rw [← hNN.out]; have := HS2.out; unfold cutN; omega
  simp only [eN]
  have HNB := Lib.hid (show 1 ≤ N ∧ N ≤ 11 ∧ 200 * N ≤ n + 200 by
    have h1 := HN.out
    have h2 := HS2.out
    have h3 := hNN.out
    unfold cutN at h3
    omega)
  clear eN
  go_wp2_with fail
  go_loopg [8, 29] (N + 1) (fun kq v8 v29 wr => ∃ (k : Nat) (A : Option Addr) (c : Nat), k + kq = N + 1 ∧ k ≤ N ∧ v29 = .int .i64 (k : Nat) ∧ v8 = .slice A k c ∧ Hid (Win 9 wr w.heap.size (.slice A k c) (cstr ((List.range k).map (partL id body)))) ∧ Hid (Below w.heap.size w wr))
  case atStart => exact ⟨0, none, 0, by omega, by omega, rfl, rfl, Lib.hid (Win.nil _ _ _), B1⟩
  case round =>
    obtain ⟨k, A, c, hk, hk2, rfl, rfl, WK, BK⟩ := hrel
    by_cases hlt : k < N
    · have e3 : (k : Int) < (N : Int) := by omega
      have hle : 200 * k ≤ n := by have := HNB.out; omega
      have hle' : 200 * (k : Int) ≤ (n : Int) := by omega
      have h0 : 0 ≤ 200 * (k : Int) := by omega
      have hw1 : wrap64 (200 * (k : Int)) = 200 * (k : Int) := by unfold wrap64; omega
      go_upto_region 13 with fail
      have HTX : (bb.extract (200 * k) n).extract 0 (min (((n - 200 * k : Nat) : Int)) 200).toNat = ⟨(pieceL body k).toArray⟩ := by
        rw [← BB.out, HS2.out, extract_eq, extract_take]
        unfold pieceL
        congr 1
        simp
        omega
      simp only [HTX]
      obtain ⟨tb, TB⟩ : ∃ t : ByteArray, Hid (⟨(pieceL body k).toArray⟩ = t) := ⟨_, Lib.hid rfl⟩
      rw [TB.out]
      have hk8 : IntKind.u8.wrap (k : Int) = (k : Int) := by have := HNB.out; unfold IntKind.wrap; simp [IntKind.bits, IntKind.signed]; omega
      have hN8 : ((N : Int) % 256) = n8 (UInt8.ofNat N) := by
        show _ = ((UInt8.ofNat N).toNat : Int)
        rw [UInt8.toNat_ofNat']
        omega
      have hk9 : (k : Int) = n8 (UInt8.ofNat k) := by
        have := HNB.out
        show _ = ((UInt8.ofNat k).toNat : Int)
        rw [UInt8.toNat_ofNat']
        omega
      have ho : Own 5 (wr.alloc (.cells #[.int .u8 (n8 (UInt8.ofNat k)), .int .u8 (n8 (UInt8.ofNat N))] 5)) w.heap.size (.slice (some ⟨wr.heap.size, 0, none⟩) 2 2) (cb [UInt8.ofNat k, UInt8.ofNat N]) := my_own_lit wr 5 [.int .u8 (n8 (UInt8.ofNat k)), .int .u8 (n8 (UInt8.ofNat N))] (B := w.heap.size) BK.out.size (by simp)
      have hcv := my_own_string (l := [UInt8.ofNat k, UInt8.ofNat N]) Tryd.underlying42 Tryd.underlying5 Tryd.underlying9 ho
      rw [← hN8, ← hk9] at hcv
      have HCV := Lib.hid hcv
      clear ho hN8 hk9 hcv
      have hcv := HCV.out
      have hX : ib ++ (⟨#[UInt8.ofNat k, UInt8.ofNat N]⟩ : ByteArray) ++ db ++ tb = ⟨(partL id body k).toArray⟩ := by
        rw [← IB.out, ← DB.out, ← TB.out, partL, hNN.out]
        apply ByteArray.ext
        simp
      obtain ⟨X, HX⟩ : ∃ x : ByteArray, Hid (ib ++ (⟨#[UInt8.ofNat k, UInt8.ofNat N]⟩ : ByteArray) ++ db ++ tb = x) := ⟨_, Lib.hid rfl⟩
      have B2 := Lib.hid ((Below.refl wr.heap.size wr).alloc (Nat.le_refl _) (.cells #[.int .u8 (k : Int), .int .u8 ((N : Int) % 256)] 5))
      have B3 := Lib.hid (B2.out.alloc B2.out.size (.cells #[.string (ib ++ (⟨#[UInt8.ofNat k, UInt8.ofNat N]⟩ : ByteArray) ++ db ++ tb)] 9))
      have hlen : (cstr ((List.range k).map (partL id body))).length = k := by rw [cstr_length]; simp
      have hWk := WK.out.below B3.out
      obtain ⟨v2, w2, hap, h2, h3, h4⟩ := win_append (P := Tryd.prog) (ty := 22) elemTx hWk (cstr_one _) (wr.heap.size + 1) 1 (.string (ib ++ (⟨#[UInt8.ofNat k, UInt8.ofNat N]⟩ : ByteArray) ++ db ++ tb)) (by
        have := (Blk.newAt (wr.alloc (.cells #[.int .u8 (k : Int), .int .u8 ((N : Int) % 256)] 5)) 9 #[.string (ib ++ (⟨#[UInt8.ofNat k, UInt8.ofNat N]⟩ : ByteArray) ++ db ++ tb)] (wr.heap.size + 1) (by simp)).cell 0
        exact this) rfl (by rw [hlen]; have := HNB.out; omega) (by rw [hlen]; have := HNB.out; omega) (Nat.le_trans BK.out.size B3.out.size)
      obtain ⟨A2, c2, hv2, _, _⟩ := h2.form
      have HRN : (cstr ((List.range k).map (partL id body)) ++ [Value.string (ib ++ (⟨#[UInt8.ofNat k, UInt8.ofNat N]⟩ : ByteArray) ++ db ++ tb)]) = cstr ((List.range (k + 1)).map (partL id body)) := by
        rw [hX, List.range_succ, List.map_append]; simp [cstr]
      rw [HRN] at h2 hv2
      have hl2 : (cstr ((List.range (k + 1)).map (partL id body))).length = k + 1 := by rw [cstr_length]; simp
      rw [hl2] at hv2
      subst hv2
      have HR := Lib.hid hap
      have H2 := Lib.hid h2
      have BB2 := Lib.hid (show Below w.heap.size w w2 from BK.out.trans ((Kp.grown (S := fun i => w.heap.size ≤ i) h3 (fun q hq _ => (WK.out.typed q hq).1)).below (fun i h => h) (Nat.le_trans BK.out.size B3.out.size) |> fun b => (B3.out.mono BK.out.size).trans b))
      clear hap h2 h3 h4 hl2 HRN hWk hlen hX HX
      have z1 : db.size ≤ 6 := by rw [← DB.out]; show (digL id body).toArray.size ≤ 6; unfold digL; simp; omega
      have z2 : tb.size ≤ 200 := by rw [← TB.out]; show (pieceL body k).toArray.size ≤ 200; simpa using pieceL_le body k
      have g1 : ¬ (9223372036854775807 < 8 + 2 + db.size) := by omega
      have g2 : ¬ (9223372036854775807 < 8 + 2 + db.size + tb.size) := by omega
      go_wp2_with ((with_reducible refine gate_dst (N := 55) rfl ?_); refine wpList_append_run rfl (.tmp 41) (.tmp 54) _ _ rfl rfl rfl HR.out ?_)
      go_roundg (N - k)
      case measure => omega
      case rel => exact ⟨k + 1, A2, c2, by omega, by omega, by go_num, rfl, H2, BB2⟩
    · obtain rfl : k = N := by omega
      have hq : gk = 1 := by omega
      subst hq
      clear hlt hk2 hk
      go_wp2_with fail
      go_ret2
      exact ⟨_, by rfl, by rw [cutL, hNN.out]; exact WK.out, BK.out⟩
end Go.Proofs.YtlogcgeinbefjaaDoor

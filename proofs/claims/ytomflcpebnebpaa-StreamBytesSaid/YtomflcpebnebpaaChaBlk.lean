/- The walk of stream.Block. -/
import Derived.Test.YtomflcpebnebpaaChaByt
import Derived.Test.YtomflcpebnebpaaChaR
namespace Go.Proofs.Ytomflcpebnebpaa
open Go.RowKit
set_option linter.unusedSimpArgs false
set_option linter.unusedVariables false
def ctr32 (c : Int) : BitVec 32 := BitVec.ofNat 32 c.toNat
theorem ctr32_n32 (c : Int) (h0 : 0 ≤ c) (h1 : c ≤ 4294967295) : c = n32 (ctr32 c) := by
  unfold n32 ctr32; rw [BitVec.toNat_ofNat]; omega
theorem n32_ctr32 (u : BitVec 32) : ctr32 (n32 u) = u := by
  unfold ctr32 n32; rw [Int.toNat_natCast]; simp
theorem wrongN_ok {kl nl : Nat} {c : Int} (h : wrongN kl nl c = 0) : kl = 32 ∧ nl = 12 ∧ 0 ≤ c ∧ c ≤ 4294967295 := by
  unfold wrongN at h
  split at h
  · cases h
  · split at h
    · cases h
    · omega
def blockL (key nonce : List UInt8) (c : Int) : List UInt8 := if wrongN key.length nonce.length c = 0 then chaB key nonce (ctr32 c) else []
set_option maxHeartbeats 1600000 in
set_option maxRecDepth 100000 in
theorem block_any (key nonce : List UInt8) (c : Int) (w : World) :
    Calls Try.prog 9 #[.string ⟨key.toArray⟩, .string ⟨nonce.toArray⟩, .int .i64 c] w fun e w' => e = .returned (.tuple #[.string ⟨(blockL key nonce c).toArray⟩, .int .i64 (wrongN key.length nonce.length c)]) ∧ Below w.heap.size w w' := by
  by_cases hw : wrongN key.length nonce.length c = 0
  · obtain ⟨hk, hn, h0, h1⟩ := wrongN_ok hw
    obtain ⟨u, hu⟩ : ∃ u : BitVec 32, c = n32 u := ⟨ctr32 c, ctr32_n32 c h0 h1⟩
    subst hu
    have HW := Lib.hid hw
    have HL := Lib.hid (show blockL key nonce (n32 u) = blkL (chaS key nonce u) 64 by rw [blockL, if_pos hw, n32_ctr32]; rfl)
    have HK := Lib.hid hk
    have HN := Lib.hid hn
    clear hw hk hn
    go_enter Try.func9, Try.ntmps9
    go_wp2_with fail
    refine (wrong_any key nonce (n32 u) _).mono ?_
    rintro e w1 ⟨rfl, rfl⟩
    rw [HW.out]
    go_wp2_with fail
    refine (begin_any key nonce u _ HK.out HN.out).mono ?_
    rintro e w2 ⟨rfl, b2⟩
    go_wp2_with fail
    refine (bytes_any (chaS key nonce u) (chaS_length _ _ _) _).mono ?_
    rintro e w3 ⟨rfl, b3⟩
    have HB3 := Lib.hid (show Below w1.heap.size w1 w3 from b2.trans (b3.mono b2.size))
    obtain ⟨L, hL⟩ : ∃ L, Hid (L = blkL (chaS key nonce u) 64) := ⟨_, rfl⟩
    have HLL := Lib.hid (show L.length = 64 by rw [hL.out, blkL_length])
    rw [← hL.out] at HL ⊢
    have HLS := Lib.hid (show (cb L).toArray.size = 64 by simp [cb, HLL.out])
    clear b2 b3
    have hcv : ∀ w4 : World, Blk w4 w3.heap.size 39 (cb L).toArray → (convert 34 9 (.slice (some ⟨w3.heap.size, 0, none⟩) 64 64)).run Try.prog w4 = .ok (.string ⟨L.toArray⟩) w4 := fun w4 h =>
      run_bytes_cells (P := Try.prog) w4 34 9 5 Try.underlying34 Try.underlying5 Try.underlying9 w3.heap.size 0 64 L 64 HLL.out (fun i hi => by
        rw [Nat.zero_add]; exact (h.cell i).trans (cb_get L i (by rw [HLL.out]; omega)))
    have HCV := Lib.hid hcv
    clear hcv
    go_wp2_with (refine wpList_store_blk (t := 39) rfl 39 (.tmp 9) (.tmp 22) rfl w3.heap.size (cb L).toArray rfl rfl (cs := (cb (List.replicate 64 0)).toArray) (Blk.new _ _ _) (by rw [HLS.out]; rfl) (by rw [HLS.out]; kernel_rfl) (oneCellsB _) ?_; intro w4 hB4 hG4; have hcv := HCV.out w4 hB4; have HG4 := Lib.hid hG4; clear hB4 hG4)
    go_ret2
    refine ⟨?_, ?_⟩
    · rw [HL.out, HW.out]; rfl
    · exact below_of_only (HB3.out.alloc HB3.out.size _) HG4.out HB3.out.size (by have := HB3.out.size; simp; omega)
  · have HL := Lib.hid (show blockL key nonce c = [] by rw [blockL, if_neg hw])
    have e1 : (wrongN key.length nonce.length c != 0) = true := by simpa using hw
    obtain ⟨z, hz⟩ : ∃ z, Hid (z = wrongN key.length nonce.length c) := ⟨_, rfl⟩
    rw [← hz.out] at e1
    clear hw
    go_enter Try.func9, Try.ntmps9
    go_wp2_with fail
    refine (wrong_any key nonce c _).mono ?_
    rintro e w1 ⟨rfl, rfl⟩
    rw [← hz.out]
    go_wp2_with fail
    go_ret2
    exact ⟨by rw [HL.out, ← hz.out]; rfl, Below.refl _ _⟩
end Go.Proofs.Ytomflcpebnebpaa

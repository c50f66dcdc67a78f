/- The walk of stream.Xor. -/
import Derived.Test.YtomflcpebnebpaaChaBlk
import Derived.Test.YtomflcpebnebpaaCb
import Derived.Outline
namespace Go.Proofs.Ytomflcpebnebpaa
open Go.RowKit Go.Proofs.YtomflcpebnebpaaW.PrintLast Go.Proofs.YtomflcpebnebpaaW.PrintWords
set_option linter.unusedSimpArgs false
set_option linter.unusedVariables false
def xorR16.T : Bool × List (List Nat × List Nat) := (true, [([], []), ([], []), ([], []), ([], []), ([2, 3], [2, 3]), ([], []), ([5], [5]), ([6], [6]), ([4, 7], [4, 7]), ([0, 1, 0, 1, 2, 3, 4, 5, 6, 7, 8], [0, 1]), ([9, 8, 0, 1, 2, 3, 4, 5, 6, 7, 8], [8, 9])])
def xorR16.B : List Nat := [0, 0, 0, 0, 12, 0, 32, 96, 252, 511, 1023]
theorem xorR16.tab : rtab .any (opsOf Try.f12 16) = xorR16.T := by kernel_rfl
theorem xorR16.bits : waitsOk xorR16.T.2 xorR16.B = true := by kernel_rfl
def xorE (key nonce : List UInt8) (c : Int) (t : List UInt8) : Int := if wrongN key.length nonce.length c = 0 then (if t.length ≤ 65536 then 0 else 2) else wrongN key.length nonce.length c
def xorL (key nonce : List UInt8) (c : Int) (t : List UInt8) : List UInt8 := if wrongN key.length nonce.length c = 0 then (if t.length ≤ 65536 then xorS key nonce c.toNat t t.length else []) else []
/-- the text, so many bytes being turned. -/
def xorTo (key nonce : List UInt8) (ctr : Nat) (t : List UInt8) (k : Nat) : List UInt8 := xorS key nonce ctr t k ++ List.replicate (t.length - k) 0
theorem xorTo_length (key nonce : List UInt8) (ctr : Nat) (t : List UInt8) (k : Nat) (h : k ≤ t.length) : (xorTo key nonce ctr t k).length = t.length := by
  simp [xorTo, xorS_length]; omega
theorem xorTo_set (key nonce : List UInt8) (ctr : Nat) (t : List UInt8) (k : Nat) (h : k < t.length) : (xorTo key nonce ctr t k).set k (bd t k ^^^ strB key nonce ctr k) = xorTo key nonce ctr t (k + 1) := by
  obtain ⟨m, hm⟩ : ∃ m, t.length - k = m + 1 := ⟨t.length - k - 1, by omega⟩
  rw [xorTo, xorTo, List.set_append_right _ _ (by rw [xorS_length]; exact Nat.le_refl _), xorS_length, Nat.sub_self, hm, List.replicate_succ, List.set_cons_zero, xorS]
  simp [show t.length - (k + 1) = m by omega]
theorem xorTo_end (key nonce : List UInt8) (ctr : Nat) (t : List UInt8) : xorTo key nonce ctr t t.length = xorS key nonce ctr t t.length := by simp [xorTo]
theorem elemU8 : Elem Try.prog 34 5 (.int .u8 0) 1 := ⟨Try.underlying34, by kernel_rfl, by rfl⟩
theorem chaS_12 (key nonce : List UInt8) (u : BitVec 32) : wd (chaS key nonce u) 12 = u := by
  have h : (chaC ++ leWs key 8).length = 12 := by simp [chaC, leWs_length]
  simp [chaS, wd, List.getD, chaC, leWs, List.append_assoc]
theorem chaS_set12 (key nonce : List UInt8) (u x : BitVec 32) : (chaS key nonce u).set 12 x = chaS key nonce x := by
  simp [chaS, chaC, leWs]
theorem ctr_next (n : Nat) : BitVec.ofNat 32 n + 1#32 = BitVec.ofNat 32 (n + 1) := by
  apply BitVec.eq_of_toNat_eq; simp
theorem v32_inc (x : BitVec 32) : (n32 x + 1) % 4294967296 = n32 (x + 1#32) := by
  have := v32_add x 1#32
  exact this
theorem w32_inc (x : BitVec 32) : IntKind.u32.wrap (n32 x + 1) = n32 (x + 1#32) := by rw [IntKind.wrap_u32', v32_inc]
section
attribute [local go_sem] v32_inc w32_inc
set_option maxHeartbeats 1600000 in
set_option maxRecDepth 100000 in
theorem xor_any (key nonce : List UInt8) (c : Int) (t : List UInt8) (ht : t.length ≤ 140737488351232) (w : World) :
    Calls Try.prog 12 #[.string ⟨key.toArray⟩, .string ⟨nonce.toArray⟩, .int .i64 c, .string ⟨t.toArray⟩] w fun e w' => e = .returned (.tuple #[.string ⟨(xorL key nonce c t).toArray⟩, .int .i64 (xorE key nonce c t)]) ∧ Below w.heap.size w w' := by
  have hst : (⟨t.toArray⟩ : ByteArray).size = t.length := by simp [ByteArray.size]
  by_cases hw : wrongN key.length nonce.length c = 0
  · by_cases htl : t.length ≤ 65536
    · obtain ⟨hk, hn, h0, h1⟩ := wrongN_ok hw
      obtain ⟨u, hu⟩ : ∃ u : BitVec 32, c = n32 u := ⟨ctr32 c, ctr32_n32 c h0 h1⟩
      subst hu
      have HW := Lib.hid hw
      have HL := Lib.hid (show xorL key nonce (n32 u) t = xorS key nonce u.toNat t t.length by rw [xorL, if_pos hw, if_pos htl]; rfl)
      have HE := Lib.hid (show xorE key nonce (n32 u) t = 0 by rw [xorE, if_pos hw, if_pos htl])
      have HK := Lib.hid hk
      have HN := Lib.hid hn
      have hd : decide ((65536 : Int) < (t.length : Int)) = false := by simp; omega
      clear hw hk hn
      go_enter Try.func12, Try.ntmps12
      go_wp2_with fail
      refine (wrong_any key nonce (n32 u) _).mono ?_
      rintro e w1 ⟨rfl, rfl⟩
      rw [HW.out]
      go_wp2_with fail
      refine (begin_any key nonce u _ HK.out HN.out).mono ?_
      rintro e w2 ⟨rfl, b2⟩
      obtain ⟨S, hS⟩ : ∃ S, Hid (S = wc (chaS key nonce u)) := ⟨_, rfl⟩
      have HSS := Lib.hid (show S.size = 16 by rw [hS.out, wc_size, chaS_length])
      have HG2 := Lib.hid b2
      rw [← hS.out]
      clear b2
      go_upto_region 8 with (refine wpList_store_blk (t := 41) rfl 41 (.tmp 11) (.tmp 30) rfl w2.heap.size S rfl rfl (cs := wc (List.replicate 16 0)) (Blk.new _ _ _) (by rw [HSS.out]; rfl) (by rw [HSS.out]; kernel_rfl) (by rw [hS.out]; exact oneCells _) ?_; intro w4 hB4 hG4)
      have hs4 := hG4.size
      simp at hs4
      have HB5 := Lib.hid (hB4.alloc (.cells (cb (List.replicate 64 0)).toArray 39))
      have HN5 := Lib.hid (Blk.new w4 39 (cb (List.replicate 64 0)).toArray)
      have HG5 := Lib.hid (show Below w1.heap.size w1 (w4.alloc (.cells (cb (List.replicate 64 0)).toArray 39)) from (below_of_only (HG2.out.alloc HG2.out.size _) hG4 HG2.out.size (by have := HG2.out.size; simp; omega)).alloc (by have := HG2.out.size; omega) _)
      have hz5 : (w4.alloc (.cells (cb (List.replicate 64 0)).toArray 39)).heap.size = w4.heap.size + 1 := by simp
      clear hB4 hG4
      obtain ⟨w5, hw5⟩ : ∃ w5, w5 = w4.alloc (.cells (cb (List.replicate 64 0)).toArray 39) := ⟨_, rfl⟩
      rw [← hw5] at HB5 HN5 HG5 hz5
      change Code.wp _ _ _ _ (w4.alloc (.cells (cb (List.replicate 64 0)).toArray 39))
      rw [← hw5]
      clear hw5
      obtain ⟨w6, hmk, hown, hgr⟩ := own_make (B := w1.heap.size) (t := 34) elemU8 w5 .i64 .i64 t.length (by omega) (by omega) HG5.out.size
      have HO6 := Lib.hid (show Own 5 w6 w1.heap.size (.slice (some ⟨w5.heap.size, 0, none⟩) t.length t.length) (cb (xorTo key nonce u.toNat t 0)) by
        rw [show cb (xorTo key nonce u.toNat t 0) = List.replicate t.length ((Value.int .u8 0).cells[0]!) by rw [xorTo, xorS, cb, Nat.sub_zero, List.nil_append, List.map_replicate]; rfl]; exact hown)
      have HB6 := Lib.hid (HB5.out.grown hgr (by simp))
      have HN6 := Lib.hid (HN5.out.grown hgr (by simp))
      have HG6 := Lib.hid (show Below w1.heap.size w1 w6 from HG5.out.trans ⟨hgr.os, hgr.tape, hgr.output, hgr.size, fun i hi => hgr.block i (by have := HG5.out.size; omega) (by simp)⟩)
      have hs6 := hgr.size
      clear hown hgr HB5 HN5 HG5
      obtain ⟨g, hg⟩ : ∃ g, g = w5.heap.size := ⟨_, rfl⟩
      rw [← hg] at hmk HO6
      have hgz : g = w4.heap.size + 1 := hg.trans hz5
      clear hg hz5
      have hg1 : w4.heap.size < g := by omega
      have hg2 : w2.heap.size < w4.heap.size := by omega
      have hg3 : w1.heap.size ≤ w2.heap.size := HG2.out.size
      clear hgz hs4 hs6
      go_wp2_with fail
      rw [hS.out] at HB6
      clear hS HSS HG2 hmk
      go_loopw [36] (fun v wr => ∃ k : Nat, k ≤ t.length ∧ v = .int .i64 k ∧ Blk wr w2.heap.size 41 (wc (chaS key nonce (BitVec.ofNat 32 (u.toNat + (k + 63) / 64)))) ∧ (∃ B : List UInt8, B.length = 64 ∧ Blk wr w4.heap.size 39 (cb B).toArray ∧ (k % 64 ≠ 0 → B = chaB key nonce (BitVec.ofNat 32 (u.toNat + k / 64)))) ∧ Own 5 wr w1.heap.size (.slice (some ⟨g, 0, none⟩) t.length t.length) (cb (xorTo key nonce u.toNat t k)) ∧ Below w1.heap.size w1 wr) (fun v _ => t.length - (intOf v).toNat)
      case atStart => exact ⟨0, by omega, rfl, by rw [show BitVec.ofNat 32 (u.toNat + (0 + 63) / 64) = u by simp]; exact HB6.out, ⟨List.replicate 64 0, by simp, HN6.out, by simp⟩, HO6.out, HG6.out⟩
      case round =>
        clear HB6 HN6 HO6 HG6
        obtain ⟨k, hk, rfl, hB, ⟨B0, hB0l, hB0, hB0v⟩, hO, hG⟩ := hrel
        by_cases hlt : k < t.length
        · by_cases h64 : k % 64 = 0
          · have hd2 : ((k : Int) % 64 == 0) = true := by simp; omega
            obtain ⟨n, hn⟩ : ∃ n, Hid (n = u.toNat + k / 64) := ⟨_, rfl⟩
            rw [show u.toNat + (k + 63) / 64 = n by have := hn.out; omega] at hB
            have HB7 := Lib.hid hB
            have HN7 := Lib.hid hB0
            have HO7 := Lib.hid hO
            have HG7 := Lib.hid hG
            have HB0L := Lib.hid (show (cb B0).toArray.size = 64 by simp [cb, hB0l])
            have HK := Lib.hid h64
            clear hB hB0 hO hG hB0v hB0l h64
            go_wp2_with (refine wpList_load_blk (t := 41) rfl 41 (.tmp 11) rfl w2.heap.size rfl HB7.out Try.underlying41 rfl (by rw [wc_size, chaS_length]; kernel_rfl) ?_)
            refine (bytes_any (chaS key nonce (BitVec.ofNat 32 n)) (chaS_length _ _ _) _).mono ?_
            rintro e w7 ⟨rfl, b7⟩
            have HB8 := Lib.hid (HB7.out.below b7 HB7.out.lt)
            have HN8 := Lib.hid (HN7.out.below b7 HN7.out.lt)
            have HO8 := Lib.hid (HO7.out.below b7)
            have HG8 := Lib.hid (HG7.out.trans (b7.mono HG7.out.size))
            clear b7 HB7 HN7 HO7 HG7
            obtain ⟨B, hBv⟩ : ∃ B, Hid (B = blkL (chaS key nonce (BitVec.ofNat 32 n)) 64) := ⟨_, rfl⟩
            have HBL := Lib.hid (show B.length = 64 by rw [hBv.out, blkL_length])
            have HBS := Lib.hid (show (cb B).toArray.size = 64 by simp [cb, HBL.out])
            have HBV := Lib.hid (show B = chaB key nonce (BitVec.ofNat 32 (u.toNat + k / 64)) by rw [← hn.out]; exact hBv.out)
            rw [← hBv.out]
            go_upto_region 16 with (refine wpList_store_blk (t := 39) rfl 39 (.tmp 12) (.tmp 44) rfl w4.heap.size (cb B).toArray rfl rfl HN8.out (by rw [HBS.out, HB0L.out]) (by rw [HBS.out]; kernel_rfl) (oneCellsB _) ?_; intro w8 hN9 hG9; have HB9 := Lib.hid (HB8.out.grown hG9 (by simp; omega)); have HN9 := Lib.hid hN9; have HO9 := Lib.hid (HO8.out.grown hG9 (.inr (by simp [Value.ownBlock]; omega))); have HG9 := Lib.hid (below_of_only HG8.out hG9 (by omega) HG8.out.size); clear hN9 hG9; have d1 := (HB9.out.cell 12).trans (wc_get _ 12 (by rw [chaS_length]; decide)); have g1 := HB9.out.frozen 12; rw [chaS_12] at d1)
            have HB7 := Lib.hid (show Blk (w8.setCell ⟨w2.heap.size, 12, none⟩ (.int .u32 (n32 (BitVec.ofNat 32 n + 1#32)))) w2.heap.size 41 (wc (chaS key nonce (BitVec.ofNat 32 (u.toNat + (k + 1 + 63) / 64)))) by
              have h := HB9.out.set_ 12 (.int .u32 (n32 (BitVec.ofNat 32 n + 1#32)))
              rw [wc_set, chaS_set12, ctr_next] at h
              rw [show u.toNat + (k + 1 + 63) / 64 = n + 1 by have := hn.out; have := HK.out; omega, ctr_next]
              exact h)
            have HN7 := Lib.hid (HN9.out.far (p := ⟨w2.heap.size, 12, none⟩) (by simp; omega) (.int .u32 (n32 (BitVec.ofNat 32 n + 1#32))))
            have HO7 := Lib.hid (HO9.out.setFar (p := ⟨w2.heap.size, 12, none⟩) (by simp [Value.ownBlock]; omega) (.int .u32 (n32 (BitVec.ofNat 32 n + 1#32))))
            have HG7 := Lib.hid (HG9.out.setCell (p := ⟨w2.heap.size, 12, none⟩) (by simp; omega) (.int .u32 (n32 (BitVec.ofNat 32 n + 1#32))))
            have HNX := Lib.hid (show (k + 1) % 64 ≠ 0 → B = chaB key nonce (BitVec.ofNat 32 (u.toNat + (k + 1) / 64)) by
              intro _; rw [HBV.out, show (k + 1) / 64 = k / 64 by have := HK.out; omega])
            clear HB8 HN8 HO8 HG8 HB9 HN9 HO9 HG9 d1 g1 hBv
            obtain ⟨wr7, hw7⟩ : ∃ wr7, wr7 = w8.setCell ⟨w2.heap.size, 12, none⟩ (.int .u32 (n32 (BitVec.ofNat 32 n + 1#32))) := ⟨_, rfl⟩
            rw [← hw7] at HB7 HN7 HO7 HG7 ⊢
            clear hw7
            have h2 := HO7.out.cell k (by rw [cb_length, xorTo_length _ _ _ _ _ hk]; exact hlt)
            have c2 : wr7.cell? ⟨g, k, none⟩ = some (.int .u8 (n8 (bd (xorTo key nonce u.toNat t k) k))) := by
              rw [h2]; have := cb_get (xorTo key nonce u.toNat t k) k (by rw [xorTo_length _ _ _ _ _ hk]; exact hlt); simpa using this
            have f2 := HO7.out.frozen k
            have c1 := (HN7.out.cell (k % 64)).trans (cb_get B (k % 64) (by rw [HBL.out]; omega))
            have hti : ∀ h, (⟨t.toArray⟩ : ByteArray)[k]'h = bd t k := fun h => by simp [bd, List.getD, List.getElem?_eq_getElem hlt]; rfl
            have hx : bits .xor .u8 ((bd t k).toNat : Int) (n8 (bd B (k % 64))) = n8 (bd t k ^^^ bd B (k % 64)) := n8_xor _ _
            have e3 : 0 ≤ (k : Int) ∧ (k : Int) < (t.length : Int) := by omega
            have e4 : 0 ≤ (k : Int) % 64 ∧ (k : Int) % 64 < 64 := by omega
            have t4 : ((k : Int) % 64).toNat = k % 64 := by omega
            clear h2
            refine start_ (n := 11) (S := fun w' => w'.cell? ⟨w4.heap.size, k % 64, none⟩ = some (.int .u8 (n8 (bd B (k % 64))))) (ds := [10]) #[false, false, false, false, false, false, false, false, false, false, false] (by kernel_rfl) rfl rfl c1 (fun hHeld => ?_)
            refine with_tabW xorR16.tab xorR16.bits (fun HT_ HW_ => ?_)
            refine pure_ (i := 0) (N := some 49) (v := ?_) (a' := ?_) #[true, false, false, false, false, false, false, false, false, false, false] rfl rfl (any_of HT_.out (by kernel_rfl)) (fun _ _ _ h => h) (Or.inl ⟨by rfl, ?_⟩) ?_ ?_
            rotate_left
            · intro w'
              go_simp
              try with_reducible rfl
            rotate_left
            · simp only [Act.put, List.setIfInBounds_toArray, List.set_cons_zero, List.set_cons_succ]
              rfl
            refine pure_ (i := 1) (N := some 50) (v := ?_) (a' := ?_) #[true, true, false, false, false, false, false, false, false, false, false] rfl rfl (any_of HT_.out (by kernel_rfl)) (fun _ _ _ h => h) (Or.inl ⟨by rfl, ?_⟩) ?_ ?_
            rotate_left
            · intro w'
              go_simp
              try with_reducible rfl
            rotate_left
            · simp only [Act.put, List.setIfInBounds_toArray, List.set_cons_zero, List.set_cons_succ]
              rfl
            refine pure_ (i := 2) (N := some 51) (v := ?_) (a' := ?_) #[true, true, true, false, false, false, false, false, false, false, false] rfl rfl (any_of HT_.out (by kernel_rfl)) (fun _ _ _ h => h) (Or.inl ⟨by rfl, ?_⟩) ?_ ?_
            rotate_left
            · intro w'
              go_simp
              try with_reducible rfl
            rotate_left
            · simp only [Act.put, List.setIfInBounds_toArray, List.set_cons_zero, List.set_cons_succ]
              rfl
            refine pure_ (i := 3) (N := some 52) (v := ?_) (a' := ?_) #[true, true, true, true, false, false, false, false, false, false, false] rfl rfl (any_of HT_.out (by kernel_rfl)) (fun _ _ _ h => h) (Or.inl ⟨by rfl, ?_⟩) ?_ ?_
            rotate_left
            · intro w'
              go_simp
              try with_reducible rfl
            rotate_left
            · simp only [Act.put, List.setIfInBounds_toArray, List.set_cons_zero, List.set_cons_succ]
              rfl
            refine pure_ (i := 4) (N := some 53) (v := ?_) (a' := ?_) #[true, true, true, true, true, false, false, false, false, false, false] rfl rfl (any_of HT_.out (by kernel_rfl)) (fun _ _ _ h => h) (Or.inl ⟨by rfl, ?_⟩) ?_ ?_
            rotate_left
            · intro w'
              go_simp
              try with_reducible rfl
            rotate_left
            · simp only [Act.put, List.setIfInBounds_toArray, List.set_cons_zero, List.set_cons_succ]
              rfl
            refine pure_ (i := 5) (N := some 54) (v := ?_) (a' := ?_) #[true, true, true, true, true, true, false, false, false, false, false] rfl rfl (any_of HT_.out (by kernel_rfl)) (fun _ _ _ h => h) (Or.inl ⟨by rfl, ?_⟩) ?_ ?_
            rotate_left
            · intro w'
              go_simp
              try with_reducible rfl
            rotate_left
            · simp only [Act.put, List.setIfInBounds_toArray, List.set_cons_zero, List.set_cons_succ]
              rfl
            refine pure_ (i := 6) (N := some 55) (v := ?_) (a' := ?_) #[true, true, true, true, true, true, true, false, false, false, false] rfl rfl (any_of HT_.out (by kernel_rfl)) (fun _ _ _ h => h) (Or.inl ⟨by rfl, ?_⟩) ?_ ?_
            rotate_left
            · intro w'
              go_simp
              try with_reducible rfl
            rotate_left
            · simp only [Act.put, List.setIfInBounds_toArray, List.set_cons_zero, List.set_cons_succ]
              rfl
            refine take_ (i := 7) (N := some 56) (v := ?_) (a' := ?_) #[true, true, true, true, true, true, true, true, false, false, false] rfl rfl (take_ofW HT_.out HW_.out (by kernel_rfl)) (fun _ _ _ h => h) (Or.inl ⟨by rfl, ?_⟩) hHeld ?_ ?_
            rotate_left
            · rintro w' s0
              go_simp
              try with_reducible rfl
            rotate_left
            · simp only [Act.put, List.setIfInBounds_toArray, List.set_cons_zero, List.set_cons_succ]
              rfl
            refine pure_ (i := 8) (N := some 57) (v := ?_) (a' := ?_) #[true, true, true, true, true, true, true, true, true, false, false] rfl rfl (any_of HT_.out (by kernel_rfl)) (fun _ _ _ h => h) (Or.inl ⟨by rfl, ?_⟩) ?_ ?_
            rotate_left
            · intro w'
              go_simp
              try with_reducible rfl
            rotate_left
            · simp only [Act.put, List.setIfInBounds_toArray, List.set_cons_zero, List.set_cons_succ]
              rfl
            refine pure_ (i := 9) (N := some 58) (v := ?_) (a' := ?_) #[true, true, true, true, true, true, true, true, true, true, false] rfl rfl (any_of HT_.out (by kernel_rfl)) (fun _ _ _ h => h) (Or.inl ⟨by rfl, ?_⟩) ?_ ?_
            rotate_left
            · intro w'
              go_simp
              try with_reducible rfl
            rotate_left
            · simp only [Act.put, List.setIfInBounds_toArray, List.set_cons_zero, List.set_cons_succ]
              rfl
            refine last_ (i := 10) (N := none) #[true, true, true, true, true, true, true, true, true, true, true] rfl rfl (one_of HT_.out (by kernel_rfl)) (by decide) (fun K hK => ?_)
            refine skip_ (w1 := ?_) (by rfl) rfl ?_ ?_
            rotate_left
            · go_simp
              try rfl
            refine hK.out _ _ ?_
            clear hK K
            refine done_ (done_of HT_.out (by kernel_rfl)) ?_
            clear HT_ HW_
            have HF := Lib.hid (show Own 5 (wr7.setCell ⟨g, k, none⟩ (.int .u8 (n8 (bd t k ^^^ bd B (k % 64))))) w1.heap.size (.slice (some ⟨g, 0, none⟩) t.length t.length) (cb (xorTo key nonce u.toNat t (k + 1))) by
              have h := HO7.out.set_ k (.int .u8 (n8 (bd t k ^^^ bd B (k % 64))))
              have h4 : (cb (xorTo key nonce u.toNat t k)).set k (.int .u8 (n8 (bd t k ^^^ bd B (k % 64)))) = cb (xorTo key nonce u.toNat t (k + 1)) := by
                rw [← xorTo_set key nonce u.toNat t k hlt, strB, ← HBV.out]; simp [cb, List.map_set]
              rwa [h4] at h)
            clear c1 c2 f2 hti hx e3 e4 t4 hHeld
            go_wp2_with fail
            go_roundw
            case rel => exact ⟨k + 1, by omega, by go_num, (HB7.out.far (by simp; omega) _).drew, ⟨B, HBL.out, (HN7.out.far (by simp; omega) _).drew, HNX.out⟩, HF.out.drew, (HG7.out.setCell (by simp; omega) _).drew⟩
            case measure => simp [intOf]; omega
          · have hd2 : ((k : Int) % 64 == 0) = false := by simp; omega
            have HBV := Lib.hid (hB0v h64)
            have HB7 := Lib.hid (show Blk wr w2.heap.size 41 (wc (chaS key nonce (BitVec.ofNat 32 (u.toNat + (k + 1 + 63) / 64)))) by rw [show (k + 1 + 63) / 64 = (k + 63) / 64 by omega]; exact hB)
            have HNX := Lib.hid (show (k + 1) % 64 ≠ 0 → B0 = chaB key nonce (BitVec.ofNat 32 (u.toNat + (k + 1) / 64)) by
              intro h; rw [HBV.out, show (k + 1) / 64 = k / 64 by omega])
            have HN7 := Lib.hid hB0
            have HO7 := Lib.hid hO
            have HG7 := Lib.hid hG
            have HBL := Lib.hid hB0l
            clear hB hB0 hO hG hB0v hB0l h64
            obtain ⟨wr7, hw7⟩ : ∃ wr7, wr7 = wr := ⟨_, rfl⟩
            obtain ⟨B, hBB⟩ : ∃ B, B = B0 := ⟨_, rfl⟩
            rw [← hw7] at HB7 HN7 HO7 HG7 ⊢
            rw [← hBB] at HBV HNX HN7 HBL
            clear hw7 hBB
            go_wp2_with fail
            have h2 := HO7.out.cell k (by rw [cb_length, xorTo_length _ _ _ _ _ hk]; exact hlt)
            have c2 : wr7.cell? ⟨g, k, none⟩ = some (.int .u8 (n8 (bd (xorTo key nonce u.toNat t k) k))) := by
              rw [h2]; have := cb_get (xorTo key nonce u.toNat t k) k (by rw [xorTo_length _ _ _ _ _ hk]; exact hlt); simpa using this
            have f2 := HO7.out.frozen k
            have c1 := (HN7.out.cell (k % 64)).trans (cb_get B (k % 64) (by rw [HBL.out]; omega))
            have hti : ∀ h, (⟨t.toArray⟩ : ByteArray)[k]'h = bd t k := fun h => by simp [bd, List.getD, List.getElem?_eq_getElem hlt]; rfl
            have hx : bits .xor .u8 ((bd t k).toNat : Int) (n8 (bd B (k % 64))) = n8 (bd t k ^^^ bd B (k % 64)) := n8_xor _ _
            have e3 : 0 ≤ (k : Int) ∧ (k : Int) < (t.length : Int) := by omega
            have e4 : 0 ≤ (k : Int) % 64 ∧ (k : Int) % 64 < 64 := by omega
            have t4 : ((k : Int) % 64).toNat = k % 64 := by omega
            clear h2
            refine start_ (n := 11) (S := fun w' => w'.cell? ⟨w4.heap.size, k % 64, none⟩ = some (.int .u8 (n8 (bd B (k % 64))))) (ds := [10]) #[false, false, false, false, false, false, false, false, false, false, false] (by kernel_rfl) rfl rfl c1 (fun hHeld => ?_)
            refine with_tabW xorR16.tab xorR16.bits (fun HT_ HW_ => ?_)
            refine pure_ (i := 0) (N := some 49) (v := ?_) (a' := ?_) #[true, false, false, false, false, false, false, false, false, false, false] rfl rfl (any_of HT_.out (by kernel_rfl)) (fun _ _ _ h => h) (Or.inl ⟨by rfl, ?_⟩) ?_ ?_
            rotate_left
            · intro w'
              go_simp
              try with_reducible rfl
            rotate_left
            · simp only [Act.put, List.setIfInBounds_toArray, List.set_cons_zero, List.set_cons_succ]
              rfl
            refine pure_ (i := 1) (N := some 50) (v := ?_) (a' := ?_) #[true, true, false, false, false, false, false, false, false, false, false] rfl rfl (any_of HT_.out (by kernel_rfl)) (fun _ _ _ h => h) (Or.inl ⟨by rfl, ?_⟩) ?_ ?_
            rotate_left
            · intro w'
              go_simp
              try with_reducible rfl
            rotate_left
            · simp only [Act.put, List.setIfInBounds_toArray, List.set_cons_zero, List.set_cons_succ]
              rfl
            refine pure_ (i := 2) (N := some 51) (v := ?_) (a' := ?_) #[true, true, true, false, false, false, false, false, false, false, false] rfl rfl (any_of HT_.out (by kernel_rfl)) (fun _ _ _ h => h) (Or.inl ⟨by rfl, ?_⟩) ?_ ?_
            rotate_left
            · intro w'
              go_simp
              try with_reducible rfl
            rotate_left
            · simp only [Act.put, List.setIfInBounds_toArray, List.set_cons_zero, List.set_cons_succ]
              rfl
            refine pure_ (i := 3) (N := some 52) (v := ?_) (a' := ?_) #[true, true, true, true, false, false, false, false, false, false, false] rfl rfl (any_of HT_.out (by kernel_rfl)) (fun _ _ _ h => h) (Or.inl ⟨by rfl, ?_⟩) ?_ ?_
            rotate_left
            · intro w'
              go_simp
              try with_reducible rfl
            rotate_left
            · simp only [Act.put, List.setIfInBounds_toArray, List.set_cons_zero, List.set_cons_succ]
              rfl
            refine pure_ (i := 4) (N := some 53) (v := ?_) (a' := ?_) #[true, true, true, true, true, false, false, false, false, false, false] rfl rfl (any_of HT_.out (by kernel_rfl)) (fun _ _ _ h => h) (Or.inl ⟨by rfl, ?_⟩) ?_ ?_
            rotate_left
            · intro w'
              go_simp
              try with_reducible rfl
            rotate_left
            · simp only [Act.put, List.setIfInBounds_toArray, List.set_cons_zero, List.set_cons_succ]
              rfl
            refine pure_ (i := 5) (N := some 54) (v := ?_) (a' := ?_) #[true, true, true, true, true, true, false, false, false, false, false] rfl rfl (any_of HT_.out (by kernel_rfl)) (fun _ _ _ h => h) (Or.inl ⟨by rfl, ?_⟩) ?_ ?_
            rotate_left
            · intro w'
              go_simp
              try with_reducible rfl
            rotate_left
            · simp only [Act.put, List.setIfInBounds_toArray, List.set_cons_zero, List.set_cons_succ]
              rfl
            refine pure_ (i := 6) (N := some 55) (v := ?_) (a' := ?_) #[true, true, true, true, true, true, true, false, false, false, false] rfl rfl (any_of HT_.out (by kernel_rfl)) (fun _ _ _ h => h) (Or.inl ⟨by rfl, ?_⟩) ?_ ?_
            rotate_left
            · intro w'
              go_simp
              try with_reducible rfl
            rotate_left
            · simp only [Act.put, List.setIfInBounds_toArray, List.set_cons_zero, List.set_cons_succ]
              rfl
            refine take_ (i := 7) (N := some 56) (v := ?_) (a' := ?_) #[true, true, true, true, true, true, true, true, false, false, false] rfl rfl (take_ofW HT_.out HW_.out (by kernel_rfl)) (fun _ _ _ h => h) (Or.inl ⟨by rfl, ?_⟩) hHeld ?_ ?_
            rotate_left
            · rintro w' s0
              go_simp
              try with_reducible rfl
            rotate_left
            · simp only [Act.put, List.setIfInBounds_toArray, List.set_cons_zero, List.set_cons_succ]
              rfl
            refine pure_ (i := 8) (N := some 57) (v := ?_) (a' := ?_) #[true, true, true, true, true, true, true, true, true, false, false] rfl rfl (any_of HT_.out (by kernel_rfl)) (fun _ _ _ h => h) (Or.inl ⟨by rfl, ?_⟩) ?_ ?_
            rotate_left
            · intro w'
              go_simp
              try with_reducible rfl
            rotate_left
            · simp only [Act.put, List.setIfInBounds_toArray, List.set_cons_zero, List.set_cons_succ]
              rfl
            refine pure_ (i := 9) (N := some 58) (v := ?_) (a' := ?_) #[true, true, true, true, true, true, true, true, true, true, false] rfl rfl (any_of HT_.out (by kernel_rfl)) (fun _ _ _ h => h) (Or.inl ⟨by rfl, ?_⟩) ?_ ?_
            rotate_left
            · intro w'
              go_simp
              try with_reducible rfl
            rotate_left
            · simp only [Act.put, List.setIfInBounds_toArray, List.set_cons_zero, List.set_cons_succ]
              rfl
            refine last_ (i := 10) (N := none) #[true, true, true, true, true, true, true, true, true, true, true] rfl rfl (one_of HT_.out (by kernel_rfl)) (by decide) (fun K hK => ?_)
            refine skip_ (w1 := ?_) (by rfl) rfl ?_ ?_
            rotate_left
            · go_simp
              try rfl
            refine hK.out _ _ ?_
            clear hK K
            refine done_ (done_of HT_.out (by kernel_rfl)) ?_
            clear HT_ HW_
            have HF := Lib.hid (show Own 5 (wr7.setCell ⟨g, k, none⟩ (.int .u8 (n8 (bd t k ^^^ bd B (k % 64))))) w1.heap.size (.slice (some ⟨g, 0, none⟩) t.length t.length) (cb (xorTo key nonce u.toNat t (k + 1))) by
              have h := HO7.out.set_ k (.int .u8 (n8 (bd t k ^^^ bd B (k % 64))))
              have h4 : (cb (xorTo key nonce u.toNat t k)).set k (.int .u8 (n8 (bd t k ^^^ bd B (k % 64)))) = cb (xorTo key nonce u.toNat t (k + 1)) := by
                rw [← xorTo_set key nonce u.toNat t k hlt, strB, ← HBV.out]; simp [cb, List.map_set]
              rwa [h4] at h)
            clear c1 c2 f2 hti hx e3 e4 t4 hHeld
            go_wp2_with fail
            go_roundw
            case rel => exact ⟨k + 1, by omega, by go_num, (HB7.out.far (by simp; omega) _).drew, ⟨B, HBL.out, (HN7.out.far (by simp; omega) _).drew, HNX.out⟩, HF.out.drew, (HG7.out.setCell (by simp; omega) _).drew⟩
            case measure => simp [intOf]; omega
        · obtain rfl : k = t.length := by omega
          have hcv := my_own_string (P := Try.prog) (t := 34) (e := 5) (d := 9) Try.underlying34 Try.underlying5 Try.underlying9 hO
          rw [xorTo_end] at hcv
          have HG7 := Lib.hid hG
          clear hB hB0 hO hG hB0v hB0l hlt
          go_wp2_with fail
          go_ret2
          exact ⟨by rw [HL.out, HE.out]; rfl, HG7.out⟩
    · have HL := Lib.hid (show xorL key nonce c t = [] by rw [xorL, if_pos hw, if_neg htl])
      have HE := Lib.hid (show xorE key nonce c t = 2 by rw [xorE, if_pos hw, if_neg htl])
      have HW := Lib.hid hw
      have hd : decide ((65536 : Int) < (t.length : Int)) = true := by simp; omega
      clear hw
      go_enter Try.func12, Try.ntmps12
      go_wp2_with fail
      refine (wrong_any key nonce c _).mono ?_
      rintro e w1 ⟨rfl, rfl⟩
      rw [HW.out]
      go_wp2_with fail
      go_ret2
      exact ⟨by rw [HL.out, HE.out]; rfl, Below.refl _ _⟩
  · have HL := Lib.hid (show xorL key nonce c t = [] by rw [xorL, if_neg hw])
    have HE := Lib.hid (show xorE key nonce c t = wrongN key.length nonce.length c by rw [xorE, if_neg hw])
    have e1 : (wrongN key.length nonce.length c != 0) = true := by simpa using hw
    obtain ⟨z, hz⟩ : ∃ z, Hid (z = wrongN key.length nonce.length c) := ⟨_, rfl⟩
    rw [← hz.out] at e1 HE
    clear hw
    go_enter Try.func12, Try.ntmps12
    go_wp2_with fail
    refine (wrong_any key nonce c _).mono ?_
    rintro e w1 ⟨rfl, rfl⟩
    rw [← hz.out]
    go_wp2_with fail
    go_ret2
    exact ⟨by rw [HL.out, HE.out]; rfl, Below.refl _ _⟩
end
end Go.Proofs.Ytomflcpebnebpaa

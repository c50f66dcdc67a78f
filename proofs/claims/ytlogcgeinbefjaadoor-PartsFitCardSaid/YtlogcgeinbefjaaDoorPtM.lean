/- The law PartsFit. -/
import Derived.Test.YtlogcgeinbefjaaDoorPtL
namespace Go.Proofs.YtlogcgeinbefjaaDoor
open Go.RowKit Go.Proofs.YtlogcgeinbefjaaDoorW.PrintWords Go.Proofs.YtlogcgeinbefjaaDoorW.PrintLast
set_option linter.unusedSimpArgs false
set_option linter.unusedVariables false
set_option maxRecDepth 20000
theorem cutL_length (id b : List UInt8) : (cutL id b).length = cutN b := by simp [cutL]
theorem cutL_get (id b : List UInt8) (k : Nat) (hk : k < cutN b) : (cutL id b)[k]? = some (partL id b k) := by
  unfold cutL
  rw [List.getElem?_map, List.getElem?_range hk]; rfl
theorem partL_facts (id b : List UInt8) (k : Nat) (h : id.length = 8) (hb : b.length ≤ 2048) (hk : k < cutN b) :
    (partL id b k).getD 8 0 = UInt8.ofNat k ∧ (partL id b k).getD 9 0 = UInt8.ofNat (cutN b) ∧ (partL id b k).drop 16 = pieceL b k := by
  obtain ⟨h1, h2, h3, h4, h5⟩ := four_parts id [UInt8.ofNat k, UInt8.ofNat (cutN b)] (digL id b) (pieceL b k) _ _ h (digL_length id b (by rw [sha_length]; decide)) rfl
  exact ⟨h4, h5, h3⟩
theorem take_piece (b : List UInt8) (k : Nat) : b.take (200 * k) ++ pieceL b k = b.take (200 * (k + 1)) := by
  unfold pieceL
  rw [Nat.mul_succ, List.take_add]
set_option maxHeartbeats 3200000 in
theorem law_PartsFit (id body : List UInt8) (w : World) (hid : id.length ≤ 140737488351232) (hb : body.length ≤ 140737488351232) (hk : KsAt w) (hks : 1 < w.heap.size) :
    Calls Tryd.prog 4 #[.string ⟨id.toArray⟩, .string ⟨body.toArray⟩] w fun e w' => e = .returned (.bool true) ∧ Below w.heap.size w w' := by
  have HK := Lib.hid hk
  have HKS := Lib.hid hks
  have hbs : (⟨body.toArray⟩ : ByteArray).size = body.length := by simp [ByteArray.size]
  obtain ⟨bb, BB⟩ : ∃ t : ByteArray, Hid (⟨body.toArray⟩ = t) := ⟨_, Lib.hid rfl⟩
  have HW := Lib.hid (works22_any w hk hks)
  rw [BB.out] at hbs
  have HB := Lib.hid hb
  clear hk hks hb
  by_cases hl : 2048 < body.length
  · have hbl : 2048 < (bb.size : Int) := by omega
    have HL := Lib.hid hl
    have hd : decide (2048 < (body.length : Int)) = true := decide_eq_true (by omega)
    clear hl hbs hbl
    go_enter Tryd.func4, Tryd.ntmps4
    go_wp2_with fail
    refine HW.out.mono ?_
    rintro e w1 ⟨rfl, b1⟩
    have B1 := Lib.hid b1
    clear b1
    go_wp2_with fail
    refine (fit_any id 8 (by decide) w1).mono ?_
    rintro e w2 ⟨rfl, b2⟩
    have B2 := Lib.hid (B1.out.trans (b2.mono B1.out.size))
    clear b2 B1
    go_wp2_with fail
    refine (cut_long _ body w2 (fitL_length id 8) HL.out (by have := HB.out; omega)).mono ?_
    rintro e w3 ⟨rfl, rfl⟩
    go_wp2_with fail
    go_ret
    exact ⟨rfl, B2.out⟩
  · have hl' : body.length ≤ 2048 := by omega
    have HL := Lib.hid hl'
    have HI := Lib.hid (fitL_length id 8)
    have HBS := Lib.hid hbs
    clear hl hl' hbs
    go_enter Tryd.func4, Tryd.ntmps4
    go_wp2_with fail
    refine HW.out.mono ?_
    rintro e w1 ⟨rfl, b1⟩
    have B1 := Lib.hid b1
    clear b1
    go_wp2_with fail
    refine (fit_any id 8 (by decide) w1).mono ?_
    rintro e w2 ⟨rfl, b2⟩
    have B2 := Lib.hid (B1.out.trans (b2.mono B1.out.size))
    clear b2 B1
    go_wp2_with fail
    refine (cut_any _ body w2 HI.out HL.out (HK.out.below HKS.out B2.out) (Nat.lt_of_lt_of_le HKS.out B2.out.size)).mono ?_
    rintro e w3 ⟨v, rfl, hW, b3⟩
    obtain ⟨A, c, rfl, hP⟩ := hW.pts
    rw [cutL_length] at hP ⊢
    obtain ⟨N, hN⟩ : ∃ N, Hid (cutN body = N) := ⟨_, Lib.hid rfl⟩
    have hN2 := cutN_max body HL.out
    rw [hN.out] at hP hN2 ⊢
    obtain ⟨pb, off, rfl⟩ := hP.some (by omega)
    have P3 := Lib.hid hP
    have B3 := Lib.hid (B2.out.trans (b3.mono B2.out.size))
    have HN2 := Lib.hid hN2
    clear hW hP b3 B2
    have hn9 : (N : Int) ≤ 11 := by omega
    have hmx : max 1 (((bb.size : Int) + 199) / 200) = (N : Int) := by rw [← hN.out, HBS.out]; unfold cutN; omega
    have HMX := Lib.hid hmx
    clear hmx hN2
    go_wp2_with fail
    go_loopw [7, 8, 9, 26] (fun v7 v8 v9 v26 wr => ∃ (k : Nat) (ab : ByteArray), k ≤ N ∧ v26 = .int .i64 k ∧ v7 = .string ab ∧ Hid (ab = ⟨(body.take (200 * k)).toArray⟩) ∧ wr = w3) (fun _ _ _ i _ => N - (intOf i).toNat)
    case atStart => exact ⟨0, _, by omega, rfl, rfl, Lib.hid (by simp), rfl⟩
    case round =>
      obtain ⟨k, ab, hk, rfl, rfl, HAB, rfl⟩ := hrel
      by_cases hlt : k < N
      · obtain ⟨_, hc⟩ := P3.out.cell k _ (cutL_get _ _ k (by rw [hN.out]; exact hlt))
        obtain ⟨f1, f2, f3⟩ := partL_facts (fitL id 8) body k HI.out HL.out (by rw [hN.out]; exact hlt)
        have hpl := part_length (fitL id 8) body k HI.out
        have hp2 := pieceL_le body k
        have htp := take_piece body k
        obtain ⟨s, hs⟩ : ∃ s, Hid (partL (fitL id 8) body k = s) := ⟨_, Lib.hid rfl⟩
        rw [hs.out] at hc f1 f2 f3 hpl
        have hsz : (⟨s.toArray⟩ : ByteArray).size = s.length := by simp [ByteArray.size]
        have hb8 : ∀ h, (⟨s.toArray⟩ : ByteArray)[8]'h = UInt8.ofNat k := fun h => by
          show s.toArray[8]'_ = _
          rw [← f1]
          simp [List.getElem?_eq_getElem (show 8 < s.length by omega)]
        have hb9 : ∀ h, (⟨s.toArray⟩ : ByteArray)[9]'h = UInt8.ofNat N := fun h => by
          show s.toArray[9]'_ = _
          rw [← hN.out, ← f2]
          simp [List.getElem?_eq_getElem (show 9 < s.length by omega)]
        have hx3 : (⟨s.toArray⟩ : ByteArray).extract 16 (⟨s.toArray⟩ : ByteArray).size = ⟨(pieceL body k).toArray⟩ := by rw [hsz, extract_eq, f3]
        obtain ⟨sb, SB⟩ : ∃ t : ByteArray, Hid (⟨s.toArray⟩ = t) := ⟨_, Lib.hid rfl⟩
        rw [SB.out] at hc hsz hb8 hb9 hx3
        obtain ⟨a8, ha8⟩ : ∃ a, Hid (UInt8.ofNat k = a) := ⟨_, Lib.hid rfl⟩
        obtain ⟨a9, ha9⟩ : ∃ a, Hid (UInt8.ofNat N = a) := ⟨_, Lib.hid rfl⟩
        have e8 : (a8.toNat : Int) = (k : Int) := by rw [← ha8.out, u8_small _ (by omega)]
        have e9 : (a9.toNat : Int) = (N : Int) := by rw [← ha9.out, u8_small _ (by omega)]
        rw [ha8.out] at hb8
        rw [ha9.out] at hb9
        have d1 : 16 ≤ sb.size := by omega
        have d2 : sb.size ≤ 216 := by omega
        have d3 : (16 : Int) ≤ (sb.size : Int) := by omega
        have d4 : (sb.size : Int) ≤ 216 := by omega
        have d5 : (8 : Int) < (sb.size : Int) := by omega
        have d6 : (9 : Int) < (sb.size : Int) := by omega
        have d7 : 8 < sb.size := by omega
        have d8 : 9 < sb.size := by omega
        have HPL := Lib.hid hpl
        have HTP := Lib.hid htp
        have e1 : (k : Int) < (N : Int) := by omega
        have hab : ab.size ≤ 2048 := by
          rw [HAB.out]
          show ((body.take (200 * k)).toArray).size ≤ 2048
          have := HL.out
          simp; omega
        have hsum : ¬ (9223372036854775807 < ab.size + (pieceL body k).length) := by omega
        clear hsz hpl hp2 htp f1 f2 f3 hab
        go_wp2_with fail
        go_roundw
        case rel => exact ⟨k + 1, _, by omega, by go_num, rfl, Lib.hid (by rw [HAB.out, ← HTP.out]; apply ByteArray.ext; simp), trivial⟩
        case measure => simp [intOf]; omega
      · obtain rfl : k = N := by omega
        have hab : ab = bb := by rw [HAB.out, ← BB.out, ← hN.out]; congr 1; rw [List.take_of_length_le (cutN_le body)]
        subst hab
        rw [BB.out]
        have HMX2 := HMX.out
        clear hlt
        go_wp2_with fail
        go_ret
        exact ⟨rfl, B3.out⟩
end Go.Proofs.YtlogcgeinbefjaaDoor

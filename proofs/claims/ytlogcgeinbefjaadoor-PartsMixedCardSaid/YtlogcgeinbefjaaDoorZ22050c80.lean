/- The law PartsMixed: the walk. Openers for slices of truths among a law's arguments. -/
import Derived.Test.YtlogcgeinbefjaaDoorZbbf04c20
import Derived.Test.YtlogcgeinbefjaaDoorZc6b3c91c
import Derived.Deep.Grids
namespace Go.Proofs.YtlogcgeinbefjaaDoor
open Go.RowKit Go.Proofs.YtlogcgeinbefjaaDoorW.PrintWords Go.Proofs.YtlogcgeinbefjaaDoorW.PrintLast
set_option linter.unusedSimpArgs false
set_option linter.unusedVariables false
set_option maxRecDepth 20000
def i1L : List UInt8 := [109, 101, 115, 115, 97, 103, 101, 49]
def i2L : List UInt8 := [109, 101, 115, 115, 97, 103, 101, 50]
theorem drop_part {L : List (List UInt8)} {x : Nat} {s : List UInt8} (h : L[x]? = some s) : L.drop x = s :: L.drop (x + 1) := by
  obtain ⟨h1, h2⟩ := List.getElem?_eq_some_iff.1 h
  rw [List.drop_eq_getElem_cons h1, h2]
theorem i1_length : i1L.length = 8 := by decide
theorem i2_length : i2L.length = 8 := by decide
set_option maxHeartbeats 3200000 in
theorem mixed_both (a b : List UInt8) (A : Option Addr) (n c : Nat) (w : World) (ha : a.length ≤ 140737488351232) (hb : b.length ≤ 140737488351232) (hla : 2048 < a.length) (hlb : 2048 < b.length) (hk : KsAt w) (hks : 1 < w.heap.size) :
    Calls Tryd.prog 5 #[.string ⟨a.toArray⟩, .string ⟨b.toArray⟩, .slice A n c] w fun e w' => e = .returned (.bool true) ∧ Below w.heap.size w w' := by
  have HW := Lib.hid (works22_any w hk hks)
  have HK := Lib.hid hk
  have HKS := Lib.hid hks
  have HA := Lib.hid ha
  have HB := Lib.hid hb
  have HLA := Lib.hid hla
  have HLB := Lib.hid hlb
  have da : decide (2048 < (a.length : Int)) = true := decide_eq_true (by omega)
  have db : decide (2048 < (b.length : Int)) = true := decide_eq_true (by omega)
  clear hk hks ha hb hla hlb
  go_enter Tryd.func5, Tryd.ntmps5
  go_wp2_with fail
  refine HW.out.mono ?_
  rintro e w1 ⟨rfl, b1⟩
  have B1 := Lib.hid b1
  have K1 := Lib.hid (HK.out.below HKS.out b1)
  have S1 := Lib.hid (Nat.lt_of_lt_of_le HKS.out b1.size)
  clear b1
  go_wp2_with fail
  refine (cut_long i1L a _ i1_length HLA.out (by have := HA.out; omega)).mono ?_
  rintro e w_1 ⟨rfl, rfl⟩
  go_wp2_with fail
  refine (cut_long i2L b _ i2_length HLB.out (by have := HB.out; omega)).mono ?_
  rintro e w_2 ⟨rfl, rfl⟩
  go_wp2_with fail
  refine (new2_any _).mono ?_
  rintro e w9 ⟨rfl, _, b9⟩
  have B9 := Lib.hid (B1.out.trans (b9.mono B1.out.size))
  clear b9
  go_wp2_with fail
  go_ret
  exact ⟨rfl, B9.out⟩
set_option maxHeartbeats 3200000 in
theorem mixed_first (a b : List UInt8) (A : Option Addr) (n c : Nat) (w : World) (ha : a.length ≤ 140737488351232) (hb : b.length ≤ 140737488351232) (hla : 2048 < a.length) (hlb : b.length ≤ 2048) (hk : KsAt w) (hks : 1 < w.heap.size) :
    Calls Tryd.prog 5 #[.string ⟨a.toArray⟩, .string ⟨b.toArray⟩, .slice A n c] w fun e w' => e = .returned (.bool true) ∧ Below w.heap.size w w' := by
  have HW := Lib.hid (works22_any w hk hks)
  have HK := Lib.hid hk
  have HKS := Lib.hid hks
  have HA := Lib.hid ha
  have HB := Lib.hid hb
  have HLA := Lib.hid hla
  have HLB := Lib.hid hlb
  have da : decide (2048 < (a.length : Int)) = true := decide_eq_true (by omega)
  have db : decide (2048 < (b.length : Int)) = false := decide_eq_false (by omega)
  clear hk hks ha hb hla hlb
  go_enter Tryd.func5, Tryd.ntmps5
  go_wp2_with fail
  refine HW.out.mono ?_
  rintro e w1 ⟨rfl, b1⟩
  have B1 := Lib.hid b1
  have K1 := Lib.hid (HK.out.below HKS.out b1)
  have S1 := Lib.hid (Nat.lt_of_lt_of_le HKS.out b1.size)
  clear b1
  go_wp2_with fail
  refine (cut_long i1L a _ i1_length HLA.out (by have := HA.out; omega)).mono ?_
  rintro e w_1 ⟨rfl, rfl⟩
  go_wp2_with fail
  refine (cut_any i2L b _ i2_length HLB.out K1.out S1.out).mono ?_
  rintro e w2 ⟨v, rfl, hW, b2⟩
  clear hW
  have B2 := Lib.hid (B1.out.trans (b2.mono B1.out.size))
  have K2 := Lib.hid (K1.out.below S1.out b2)
  have S2 := Lib.hid (Nat.lt_of_lt_of_le S1.out b2.size)
  clear b2
  go_wp2_with fail
  refine (new2_any _).mono ?_
  rintro e w9 ⟨rfl, _, b9⟩
  have B9 := Lib.hid (B2.out.trans (b9.mono B2.out.size))
  clear b9
  go_wp2_with fail
  go_ret
  exact ⟨rfl, B9.out⟩
set_option maxHeartbeats 3200000 in
theorem mixed_second (a b : List UInt8) (A : Option Addr) (n c : Nat) (w : World) (ha : a.length ≤ 140737488351232) (hb : b.length ≤ 140737488351232) (hla : a.length ≤ 2048) (hlb : 2048 < b.length) (hk : KsAt w) (hks : 1 < w.heap.size) :
    Calls Tryd.prog 5 #[.string ⟨a.toArray⟩, .string ⟨b.toArray⟩, .slice A n c] w fun e w' => e = .returned (.bool true) ∧ Below w.heap.size w w' := by
  have HW := Lib.hid (works22_any w hk hks)
  have HK := Lib.hid hk
  have HKS := Lib.hid hks
  have HA := Lib.hid ha
  have HB := Lib.hid hb
  have HLA := Lib.hid hla
  have HLB := Lib.hid hlb
  have da : decide (2048 < (a.length : Int)) = false := decide_eq_false (by omega)
  have db : decide (2048 < (b.length : Int)) = true := decide_eq_true (by omega)
  clear hk hks ha hb hla hlb
  go_enter Tryd.func5, Tryd.ntmps5
  go_wp2_with fail
  refine HW.out.mono ?_
  rintro e w1 ⟨rfl, b1⟩
  have B1 := Lib.hid b1
  have K1 := Lib.hid (HK.out.below HKS.out b1)
  have S1 := Lib.hid (Nat.lt_of_lt_of_le HKS.out b1.size)
  clear b1
  go_wp2_with fail
  refine (cut_any i1L a _ i1_length HLA.out K1.out S1.out).mono ?_
  rintro e w2 ⟨v, rfl, hW, b2⟩
  clear hW
  have B2 := Lib.hid (B1.out.trans (b2.mono B1.out.size))
  have K2 := Lib.hid (K1.out.below S1.out b2)
  have S2 := Lib.hid (Nat.lt_of_lt_of_le S1.out b2.size)
  clear b2
  go_wp2_with fail
  refine (cut_long i2L b _ i2_length HLB.out (by have := HB.out; omega)).mono ?_
  rintro e w_2 ⟨rfl, rfl⟩
  go_wp2_with fail
  refine (new2_any _).mono ?_
  rintro e w9 ⟨rfl, _, b9⟩
  have B9 := Lib.hid (B2.out.trans (b9.mono B2.out.size))
  clear b9
  go_wp2_with fail
  go_ret
  exact ⟨rfl, B9.out⟩
set_option maxHeartbeats 6400000 in
theorem law_PartsMixed (a b : List UInt8) (A : Option Addr) (n c : Nat) (ts : List Bool) (w : World) (ha : a.length ≤ 140737488351232) (hb : b.length ≤ 140737488351232) (hS : Bools w A n ts) (hn : n ≤ 140737488351232) (hk : KsAt w) (hks : 1 < w.heap.size) :
    Calls Tryd.prog 5 #[.string ⟨a.toArray⟩, .string ⟨b.toArray⟩, .slice A n c] w fun e w' => e = .returned (.bool true) ∧ Below w.heap.size w w' := by
  by_cases hla : 2048 < a.length
  · by_cases hlb : 2048 < b.length
    · exact mixed_both a b A n c w ha hb hla hlb hk hks
    · exact mixed_first a b A n c w ha hb hla (by omega) hk hks
  · by_cases hlb : 2048 < b.length
    · exact mixed_second a b A n c w ha hb (by omega) hlb hk hks
    · have HLA := Lib.hid (show a.length ≤ 2048 by omega)
      have HLB := Lib.hid (show b.length ≤ 2048 by omega)
      clear hla hlb
      have HK := Lib.hid hk
      have HKS := Lib.hid hks
      have HS := Lib.hid hS
      have HW := Lib.hid (works22_any w hk hks)
      clear hk hks ha hb hS
      have HM1 := Lib.hid (mgOf_ok i1L a i1_length HLA.out)
      have HM2 := Lib.hid (mgOf_ok i2L b i2_length HLB.out)
      have HD1 := Lib.hid (mgOf_dig i1L a)
      have HD2 := Lib.hid (mgOf_dig i2L b)
      have HPS1 := Lib.hid (mgOf_len i1L a)
      have HPS2 := Lib.hid (mgOf_len i2L b)
      have HFL1 := Lib.hid (mgOf_flat i1L a)
      have HFL2 := Lib.hid (mgOf_flat i2L b)
      have HMI1 := Lib.hid (mgOf_id i1L a)
      have HMI2 := Lib.hid (mgOf_id i2L b)
      have HCP1 := Lib.hid (show ∀ k, k < cutN a → (cutL i1L a)[k]? = some ((mgOf i1L a).part k) from fun k hk => by rw [cutL_get _ _ k hk, mgOf_part _ _ _ hk])
      have HCP2 := Lib.hid (show ∀ k, k < cutN b → (cutL i2L b)[k]? = some ((mgOf i2L b).part k) from fun k hk => by rw [cutL_get _ _ k hk, mgOf_part _ _ _ hk])
      have HPL1 := Lib.hid (show ∀ k, k < cutN a → ((mgOf i1L a).part k).length ≤ 140737488355328 from fun k hk => by
        rw [mgOf_part _ _ _ hk, part_length _ _ _ i1_length]; have := pieceL_le a k; omega)
      have HPL2 := Lib.hid (show ∀ k, k < cutN b → ((mgOf i2L b).part k).length ≤ 140737488355328 from fun k hk => by
        rw [mgOf_part _ _ _ hk, part_length _ _ _ i2_length]; have := pieceL_le b k; omega)
      have hN1 := cutN_max a HLA.out
      have hN2 := cutN_max b HLB.out
      have hC1 := cutL_length i1L a
      have hC2 := cutL_length i2L b
      have HCU1 := Lib.hid (show ∀ W : World, KsAt W → 1 < W.heap.size → Calls Tryd.prog 9 #[.string ⟨#[109, 101, 115, 115, 97, 103, 101, 49]⟩, .string ⟨a.toArray⟩] W fun e w' => ∃ v, e = .returned (.tuple #[v, .int .i64 0]) ∧ Win 9 w' W.heap.size v (cstr (cutL i1L a)) ∧ Below W.heap.size W w' from fun W h1 h2 => cut_any i1L a W i1_length HLA.out h1 h2)
      have HCU2 := Lib.hid (show ∀ W : World, KsAt W → 1 < W.heap.size → Calls Tryd.prog 9 #[.string ⟨#[109, 101, 115, 115, 97, 103, 101, 50]⟩, .string ⟨b.toArray⟩] W fun e w' => ∃ v, e = .returned (.tuple #[v, .int .i64 0]) ∧ Win 9 w' W.heap.size v (cstr (cutL i2L b)) ∧ Below W.heap.size W w' from fun W h1 h2 => cut_any i2L b W i2_length HLB.out h1 h2)
      obtain ⟨L1, hL1⟩ : ∃ L, Hid (cutL i1L a = L) := ⟨_, Lib.hid rfl⟩
      obtain ⟨L2, hL2⟩ : ∃ L, Hid (cutL i2L b = L) := ⟨_, Lib.hid rfl⟩
      obtain ⟨M1, hM1⟩ : ∃ M, Hid (mgOf i1L a = M) := ⟨_, Lib.hid rfl⟩
      obtain ⟨M2, hM2⟩ : ∃ M, Hid (mgOf i2L b = M) := ⟨_, Lib.hid rfl⟩
      obtain ⟨N1, hNN1⟩ : ∃ N, Hid (cutN a = N) := ⟨_, Lib.hid rfl⟩
      obtain ⟨N2, hNN2⟩ : ∃ N, Hid (cutN b = N) := ⟨_, Lib.hid rfl⟩
      rw [hL1.out] at HCP1 HCU1 hC1
      rw [hL2.out] at HCP2 HCU2 hC2
      rw [hM1.out] at HM1 HD1 HPS1 HFL1 HMI1 HCP1 HPL1
      rw [hM2.out] at HM2 HD2 HPS2 HFL2 HMI2 HCP2 HPL2
      rw [hNN1.out] at HPS1 HCP1 HPL1 hN1 hC1
      rw [hNN2.out] at HPS2 HCP2 HPL2 hN2 hC2
      have HC1 := Lib.hid hC1
      have HC2 := Lib.hid hC2
      have HNI := Lib.hid (show M1.id ≠ M2.id by rw [HMI1.out, HMI2.out]; decide)
      obtain ⟨ab, AB⟩ : ∃ t : ByteArray, Hid (⟨a.toArray⟩ = t) := ⟨_, Lib.hid rfl⟩
      obtain ⟨bb, BB⟩ : ∃ t : ByteArray, Hid (⟨b.toArray⟩ = t) := ⟨_, Lib.hid rfl⟩
      rw [AB.out] at HCU1 ⊢
      rw [BB.out] at HCU2 ⊢
      clear hL1 hL2 hM1 hM2 hNN1 hNN2 hC1 hC2
      have hmm := @run_makeMap Tryd.prog
      go_enter Tryd.func5, Tryd.ntmps5
      go_wp2_with fail
      refine HW.out.mono ?_
      rintro e w1 ⟨rfl, b1⟩
      have B1 := Lib.hid b1
      have K1 := Lib.hid (HK.out.below HKS.out b1)
      have S1 := Lib.hid (Nat.lt_of_lt_of_le HKS.out b1.size)
      clear b1
      go_wp2_with fail
      refine (HCU1.out w1 K1.out S1.out).mono ?_
      rintro e w2 ⟨v1, rfl, hW1, b2⟩
      obtain ⟨A1, c1, rfl, hP1⟩ := hW1.pts
      rw [HC1.out] at hP1 ⊢
      have P1 := Lib.hid hP1
      have B2 := Lib.hid (B1.out.trans (b2.mono B1.out.size))
      have K2 := Lib.hid (K1.out.below S1.out b2)
      have S2 := Lib.hid (Nat.lt_of_lt_of_le S1.out b2.size)
      clear hW1 hP1 b2
      go_wp2_with fail
      refine (HCU2.out w2 K2.out S2.out).mono ?_
      rintro e w3 ⟨v2, rfl, hW2, b3⟩
      obtain ⟨A2, c2, rfl, hP2⟩ := hW2.pts
      rw [HC2.out] at hP2 ⊢
      have P2 := Lib.hid hP2
      have P13 := Lib.hid (P1.out.below b3)
      have B3 := Lib.hid (B2.out.trans (b3.mono B2.out.size))
      have K3 := Lib.hid (K2.out.below S2.out b3)
      have S3 := Lib.hid (Nat.lt_of_lt_of_le S2.out b3.size)
      have Z3 := Lib.hid b3.size
      clear hW2 hP2 b3
      go_wp2_with fail
      refine (new2_any w3).mono ?_
      rintro e w4 ⟨rfl, hJ, b4⟩
      have J4 := Lib.hid (JW.start hJ b4 K3.out S3.out)
      have P14 := Lib.hid (show Pts w3.heap.size w4 A1 N1 c1 L1 from (P13.out.up Z3.out).below b4)
      have P24 := Lib.hid (P2.out.below b4)
      have B4 := Lib.hid (B3.out.trans (b4.mono B3.out.size))
      have B3s := Lib.hid B3.out.size
      clear hJ b4 P1 P13 P2 B1 B2 B3 K1 K2 K3 S1 S2 S3 Z3 HCU1 HCU2
      obtain ⟨j, hj⟩ : ∃ j, Hid (w3.heap.size = j) := ⟨_, Lib.hid rfl⟩
      rw [hj.out]
      go_upto_block 10 with fail
      obtain ⟨g, hg⟩ : ∃ g, Hid (w4.heap.size = g) := ⟨_, Lib.hid rfl⟩
      have HMX := Lib.hid (show MX w (w4.alloc (.map #[] 0)) w3.heap.size j w4.heap.size M1 M2 N1 N2 0 0 A1 A2 c1 c2 L1 L2 a b (newJ 2 2) from by
        have hg1 := Got.start M1 HM1.out 2 2
        have hg2 := Got.start M2 HM2.out 2 2
        rw [HPS1.out, ← firstC_zero] at hg1
        rw [HPS2.out, ← firstC_zero] at hg2
        refine ⟨?_, ⟨B3s.out, J4.out.bs⟩, ⟨hg1, hg2, by simp [newJ], rfl, rfl⟩, ?_, B4.out.alloc B4.out.size _, ?_, ?_⟩
        · rw [← hj.out]
          exact J4.out.more ((Below.refl _ _).alloc (Nat.le_refl _) _) w4.heap.size (Nat.le_refl _) (by simp)
        · rw [decide_eq_false (by omega), decide_eq_false (by omega)]
          exact MapS.made w4 HNI.out ⟨by rw [HMI1.out, i1_length]; decide, by rw [HMI2.out, i2_length]; decide, by have := HLA.out; omega, by have := HLB.out; omega⟩
        · simpa using P14.out.below ((Below.refl _ _).alloc J4.out.bs _)
        · simpa using P24.out.below ((Below.refl _ _).alloc J4.out.bs _))
      rw [hg.out] at HMX ⊢
      obtain ⟨B, hB⟩ : ∃ B, Hid (w3.heap.size = B) := ⟨_, Lib.hid rfl⟩
      rw [hB.out] at HMX
      clear J4 P14 P24 B4 B3s hg hB hj hmm
      go_loopg [7, 9, 14] (N1 + N2 + 1) (fun kq v7 v9 v14 wr => ∃ (x1 x2 i X1 X2 : Nat) (A1 A2 : Option Addr) (c1 c2 : Nat) (J : Jn), x1 + X1 = N1 ∧ x2 + X2 = N2 ∧ Hid (x1 + x2 = i) ∧ kq = X1 + X2 + 1 ∧ v14 = .int .i64 i ∧ v7 = .slice A1 X1 c1 ∧ v9 = .slice A2 X2 c2 ∧ Hid (MX w wr B j g M1 M2 N1 N2 x1 x2 A1 A2 c1 c2 L1 L2 a b J))
      case atStart => exact ⟨0, 0, 0, N1, N2, A1, A2, c1, c2, _, by omega, by omega, Lib.hid rfl, rfl, rfl, rfl, rfl, HMX⟩
      case round =>
        clear HMX
        obtain ⟨x1, x2, i, X1, X2, A1, A2, c1, c2, J, h1, h2, hi, rfl, rfl, rfl, rfl, HL⟩ := hrel
        by_cases hend : X1 = 0 ∧ X2 = 0
        · obtain ⟨rfl, rfl⟩ := hend
          obtain rfl : x1 = N1 := by omega
          obtain rfl : x2 = N2 := by omega
          have hm := HL.out.mp
          rw [decide_eq_true rfl, decide_eq_true rfl] at hm
          obtain ⟨m1, m2, m3⟩ := hm.done
          rw [HMI1.out, AB.out] at m2
          rw [HMI2.out, BB.out] at m3
          have m2' : (Instr.lookup 34 (.map (some g)) (.string ⟨#[109, 101, 115, 115, 97, 103, 101, 49]⟩) false).run Tryd.prog wr = .ok (.string ab) wr := m2
          have m3' : (Instr.lookup 34 (.map (some g)) (.string ⟨#[109, 101, 115, 115, 97, 103, 101, 50]⟩) false).run Tryd.prog wr = .ok (.string bb) wr := m3
          clear hm m2 m3 h1 h2
          go_wp2_with fail
          go_ret
          exact ⟨rfl, HL.out.b⟩
        · have hi22 : i ≤ 22 := by have := hi.out; omega
          have hsum : 0 < (X1 : Int) + (X2 : Int) ∧ (X1 : Int) ≤ 11 ∧ (X2 : Int) ≤ 11 := by omega
          have hfs : ((X2 = 0 ∧ 0 < X1) ∨ (0 < X2 ∧ 0 < X1 ∧ i < n ∧ ts.getD i false = true)) ∨ ((0 < X2 ∧ X1 = 0) ∨ (0 < X2 ∧ 0 < X1 ∧ n ≤ i) ∨ (0 < X2 ∧ 0 < X1 ∧ i < n ∧ ts.getD i false = false)) := by
            rcases Nat.eq_zero_or_pos X2 with h | h
            · exact .inl (.inl ⟨h, by omega⟩)
            · rcases Nat.eq_zero_or_pos X1 with h' | h'
              · exact .inr (.inl ⟨h, h'⟩)
              · rcases Nat.lt_or_ge i n with h3 | h3
                · cases h4 : ts.getD i false
                  · exact .inr (.inr (.inr ⟨h, h', h3, rfl⟩))
                  · exact .inl (.inr ⟨h, h', h3, rfl⟩)
                · exact .inr (.inr (.inl ⟨h, h', h3⟩))
          clear hend
          rcases hfs with hfs | hfs
          · rcases hfs with ⟨rfl, q1⟩ | ⟨q2, q1, q3, q4⟩
            case' inl =>
              go_upto_region 13 with fail
            case' inr =>
              have f1 : ((X2 : Int) == 0) = false := by simp; omega
              have f2 : 0 < (X1 : Int) := by omega
              have f3 : (i : Int) < (n : Int) := by omega
              obtain ⟨tb, to_, eA, htb, htc⟩ := HS.out.2 (by omega)
              subst eA
              have hct : wr.cell? ⟨tb, to_ + i, none⟩ = some (.bool true) := by rw [← q4]; exact (HL.out.b.cell (p := ⟨tb, to_ + i, none⟩) htb).trans (htc i q3)
              clear htc
              go_upto_region 13 with fail
            all_goals
              have hlt : x1 < N1 := by omega
              obtain ⟨s, hs⟩ : ∃ s, Hid (M1.part x1 = s) := ⟨_, Lib.hid rfl⟩
              have hdr : L1.drop x1 = s :: L1.drop (x1 + 1) := by rw [← hs.out]; exact drop_part (HCP1.out x1 hlt)
              have hp0 := HL.out.p1
              rw [hdr, show N1 - x1 = X1 by omega] at hp0
              obtain ⟨qb, qo, rfl⟩ := hp0.some (by omega)
              obtain ⟨qo', hsl, hp1⟩ := pts_tail hp0
              have HP1 := Lib.hid (show Pts B wr (some ⟨qb, qo', none⟩) (N1 - x1 - 1) (c1 - 1) (L1.drop (x1 + 1)) by rw [show N1 - x1 - 1 = X1 - 1 by omega]; exact hp1)
              have hc0 := (hp0.cell 0 s rfl).2
              simp only [Nat.add_zero] at hc0
              have hple := HPL1.out x1 hlt
              rw [hs.out] at hple
              have HPLE := Lib.hid hple
              obtain ⟨sb, SB⟩ : ∃ t : ByteArray, Hid (⟨s.toArray⟩ = t) := ⟨_, Lib.hid rfl⟩
              rw [SB.out] at hc0
              have hposi : (0 : Int) < (X1 : Int) := by omega
              have hpos : 0 < X1 := by omega
              have hc0' : wr.drew.cell? ⟨qb, qo, none⟩ = some (.string sb) := hc0
              have hcc : (1 : Int) ≤ (X1 : Int) ∧ (X1 : Int) ≤ (c1 : Int) := by have := hp0.cap; omega
              obtain ⟨hT, _⟩ := HL.out.two.next HM1.out HD1.out hlt HNI.out.symm
              have HT := Lib.hid hT
              clear hp0 hp1 hdr hple hT
              go_upto_region 15 with fail
              go_quiet (fail)
              by_cases hlast : x1 + 1 = N1
              · obtain ⟨vb, VB⟩ : ∃ t : ByteArray, Hid (⟨M1.id.toArray⟩ = t) := ⟨_, Lib.hid rfl⟩
                have HLAST := Lib.hid hlast
                have TK := Lib.hid (show ∀ W, JW B W (fun q => q = g ∨ False) j J → Calls Tryd.prog 15 #[.pointer (some ⟨j, 0, none⟩), .string sb] W fun e w' => e = .returned (.tuple #[.agg #[.string vb, .string ab], .bool true, .int .i64 0]) ∧ JNext B W w' (fun q => q = g ∨ False) j (takeF J (M1.part x1)).1 from fun W hW => by
                  rw [← SB.out]
                  refine (take_jw hW s HPLE.out).mono ?_
                  rintro e w5 ⟨rfl, hN⟩
                  rw [← hs.out] at hN ⊢
                  rw [HT.out, if_pos hlast]
                  refine ⟨?_, hN⟩
                  rw [HFL1.out, ← VB.out, ← AB.out]
                  rfl)
                clear hlast
                go_wp2_with fail
                refine (TK.out _ (HL.out.jw.below (below_drewN (Below.refl _ _) _))).mono ?_
                rintro e w5 ⟨rfl, N5⟩
                have N5' : JNext B wr w5 (fun q => q = g ∨ False) j (takeF J (M1.part x1)).1 := ⟨N5.j, (below_drewN (Below.refl _ _) _).trans N5.b, N5.o⟩
                clear N5 TK hsl hc0 hc0'
                go_upto_region 18 with (first
                  | ((with_reducible refine gate_store (t := 36) (p := 17) (v := .tmp 104) rfl ?_); refine wpList_store_row rfl 36 (.tmp 17) (.tmp 104) rfl w5.heap.size #[.string vb, .string ab] rfl rfl 36 zTold (Blk.new w5 36 zTold) size_told rfl (one_told2 _ _) ?_))
                obtain ⟨gx, hgx⟩ : ∃ g, Hid (w5.heap.size = g) := ⟨_, Lib.hid rfl⟩
                refine gworld (fun W => Hid (JNext B wr W (fun q => q = g ∨ False) j (takeF J (M1.part x1)).1) ∧ Hid (Blk W gx 36 #[.string vb, .string ab])) ⟨Lib.hid (N5'.below (below_newrow w5 _ _)), Lib.hid (by rw [← hgx.out]; exact (Blk.new w5 36 zTold).setRow _)⟩ ?_
                clear N5'
                rintro w6 ⟨N6, M6⟩
                rw [hgx.out]
                clear hgx
                have hm6 := HL.out.mp.kept (N6.out.o g (.inl rfl))
                rw [decide_eq_false (show ¬ x1 = N1 by omega)] at hm6
                obtain ⟨lv, hlk⟩ := hm6.look1
                obtain ⟨w7, hup, hm7, hg7⟩ := hm6.put1
                rw [VB.out] at hlk hup
                rw [AB.out] at hup
                have m0 : w6.cell? ⟨gx, 0, none⟩ = some (.string vb) := M6.out.cell 0
                have m1 : w6.cell? ⟨gx, 1, none⟩ = some (.string ab) := M6.out.cell 1
                have HX := Lib.hid (HL.out.told1 HM1.out HD1.out N6.out HLAST.out HP1.out hg7 hm7)
                clear hm6 hm7 hg7
                go_wp2_with fail
                go_roundg ((N1 - x1) + (N2 - x2))
                case measure => omega
                case rel => exact ⟨x1 + 1, x2, i + 1, X1 - 1, _, _, _, _, _, _, by omega, by omega, Lib.hid (by have := hi.out; omega), by omega, by go_num, rfl, rfl, HX⟩
              · have TK := Lib.hid (show ∀ W, JW B W (fun q => q = g ∨ False) j J → Calls Tryd.prog 15 #[.pointer (some ⟨j, 0, none⟩), .string sb] W fun e w' => e = .returned (.tuple #[.agg zTold, .bool false, .int .i64 0]) ∧ JNext B W w' (fun q => q = g ∨ False) j (takeF J (M1.part x1)).1 from fun W hW => by
                  rw [← SB.out]
                  refine (take_jw hW s HPLE.out).mono ?_
                  rintro e w5 ⟨rfl, hN⟩
                  rw [← hs.out] at hN ⊢
                  rw [HT.out, if_neg hlast]
                  exact ⟨rfl, hN⟩)
                have HLAST := Lib.hid hlast
                clear hlast
                go_wp2_with fail
                refine (TK.out _ (HL.out.jw.below (below_drewN (Below.refl _ _) _))).mono ?_
                rintro e w5 ⟨rfl, N5⟩
                have N5' : JNext B wr w5 (fun q => q = g ∨ False) j (takeF J (M1.part x1)).1 := ⟨N5.j, (below_drewN (Below.refl _ _) _).trans N5.b, N5.o⟩
                have HX5 := Lib.hid (HL.out.one HM1.out HD1.out hlt N5' (by have := HLAST.out; omega) HP1.out)
                clear N5 N5' TK hsl hc0 hc0'
                go_upto_region 18 with (first
                  | ((with_reducible refine gate_store (t := 36) (p := 17) (v := .tmp 104) rfl ?_); refine wpList_store_row rfl 36 (.tmp 17) (.tmp 104) rfl w5.heap.size zTold rfl rfl 36 zTold (Blk.new w5 36 zTold) size_told rfl one_ztold ?_))
                have HX := Lib.hid (HX5.out.below (below_newrow w5 (.cells zTold 36) zTold))
                clear HX5
                go_wp2_with fail
                go_roundg ((N1 - x1) + (N2 - x2))
                case measure => omega
                case rel => exact ⟨x1 + 1, x2, i + 1, X1 - 1, _, _, _, _, _, _, by omega, by omega, Lib.hid (by have := hi.out; omega), by omega, by go_num, rfl, rfl, HX⟩
          · rcases hfs with ⟨q2, rfl⟩ | ⟨q2, q1, q3⟩ | ⟨q2, q1, q3, q4⟩
            case' inr.inl =>
              have f1 : ((X2 : Int) == 0) = false := by simp; omega
              go_upto_region 13 with fail
            case' inr.inr.inl =>
              have f1 : ((X2 : Int) == 0) = false := by simp; omega
              have f2 : 0 < (X1 : Int) := by omega
              have f3 : decide ((i : Int) < (n : Int)) = false := decide_eq_false (by omega)
              have f4 : decide (i < n) = false := decide_eq_false (by omega)
              go_upto_region 13 with fail
            case' inr.inr.inr =>
              have f1 : ((X2 : Int) == 0) = false := by simp; omega
              have f2 : 0 < (X1 : Int) := by omega
              have f3 : (i : Int) < (n : Int) := by omega
              obtain ⟨tb, to_, eA, htb, htc⟩ := HS.out.2 (by omega)
              subst eA
              have hct : wr.cell? ⟨tb, to_ + i, none⟩ = some (.bool false) := by rw [← q4]; exact (HL.out.b.cell (p := ⟨tb, to_ + i, none⟩) htb).trans (htc i q3)
              clear htc
              go_upto_region 13 with fail
            all_goals
              have hlt : x2 < N2 := by omega
              obtain ⟨s, hs⟩ : ∃ s, Hid (M2.part x2 = s) := ⟨_, Lib.hid rfl⟩
              have hdr : L2.drop x2 = s :: L2.drop (x2 + 1) := by rw [← hs.out]; exact drop_part (HCP2.out x2 hlt)
              have hp0 := HL.out.p2
              rw [hdr, show N2 - x2 = X2 by omega] at hp0
              obtain ⟨qb, qo, rfl⟩ := hp0.some (by omega)
              obtain ⟨qo', hsl, hp1⟩ := pts_tail hp0
              have HP1 := Lib.hid (show Pts B wr (some ⟨qb, qo', none⟩) (N2 - x2 - 1) (c2 - 1) (L2.drop (x2 + 1)) by rw [show N2 - x2 - 1 = X2 - 1 by omega]; exact hp1)
              have hc0 := (hp0.cell 0 s rfl).2
              simp only [Nat.add_zero] at hc0
              have hple := HPL2.out x2 hlt
              rw [hs.out] at hple
              have HPLE := Lib.hid hple
              obtain ⟨sb, SB⟩ : ∃ t : ByteArray, Hid (⟨s.toArray⟩ = t) := ⟨_, Lib.hid rfl⟩
              rw [SB.out] at hc0
              have hposi : (0 : Int) < (X2 : Int) := by omega
              have hpos : 0 < X2 := by omega
              have hc0' : wr.drew.cell? ⟨qb, qo, none⟩ = some (.string sb) := hc0
              have hcc : (1 : Int) ≤ (X2 : Int) ∧ (X2 : Int) ≤ (c2 : Int) := by have := hp0.cap; omega
              obtain ⟨hT, _⟩ := HL.out.two.swap.next HM2.out HD2.out hlt HNI.out
              have HT := Lib.hid hT
              clear hp0 hp1 hdr hple hT
              go_upto_region 16 with fail
              go_quiet (fail)
              by_cases hlast : x2 + 1 = N2
              · obtain ⟨vb, VB⟩ : ∃ t : ByteArray, Hid (⟨M2.id.toArray⟩ = t) := ⟨_, Lib.hid rfl⟩
                have HLAST := Lib.hid hlast
                have TK := Lib.hid (show ∀ W, JW B W (fun q => q = g ∨ False) j J → Calls Tryd.prog 15 #[.pointer (some ⟨j, 0, none⟩), .string sb] W fun e w' => e = .returned (.tuple #[.agg #[.string vb, .string bb], .bool true, .int .i64 0]) ∧ JNext B W w' (fun q => q = g ∨ False) j (takeF J (M2.part x2)).1 from fun W hW => by
                  rw [← SB.out]
                  refine (take_jw hW s HPLE.out).mono ?_
                  rintro e w5 ⟨rfl, hN⟩
                  rw [← hs.out] at hN ⊢
                  rw [HT.out, if_pos hlast]
                  refine ⟨?_, hN⟩
                  rw [HFL2.out, ← VB.out, ← BB.out]
                  rfl)
                clear hlast
                go_wp2_with fail
                refine (TK.out _ (HL.out.jw.below (below_drewN (Below.refl _ _) _))).mono ?_
                rintro e w5 ⟨rfl, N5⟩
                have N5' : JNext B wr w5 (fun q => q = g ∨ False) j (takeF J (M2.part x2)).1 := ⟨N5.j, (below_drewN (Below.refl _ _) _).trans N5.b, N5.o⟩
                clear N5 TK hsl hc0 hc0'
                go_upto_region 18 with (first
                  | ((with_reducible refine gate_store (t := 36) (p := 17) (v := .tmp 104) rfl ?_); refine wpList_store_row rfl 36 (.tmp 17) (.tmp 104) rfl w5.heap.size #[.string vb, .string bb] rfl rfl 36 zTold (Blk.new w5 36 zTold) size_told rfl (one_told2 _ _) ?_))
                obtain ⟨gx, hgx⟩ : ∃ g, Hid (w5.heap.size = g) := ⟨_, Lib.hid rfl⟩
                refine gworld (fun W => Hid (JNext B wr W (fun q => q = g ∨ False) j (takeF J (M2.part x2)).1) ∧ Hid (Blk W gx 36 #[.string vb, .string bb])) ⟨Lib.hid (N5'.below (below_newrow w5 _ _)), Lib.hid (by rw [← hgx.out]; exact (Blk.new w5 36 zTold).setRow _)⟩ ?_
                clear N5'
                rintro w6 ⟨N6, M6⟩
                rw [hgx.out]
                clear hgx
                have hm6 := HL.out.mp.kept (N6.out.o g (.inl rfl))
                rw [decide_eq_false (show ¬ x2 = N2 by omega)] at hm6
                obtain ⟨lv, hlk⟩ := hm6.look2
                obtain ⟨w7, hup, hm7, hg7⟩ := hm6.put2
                rw [VB.out] at hlk hup
                rw [BB.out] at hup
                have m0 : w6.cell? ⟨gx, 0, none⟩ = some (.string vb) := M6.out.cell 0
                have m1 : w6.cell? ⟨gx, 1, none⟩ = some (.string bb) := M6.out.cell 1
                have HX := Lib.hid (HL.out.told2 HM2.out HD2.out N6.out HLAST.out HP1.out hg7 hm7)
                clear hm6 hm7 hg7
                go_wp2_with fail
                go_roundg ((N1 - x1) + (N2 - x2))
                case measure => omega
                case rel => exact ⟨x1, x2 + 1, i + 1, _, X2 - 1, _, _, _, _, _, by omega, by omega, Lib.hid (by have := hi.out; omega), by omega, by go_num, rfl, rfl, HX⟩
              · have TK := Lib.hid (show ∀ W, JW B W (fun q => q = g ∨ False) j J → Calls Tryd.prog 15 #[.pointer (some ⟨j, 0, none⟩), .string sb] W fun e w' => e = .returned (.tuple #[.agg zTold, .bool false, .int .i64 0]) ∧ JNext B W w' (fun q => q = g ∨ False) j (takeF J (M2.part x2)).1 from fun W hW => by
                  rw [← SB.out]
                  refine (take_jw hW s HPLE.out).mono ?_
                  rintro e w5 ⟨rfl, hN⟩
                  rw [← hs.out] at hN ⊢
                  rw [HT.out, if_neg hlast]
                  exact ⟨rfl, hN⟩)
                have HLAST := Lib.hid hlast
                clear hlast
                go_wp2_with fail
                refine (TK.out _ (HL.out.jw.below (below_drewN (Below.refl _ _) _))).mono ?_
                rintro e w5 ⟨rfl, N5⟩
                have N5' : JNext B wr w5 (fun q => q = g ∨ False) j (takeF J (M2.part x2)).1 := ⟨N5.j, (below_drewN (Below.refl _ _) _).trans N5.b, N5.o⟩
                have HX5 := Lib.hid (HL.out.two_ HM2.out HD2.out hlt N5' (by have := HLAST.out; omega) HP1.out)
                clear N5 N5' TK hsl hc0 hc0'
                go_upto_region 18 with (first
                  | ((with_reducible refine gate_store (t := 36) (p := 17) (v := .tmp 104) rfl ?_); refine wpList_store_row rfl 36 (.tmp 17) (.tmp 104) rfl w5.heap.size zTold rfl rfl 36 zTold (Blk.new w5 36 zTold) size_told rfl one_ztold ?_))
                have HX := Lib.hid (HX5.out.below (below_newrow w5 (.cells zTold 36) zTold))
                clear HX5
                go_wp2_with fail
                go_roundg ((N1 - x1) + (N2 - x2))
                case measure => omega
                case rel => exact ⟨x1, x2 + 1, i + 1, _, X2 - 1, _, _, _, _, _, by omega, by omega, Lib.hid (by have := hi.out; omega), by omega, by go_num, rfl, rfl, HX⟩
end Go.Proofs.YtlogcgeinbefjaaDoor
namespace Go.Proofs.YtlogcgeinbefjaaDoor
open Go.ChangeShapes Go.WideShapes Go.ChangeAt Go.RowKit
set_option linter.unusedSimpArgs false
set_option linter.unusedVariables false
section
variable {H : Type} {enc : TypeId × Value → H} {P : Program} {w : World} {base : Nat} {held : Bool} {r : Reach} {b0 : Nat} {t e : TypeId} {v : Value} {d : DataW H} {ps : List MemPlace}
theorem open_boolsl (ht : P.underlying t = some (.slice e)) (he : P.underlying e = some .bool) (hc : P.cellsOf e = 1) (hval : Value.okWide P w r b0 t v) (hd : DataW.Trod enc P w base (fun _ => true) held t v d ps) :
    ∃ A n c zs, v = .slice A n c ∧ Bools w A n zs ∧ SlD d n c (zs.map fun b => .lit (.bool b)) := by
  obtain ⟨a0, len, cap, rfl⟩ := okWide_slice ht hval
  obtain ⟨fuel, hf⟩ := hd
  rcases Deep.open_bools ht he hc hf with ⟨hcs, hx⟩ | ⟨a, len', cap', B, hcs, _, hl, hm, hx, hcell⟩
  · simp [Value.cells] at hcs
    simp only [Prod.mk.injEq] at hx
    obtain ⟨rfl, rfl, rfl⟩ := hcs
    exact ⟨none, 0, 0, [], rfl, ⟨rfl, fun h => absurd h (by decide)⟩, Or.inl ⟨rfl, rfl, rfl, hx.1⟩⟩
  · simp [Value.cells] at hcs
    obtain ⟨rfl, rfl, rfl⟩ := hcs
    simp only [Prod.mk.injEq] at hx
    refine ⟨some a, len, cap, (List.range len).map B, rfl, ⟨by simp, fun hn => ?_⟩, Or.inr ⟨_, by rw [hx.1, List.map_map]; rfl, by simp, hl, hm⟩⟩
    have c0 := hcell 0 (by omega)
    have hs : a.spot = none := by have := spot_none c0; rwa [Addr.add, if_pos rfl] at this
    refine ⟨a.block, a.off, by cases a; simp_all, ?_, fun i hi => ?_⟩
    · rw [my_add_plain hs] at c0
      exact block_lt_of_cell (a := ⟨a.block, a.off + 0, none⟩) c0
    · have ci := hcell i (by omega)
      rw [my_add_plain hs] at ci
      rw [ci, List.getD_eq_getElem?_getD, List.getElem?_map, List.getElem?_range hi]
      rfl
end
end Go.Proofs.YtlogcgeinbefjaaDoor

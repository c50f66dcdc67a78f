/- The law DiskFuses. -/
import Derived.Test.YtbbmhcloigphjaaDkV
namespace Go.Proofs.Ytbbmhcloigphjaa
open Go.RowKit Go.Proofs.YtbbmhcloigphjaaW.PrintWords Go.Proofs.YtbbmhcloigphjaaW.PrintLast
set_option linter.unusedSimpArgs false
set_option linter.unusedVariables false
/-- behind k calls under a fuse of N. -/
structure Burnt (N k : Nat) (d : Dk) : Prop where
  l : d.l.length = 4
  w : d.w.length ≤ k
  up : k < N → d.down = false ∧ d.fuse = (N : Int) - k
  dn : N ≤ k → d.down = true
def fres (N k : Nat) : Int := if k + 1 < N then 0 else 150
theorem there_down {d : Dk} (h : d.down = true) (i : Int) : d.there i = 150 := by unfold Dk.there; rw [if_pos h]
theorem write_plain {N k : Nat} {d : Dk} (h : Burnt N k d) {m : Nat} (hm : m < 4) {s : List UInt8} (hs : s.length = 64) : (d.write m s).1 = fres N k ∧ Burnt N (k + 1) (d.write m s).2 := by
  by_cases hk : k < N
  · obtain ⟨hd, hf⟩ := h.up hk
    have ht : d.there (m : Int) = 0 := by unfold Dk.there; rw [if_neg (by rw [hd]; decide), if_neg (by rw [h.l]; omega)]
    have hb : d.burn = { d with fuse := d.fuse - 1, down := d.down || decide (d.fuse = 1) } := by unfold Dk.burn; rw [if_pos (by omega)]
    by_cases h1 : k + 1 < N
    · have hbd : d.burn.down = false := by rw [hb]; simp [hd]; omega
      have e : d.write m s = (0, d.burn.put m s) := by
        unfold Dk.write; rw [if_neg (by rw [ht]; decide), if_neg (by rw [hs]; decide), if_neg (by rw [hbd]; decide)]; simp
      rw [e]
      refine ⟨by unfold fres; rw [if_pos h1], ⟨?_, ?_, fun _ => ⟨hbd, ?_⟩, fun hn => absurd hn (by omega)⟩⟩
      · show (d.burn.l.set m s).length = 4; rw [List.length_set, hb]; exact h.l
      · show (d.burn.w ++ [_]).length ≤ k + 1; rw [List.length_append, hb]; have := h.w; simp only [List.length_singleton]; omega
      · show d.burn.fuse = _; rw [hb]; show d.fuse - 1 = _; omega
    · have hbd : d.burn.down = true := by rw [hb]; simp [hd]; omega
      have e : d.write m s = (150, d.burn) := by
        unfold Dk.write; rw [if_neg (by rw [ht]; decide), if_neg (by rw [hs]; decide), if_pos hbd]
      rw [e]
      refine ⟨by unfold fres; rw [if_neg h1], ⟨?_, ?_, fun hn => absurd hn h1, fun _ => hbd⟩⟩
      · rw [hb]; exact h.l
      · rw [hb]; have := h.w; show d.w.length ≤ k + 1; omega
  · have hd := h.dn (by omega)
    have e : d.write m s = (150, d) := by unfold Dk.write; rw [there_down hd, if_pos (by decide)]
    rw [e]
    exact ⟨by unfold fres; rw [if_neg (by omega)], ⟨h.l, by have := h.w; show d.w.length ≤ k + 1; omega, fun hn => absurd hn (by omega), fun _ => hd⟩⟩
theorem sync_plain {N k : Nat} {d : Dk} (h : Burnt N k d) : d.sync.1 = fres N k ∧ Burnt N (k + 1) d.sync.2 := by
  by_cases hk : k < N
  · obtain ⟨hd, hf⟩ := h.up hk
    have hb : d.burn = { d with fuse := d.fuse - 1, down := d.down || decide (d.fuse = 1) } := by unfold Dk.burn; rw [if_pos (by omega)]
    by_cases h1 : k + 1 < N
    · have hbd : d.burn.down = false := by rw [hb]; simp [hd]; omega
      have e : d.sync = (0, { d.burn with w := [] }) := by
        unfold Dk.sync; rw [if_neg (by rw [hd]; decide), if_neg (by rw [hbd]; decide)]
      rw [e]
      refine ⟨by unfold fres; rw [if_pos h1], ⟨?_, Nat.zero_le _, fun _ => ⟨hbd, ?_⟩, fun hn => absurd hn (by omega)⟩⟩
      · show d.burn.l.length = 4; rw [hb]; exact h.l
      · show d.burn.fuse = _; rw [hb]; show d.fuse - 1 = _; omega
    · have hbd : d.burn.down = true := by rw [hb]; simp [hd]; omega
      have e : d.sync = (150, d.burn) := by
        unfold Dk.sync; rw [if_neg (by rw [hd]; decide), if_pos hbd]
      rw [e]
      refine ⟨by unfold fres; rw [if_neg h1], ⟨?_, ?_, fun hn => absurd hn h1, fun _ => hbd⟩⟩
      · rw [hb]; exact h.l
      · rw [hb]; have := h.w; show d.w.length ≤ k + 1; omega
  · have hd := h.dn (by omega)
    have e : d.sync = (150, d) := by unfold Dk.sync; rw [if_pos hd]
    rw [e]
    exact ⟨by unfold fres; rw [if_neg (by omega)], ⟨h.l, by have := h.w; show d.w.length ≤ k + 1; omega, fun hn => absurd hn (by omega), fun _ => hd⟩⟩
section
variable {B : Nat} {w : World} {g N k : Nat} {d : Dk}
theorem write_f (h : DkAt B w g d) (hF : Burnt N k d) (m : Nat) (hm : m < 4) (s : List UInt8) (hs : s.length = 64) (hk : k < 1000) :
    Calls Try.prog 11 #[.pointer (some ⟨g, 0, none⟩), .int .i64 (m : Nat), .string ⟨s.toArray⟩] w fun e w' => ∃ d', e = .returned (.int .i64 (fres N k)) ∧ DkAt B w' g d' ∧ Burnt N (k + 1) d' ∧ Fr B w w' := by
  obtain ⟨a, vw, h⟩ := h
  refine (write_any h (m : Int) s (by have := hF.w; omega)).mono ?_
  rintro e w' ⟨rfl, h1, h2⟩
  obtain ⟨e1, e2⟩ := write_plain hF hm hs
  exact ⟨_, by rw [e1], h1, e2, h2⟩
theorem sync_f (h : DkAt B w g d) (hF : Burnt N k d) :
    Calls Try.prog 12 #[.pointer (some ⟨g, 0, none⟩)] w fun e w' => ∃ d', e = .returned (.int .i64 (fres N k)) ∧ DkAt B w' g d' ∧ Burnt N (k + 1) d' ∧ Fr B w w' := by
  obtain ⟨a, vw, h⟩ := h
  refine (sync_any h).mono ?_
  rintro e w' ⟨rfl, h1, h2⟩
  obtain ⟨e1, e2⟩ := sync_plain hF
  exact ⟨_, by rw [e1], h1, e2, h2⟩
theorem read_d (h : DkAt B w g d) (hd : d.down = true) (i : Int) :
    Calls Try.prog 14 #[.pointer (some ⟨g, 0, none⟩), .int .i64 i] w fun e w' => e = .returned (.tuple #[.string ⟨#[]⟩, .int .i64 150]) ∧ Below w.heap.size w w' := by
  obtain ⟨a, vw, h⟩ := h
  have := read_any h i
  rw [show d.read i = ([], 150) by unfold Dk.read; rw [there_down hd, if_pos (by decide)]] at this
  exact this
theorem sync_d (h : DkAt B w g d) (hd : d.down = true) :
    Calls Try.prog 12 #[.pointer (some ⟨g, 0, none⟩)] w fun e w' => e = .returned (.int .i64 150) ∧ DkAt B w' g d ∧ Fr B w w' := by
  obtain ⟨a, vw, h⟩ := h
  have := sync_any h
  rw [show d.sync = (150, d) by unfold Dk.sync; rw [if_pos hd]] at this
  exact this
theorem fuse_d (h : DkAt B w g d) (hd : d.down = true) (n : Int) :
    Calls Try.prog 18 #[.pointer (some ⟨g, 0, none⟩), .int .i64 n] w fun e w' => e = .returned (.int .i64 150) ∧ DkAt B w' g d ∧ Fr B w w' := by
  have := fuse_c h n
  rw [show d.setFuse n = (150, d) by unfold Dk.setFuse; rw [if_pos hd]] at this
  exact this
end
theorem redo_len (picks : List Int) (ws : List Wt) : ∀ (i : Nat) (l : List (List UInt8)), (redo picks i l ws).length = l.length := by
  induction ws with
  | nil => intro i l; rfl
  | cons x r ih => intro i l; rw [redo, ih]; unfold tear; rw [List.length_set]
set_option maxHeartbeats 1600000 in
theorem law_DiskFuses (z : Int) (A : Option Addr) (n c : Nat) (ls : List (List UInt8)) (w : World) (hS : Strs w A n ls) (hl : ∀ l ∈ ls, l.length ≤ 140737488351232) :
    Calls Try.prog 6 #[.int .i64 z, .slice A n c] w fun e w' => e = .returned (.bool true) ∧ Below w.heap.size w w' := by
  have HS := Lib.hid hS
  clear hS hl
  go_enter Try.func6, Try.ntmps6
  go_wp2_with fail
  refine (new_any 4 (by decide) (by decide) w).mono ?_
  rintro e w1 ⟨g, rfl, D, b_⟩
  have D1 := Lib.hid D
  have F1 := Lib.hid (Fr.of b_ (Nat.le_refl _))
  clear D b_
  go_wp2_with fail
  refine (works_any w1).mono ?_
  rintro e w2 ⟨rfl, b_⟩
  have D2 := Lib.hid (D1.out.below b_)
  have F2 := Lib.hid (F1.out.below b_ D1.out.hB)
  clear b_ F1 D1
  go_wp2_with fail
  refine (among_any z 30 (by decide) (by decide) w2).mono ?_
  rintro e w3 ⟨rfl, b_⟩
  have D3 := Lib.hid (D2.out.below b_)
  have F3 := Lib.hid (F2.out.below b_ D2.out.hB)
  have hq := amL_lt z 30 (by decide)
  obtain ⟨q, eq⟩ : ∃ q, amL z 30 = q := ⟨_, rfl⟩
  rw [eq] at hq ⊢
  obtain ⟨N, hN, hN1, hN2⟩ : ∃ N : Nat, (1 : Int) + (q : Int) = (N : Int) ∧ 1 ≤ N ∧ N ≤ 30 := ⟨1 + q, by omega, by omega, by omega⟩
  clear b_ F2 D2 eq
  go_wp2_with fail
  refine (fuse_c D3.out (N : Int)).mono ?_
  rintro e w4 ⟨rfl, D, f⟩
  have ef : (Dk.new 4).setFuse (N : Int) = (0, { Dk.new 4 with fuse := (N : Int) }) := by
    unfold Dk.setFuse; rw [if_neg (by decide), if_neg (by omega)]
  rw [ef] at D ⊢
  have D4 := Lib.hid D
  have F4 := Lib.hid (F3.out.trans f)
  clear D f D3 F3 ef hq hN
  go_wp2_with fail
  go_loopg [7, 8] 61 (fun kq v7 v8 wr => ∃ (k : Nat) (d : Dk), kq = 61 - k ∧ v7 = .int .i64 (k : Nat) ∧ v8 = .int .i64 (k : Nat) ∧ k ≤ 60 ∧ k ≤ n ∧ Hid (Burnt N k d) ∧ Hid (DkAt w.heap.size wr g d) ∧ Hid (Fr w.heap.size w wr))
  case atStart => exact ⟨0, _, rfl, rfl, rfl, by decide, Nat.zero_le _, Lib.hid ⟨rfl, Nat.le_refl _, fun _ => ⟨rfl, by show (N : Int) = _; omega⟩, fun h => absurd h (by omega)⟩, D4, F4⟩
  case round =>
    clear D4 F4
    obtain ⟨k, d, rfl, rfl, rfl, hk, hkn, HN, HD, HF⟩ := hrel
    by_cases hgo : k < n ∧ k < 60
    · obtain ⟨h1, h2⟩ := hgo
      by_cases h3 : k % 3 = 2
      · have ht3 : (k : Int).tmod 3 = 2 := by rw [Int.tmod_eq_emod_of_nonneg (by omega)]; omega
        go_wp2_with fail
        refine (sync_f HD.out HN.out).mono ?_
        rintro e w6 ⟨d', rfl, D, hF', f⟩
        have D6 := Lib.hid D
        have F6 := Lib.hid (HF.out.trans f)
        have N6 := Lib.hid hF'
        clear D f hF' HD HF HN ht3 h3
        by_cases hlt : k + 1 < N
        · rw [show fres N k = 0 from if_pos hlt]
          have hltI : ((k : Int) + 1 < (N : Int)) = True := eq_true (by omega)
          go_wp2_with fail
          go_roundg (61 - (k + 1))
          case measure => omega
          case rel => exact ⟨k + 1, d', rfl, by first | rfl | (congr 1; omega), by first | rfl | (congr 1; omega), by omega, by omega, N6, D6, F6⟩
        · rw [show fres N k = 150 from if_neg hlt]
          have hltI : ((k : Int) + 1 < (N : Int)) = False := eq_false (by omega)
          go_wp2_with fail
          go_roundg (61 - (k + 1))
          case measure => omega
          case rel => exact ⟨k + 1, d', rfl, by first | rfl | (congr 1; omega), by first | rfl | (congr 1; omega), by omega, by omega, N6, D6, F6⟩
      · obtain ⟨r, hr, hr2⟩ : ∃ r : Nat, (k : Int).tmod 3 = (r : Int) ∧ ((r : Int) == 2) = false := ⟨k % 3, by rw [Int.tmod_eq_emod_of_nonneg (by omega)]; omega, beq_eq_false_iff_ne.mpr (by omega)⟩
        obtain ⟨m, hm, hm4⟩ : ∃ m : Nat, (k : Int).tmod 4 = (m : Int) ∧ m < 4 := ⟨k % 4, by rw [Int.tmod_eq_emod_of_nonneg (by omega)]; omega, Nat.mod_lt _ (by decide)⟩
        obtain ⟨tg, tq, eA, htg, hc⟩ := HS.out.2 (by omega)
        subst eA
        have hck := (HF.out.b.cell (p := ⟨tg, tq + k, none⟩) htg).trans (hc k h1)
        obtain ⟨t, et⟩ : ∃ t, Hid (ls.getD k [] = t) := ⟨_, Lib.hid rfl⟩
        rw [et.out] at hck
        have HM := Lib.hid hm4
        clear hc h3
        go_wp2_with fail
        refine (sector_any t wr).mono ?_
        rintro e w5 ⟨rfl, b_⟩
        obtain ⟨s, es⟩ : ∃ s, Hid (secL t = s) := ⟨_, Lib.hid rfl⟩
        rw [es.out]
        have LS := Lib.hid (show s.length = 64 by rw [← es.out]; exact secL_length _)
        have D5 := Lib.hid (HD.out.below b_)
        have F5 := Lib.hid (HF.out.below b_ HD.out.hB)
        clear b_ HD HF hck
        go_wp2_with fail
        refine (write_f D5.out HN.out m HM.out s LS.out (by omega)).mono ?_
        rintro e w6 ⟨d', rfl, D, hF', f⟩
        have D6 := Lib.hid D
        have F6 := Lib.hid (F5.out.trans f)
        have N6 := Lib.hid hF'
        clear D f hF' D5 F5 HN hr hr2 hm
        by_cases hlt : k + 1 < N
        · rw [show fres N k = 0 from if_pos hlt]
          have hltI : ((k : Int) + 1 < (N : Int)) = True := eq_true (by omega)
          go_wp2_with fail
          go_roundg (61 - (k + 1))
          case measure => omega
          case rel => exact ⟨k + 1, d', rfl, by first | rfl | (congr 1; omega), by first | rfl | (congr 1; omega), by omega, by omega, N6, D6, F6⟩
        · rw [show fres N k = 150 from if_neg hlt]
          have hltI : ((k : Int) + 1 < (N : Int)) = False := eq_false (by omega)
          go_wp2_with fail
          go_roundg (61 - (k + 1))
          case measure => omega
          case rel => exact ⟨k + 1, d', rfl, by first | rfl | (congr 1; omega), by first | rfl | (congr 1; omega), by omega, by omega, N6, D6, F6⟩
    · have hx : (¬ k < n) ∨ (k < n ∧ ¬ k < 60) := by omega
      clear hgo
      by_cases hkN : k < N
      · have hkI : ((k : Int) < (N : Int)) = True := eq_true (by omega)
        rcases hx with h1 | ⟨h1, h2⟩
        · go_wp2_with fail
          go_ret
          exact ⟨rfl, HF.out.b⟩
        · exfalso; omega
      · have hkI : ((k : Int) < (N : Int)) = False := eq_false (by omega)
        have HDN := Lib.hid (HN.out.dn (by omega))
        rcases hx with h1 | ⟨h1, h2⟩
        all_goals
          go_wp2_with fail
          refine (read_d HD.out HDN.out 0).mono ?_
          rintro e w5 ⟨rfl, b_⟩
          have D5 := Lib.hid (HD.out.below b_)
          have F5 := Lib.hid (HF.out.below b_ HD.out.hB)
          clear b_ HD HF
          go_wp2_with fail
          refine (sync_d D5.out HDN.out).mono ?_
          rintro e w6 ⟨rfl, D, f⟩
          have D6 := Lib.hid D
          have F6 := Lib.hid (F5.out.trans f)
          clear D f D5 F5
          go_wp2_with fail
          refine (fuse_d D6.out HDN.out 0).mono ?_
          rintro e w7 ⟨rfl, D, f⟩
          have D7 := Lib.hid D
          have F7 := Lib.hid (F6.out.trans f)
          clear D f D6 F6
          go_wp2_with fail
          refine (crash_c D7.out none 0 0 [] (pk_none _)).mono ?_
          rintro e w8 ⟨rfl, D, f⟩
          have D8 := Lib.hid D
          have F8 := Lib.hid (F7.out.trans f)
          clear D f D7 F7
          go_wp2_with fail
          refine (read_c D8.out ⟨rfl, rfl⟩ 0 (by show 0 < (redo [] 0 (undo d.l d.w) d.w).length; rw [redo_len, undo_len, HN.out.l]; decide)).mono ?_
          rintro e w9 ⟨rfl, b_⟩
          obtain ⟨x, ex⟩ : ∃ x, (d.crash []).l.getD 0 [] = x := ⟨_, rfl⟩
          rw [ex]
          have D9 := Lib.hid (D8.out.below b_)
          have F9 := Lib.hid (F8.out.below b_ D8.out.hB)
          clear b_ D8 F8 ex
          go_wp2_with fail
          refine (waits_c D9.out).mono ?_
          rintro e w10 ⟨rfl, b_⟩
          have F10 := Lib.hid (F9.out.below b_ D9.out.hB)
          rw [show ((d.crash []).w.length : Nat) = 0 from rfl]
          clear b_ D9 F9
          go_wp2_with fail
          go_ret
          exact ⟨rfl, F10.out.b⟩
end Go.Proofs.Ytbbmhcloigphjaa

/- The log: begin, walked. The log: load, walked. The log: Open, walked. The log: Append, Sync, Room, Generation, Records, walked. The log: Compact, walked. The log, plainly: begin, Open, Append, Compact where the disk is up and no fuse burns. dovecotebook.SameTexts: the same texts? The log's calls where it is calm; the chapter's example (works). Texts that a law holds in a slice of its own, beside a log; a number among n. slices.Grow, slices.Concat, at texts, over windows (PtQ turned to texts). A set of tags in memory, over a log that is calm; its small functions. A set of tags: Has, write, enter, Rotate, Add, Epoch, Tags, walked where the log is calm and has room. A set of tags: Rotate, Add, Epoch, Tags, Open, walked where the log is calm and has room. A set of tags is opened; tags of numbers; the chapter's example. The laws SeenEpochs and SeenFull, walked. The law SeenFull, walked. -/
import Derived.Test.YteajpebkanamgaaDoorZ42ee9231
import Derived.LoopN
import Derived.Deep.QuietTactic
import Derived.BigQuiet
import Derived.Deep.LoopGhost
import Derived.Deep.Cut
import Derived.Outline
import Derived.Test.YteajpebkanamgaaDoorWZeros
import Derived.Deep.Upon
import Derived.Deep.RegionWith
namespace Go.Proofs.YteajpebkanamgaaDoor
open Go.RowKit
set_option linter.unusedSimpArgs false
set_option linter.unusedVariables false
set_option maxRecDepth 20000
set_option maxHeartbeats 800000 in
theorem beg1_any {B : Nat} {w : World} {g : Nat} {d : Dk} (h : DkAt B w g d) (hb sg a n : Nat) (s : List UInt8) (hM : Blk w hb 70 #[.pointer (some ⟨g, 0, none⟩), .int .i64 (a : Nat), .int .i64 (n : Nat)]) (hS : Blk w sg 9 #[.string ⟨s.toArray⟩]) (ha : a ≤ 1000000) (hw : d.w.length < 1000000) :
    Calls Tryd.prog 62 #[.pointer (some ⟨hb, 0, none⟩), .pointer (some ⟨sg, 0, none⟩)] w fun e w' => e = .returned (.int .i64 (d.write (a : Nat) s).1) ∧ DkAt B w' g (d.write (a : Nat) s).2 ∧ Fr B w w' := by
  have m0 : w.cell? ⟨hb, 0, none⟩ = some (.pointer (some ⟨g, 0, none⟩)) := hM.cell 0
  have m1 : w.cell? ⟨hb, 1, none⟩ = some (.int .i64 (a : Nat)) := hM.cell 1
  have m2 : w.cell? ⟨hb, 2, none⟩ = some (.int .i64 (n : Nat)) := hM.cell 2
  have s0 : w.cell? ⟨sg, 0, none⟩ = some (.string ⟨s.toArray⟩) := hS.cell 0
  have HW := Lib.hid (hwrite_any h a n 0 s ha (by decide) hw)
  rw [Nat.add_zero] at HW
  unfold hv at HW
  go_enter Tryd.func62, Tryd.ntmps62
  go_wp2_with fail
  refine HW.out.mono ?_
  rintro e w1 ⟨rfl, d1, f1⟩
  have D1 := Lib.hid d1
  have F1 := Lib.hid f1
  clear d1 f1 m0 m1 m2 s0 HW
  go_wp2_with fail
  go_ret
  exact ⟨rfl, D1.out, F1.out⟩
set_option maxHeartbeats 3200000 in
theorem lbegin_any {B : Nat} {w : World} {g : Nat} {d : Dk} (h : DkAt B w g d) (a n gen : Nat) (A : Option Addr) (nT c : Nat) (ts : List (List UInt8)) (hT : TsA w (fun i => w.heap.size ≤ i) A nT ts) (hk : KsAt w) (hks : 0 < B)
    (ha : a ≤ 100000) (hn : n ≤ 100000) (hg : gen ≤ 4294967296) (hl : ∀ t ∈ ts, t.length ≤ 2000) (hnT : nT ≤ 3000) (hw : d.w.length + n + 100000 < 1000000) :
    Calls Tryd.prog 40 #[hv g a n, .int .i64 (gen : Nat), .slice A nT c] w fun e w' => BegOut B g (beginL a n gen ts d) w w' e := by
  have HD := Lib.hid h
  have HB := Lib.hid h.hB
  have HT := Lib.hid hT
  have HK := Lib.hid hk
  have hbl := fun m => build_log g a n gen m
  unfold hv
  clear h hT hk
  go_enter Tryd.func40, Tryd.ntmps40
  go_wp2_with fail
  have A1 := Lib.hid (show Below w.heap.size w (w.alloc (.cells #[.pointer (some ⟨g, 0, none⟩), .int .i64 (a : Nat), .int .i64 (n : Nat)] 70)) from (Below.refl _ _).alloc (Nat.le_refl _) _)
  obtain ⟨hb, hhb⟩ : ∃ b, Hid (w.heap.size = b) := ⟨_, Lib.hid rfl⟩
  have M1 := Lib.hid (show Blk (w.alloc (.cells #[.pointer (some ⟨g, 0, none⟩), .int .i64 (a : Nat), .int .i64 (n : Nat)] 70)) hb 70 #[.pointer (some ⟨g, 0, none⟩), .int .i64 (a : Nat), .int .i64 (n : Nat)] by rw [← hhb.out]; exact Blk.new _ _ _)
  have HCL := Lib.hid (clean_any (HD.out.below A1.out) a n 0 (by omega) hn (by omega) (by omega))
  unfold hv at HCL
  have F1 := Lib.hid (Fr.of A1.out HB.out)
  rw [hhb.out]
  obtain ⟨ce, hce⟩ : ∃ r, Hid ((cleanL a n 0 d).1 = r) := ⟨_, Lib.hid rfl⟩
  obtain ⟨cd, hcd⟩ : ∃ r, Hid ((cleanL a n 0 d).2 = r) := ⟨_, Lib.hid rfl⟩
  rw [hce.out, hcd.out] at HCL
  refine HCL.out.mono ?_
  rintro e w2 ⟨rfl, d2, f2⟩
  have D2 := Lib.hid d2
  have F2 := Lib.hid (F1.out.trans f2)
  have M2 := Lib.hid (M1.out.fr f2 (by unfold DkT; decide))
  clear d2 f2 HCL F1 M1
  by_cases hc0 : ce = 0
  · subst hc0
    have HBG := Lib.hid (begun_any gen w2 hg (HK.out.fr hks F2.out) (Nat.lt_of_lt_of_le hks D2.out.hB))
    have m0 : w2.cell? ⟨hb, 0, none⟩ = some (.pointer (some ⟨g, 0, none⟩)) := M2.out.cell 0
    obtain ⟨gb, GB⟩ : ∃ t : ByteArray, Hid (⟨(begunL gen).toArray⟩ = t) := ⟨_, Lib.hid rfl⟩
    obtain ⟨mb, MB⟩ : ∃ t : ByteArray, Hid (⟨(hmark gen).toArray⟩ = t) := ⟨_, Lib.hid rfl⟩
    rw [GB.out, MB.out] at HBG
    clear m0
    go_wp2_with fail
    refine HBG.out.mono ?_
    rintro e w3 ⟨rfl, b3⟩
    have D3 := Lib.hid (D2.out.below b3)
    have F3 := Lib.hid (F2.out.below b3 D2.out.hB)
    have M3 := Lib.hid (M2.out.below b3 M2.out.lt)
    clear b3 D2 F2 M2 HBG
    go_upto_region 5 with fail
    have A4 := Lib.hid (show Below w3.heap.size w3 (w3.alloc (.cells #[.string gb] 9)) from (Below.refl _ _).alloc (Nat.le_refl _) _)
    obtain ⟨sg, hsg⟩ : ∃ b, Hid (w3.heap.size = b) := ⟨_, Lib.hid rfl⟩
    refine gen_world (fun W => Hid (DkAt B W g cd) ∧ Hid (Fr B w W) ∧ Hid (Blk W hb 70 #[.pointer (some ⟨g, 0, none⟩), .int .i64 (a : Nat), .int .i64 (n : Nat)]) ∧ Hid (Blk W sg 9 #[.string gb])) ⟨Lib.hid (D3.out.below A4.out), Lib.hid (F3.out.below A4.out D3.out.hB), Lib.hid (M3.out.below A4.out M3.out.lt), Lib.hid (by rw [← hsg.out]; exact Blk.new _ _ _)⟩ ?_
    clear A4 D3 F3 M3
    rintro w4 ⟨D4, F4, M4, S4⟩
    rw [hsg.out]
    have m0 : w4.cell? ⟨hb, 0, none⟩ = some (.pointer (some ⟨g, 0, none⟩)) := M4.out.cell 0
    have m1 : w4.cell? ⟨hb, 1, none⟩ = some (.int .i64 (a : Nat)) := M4.out.cell 1
    have m2 : w4.cell? ⟨hb, 2, none⟩ = some (.int .i64 (n : Nat)) := M4.out.cell 2
    have hbm := hbl mb
    go_upto_region 6 with fail
    obtain ⟨lp, hlp⟩ : ∃ b, Hid (w4.heap.size = b) := ⟨_, Lib.hid rfl⟩
    have HSG := Lib.hid (show hb < lp ∧ sg < lp by rw [← hlp.out]; exact ⟨M4.out.lt, S4.out.lt⟩)
    have A5 := Lib.hid (show Below w4.heap.size w4 (w4.alloc (.cells #[.pointer (some ⟨g, 0, none⟩), .int .i64 (a : Nat), .int .i64 (n : Nat), .int .i64 (gen : Nat), .string mb, .int .i64 1, .slice none 0 0] 72)) from (Below.refl _ _).alloc (Nat.le_refl _) _)
    have LP := Lib.hid (show w.heap.size ≤ lp by rw [← hlp.out]; exact F4.out.b.size)
    rw [hlp.out]
    have HMH := Lib.hid (hmark_le gen)
    have HLM : LgW B (w4.alloc (.cells #[.pointer (some ⟨g, 0, none⟩), .int .i64 (a : Nat), .int .i64 (n : Nat), .int .i64 (gen : Nat), .string mb, .int .i64 1, .slice none 0 0] 72)) lp g (.slice none 0 0) ⟨a, n, gen, hmark gen, 1, []⟩ cd := by
      refine ⟨⟨?_, Win.nil _ _ _, Nat.le_trans HB.out LP.out⟩, D4.out.below A5.out, (HK.out.fr hks (F4.out.below A5.out D4.out.hB)), hks⟩
      rw [lgC_new, MB.out, ← hlp.out]
      exact Blk.new _ _ _
    have HL := Lib.hid HLM
    have F5 := Lib.hid (F4.out.below A5.out D4.out.hB)
    have M5 := Lib.hid (M4.out.below A5.out M4.out.lt)
    have S5 := Lib.hid (S4.out.below A5.out S4.out.lt)
    have T5 := Lib.hid (HT.out.fr F5.out)
    clear HLM A5 D4 F4 M4 S4 m0 m1 m2 hbm
    have WS := Lib.hid (show ∀ i, LgS lp (.slice none 0 0) i → lp ≤ i from fun i hi => by
      rcases hi with rfl | hi
      · exact Nat.le_refl _
      · cases hi)
    have HCW := Lib.hid (show cd.w.length ≤ d.w.length + n by have := cleanL_len a n 0 d; rw [hcd.out] at this; exact this)
    go_wp2_with fail
    go_loopg [35] (nT + 1) (fun kq v35 wr => ∃ (k : Nat) (d' : Dk) (L' : Lg) (v' : Value), kq = nT + 1 - k ∧ k ≤ nT ∧ v35 = .int .i64 (k : Nat) ∧ Hid (putsGo ts cd ⟨a, n, gen, hmark gen, 1, []⟩ = putsGo (ts.drop k) d' L') ∧ Hid (LgW B wr lp g v' L' d') ∧ Hid (∀ i, LgS lp v' i → lp ≤ i) ∧ Hid (Fr B w wr) ∧ Hid (Blk wr hb 70 #[.pointer (some ⟨g, 0, none⟩), .int .i64 (a : Nat), .int .i64 (n : Nat)]) ∧ Hid (Blk wr sg 9 #[.string gb]) ∧ Hid (TsA wr (fun i => w.heap.size ≤ i) A nT ts) ∧ Hid (BegB a n gen k cd L' d') ∧ Hid (lp < wr.heap.size))
    case atStart => exact ⟨0, cd, ⟨a, n, gen, hmark gen, 1, []⟩, .slice none 0 0, by omega, by omega, rfl, Lib.hid rfl, HL, WS, F5, M5, S5, T5, Lib.hid (BegB.start a n gen cd _ HMH.out), Lib.hid HL.out.m.hp.lt⟩
    case round =>
      clear HL WS F5 M5 S5 T5
      obtain ⟨k, d', L', v', rfl, hk, rfl, HE, HW, HWS, HF, HM, HS, HTS, HBB, HLP⟩ := hrel
      by_cases hlt : k < nT
      · obtain ⟨tb, to_, tcs, tt, tfz, hA, hh, htt, hss, hc⟩ := HTS.out.at_ (by omega)
        have hc1 := hc k hlt
        have hDR : ts.drop k = ts.getD k [] :: ts.drop (k + 1) := by
          have hk' : k < ts.length := by rw [HTS.out.len]; exact hlt
          rw [List.drop_eq_getElem_cons hk', List.getD_eq_getElem?_getD, List.getElem?_eq_getElem hk']; rfl
        have hT1 : (ts.getD k []).length ≤ 2000 := by
          have hk' : k < ts.length := by rw [HTS.out.len]; exact hlt
          rw [List.getD_eq_getElem?_getD, List.getElem?_eq_getElem hk']
          exact hl _ (List.getElem_mem hk')
        subst hA
        have e1 : (k : Int) < (nT : Int) := by omega
        obtain ⟨t, ht⟩ : ∃ t, Hid (ts.getD k [] = t) := ⟨_, Lib.hid rfl⟩
        rw [ht.out] at hc1 hDR hT1
        have HDR := Lib.hid hDR
        have HT1 := Lib.hid hT1
        have hS : sectorsN t ≤ 32 := by unfold sectorsN; omega
        have HPU := Lib.hid (put_any HW.out t hT1 (by have := HBB.out.mark; omega) (by have := HBB.out.l; omega) (by have := HBB.out.next; omega) (by have := HBB.out.a; omega) (by have := HBB.out.w; have := HCW.out; omega))
        have HBN := Lib.hid (HBB.out.step t hT1)
        obtain ⟨o, ho⟩ : ∃ o, Hid (putL d' L' t = o) := ⟨_, Lib.hid rfl⟩
        have HPG := Lib.hid (show putsGo (ts.drop k) d' L' = if o.e ≠ 0 then o else putsGo (ts.drop (k + 1)) o.d o.L by rw [HDR.out, putsGo, ho.out])
        rw [ho.out] at HPU HBN
        obtain ⟨oe, hoe⟩ : ∃ r, Hid (o.e = r) := ⟨_, Lib.hid rfl⟩
        rw [hoe.out] at HPU HPG
        clear hh htt hss hc hDR hT1 hlt hS
        go_wp2_with fail
        refine HPU.out.mono ?_
        rintro e w5 ⟨rfl, hn⟩
        have F6 := Lib.hid (hn.f.fr HF.out (fun i hi => Nat.le_trans LP.out (HWS.out i hi)))
        have M6 := Lib.hid (HM.out.fs hn.f (by unfold DkT; decide) (fun hi => by have := HWS.out _ hi; have := HSG.out.1; omega))
        have S6 := Lib.hid (HS.out.fs hn.f (by unfold DkT; decide) (fun hi => by have := HWS.out _ hi; have := HSG.out.2; omega))
        have T6 := Lib.hid (HTS.out.fs (hn.f.mono (fun i hi => Nat.le_trans LP.out (HWS.out i hi))))
        have LP6 := Lib.hid (Nat.lt_of_lt_of_le HLP.out hn.f.b.size)
        obtain ⟨v6, hv6, hi6⟩ := hn.r
        have W6 := Lib.hid hv6
        have WS6 := Lib.hid (show ∀ i, LgS lp v6 i → lp ≤ i from fun i hi => by
          rcases hi with rfl | hi
          · exact Nat.le_refl _
          · rcases hi6 i hi with hi | hi
            · exact HWS.out i (.inr hi)
            · have := HLP.out; omega)
        clear hn hv6 hi6 hc1 HPU
        by_cases hw0 : oe = 0
        · subst hw0
          go_wp2_with fail
          go_roundg (nT + 1 - (k + 1))
          case measure => omega
          case rel => exact ⟨k + 1, o.d, o.L, v6, rfl, by omega, by go_num, Lib.hid (by rw [HE.out, HPG.out, if_neg (by simp)]), W6, WS6, F6, M6, S6, T6, HBN, LP6⟩
        · have HN := Lib.hid (show beginL a n gen ts d = o from beginL_no a n gen ts d hce.out (by rw [hcd.out, HE.out, HPG.out, if_pos hw0]) (by rw [hoe.out]; exact hw0))
          have q3 : (oe != 0) = true := by simpa using hw0
          have q4 : (oe == 0) = false := by simpa using hw0
          have HW0 := Lib.hid hw0
          clear hw0
          go_wp2_with fail
          go_ret2
          rw [HN.out]
          exact ⟨F6.out, .inr ⟨by rw [hoe.out]; exact HW0.out, by rw [hoe.out]; rfl, W6.out.d⟩⟩
      · obtain rfl : k = nT := by omega
        have HBE := Lib.hid (show beginL a n gen ts d = begEnd a gen d' L' from beginL_yes a n gen ts d d' L' hce.out (by
          rw [hcd.out, HE.out, List.drop_eq_nil_of_le (Nat.le_of_eq HTS.out.len), putsGo]))
        have e1 : decide ((k : Int) < (k : Int)) = false := decide_eq_false (by omega)
        have HDW := Lib.hid (show d'.w.length + 1 < 1000000 by have := HBB.out.w; have := HCW.out; omega)
        have hmf : ∀ (fn : Fn) (first cap : Array Value) (w : World), (Instr.makeFunc fn first cap).run Tryd.prog w = .ok (.func fn first cap) w := fun _ _ _ _ => rfl
        have m0 : wr.cell? ⟨hb, 0, none⟩ = some (.pointer (some ⟨g, 0, none⟩)) := HM.out.cell 0
        have m1 : wr.cell? ⟨hb, 1, none⟩ = some (.int .i64 (a : Nat)) := HM.out.cell 1
        have m2 : wr.cell? ⟨hb, 2, none⟩ = some (.int .i64 (n : Nat)) := HM.out.cell 2
        clear hlt HE HBB HTS HT HMH
        go_wp2_with fail
        obtain ⟨fb, hfb⟩ : ∃ b, Hid (wr.heap.size = b) := ⟨_, Lib.hid rfl⟩
        have A7 := Lib.hid (show Below wr.heap.size wr (wr.alloc (.cells #[.func (.func 59) #[.pointer (some ⟨g, 0, none⟩)] #[], .func (.func 62) #[] #[.pointer (some ⟨hb, 0, none⟩), .pointer (some ⟨sg, 0, none⟩)], .func (.func 59) #[.pointer (some ⟨g, 0, none⟩)] #[]] 44)) from (Below.refl _ _).alloc (Nat.le_refl _) _)
        refine gen_world (fun W => Hid (LgW B W lp g v' L' d') ∧ Hid (Fr B w W) ∧ Hid (Blk W hb 70 #[.pointer (some ⟨g, 0, none⟩), .int .i64 (a : Nat), .int .i64 (n : Nat)]) ∧ Hid (Blk W sg 9 #[.string gb]) ∧ Hid (Blk W fb 44 #[.func (.func 59) #[.pointer (some ⟨g, 0, none⟩)] #[], .func (.func 62) #[] #[.pointer (some ⟨hb, 0, none⟩), .pointer (some ⟨sg, 0, none⟩)], .func (.func 59) #[.pointer (some ⟨g, 0, none⟩)] #[]])) ⟨Lib.hid (HW.out.below A7.out), Lib.hid (HF.out.below A7.out HW.out.d.hB), Lib.hid (HM.out.below A7.out HM.out.lt), Lib.hid (HS.out.below A7.out HS.out.lt), Lib.hid (by rw [← hfb.out]; exact Blk.new _ _ _)⟩ ?_
        clear A7 HW HF HM HS m0 m1 m2
        rintro w7 ⟨W7, F7, M7, S7, N7⟩
        rw [hfb.out]
        have n0 : w7.cell? ⟨fb, 0, none⟩ = some (.func (.func 59) #[.pointer (some ⟨g, 0, none⟩)] #[]) := N7.out.cell 0
        refine wp_loop_rounds 4 ?_
        rw [Go.rounds_succ]
        go_wp2_with fail
        have HSY := Lib.hid (sync_len d')
        obtain ⟨e1_, he1⟩ : ∃ r, Hid (d'.sync.1 = r) := ⟨_, Lib.hid rfl⟩
        obtain ⟨d1_, hd1⟩ : ∃ r, Hid (d'.sync.2 = r) := ⟨_, Lib.hid rfl⟩
        have HY := Lib.hid (show ∀ W, DkAt B W g d' → Calls Tryd.prog 59 #[.pointer (some ⟨g, 0, none⟩)] W fun e w' => e = .returned (.int .i64 e1_) ∧ DkAt B w' g d1_ ∧ Fr B W w' from fun W hW => by
          obtain ⟨q, vw, hA⟩ := hW
          have := sync_any hA
          rw [he1.out, hd1.out] at this
          exact this)
        rw [hd1.out] at HSY
        refine (HY.out _ W7.out.d).mono ?_
        rintro e w8 ⟨rfl, d8, f8⟩
        have W8 := Lib.hid (W7.out.fr f8 d8)
        have F8 := Lib.hid (F7.out.trans f8)
        have M8 := Lib.hid (M7.out.fr f8 (by unfold DkT; decide))
        have S8 := Lib.hid (S7.out.fr f8 (by unfold DkT; decide))
        have N8 := Lib.hid (N7.out.fr f8 (by unfold DkT; decide))
        clear d8 f8 W7 F7 M7 S7 N7 n0 HY
        by_cases hz1 : e1_ = 0
        · subst hz1
          have n1 : w8.cell? ⟨fb, 1, none⟩ = some (.func (.func 62) #[] #[.pointer (some ⟨hb, 0, none⟩), .pointer (some ⟨sg, 0, none⟩)]) := N8.out.cell 1
          go_wp2_with fail
          rw [Go.rounds_succ]
          go_wp2_with fail
          have HWL := Lib.hid (write_len d1_ (a : Nat) (begunL gen))
          obtain ⟨e2_, he2⟩ : ∃ r, Hid ((d1_.write (a : Nat) (begunL gen)).1 = r) := ⟨_, Lib.hid rfl⟩
          obtain ⟨d2_, hd2⟩ : ∃ r, Hid ((d1_.write (a : Nat) (begunL gen)).2 = r) := ⟨_, Lib.hid rfl⟩
          have HB1 := Lib.hid (show Calls Tryd.prog 62 #[.pointer (some ⟨hb, 0, none⟩), .pointer (some ⟨sg, 0, none⟩)] w8 fun e w' => e = .returned (.int .i64 e2_) ∧ DkAt B w' g d2_ ∧ Fr B w8 w' by
            have := beg1_any W8.out.d hb sg a n (begunL gen) M8.out (by rw [GB.out]; exact S8.out) (by omega) (by have := HSY.out; have := HDW.out; omega)
            rw [he2.out, hd2.out] at this
            exact this)
          refine HB1.out.mono ?_
          rintro e w9 ⟨rfl, d9, f9⟩
          have W9 := Lib.hid (W8.out.fr f9 d9)
          have F9 := Lib.hid (F8.out.trans f9)
          have N9 := Lib.hid (N8.out.fr f9 (by unfold DkT; decide))
          clear d9 f9 W8 F8 M8 S8 N8 n1 HB1
          by_cases hz2 : e2_ = 0
          · subst hz2
            have n2 : w9.cell? ⟨fb, 2, none⟩ = some (.func (.func 59) #[.pointer (some ⟨g, 0, none⟩)] #[]) := N9.out.cell 2
            go_wp2_with fail
            rw [Go.rounds_succ]
            go_wp2_with fail
            obtain ⟨e3_, he3⟩ : ∃ r, Hid (d2_.sync.1 = r) := ⟨_, Lib.hid rfl⟩
            obtain ⟨d3_, hd3⟩ : ∃ r, Hid (d2_.sync.2 = r) := ⟨_, Lib.hid rfl⟩
            have HY := Lib.hid (show ∀ W, DkAt B W g d2_ → Calls Tryd.prog 59 #[.pointer (some ⟨g, 0, none⟩)] W fun e w' => e = .returned (.int .i64 e3_) ∧ DkAt B w' g d3_ ∧ Fr B W w' from fun W hW => by
              obtain ⟨q, vw, hA⟩ := hW
              have := sync_any hA
              rw [he3.out, hd3.out] at this
              exact this)
            refine (HY.out _ W9.out.d).mono ?_
            rintro e w10 ⟨rfl, d10, f10⟩
            have W10 := Lib.hid (W9.out.fr f10 d10)
            have F10 := Lib.hid (F9.out.trans f10)
            clear d10 f10 W9 F9 N9 n2 HY
            by_cases hz3 : e3_ = 0
            · have HN := Lib.hid (show beginL a n gen ts d = ⟨0, d3_, L'⟩ by rw [HBE.out]; unfold begEnd; simp only [he1.out, hd1.out, he2.out, hd2.out, he3.out, hd3.out]; rw [if_neg (by simp), if_neg (by simp), if_neg (by simp [hz3])])
              subst hz3
              go_wp2_with fail
              rw [Go.rounds_succ]
              go_wp2_with fail
              go_ret2
              rw [HN.out]
              exact ⟨F10.out, .inl ⟨by rfl, lp, v', by rfl, W10.out, fun i hi => Nat.le_trans LP.out (HWS.out i hi)⟩⟩
            · have HN := Lib.hid (show beginL a n gen ts d = ⟨e3_, d3_, L'⟩ by rw [HBE.out]; unfold begEnd; simp only [he1.out, hd1.out, he2.out, hd2.out, he3.out, hd3.out]; rw [if_neg (by simp), if_neg (by simp), if_pos hz3])
              have q3 : (e3_ != 0) = true := by simpa using hz3
              have q4 : (e3_ == 0) = false := by simpa using hz3
              have HZ3 := Lib.hid hz3
              clear hz3
              go_wp2_with fail
              go_ret2
              rw [HN.out]
              exact ⟨F10.out, .inr ⟨HZ3.out, by rfl, W10.out.d⟩⟩
          · have HN := Lib.hid (show beginL a n gen ts d = ⟨e2_, d2_, L'⟩ by rw [HBE.out]; unfold begEnd; simp only [he1.out, hd1.out, he2.out, hd2.out]; rw [if_neg (by simp), if_pos hz2])
            have q3 : (e2_ != 0) = true := by simpa using hz2
            have q4 : (e2_ == 0) = false := by simpa using hz2
            have HZ2 := Lib.hid hz2
            clear hz2
            go_wp2_with fail
            go_ret2
            rw [HN.out]
            exact ⟨F9.out, .inr ⟨HZ2.out, by rfl, W9.out.d⟩⟩
        · have HN := Lib.hid (show beginL a n gen ts d = ⟨e1_, d1_, L'⟩ by rw [HBE.out]; unfold begEnd; simp only [he1.out, hd1.out]; rw [if_pos hz1])
          have q3 : (e1_ != 0) = true := by simpa using hz1
          have q4 : (e1_ == 0) = false := by simpa using hz1
          have HZ1 := Lib.hid hz1
          clear hz1
          go_wp2_with fail
          go_ret2
          rw [HN.out]
          exact ⟨F8.out, .inr ⟨HZ1.out, by rfl, W8.out.d⟩⟩
  · have HR := Lib.hid (show beginL a n gen ts d = ⟨ce, cd, ⟨a, n, gen, hmark gen, 1, []⟩⟩ by
      unfold beginL
      simp only [hce.out, hcd.out]
      rw [if_pos hc0])
    have q3 : (ce != 0) = true := by simpa using hc0
    have q4 : (ce == 0) = false := by simpa using hc0
    have HC0 := Lib.hid hc0
    clear hc0
    go_wp2_with fail
    go_ret2
    rw [HR.out]
    exact ⟨F2.out, .inr ⟨HC0.out, by rfl, D2.out⟩⟩
end Go.Proofs.YteajpebkanamgaaDoor
namespace Go.Proofs.YteajpebkanamgaaDoor
open Go.RowKit
set_option linter.unusedSimpArgs false
set_option linter.unusedVariables false
set_option maxRecDepth 20000
/-- a call's step: the log's list may have moved, all else but its blocks and the disk's is as it was. -/
structure LgStep (B p g : Nat) (v v' : Value) (L' : Lg) (d' : Dk) (w w' : World) : Prop where
  lw : LgW B w' p g v' L' d'
  o : ∀ i, v'.ownBlock = some i → v.ownBlock = some i ∨ w.heap.size ≤ i
  f : Fs B (LgS p v) w w'
section
variable {B p g : Nat} {w w' w'' : World} {v v' : Value} {L L' L'' : Lg} {d d' d'' : Dk}
theorem LgStep.refl (h : LgW B w p g v L d) : LgStep B p g v v L d w w := ⟨h, fun _ hi => .inl hi, Fs.refl _ _ _⟩
theorem LgStep.next (h : LgStep B p g v v' L' d' w w') : LgNext B p g v L' d' w w' := ⟨⟨v', h.lw, h.o⟩, h.f⟩
theorem LgNext.step (h : LgNext B p g v L' d' w w') : ∃ v', LgStep B p g v v' L' d' w w' := by
  obtain ⟨⟨v', h1, h2⟩, h3⟩ := h
  exact ⟨v', h1, h2, h3⟩
theorem LgStep.far {i : Nat} (h : LgStep B p g v v' L' d' w w') (hi : i < w.heap.size) (hn : ¬ LgS p v i) : ¬ LgS p v' i := fun hs => by
  rcases hs with rfl | hs
  · exact hn (.inl rfl)
  · rcases h.o i hs with h1 | h1
    · exact hn (.inr h1)
    · omega
theorem LgStep.trans {v'' : Value} (h : LgStep B p g v v' L' d' w w') (k : LgStep B p g v' v'' L'' d'' w' w'') : LgStep B p g v v'' L'' d'' w w'' :=
  ⟨k.lw, fun i hi => by
      rcases k.o i hi with h1 | h1
      · exact h.o i h1
      · exact .inr (Nat.le_trans h.f.b.size h1),
    ⟨h.f.b.trans k.f.b, fun j cs t fz hj ht hs => by
      have e := h.f.f j cs t fz hj ht hs
      exact (k.f.f j cs t fz (e.trans hj) ht (h.far (heap_lt hj) hs)).trans e⟩⟩
theorem LgStep.below (h : LgStep B p g v v' L' d' w w') (hb : Below w'.heap.size w' w'') : LgStep B p g v v' L' d' w w'' :=
  ⟨h.lw.below hb, h.o, h.f.trans (Fs.of_below hb h.lw.d.hB)⟩
theorem LgStep.fr (h : LgStep B p g v v' L' d' w w') (f : Fr B w' w'') (hd : DkAt B w'' g d'') : LgStep B p g v v' L' d'' w w'' :=
  ⟨h.lw.fr f hd, h.o, h.f.trans (Fs.of_fr f)⟩
theorem below_step (hb : Below w.heap.size w w') (h : LgW B w p g v L d) : LgStep B p g v v L d w w' := (LgStep.refl h).below hb
end
theorem recsGo_no (f : Nat) (s : List UInt8) (L : Lg) (h : recOk L.mark s = false) : recsGo f s L = L := by
  cases f with
  | zero => rfl
  | succ f => rw [recsGo, h]; rfl
theorem recsGo_yes (f : Nat) (s : List UInt8) (L : Lg) (h : recOk L.mark s = true) (hf : s.length ≤ f) : ∃ f', (s.drop (sectorsN (textL s) * 64)).length ≤ f' ∧ recsGo f s L = recsGo f' (s.drop (sectorsN (textL s) * 64)) (L.took (textL s) (ownL L.mark (textL s)) (sectorsN (textL s))) := by
  have h18 : 18 < s.length := by
    unfold recOk at h
    simp only [Bool.and_eq_true, decide_eq_true_eq] at h
    exact h.1.1.1.1
  obtain ⟨f', rfl⟩ : ∃ f', f = f' + 1 := ⟨f - 1, by omega⟩
  refine ⟨f', ?_, by rw [recsGo, if_pos h]⟩
  have : 1 ≤ sectorsN (textL s) := by unfold sectorsN; omega
  rw [List.length_drop]
  omega
theorem recOk_of (m s : List UInt8) (h1 : 18 < s.length) (h2 : 1 ≤ lenL s) (h3 : lenL s ≤ 2000) (h4 : lenL s ≤ s.length - 18) : recOk m s = (recL m (textL s)).isPrefixOf s := by
  unfold recOk
  rw [decide_eq_true h1, decide_eq_true h2, decide_eq_true h3, decide_eq_true h4]
  simp
theorem recOk_short (m s : List UInt8) (h : ¬ (18 < s.length ∧ 1 ≤ lenL s ∧ lenL s ≤ 2000 ∧ lenL s ≤ s.length - 18)) : recOk m s = false := by
  unfold recOk
  by_cases h1 : 18 < s.length
  · by_cases h2 : 1 ≤ lenL s
    · by_cases h3 : lenL s ≤ 2000
      · have h4 : ¬ lenL s ≤ s.length - 18 := fun h4 => h ⟨h1, h2, h3, h4⟩
        rw [decide_eq_false h4]; simp
      · rw [decide_eq_false h3]; simp
    · rw [decide_eq_false h2]; simp
  · rw [decide_eq_false h1]; simp
theorem loadL_err (d : Dk) (L : Lg) (e : Int) (acc : List UInt8) (h : readsGo L.a (List.range' 1 (L.n - 1)) [] d = (e, acc)) (he : e ≠ 0) : loadL d L = ⟨e, d, L⟩ := by
  unfold loadL
  simp only [h]
  rw [if_pos he]
theorem loadL_ok (d : Dk) (L L' : Lg) (s : List UInt8) (h : readsGo L.a (List.range' 1 (L.n - 1)) [] d = (0, s)) (hL : recsGo s.length s L = L') : loadL d L = ⟨(cleanL L.a L.n L'.next d).1, (cleanL L.a L.n L'.next d).2, L'⟩ := by
  unfold loadL
  simp only [h, hL]
  rw [if_neg (by simp)]
theorem read_le (d : Dk) (h : d.Ok) (i : Int) : (d.read i).1.length ≤ 64 := by
  unfold Dk.read
  split
  · exact Nat.zero_le _
  · show (d.l.getD i.toNat []).length ≤ 64
    by_cases hi : i.toNat < d.l.length
    · rw [List.getD_eq_getElem?_getD, List.getElem?_eq_getElem hi]
      exact Nat.le_of_eq (h.l _ (List.getElem_mem hi))
    · rw [List.getD_eq_getElem?_getD, List.getElem?_eq_none (by omega)]
      exact Nat.zero_le _
theorem DkAt.ok {B g : Nat} {w : World} {d : Dk} (h : DkAt B w g d) : d.Ok := by obtain ⟨q, vw, hA⟩ := h; exact hA.ok
theorem prefix_any (s p : List UInt8) (W : World) : Calls Tryd.prog 69 #[.string ⟨s.toArray⟩, .string ⟨p.toArray⟩] W fun e w' => e = .returned (.bool (p.isPrefixOf s)) ∧ W = w' := by
  refine (Tryd.strings_HasPrefix ⟨s.toArray⟩ ⟨p.toArray⟩ W).mono ?_
  rintro e w' ⟨h1, h2⟩
  exact ⟨h1, h2.symm⟩
/-- the bounds that 'load' keeps in its loop. -/
structure LdB (L : Lg) (s : List UInt8) (L' : Lg) : Prop where
  a : L'.a = L.a
  n : L'.n = L.n
  next : L'.next * 64 + s.length ≤ 64 * (L.next + L.n + 1)
  l : L'.l.length * 64 + s.length ≤ 64 * (L.l.length + L.n + 1)
  mark : L'.mark.length ≤ 1000000
set_option maxHeartbeats 3200000 in
theorem load_any {B p g : Nat} {w : World} {v : Value} {L : Lg} {d : Dk} (h : LgW B w p g v L d) (ha : L.a ≤ 10000) (hn : L.n ≤ 10000) (hm : L.mark.length ≤ 1000000) (hl : L.l.length ≤ 10000) (hx : L.next ≤ 10000) (hw : d.w.length + L.n < 1000000) :
    Calls Tryd.prog 42 #[.pointer (some ⟨p, 0, none⟩)] w fun e w' => e = .returned (.int .i64 (loadL d L).e) ∧ LgNext B p g v (loadL d L).L (loadL d L).d w w' := by
  have H := Lib.hid h
  have m1 : w.cell? ⟨p, 1, none⟩ = some (.int .i64 (L.a : Nat)) := h.m.hp.cell 1
  have hn2 : (L.n : Int) ≤ 10000 := by omega
  clear h m1
  go_enter Tryd.func42, Tryd.ntmps42
  go_wp2_with fail
  obtain ⟨bb, hbb⟩ : ∃ b, Hid (w.heap.size = b) := ⟨_, Lib.hid rfl⟩
  refine gen_world (fun W => Hid (Lib.IsBuilder 108 5 w.heap.size bb (Lib.byteCells []) W) ∧ Hid (Below w.heap.size w W)) ⟨Lib.hid (by rw [← hbb.out]; exact Lib.fresh_isBuilder _ _ _), Lib.hid ((Below.refl _ _).alloc (Nat.le_refl _) _)⟩ ?_
  rintro w1 ⟨K1, A1⟩
  rw [hbb.out]
  go_loopg [4] (L.n + 2) (fun kq v4 wr => ∃ (k : Nat) (acc : List UInt8), kq = L.n + 3 - k ∧ 1 ≤ k ∧ (k ≤ L.n ∨ k = 1) ∧ v4 = .int .i64 (k : Nat) ∧ Hid (readsGo L.a (List.range' 1 (L.n - 1)) [] d = readsGo L.a (List.range' k (L.n - k)) acc d) ∧ Hid (Lib.IsBuilder 108 5 w.heap.size bb (Lib.byteCells acc) wr) ∧ Hid (Below w.heap.size w wr) ∧ Hid (acc.length ≤ 64 * k))
  case atStart => exact ⟨1, [], by omega, by omega, .inr rfl, rfl, Lib.hid rfl, K1, A1, Lib.hid (Nat.zero_le _)⟩
  case round =>
    clear K1 A1
    obtain ⟨k, acc, rfl, hk1, hk2, rfl, HE, HK, HA, HC⟩ := hrel
    have HW := Lib.hid (H.out.below HA.out)
    have m0 : wr.cell? ⟨p, 0, none⟩ = some (.pointer (some ⟨g, 0, none⟩)) := HW.out.m.hp.cell 0
    have m1 : wr.cell? ⟨p, 1, none⟩ = some (.int .i64 (L.a : Nat)) := HW.out.m.hp.cell 1
    have m2 : wr.cell? ⟨p, 2, none⟩ = some (.int .i64 (L.n : Nat)) := HW.out.m.hp.cell 2
    by_cases hlt : k < L.n
    · have HRC := Lib.hid (range_cons k L.n hlt)
      have e1 : (k : Int) < (L.n : Int) := by omega
      have HRD := Lib.hid (hread_any HW.out.d L.a L.n k (by omega) (by omega))
      unfold hv at HRD
      have HRL := Lib.hid (read_le d HW.out.d.ok ((L.a + k : Nat) : Int))
      obtain ⟨rs, hrs⟩ : ∃ r, Hid ((d.read ((L.a + k : Nat) : Int)).1 = r) := ⟨_, Lib.hid rfl⟩
      obtain ⟨re, hre⟩ : ∃ r, Hid ((d.read ((L.a + k : Nat) : Int)).2 = r) := ⟨_, Lib.hid rfl⟩
      rw [hrs.out, hre.out] at HRD
      rw [hrs.out] at HRL
      clear hlt
      go_wp2_with fail
      refine HRD.out.mono ?_
      rintro e w2 ⟨rfl, b2⟩
      have A2 := Lib.hid (HA.out.trans (b2.mono HA.out.size))
      have K2 := Lib.hid (builder_below HK.out b2)
      clear b2 m0 m1 m2 HRD
      by_cases h0 : re = 0
      · have HN := Lib.hid (show readsGo L.a (List.range' 1 (L.n - 1)) [] d = readsGo L.a (List.range' (k + 1) (L.n - (k + 1))) (acc ++ rs) d by
          rw [HE.out, HRC.out, readsGo, hre.out, if_neg (by omega), hrs.out])
        subst h0
        go_wp2_with fail
        refine (writeString_any _ _ _ rs _ K2.out (by have := HC.out; have := HRL.out; simp only [Lib.byteCells, List.length_map]; omega) A2.out.size).mono ?_
        rintro e w3 ⟨rfl, k3, b3⟩
        have A3 := Lib.hid (A2.out.trans b3)
        have K3 := Lib.hid (show Lib.IsBuilder 108 5 w.heap.size bb (Lib.byteCells (acc ++ rs)) w3 by
          rw [show Lib.byteCells (acc ++ rs) = Lib.byteCells acc ++ Lib.byteCells rs by simp [Lib.byteCells]]; exact k3)
        clear k3 b3
        go_wp2_with fail
        go_roundg (L.n + 3 - (k + 1))
        case measure => omega
        case rel => exact ⟨k + 1, acc ++ rs, rfl, by omega, by omega, by go_num, HN, K3, A3, Lib.hid (by have := HC.out; have := HRL.out; rw [List.length_append]; omega)⟩
      · have HN := Lib.hid (loadL_err d L re acc (by rw [HE.out, HRC.out, readsGo, hre.out, if_pos h0]) h0)
        have q3 : (re != 0) = true := by simpa using h0
        have q4 : (re == 0) = false := by simpa using h0
        clear h0
        go_wp2_with fail
        go_ret
        rw [HN.out]
        exact ⟨rfl, (below_step A2.out H.out).next⟩
    · have hr0 : List.range' k (L.n - k) = [] := by rw [show L.n - k = 0 by omega]; rfl
      have e1 : decide ((k : Int) < (L.n : Int)) = false := decide_eq_false (by omega)
      have e2 : decide (k < L.n) = false := decide_eq_false hlt
      have HRS := Lib.hid (show readsGo L.a (List.range' 1 (L.n - 1)) [] d = (0, acc) by rw [HE.out, hr0, readsGo])
      clear hlt hr0
      go_wp2_with fail
      refine (builder_string _ _ acc _ HK.out HA.out.size).mono ?_
      rintro e w3 ⟨rfl, b3⟩
      have W3 := Lib.hid (below_step (HA.out.trans b3) H.out)
      have HAL := Lib.hid (show acc.length ≤ 64 * (L.n + 1) by have := HC.out; omega)
      clear b3 m0 m1 m2 HK HA HW
      go_wp2_with fail
      go_loopg [7] acc.length (fun kq v7 wr => ∃ (f : Nat) (s : List UInt8) (L' : Lg) (v' : Value), kq = s.length ∧ v7 = .string ⟨s.toArray⟩ ∧ Hid (s.length ≤ f) ∧ Hid (recsGo acc.length acc L = recsGo f s L') ∧ Hid (LgStep B p g v v' L' d w wr) ∧ Hid (LdB L s L'))
      case atStart => exact ⟨acc.length, acc, L, v, rfl, rfl, Lib.hid (Nat.le_refl _), Lib.hid rfl, W3, Lib.hid ⟨rfl, rfl, by have := HAL.out; omega, by have := HAL.out; omega, hm⟩⟩
      case round =>
        clear W3
        obtain ⟨f, s, L', v', rfl, rfl, HFU, HE, HW, HB⟩ := hrel
        have hsz : (⟨s.toArray⟩ : ByteArray).size = s.length := by simp [ByteArray.size]
        by_cases h18 : 18 < s.length
        · have g0 : ∀ h, (⟨s.toArray⟩ : ByteArray)[0]'h = bd s 0 := fun h => by
            show s.toArray[0] = _
            rw [List.getElem_toArray]
            unfold bd
            rw [List.getD_eq_getElem?_getD, List.getElem?_eq_getElem (by omega)]; rfl
          have g1 : ∀ h, (⟨s.toArray⟩ : ByteArray)[1]'h = bd s 1 := fun h => by
            show s.toArray[1] = _
            rw [List.getElem_toArray]
            unfold bd
            rw [List.getD_eq_getElem?_getD, List.getElem?_eq_getElem (by omega)]; rfl
          have hor : bits .or .i64 (((bd s 0).toNat : Int) * 256) ((bd s 1).toNat : Int) = ((lenL s : Nat) : Int) := or_low (bd s 0).toNat (bd s 1).toNat (bd s 1).toNat_lt (by have := (bd s 0).toNat_lt; omega)
          have hx : (⟨s.toArray⟩ : ByteArray).extract 18 (18 + lenL s) = ⟨(textL s).toArray⟩ := by
            rw [extract_mid]; unfold textL; congr 3; omega
          have hNb : lenL s < 65536 := by unfold lenL; have := (bd s 0).toNat_lt; have := (bd s 1).toNat_lt; omega
          obtain ⟨sb, SB⟩ : ∃ t : ByteArray, Hid (⟨s.toArray⟩ = t) := ⟨_, Lib.hid rfl⟩
          rw [SB.out] at hsz g0 g1 hx ⊢
          obtain ⟨N, hN⟩ : ∃ N, Hid (lenL s = N) := ⟨_, Lib.hid rfl⟩
          rw [hN.out] at hor hx hNb
          obtain ⟨b0, hb0⟩ : ∃ b, Hid (bd s 0 = b) := ⟨_, Lib.hid rfl⟩
          obtain ⟨b1, hb1⟩ : ∃ b, Hid (bd s 1 = b) := ⟨_, Lib.hid rfl⟩
          rw [hb0.out] at g0 hor
          rw [hb1.out] at g1 hor
          have x0 := b0.toNat_lt
          have x1 := b1.toNat_lt
          have e0 : 0 < s.length := by omega
          have e00 : 1 < s.length := by omega
          have e2 : (1 : Int) < (s.length : Int) := by omega
          have e3 : (0 : Int) < (s.length : Int) := by omega
          have i0 : ∀ W, (Instr.index 9 (.string sb) (.int .i64 0)).run Tryd.prog W = .ok (.int .u8 (b0.toNat : Int)) W := fun W => by
            have hd : 0 < sb.size := by rw [hsz]; omega
            rw [run_index_string _ _ _ _ _ Tryd.underlying9]
            first | (simp [hd, g0 hd]; done) | (simp [hd, g0 hd]; intro h; omega)
          have i1 : ∀ W, (Instr.index 9 (.string sb) (.int .i64 1)).run Tryd.prog W = .ok (.int .u8 (b1.toNat : Int)) W := fun W => by
            have hd : 1 < sb.size := by rw [hsz]; omega
            rw [run_index_string _ _ _ _ _ Tryd.underlying9]
            first | (simp [hd, g1 hd]; done) | (simp [hd, g1 hd]; intro h; omega)
          have e1 : (18 : Int) < (s.length : Int) := by omega
          have hor2 : bits .or .i64 (IntKind.i64.wrap (IntKind.i64.wrap (b0.toNat : Int) * 256)) (IntKind.i64.wrap (b1.toNat : Int)) = (N : Int) := by
            have hw : ∀ z : Int, 0 ≤ z → z < 1000000 → IntKind.i64.wrap z = z := fun z h1 h2 => by rw [IntKind.wrap_i64]; omega
            rw [hw (b0.toNat : Int) (by omega) (by omega), hw _ (by omega) (by omega), hw (b1.toNat : Int) (by omega) (by omega)]
            exact hor
          have HX := Lib.hid hx
          clear hx
          have HW1 := Lib.hid (fun q => (show LgStep B p g v v' L' d w (wr.drewN q) from HW.out.below (below_drewN (Below.refl _ _) q)))
          go_upto_region 11 with fail
          go_quiet (fail)
          generalize hq : wr.drewN _ = wr1
          have HW2 := Lib.hid (show LgStep B p g v v' L' d w wr1 by rw [← hq]; exact HW1.out _)
          clear HW HW1 hq g0 g1 hor hor2 x0 x1 e0 e00 e2 e3 i0 i1
          have HW := HW2
          clear HW2
          have hsl : (s.length : Int) ≤ 2000000 := by have := HB.out.next; omega
          by_cases hN1 : 1 ≤ N
          · by_cases hN2 : N ≤ 2000
            · by_cases hN3 : N ≤ s.length - 18
              · have q1 : decide ((N : Int) < 1) = false := decide_eq_false (by omega)
                have q2 : decide (2000 < (N : Int)) = false := decide_eq_false (by omega)
                have q3 : decide ((s.length : Int) - 18 < (N : Int)) = false := decide_eq_false (by omega)
                have q4 : (N : Int) ≤ (s.length : Int) - 18 := by omega
                have q5 : 0 ≤ (N : Int) ∧ (N : Int) ≤ 2000 := by omega
                have hTL : (textL s).length = N := by unfold textL; rw [List.length_take, List.length_drop, hN.out]; omega
                have HRK := Lib.hid (recOk_of L'.mark s h18 (by rw [hN.out]; exact hN1) (by rw [hN.out]; exact hN2) (by rw [hN.out]; exact hN3))
                have HYS := Lib.hid (recsGo_yes f s L')
                obtain ⟨t, ht⟩ : ∃ t, Hid (textL s = t) := ⟨_, Lib.hid rfl⟩
                rw [ht.out] at hTL HRK HYS HX
                have hsl1 : ∀ W, (Instr.slice 9 (.string sb) (some (.int .i64 18)) (some (.int .i64 (18 + (N : Int)))) none).run Tryd.prog W = .ok (.string ⟨t.toArray⟩) W := fun W => by
                  rw [run_slice_string _ _ _ _ _ _ _ Tryd.underlying9 (by omega) (by omega) (by rw [hsz]; omega)]
                  rw [show ((18 : Int)).toNat = 18 from rfl, show (18 + (N : Int)).toNat = 18 + N by omega, HX.out]
                have HRC := Lib.hid (fun W hk hks => record_any L'.mark t W HB.out.mark (by rw [hTL]; omega) hk hks)
                have HRL := Lib.hid (recL_length L'.mark t)
                have HSN := Lib.hid (show 1 ≤ sectorsN t by unfold sectorsN; omega)
                have HTT := Lib.hid (show ∀ W, LgM B W p g v' L' → B ≤ W.heap.size → Calls Tryd.prog 70 #[.pointer (some ⟨p, 0, none⟩), .string ⟨t.toArray⟩, .string ⟨(ownL L'.mark t).toArray⟩, .int .i64 ((sectorsN t : Int) * 64)] W fun e w' => TookOut B p g v' (L'.took t (ownL L'.mark t) (sectorsN t)) W w' e from fun W hW hB => by
                  have := took_any hW t (ownL L'.mark t) (sectorsN t) hB (by have := HB.out.l; omega) (by unfold sectorsN; omega) (by have := HB.out.next; omega)
                  rw [show ((sectorsN t * 64 : Nat) : Int) = (sectorsN t : Int) * 64 by omega] at this
                  exact this)
                have HPX := Lib.hid (fun W => prefix_any s (recL L'.mark t) W)
                obtain ⟨R, hR⟩ : ∃ R, Hid (recL L'.mark t = R) := ⟨_, Lib.hid rfl⟩
                obtain ⟨O, hO⟩ : ∃ O, Hid (ownL L'.mark t = O) := ⟨_, Lib.hid rfl⟩
                obtain ⟨SN, hSN⟩ : ∃ n, Hid (sectorsN t = n) := ⟨_, Lib.hid rfl⟩
                rw [hR.out, hO.out] at HRC
                rw [hR.out, hSN.out] at HRL
                rw [hR.out] at HRK HPX
                rw [hSN.out] at HSN
                rw [hSN.out, hO.out] at HTT HYS
                rw [SB.out] at HPX
                obtain ⟨rb, RB⟩ : ∃ t : ByteArray, Hid (⟨R.toArray⟩ = t) := ⟨_, Lib.hid rfl⟩
                obtain ⟨ob, OB⟩ : ∃ t : ByteArray, Hid (⟨O.toArray⟩ = t) := ⟨_, Lib.hid rfl⟩
                obtain ⟨mb, MB⟩ : ∃ t : ByteArray, Hid (⟨L'.mark.toArray⟩ = t) := ⟨_, Lib.hid rfl⟩
                have hrz : rb.size = SN * 64 := by rw [← RB.out]; show R.toArray.size = _; rw [List.size_toArray, HRL.out]
                rw [RB.out, OB.out, MB.out] at HRC
                rw [RB.out] at HPX
                rw [OB.out] at HTT
                have m2 : wr1.cell? ⟨p, 4, none⟩ = some (.string mb) := by rw [← MB.out]; exact HW.out.lw.m.hp.cell 4
                obtain ⟨pf, hpf⟩ : ∃ b, Hid (R.isPrefixOf s = b) := ⟨_, Lib.hid rfl⟩
                rw [hpf.out] at HPX HRK
                clear hN1 hN2 hN3 h18 hNb
                go_wp2_with fail
                refine (HRC.out wr1 HW.out.lw.k (Nat.lt_of_lt_of_le HW.out.lw.ks HW.out.lw.d.hB)).mono ?_
                rintro e w4 ⟨rfl, b4⟩
                have W4 := Lib.hid (HW.out.below b4)
                clear b4 m2 HRC hsl1 HW
                go_wp2_with fail
                refine (HPX.out _).mono ?_
                rintro e w5 ⟨rfl, rfl⟩
                clear HPX
                cases pf with
                | true =>
                  have HSX : SN * 64 ≤ s.length := by
                    have h1 : R <+: s := List.isPrefixOf_iff_prefix.1 hpf.out
                    have := h1.length_le
                    rw [HRL.out] at this; exact this
                  have HYY := Lib.hid (HYS.out HRK.out HFU.out)
                  have hsl2 : ∀ W, (Instr.slice 9 (.string sb) (some (.int .i64 ((SN : Int) * 64))) none none).run Tryd.prog W = .ok (.string ⟨(s.drop (SN * 64)).toArray⟩) W := fun W => by
                    rw [run_slice_string_l W _ sb Tryd.underlying9 .i64 ((SN : Int) * 64) (by omega) (by rw [hsz]; omega)]
                    rw [show ((SN : Int) * 64).toNat = SN * 64 by omega, hsz, ← SB.out, extract_eq]
                  go_wp2_with fail
                  refine (HTT.out _ W4.out.lw.m W4.out.lw.d.hB).mono ?_
                  intro e w5 hT
                  obtain ⟨v6, hst⟩ := (W4.out.lw.turned hT).step
                  have W5 := Lib.hid (W4.out.trans hst)
                  have HEE := hT.e
                  subst HEE
                  clear hT hst W4 HTT
                  go_wp2_with fail
                  go_roundg ((s.drop (SN * 64)).length)
                  case measure => rw [List.length_drop]; have := HSN.out; omega
                  case rel =>
                    obtain ⟨f', hf1, hf2⟩ := HYY.out
                    refine ⟨f', s.drop (SN * 64), L'.took t O SN, v6, rfl, rfl, Lib.hid hf1, Lib.hid (HE.out.trans hf2), W5, Lib.hid ⟨HB.out.a, HB.out.n, ?_, ?_, ?_⟩⟩
                    · show (L'.next + SN) * 64 + (s.drop (SN * 64)).length ≤ _
                      have := HB.out.next
                      rw [List.length_drop]; omega
                    · show (L'.l ++ [t]).length * 64 + (s.drop (SN * 64)).length ≤ _
                      have := HB.out.l
                      have := HSN.out
                      rw [List.length_drop, List.length_append, List.length_singleton]; omega
                    · show O.length ≤ _
                      rw [← hO.out, ownL_length]; decide
                | false =>
                  have HRO := HRK
                  have HW := W4
                  clear W4
                  have HN := Lib.hid (show loadL d L = ⟨(cleanL L'.a L'.n L'.next d).1, (cleanL L'.a L'.n L'.next d).2, L'⟩ by
                    rw [HB.out.a, HB.out.n]
                    exact loadL_ok d L L' acc HRS.out (by rw [HE.out]; exact recsGo_no f s L' HRO.out))
                  have m0 : w4.cell? ⟨p, 0, none⟩ = some (.pointer (some ⟨g, 0, none⟩)) := HW.out.lw.m.hp.cell 0
                  have m1 : w4.cell? ⟨p, 1, none⟩ = some (.int .i64 (L'.a : Nat)) := HW.out.lw.m.hp.cell 1
                  have m2 : w4.cell? ⟨p, 2, none⟩ = some (.int .i64 (L'.n : Nat)) := HW.out.lw.m.hp.cell 2
                  have m5 : w4.cell? ⟨p, 5, none⟩ = some (.int .i64 (L'.next : Nat)) := HW.out.lw.m.hp.cell 5
                  have HCL := Lib.hid (fun W (hW : DkAt B W g d) => clean_any hW L'.a L'.n L'.next (by have := HB.out.a; omega) (by have := HB.out.n; omega) (by have := HB.out.next; omega) (by have := HB.out.n; omega))
                  unfold hv at HCL
                  obtain ⟨ce, hce⟩ : ∃ r, Hid ((cleanL L'.a L'.n L'.next d).1 = r) := ⟨_, Lib.hid rfl⟩
                  obtain ⟨cd, hcd⟩ : ∃ r, Hid ((cleanL L'.a L'.n L'.next d).2 = r) := ⟨_, Lib.hid rfl⟩
                  rw [hce.out, hcd.out] at HCL HN
                  go_upto_region 18 with fail
                  refine still_tail 8 (by kernel_rfl) (by kernel_rfl) ?_
                  simp only [List.take_succ_cons, List.take_zero, List.drop_succ_cons, List.drop_zero]
                  repeat still_step
                  refine wpStill_nil ?_
                  clear m0 m1 m2 m5
                  go_wp2_with fail
                  refine (HCL.out w4.drew (by obtain ⟨q, vw, hA⟩ := HW.out.lw.d; exact ⟨q, vw, hA.drew⟩)).mono ?_
                  rintro e w9 ⟨rfl, d9, f9⟩
                  have F9 := Lib.hid (show Fr B w4 w9 from ⟨⟨f9.b.os, f9.b.tape, f9.b.output, f9.b.size, f9.b.block⟩, f9.f⟩)
                  have W9 := Lib.hid (HW.out.fr F9.out d9)
                  clear d9 f9 F9 HCL
                  go_wp2_with fail
                  go_ret
                  rw [HN.out]
                  exact ⟨rfl, W9.out.next⟩
              · have q1 : decide ((N : Int) < 1) = false := decide_eq_false (by omega)
                have q2 : decide (2000 < (N : Int)) = false := decide_eq_false (by omega)
                have q3 : decide ((s.length : Int) - 18 < (N : Int)) = true := decide_eq_true (by omega)
                have q4 : (s.length : Int) - 18 < (N : Int) := by omega
                have HRO := Lib.hid (recOk_short L'.mark s (by rw [hN.out]; omega))
                clear hN1 hN2 hN3 h18 hNb
                have HN := Lib.hid (show loadL d L = ⟨(cleanL L'.a L'.n L'.next d).1, (cleanL L'.a L'.n L'.next d).2, L'⟩ by
                  rw [HB.out.a, HB.out.n]
                  exact loadL_ok d L L' acc HRS.out (by rw [HE.out]; exact recsGo_no f s L' HRO.out))
                have m0 : wr1.cell? ⟨p, 0, none⟩ = some (.pointer (some ⟨g, 0, none⟩)) := HW.out.lw.m.hp.cell 0
                have m1 : wr1.cell? ⟨p, 1, none⟩ = some (.int .i64 (L'.a : Nat)) := HW.out.lw.m.hp.cell 1
                have m2 : wr1.cell? ⟨p, 2, none⟩ = some (.int .i64 (L'.n : Nat)) := HW.out.lw.m.hp.cell 2
                have m5 : wr1.cell? ⟨p, 5, none⟩ = some (.int .i64 (L'.next : Nat)) := HW.out.lw.m.hp.cell 5
                have HCL := Lib.hid (fun W (hW : DkAt B W g d) => clean_any hW L'.a L'.n L'.next (by have := HB.out.a; omega) (by have := HB.out.n; omega) (by have := HB.out.next; omega) (by have := HB.out.n; omega))
                unfold hv at HCL
                obtain ⟨ce, hce⟩ : ∃ r, Hid ((cleanL L'.a L'.n L'.next d).1 = r) := ⟨_, Lib.hid rfl⟩
                obtain ⟨cd, hcd⟩ : ∃ r, Hid ((cleanL L'.a L'.n L'.next d).2 = r) := ⟨_, Lib.hid rfl⟩
                rw [hce.out, hcd.out] at HCL HN
                go_upto_region 18 with fail
                refine still_tail 8 (by kernel_rfl) (by kernel_rfl) ?_
                simp only [List.take_succ_cons, List.take_zero, List.drop_succ_cons, List.drop_zero]
                repeat still_step
                refine wpStill_nil ?_
                clear m0 m1 m2 m5
                go_wp2_with fail
                refine (HCL.out wr1.drew (by obtain ⟨q, vw, hA⟩ := HW.out.lw.d; exact ⟨q, vw, hA.drew⟩)).mono ?_
                rintro e w9 ⟨rfl, d9, f9⟩
                have F9 := Lib.hid (show Fr B wr1 w9 from ⟨⟨f9.b.os, f9.b.tape, f9.b.output, f9.b.size, f9.b.block⟩, f9.f⟩)
                have W9 := Lib.hid (HW.out.fr F9.out d9)
                clear d9 f9 F9 HCL
                go_wp2_with fail
                go_ret
                rw [HN.out]
                exact ⟨rfl, W9.out.next⟩
            · have q1 : decide ((N : Int) < 1) = false := decide_eq_false (by omega)
              have q2 : decide (2000 < (N : Int)) = true := decide_eq_true (by omega)
              have HRO := Lib.hid (recOk_short L'.mark s (by rw [hN.out]; omega))
              clear hN1 hN2 h18 hNb
              have HN := Lib.hid (show loadL d L = ⟨(cleanL L'.a L'.n L'.next d).1, (cleanL L'.a L'.n L'.next d).2, L'⟩ by
                rw [HB.out.a, HB.out.n]
                exact loadL_ok d L L' acc HRS.out (by rw [HE.out]; exact recsGo_no f s L' HRO.out))
              have m0 : wr1.cell? ⟨p, 0, none⟩ = some (.pointer (some ⟨g, 0, none⟩)) := HW.out.lw.m.hp.cell 0
              have m1 : wr1.cell? ⟨p, 1, none⟩ = some (.int .i64 (L'.a : Nat)) := HW.out.lw.m.hp.cell 1
              have m2 : wr1.cell? ⟨p, 2, none⟩ = some (.int .i64 (L'.n : Nat)) := HW.out.lw.m.hp.cell 2
              have m5 : wr1.cell? ⟨p, 5, none⟩ = some (.int .i64 (L'.next : Nat)) := HW.out.lw.m.hp.cell 5
              have HCL := Lib.hid (fun W (hW : DkAt B W g d) => clean_any hW L'.a L'.n L'.next (by have := HB.out.a; omega) (by have := HB.out.n; omega) (by have := HB.out.next; omega) (by have := HB.out.n; omega))
              unfold hv at HCL
              obtain ⟨ce, hce⟩ : ∃ r, Hid ((cleanL L'.a L'.n L'.next d).1 = r) := ⟨_, Lib.hid rfl⟩
              obtain ⟨cd, hcd⟩ : ∃ r, Hid ((cleanL L'.a L'.n L'.next d).2 = r) := ⟨_, Lib.hid rfl⟩
              rw [hce.out, hcd.out] at HCL HN
              go_upto_region 18 with fail
              refine still_tail 8 (by kernel_rfl) (by kernel_rfl) ?_
              simp only [List.take_succ_cons, List.take_zero, List.drop_succ_cons, List.drop_zero]
              repeat still_step
              refine wpStill_nil ?_
              clear m0 m1 m2 m5
              go_wp2_with fail
              refine (HCL.out wr1.drew (by obtain ⟨q, vw, hA⟩ := HW.out.lw.d; exact ⟨q, vw, hA.drew⟩)).mono ?_
              rintro e w9 ⟨rfl, d9, f9⟩
              have F9 := Lib.hid (show Fr B wr1 w9 from ⟨⟨f9.b.os, f9.b.tape, f9.b.output, f9.b.size, f9.b.block⟩, f9.f⟩)
              have W9 := Lib.hid (HW.out.fr F9.out d9)
              clear d9 f9 F9 HCL
              go_wp2_with fail
              go_ret
              rw [HN.out]
              exact ⟨rfl, W9.out.next⟩
          · have q1 : decide ((N : Int) < 1) = true := decide_eq_true (by omega)
            have HRO := Lib.hid (recOk_short L'.mark s (by rw [hN.out]; omega))
            clear hN1 h18 hNb
            have HN := Lib.hid (show loadL d L = ⟨(cleanL L'.a L'.n L'.next d).1, (cleanL L'.a L'.n L'.next d).2, L'⟩ by
              rw [HB.out.a, HB.out.n]
              exact loadL_ok d L L' acc HRS.out (by rw [HE.out]; exact recsGo_no f s L' HRO.out))
            have m0 : wr1.cell? ⟨p, 0, none⟩ = some (.pointer (some ⟨g, 0, none⟩)) := HW.out.lw.m.hp.cell 0
            have m1 : wr1.cell? ⟨p, 1, none⟩ = some (.int .i64 (L'.a : Nat)) := HW.out.lw.m.hp.cell 1
            have m2 : wr1.cell? ⟨p, 2, none⟩ = some (.int .i64 (L'.n : Nat)) := HW.out.lw.m.hp.cell 2
            have m5 : wr1.cell? ⟨p, 5, none⟩ = some (.int .i64 (L'.next : Nat)) := HW.out.lw.m.hp.cell 5
            have HCL := Lib.hid (fun W (hW : DkAt B W g d) => clean_any hW L'.a L'.n L'.next (by have := HB.out.a; omega) (by have := HB.out.n; omega) (by have := HB.out.next; omega) (by have := HB.out.n; omega))
            unfold hv at HCL
            obtain ⟨ce, hce⟩ : ∃ r, Hid ((cleanL L'.a L'.n L'.next d).1 = r) := ⟨_, Lib.hid rfl⟩
            obtain ⟨cd, hcd⟩ : ∃ r, Hid ((cleanL L'.a L'.n L'.next d).2 = r) := ⟨_, Lib.hid rfl⟩
            rw [hce.out, hcd.out] at HCL HN
            go_upto_region 18 with fail
            refine still_tail 8 (by kernel_rfl) (by kernel_rfl) ?_
            simp only [List.take_succ_cons, List.take_zero, List.drop_succ_cons, List.drop_zero]
            repeat still_step
            refine wpStill_nil ?_
            clear m0 m1 m2 m5
            go_wp2_with fail
            refine (HCL.out wr1.drew (by obtain ⟨q, vw, hA⟩ := HW.out.lw.d; exact ⟨q, vw, hA.drew⟩)).mono ?_
            rintro e w9 ⟨rfl, d9, f9⟩
            have F9 := Lib.hid (show Fr B wr1 w9 from ⟨⟨f9.b.os, f9.b.tape, f9.b.output, f9.b.size, f9.b.block⟩, f9.f⟩)
            have W9 := Lib.hid (HW.out.fr F9.out d9)
            clear d9 f9 F9 HCL
            go_wp2_with fail
            go_ret
            rw [HN.out]
            exact ⟨rfl, W9.out.next⟩
        · have HRO := Lib.hid (recOk_short L'.mark s (by omega))
          have e1 : decide ((18 : Int) < (s.length : Int)) = false := decide_eq_false (by omega)
          have e2 : decide (18 < s.length) = false := decide_eq_false h18
          clear h18
          have HN := Lib.hid (show loadL d L = ⟨(cleanL L'.a L'.n L'.next d).1, (cleanL L'.a L'.n L'.next d).2, L'⟩ by
            rw [HB.out.a, HB.out.n]
            exact loadL_ok d L L' acc HRS.out (by rw [HE.out]; exact recsGo_no f s L' HRO.out))
          have m0 : wr.cell? ⟨p, 0, none⟩ = some (.pointer (some ⟨g, 0, none⟩)) := HW.out.lw.m.hp.cell 0
          have m1 : wr.cell? ⟨p, 1, none⟩ = some (.int .i64 (L'.a : Nat)) := HW.out.lw.m.hp.cell 1
          have m2 : wr.cell? ⟨p, 2, none⟩ = some (.int .i64 (L'.n : Nat)) := HW.out.lw.m.hp.cell 2
          have m5 : wr.cell? ⟨p, 5, none⟩ = some (.int .i64 (L'.next : Nat)) := HW.out.lw.m.hp.cell 5
          have HCL := Lib.hid (fun W (hW : DkAt B W g d) => clean_any hW L'.a L'.n L'.next (by have := HB.out.a; omega) (by have := HB.out.n; omega) (by have := HB.out.next; omega) (by have := HB.out.n; omega))
          unfold hv at HCL
          obtain ⟨ce, hce⟩ : ∃ r, Hid ((cleanL L'.a L'.n L'.next d).1 = r) := ⟨_, Lib.hid rfl⟩
          obtain ⟨cd, hcd⟩ : ∃ r, Hid ((cleanL L'.a L'.n L'.next d).2 = r) := ⟨_, Lib.hid rfl⟩
          rw [hce.out, hcd.out] at HCL HN
          go_upto_region 18 with fail
          refine still_tail 8 (by kernel_rfl) (by kernel_rfl) ?_
          simp only [List.take_succ_cons, List.take_zero, List.drop_succ_cons, List.drop_zero]
          repeat still_step
          refine wpStill_nil ?_
          clear m0 m1 m2 m5
          go_wp2_with fail
          refine (HCL.out wr.drew (by obtain ⟨q, vw, hA⟩ := HW.out.lw.d; exact ⟨q, vw, hA.drew⟩)).mono ?_
          rintro e w9 ⟨rfl, d9, f9⟩
          have F9 := Lib.hid (show Fr B wr w9 from ⟨⟨f9.b.os, f9.b.tape, f9.b.output, f9.b.size, f9.b.block⟩, f9.f⟩)
          have W9 := Lib.hid (HW.out.fr F9.out d9)
          clear d9 f9 F9 HCL
          go_wp2_with fail
          go_ret
          rw [HN.out]
          exact ⟨rfl, W9.out.next⟩
end Go.Proofs.YteajpebkanamgaaDoor
namespace Go.Proofs.YteajpebkanamgaaDoor
open Go.RowKit
set_option linter.unusedSimpArgs false
set_option linter.unusedVariables false
set_option maxRecDepth 20000
/-- of two halves' generations: the first sector and the generation of the one in use. -/
def openG (n g0 g1 : Nat) : Nat × Nat := if g0 < g1 then (n, g1) else (0, g0)
def lg0 : Lg := ⟨0, 0, 0, [], 1, []⟩
def openL (d : Dk) : LgOut :=
  let n := d.l.length / 2
  if n < 2 then ⟨4, d, lg0⟩ else
  if (d.read ((0 : Nat) : Int)).2 ≠ 0 then ⟨(d.read ((0 : Nat) : Int)).2, d, lg0⟩ else
  if (d.read (n : Int)).2 ≠ 0 then ⟨(d.read (n : Int)).2, d, lg0⟩ else
  let x := openG n (genL (d.read ((0 : Nat) : Int)).1) (genL (d.read (n : Int)).1)
  if x.2 = 0 then beginL 0 n 1 [] d else loadL d ⟨x.1, n, x.2, hmark x.2, 1, []⟩
def opA (n g0 g1 : Nat) : Nat → Nat × Nat
  | 0 => (0, 0)
  | 1 => (0, g0)
  | _ => openG n g0 g1
def opC (g n a gen : Nat) : Array Value := if gen = 0 then #[.pointer none, .int .i64 0, .int .i64 0, .int .i64 0, .string ⟨#[]⟩, .int .i64 1, .slice none 0 0] else #[.pointer (some ⟨g, 0, none⟩), .int .i64 (a : Nat), .int .i64 (n : Nat), .int .i64 (gen : Nat), .string ⟨#[]⟩, .int .i64 1, .slice none 0 0]
theorem opC_gen (g n a gen : Nat) : (opC g n a gen)[3]? = some (.int .i64 (gen : Nat)) := by
  unfold opC
  by_cases h : gen = 0
  · subst h; rfl
  · rw [if_neg h]; rfl
theorem opC_set (g n a gen a' gen' : Nat) (h : 0 < gen') : ((((opC g n a gen).setIfInBounds 0 (.pointer (some ⟨g, 0, none⟩))).setIfInBounds 1 (.int .i64 (a' : Nat))).setIfInBounds 2 (.int .i64 (n : Nat))).setIfInBounds 3 (.int .i64 (gen' : Nat)) = opC g n a' gen' := by
  have h' : opC g n a' gen' = #[.pointer (some ⟨g, 0, none⟩), .int .i64 (a' : Nat), .int .i64 (n : Nat), .int .i64 (gen' : Nat), .string ⟨#[]⟩, .int .i64 1, .slice none 0 0] := by unfold opC; rw [if_neg (by omega)]
  rw [h']
  unfold opC
  by_cases h : gen = 0
  · subst h; rfl
  · rw [if_neg h]; rfl
theorem opC_mark (g n a gen : Nat) (m : List UInt8) (h : gen ≠ 0) : (opC g n a gen).setIfInBounds 4 (.string ⟨m.toArray⟩) = lgC g (.slice none 0 0) ⟨a, n, gen, m, 1, []⟩ := by
  unfold opC
  rw [if_neg h]
  rfl
theorem genL_le (s : List UInt8) : genL s ≤ 2147483647 := by
  unfold genL
  simp only
  split
  · rename_i h; exact h.2.1
  · exact Nat.zero_le _
theorem read_64 (d : Dk) (h : d.Ok) (i : Int) (he : (d.read i).2 = 0) : (d.read i).1.length = 64 := by
  unfold Dk.read at he ⊢
  by_cases ht : d.there i = 0
  · rw [if_neg (by rw [ht]; decide)]
    have hi : 0 ≤ i ∧ i < d.l.length := by
      unfold Dk.there at ht
      split at ht
      · cases ht
      · split at ht
        · cases ht
        · omega
    show (d.l.getD i.toNat []).length = 64
    have hi2 : i.toNat < d.l.length := by omega
    rw [List.getD_eq_getElem?_getD, List.getElem?_eq_getElem hi2]
    exact h.l _ (List.getElem_mem hi2)
  · rw [if_pos ht] at he
    exact absurd he ht
theorem build_log0 : Tryd.prog.built 72 [(3, .int .i64 1)] = some (opC 0 0 0 0) := by kernel_rfl
set_option maxHeartbeats 3200000 in
theorem open_any {B : Nat} {w : World} {g : Nat} {d : Dk} (h : DkAt B w g d) (hk : KsAt w) (hks : 0 < B) (hw : d.w.length < 100000) :
    Calls Tryd.prog 10 #[.pointer (some ⟨g, 0, none⟩)] w fun e w' => BegOut B g (openL d) w w' e := by
  have HD := Lib.hid h
  have HB := Lib.hid h.hB
  have HK := Lib.hid hk
  have HOK := Lib.hid h.ok
  have hb0 := build_log0
  have HSZ := Lib.hid (show Calls Tryd.prog 37 #[.pointer (some ⟨g, 0, none⟩)] w fun e w' => e = .returned (.int .i64 (d.l.length : Nat)) ∧ Below w.heap.size w w' by
    obtain ⟨q, vw, hA⟩ := h
    exact size_any hA)
  have HL := Lib.hid (show d.l.length ≤ 1024 from h.ok.n)
  obtain ⟨m, hm⟩ : ∃ m, Hid (d.l.length = m) := ⟨_, Lib.hid rfl⟩
  rw [hm.out] at HSZ HL
  obtain ⟨n, hn⟩ : ∃ n, Hid (m / 2 = n) := ⟨_, Lib.hid rfl⟩
  have hq : (m : Int) / 2 = (n : Int) := by have := hn.out; omega
  have hq2 : 0 ≤ (m : Int) ∧ (m : Int) ≤ 1024 := by have := HL.out; omega
  have HN := Lib.hid (show n ≤ 512 by have := HL.out; have := hn.out; omega)
  have HNL := Lib.hid (show d.l.length / 2 = n by rw [hm.out, hn.out])
  clear h hk
  go_enter Tryd.func10, Tryd.ntmps10
  go_wp2_with fail
  refine HSZ.out.mono ?_
  rintro e w1 ⟨rfl, b1⟩
  have A1 := Lib.hid b1
  clear b1 HSZ
  by_cases hn2 : n < 2
  · have HR := Lib.hid (show openL d = ⟨4, d, lg0⟩ by unfold openL; simp only [HNL.out]; rw [if_pos hn2])
    have q1 : (n : Int) < 2 := by omega
    clear hn2
    go_wp2_with fail
    go_ret2
    rw [HR.out]
    exact ⟨Fr.of A1.out HB.out, .inr ⟨show (4 : Int) ≠ 0 by decide, by rfl, HD.out.below A1.out⟩⟩
  · have q1 : decide ((n : Int) < 2) = false := decide_eq_false (by omega)
    have HN2 := Lib.hid hn2
    have hqn : 0 ≤ (n : Int) ∧ (n : Int) ≤ 512 := by have := HN.out; omega
    clear hn2
    go_upto_region 7 with fail
    obtain ⟨lp, hlp⟩ : ∃ b, Hid (w1.heap.size = b) := ⟨_, Lib.hid rfl⟩
    have LP := Lib.hid (show w.heap.size ≤ lp by rw [← hlp.out]; exact A1.out.size)
    obtain ⟨g0, hg0⟩ : ∃ r, Hid (genL (d.read ((0 : Nat) : Int)).1 = r) := ⟨_, Lib.hid rfl⟩
    obtain ⟨g1, hg1⟩ : ∃ r, Hid (genL (d.read (n : Int)).1 = r) := ⟨_, Lib.hid rfl⟩
    refine gen_world (fun W => Hid (Below w.heap.size w W) ∧ Hid (Blk W lp 72 (opC g n 0 0))) ⟨Lib.hid (A1.out.alloc A1.out.size _), Lib.hid (by rw [← hlp.out]; exact Blk.new _ _ _)⟩ ?_
    clear A1
    rintro w2 ⟨A2, P2⟩
    rw [hlp.out]
    go_wp2_with fail
    go_loopg [21] 3 (fun kq v21 wr => ∃ k : Nat, kq = 3 - k ∧ k ≤ 2 ∧ v21 = .int .i64 (k : Nat) ∧ Hid (Below w.heap.size w wr) ∧ Hid (Blk wr lp 72 (opC g n (opA n g0 g1 k).1 (opA n g0 g1 k).2)) ∧ Hid (0 < k → (d.read ((0 : Nat) : Int)).2 = 0) ∧ Hid (1 < k → (d.read (n : Int)).2 = 0))
    case atStart => exact ⟨0, rfl, by omega, rfl, A2, P2, Lib.hid (fun h => absurd h (by omega)), Lib.hid (fun h => absurd h (by omega))⟩
    case round =>
      clear A2 P2
      obtain ⟨k, rfl, hk2, rfl, A3, P3, E0, E1⟩ := hrel
      by_cases hlt : k < 2
      · have e1 : (k : Int) < 2 := by omega
        obtain ⟨i, hi⟩ : ∃ i : Nat, Hid (k * n = i) := ⟨_, Lib.hid rfl⟩
        have hki : (k : Int) * (n : Int) = (i : Int) := by rw [← hi.out]; simp
        have hib : 0 ≤ (i : Int) ∧ (i : Int) ≤ 1024 := by
          have h1 : k * n ≤ 1 * 512 := Nat.mul_le_mul (by omega) HN.out
          have := hi.out
          omega
        have hkw : IntKind.i64.wrap ((k : Int) * (n : Int)) = (i : Int) := by rw [hki, IntKind.wrap_i64]; omega
        have HRD := Lib.hid (show ∀ W, DkAt B W g d → Calls Tryd.prog 38 #[.agg #[.pointer (some ⟨g, 0, none⟩), .int .i64 (i : Nat), .int .i64 (n : Nat)], .int .i64 0] W fun e w' => e = .returned (.tuple #[.string ⟨(d.read (i : Int)).1.toArray⟩, .int .i64 (d.read (i : Int)).2]) ∧ Below W.heap.size W w' from fun W hW => hread_any hW i n 0 (by omega) (by decide))
        have R64 := Lib.hid (read_64 d HOK.out (i : Int))
        obtain ⟨rs, hrs⟩ : ∃ r, Hid ((d.read (i : Int)).1 = r) := ⟨_, Lib.hid rfl⟩
        obtain ⟨re, hre⟩ : ∃ r, Hid ((d.read (i : Int)).2 = r) := ⟨_, Lib.hid rfl⟩
        rw [hrs.out, hre.out] at HRD R64
        have HOP := Lib.hid (show ∀ G, genL rs = G → opA n g0 g1 (k + 1) = if (opA n g0 g1 k).2 < G then (i, G) else opA n g0 g1 k from fun G hG => by
          rcases (show k = 0 ∨ k = 1 by omega) with rfl | rfl
          · have h0 : i = 0 := by have := hi.out; omega
            subst h0
            have h1 : g0 = G := by rw [← hg0.out, hrs.out, hG]
            subst h1
            show (0, g0) = if (0 : Nat) < g0 then (0, g0) else (0, 0)
            by_cases hz : g0 = 0
            · subst hz; rfl
            · rw [if_pos (by omega)]
          · have h0 : i = n := by have := hi.out; omega
            subst h0
            have h1 : g1 = G := by rw [← hg1.out, hrs.out, hG]
            subst h1
            rfl)
        have HE0 := Lib.hid (show re = 0 → (0 < k + 1 → (d.read ((0 : Nat) : Int)).2 = 0) ∧ (1 < k + 1 → (d.read (n : Int)).2 = 0) from fun hz => by
          rcases (show k = 0 ∨ k = 1 by omega) with rfl | rfl
          · have h0 : i = 0 := by have := hi.out; omega
            subst h0
            exact ⟨fun _ => hre.out.trans hz, fun h => absurd h (by omega)⟩
          · have h0 : i = n := by have := hi.out; omega
            subst h0
            exact ⟨fun _ => E0.out (by omega), fun _ => hre.out.trans hz⟩)
        have HE1 := Lib.hid (show re ≠ 0 → openL d = ⟨re, d, lg0⟩ from fun hz => by
          unfold openL
          simp only [HNL.out]
          rw [if_neg HN2.out]
          rcases (show k = 0 ∨ k = 1 by omega) with rfl | rfl
          · have h0 : i = 0 := by have := hi.out; omega
            subst h0
            simp only [hre.out]
            rw [if_pos hz]
          · have h0 : i = n := by have := hi.out; omega
            subst h0
            rw [if_neg (by rw [E0.out (by omega)]; simp)]
            simp only [hre.out]
            rw [if_pos hz])
        obtain ⟨x, hx⟩ : ∃ x, Hid (opA n g0 g1 k = x) := ⟨_, Lib.hid rfl⟩
        rw [hx.out] at HOP P3
        go_upto_region 11 with fail
        obtain ⟨hb, hhb⟩ : ∃ b, Hid (wr.heap.size = b) := ⟨_, Lib.hid rfl⟩
        have HBL := Lib.hid (show lp < hb by rw [← hhb.out]; exact P3.out.lt)
        refine gen_world (fun W => Hid (Below w.heap.size w W) ∧ Hid (Blk W lp 72 (opC g n x.1 x.2)) ∧ Hid (Blk W hb 70 #[.pointer (some ⟨g, 0, none⟩), .int .i64 (i : Nat), .int .i64 (n : Nat)])) ⟨Lib.hid (A3.out.alloc A3.out.size _), Lib.hid (P3.out.alloc _), Lib.hid (by rw [← hhb.out]; exact Blk.new _ _ _)⟩ ?_
        clear A3 P3 E0 E1 hki hib hkw hlt
        rintro w4 ⟨A4, P4, M4⟩
        rw [hhb.out]
        have m0 : w4.cell? ⟨hb, 0, none⟩ = some (.pointer (some ⟨g, 0, none⟩)) := M4.out.cell 0
        have m1 : w4.cell? ⟨hb, 1, none⟩ = some (.int .i64 (i : Nat)) := M4.out.cell 1
        have m2 : w4.cell? ⟨hb, 2, none⟩ = some (.int .i64 (n : Nat)) := M4.out.cell 2
        go_wp2_with fail
        refine (HRD.out _ (HD.out.below A4.out)).mono ?_
        rintro e w5 ⟨rfl, b5⟩
        have A5 := Lib.hid (A4.out.trans (b5.mono A4.out.size))
        have P5 := Lib.hid (P4.out.below b5 P4.out.lt)
        have M5 := Lib.hid (M4.out.below b5 M4.out.lt)
        clear b5 m0 m1 m2 A4 P4 M4 HRD
        by_cases h0 : re = 0
        · have HEE := Lib.hid (HE0.out h0)
          have HGN := Lib.hid (generation_any rs w5 (R64.out h0) (HK.out.below (Nat.lt_of_lt_of_le hks HB.out) A5.out) (Nat.lt_of_lt_of_le hks (Nat.le_trans HB.out A5.out.size)))
          have HGL := Lib.hid (genL_le rs)
          obtain ⟨G, hG⟩ : ∃ G, Hid (genL rs = G) := ⟨_, Lib.hid rfl⟩
          have HOQ := Lib.hid (HOP.out G hG.out)
          rw [hG.out] at HGN HGL
          subst h0
          go_wp2_with fail
          refine HGN.out.mono ?_
          rintro e w6 ⟨rfl, b6⟩
          have A6 := Lib.hid (A5.out.trans (b6.mono A5.out.size))
          have P6 := Lib.hid (P5.out.below b6 P5.out.lt)
          have M6 := Lib.hid (M5.out.below b6 M5.out.lt)
          clear b6 A5 P5 M5 HGN
          have p3 : w6.cell? ⟨lp, 3, none⟩ = some (.int .i64 (x.2 : Nat)) := by rw [P6.out.cell 3]; exact opC_gen _ _ _ _
          obtain ⟨C, hC⟩ : ∃ C, Hid (x.2 = C) := ⟨_, Lib.hid rfl⟩
          rw [hC.out] at p3 HOQ
          by_cases hgt : C < G
          · have q1 : (C : Int) < (G : Int) := by omega
            have HGT := Lib.hid hgt
            have m0 : w6.cell? ⟨hb, 0, none⟩ = some (.pointer (some ⟨g, 0, none⟩)) := M6.out.cell 0
            have m1 : w6.cell? ⟨hb, 1, none⟩ = some (.int .i64 (i : Nat)) := M6.out.cell 1
            have m2 : w6.cell? ⟨hb, 2, none⟩ = some (.int .i64 (n : Nat)) := M6.out.cell 2
            have f0 : w6.frozen? ⟨lp, 0, none⟩ = false := P6.out.frozen 0
            have f1 : w6.frozen? ⟨lp, 1, none⟩ = false := P6.out.frozen 1
            have f2 : w6.frozen? ⟨lp, 2, none⟩ = false := P6.out.frozen 2
            have f3 : w6.frozen? ⟨lp, 3, none⟩ = false := P6.out.frozen 3
            have hcell : ∀ j, j < 3 → ∃ v, w6.cell? ⟨lp, j, none⟩ = some v := fun j hj => by
              rw [P6.out.cell j]
              unfold opC
              rcases (show j = 0 ∨ j = 1 ∨ j = 2 by omega) with rfl | rfl | rfl <;> split <;> exact ⟨_, rfl⟩
            obtain ⟨v0, l0⟩ := hcell 0 (by decide)
            obtain ⟨v1, l1⟩ := hcell 1 (by decide)
            obtain ⟨v2, l2⟩ := hcell 2 (by decide)
            clear hgt hcell
            go_wp2_with fail
            have HR := Lib.hid (show opA n g0 g1 (k + 1) = (i, G) by rw [HOQ.out, if_pos HGT.out])
            go_roundg (3 - (k + 1))
            case measure => omega
            case rel =>
              refine ⟨k + 1, rfl, by omega, by go_num, Lib.hid ?_, Lib.hid ?_, Lib.hid HEE.out.1, Lib.hid HEE.out.2⟩
              · exact (((A6.out.setCell LP.out _).setCell LP.out _).setCell LP.out _).setCell LP.out _
              · rw [HR.out]
                have := (((P6.out.set_ 0 (.pointer (some ⟨g, 0, none⟩))).set_ 1 (.int .i64 (i : Nat))).set_ 2 (.int .i64 (n : Nat))).set_ 3 (.int .i64 (G : Nat))
                rw [opC_set _ _ _ _ _ _ (by have := HGT.out; omega)] at this
                exact this
          · have q1 : decide ((C : Int) < (G : Int)) = false := decide_eq_false (by omega)
            have q2 : decide (C < G) = false := decide_eq_false hgt
            have HR := Lib.hid (show opA n g0 g1 (k + 1) = x by rw [HOQ.out, if_neg hgt])
            clear hgt
            go_wp2_with fail
            go_roundg (3 - (k + 1))
            case measure => omega
            case rel => exact ⟨k + 1, rfl, by omega, by go_num, A6, Lib.hid (by rw [HR.out]; exact P6.out), Lib.hid HEE.out.1, Lib.hid HEE.out.2⟩
        · have HN1 := Lib.hid (HE1.out h0)
          have HZ := Lib.hid h0
          have q3 : (re != 0) = true := by simpa using h0
          have q4 : (re == 0) = false := by simpa using h0
          clear h0
          go_wp2_with fail
          go_ret2
          rw [HN1.out]
          exact ⟨Fr.of A5.out HB.out, .inr ⟨HZ.out, by rfl, HD.out.below A5.out⟩⟩
      · obtain rfl : k = 2 := by omega
        have P3' := Lib.hid (show Blk wr lp 72 (opC g n (openG n g0 g1).1 (openG n g0 g1).2) from P3.out)
        have HOL := Lib.hid (show openL d = if (openG n g0 g1).2 = 0 then beginL 0 n 1 [] d else loadL d ⟨(openG n g0 g1).1, n, (openG n g0 g1).2, hmark (openG n g0 g1).2, 1, []⟩ by
          unfold openL
          simp only [HNL.out]
          rw [if_neg HN2.out, if_neg (by rw [E0.out (by omega)]; simp), if_neg (by rw [E1.out (by omega)]; simp), hg0.out, hg1.out])
        have HXB := Lib.hid (show (openG n g0 g1).1 ≤ n ∧ (openG n g0 g1).2 ≤ 2147483647 by
          unfold openG
          split
          · exact ⟨Nat.le_refl _, by rw [← hg1.out]; exact genL_le _⟩
          · exact ⟨Nat.zero_le _, by rw [← hg0.out]; exact genL_le _⟩)
        clear P3 E0 E1
        obtain ⟨x, hx⟩ : ∃ x, Hid (openG n g0 g1 = x) := ⟨_, Lib.hid rfl⟩
        rw [hx.out] at P3' HOL HXB
        have p3 : wr.cell? ⟨lp, 3, none⟩ = some (.int .i64 (x.2 : Nat)) := by rw [P3'.out.cell 3]; exact opC_gen _ _ _ _
        obtain ⟨a, ha⟩ : ∃ a, Hid (x.1 = a) := ⟨_, Lib.hid rfl⟩
        obtain ⟨C, hC⟩ : ∃ C, Hid (x.2 = C) := ⟨_, Lib.hid rfl⟩
        rw [hC.out] at p3
        rw [ha.out, hC.out] at P3' HOL HXB
        have D3 := Lib.hid (HD.out.below A3.out)
        have K3 := Lib.hid (HK.out.below (Nat.lt_of_lt_of_le hks HB.out) A3.out)
        have F3 := Lib.hid (Fr.of A3.out HB.out)
        clear hlt
        by_cases hz : C = 0
        · have HR := Lib.hid (show openL d = beginL 0 n 1 [] d by rw [HOL.out, if_pos hz])
          have HBE := Lib.hid (lbegin_any D3.out 0 n 1 none 0 0 [] ⟨rfl, fun h => absurd h (by decide)⟩ K3.out hks (by decide) (by have := HN.out; omega) (by decide) (by simp) (by decide) (by have := HN.out; omega))
          unfold hv at HBE
          have q1 : ((C : Int) == 0) = true := by subst hz; rfl
          subst hz
          clear HOL
          go_wp2_with fail
          refine HBE.out.mono ?_
          intro e w9 hE
          have F9 := Lib.hid (F3.out.trans hE.f)
          rcases hE.r with ⟨h0, l, v, rfl, hW, hS⟩ | ⟨h0, rfl, hW⟩
          · have W9 := Lib.hid hW
            have S9 := Lib.hid hS
            have H0 := Lib.hid h0
            clear hE hW hS h0 HBE
            go_wp2_with fail
            go_ret2
            rw [HR.out]
            exact ⟨F9.out, .inl ⟨H0.out, l, v, by rfl, W9.out, fun i hi => Nat.le_trans A3.out.size (S9.out i hi)⟩⟩
          · have W9 := Lib.hid hW
            have H0 := Lib.hid h0
            clear hE hW h0 HBE
            go_wp2_with fail
            go_ret2
            rw [HR.out]
            exact ⟨F9.out, .inr ⟨H0.out, by rfl, W9.out⟩⟩
        · have q1 : ((C : Int) == 0) = false := by simpa using hz
          have q2 : (C == 0) = false := by simpa using hz
          have HZ := Lib.hid hz
          have HBG := Lib.hid (begun_any C wr (by have := HXB.out.2; omega) K3.out (Nat.lt_of_lt_of_le hks D3.out.hB))
          obtain ⟨gb, GB⟩ : ∃ t : ByteArray, Hid (⟨(begunL C).toArray⟩ = t) := ⟨_, Lib.hid rfl⟩
          obtain ⟨hmk, HM⟩ : ∃ t, Hid (hmark C = t) := ⟨_, Lib.hid rfl⟩
          have HML := Lib.hid (hmark_le C)
          rw [HM.out] at HML
          rw [GB.out, HM.out] at HBG
          clear hz
          go_wp2_with fail
          refine HBG.out.mono ?_
          rintro e w4 ⟨rfl, b4⟩
          have A4 := Lib.hid (A3.out.trans (b4.mono A3.out.size))
          have P4 := Lib.hid (P3'.out.below b4 P3'.out.lt)
          have f4 : w4.frozen? ⟨lp, 4, none⟩ = false := P4.out.frozen 4
          obtain ⟨v4, l4⟩ : ∃ v, w4.cell? ⟨lp, 4, none⟩ = some v := by
            rw [P4.out.cell 4]; unfold opC; rw [if_neg HZ.out]; exact ⟨_, rfl⟩
          clear b4 A3 P3' p3 D3 K3 F3 HBG
          go_upto_region 21 with fail
          have A5 := Lib.hid (A4.out.setCell (p := ⟨lp, 4, none⟩) LP.out (.string ⟨hmk.toArray⟩))
          have M5 := Lib.hid (show LgM B (w4.setCell ⟨lp, 4, none⟩ (.string ⟨hmk.toArray⟩)) lp g (.slice none 0 0) ⟨a, n, C, hmk, 1, []⟩ by
            refine ⟨?_, Win.nil _ _ _, Nat.le_trans HB.out LP.out⟩
            have := P4.out.set_ 4 (.string ⟨hmk.toArray⟩)
            rw [opC_mark _ _ _ _ _ HZ.out] at this
            exact this)
          refine gen_world (fun W => Hid (Below w.heap.size w W) ∧ Hid (LgM B W lp g (.slice none 0 0) ⟨a, n, C, hmk, 1, []⟩)) ⟨A5, M5⟩ ?_
          clear A5 M5 A4 P4 f4 l4
          rintro w5 ⟨A5, M5⟩
          have W5 := Lib.hid (show LgW B w5 lp g (.slice none 0 0) ⟨a, n, C, hmk, 1, []⟩ d from ⟨M5.out, HD.out.below A5.out, HK.out.below (Nat.lt_of_lt_of_le hks HB.out) A5.out, hks⟩)
          have HLD := Lib.hid (load_any W5.out (show a ≤ 10000 by have := HXB.out.1; have := HN.out; omega) (show n ≤ 10000 by have := HN.out; omega) (show hmk.length ≤ 1000000 by have := HML.out; omega) (Nat.zero_le _) (show 1 ≤ 10000 by decide) (show d.w.length + n < 1000000 by have := HN.out; omega))
          have HR := Lib.hid (show openL d = loadL d ⟨a, n, C, hmk, 1, []⟩ by rw [HOL.out, if_neg HZ.out, HM.out])
          obtain ⟨o, ho⟩ : ∃ o, Hid (loadL d ⟨a, n, C, hmk, 1, []⟩ = o) := ⟨_, Lib.hid rfl⟩
          rw [ho.out] at HLD HR
          clear HOL
          go_wp2_with fail
          refine HLD.out.mono ?_
          rintro e w6 ⟨rfl, hn6⟩
          obtain ⟨v6, hst⟩ := hn6.step
          have W6 := Lib.hid hst
          have F6 := Lib.hid (hst.f.fr (Fr.of A5.out HB.out) (fun i hi => by
            rcases hi with rfl | hi
            · exact LP.out
            · cases hi))
          have S6 := Lib.hid (show ∀ i, LgS lp v6 i → w.heap.size ≤ i from fun i hi => by
            rcases hi with rfl | hi
            · exact LP.out
            · rcases hst.o i hi with h1 | h1
              · cases h1
              · exact Nat.le_trans A5.out.size h1)
          clear hn6 hst HLD
          by_cases h0 : o.e = 0
          · have q3 : (o.e != 0) = false := by simpa using h0
            have q4 : (o.e == 0) = true := by simpa using h0
            have H0 := Lib.hid h0
            clear h0
            go_wp2_with fail
            go_ret2
            rw [HR.out]
            exact ⟨F6.out, .inl ⟨H0.out, lp, v6, by rfl, W6.out.lw, S6.out⟩⟩
          · have q3 : (o.e != 0) = true := by simpa using h0
            have q4 : (o.e == 0) = false := by simpa using h0
            have H0 := Lib.hid h0
            clear h0
            go_wp2_with fail
            go_ret2
            rw [HR.out]
            exact ⟨F6.out, .inr ⟨H0.out, by rfl, W6.out.lw.d⟩⟩
end Go.Proofs.YteajpebkanamgaaDoor
namespace Go.Proofs.YteajpebkanamgaaDoor
open Go.RowKit
set_option linter.unusedSimpArgs false
set_option linter.unusedVariables false
set_option maxRecDepth 20000
def roomI (L : Lg) : Int := (L.n : Int) - (L.next : Int)
def appendL (d : Dk) (L : Lg) (t : List UInt8) : LgOut :=
  if wrongI t ≠ 0 then ⟨wrongI t, d, L⟩ else if roomI L < (sectorsN t : Int) then ⟨151, d, L⟩ else putL d L t
theorem room_any {B p g : Nat} {w : World} {v : Value} {L : Lg} {d : Dk} (h : LgW B w p g v L d) (hn : L.n ≤ 1000000) (hx : L.next ≤ 1000000) :
    Calls Tryd.prog 11 #[.pointer (some ⟨p, 0, none⟩)] w fun e w' => e = .returned (.int .i64 (roomI L)) ∧ Below w.heap.size w w' := by
  have m2 : w.cell? ⟨p, 2, none⟩ = some (.int .i64 (L.n : Nat)) := h.m.hp.cell 2
  have m5 : w.cell? ⟨p, 5, none⟩ = some (.int .i64 (L.next : Nat)) := h.m.hp.cell 5
  have e1 : 0 ≤ (L.n : Int) ∧ (L.n : Int) ≤ 1000000 := by omega
  have e2 : 0 ≤ (L.next : Int) ∧ (L.next : Int) ≤ 1000000 := by omega
  unfold roomI
  obtain ⟨N, hN⟩ : ∃ N : Int, Hid ((L.n : Int) = N) := ⟨_, Lib.hid rfl⟩
  obtain ⟨X, hX⟩ : ∃ X : Int, Hid ((L.next : Int) = X) := ⟨_, Lib.hid rfl⟩
  rw [hN.out] at m2 e1 ⊢
  rw [hX.out] at m5 e2 ⊢
  have hw : IntKind.i64.wrap (N - X) = N - X := by rw [IntKind.wrap_i64]; omega
  clear h hn hx
  go_enter Tryd.func11, Tryd.ntmps11
  go_wp2_with fail
  go_quiet (fail)
  go_wp2
  go_ret
  exact ⟨rfl, below_drewN (Below.refl _ _) _⟩
theorem lsync_any {B p g : Nat} {w : World} {v : Value} {L : Lg} {d : Dk} (h : LgW B w p g v L d) :
    Calls Tryd.prog 36 #[.pointer (some ⟨p, 0, none⟩)] w fun e w' => e = .returned (.int .i64 d.sync.1) ∧ LgStep B p g v v L d.sync.2 w w' := by
  have H := Lib.hid h
  have m0 : w.cell? ⟨p, 0, none⟩ = some (.pointer (some ⟨g, 0, none⟩)) := h.m.hp.cell 0
  obtain ⟨q, vw, hA⟩ := h.d
  have HS := Lib.hid (sync_any hA)
  clear h hA
  go_enter Tryd.func36, Tryd.ntmps36
  go_wp2_with fail
  refine HS.out.mono ?_
  rintro e w1 ⟨rfl, d1, f1⟩
  have W1 := Lib.hid ((LgStep.refl H.out).fr f1 d1)
  clear d1 f1 m0 HS
  go_wp2_with fail
  go_ret
  exact ⟨rfl, W1.out⟩
theorem win_clone {B : Nat} {w : World} {v : Value} {l : List (List UInt8)} (h : Win 9 w B v (cstr l)) (hl : l.length ≤ 1000000) :
    Calls Tryd.prog 46 #[v] w fun e w' => ∃ v', e = .returned v' ∧ Own 9 w' w.heap.size v' (cstr l) ∧ Below w.heap.size w w' := by
  have hlen : (cstr l).length = l.length := cstr_length l
  rcases h with ⟨rfl, hx⟩ | ⟨b, off, cap, cur, rfl, hb, hk, h3, h4, h5, hc⟩
  · refine (Tryd.slices_Clone_string_nil 0 0 w).mono ?_
    rintro e w' ⟨rfl, rfl⟩
    refine ⟨_, rfl, ?_, Below.refl _ _⟩
    rw [hx]
    exact my_own_nil _ _ _
  · have hz : (l.map fun x => (⟨x.toArray⟩ : ByteArray)).length = l.length := List.length_map ..
    have := Tryd.slices_Clone_string b off l.length cap (l.map fun x => ⟨x.toArray⟩) w (by rw [hz]; exact Nat.le_refl _) (by omega) (fun j hj => by
      rw [hz] at hj
      rw [hk.cell, hc j (by omega), cstr_get _ _ hj]
      congr 2
      rw [List.getD_eq_getElem?_getD, List.getD_eq_getElem?_getD, List.getElem?_map, List.getElem?_eq_getElem hj]
      rfl)
    rw [hlen]
    refine this.mono ?_
    rintro e w' ⟨v', rfl, ho, hne, hb'⟩
    refine ⟨v', rfl, ?_, hb'⟩
    have e1 : ((l.map fun x => (⟨x.toArray⟩ : ByteArray)).take l.length).map Value.string = cstr l := by
      rw [List.take_of_length_le (by rw [hz]; exact Nat.le_refl _), List.map_map]
      rfl
    rw [e1] at ho
    unfold Own
    rw [hlen]
    exact ho
theorem records_any {B p g : Nat} {w : World} {v : Value} {L : Lg} {d : Dk} (h : LgW B w p g v L d) (hl : L.l.length ≤ 1000000) :
    Calls Tryd.prog 13 #[.pointer (some ⟨p, 0, none⟩)] w fun e w' => ∃ v', e = .returned v' ∧ Own 9 w' w.heap.size v' (cstr L.l) ∧ Below w.heap.size w w' := by
  have m6 : w.cell? ⟨p, 6, none⟩ = some v := h.m.hp.cell 6
  have HC := Lib.hid (win_clone h.m.ho hl)
  clear h
  go_enter Tryd.func13, Tryd.ntmps13
  go_wp2_with fail
  refine HC.out.mono ?_
  rintro e w1 ⟨v', rfl, ho, hb⟩
  have HO := Lib.hid ho
  have HB := Lib.hid hb
  clear ho hb m6 HC
  go_wp2_with fail
  go_ret
  exact ⟨_, rfl, HO.out, HB.out⟩
set_option maxHeartbeats 800000 in
theorem append_any {B p g : Nat} {w : World} {v : Value} {L : Lg} {d : Dk} (h : LgW B w p g v L d) (t : List UInt8) (ht : t.length ≤ 140737488355328) (hm : L.mark.length ≤ 1000000) (hl : L.l.length ≤ 1000000) (hn : L.next ≤ 100000) (hnn : L.n ≤ 100000) (ha : L.a ≤ 100000) (hw : d.w.length + 32 < 1000000) :
    Calls Tryd.prog 12 #[.pointer (some ⟨p, 0, none⟩), .string ⟨t.toArray⟩] w fun e w' => e = .returned (.int .i64 (appendL d L t).e) ∧ LgNext B p g v (appendL d L t).L (appendL d L t).d w w' := by
  have H := Lib.hid h
  have HWR := Lib.hid (fun W => wrong_any t W ht)
  have HSE := Lib.hid (fun W => sectors_any t W ht)
  have HRM := Lib.hid (fun W (hW : LgW B W p g v L d) => room_any hW (by omega) (by omega))
  obtain ⟨tb, TB⟩ : ∃ b : ByteArray, Hid (⟨t.toArray⟩ = b) := ⟨_, Lib.hid rfl⟩
  have HPU := Lib.hid (fun (h2 : t.length ≤ 2000) W (hW : LgW B W p g v L d) => put_any hW t h2 hm hl hn ha (by unfold sectorsN; omega))
  have HTL := Lib.hid (show wrongI t = 0 → t.length ≤ 2000 from fun h0 => by
    unfold wrongI at h0
    split at h0
    · cases h0
    · split at h0
      · cases h0
      · omega)
  obtain ⟨we, hwe⟩ : ∃ z, Hid (wrongI t = z) := ⟨_, Lib.hid rfl⟩
  obtain ⟨se, hse⟩ : ∃ z : Nat, Hid (sectorsN t = z) := ⟨_, Lib.hid rfl⟩
  obtain ⟨ro, hro⟩ : ∃ z, Hid (roomI L = z) := ⟨_, Lib.hid rfl⟩
  rw [TB.out] at HWR HSE HPU ⊢
  rw [hwe.out] at HWR HTL
  rw [hse.out] at HSE
  rw [hro.out] at HRM
  have hse2 : (se : Int) ≤ 140737488355328 := by have := hse.out; unfold sectorsN at this; omega
  clear h
  go_enter Tryd.func12, Tryd.ntmps12
  go_wp2_with fail
  refine (HWR.out w).mono ?_
  rintro e w1 ⟨rfl, rfl⟩
  by_cases h0 : we = 0
  · have HP2 := Lib.hid (HPU.out (HTL.out h0))
    subst h0
    go_wp2_with fail
    refine (HSE.out w).mono ?_
    rintro e w1 ⟨rfl, rfl⟩
    go_wp2_with fail
    refine (HRM.out w H.out).mono ?_
    rintro e w2 ⟨rfl, b2⟩
    have W2 := Lib.hid ((LgStep.refl H.out).below b2)
    clear b2 HWR HSE HRM
    by_cases hr : ro < (se : Int)
    · have HR := Lib.hid (show appendL d L t = ⟨151, d, L⟩ by unfold appendL; rw [hwe.out, hse.out, hro.out, if_neg (by simp), if_pos hr])
      go_wp2_with fail
      go_ret
      rw [HR.out]
      exact ⟨rfl, W2.out.next⟩
    · have HR := Lib.hid (show appendL d L t = putL d L t by unfold appendL; rw [hwe.out, hse.out, hro.out, if_neg (by simp), if_neg hr])
      have q1 : decide (ro < (se : Int)) = false := decide_eq_false hr
      obtain ⟨o, ho⟩ : ∃ o, Hid (putL d L t = o) := ⟨_, Lib.hid rfl⟩
      rw [ho.out] at HP2 HR
      clear hr
      go_wp2_with fail
      refine (HP2.out _ W2.out.lw).mono ?_
      rintro e w3 ⟨rfl, hn3⟩
      obtain ⟨v3, hs3⟩ := hn3.step
      have W3 := Lib.hid (W2.out.trans hs3)
      clear hn3 hs3 HP2
      go_wp2_with fail
      go_ret
      rw [HR.out]
      exact ⟨rfl, W3.out.next⟩
  · have HR := Lib.hid (show appendL d L t = ⟨we, d, L⟩ by unfold appendL; rw [hwe.out, if_pos h0])
    have q3 : (we != 0) = true := by simpa using h0
    have q4 : (we == 0) = false := by simpa using h0
    clear h0
    go_wp2_with fail
    go_ret
    rw [HR.out]
    exact ⟨rfl, (LgStep.refl H.out).next⟩
end Go.Proofs.YteajpebkanamgaaDoor
namespace Go.Proofs.YteajpebkanamgaaDoor
open Go.RowKit Go.Proofs.YteajpebkanamgaaDoorW.PrintWords Go.Proofs.YteajpebkanamgaaDoorW.PrintLast
set_option linter.unusedSimpArgs false
set_option linter.unusedVariables false
set_option maxRecDepth 20000
def lgc16.T : Bool × List (List Nat × List Nat) := (true, [([], []), ([], []), ([1], [1]), ([2], [2]), ([3], [3]), ([4], [4]), ([], []), ([0, 5, 6], [0, 5, 6]), ([7], [7]), ([8], [8]), ([8], [8]), ([9, 7, 0, 1, 2, 3, 4, 5, 6, 7, 8, 9], [9]), ([10, 11, 0, 1, 2, 3, 4, 5, 6, 7, 8, 9, 10, 11], [10])])
def lgc16.B : List Nat := [0, 0, 2, 6, 14, 30, 0, 127, 255, 511, 511, 1023, 4095]
theorem lgc16.tab : rtab .any (opsOf Tryd.f14 16) = lgc16.T := by kernel_rfl
theorem lgc16.bits : waitsOk lgc16.T.2 lgc16.B = true := by kernel_rfl
/-- texts that a log's call may be handed: where they lie, no call of the log's own writes. -/
theorem TsA.mono {w : World} {S S' : Nat → Prop} {A : Option Addr} {n : Nat} {ts : List (List UInt8)} (h : TsA w S A n ts) (hS : ∀ i, i < w.heap.size → S' i → S i) : TsA w S' A n ts :=
  ⟨h.len, fun hn => by
    obtain ⟨b, o, cs, t, fz, e, hh, ht, hs, hc⟩ := h.at_ hn
    exact ⟨b, o, cs, t, fz, e, hh, ht, fun h' => hs (hS b (heap_lt hh) h'), hc⟩⟩
theorem TsA.below {w w' : World} {S : Nat → Prop} {A : Option Addr} {n : Nat} {ts : List (List UInt8)} (h : TsA w S A n ts) (hb : Below w.heap.size w w') : TsA w' S A n ts :=
  ⟨h.len, fun hn => by
    obtain ⟨b, o, cs, t, fz, e, hh, ht, hs, hc⟩ := h.at_ hn
    have hbl := hb.block b (heap_lt hh)
    exact ⟨b, o, cs, t, fz, e, hbl.trans hh, ht, hs, fun i hi => (cell_of_heap hbl _).trans (hc i hi)⟩⟩
end Go.Proofs.YteajpebkanamgaaDoor
namespace Go.Proofs.YteajpebkanamgaaDoor
set_option linter.unusedSimpArgs false
set_option linter.unusedVariables false
attribute [local irreducible] sha
section
variable {d d' : Dk} {L : Lg} {hd : List UInt8}
theorem LgIs.head (h : LgIs hd d L) (hn : 1 ≤ L.n) : d.l.getD L.a [] = hd := by
  have := h.half.at_ 0 (by omega)
  rw [Nat.add_zero] at this
  rw [this]
  unfold chunkL
  rw [Nat.mul_zero, List.drop_zero, List.take_append_of_le_length (by rw [h.hd]; exact Nat.le_refl _), List.take_of_length_le (by rw [h.hd]; exact Nat.le_refl _)]
/-- the head is written. -/
theorem LgIs.headed (h : LgIs hd d L) (hn : 1 ≤ L.n) (hd' : List UInt8) (hl : hd'.length = 64) : LgIs hd' (d.put L.a hd') L := by
  refine ⟨h.calm, ⟨?_, ?_, ?_⟩, h.mark, h.next, h.fit, hl⟩
  · have := h.half.len
    rw [List.length_append, h.hd] at this
    rw [List.length_append, hl]; exact this
  · rw [put_len]; exact h.half.fit
  · intro k hk
    have hf := h.half.fit
    by_cases h0 : k = 0
    · subst h0
      rw [Nat.add_zero, put_at _ _ _ (by omega)]
      unfold chunkL
      rw [Nat.mul_zero, List.drop_zero, List.take_append_of_le_length (by rw [hl]; exact Nat.le_refl _), List.take_of_length_le (by rw [hl]; exact Nat.le_refl _)]
    · obtain ⟨j, rfl⟩ : ∃ j, k = 1 + j := ⟨k - 1, by omega⟩
      rw [put_far _ _ _ _ (by omega), h.half.at_ _ hk, chunkL_append_right _ _ 1 j (by rw [h.hd]), chunkL_append_right _ _ 1 j (by rw [hl])]
theorem LgIs.of_l (h : LgIs hd d L) (hc : d'.Calm) (hl : d'.l = d.l) : LgIs hd d' L := ⟨hc, ⟨h.half.len, by rw [hl]; exact h.half.fit, by rw [hl]; exact h.half.at_⟩, h.mark, h.next, h.fit, h.hd⟩
theorem beginL_is (hc : d.Calm) (a n gen : Nat) (ts : List (List UInt8)) (hf : a + n ≤ d.l.length) (hs : 1 + sumSec ts ≤ n) :
    ∃ d', beginL a n gen ts d = ⟨0, d', ⟨a, n, gen, endMark (hmark gen) ts, 1 + sumSec ts, ts⟩⟩ ∧ LgIs (begunL gen) d' ⟨a, n, gen, endMark (hmark gen) ts, 1 + sumSec ts, ts⟩ ∧ d'.l.length = d.l.length ∧ d'.w = [] ∧ ∀ i, ¬ (a ≤ i ∧ i < a + n) → d'.l.getD i [] = d.l.getD i [] := by
  obtain ⟨dc, c1, c2, c3, c4, c5, c6, _⟩ := cleanL_calm a n 0 d hc (Nat.zero_le _) hf
  have h0 : LgIs zs64 dc ⟨a, n, gen, hmark gen, 1, []⟩ := by
    refine ⟨c2, ⟨?_, ?_, ?_⟩, rfl, rfl, show 1 ≤ n by omega, by decide⟩
    · show (zs64 ++ ([] ++ List.replicate (64 * (n - 1)) 0)).length = 64 * n
      rw [List.nil_append, List.length_append, List.length_replicate]
      show 64 + _ = _
      omega
    · show a + n ≤ dc.l.length
      rw [c3]; exact hf
    · intro k hk
      show dc.l.getD (a + k) [] = chunkL (zs64 ++ ([] ++ List.replicate (64 * (n - 1)) 0)) k
      have hk' : k < n := hk
      rw [c5 k (Nat.zero_le _) hk, List.nil_append]
      unfold zs64
      rw [List.replicate_append_replicate]
      exact (chunkL_zeros _ _ (by omega)).symm
  obtain ⟨d1, p1, p2, p3⟩ := putsGo_is ts dc _ h0 (show 1 + sumSec ts ≤ n from hs)
  rw [show ({ (⟨a, n, gen, hmark gen, 1, []⟩ : Lg) with l := [] ++ ts, mark := endMark (hmark gen) ts, next := 1 + sumSec ts } : Lg) = ⟨a, n, gen, endMark (hmark gen) ts, 1 + sumSec ts, ts⟩ from by rw [List.nil_append]] at p1 p2
  have hlen : d1.l.length = d.l.length := p3.len.trans c3
  have e1 := beginL_yes a n gen ts d d1 _ (by rw [c1]) (by rw [c1]; exact p1)
  have hcs : Dk.Calm { d1 with w := [] } := p2.calm
  have hw := calm_write hcs a (show a < d1.l.length by omega) (begunL gen) (begunL_length gen)
  refine ⟨{ (Dk.put { d1 with w := [] } a (begunL gen)) with w := [] }, ?_, ?_, ?_, rfl, ?_⟩
  · rw [e1]
    unfold begEnd
    rw [calm_sync p2.calm]
    simp only
    rw [if_neg (by simp), hw]
    simp only
    rw [if_neg (by simp), calm_sync (put_calm hcs a (begunL gen))]
    simp only
    rw [if_neg (by simp)]
  · have q := (p2.of_l (d' := { d1 with w := [] }) hcs rfl).headed (show 1 ≤ n by omega) (begunL gen) (begunL_length gen)
    exact q.of_l hcs rfl
  · show (Dk.put { d1 with w := [] } a (begunL gen)).l.length = _
    rw [put_len]; exact hlen
  · intro i hi
    show (Dk.put { d1 with w := [] } a (begunL gen)).l.getD i [] = _
    rw [put_far _ _ _ _ (by omega)]
    show d1.l.getD i [] = _
    rw [p3.far i (fun h => hi ⟨by have : a + 1 ≤ i := h.1; omega, h.2⟩), c4 i (by omega)]
theorem genL_zero : genL zs64 = 0 := genL_no zs64 0 (by decide) (.inl (by decide))
/-- a log that is in use: what is on its disk. -/
structure LgGood (d : Dk) (L : Lg) : Prop where
  is_ : LgIs (begunL L.gen) d L
  size : d.l.length / 2 = L.n
  two : 2 ≤ L.n
  a : L.a = 0 ∨ L.a = L.n
  gen : 1 ≤ L.gen ∧ L.gen ≤ 2147483647
  other : genL (d.l.getD (L.n - L.a) []) < L.gen
  ts : ∀ t ∈ L.l, 1 ≤ t.length ∧ t.length ≤ 2000
theorem LgGood.of_l (h : LgGood d L) (hc : d'.Calm) (hl : d'.l = d.l) : LgGood d' L := ⟨h.is_.of_l hc hl, by rw [hl]; exact h.size, h.two, h.a, h.gen, by rw [hl]; exact h.other, h.ts⟩
theorem LgGood.calm (h : LgGood d L) : d.Calm := h.is_.calm
theorem LgGood.mark_le (h : LgGood d L) : L.mark.length = 16 := by rw [h.is_.mark]; exact endMark_length _ _ (hmark_length _)
theorem sectorsN_pos (t : List UInt8) : 1 ≤ sectorsN t := by unfold sectorsN; omega
theorem len_sum (ts : List (List UInt8)) : ts.length ≤ sumSec ts := by
  induction ts with
  | nil => exact Nat.le_refl _
  | cons t r ih => rw [sumSec_cons, List.length_cons]; have := sectorsN_pos t; omega
theorem LgGood.l_le (h : LgGood d L) : L.l.length ≤ L.n := by have := len_sum L.l; have := h.is_.next; have := h.is_.fit; omega
theorem wrong_no (t : List UInt8) (h : 1 ≤ t.length ∧ t.length ≤ 2000) : wrongI t = 0 := by
  unfold wrongI
  rw [if_neg (by intro e; rw [e] at h; simp at h), if_neg (by omega)]
theorem openL_new (m : Nat) (hm : 4 ≤ m) (d : Dk) (hd : d = Dk.new m) : ∃ d', openL d = ⟨0, d', ⟨0, m / 2, 1, hmark 1, 1, []⟩⟩ ∧ LgGood d' ⟨0, m / 2, 1, hmark 1, 1, []⟩ ∧ d'.l.length = m ∧ d'.w = [] := by
  have hl : d.l.length = m := by rw [hd]; simp [Dk.new]
  have hc : d.Calm := by rw [hd]; exact ⟨rfl, rfl⟩
  have hz : ∀ i, i < m → d.l.getD i [] = zs64 := fun i hi => by
    rw [hd]
    show (List.replicate m _).getD i [] = _
    rw [List.getD_eq_getElem?_getD, List.getElem?_replicate, if_pos hi]; rfl
  obtain ⟨d', b1, b2, b3, b4, b5⟩ := beginL_is hc 0 (m / 2) 1 [] (by omega) (by simp [sumSec]; omega)
  have hs0 : 1 + sumSec [] = 1 := rfl
  rw [hs0] at b1 b2
  refine ⟨d', ?_, ⟨b2, by rw [b3, hl], show 2 ≤ m / 2 by omega, .inl rfl, ⟨Nat.le_refl _, show 1 ≤ 2147483647 by decide⟩, ?_, fun t ht => by cases ht⟩, by rw [b3, hl], b4⟩
  · unfold openL
    simp only [hl]
    rw [if_neg (by omega), calm_read hc 0 (by omega), if_neg (by simp), calm_read hc (m / 2) (by omega), if_neg (by simp)]
    simp only
    rw [hz 0 (by omega), hz (m / 2) (by omega), genL_zero]
    exact b1
  · show genL (d'.l.getD (m / 2 - 0) []) < 1
    rw [b5 _ (by omega), hz _ (by omega), genL_zero]
    decide
theorem appendL_is (h : LgGood d L) (t : List UInt8) (ht : 1 ≤ t.length ∧ t.length ≤ 2000) (hr : L.next + sectorsN t ≤ L.n) :
    ∃ d', appendL d L t = ⟨0, d', L.took t (ownL L.mark t) (sectorsN t)⟩ ∧ LgGood d' (L.took t (ownL L.mark t) (sectorsN t)) ∧ d'.base = d.base ∧ d'.w.length ≤ d.w.length + sectorsN t ∧ d'.l.length = d.l.length := by
  obtain ⟨d', p1, p2, p3⟩ := putL_is h.is_ t hr
  refine ⟨d', ?_, ⟨p2, ?_, h.two, h.a, h.gen, ?_, ?_⟩, p3.base, p3.w, p3.len⟩
  · unfold appendL roomI
    rw [wrong_no t ht, if_neg (by simp), if_neg (by omega), p1]
  · rw [p3.len]; exact h.size
  · show genL (d'.l.getD (L.n - L.a) []) < L.gen
    rw [p3.far _ (fun hi => by
      have := h.is_.next
      rcases h.a with ha | ha <;> rw [ha] at hi <;> omega)]
    exact h.other
  · intro u hu
    rcases List.mem_append.1 hu with hu | hu
    · exact h.ts u hu
    · rw [List.mem_singleton.1 hu]; exact ht
end
end Go.Proofs.YteajpebkanamgaaDoor
namespace Go.Proofs.YteajpebkanamgaaDoor
open Go.RowKit
set_option linter.unusedSimpArgs false
set_option linter.unusedVariables false
set_option maxRecDepth 20000
end Go.Proofs.YteajpebkanamgaaDoor
namespace Go.Proofs.YteajpebkanamgaaDoor
open Go.RowKit Go.Proofs.YteajpebkanamgaaDoorW.PrintWords Go.Proofs.YteajpebkanamgaaDoorW.PrintLast
set_option linter.unusedSimpArgs false
set_option linter.unusedVariables false
set_option maxRecDepth 20000
theorem own_strs {w : World} {B : Nat} {v : Value} {l : List (List UInt8)} (h : Own 9 w B v (cstr l)) : ∃ A c, v = .slice A l.length c ∧ Strs w A l.length l := by
  obtain ⟨A, c, hv⟩ := h.form
  rw [cstr_length] at hv
  refine ⟨A, c, hv, rfl, fun hn => ?_⟩
  subst hv
  obtain ⟨g, hA, hB, hlt⟩ := h.at_ (by rw [cstr_length]; exact hn)
  subst hA
  exact ⟨g, 0, rfl, hlt, fun i hi => by rw [Nat.zero_add, Own.cell (n := l.length) h i (by rw [cstr_length]; exact hi), cstr_get _ _ hi]⟩
/-- a log in use, in memory and on its disk. -/
structure Ls (B : Nat) (w : World) (p g : Nat) (v : Value) (L : Lg) (d : Dk) : Prop where
  w : LgW B w p g v L d
  g : LgGood d L
section
variable {B p g : Nat} {w w' : World} {v v' : Value} {L L' : Lg} {d d' : Dk}
theorem Ls.n_le (h : Ls B w p g v L d) : L.n ≤ 512 := by have := h.w.d.ok.n; have := h.g.size; omega
theorem Ls.a_le (h : Ls B w p g v L d) : L.a ≤ L.n := by rcases h.g.a with e | e <;> omega
theorem Ls.l_le (h : Ls B w p g v L d) : L.l.length ≤ 512 := by have := h.g.l_le; have := h.n_le; omega
theorem Ls.next_le (h : Ls B w p g v L d) : L.next ≤ 512 := by have := h.g.is_.fit; have := h.n_le; omega
theorem Ls.below (h : Ls B w p g v L d) (hb : Below w.heap.size w w') : Ls B w' p g v L d := ⟨h.w.below hb, h.g⟩
theorem ls_openNew {r : LgOut} (hd : DkAt B w g d) (hk : KsAt w) (hks : 0 < B) (hr : openL d = r) (h0 : r.e = 0) (hG : LgGood r.d r.L) (hw : d.w.length < 100000) :
    Calls Tryd.prog 10 #[.pointer (some ⟨g, 0, none⟩)] w fun e w' => ∃ lp v, e = .returned (.tuple #[.pointer (some ⟨lp, 0, none⟩), .int .i64 0]) ∧ Ls B w' lp g v r.L r.d ∧ (∀ i, LgS lp v i → w.heap.size ≤ i) ∧ Fr B w w' := by
  have := open_any hd hk hks hw
  rw [hr] at this
  refine this.mono ?_
  intro e w' h
  rcases h.r with ⟨_, lp, v, he, hW, hS⟩ | ⟨h1, _⟩
  · exact ⟨lp, v, he, ⟨hW, hG⟩, hS, h.f⟩
  · exact absurd h0 h1
theorem ls_append (h : Ls B w p g v L d) (t : List UInt8) (ht : t.length ≤ 140737488355328) (hw : d.w.length ≤ 900000) :
    Calls Tryd.prog 12 #[.pointer (some ⟨p, 0, none⟩), .string ⟨t.toArray⟩] w fun e w' => e = .returned (.int .i64 (appendL d L t).e) ∧ ∃ v', LgStep B p g v v' (appendL d L t).L (appendL d L t).d w w' := by
  have h1 := h.n_le; have h2 := h.l_le; have h3 := h.next_le; have h4 := h.g.mark_le; have h5 := h.a_le
  refine (append_any h.w t ht (by omega) (by omega) (by omega) (by omega) (by omega) (by omega)).mono ?_
  rintro e w' ⟨he, hn⟩
  exact ⟨he, hn.step⟩
theorem ls_records (h : Ls B w p g v L d) :
    Calls Tryd.prog 13 #[.pointer (some ⟨p, 0, none⟩)] w fun e w' => ∃ A c, e = .returned (.slice A L.l.length c) ∧ Strs w' A L.l.length L.l ∧ Below w.heap.size w w' := by
  refine (records_any h.w (by have := h.l_le; omega)).mono ?_
  rintro e w' ⟨v', rfl, ho, hb⟩
  obtain ⟨A, c, rfl, hs⟩ := own_strs ho
  exact ⟨A, c, rfl, hs, hb⟩
theorem LgStep.ls (h : LgStep B p g v v' L' d' w w') (hg : LgGood d' L') : Ls B w' p g v' L' d' := ⟨h.lw, hg⟩
end
/-! ### the example -/
end Go.Proofs.YteajpebkanamgaaDoor
namespace Go.Proofs.YteajpebkanamgaaDoor
open Go.RowKit Go.Proofs.YteajpebkanamgaaDoorW.PrintWords Go.Proofs.YteajpebkanamgaaDoorW.PrintLast
set_option linter.unusedSimpArgs false
set_option linter.unusedVariables false
set_option maxRecDepth 20000
def amL (x : Int) (n : Nat) : Nat := ((x.tmod n + n).tmod n).toNat
theorem am_bd (x : Int) (n : Nat) (hn : 0 < n) : -(n : Int) < x.tmod n ∧ x.tmod n < n := ⟨by have := Int.lt_tmod_of_pos x (show (0 : Int) < n by omega); omega, Int.tmod_lt_of_pos x (by omega)⟩
theorem amL_cast (x : Int) (n : Nat) (hn : 0 < n) : (x.tmod n + n).tmod n = (amL x n : Nat) := by
  unfold amL
  have := am_bd x n hn
  have := Int.tmod_nonneg (n : Int) (show 0 ≤ x.tmod n + n by omega)
  omega
theorem amL_lt (x : Int) (n : Nat) (hn : 0 < n) : amL x n < n := by
  have h := amL_cast x n hn
  have := am_bd x n hn
  have := Int.tmod_lt_of_pos (x.tmod n + n) (show (0 : Int) < n by omega)
  omega
theorem amL_small (n k : Nat) (h : k < n) : amL (k : Int) n = k := by
  unfold amL
  rw [show ((k : Int)).tmod n = (k : Int) from Int.tmod_eq_of_lt (by omega) (by omega)]
  rw [show ((k : Int) + (n : Int)).tmod n = (k : Int) from by
    rw [Int.tmod_eq_emod_of_nonneg (by omega), Int.add_emod_right]
    exact Int.emod_eq_of_lt (by omega) (by omega)]
  omega
theorem win_strs {w : World} {B : Nat} {v : Value} {l : List (List UInt8)} (h : Win 9 w B v (cstr l)) : ∃ A c, v = .slice A l.length c ∧ Strs w A l.length l := by
  obtain ⟨A, c, hv, _, _⟩ := h.form
  rw [cstr_length] at hv
  refine ⟨A, c, hv, rfl, fun hn => ?_⟩
  obtain ⟨b, off, cap, hv2, hB, hlt, _⟩ := h.at_ 0 (by rw [cstr_length]; exact hn)
  rw [hv] at hv2
  injection hv2 with e1 e2 e3
  refine ⟨b, off, e1, hlt, fun i hi => ?_⟩
  obtain ⟨b', off', cap', hv3, _, _, hc⟩ := h.at_ i (by rw [cstr_length]; exact hi)
  rw [hv] at hv3
  injection hv3 with f1 f2 f3
  rw [e1] at f1
  injection f1 with f1
  injection f1 with f1 f4
  subst f1; subst f4
  rw [hc, cstr_get _ _ hi]
theorem Win.fs {B : Nat} {S : Nat → Prop} {w w' : World} {v : Value} {xs : List Value} (h : Win 9 w B v xs) (f : Fs B S w w') (hn : ∀ b, v.ownBlock = some b → ¬ S b) : Win 9 w' B v xs := by
  rcases h with h1 | ⟨b, off, cap, cur, rfl, h2, h3, h4⟩
  · exact .inl h1
  · exact .inr ⟨b, off, cap, cur, rfl, h2, h3.fs f (by unfold DkT; decide) (hn b rfl), h4⟩
theorem Win.fr {B : Nat} {w w' : World} {v : Value} {xs : List Value} (h : Win 9 w B v xs) (f : Fr B w w') : Win 9 w' B v xs := h.fs (S := fun _ => False) (Fs.of_fr f) (fun _ _ h => h)
/-- blocks that are not the log's, the disk's or below B were turned. -/
theorem LgW.kp {B p g : Nat} {S : Nat → Prop} {w w' : World} {v : Value} {L : Lg} {d : Dk} (h : LgW B w p g v L d) (k : Kp S w w') (h1 : ∀ i, S i → B ≤ i) (h2 : ∀ i, S i → ¬ LgS p v i) (h3 : ∀ i cs t, S i → Blk w i t cs → ¬ DkT t) : LgW B w' p g v L d :=
  ⟨⟨h.m.hp.kp k (fun e => h2 p e (.inl rfl)), h.m.ho.kp k (fun b hb e => h2 b e (.inr hb)), h.m.b⟩, h.d.kp k h3, fun i hi => ((k.below h1 h.d.hB).cell (p := ⟨0, i, none⟩) h.ks).trans (h.k i hi), h.ks⟩
/-- 'append(has, s)'. -/
theorem win_push {B : Nat} {w : World} {v : Value} {l : List (List UInt8)} (h : Win 9 w B v (cstr l)) (t : List UInt8) (hB : B ≤ w.heap.size) (hl : l.length ≤ 1000000) :
    ∃ v' w', (Builtin.append_ #[22, 22] 22 #[v, .slice (some ⟨w.heap.size, 0, none⟩) 1 1]).run Tryd.prog (w.alloc (.cells #[.string ⟨t.toArray⟩] 9)) = .ok v' w' ∧ Win 9 w' B v' (cstr (l ++ [t])) ∧ Kp (fun i => v.ownBlock = some i) w w' ∧ ∀ i, v'.ownBlock = some i → v.ownBlock = some i ∨ w.heap.size ≤ i := by
  have hA1 : Below w.heap.size w (w.alloc (.cells #[.string ⟨t.toArray⟩] 9)) := (Below.refl _ _).alloc (Nat.le_refl _) _
  obtain ⟨v', w1, hrun, hown, hgr, hat⟩ := win_append (P := Tryd.prog) (ty := 22) elemSx (h.below hA1) (cstr_one1 _) w.heap.size 1 (.string ⟨t.toArray⟩) ((Blk.new w 9 _).cell 0) rfl (by rw [cstr_length]; omega) (by rw [cstr_length]; omega) (by simp; omega)
  refine ⟨v', w1, hrun, by rw [cstr_append]; exact hown, (Kp.of_below hA1).trans (Kp.grown hgr (fun q hq _ => hq)), fun i hi => ?_⟩
  rcases hat with e | e
  · exact .inl (e ▸ hi)
  · rw [e] at hi
    injection hi with hi
    subst hi
    exact .inr (by simp)
end Go.Proofs.YteajpebkanamgaaDoor
namespace Go.Proofs.YteajpebkanamgaaDoor
open Go.RowKit Go.Proofs.YteajpebkanamgaaDoorW.PrintWords Go.Proofs.YteajpebkanamgaaDoorW.PrintLast
set_option linter.unusedSimpArgs false
set_option linter.unusedVariables false
set_option maxRecDepth 20000
theorem Blk.setCells2 {g : Nat} {t : TypeId} : ∀ (ys : List Value) (o : Nat) (w : World) (cs : Array Value), Blk w g t cs → o + ys.length ≤ cs.size → ∃ cs', Blk (w.setCells g o ys) g t cs' ∧ cs'.size = cs.size ∧ (∀ i, i < o → cs'[i]? = cs[i]?) ∧ ∀ i, i < ys.length → cs'[o + i]? = ys[i]?
  | [], o, w, cs, h, hl => ⟨cs, h, rfl, fun _ _ => rfl, fun i hi => by simp at hi⟩
  | y :: r, o, w, cs, h, hl => by
    simp only [List.length_cons] at hl
    obtain ⟨cs', h1, h2, h3, h4⟩ := Blk.setCells2 r (o + 1) _ _ (h.set_ o y) (by simp; omega)
    refine ⟨cs', h1, by rw [h2]; simp, fun i hi => ?_, fun i hi => ?_⟩
    · rw [h3 i (by omega), Array.getElem?_setIfInBounds, if_neg (by omega)]
    · cases i with
      | zero => rw [Nat.add_zero, h3 o (by omega), Array.getElem?_setIfInBounds, if_pos rfl, if_pos (by omega)]; rfl
      | succ i =>
        have := h4 i (by simpa using hi)
        rw [show o + (i + 1) = o + 1 + i by omega, this]
        rfl
theorem Kp.setCells {S : Nat → Prop} {g : Nat} (hS : S g) : ∀ (ys : List Value) (o : Nat) (w : World), Kp S w (w.setCells g o ys)
  | [], o, w => Kp.refl S w
  | y :: r, o, w => (Kp.set_ hS o y).trans (Kp.setCells hS r (o + 1) _)
section
variable {P : Program} {e t ty : TypeId} {w w' : World} {B B' : Nat} {v u : Value} {xs ys : List Value} {z : Value} {by_ : Nat} {S : Nat → Prop}
theorem win_src (he : Elem P t e z by_) (hu : Win e w B u ys) (y1 : ∀ y ∈ ys, y.oneCell' = true) : Src P 1 t u ys.length ys w := by
  rcases hu with ⟨rfl, rfl⟩ | ⟨b, off, cap, cur, rfl, h1, h2, h3, h4, h5, h6⟩
  · exact Src.ofNil w he.1 0
  · refine Src.ofSlice w he.1 ⟨b, off, none⟩ ys.length cap ys (by simp) (fun j x hj => ?_) y1
    have hjl := (List.getElem?_eq_some_iff.1 hj).1
    have := (h2.cell (off + j)).trans (h6 j hjl)
    rw [hj] at this
    unfold Addr.add
    split
    · rename_i h0; subst h0; simpa using this
    · exact this
/-- a window's elements are appended, where there is room. -/
theorem win_append_room (he : Elem P t e z by_) (h : Win e w B v xs) {A : Option Addr} {c : Nat} (hv : v = .slice A xs.length c) (hroom : xs.length + ys.length ≤ c) (hu : Win e w B' u ys) (y1 : ∀ y ∈ ys, y.oneCell' = true) :
    ∃ w', (Builtin.append_ #[t, t] ty #[v, u]).run P w = .ok (.slice A (xs ++ ys).length c) w' ∧ Win e w' B (.slice A (xs ++ ys).length c) (xs ++ ys) ∧ Kp (fun i => v.ownBlock = some i) w w' := by
  obtain ⟨i, hi, hz, hs, hby⟩ := info_parts he.2.1
  have hS := win_src he hu y1
  rcases h with ⟨h0, rfl⟩ | ⟨b, off, cap, cur, h0, g1, g2, g3, g4, g5, g6⟩
  · rw [hv] at h0
    injection h0 with h1 h2 h3
    subst h1; subst h3
    have : ys = [] := List.eq_nil_of_length_eq_zero (by omega)
    subst this
    subst hv
    exact ⟨w, run_append_nothing w t t ty e i he.1 hi none 0 0 (Nat.le_refl _) u (by rw [hs]; exact hS), Win.nil e w B, Kp.refl _ _⟩
  · rw [hv] at h0
    injection h0 with h1 h2 h3
    subst h1; subst h3; subst hv
    have hcell : ∀ j, j < ys.length → (w.cell? ⟨b, off + xs.length * i.size + j, none⟩).isSome = true := fun j hj => by
      rw [hs, Nat.mul_one, g2.cell, Array.getElem?_eq_getElem (by omega)]; rfl
    have hrun := run_append_room_src (P := P) w t t ty e i he.1 hi b off xs.length c u ys.length ys (by rw [hs]; exact hS) hroom hcell (fun j hj => g2.frozen _)
    rw [hs, Nat.mul_one] at hrun
    obtain ⟨cs', k1, k2, k3, k4⟩ := Blk.setCells2 ys (off + xs.length) w cur g2 (by omega)
    refine ⟨_, by rw [List.length_append]; exact hrun, .inr ⟨b, off, c, cs', rfl, g1, k1, by omega, by rw [List.length_append]; omega, g5, fun j hj => ?_⟩, Kp.setCells (S := fun i => (Value.slice (some ⟨b, off, none⟩) xs.length c).ownBlock = some i) rfl ys _ w⟩
    rw [List.length_append] at hj
    by_cases hjl : j < xs.length
    · rw [k3 _ (by omega), g6 j hjl, List.getElem?_append_left hjl]
    · rw [List.getElem?_append_right (by omega), show off + j = off + xs.length + (j - xs.length) by omega, k4 _ (by omega)]
end
set_option maxHeartbeats 800000 in
theorem growS_any (n : Nat) (w : World) (hn : n ≤ 2048) :
    Calls Tryd.prog 73 #[.slice none 0 0, .int .i64 (n : Nat)] w fun e w' => ∃ A c, e = .returned (.slice A 0 c) ∧ n ≤ c ∧ Win 9 w' w.heap.size (.slice A 0 c) [] ∧ Below w.heap.size w w' := by
  rcases Nat.eq_zero_or_pos n with h0 | h0
  · subst h0
    go_enter Tryd.func73, Tryd.ntmps73
    go_wp2_with fail
    go_ret
    exact ⟨none, 0, rfl, Nat.le_refl _, Win.nil _ _ _, Below.refl _ _⟩
  · obtain ⟨i, hi, hz, hs, hby⟩ := info_parts elemSx.2.1
    obtain ⟨v', w2, hrun, hown, hgr, _⟩ := run_append_zeros (P := Tryd.prog) w w.heap.size 22 3 22 9 i (.string ⟨#[]⟩) 1 16 elemSx.1 Tryd.underlying3 hi hz hs hby rfl (by decide) (by decide) (.slice none 0 0) 0 [] (World.ownsRow_nil w w.heap.size 9 1) .i64 n (by
      intro y hy
      obtain ⟨j, hj, rfl⟩ := List.mem_iff_getElem.1 hy
      simp [Builtin.zeroCells, Value.cells, Nat.mod_one]; rfl) (by omega) (Nat.le_refl _)
    rcases hown.2 with ⟨_, hz0⟩ | ⟨g, cap, cur, rfl, hg1, hg2, hg3, hg4, hg5, _⟩
    · omega
    have HR := Lib.hid hrun
    have HW := Lib.hid (show Win 9 w2 w.heap.size (.slice (some ⟨g, 0, none⟩) 0 cap) [] from .inr ⟨g, 0, cap, cur, rfl, hg1, hg2, by omega, by simp, by simpa [maxLen] using hg4, fun j hj => by simp at hj⟩)
    have HB := Lib.hid (show Below w.heap.size w w2 from ⟨hgr.os, hgr.tape, hgr.output, hgr.size, fun i hi => hgr.block i hi (by intro h; cases h)⟩)
    rw [Nat.zero_add] at HR hg3
    have HC := Lib.hid hg3
    clear hrun hown hgr hg1 hg2 hg3 hg4 hg5 hi hz hs hby
    have e1 : (0 : Int) < (n : Int) := by omega
    go_enter Tryd.func73, Tryd.ntmps73
    go_wp2_with ((with_reducible refine gate_dst (N := 22) rfl ?_); refine wpList_append_run rfl (.tmp 20) (.tmp 21) _ _ rfl rfl rfl HR.out ?_)
    go_ret
    exact ⟨_, _, rfl, HC.out, HW.out, HB.out⟩
theorem Kp.ownBelow {B : Nat} {v : Value} {w w' : World} {e : TypeId} {xs : List Value} (h : Kp (fun i => v.ownBlock = some i) w w') (hW : Win e w B v xs) (hB : B ≤ w.heap.size) : Below B w w' := h.below (fun i hi => (hW.typed i hi).1) hB
set_option maxHeartbeats 1600000 in
theorem concatS_any (B q : Nat) (xs ys : List Value) (A A' : Option Addr) (c c' : Nat) (w : World) (hq : Blk w q 22 #[.slice A xs.length c, .slice A' ys.length c']) (hW : Win 9 w B (.slice A xs.length c) xs) (hU : Win 9 w B (.slice A' ys.length c') ys) (x1 : ∀ u ∈ xs, u.oneCell' = true) (y1 : ∀ u ∈ ys, u.oneCell' = true) (hx : xs.length ≤ 1024) (hy : ys.length ≤ 1024) :
    Calls Tryd.prog 53 #[.slice (some ⟨q, 0, none⟩) 2 2] w fun e w' => ∃ r, e = .returned r ∧ Win 9 w' w.heap.size r (xs ++ ys) ∧ Below w.heap.size w w' := by
  have HQ := Lib.hid hq
  have HW := Lib.hid hW
  have HU := Lib.hid hU
  obtain ⟨n, hn⟩ : ∃ n, Hid (xs.length = n) := ⟨_, Lib.hid rfl⟩
  obtain ⟨m, hm⟩ : ∃ n, Hid (ys.length = n) := ⟨_, Lib.hid rfl⟩
  have HG := fun N (h : n + m = N) => growS_any N w (by have := hn.out; have := hm.out; omega)
  rw [hn.out] at hx HQ HW
  rw [hm.out] at hy HQ HU
  have q0 : w.cell? ⟨q, 0, none⟩ = some (.slice A n c) := HQ.out.cell 0
  have q1 : w.cell? ⟨q, 1, none⟩ = some (.slice A' m c') := HQ.out.cell 1
  have s1 : 0 + (n : Int) = (n : Nat) := Int.zero_add _
  obtain ⟨L, hL⟩ : ∃ L, Hid ((xs ++ ys).length = L) := ⟨_, Lib.hid rfl⟩
  obtain ⟨N, hN⟩ : ∃ N, Hid (n + m = N) := ⟨_, Lib.hid rfl⟩
  have s2 : (n : Int) + (m : Int) = (N : Int) := by have := hN.out; omega
  have s3 : 0 ≤ (n : Int) := by omega
  have s4 : 0 ≤ (N : Int) := by omega
  have HG := Lib.hid (HG N hN.out)
  clear hq hW hU
  go_enter Tryd.func53, Tryd.ntmps53
  go_wp2_with fail
  go_loopg [3, 11] 3 (fun kq v3 v11 wr => wr = w ∧ ((kq = 3 ∧ v3 = .int .i64 0 ∧ v11 = .int .i64 0) ∨ (kq = 2 ∧ v3 = .int .i64 (n : Nat) ∧ v11 = .int .i64 1) ∨ (kq = 1 ∧ v3 = .int .i64 (N : Nat) ∧ v11 = .int .i64 2)))
  case atStart => exact ⟨rfl, .inl ⟨rfl, rfl, rfl⟩⟩
  case round =>
    have hw0 : w = wr := hrel.1.symm
    subst hw0
    obtain ⟨_, ⟨rfl, rfl, rfl⟩ | ⟨rfl, rfl, rfl⟩ | ⟨rfl, rfl, rfl⟩⟩ := hrel
    · go_wp2_with fail
      go_roundg 2
      case measure => omega
      case rel => exact ⟨rfl, .inr (.inl ⟨rfl, rfl, rfl⟩)⟩
    · go_wp2_with fail
      go_roundg 1
      case measure => omega
      case rel => exact ⟨rfl, .inr (.inr ⟨rfl, rfl, rfl⟩)⟩
    · go_wp2_with fail
      refine HG.out.mono ?_
      rintro e w2 ⟨G, gc, rfl, hgc, hw2, hb2⟩
      have W2 := Lib.hid hw2
      have B2 := Lib.hid hb2
      have U1 := Lib.hid (HW.out.below hb2)
      have U2 := Lib.hid (HU.out.below hb2)
      have Q2 := Lib.hid (HQ.out.below hb2 HQ.out.lt)
      clear hw2 hb2 q0 q1
      go_wp2_with fail
      go_loopg [6, 27] 3 (fun kq v6 v27 wz => Hid (Below w.heap.size w wz) ∧ ((kq = 3 ∧ v6 = .slice G 0 gc ∧ v27 = .int .i64 0 ∧ Hid (Win 9 wz w.heap.size (.slice G 0 gc) [])) ∨ (kq = 2 ∧ v6 = .slice G n gc ∧ v27 = .int .i64 1 ∧ Hid (Win 9 wz w.heap.size (.slice G n gc) xs)) ∨ (kq = 1 ∧ v6 = .slice G L gc ∧ v27 = .int .i64 2 ∧ Hid (Win 9 wz w.heap.size (.slice G L gc) (xs ++ ys)))))
      case atStart => exact ⟨B2, .inl ⟨rfl, rfl, rfl, W2⟩⟩
      case round =>
        obtain ⟨BZ, ⟨rfl, rfl, rfl, WZ⟩ | ⟨rfl, rfl, rfl, WZ⟩ | ⟨rfl, rfl, rfl, WZ⟩⟩ := hrel
        · obtain ⟨w3, hr3, hw3, hk3⟩ := win_append_room (P := Tryd.prog) (ty := 22) elemSx WZ.out (A := G) (c := gc) rfl (by simp; have := hn.out; have := hN.out; omega) (HW.out.below BZ.out) x1
          have B3 := Lib.hid (BZ.out.trans (hk3.ownBelow WZ.out BZ.out.size))
          rw [List.nil_append, hn.out] at hr3 hw3
          have R3 := Lib.hid hr3
          have W3 := Lib.hid hw3
          have q0 : wr.cell? ⟨q, 0, none⟩ = some (.slice A n c) := (HQ.out.below BZ.out HQ.out.lt).cell 0
          clear hr3 hw3 hk3
          go_wp2_with ((with_reducible refine gate_dst (N := 33) rfl ?_); refine wpList_append_run rfl (.tmp 31) (.tmp 32) _ _ rfl rfl rfl R3.out ?_)
          go_roundg 2
          case measure => omega
          case rel => exact ⟨B3, .inr (.inl ⟨rfl, rfl, rfl, W3⟩)⟩
        · have WZ' := WZ.out
          rw [← hn.out] at WZ'
          obtain ⟨w3, hr3, hw3, hk3⟩ := win_append_room (P := Tryd.prog) (ty := 22) elemSx WZ' (A := G) (c := gc) rfl (by have := hn.out; have := hm.out; have := hN.out; omega) (u := .slice A' m c') (HU.out.below BZ.out) y1
          have B3 := Lib.hid (BZ.out.trans (hk3.ownBelow WZ' BZ.out.size))
          rw [hn.out, hL.out] at hr3
          rw [hL.out] at hw3
          have R3 := Lib.hid hr3
          have W3 := Lib.hid hw3
          have q1 : wr.cell? ⟨q, 1, none⟩ = some (.slice A' m c') := (HQ.out.below BZ.out HQ.out.lt).cell 1
          clear hr3 hw3 hk3 WZ'
          go_wp2_with ((with_reducible refine gate_dst (N := 33) rfl ?_); refine wpList_append_run rfl (.tmp 31) (.tmp 32) _ _ rfl rfl rfl R3.out ?_)
          go_roundg 1
          case measure => omega
          case rel => exact ⟨B3, .inr (.inr ⟨rfl, rfl, rfl, W3⟩)⟩
        · go_wp2_with fail
          go_ret
          exact ⟨_, rfl, WZ.out, BZ.out⟩
end Go.Proofs.YteajpebkanamgaaDoor
namespace Go.Proofs.YteajpebkanamgaaDoor
open Go.RowKit Go.Proofs.YteajpebkanamgaaDoorW.PrintWords Go.Proofs.YteajpebkanamgaaDoorW.PrintLast
set_option linter.unusedSimpArgs false
set_option linter.unusedVariables false
set_option maxRecDepth 20000
structure Sn where
  most : Nat
  epoch : Nat
  old : List (List UInt8)
  tags : List (List UInt8)
def Sn.has (S : Sn) (t : List UInt8) : Bool := decide (t ∈ S.old) || decide (t ∈ S.tags)
def snC (lp : Nat) (S : Sn) (vo vt : Value) : Array Value := #[.pointer (some ⟨lp, 0, none⟩), .int .i64 (S.most : Nat), .int .i64 (S.epoch : Nat), vo, vt]
structure SnM (B : Nat) (w : World) (sp lp g : Nat) (v vo vt : Value) (L : Lg) (d : Dk) (S : Sn) : Prop where
  hp : Blk w sp 86 (snC lp S vo vt)
  b : B ≤ sp
  l : Ls B w lp g v L d
  o : Win 9 w B vo (cstr S.old)
  t : Win 9 w B vt (cstr S.tags)
  fo : ∀ i, vo.ownBlock = some i → ¬ LgS lp v i
  ft : ∀ i, vt.ownBlock = some i → ¬ LgS lp v i
  ot : ∀ i, vo.ownBlock = some i → vt.ownBlock ≠ some i
section
variable {B sp lp g : Nat} {w w' : World} {v v' vo vt : Value} {L L' : Lg} {d d' : Dk} {S : Sn}
theorem SnM.below (h : SnM B w sp lp g v vo vt L d S) (hb : Below w.heap.size w w') : SnM B w' sp lp g v vo vt L d S :=
  ⟨h.hp.below hb h.hp.lt, h.b, h.l.below hb, h.o.below hb, h.t.below hb, h.fo, h.ft, h.ot⟩
theorem SnM.notLog (h : SnM B w sp lp g v vo vt L d S) : ¬ LgS lp v sp := fun hs => by
  rcases hs with e | hs
  · subst e
    exact absurd (h.hp.type h.l.w.m.hp).1 (by decide)
  · obtain ⟨_, cs, hk⟩ := h.l.w.m.ho.typed sp hs
    exact absurd (h.hp.type hk).1 (by decide)
theorem Win.owned {e : TypeId} {w : World} {B : Nat} {v : Value} {xs : List Value} (h : Win e w B v xs) : ∀ i, v.ownBlock = some i → i < w.heap.size := fun i hi => by
  obtain ⟨_, cs, hk⟩ := h.typed i hi
  exact hk.lt
/-- the set's log took a step. -/
theorem SnM.log (h : SnM B w sp lp g v vo vt L d S) (k : LgStep B lp g v v' L' d' w w') (hg : LgGood d' L') : SnM B w' sp lp g v' vo vt L' d' S :=
  ⟨h.hp.fs k.f (by unfold DkT; decide) h.notLog, h.b, ⟨k.lw, hg⟩, h.o.fs k.f (fun b hb => h.fo b hb), h.t.fs k.f (fun b hb => h.ft b hb), fun i hi => k.far (h.o.owned i hi) (h.fo i hi), fun i hi => k.far (h.t.owned i hi) (h.ft i hi), h.ot⟩
end
/-- a set that works, with so many sectors free. -/
def SnOk (B : Nat) (w : World) (sp g free : Nat) (S : Sn) : Prop := ∃ lp v vo vt L d, SnM B w sp lp g v vo vt L d S ∧ L.next + free = L.n ∧ d.w = []
theorem SnOk.below {B sp g free : Nat} {w w' : World} {S : Sn} (h : SnOk B w sp g free S) (hb : Below w.heap.size w w') : SnOk B w' sp g free S := by
  obtain ⟨lp, v, vo, vt, L, d, h1, h2⟩ := h
  exact ⟨lp, v, vo, vt, L, d, h1.below hb, h2⟩
theorem SnOk.hB {B sp g free : Nat} {w : World} {S : Sn} (h : SnOk B w sp g free S) : B ≤ w.heap.size := by
  obtain ⟨lp, v, vo, vt, L, d, h1, h2⟩ := h
  exact h1.l.w.d.hB
theorem SnOk.most {B sp g free : Nat} {w : World} {S : Sn} (h : SnOk B w sp g free S) : True := trivial
/-! ### small functions -/
theorem containsS_mem (l : List (List UInt8)) (t : List UInt8) : Lib.containsS (l.map fun x => (⟨x.toArray⟩ : ByteArray)) ⟨t.toArray⟩ = decide (t ∈ l) := by
  have h : ((⟨t.toArray⟩ : ByteArray) ∈ l.map fun x => (⟨x.toArray⟩ : ByteArray)) ↔ t ∈ l := by
    constructor
    · intro h
      obtain ⟨x, hx, he⟩ := List.mem_map.1 h
      have e2 : x.toArray = t.toArray := congrArg ByteArray.data he
      have e3 : x = t := by have := congrArg Array.toList e2; simpa using this
      exact e3 ▸ hx
    · intro h
      exact List.mem_map.2 ⟨t, h, rfl⟩
  by_cases ht : t ∈ l
  · rw [decide_eq_true ht]
    exact (Lib.containsS_iff _ _).2 (h.2 ht)
  · rw [decide_eq_false ht]
    exact Bool.eq_false_iff.2 (fun e => ht (h.1 ((Lib.containsS_iff _ _).1 e)))
theorem win_contains {w : World} {B : Nat} {v : Value} {l : List (List UInt8)} (h : Win 9 w B v (cstr l)) (t : List UInt8) (hl : l.length ≤ 1000000) :
    Calls Tryd.prog 52 #[v, .string ⟨t.toArray⟩] w fun e w' => e = .returned (.bool (decide (t ∈ l))) ∧ w = w' := by
  have hlen : (cstr l).length = l.length := cstr_length l
  rcases h with ⟨rfl, hx⟩ | ⟨b, off, cap, cur, rfl, hb, hk, h3, h4, h5, hc⟩
  · have hnil : l = [] := by
      rw [← List.length_eq_zero_iff, ← hlen, hx]; rfl
    refine (Tryd.slices_Contains_string_empty none 0 ⟨t.toArray⟩ w).mono ?_
    rintro e w' ⟨rfl, h2⟩
    exact ⟨by rw [hnil]; rfl, h2.symm⟩
  · have hz : (l.map fun x => (⟨x.toArray⟩ : ByteArray)).length = l.length := List.length_map ..
    have := Tryd.slices_Contains_string b off l.length cap (l.map fun x => ⟨x.toArray⟩) ⟨t.toArray⟩ w (by rw [hz]; exact Nat.le_refl _) (by omega) (fun j hj => by
      rw [hz] at hj
      rw [hk.cell, hc j (by omega), cstr_get _ _ hj]
      congr 2
      rw [List.getD_eq_getElem?_getD, List.getD_eq_getElem?_getD, List.getElem?_map, List.getElem?_eq_getElem hj]
      rfl)
    rw [hlen]
    refine this.mono ?_
    rintro e w' ⟨rfl, h2⟩
    rw [List.take_of_length_le (by rw [hz]; exact Nat.le_refl _), containsS_mem]
    exact ⟨rfl, h2.symm⟩
def markS (n : Nat) : List UInt8 := 69 :: be4 n
def putS (t : List UInt8) : List UInt8 := 84 :: t
theorem smark_any (g : Nat) (w : World) (hg : g ≤ 4294967296) :
    Calls Tryd.prog 49 #[.int .i64 (g : Nat)] w fun e w' => e = .returned (.string ⟨(markS g).toArray⟩) ∧ Below w.heap.size w w' := by
  have e1 : (g : Int) / 16777216 % 256 = n8 (UInt8.ofNat (g / 16777216)) := by rw [← n8_nat]; omega
  have e2 : (g : Int) / 65536 % 256 = n8 (UInt8.ofNat (g / 65536)) := by rw [← n8_nat]; omega
  have e3 : (g : Int) / 256 % 256 = n8 (UInt8.ofNat (g / 256)) := by rw [← n8_nat]; omega
  have e4 : (g : Int) % 256 = n8 (UInt8.ofNat g) := n8_nat g
  have hcv : (convert 84 9 (.slice (some ⟨w.heap.size, 0, none⟩) 5 5)).run Tryd.prog (w.alloc (.cells #[.int .u8 69, .int .u8 ((g : Int) / 16777216 % 256), .int .u8 ((g : Int) / 65536 % 256), .int .u8 ((g : Int) / 256 % 256), .int .u8 ((g : Int) % 256)] 5)) = .ok (.string ⟨(markS g).toArray⟩) (w.alloc (.cells #[.int .u8 69, .int .u8 ((g : Int) / 16777216 % 256), .int .u8 ((g : Int) / 65536 % 256), .int .u8 ((g : Int) / 256 % 256), .int .u8 ((g : Int) % 256)] 5)) := by
    rw [e1, e2, e3, e4]
    exact my_own_string (l := markS g) Tryd.underlying84 Tryd.underlying5 Tryd.underlying9 (my_own_lit w 5 [.int .u8 69, .int .u8 (n8 (UInt8.ofNat (g / 16777216))), .int .u8 (n8 (UInt8.ofNat (g / 65536))), .int .u8 (n8 (UInt8.ofNat (g / 256))), .int .u8 (n8 (UInt8.ofNat g))] (B := 0) (Nat.zero_le _) (by simp))
  obtain ⟨mb, MB⟩ : ∃ t : ByteArray, Hid (⟨(markS g).toArray⟩ = t) := ⟨_, Lib.hid rfl⟩
  rw [MB.out] at hcv ⊢
  clear e1 e2 e3 e4
  have hg2 : (g : Int) ≤ 4294967296 := by omega
  go_enter Tryd.func49, Tryd.ntmps49
  go_wp2_with fail
  go_ret
  exact ⟨rfl, (Below.refl _ _).alloc (Nat.le_refl _) _⟩
theorem sput_any (t : List UInt8) (w : World) (ht : t.length ≤ 1000) :
    Calls Tryd.prog 51 #[.string ⟨t.toArray⟩] w fun e w' => e = .returned (.string ⟨(putS t).toArray⟩) ∧ Below w.heap.size w w' := by
  have hcv : (convert 84 9 (.slice (some ⟨w.heap.size, 0, none⟩) 1 1)).run Tryd.prog (w.alloc (.cells #[.int .u8 84] 5)) = .ok (.string ⟨#[84]⟩) (w.alloc (.cells #[.int .u8 84] 5)) :=
    my_own_string (l := [84]) Tryd.underlying84 Tryd.underlying5 Tryd.underlying9 (my_own_lit w 5 [.int .u8 84] (B := 0) (Nat.zero_le _) (by simp))
  have htz : (⟨t.toArray⟩ : ByteArray).size = t.length := by simp [ByteArray.size]
  have hcat : (⟨#[84]⟩ : ByteArray) ++ ⟨t.toArray⟩ = ⟨(putS t).toArray⟩ := by apply ByteArray.ext; simp [putS]
  have h1z : (⟨#[84]⟩ : ByteArray).size = 1 := rfl
  obtain ⟨tb, TB⟩ : ∃ b : ByteArray, Hid (⟨t.toArray⟩ = b) := ⟨_, Lib.hid rfl⟩
  obtain ⟨pb, PB⟩ : ∃ b : ByteArray, Hid (⟨(putS t).toArray⟩ = b) := ⟨_, Lib.hid rfl⟩
  obtain ⟨ob, OB⟩ : ∃ b : ByteArray, Hid (⟨#[84]⟩ = b) := ⟨_, Lib.hid rfl⟩
  rw [TB.out] at htz hcat ⊢
  rw [PB.out] at hcat ⊢
  rw [OB.out] at hcat hcv h1z
  have hl : (t.length : Int) ≤ 1000 := by omega
  go_enter Tryd.func51, Tryd.ntmps51
  go_wp2_with fail
  go_ret
  exact ⟨rfl, (Below.refl _ _).alloc (Nat.le_refl _) _⟩
end Go.Proofs.YteajpebkanamgaaDoor
namespace Go.Proofs.YteajpebkanamgaaDoor
open Go.RowKit Go.Proofs.YteajpebkanamgaaDoorW.PrintWords Go.Proofs.YteajpebkanamgaaDoorW.PrintLast
set_option linter.unusedSimpArgs false
set_option linter.unusedVariables false
set_option maxRecDepth 20000
section
variable {B sp lp g free : Nat} {w w' : World} {v v' vo vt : Value} {L L' : Lg} {d d' : Dk} {S : Sn}
set_option maxHeartbeats 800000 in
theorem has_any (h : SnM B w sp lp g v vo vt L d S) (t : List UInt8) (ho : S.old.length ≤ 5000) (ht : S.tags.length ≤ 5000) :
    Calls Tryd.prog 25 #[.pointer (some ⟨sp, 0, none⟩), .string ⟨t.toArray⟩] w fun e w' => e = .returned (.bool (S.has t)) ∧ w = w' := by
  have p3 : w.cell? ⟨sp, 3, none⟩ = some vo := h.hp.cell 3
  have p4 : w.cell? ⟨sp, 4, none⟩ = some vt := h.hp.cell 4
  have HO := Lib.hid (win_contains h.o t (by omega))
  have HT := Lib.hid (win_contains h.t t (by omega))
  unfold Sn.has
  obtain ⟨b1, hb1⟩ : ∃ b, Hid (decide (t ∈ S.old) = b) := ⟨_, Lib.hid rfl⟩
  obtain ⟨b2, hb2⟩ : ∃ b, Hid (decide (t ∈ S.tags) = b) := ⟨_, Lib.hid rfl⟩
  rw [hb1.out] at HO ⊢
  rw [hb2.out] at HT ⊢
  clear h
  go_enter Tryd.func25, Tryd.ntmps25
  go_wp2_with fail
  refine HO.out.mono ?_
  rintro e w1 ⟨rfl, rfl⟩
  cases b1 with
  | true =>
    go_wp2_with fail
    go_ret
    exact ⟨rfl, by trivial⟩
  | false =>
    go_wp2_with fail
    refine HT.out.mono ?_
    rintro e w1 ⟨rfl, rfl⟩
    go_wp2_with fail
    go_ret
    exact ⟨by simp, by trivial⟩
set_option maxHeartbeats 1600000 in
theorem swrite_any (h : SnM B w sp lp g v vo vt L d S) (r : List UInt8) (hr : 1 ≤ r.length ∧ r.length ≤ 2000) (hf : L.next + sectorsN r ≤ L.n) (hw : d.w = []) :
    Calls Tryd.prog 48 #[.pointer (some ⟨sp, 0, none⟩), .string ⟨r.toArray⟩] w fun e w' => e = .returned (.int .i64 0) ∧ ∃ v' d', SnM B w' sp lp g v' vo vt (L.took r (ownL L.mark r) (sectorsN r)) d' S ∧ d'.w = [] ∧ Below B w w' := by
  have H := Lib.hid h
  have p0 : w.cell? ⟨sp, 0, none⟩ = some (.pointer (some ⟨lp, 0, none⟩)) := h.hp.cell 0
  have HAP := Lib.hid (ls_append h.l r (by omega) (by rw [hw]; exact Nat.zero_le _))
  obtain ⟨d2, q1, q2, q3, q4, q5⟩ := appendL_is h.l.g r hr hf
  rw [q1] at HAP
  have G2 := Lib.hid q2
  obtain ⟨L2, hL2⟩ : ∃ x, Hid (L.took r (ownL L.mark r) (sectorsN r) = x) := ⟨_, Lib.hid rfl⟩
  rw [hL2.out] at HAP G2 ⊢
  obtain ⟨rb, RB⟩ : ∃ b : ByteArray, Hid (⟨r.toArray⟩ = b) := ⟨_, Lib.hid rfl⟩
  rw [RB.out] at HAP ⊢
  clear h q1 q2 q3 q4 q5 hr hf
  go_enter Tryd.func48, Tryd.ntmps48
  go_wp2_with fail
  refine HAP.out.mono ?_
  rintro e w1 ⟨rfl, v1, h1⟩
  have H1 := Lib.hid (H.out.log h1 G2.out)
  have B1 := Lib.hid h1.f.b
  clear h1 HAP p0
  have p0 : w1.cell? ⟨sp, 0, none⟩ = some (.pointer (some ⟨lp, 0, none⟩)) := H1.out.hp.cell 0
  go_wp2_with fail
  have HY := Lib.hid (lsync_any H1.out.l.w)
  rw [calm_sync G2.out.calm] at HY
  refine HY.out.mono ?_
  rintro e w2 ⟨rfl, h2⟩
  have H2 := Lib.hid (H1.out.log h2 (G2.out.of_l G2.out.calm rfl))
  have B2 := Lib.hid (B1.out.trans h2.f.b)
  clear h2 HY H1 B1 p0
  go_wp2_with fail
  go_ret
  exact ⟨rfl, v1, _, H2.out, rfl, B2.out⟩
/-- the set's own block and its tags' were turned. -/
theorem SnM.turn {vo' vt' : Value} {S' : Sn} (h : SnM B w sp lp g v vo vt L d S) (k : Kp (fun i => i = sp ∨ vt.ownBlock = some i) w w') (hb : Blk w' sp 86 (snC lp S' vo' vt')) (ho : Win 9 w' B vo' (cstr S'.old)) (ht : Win 9 w' B vt' (cstr S'.tags))
    (fo : ∀ i, vo'.ownBlock = some i → ¬ LgS lp v i) (ft : ∀ i, vt'.ownBlock = some i → ¬ LgS lp v i) (ot : ∀ i, vo'.ownBlock = some i → vt'.ownBlock ≠ some i) : SnM B w' sp lp g v vo' vt' L d S' :=
  ⟨hb, h.b, ⟨h.l.w.kp k (fun i hi => by
      rcases hi with rfl | hi
      · exact h.b
      · exact (h.t.typed i hi).1) (fun i hi => by
      rcases hi with rfl | hi
      · exact h.notLog
      · exact h.ft i hi) (fun i cs t hi hk => by
      rcases hi with rfl | hi
      · rw [(hk.type h.hp).1]; unfold DkT; decide
      · obtain ⟨_, cs', hk'⟩ := h.t.typed i hi
        rw [(hk.type hk').1]; unfold DkT; decide), h.l.g⟩, ho, ht, fo, ft, ot⟩
theorem SnM.ne (h : SnM B w sp lp g v vo vt L d S) : vo.ownBlock ≠ some sp ∧ vt.ownBlock ≠ some sp :=
  ⟨fun e => by obtain ⟨_, cs, hk⟩ := h.o.typed sp e; exact absurd (h.hp.type hk).1 (by decide), fun e => by obtain ⟨_, cs, hk⟩ := h.t.typed sp e; exact absurd (h.hp.type hk).1 (by decide)⟩
theorem SnM.kpB (h : SnM B w sp lp g v vo vt L d S) (k : Kp (fun i => i = sp ∨ vt.ownBlock = some i) w w') : Below B w w' :=
  k.below (fun i hi => by
    rcases hi with rfl | hi
    · exact h.b
    · exact (h.t.typed i hi).1) h.l.w.d.hB
set_option maxHeartbeats 800000 in
theorem enter_next (h : SnM B w sp lp g v vo vt L d S) (he : S.epoch ≤ 1000000) :
    Calls Tryd.prog 50 #[.pointer (some ⟨sp, 0, none⟩), .int .i64 ((S.epoch : Int) + 1)] w fun e w' => e = .returned (.tuple #[]) ∧ SnM B w' sp lp g v vt (.slice none 0 0) L d ⟨S.most, S.epoch + 1, S.tags, []⟩ ∧ Below B w w' := by
  have H := Lib.hid h
  have HP := Lib.hid h.hp
  obtain ⟨At, ct, hvt, _, _⟩ := h.t.form
  obtain ⟨nt, hnt⟩ : ∃ z, Hid ((cstr S.tags).length = z) := ⟨_, Lib.hid rfl⟩
  obtain ⟨Ao, co, hvo, _, _⟩ := h.o.form
  obtain ⟨no, hno⟩ : ∃ z, Hid ((cstr S.old).length = z) := ⟨_, Lib.hid rfl⟩
  rw [hnt.out] at hvt
  rw [hno.out] at hvo
  have p2 : w.cell? ⟨sp, 2, none⟩ = some (.int .i64 (S.epoch : Nat)) := h.hp.cell 2
  have p3 : w.cell? ⟨sp, 3, none⟩ = some vo := h.hp.cell 3
  have p4 : w.cell? ⟨sp, 4, none⟩ = some vt := h.hp.cell 4
  have f2 : w.frozen? ⟨sp, 2, none⟩ = false := h.hp.frozen 2
  have f3 : w.frozen? ⟨sp, 3, none⟩ = false := h.hp.frozen 3
  have f4 : w.frozen? ⟨sp, 4, none⟩ = false := h.hp.frozen 4
  rw [hvo] at p3
  rw [hvt] at p4
  obtain ⟨E, hE⟩ : ∃ z : Int, Hid ((S.epoch : Int) = z) := ⟨_, Lib.hid rfl⟩
  have e1 : 0 ≤ E ∧ E ≤ 1000000 := by have := hE.out; omega
  rw [hE.out] at p2 ⊢
  have HVT := Lib.hid hvt
  have HVO := Lib.hid hvo
  clear h hvt hvo he
  go_enter Tryd.func50, Tryd.ntmps50
  go_wp2_with fail
  go_end0
  have hb := ((HP.out.set_ 3 vt).set_ 4 (.slice none 0 0)).set_ 2 (.int .i64 (E + 1))
  have hcs : (((snC lp S vo vt).setIfInBounds 3 vt).setIfInBounds 4 (.slice none 0 0)).setIfInBounds 2 (.int .i64 (E + 1)) = snC lp ⟨S.most, S.epoch + 1, S.tags, []⟩ vt (.slice none 0 0) := by
    have : E + 1 = ((S.epoch + 1 : Nat) : Int) := by have := hE.out; omega
    rw [this]
    rfl
  rw [hcs] at hb
  have hkp : ∀ (W : World) (i : Nat) (u : Value), Kp (fun j => j = sp ∨ vt.ownBlock = some j) W (W.setCell ⟨sp, i, none⟩ u) := fun W i u => Kp.set_ (S := fun j => j = sp ∨ vt.ownBlock = some j) (.inl rfl) i u
  have k := ((hkp w 3 vt).trans (hkp _ 4 (.slice none 0 0))).trans (hkp _ 2 (.int .i64 (E + 1)))
  have hw1 := H.out.t.kp (((Kp.set_ (S := fun j => j = sp) rfl 3 vt).trans (Kp.set_ (S := fun j => j = sp) rfl 4 (.slice none 0 0))).trans (Kp.set_ (S := fun j => j = sp) rfl 2 (.int .i64 (E + 1)))) (fun b hb e => H.out.ne.2 (by rw [← e]; exact hb))
  rw [← HVT.out]
  exact ⟨rfl, H.out.turn k hb hw1 (Win.nil _ _ _) H.out.ft (fun i hi => by cases hi) (fun i _ hi => by cases hi), H.out.kpB k⟩
theorem Sn.has_old (S : Sn) (t : List UInt8) : S.has t = true ↔ t ∈ S.old ∨ t ∈ S.tags := by unfold Sn.has; simp
end
end Go.Proofs.YteajpebkanamgaaDoor
namespace Go.Proofs.YteajpebkanamgaaDoor
open Go.RowKit Go.Proofs.YteajpebkanamgaaDoorW.PrintWords Go.Proofs.YteajpebkanamgaaDoorW.PrintLast
set_option linter.unusedSimpArgs false
set_option linter.unusedVariables false
set_option maxRecDepth 20000
attribute [local irreducible] sha
def snTg.T : Bool × List (List Nat × List Nat) := (true, [([], []), ([0], [0]), ([1], [1]), ([2], [2]), ([], []), ([4], [4]), ([5], [5]), ([6], [6]), ([3, 7], [3, 7]), ([8], [8]), ([9, 9, 0, 1, 2, 3, 4, 5, 6, 7, 8, 9], [9])])
def snTg.B : List Nat := [0, 1, 3, 7, 0, 16, 48, 112, 255, 511, 1023]
theorem snTg.tab : rtab .any (opsOf Tryd.f27 1) = snTg.T := by kernel_rfl
theorem snTg.bits : waitsOk snTg.T.2 snTg.B = true := by kernel_rfl
section
variable {B sp g f : Nat} {w w' : World} {S : Sn}
theorem took_next (L : Lg) (t o : List UInt8) (k : Nat) : (L.took t o k).next = L.next + k := rfl
theorem took_n (L : Lg) (t o : List UInt8) (k : Nat) : (L.took t o k).n = L.n := rfl
theorem markS_length (n : Nat) : (markS n).length = 5 := rfl
theorem sectors_short (r : List UInt8) (h : r.length ≤ 46) : sectorsN r = 1 := by unfold sectorsN; omega
set_option maxHeartbeats 800000 in
theorem rotate_ok (h : SnOk B w sp g (f + 1) S) (he : S.epoch ≤ 1000) :
    Calls Tryd.prog 22 #[.pointer (some ⟨sp, 0, none⟩)] w fun e w' => e = .returned (.int .i64 0) ∧ SnOk B w' sp g f ⟨S.most, S.epoch + 1, S.tags, []⟩ ∧ Below B w w' := by
  obtain ⟨lp, v, vo, vt, L, d, hM, hf, hw⟩ := h
  have H := Lib.hid hM
  have HF := Lib.hid hf
  have p2 : w.cell? ⟨sp, 2, none⟩ = some (.int .i64 (S.epoch : Nat)) := hM.hp.cell 2
  have HMK := Lib.hid (fun W => smark_any (S.epoch + 1) W (by omega))
  obtain ⟨mb, MB⟩ : ∃ b : ByteArray, Hid (⟨(markS (S.epoch + 1)).toArray⟩ = b) := ⟨_, Lib.hid rfl⟩
  have hml : 1 ≤ (markS (S.epoch + 1)).length ∧ (markS (S.epoch + 1)).length ≤ 2000 := by rw [markS_length]; decide
  have hs1 := sectors_short (markS (S.epoch + 1)) (by rw [markS_length]; decide)
  have HWR := Lib.hid (fun W (hW : SnM B W sp lp g v vo vt L d S) => swrite_any hW (markS (S.epoch + 1)) hml (by rw [hs1]; omega) hw)
  rw [MB.out] at HMK HWR
  rw [hs1] at HWR
  obtain ⟨O, hO⟩ : ∃ x, Hid (L.took (markS (S.epoch + 1)) (ownL L.mark (markS (S.epoch + 1))) 1 = x) := ⟨_, Lib.hid rfl⟩
  have HN := Lib.hid (show O.next + f = O.n by
    rw [← hO.out, took_next, took_n]
    omega)
  rw [hO.out] at HWR
  have HEN := Lib.hid (fun W v1 d1 (hW : SnM B W sp lp g v1 vo vt O d1 S) => enter_next hW (by omega))
  obtain ⟨E, hE⟩ : ∃ z : Nat, Hid (S.epoch = z) := ⟨_, Lib.hid rfl⟩
  obtain ⟨E1, hE1⟩ : ∃ z : Nat, Hid (S.epoch + 1 = z) := ⟨_, Lib.hid rfl⟩
  rw [hE1.out] at HMK
  have e1 : (E : Int) + 1 = (E1 : Int) := by have := hE.out; have := hE1.out; omega
  have e2 : 0 ≤ (E : Int) ∧ (E : Int) ≤ 1000 := by have := hE.out; omega
  rw [hE.out] at p2
  rw [hE.out, e1] at HEN
  have q1 : ((E : Int) == 2147483647) = false := by simp; omega
  have q2 : (E == 2147483647) = false := by simp; omega
  rw [hE1.out]
  clear hM hf hml hs1 he
  go_enter Tryd.func22, Tryd.ntmps22
  go_wp2_with fail
  refine (HMK.out w).mono ?_
  rintro e w1 ⟨rfl, b1⟩
  have H1 := Lib.hid (H.out.below b1)
  have B1 := Lib.hid (b1.mono H.out.l.w.d.hB)
  clear b1 HMK p2
  go_wp2_with fail
  refine (HWR.out w1 H1.out).mono ?_
  rintro e w2 ⟨rfl, v2, d2, h2, k2, b2⟩
  have H2 := Lib.hid h2
  have K2 := Lib.hid k2
  have B2 := Lib.hid (B1.out.trans b2)
  clear h2 k2 b2 HWR H1 B1
  have p2 : w2.cell? ⟨sp, 2, none⟩ = some (.int .i64 (E : Nat)) := by rw [← hE.out]; exact H2.out.hp.cell 2
  go_wp2_with fail
  refine (HEN.out w2 v2 d2 H2.out).mono ?_
  rintro e w3 ⟨rfl, h3, b3⟩
  rw [show E + 1 = E1 by have := hE.out; have := hE1.out; omega] at h3
  have H3 := Lib.hid h3
  have B3 := Lib.hid (B2.out.trans b3)
  clear h3 b3 HEN p2
  go_wp2_with fail
  go_ret
  exact ⟨rfl, ⟨lp, v2, vt, _, O, d2, H3.out, HN.out, K2.out⟩, B3.out⟩
set_option maxHeartbeats 1600000 in
theorem add_seen (h : SnOk B w sp g f S) (t : List UInt8) (ht : t.length = 16) (ho : S.old.length ≤ 5000) (hl : S.tags.length ≤ 5000) (hh : S.has t = true) :
    Calls Tryd.prog 24 #[.pointer (some ⟨sp, 0, none⟩), .string ⟨t.toArray⟩] w fun e w' => e = .returned (.int .i64 170) ∧ w = w' := by
  obtain ⟨lp, v, vo, vt, L, d, hM, hf, hw⟩ := h
  have HH := Lib.hid (has_any hM t ho hl)
  rw [hh] at HH
  have htz : (⟨t.toArray⟩ : ByteArray).size = 16 := by simp [ByteArray.size, ht]
  obtain ⟨tb, TB⟩ : ∃ b : ByteArray, Hid (⟨t.toArray⟩ = b) := ⟨_, Lib.hid rfl⟩
  rw [TB.out] at HH htz ⊢
  clear hM hf hw
  go_enter Tryd.func24, Tryd.ntmps24
  go_wp2_with fail
  refine HH.out.mono ?_
  rintro e w1 ⟨rfl, rfl⟩
  go_wp2_with fail
  go_ret
  exact ⟨rfl, by trivial⟩
set_option maxHeartbeats 1600000 in
theorem add_full (h : SnOk B w sp g f S) (t : List UInt8) (ht : t.length = 16) (ho : S.old.length ≤ 5000) (hl : S.tags.length ≤ 5000) (hm : S.most ≤ 5000) (hh : S.has t = false) (hfull : S.most ≤ S.old.length + S.tags.length) :
    Calls Tryd.prog 24 #[.pointer (some ⟨sp, 0, none⟩), .string ⟨t.toArray⟩] w fun e w' => e = .returned (.int .i64 180) ∧ SnOk B w' sp g f S ∧ Below B w w' := by
  have H0 := Lib.hid h
  obtain ⟨lp, v, vo, vt, L, d, hM, hf, hw⟩ := h
  have HH := Lib.hid (has_any hM t ho hl)
  rw [hh] at HH
  have htz : (⟨t.toArray⟩ : ByteArray).size = 16 := by simp [ByteArray.size, ht]
  obtain ⟨tb, TB⟩ : ∃ b : ByteArray, Hid (⟨t.toArray⟩ = b) := ⟨_, Lib.hid rfl⟩
  rw [TB.out] at HH htz ⊢
  obtain ⟨At, ct, hvt, _, _⟩ := hM.t.form
  obtain ⟨Ao, co, hvo, _, _⟩ := hM.o.form
  rw [cstr_length] at hvt hvo
  have p1 : w.cell? ⟨sp, 1, none⟩ = some (.int .i64 (S.most : Nat)) := hM.hp.cell 1
  have p3 : w.cell? ⟨sp, 3, none⟩ = some vo := hM.hp.cell 3
  have p4 : w.cell? ⟨sp, 4, none⟩ = some vt := hM.hp.cell 4
  rw [hvo] at p3
  rw [hvt] at p4
  obtain ⟨no, hno⟩ : ∃ z : Nat, Hid (S.old.length = z) := ⟨_, Lib.hid rfl⟩
  obtain ⟨nt, hnt⟩ : ∃ z : Nat, Hid (S.tags.length = z) := ⟨_, Lib.hid rfl⟩
  obtain ⟨M, hM_⟩ : ∃ z : Nat, Hid (S.most = z) := ⟨_, Lib.hid rfl⟩
  rw [hno.out] at p3 ho hfull
  rw [hnt.out] at p4 hl hfull
  rw [hM_.out] at p1 hm hfull
  have e1 : (M : Int) ≤ (no : Int) + (nt : Int) := by omega
  have e2 : (no : Int) ≤ 5000 ∧ (nt : Int) ≤ 5000 ∧ 0 ≤ (no : Int) ∧ 0 ≤ (nt : Int) := by omega
  have hwr : IntKind.i64.wrap ((no : Int) + (nt : Int)) = (no : Int) + (nt : Int) := by rw [IntKind.wrap_i64]; omega
  clear hM hf hw hvt hvo hfull ho hl hm
  go_enter Tryd.func24, Tryd.ntmps24
  go_wp2_with fail
  refine HH.out.mono ?_
  rintro e w1 ⟨rfl, rfl⟩
  go_upto_region 5 with fail
  go_quiet (fail)
  generalize hq : w.drewN _ = w1
  have H1 := Lib.hid (show SnOk B w1 sp g f S by rw [← hq]; exact H0.out.below (below_drewN (Below.refl _ _) _))
  have B1 := Lib.hid (show Below B w w1 by rw [← hq]; exact (below_drewN (Below.refl _ _) _))
  clear hq p1 p3 p4
  go_wp2_with fail
  go_ret
  exact ⟨rfl, H1.out, B1.out⟩
set_option maxHeartbeats 3200000 in
theorem add_new (h : SnOk B w sp g (f + 1) S) (t : List UInt8) (ht : t.length = 16) (ho : S.old.length ≤ 5000) (hl : S.tags.length ≤ 5000) (hm : S.most ≤ 5000) (hh : S.has t = false) (hfull : S.old.length + S.tags.length < S.most) :
    Calls Tryd.prog 24 #[.pointer (some ⟨sp, 0, none⟩), .string ⟨t.toArray⟩] w fun e w' => e = .returned (.int .i64 0) ∧ SnOk B w' sp g f ⟨S.most, S.epoch, S.old, S.tags ++ [t]⟩ ∧ Below B w w' := by
  obtain ⟨lp, v, vo, vt, L, d, hM, hf, hw⟩ := h
  have H := Lib.hid hM
  have HF := Lib.hid hf
  have HH := Lib.hid (has_any hM t ho hl)
  rw [hh] at HH
  have htz : (⟨t.toArray⟩ : ByteArray).size = 16 := by simp [ByteArray.size, ht]
  have HPT := Lib.hid (fun W => sput_any t W (by omega))
  have hs1 := sectors_short (putS t) (by show (84 :: t).length ≤ 46; simp; omega)
  have HWR := Lib.hid (fun W (hW : SnM B W sp lp g v vo vt L d S) => swrite_any hW (putS t) ⟨by show 1 ≤ (84 :: t).length; simp, by show (84 :: t).length ≤ 2000; simp; omega⟩ (by rw [hs1]; omega) hw)
  have HPU := Lib.hid (fun W (hW : Win 9 W B vt (cstr S.tags)) (hB : B ≤ W.heap.size) => win_push hW t hB (by omega))
  obtain ⟨tb, TB⟩ : ∃ b : ByteArray, Hid (⟨t.toArray⟩ = b) := ⟨_, Lib.hid rfl⟩
  rw [TB.out] at HH htz HPT HPU ⊢
  obtain ⟨pb, PB⟩ : ∃ b : ByteArray, Hid (⟨(putS t).toArray⟩ = b) := ⟨_, Lib.hid rfl⟩
  rw [PB.out] at HPT HWR
  rw [hs1] at HWR
  obtain ⟨O, hO⟩ : ∃ x, Hid (L.took (putS t) (ownL L.mark (putS t)) 1 = x) := ⟨_, Lib.hid rfl⟩
  have HN := Lib.hid (show O.next + f = O.n by
    rw [← hO.out, took_next, took_n]
    omega)
  rw [hO.out] at HWR
  obtain ⟨At, ct, hvt, _, _⟩ := hM.t.form
  obtain ⟨Ao, co, hvo, _, _⟩ := hM.o.form
  rw [cstr_length] at hvt hvo
  have p1 : w.cell? ⟨sp, 1, none⟩ = some (.int .i64 (S.most : Nat)) := hM.hp.cell 1
  have p3 : w.cell? ⟨sp, 3, none⟩ = some vo := hM.hp.cell 3
  have p4 : w.cell? ⟨sp, 4, none⟩ = some vt := hM.hp.cell 4
  rw [hvo] at p3
  rw [hvt] at p4
  obtain ⟨no, hno⟩ : ∃ z : Nat, Hid (S.old.length = z) := ⟨_, Lib.hid rfl⟩
  obtain ⟨nt, hnt⟩ : ∃ z : Nat, Hid (S.tags.length = z) := ⟨_, Lib.hid rfl⟩
  obtain ⟨M, hM_⟩ : ∃ z : Nat, Hid (S.most = z) := ⟨_, Lib.hid rfl⟩
  rw [hno.out] at p3 ho hfull
  rw [hnt.out] at p4 hl hfull hvt
  rw [hM_.out] at p1 hm hfull
  have e1 : decide ((M : Int) ≤ (no : Int) + (nt : Int)) = false := decide_eq_false (by omega)
  have e1' : (no : Int) + (nt : Int) < (M : Int) := by omega
  have e2 : (no : Int) ≤ 5000 ∧ (nt : Int) ≤ 5000 ∧ 0 ≤ (no : Int) ∧ 0 ≤ (nt : Int) := by omega
  have hwr : IntKind.i64.wrap ((no : Int) + (nt : Int)) = (no : Int) + (nt : Int) := by rw [IntKind.wrap_i64]; omega
  have HVT := Lib.hid hvt
  clear hM hf hw hvt hvo hfull ho hl hm hs1
  go_enter Tryd.func24, Tryd.ntmps24
  go_wp2_with fail
  refine HH.out.mono ?_
  rintro e w1 ⟨rfl, rfl⟩
  go_upto_region 5 with fail
  go_quiet (fail)
  generalize hq : w.drewN _ = w1
  have H1 := Lib.hid (show SnM B w1 sp lp g v vo vt L d S by rw [← hq]; exact H.out.below (below_drewN (Below.refl _ _) _))
  have B1 := Lib.hid (show Below B w w1 by rw [← hq]; exact (below_drewN (Below.refl _ _) _))
  clear hq p1 p3 p4 H HH
  go_wp2_with fail
  refine (HPT.out w1).mono ?_
  rintro e w2 ⟨rfl, b2⟩
  have H2 := Lib.hid (H1.out.below b2)
  have B2 := Lib.hid (B1.out.trans (b2.mono H1.out.l.w.d.hB))
  clear b2 HPT H1 B1
  go_wp2_with fail
  refine (HWR.out w2 H2.out).mono ?_
  rintro e w3 ⟨rfl, v3, d3, h3, k3, b3⟩
  have H3 := Lib.hid h3
  have K3 := Lib.hid k3
  have B3 := Lib.hid (B2.out.trans b3)
  clear h3 k3 b3 HWR H2 B2
  have p4 : w3.cell? ⟨sp, 4, none⟩ = some (.slice At nt ct) := by rw [← HVT.out]; exact H3.out.hp.cell 4
  obtain ⟨vt4, w4, hrun, hw4, hk4, ho4⟩ := HPU.out w3 H3.out.t H3.out.l.w.d.hB
  rw [HVT.out] at hrun
  obtain ⟨A4, c4, hv4, _⟩ := win_strs hw4
  obtain ⟨n4, hn4⟩ : ∃ z : Nat, Hid ((S.tags ++ [t]).length = z) := ⟨_, Lib.hid rfl⟩
  rw [hn4.out] at hv4
  rw [hv4] at hrun
  have HR := Lib.hid hrun
  have HV4 := Lib.hid hv4
  have P4 := Lib.hid (H3.out.hp.kp hk4 (fun e => H3.out.ne.2 e))
  have W4 := Lib.hid hw4
  have K4 := Lib.hid hk4
  have O4 := Lib.hid ho4
  have f4 : w4.frozen? ⟨sp, 4, none⟩ = false := P4.out.frozen 4
  have l4 : w4.cell? ⟨sp, 4, none⟩ = some (.slice At nt ct) := by rw [← HVT.out]; exact P4.out.cell 4
  clear hrun hv4 hw4 hk4 ho4 HPU
  go_wp2_with (at_builtin; refine wpList_append_run rfl _ _ _ _ rfl rfl rfl HR.out ?_)
  go_ret
  rw [← HV4.out]
  have hb := P4.out.set_ 4 vt4
  have hcs : (snC lp S vo vt).setIfInBounds 4 vt4 = snC lp ⟨S.most, S.epoch, S.old, S.tags ++ [t]⟩ vo vt4 := rfl
  rw [hcs] at hb
  have k := (K4.out.mono (S' := fun j => j = sp ∨ vt.ownBlock = some j) (fun i _ hi => .inr hi)).trans (Kp.set_ (S := fun j => j = sp ∨ vt.ownBlock = some j) (.inl rfl) 4 vt4)
  have hne4 : ∀ b, vt4.ownBlock = some b → ¬ (b = sp) := fun b hb2 e => by
    obtain ⟨_, cs, hk⟩ := W4.out.typed b hb2
    rw [e] at hk
    exact absurd (P4.out.type hk).1 (by decide)
  have hT := W4.out.kp (Kp.set_ (S := fun j => j = sp) rfl 4 vt4) hne4
  have hO := (H3.out.o.kp K4.out (fun b hb2 e => H3.out.ot b hb2 e)).kp (Kp.set_ (S := fun j => j = sp) rfl 4 vt4) (fun b hb2 e => H3.out.ne.1 (by rw [← e]; exact hb2))
  refine ⟨rfl, ⟨lp, v3, vo, vt4, O, d3, H3.out.turn k hb hO hT H3.out.fo (fun i hi hs => ?_) (fun i hi h2 => ?_), HN.out, K3.out⟩, B3.out.trans (H3.out.kpB k)⟩
  · rcases O4.out i hi with h1 | h1
    · exact H3.out.ft i h1 hs
    · rcases hs with rfl | hs
      · exact absurd H3.out.l.w.m.hp.lt (by omega)
      · exact absurd (H3.out.l.w.m.ho.owned i hs) (by omega)
  · rcases O4.out i h2 with h1 | h1
    · exact H3.out.ot i hi h1
    · exact absurd (H3.out.o.owned i hi) (by omega)
theorem epoch_ok (h : SnOk B w sp g f S) :
    Calls Tryd.prog 26 #[.pointer (some ⟨sp, 0, none⟩)] w fun e w' => e = .returned (.int .i64 (S.epoch : Nat)) ∧ w = w' := by
  obtain ⟨lp, v, vo, vt, L, d, hM, hf, hw⟩ := h
  have p2 : w.cell? ⟨sp, 2, none⟩ = some (.int .i64 (S.epoch : Nat)) := hM.hp.cell 2
  clear hM
  go_enter Tryd.func26, Tryd.ntmps26
  go_wp2_with fail
  go_ret
  exact ⟨rfl, by trivial⟩
set_option maxHeartbeats 1600000 in
theorem tags_ok (h : SnOk B w sp g f S) (ho : S.old.length ≤ 1000) (hl : S.tags.length ≤ 1000) :
    Calls Tryd.prog 27 #[.pointer (some ⟨sp, 0, none⟩)] w fun e w' => (∃ A c, e = .returned (.slice A (S.old.length + S.tags.length) c)) ∧ Below w.heap.size w w' := by
  obtain ⟨lp, v, vo, vt, L, d, hM, hf, hw⟩ := h
  have H := Lib.hid hM
  obtain ⟨At, ct, hvt, _, _⟩ := hM.t.form
  obtain ⟨Ao, co, hvo, _, _⟩ := hM.o.form
  have HO := Lib.hid hM.o
  have HT := Lib.hid hM.t
  rw [hvo] at HO
  rw [hvt] at HT
  rw [cstr_length] at hvt hvo HO HT
  have p3 : w.cell? ⟨sp, 3, none⟩ = some vo := hM.hp.cell 3
  have p4 : w.cell? ⟨sp, 4, none⟩ = some vt := hM.hp.cell 4
  rw [hvo] at p3
  rw [hvt] at p4
  have HSP := Lib.hid hM.hp.lt
  have HCC := Lib.hid (show ∀ W q, Blk W q 22 #[.slice Ao S.old.length co, .slice At S.tags.length ct] → Win 9 W B (.slice Ao S.old.length co) (cstr S.old) → Win 9 W B (.slice At S.tags.length ct) (cstr S.tags) → Calls Tryd.prog 53 #[.slice (some ⟨q, 0, none⟩) 2 2] W fun e w' => ∃ r, e = .returned r ∧ Win 9 w' W.heap.size r (cstr S.old ++ cstr S.tags) ∧ Below W.heap.size W w' from fun W q hq h1 h2 => by
    have := concatS_any B q (cstr S.old) (cstr S.tags) Ao At co ct W (by rw [cstr_length, cstr_length]; exact hq) (by rw [cstr_length]; exact h1) (by rw [cstr_length]; exact h2) (cstr_one1 _) (cstr_one1 _)
    first | exact this | exact this (by rw [cstr_length]; omega) (by rw [cstr_length]; omega))
  have hlen : (cstr S.old ++ cstr S.tags).length = S.old.length + S.tags.length := by rw [List.length_append, cstr_length, cstr_length]
  have HLEN := Lib.hid hlen
  obtain ⟨no, hno⟩ : ∃ z : Nat, Hid (S.old.length = z) := ⟨_, Lib.hid rfl⟩
  obtain ⟨nt, hnt⟩ : ∃ z : Nat, Hid (S.tags.length = z) := ⟨_, Lib.hid rfl⟩
  rw [hno.out] at p3 HO HCC HLEN ⊢
  rw [hnt.out] at p4 HT HCC HLEN ⊢
  clear hM hf hw hvt hvo ho hl hlen
  go_enter Tryd.func27, Tryd.ntmps27
  go_upto_region 1 with fail
  refine still_tail 8 (by kernel_rfl) (by kernel_rfl) ?_
  simp only [List.take_succ_cons, List.take_zero, List.drop_succ_cons, List.drop_zero]
  repeat still_step
  refine wpStill_nil ?_
  have B1 := Lib.hid (show Below w.heap.size w w.drew from below_drewN (Below.refl _ _) 1)
  clear p3 p4
  generalize w.drew = w1 at B1 ⊢
  have O1 := Lib.hid (HO.out.below B1.out)
  have T1 := Lib.hid (HT.out.below B1.out)
  go_wp2_with fail
  have b2 : Below w1.heap.size w1 (w1.alloc (.cells #[.slice Ao no co, .slice At nt ct] 22)) := (Below.refl _ _).alloc (Nat.le_refl _) _
  have HC := Lib.hid (HCC.out _ w1.heap.size (Blk.new w1 22 _) (O1.out.below b2) (T1.out.below b2))
  have B2 := Lib.hid (B1.out.trans (b2.mono B1.out.size))
  clear b2 HCC
  refine HC.out.mono ?_
  rintro e w2 ⟨r, rfl, hr, b3⟩
  have B3 := Lib.hid (B2.out.trans (b3.mono B2.out.size))
  obtain ⟨Ar, cr, hvr, _, _⟩ := hr.form
  rw [HLEN.out] at hvr
  subst hvr
  clear hr b3 HC
  go_wp2_with fail
  go_ret
  exact ⟨⟨Ar, cr, by simp⟩, B3.out⟩
end
end Go.Proofs.YteajpebkanamgaaDoor
namespace Go.Proofs.YteajpebkanamgaaDoor
open Go.RowKit Go.Proofs.YteajpebkanamgaaDoorW.PrintWords Go.Proofs.YteajpebkanamgaaDoorW.PrintLast
set_option linter.unusedSimpArgs false
set_option linter.unusedVariables false
set_option maxRecDepth 20000
attribute [local irreducible] sha
theorem build_sn (lp m : Nat) : Tryd.prog.built 86 [(0, .pointer (some ⟨lp, 0, none⟩)), (1, .int .i64 (m : Nat))] = some #[.pointer (some ⟨lp, 0, none⟩), .int .i64 (m : Nat), .int .i64 0, .slice none 0 0, .slice none 0 0] := by kernel_rfl
set_option maxHeartbeats 1600000 in
theorem sopen_any {B g : Nat} {w : World} {d : Dk} {r : LgOut} (hd : DkAt B w g d) (hk : KsAt w) (hks : 0 < B) (hr : openL d = r) (h0 : r.e = 0) (hG : LgGood r.d r.L) (hl : r.L.l = []) (hw0 : r.d.w = []) (hw : d.w.length < 100000) (most : Nat) (h1 : 1 ≤ most) (h2 : most ≤ 4096) :
    Calls Tryd.prog 20 #[.pointer (some ⟨g, 0, none⟩), .int .i64 (most : Nat)] w fun e w' => ∃ sp, e = .returned (.tuple #[.pointer (some ⟨sp, 0, none⟩), .int .i64 0]) ∧ SnOk B w' sp g (r.L.n - r.L.next) ⟨most, 0, [], []⟩ ∧ Below B w w' := by
  have HO := Lib.hid (ls_openNew hd hk hks hr h0 hG hw)
  have HL := Lib.hid hl
  have HW := Lib.hid hw0
  have HB := Lib.hid hd.hB
  have hbs := build_sn
  have q1 : decide ((most : Int) < 1) = false := decide_eq_false (by omega)
  have q2 : decide (4096 < (most : Int)) = false := decide_eq_false (by omega)
  have q3 : 1 ≤ (most : Int) ∧ (most : Int) ≤ 4096 := by omega
  have q4 : decide (most < 1) = false := decide_eq_false (by omega)
  have q5 : decide (4096 < most) = false := decide_eq_false (by omega)
  obtain ⟨L, hL⟩ : ∃ x, Hid (r.L = x) := ⟨_, Lib.hid rfl⟩
  obtain ⟨d', hd'⟩ : ∃ x, Hid (r.d = x) := ⟨_, Lib.hid rfl⟩
  rw [hL.out, hd'.out] at HO
  rw [hL.out] at HL ⊢
  rw [hd'.out] at HW
  clear hd hk hr h0 hG hl hw0 hw h1 h2
  go_enter Tryd.func20, Tryd.ntmps20
  go_wp2_with fail
  refine HO.out.mono ?_
  rintro e w1 ⟨lp, v1, rfl, h1, s1, f1⟩
  have L1 := Lib.hid h1
  have B1 := Lib.hid f1.b
  clear h1 s1 f1 HO
  have hb1 := hbs lp most
  clear hbs
  go_upto_region 7 with fail
  obtain ⟨sp, hsp⟩ : ∃ b, Hid (w1.heap.size = b) := ⟨_, Lib.hid rfl⟩
  have b2 : Below w1.heap.size w1 (w1.alloc (.cells #[.pointer (some ⟨lp, 0, none⟩), .int .i64 (most : Nat), .int .i64 0, .slice none 0 0, .slice none 0 0] 86)) := (Below.refl _ _).alloc (Nat.le_refl _) _
  refine gen_world (fun W => Hid (Below B w W) ∧ Hid (SnM B W sp lp g v1 (.slice none 0 0) (.slice none 0 0) L d' ⟨most, 0, [], []⟩)) ⟨Lib.hid (B1.out.trans (b2.mono L1.out.w.d.hB)), Lib.hid ⟨by rw [← hsp.out]; exact Blk.new _ _ _, by rw [← hsp.out]; exact L1.out.w.d.hB, L1.out.below b2, Win.nil _ _ _, Win.nil _ _ _, (fun i hi => by cases hi), (fun i hi => by cases hi), (fun i hi => by cases hi)⟩⟩ ?_
  clear b2 L1 B1
  rintro w2 ⟨B2, M2⟩
  rw [hsp.out]
  go_wp2_with fail
  have HRC := Lib.hid (ls_records M2.out.l)
  rw [HL.out] at HRC
  refine HRC.out.mono ?_
  rintro e w3 ⟨A3, c3, rfl, _, b3⟩
  have M3 := Lib.hid (M2.out.below b3)
  have B3 := Lib.hid (B2.out.trans (b3.mono M2.out.l.w.d.hB))
  clear b3 HRC M2 B2
  go_wp2_with fail
  refine wp_loop_rounds 1 ?_
  rw [Go.rounds_succ]
  go_wp2_with fail
  go_ret2
  exact ⟨sp, by rfl, ⟨lp, v1, _, _, L, d', M3.out, by have := M3.out.l.g.is_.fit; omega, HW.out⟩, B3.out⟩
theorem among17_any (x : Int) (n : Nat) (hn : 0 < n) (h2 : n ≤ 1000000) (w : World) :
    Calls Tryd.prog 21 #[.int .i64 x, .int .i64 (n : Nat)] w fun e w' => e = .returned (.int .i64 (amL x n : Nat)) ∧ w = w' := by
  have hb := am_bd x n hn
  have hc := amL_cast x n hn
  obtain ⟨q, hq⟩ : ∃ q : Nat, amL x n = q := ⟨_, rfl⟩
  rw [hq] at hc ⊢
  obtain ⟨N, hN⟩ : ∃ N : Int, N = n := ⟨_, rfl⟩
  rw [← hN] at hb hc ⊢
  obtain ⟨t, ht⟩ : ∃ t, x.tmod N = t := ⟨_, rfl⟩
  rw [ht] at hb hc
  have h0 : 0 < N := by omega
  have h1 : N ≤ 1000000 := by omega
  clear hN hn h2 hq
  go_enter Tryd.func21, Tryd.ntmps21
  go_wp2_with fail
  go_ret
  exact ⟨rfl, by trivial⟩
def sixB : List UInt8 := [115, 105, 120, 116, 101, 101, 110, 32, 98, 121, 116, 101, 115, 32, 33, 33]
def tagL (n : Int) : List UInt8 := UInt8.ofNat (97 + amL n 20) :: sixB.drop 1
theorem tagL_length (n : Int) : (tagL n).length = 16 := rfl
set_option maxHeartbeats 1600000 in
theorem tag17_any (n : Int) (w : World) :
    Calls Tryd.prog 23 #[.int .i64 n] w fun e w' => e = .returned (.string ⟨(tagL n).toArray⟩) ∧ Below w.heap.size w w' := by
  have hlt := amL_lt n 20 (by decide)
  have HAM := Lib.hid (fun W => among17_any n 20 (by decide) (by decide) W)
  obtain ⟨am, ham⟩ : ∃ x, Hid (amL n 20 = x) := ⟨_, Lib.hid rfl⟩
  rw [ham.out] at HAM hlt
  have e1 : 0 ≤ (am : Int) ∧ (am : Int) < 20 := by omega
  have hn8 : (97 + (am : Int)) = n8 (UInt8.ofNat (97 + am)) := by
    show _ = ((UInt8.ofNat (97 + am)).toNat : Int)
    rw [UInt8.toNat_ofNat']; omega
  have hcv : (convert 84 9 (.slice (some ⟨w.heap.size, 0, none⟩) 1 1)).run Tryd.prog ((w.alloc (.cells #[.int .u8 (97 + (am : Int))] 5)).drew) = .ok (.string ⟨#[UInt8.ofNat (97 + am)]⟩) ((w.alloc (.cells #[.int .u8 (97 + (am : Int))] 5)).drew) := by
    rw [hn8]
    exact my_own_string (l := [UInt8.ofNat (97 + am)]) Tryd.underlying84 Tryd.underlying5 Tryd.underlying9 (Own.drew (my_own_lit w 5 [.int .u8 (n8 (UInt8.ofNat (97 + am)))] (B := 0) (Nat.zero_le _) (by simp)))
  have hcat : (⟨#[UInt8.ofNat (97 + am)]⟩ : ByteArray) ++ ⟨#[105, 120, 116, 101, 101, 110, 32, 98, 121, 116, 101, 115, 32, 33, 33]⟩ = ⟨(tagL n).toArray⟩ := by
    unfold tagL; rw [ham.out]; apply ByteArray.ext; simp [sixB]
  have h1z : (⟨#[UInt8.ofNat (97 + am)]⟩ : ByteArray).size = 1 := rfl
  obtain ⟨ob, OB⟩ : ∃ b : ByteArray, Hid (⟨#[UInt8.ofNat (97 + am)]⟩ = b) := ⟨_, Lib.hid rfl⟩
  obtain ⟨pb, PB⟩ : ∃ b : ByteArray, Hid (⟨(tagL n).toArray⟩ = b) := ⟨_, Lib.hid rfl⟩
  rw [OB.out] at hcv hcat h1z
  rw [PB.out] at hcat ⊢
  have hw1 : IntKind.i64.wrap (97 + (am : Int)) = 97 + (am : Int) := by rw [IntKind.wrap_i64]; omega
  have hw2 : IntKind.u8.wrap (97 + (am : Int)) = 97 + (am : Int) := by simp [IntKind.wrap, IntKind.bits, IntKind.signed]; omega
  have hxx : (⟨#[115, 105, 120, 116, 101, 101, 110, 32, 98, 121, 116, 101, 115, 32, 33, 33]⟩ : ByteArray).extract 1 16 = ⟨#[105, 120, 116, 101, 101, 110, 32, 98, 121, 116, 101, 115, 32, 33, 33]⟩ := by decide +kernel
  clear hn8
  go_enter Tryd.func23, Tryd.ntmps23
  go_upto_region 1 with fail
  go_region_with (first | (go_at_call 21; refine (HAM.out _).mono ?_; rintro e w9 ⟨rfl, rfl⟩))
  all_goals go_wp2_with fail
  all_goals go_ret
  all_goals exact ⟨rfl, below_drewN ((Below.refl _ _).alloc (Nat.le_refl _) _) 1⟩
set_option maxHeartbeats 3200000 in
theorem works17_any (w : World) (hk : KsAt w) (hks : 0 < w.heap.size) : Calls Tryd.prog 19 #[] w fun e w' => e = .returned (.bool true) ∧ Below w.heap.size w w' := by
  obtain ⟨d1, a1, a2, a3, a4⟩ := openL_new 40 (by decide) _ rfl
  have P1 := Lib.hid a1
  have P2 := Lib.hid a2
  have P4 := Lib.hid a4
  have HK := Lib.hid hk
  clear a1 a2 a3 a4
  go_enter Tryd.func19, Tryd.ntmps19
  go_wp2_with fail
  refine (new_any 40 (by decide) (by decide) w).mono ?_
  rintro e w1 ⟨g, rfl, D, b⟩
  have D1 := Lib.hid D
  have B1 := Lib.hid b
  clear D b
  go_wp2_with fail
  have HO := Lib.hid (sopen_any D1.out (HK.out.below hks B1.out) hks P1.out rfl P2.out rfl P4.out (by decide) 10 (by decide) (by decide))
  refine HO.out.mono ?_
  rintro e w2 ⟨sp, rfl, h2, b2⟩
  have S2 := Lib.hid (show SnOk w.heap.size w2 sp g 19 ⟨10, 0, [], []⟩ from h2)
  have B2 := Lib.hid (B1.out.trans b2)
  clear h2 b2 HO P1 P2 P4 D1 B1
  go_wp2_with fail
  refine (add_new S2.out sixB (by decide) (by decide) (by decide) (by decide) (by decide) (by decide)).mono ?_
  rintro e w3 ⟨rfl, h3, b3⟩
  have S3 := Lib.hid (show SnOk w.heap.size w3 sp g 18 ⟨10, 0, [], [sixB]⟩ from h3)
  have B3 := Lib.hid (B2.out.trans b3)
  clear h3 b3 S2 B2
  go_wp2_with fail
  refine (add_seen S3.out sixB (by decide) (by decide) (by decide) (by decide)).mono ?_
  rintro e w4 ⟨rfl, rfl⟩
  go_wp2_with fail
  refine (rotate_ok S3.out (by decide)).mono ?_
  rintro e w4 ⟨rfl, h4, b4⟩
  have S4 := Lib.hid (show SnOk w.heap.size w4 sp g 17 ⟨10, 1, [sixB], []⟩ from h4)
  have B4 := Lib.hid (B3.out.trans b4)
  clear h4 b4 S3 B3
  go_wp2_with fail
  have HH := Lib.hid (show Calls Tryd.prog 25 #[.pointer (some ⟨sp, 0, none⟩), .string ⟨sixB.toArray⟩] w4 fun e w' => e = .returned (.bool true) ∧ w4 = w' by
    obtain ⟨lp, v, vo, vt, L, d, hM, hf, hw⟩ := S4.out
    exact has_any hM sixB (by decide) (by decide))
  refine HH.out.mono ?_
  rintro e w5 ⟨rfl, rfl⟩
  clear HH
  go_wp2_with fail
  refine (rotate_ok S4.out (by decide)).mono ?_
  rintro e w5 ⟨rfl, h5, b5⟩
  have S5 := Lib.hid (show SnOk w.heap.size w5 sp g 16 ⟨10, 2, [], []⟩ from h5)
  have B5 := Lib.hid (B4.out.trans b5)
  clear h5 b5 S4 B4
  go_wp2_with fail
  refine (add_new S5.out sixB (by decide) (by decide) (by decide) (by decide) (by decide) (by decide)).mono ?_
  rintro e w6 ⟨rfl, h6, b6⟩
  have S6 := Lib.hid h6
  have B6 := Lib.hid (B5.out.trans b6)
  clear h6 b6 S5 B5
  go_wp2_with fail
  refine (epoch_ok S6.out).mono ?_
  rintro e w7 ⟨rfl, rfl⟩
  go_wp2_with fail
  go_ret
  exact ⟨rfl, B6.out⟩
end Go.Proofs.YteajpebkanamgaaDoor
namespace Go.Proofs.YteajpebkanamgaaDoor
open Go.RowKit Go.Proofs.YteajpebkanamgaaDoorW.PrintWords Go.Proofs.YteajpebkanamgaaDoorW.PrintLast
set_option linter.unusedSimpArgs false
set_option linter.unusedVariables false
set_option maxRecDepth 20000
attribute [local irreducible] sha
end Go.Proofs.YteajpebkanamgaaDoor
namespace Go.Proofs.YteajpebkanamgaaDoor
open Go.RowKit Go.Proofs.YteajpebkanamgaaDoorW.PrintWords Go.Proofs.YteajpebkanamgaaDoorW.PrintLast
set_option linter.unusedSimpArgs false
set_option linter.unusedVariables false
set_option maxRecDepth 20000
attribute [local irreducible] sha
def tagsTo (k : Nat) : List (List UInt8) := (List.range k).map fun i => tagL (i : Nat)
theorem tagsTo_length (k : Nat) : (tagsTo k).length = k := by unfold tagsTo; rw [List.length_map, List.length_range]
theorem tagsTo_succ (k : Nat) : tagsTo (k + 1) = tagsTo k ++ [tagL (k : Nat)] := by unfold tagsTo; rw [List.range_succ, List.map_append]; rfl
theorem tagL_inj (i k : Nat) (hi : i < 20) (hk : k < 20) (h : tagL (i : Nat) = tagL (k : Nat)) : i = k := by
  unfold tagL at h
  rw [amL_small 20 i hi, amL_small 20 k hk] at h
  injection h with h1 _
  have h2 := congrArg UInt8.toNat h1
  rw [UInt8.toNat_ofNat', UInt8.toNat_ofNat'] at h2
  omega
theorem tagsTo_not (k m : Nat) (hk : k < 20) (hm : m ≤ k) : ¬ tagL (k : Nat) ∈ tagsTo m := fun h => by
  unfold tagsTo at h
  obtain ⟨i, hi, he⟩ := List.mem_map.1 h
  have := List.mem_range.1 hi
  have := tagL_inj i k (by omega) hk he
  omega
theorem has_not (m e k j : Nat) (hk : k < 20) (hj : j ≤ k) (o : List (List UInt8)) (ho : o = [] ∨ o = tagsTo j) (t : List (List UInt8)) (ht : t = [] ∨ t = tagsTo j) : (⟨m, e, o, t⟩ : Sn).has (tagL (k : Nat)) = false := by
  rw [← Bool.not_eq_true, Sn.has_old]
  rintro (h | h)
  · rcases ho with rfl | rfl
    · cases h
    · exact tagsTo_not k j hk hj h
  · rcases ht with rfl | rfl
    · cases h
    · exact tagsTo_not k j hk hj h
set_option maxHeartbeats 6400000 in
theorem law_SeenFull (n : Int) (w : World) (hk : KsAt w) (hg : 0 < w.heap.size) :
    Calls Tryd.prog 6 #[.int .i64 n] w fun e w' => e = .returned (.bool true) ∧ Below w.heap.size w w' := by
  obtain ⟨d1, a1, a2, a3, a4⟩ := openL_new 120 (by decide) _ rfl
  have P1 := Lib.hid a1
  have P2 := Lib.hid a2
  have P4 := Lib.hid a4
  have HK := Lib.hid hk
  have HAM := Lib.hid (fun W => among17_any n 12 (by decide) (by decide) W)
  have hlt := amL_lt n 12 (by decide)
  obtain ⟨a, ha⟩ : ∃ x, Hid (amL n 12 = x) := ⟨_, Lib.hid rfl⟩
  rw [ha.out] at HAM hlt
  have e1 : (a : Int) < 12 ∧ 0 ≤ (a : Int) := by omega
  obtain ⟨M, hM⟩ : ∃ x, Hid (1 + a = x) := ⟨_, Lib.hid rfl⟩
  have e2 : 1 + (a : Int) = (M : Int) := by have := hM.out; omega
  have e3 : 1 ≤ M ∧ M ≤ 12 := by have := hM.out; omega
  have e4 : 1 ≤ (M : Int) ∧ (M : Int) ≤ 12 := by omega
  obtain ⟨M2, hM2⟩ : ∃ x, Hid (M + 2 = x) := ⟨_, Lib.hid rfl⟩
  have e5 : (M : Int) + 2 = (M2 : Int) := by have := hM2.out; omega
  clear a1 a2 a3 a4 hk
  go_enter Tryd.func6, Tryd.ntmps6
  go_wp2_with fail
  refine (new_any 120 (by decide) (by decide) w).mono ?_
  rintro e w1 ⟨g, rfl, D, b⟩
  have D1 := Lib.hid D
  have B1 := Lib.hid b
  clear D b
  go_wp2_with fail
  refine (works17_any w1 (HK.out.below hg B1.out) (Nat.lt_of_lt_of_le hg B1.out.size)).mono ?_
  rintro e w2 ⟨rfl, b⟩
  have D2 := Lib.hid (D1.out.below b)
  have B2 := Lib.hid (B1.out.trans (b.mono B1.out.size))
  clear D1 b B1
  go_wp2_with fail
  refine (HAM.out w2).mono ?_
  rintro e w3 ⟨rfl, rfl⟩
  have HO := Lib.hid (sopen_any D2.out (HK.out.below hg B2.out) hg P1.out rfl P2.out rfl P4.out (by decide) M e3.1 (by omega))
  go_wp2_with fail
  refine HO.out.mono ?_
  rintro e w3 ⟨sp, rfl, h3, b3⟩
  have S3 := Lib.hid (show SnOk w.heap.size w3 sp g 59 ⟨M, 0, [], tagsTo 0⟩ from h3)
  have B3 := Lib.hid (B2.out.trans b3)
  clear h3 b3 HO P1 P2 P4 D2 B2
  go_wp2_with fail
  go_loopg [39] (M2 + 1) (fun kq v39 wr => ∃ k j f : Nat, kq = M2 + 1 - k ∧ k ≤ M2 ∧ v39 = .int .i64 (k : Nat) ∧ j = min k M ∧ f + j = 59 ∧ Hid (SnOk w.heap.size wr sp g f ⟨M, 0, [], tagsTo j⟩) ∧ Hid (Below w.heap.size w wr))
  case atStart => exact ⟨0, 0, 59, by omega, by omega, rfl, by omega, rfl, S3, B3⟩
  case round =>
    clear S3 B3
    obtain ⟨k, j, f, rfl, hka, rfl, hj, hf, HS, HB⟩ := hrel
    by_cases hlt2 : k < M2
    · have e6 : (k : Int) < (M2 : Int) := by omega
      have HT := Lib.hid (fun W => tag17_any (k : Int) W)
      have hTl := tagL_length (k : Int)
      have HNO := Lib.hid (has_not M 0 k j (by have := hM2.out; omega) (by omega) [] (.inl rfl) (tagsTo j) (.inr rfl))
      have HSU := Lib.hid (tagsTo_succ k)
      obtain ⟨t, ht⟩ : ∃ x, Hid (tagL (k : Int) = x) := ⟨_, Lib.hid rfl⟩
      rw [ht.out] at HT hTl HSU HNO
      have HTL := Lib.hid hTl
      have HM2 := hM2.out
      clear hlt2 hTl
      by_cases hkM : k < M
      · have e7 : (k : Int) < (M : Int) := by omega
        obtain rfl : j = k := by omega
        obtain ⟨f', rfl⟩ : ∃ f', f = f' + 1 := ⟨f - 1, by omega⟩
        clear hkM hj HM2
        go_wp2_with fail
        refine (HT.out _).mono ?_
        rintro e w5 ⟨rfl, b5⟩
        have S5 := Lib.hid (HS.out.below b5)
        have B5 := Lib.hid (HB.out.trans (b5.mono HB.out.size))
        clear b5 HS HB
        have HA := Lib.hid (add_new S5.out t HTL.out (Nat.zero_le _) (by rw [tagsTo_length]; omega) (show M ≤ 5000 by omega) HNO.out (by show 0 + (tagsTo j).length < M; rw [tagsTo_length]; omega))
        go_wp2_with fail
        refine HA.out.mono ?_
        rintro e w6 ⟨rfl, h6, b6⟩
        have S6 := Lib.hid (show SnOk w.heap.size w6 sp g f' ⟨M, 0, [], tagsTo (j + 1)⟩ by rw [HSU.out]; exact h6)
        have B6 := Lib.hid (B5.out.trans b6)
        clear h6 b6 HA S5 B5
        go_wp2_with fail
        go_roundg (M2 + 1 - (j + 1))
        case measure => omega
        case rel => exact ⟨j + 1, j + 1, f', rfl, by omega, by go_num, by omega, by omega, S6, B6⟩
      · have e7 : decide ((k : Int) < (M : Int)) = false := decide_eq_false (by omega)
        have e8 : (M : Int) ≤ (k : Int) := by omega
        have hjM : j = M := by omega
        have hkM2 : M ≤ k := by omega
        have HJ := Lib.hid hj
        clear hkM hj
        go_wp2_with fail
        refine (HT.out _).mono ?_
        rintro e w5 ⟨rfl, b5⟩
        have S5 := Lib.hid (HS.out.below b5)
        have B5 := Lib.hid (HB.out.trans (b5.mono HB.out.size))
        clear b5 HS HB
        have HA := Lib.hid (add_full S5.out t HTL.out (Nat.zero_le _) (by rw [tagsTo_length]; omega) (show M ≤ 5000 by omega) HNO.out (by show M ≤ 0 + (tagsTo j).length; rw [tagsTo_length]; omega))
        go_wp2_with fail
        refine HA.out.mono ?_
        rintro e w6 ⟨rfl, h6, b6⟩
        have S6 := Lib.hid h6
        have B6 := Lib.hid (B5.out.trans b6)
        clear h6 b6 HA S5 B5
        go_wp2_with fail
        go_roundg (M2 + 1 - (k + 1))
        case measure => omega
        case rel => exact ⟨k + 1, j, f, rfl, by omega, by go_num, by have := HJ.out; omega, hf, S6, B6⟩
    · obtain rfl : k = M2 := by omega
      have HM2 := hM2.out
      obtain rfl : j = M := by omega
      have e6 : decide ((k : Int) < (k : Int)) = false := decide_eq_false (by omega)
      obtain ⟨f3, rfl⟩ : ∃ f3, f = f3 + 1 + 1 + 1 := ⟨f - 3, by omega⟩
      have HT := Lib.hid (fun W => tag17_any (j : Int) W)
      have hTl := tagL_length (j : Int)
      have HN1 := Lib.hid (has_not j 1 j j (by omega) (Nat.le_refl _) (tagsTo j) (.inr rfl) [] (.inl rfl))
      have HN2 := Lib.hid (has_not j 2 j j (by omega) (Nat.le_refl _) [] (.inl rfl) [] (.inl rfl))
      obtain ⟨t, ht⟩ : ∃ x, Hid (tagL (j : Int) = x) := ⟨_, Lib.hid rfl⟩
      rw [ht.out] at HT hTl HN1 HN2
      have HTL := Lib.hid hTl
      clear hlt2 hTl HM2 hj hf
      go_wp2_with fail
      refine (rotate_ok HS.out (Nat.zero_le _)).mono ?_
      rintro e w5 ⟨rfl, h5, b5⟩
      have S5 := Lib.hid (show SnOk w.heap.size w5 sp g (f3 + 1 + 1) ⟨j, 1, tagsTo j, []⟩ from h5)
      have B5 := Lib.hid (HB.out.trans b5)
      clear h5 b5 HS HB
      go_wp2_with fail
      refine (HT.out _).mono ?_
      rintro e w6 ⟨rfl, b6⟩
      have S6 := Lib.hid (S5.out.below b6)
      have B6 := Lib.hid (B5.out.trans (b6.mono B5.out.size))
      clear b6 S5 B5
      have HA := Lib.hid (add_full S6.out t HTL.out (by rw [tagsTo_length]; omega) (Nat.zero_le _) (show j ≤ 5000 by omega) HN1.out (by show j ≤ (tagsTo j).length + 0; rw [tagsTo_length]; omega))
      go_wp2_with fail
      refine HA.out.mono ?_
      rintro e w7 ⟨rfl, h7, b7⟩
      have S7 := Lib.hid h7
      have B7 := Lib.hid (B6.out.trans b7)
      clear h7 b7 HA S6 B6
      go_wp2_with fail
      refine (rotate_ok S7.out (show 1 ≤ 1000 by decide)).mono ?_
      rintro e w8 ⟨rfl, h8, b8⟩
      have S8 := Lib.hid (show SnOk w.heap.size w8 sp g (f3 + 1) ⟨j, 2, [], []⟩ from h8)
      have B8 := Lib.hid (B7.out.trans b8)
      clear h8 b8 S7 B7
      go_wp2_with fail
      refine (HT.out _).mono ?_
      rintro e w9 ⟨rfl, b9⟩
      have S9 := Lib.hid (S8.out.below b9)
      have B9 := Lib.hid (B8.out.trans (b9.mono B8.out.size))
      clear b9 S8 B8
      have HA := Lib.hid (add_new S9.out t HTL.out (Nat.zero_le _) (Nat.zero_le _) (show j ≤ 5000 by omega) HN2.out (show 0 + 0 < j by omega))
      go_wp2_with fail
      refine HA.out.mono ?_
      rintro e w10 ⟨rfl, h10, b10⟩
      have S10 := Lib.hid (show SnOk w.heap.size w10 sp g f3 ⟨j, 2, [], [t]⟩ from h10)
      have B10 := Lib.hid (B9.out.trans b10)
      clear h10 b10 HA S9 B9
      have HTG := Lib.hid (tags_ok S10.out (Nat.zero_le _) (show 1 ≤ 1000 by decide))
      go_wp2_with fail
      refine HTG.out.mono ?_
      rintro e w11 ⟨⟨A6, c6, rfl⟩, b6⟩
      have B11 := Lib.hid (B10.out.trans (b6.mono B10.out.size))
      clear b6 HTG
      go_wp2_with fail
      go_ret
      exact ⟨rfl, B11.out⟩
end Go.Proofs.YteajpebkanamgaaDoor

/- The log: a record is put. The log: a half is begun. The log, plainly: records found in bytes; what a half's bytes are. The log, plainly: what its calls do where the disk is up and no fuse burns. strings.Builder of the call's own: copyCheck, WriteByte walked; String by the library's contract (Derived.Shelf.Strings.Builder1). strings.Builder of the call's own: Len, WriteString walked; a builder behind a call, behind a new block. The log: begin, walked. The log: load, walked. The log: Open, walked. The log: Append, Sync, Room, Generation, Records, walked. The log: Compact, walked. The log, plainly: begin, Open, Append, Compact where the disk is up and no fuse burns. dovecotebook.SameTexts: the same texts? The log's calls where it is calm; the chapter's example (works). Texts that a law holds in a slice of its own, beside a log; a number among n. The law LogCompacts, walked. -/
import Derived.Test.YteajpebkanamgaaDoorZe348a3aa
import Derived.StillTailTactics
import Derived.Test.YteajpebkanamgaaDoorProg
import Derived.Shelf.Strings.Builder1
import Derived.LoopN
import Derived.Deep.QuietTactic
import Derived.BigQuiet
import Derived.Deep.LoopGhost
import Derived.Deep.Cut
import Derived.Outline
namespace Go.Proofs.YteajpebkanamgaaDoor
open Go.RowKit
set_option linter.unusedSimpArgs false
set_option linter.unusedVariables false
set_option maxRecDepth 20000
def chunkL (s : List UInt8) (k : Nat) : List UInt8 := (s.drop (64 * k)).take 64
/-- the chunks of a text are written, one sector behind the other. -/
def putGo (a : Nat) (s : List UInt8) : Nat → Nat → Dk → Int × Dk
  | 0, _, d => (0, d)
  | r + 1, k, d =>
    if (d.write ((a + k : Nat) : Int) (chunkL s k)).1 ≠ 0 then d.write ((a + k : Nat) : Int) (chunkL s k)
    else putGo a s r (k + 1) (d.write ((a + k : Nat) : Int) (chunkL s k)).2
structure LgOut where
  e : Int
  d : Dk
  L : Lg
def putL (d : Dk) (L : Lg) (t : List UInt8) : LgOut :=
  let r := putGo (L.a + L.next) (recL L.mark t) (sectorsN t) 0 d
  if r.1 ≠ 0 then ⟨r.1, r.2, L⟩ else ⟨0, r.2, L.took t (ownL L.mark t) (sectorsN t)⟩
/-- a log and its disk, in memory. -/
structure LgW (B : Nat) (w : World) (p g : Nat) (v : Value) (L : Lg) (d : Dk) : Prop where
  m : LgM B w p g v L
  d : DkAt B w g d
  k : KsAt w
  ks : 0 < B
/-- what a call of the log's leaves. -/
structure LgNext (B p g : Nat) (v : Value) (L' : Lg) (d' : Dk) (w w' : World) : Prop where
  r : ∃ v', LgW B w' p g v' L' d' ∧ ∀ i, v'.ownBlock = some i → v.ownBlock = some i ∨ w.heap.size ≤ i
  f : Fs B (LgS p v) w w'
section
variable {B p g : Nat} {w w' : World} {v : Value} {L : Lg} {d d' : Dk}
theorem DkAt.hB (h : DkAt B w g d) : B ≤ w.heap.size := by obtain ⟨q, vw, hA⟩ := h; exact hA.hB
theorem DkAt.below (h : DkAt B w g d) (hb : Below w.heap.size w w') : DkAt B w' g d := by obtain ⟨q, vw, hA⟩ := h; exact ⟨q, vw, hA.below hb⟩
theorem LgM.below (h : LgM B w p g v L) (hb : Below w.heap.size w w') : LgM B w' p g v L := ⟨h.hp.below hb h.hp.lt, h.ho.below hb, h.b⟩
theorem LgW.below (h : LgW B w p g v L d) (hb : Below w.heap.size w w') : LgW B w' p g v L d :=
  ⟨h.m.below hb, h.d.below hb, h.k.below (Nat.lt_of_lt_of_le h.ks h.d.hB) hb, h.ks⟩
/-- the disk was turned. -/
theorem LgM.fr (h : LgM B w p g v L) (f : Fr B w w') : LgM B w' p g v L := by
  refine ⟨h.hp.fr f (by unfold DkT; decide), ?_, h.b⟩
  rcases h.ho with h1 | ⟨b, off, cap, cur, h1, h2, h3, h4⟩
  · exact .inl h1
  · exact .inr ⟨b, off, cap, cur, h1, h2, h3.fr f (by unfold DkT; decide), h4⟩
theorem LgW.fr (h : LgW B w p g v L d) (f : Fr B w w') (hd : DkAt B w' g d') : LgW B w' p g v L d' := ⟨h.m.fr f, hd, h.k.fr h.ks f, h.ks⟩
theorem owns_kp {S : Nat → Prop} {e : TypeId} {s n : Nat} {xs : List Value} (h : w.ownsRow B e s v n xs) (k : Kp S w w') (hn : ∀ b, v.ownBlock = some b → ¬ S b) : w'.ownsRow B e s v n xs := by
  refine ⟨h.1, ?_⟩
  rcases h.2 with h2 | ⟨q, cap, cur, h1, h2, h3, h4⟩
  · exact .inl h2
  · exact .inr ⟨q, cap, cur, h1, h2, (k.block q (heap_lt h3) (hn q (by rw [h1]; rfl))).trans h3, h4⟩
/-- blocks that are no disk's were turned. -/
theorem DkAt.kp {S : Nat → Prop} (h : DkAt B w g d) (k : Kp S w w') (hS : ∀ i cs t, S i → Blk w i t cs → ¬ DkT t) : DkAt B w' g d := by
  obtain ⟨q, vw, hA⟩ := h
  refine ⟨q, vw, hA.hg.kp k (fun e => hS _ _ _ e hA.hg (.inl rfl)), hA.ha.kp k (fun e => hS _ _ _ e hA.ha (.inr (.inl rfl))), owns_kp hA.hw k (fun b hb e => ?_), hA.bg, hA.ba, hA.ok⟩
  obtain ⟨cs, hk⟩ := owns_typed hA.hw b hb
  exact hS _ _ _ e hk (.inr (.inr rfl))
theorem LgM.notDk (h : LgM B w p g v L) : ∀ i cs t, LgS p v i → Blk w i t cs → ¬ DkT t := fun i cs t hi hk => by
  rcases hi with rfl | hi
  · rw [(hk.type h.hp).1]; unfold DkT; decide
  · obtain ⟨_, cs', hk'⟩ := h.ho.typed i hi
    rw [(hk.type hk').1]; unfold DkT; decide
end
theorem LgW.turned {B p g : Nat} {w w' : World} {v : Value} {L L' : Lg} {d : Dk} (h : LgW B w p g v L d) {e : Ending} (hT : TookOut B p g v L' w w' e) : LgNext B p g v L' d w w' := by
  obtain ⟨v', hm, hv⟩ := hT.m
  refine ⟨⟨v', ⟨hm, h.d.kp hT.k h.m.notDk, (fun i hi => (hT.f.b.cell (p := ⟨0, i, none⟩) h.ks).trans (h.k i hi)), h.ks⟩, fun i hi => ?_⟩, hT.f⟩
  rcases hv with e | e | e
  · exact .inl (e ▸ hi)
  · rw [e] at hi; cases hi; exact .inr (Nat.le_refl _)
  · rw [e] at hi; cases hi; exact .inr (Nat.le_succ _)
set_option maxHeartbeats 3200000 in
theorem put_any {B p g : Nat} {w : World} {v : Value} {L : Lg} {d : Dk} (h : LgW B w p g v L d) (t : List UInt8) (ht : t.length ≤ 2000) (hm : L.mark.length ≤ 1000000) (hl : L.l.length ≤ 1000000) (hn : L.next ≤ 100000) (ha : L.a ≤ 100000) (hw : d.w.length + sectorsN t < 1000000) :
    Calls Tryd.prog 45 #[.pointer (some ⟨p, 0, none⟩), .string ⟨t.toArray⟩] w fun e w' => e = .returned (.int .i64 (putL d L t).e) ∧ LgNext B p g v (putL d L t).L (putL d L t).d w w' := by
  have H := Lib.hid h
  have HB := Lib.hid (show B ≤ w.heap.size from h.d.hB)
  have HRE := Lib.hid (record_any L.mark t w hm (by omega) h.k (Nat.lt_of_lt_of_le h.ks h.d.hB))
  have c4 : w.cell? ⟨p, 4, none⟩ = some (.string ⟨L.mark.toArray⟩) := h.m.hp.cell 4
  have hS : sectorsN t ≤ 32 := by unfold sectorsN; omega
  have hrz : (⟨(recL L.mark t).toArray⟩ : ByteArray).size = sectorsN t * 64 := by show (recL L.mark t).toArray.size = _; rw [List.size_toArray, recL_length]
  have HRL := Lib.hid (recL_length L.mark t)
  obtain ⟨S, hSS⟩ : ∃ S, Hid (sectorsN t = S) := ⟨_, Lib.hid rfl⟩
  obtain ⟨R, hR⟩ : ∃ R, Hid (recL L.mark t = R) := ⟨_, Lib.hid rfl⟩
  rw [hSS.out] at hrz hS hw HRL
  rw [hR.out] at hrz HRE HRL
  obtain ⟨rb, RB⟩ : ∃ t : ByteArray, Hid (⟨R.toArray⟩ = t) := ⟨_, Lib.hid rfl⟩
  obtain ⟨ob, OB⟩ : ∃ t' : ByteArray, Hid (⟨(ownL L.mark t).toArray⟩ = t') := ⟨_, Lib.hid rfl⟩
  rw [RB.out] at hrz HRE
  rw [OB.out] at HRE
  go_enter Tryd.func45, Tryd.ntmps45
  go_wp2_with fail
  refine HRE.out.mono ?_
  rintro e w1 ⟨rfl, b1⟩
  have W1 := Lib.hid (h.below b1)
  have F1 := Lib.hid (Fr.of b1 HB.out)
  clear b1 c4 HRE
  go_wp2_with fail
  go_loopg [7] (S + 1) (fun kq v7 wr => ∃ (k : Nat) (d' : Dk), kq = S + 1 - k ∧ k ≤ S ∧ v7 = .int .i64 ((64 * k : Nat) : Int) ∧ Hid (putGo (L.a + L.next) R S 0 d = putGo (L.a + L.next) R (S - k) k d') ∧ Hid (LgW B wr p g v L d') ∧ Hid (Fr B w wr) ∧ Hid (d'.w.length ≤ d.w.length + k))
  case atStart => exact ⟨0, d, rfl, by omega, rfl, Lib.hid rfl, W1, F1, Lib.hid (by omega)⟩
  case round =>
    clear W1 F1
    obtain ⟨k, d', rfl, hk, rfl, HE, HW, HF, HL⟩ := hrel
    have m0 : wr.cell? ⟨p, 0, none⟩ = some (.pointer (some ⟨g, 0, none⟩)) := HW.out.m.hp.cell 0
    have m1 : wr.cell? ⟨p, 1, none⟩ = some (.int .i64 (L.a : Nat)) := HW.out.m.hp.cell 1
    have m2 : wr.cell? ⟨p, 2, none⟩ = some (.int .i64 (L.n : Nat)) := HW.out.m.hp.cell 2
    have m5 : wr.cell? ⟨p, 5, none⟩ = some (.int .i64 (L.next : Nat)) := HW.out.m.hp.cell 5
    by_cases hlt : k < S
    · have hx : rb.extract (64 * k) (64 * k + 64) = ⟨(chunkL R k).toArray⟩ := by
        rw [← RB.out, extract_mid]; unfold chunkL; congr 3; omega
      have HWR := Lib.hid (show ∀ W, DkAt B W g d' → Calls Tryd.prog 63 #[.agg #[.pointer (some ⟨g, 0, none⟩), .int .i64 (L.a : Nat), .int .i64 (L.n : Nat)], .int .i64 ((L.next + k : Nat) : Int), .string ⟨(chunkL R k).toArray⟩] W fun e w' => e = .returned (.int .i64 (d'.write ((L.a + (L.next + k) : Nat) : Int) (chunkL R k)).1) ∧ DkAt B w' g (d'.write ((L.a + (L.next + k) : Nat) : Int) (chunkL R k)).2 ∧ Fr B W w' from fun W hW => hwrite_any hW L.a L.n (L.next + k) (chunkL R k) (by omega) (by omega) (by have := HL.out; omega))
      have hwl := write_len d' ((L.a + (L.next + k) : Nat) : Int) (chunkL R k)
      obtain ⟨we, hwe⟩ : ∃ r, Hid ((d'.write ((L.a + (L.next + k) : Nat) : Int) (chunkL R k)).1 = r) := ⟨_, Lib.hid rfl⟩
      obtain ⟨wd, hwd⟩ : ∃ r, Hid ((d'.write ((L.a + (L.next + k) : Nat) : Int) (chunkL R k)).2 = r) := ⟨_, Lib.hid rfl⟩
      obtain ⟨cb_, CB⟩ : ∃ t : ByteArray, Hid (⟨(chunkL R k).toArray⟩ = t) := ⟨_, Lib.hid rfl⟩
      rw [hwe.out, hwd.out, CB.out] at HWR
      rw [CB.out] at hx
      rw [hwd.out] at hwl
      have HWL := Lib.hid hwl
      obtain ⟨N, hN⟩ : ∃ N, Hid (L.next = N) := ⟨_, Lib.hid rfl⟩
      rw [hN.out] at m5 HWR
      have hN2 : N ≤ 100000 := by rw [← hN.out]; exact hn
      obtain ⟨P, hP⟩ : ∃ P, Hid (64 * k = P) := ⟨_, Lib.hid rfl⟩
      rw [hP.out] at hx ⊢
      have e1 : (P : Int) < (S : Int) * 64 := by have := hP.out; omega
      have e2 : (P : Int) / 64 = (k : Int) := by have := hP.out; omega
      have e3 : (P : Int) + 64 ≤ (S : Int) * 64 := by have := hP.out; omega
      rw [show ((N + k : Nat) : Int) = (N : Int) + (k : Int) by omega] at HWR
      have e5 : (S : Int) ≤ 32 := by omega
      have e6 : (P : Int) ≤ 2048 := by omega
      have w1 : IntKind.i64.wrap ((P : Int) + 64) = (P : Int) + 64 := by rw [IntKind.wrap_i64]; omega
      have w2 : IntKind.i64.wrap ((N : Int) + (k : Int)) = (N : Int) + (k : Int) := by rw [IntKind.wrap_i64]; omega
      have w3 : IntKind.i64.wrap (k : Int) = (k : Int) := by rw [IntKind.wrap_i64]; omega
      have w4 : (P : Int).tdiv 64 = (k : Int) := by rw [Int.tdiv_eq_ediv_of_nonneg (by omega)]; exact e2
      have w5 : ((P : Int) + 64).toNat = P + 64 := by omega
      have w6 : 0 ≤ (P : Int) + 64 ∧ (P : Int) ≤ (P : Int) + 64 := by omega
      have w7 : (P : Int) + 64 ≤ (rb.size : Int) := by rw [hrz]; omega
      clear hwl
      go_upto_region 5 with fail
      refine still_tail 16 (by kernel_rfl) (by kernel_rfl) ?_
      simp only [List.take_succ_cons, List.take_zero, List.drop_succ_cons, List.drop_zero]
      repeat still_step
      refine wpStill_nil ?_
      clear w1 w2 w3 w4 w5 w6 w7 m0 m1 m2 m5 e2
      go_wp2_with fail
      refine (HWR.out wr.drew (by obtain ⟨q, vw, hA⟩ := HW.out.d; exact ⟨q, vw, hA.drew⟩)).mono ?_
      rintro e w2 ⟨rfl, d2, f2⟩
      have F2 := Lib.hid (show Fr B wr w2 from ⟨⟨f2.b.os, f2.b.tape, f2.b.output, f2.b.size, f2.b.block⟩, f2.f⟩)
      have W2 := Lib.hid (HW.out.fr F2.out d2)
      have F3 := Lib.hid (HF.out.trans F2.out)
      clear d2 f2 F2 HWR
      have HPG := Lib.hid (show putGo (L.a + L.next) R (S - k) k d' = if we ≠ 0 then (we, wd) else putGo (L.a + L.next) R (S - (k + 1)) (k + 1) wd by
        rw [show S - k = (S - (k + 1)) + 1 by omega, putGo, show L.a + L.next + k = L.a + (L.next + k) by omega, hwe.out, hwd.out]
        rw [← hwe.out, ← hwd.out])
      by_cases hw0 : we = 0
      · subst hw0
        go_wp2_with fail
        go_roundg (S + 1 - (k + 1))
        case measure => omega
        case rel => exact ⟨k + 1, wd, rfl, by omega, by have := hP.out; congr 1; omega, Lib.hid (by rw [HE.out, HPG.out, if_neg (by simp)]), W2, F3, Lib.hid (by have := HL.out; have := HWL.out; omega)⟩
      · have HN := Lib.hid (show putL d L t = ⟨we, wd, L⟩ by
          unfold putL
          rw [hR.out, hSS.out, HE.out, HPG.out, if_pos hw0]
          simp only
          rw [if_pos hw0])
        have q3 : (we != 0) = true := by simpa using hw0
        have q4 : (we == 0) = false := by simpa using hw0
        clear hw0
        go_wp2_with fail
        go_ret
        exact ⟨by rw [HN.out]; rfl, by rw [HN.out]; exact ⟨⟨v, W2.out, fun i hi => .inl hi⟩, Fs.of_fr F3.out⟩⟩
    · obtain rfl : k = S := by omega
      have HN := Lib.hid (show putL d L t = ⟨0, d', L.took t (ownL L.mark t) k⟩ by
        unfold putL
        rw [hR.out, hSS.out, HE.out, Nat.sub_self, putGo]
        simp only
        rw [if_neg (by simp)])
      have HT := Lib.hid (show Calls Tryd.prog 70 #[.pointer (some ⟨p, 0, none⟩), .string ⟨t.toArray⟩, .string ob, .int .i64 ((k : Int) * 64)] wr fun e w' => TookOut B p g v (L.took t (ownL L.mark t) k) wr w' e by
        rw [← OB.out, show (k : Int) * 64 = ((k * 64 : Nat) : Int) by omega]
        exact took_any HW.out.m t (ownL L.mark t) k HW.out.d.hB hl (by omega) (by omega))
      have e1 : decide (64 * (k : Int) < (k : Int) * 64) = false := decide_eq_false (by omega)
      clear hlt m0 m1 m2 m5
      go_wp2_with fail
      refine HT.out.mono ?_
      intro e w2 hT
      have HTT := Lib.hid (HW.out.turned hT)
      have HEE := hT.e
      subst HEE
      clear hT HT
      go_wp2_with fail
      go_ret
      refine ⟨by rw [HN.out]; rfl, ?_⟩
      rw [HN.out]
      obtain ⟨v', hv', hi'⟩ := HTT.out.r
      exact ⟨⟨v', hv', fun i hi => (hi' i hi).imp id (fun h => Nat.le_trans HF.out.b.size h)⟩, (Fs.of_fr HF.out).trans HTT.out.f⟩
end Go.Proofs.YteajpebkanamgaaDoor
namespace Go.Proofs.YteajpebkanamgaaDoor
open Go.RowKit
set_option linter.unusedSimpArgs false
set_option linter.unusedVariables false
set_option maxRecDepth 20000
/-- texts are put, one behind the other; the first error ends it. -/
def putsGo : List (List UInt8) → Dk → Lg → LgOut
  | [], d, L => ⟨0, d, L⟩
  | t :: r, d, L => if (putL d L t).e ≠ 0 then putL d L t else putsGo r (putL d L t).d (putL d L t).L
/-- what 'begin' makes of a half. -/
def beginL (a n gen : Nat) (ts : List (List UInt8)) (d : Dk) : LgOut :=
  let c := cleanL a n 0 d
  let L0 : Lg := ⟨a, n, gen, hmark gen, 1, []⟩
  if c.1 ≠ 0 then ⟨c.1, c.2, L0⟩ else
  let r := putsGo ts c.2 L0
  if r.e ≠ 0 then r else
  let s1 := r.d.sync
  if s1.1 ≠ 0 then ⟨s1.1, s1.2, r.L⟩ else
  let h := s1.2.write (a : Nat) (begunL gen)
  if h.1 ≠ 0 then ⟨h.1, h.2, r.L⟩ else
  let s2 := h.2.sync
  if s2.1 ≠ 0 then ⟨s2.1, s2.2, r.L⟩ else ⟨0, s2.2, r.L⟩
/-- texts in a slice that a log's calls leave as they are. -/
structure TsA (w : World) (S : Nat → Prop) (A : Option Addr) (n : Nat) (ts : List (List UInt8)) : Prop where
  len : ts.length = n
  at_ : 0 < n → ∃ (b o : Nat) (cs : Array Value) (t : TypeId) (fz : Nat × Nat), A = some ⟨b, o, none⟩ ∧ w.heap[b]? = some (.cells cs t fz) ∧ ¬ DkT t ∧ ¬ S b ∧ ∀ i, i < n → w.cell? ⟨b, o + i, none⟩ = some (.string ⟨(ts.getD i []).toArray⟩)
theorem cell_of_heap {w w' : World} {b : Nat} (h : w'.heap[b]? = w.heap[b]?) (o : Nat) : w'.cell? ⟨b, o, none⟩ = w.cell? ⟨b, o, none⟩ := by
  unfold World.cell?
  simp only [h]
theorem TsA.fs {B : Nat} {w w' : World} {S : Nat → Prop} {A : Option Addr} {n : Nat} {ts : List (List UInt8)} (h : TsA w S A n ts) (f : Fs B S w w') : TsA w' S A n ts :=
  ⟨h.len, fun hn => by
    obtain ⟨b, o, cs, t, fz, e, hh, ht, hs, hc⟩ := h.at_ hn
    have hb := f.f b cs t fz hh ht hs
    exact ⟨b, o, cs, t, fz, e, hb.trans hh, ht, hs, fun i hi => (cell_of_heap hb _).trans (hc i hi)⟩⟩
theorem putGo_len (a : Nat) (s : List UInt8) : ∀ (r k : Nat) (d : Dk), (putGo a s r k d).2.w.length ≤ d.w.length + r := by
  intro r
  induction r with
  | zero => intro k d; exact Nat.le_refl _
  | succ r ih =>
    intro k d
    have h1 := write_len d ((a + k : Nat) : Int) (chunkL s k)
    have h2 := ih (k + 1) (d.write ((a + k : Nat) : Int) (chunkL s k)).2
    rw [putGo]
    split <;> omega
structure PutB (d : Dk) (L : Lg) (t : List UInt8) (o : LgOut) : Prop where
  a : o.L.a = L.a
  n : o.L.n = L.n
  gen : o.L.gen = L.gen
  next : o.L.next ≤ L.next + sectorsN t
  l : o.L.l.length ≤ L.l.length + 1
  mark : o.L.mark.length ≤ max L.mark.length 16
  w : o.d.w.length ≤ d.w.length + sectorsN t
theorem putL_b (d : Dk) (L : Lg) (t : List UInt8) : PutB d L t (putL d L t) := by
  have h1 := putGo_len (L.a + L.next) (recL L.mark t) (sectorsN t) 0 d
  have ho := ownL_length L.mark t
  unfold putL
  generalize putGo (L.a + L.next) (recL L.mark t) (sectorsN t) 0 d = r at h1
  generalize ownL L.mark t = o at ho
  simp only
  split
  · exact ⟨rfl, rfl, rfl, Nat.le_add_right _ _, Nat.le_succ _, Nat.le_max_left _ _, h1⟩
  · refine ⟨rfl, rfl, rfl, Nat.le_refl _, ?_, ?_, h1⟩
    · show (L.l ++ [t]).length ≤ _
      rw [List.length_append]; exact Nat.le_refl _
    · show o.length ≤ _
      rw [ho]; exact Nat.le_max_right _ _
/-- what 'begin' leaves: a new log, or none. -/
structure BegOut (B g : Nat) (r : LgOut) (w w' : World) (e : Ending) : Prop where
  f : Fr B w w'
  r : (r.e = 0 ∧ ∃ lp v, e = .returned (.tuple #[.pointer (some ⟨lp, 0, none⟩), .int .i64 0]) ∧ LgW B w' lp g v r.L r.d ∧ ∀ i, LgS lp v i → w.heap.size ≤ i) ∨ (r.e ≠ 0 ∧ e = .returned (.tuple #[.pointer none, .int .i64 r.e]) ∧ DkAt B w' g r.d)
theorem Fs.fr {B : Nat} {w0 w w' : World} {S : Nat → Prop} (h : Fs B S w w') (h0 : Fr B w0 w) (hS : ∀ i, S i → w0.heap.size ≤ i) : Fr B w0 w' :=
  ⟨h0.b.trans h.b, fun k cs t fz hk h1 h2 h3 => by
    have e := h0.f k cs t fz hk h1 h2 h3
    refine (h.f k cs t fz (e.trans hk) (fun ht => by rcases ht with e | e | e; exact h1 e; exact h2 e; exact h3 e) (fun hs => ?_)).trans e
    have := hS k hs
    have := heap_lt hk
    omega⟩
theorem TsA.fr {B : Nat} {w w' : World} {S : Nat → Prop} {A : Option Addr} {n : Nat} {ts : List (List UInt8)} (h : TsA w S A n ts) (f : Fr B w w') : TsA w' S A n ts := h.fs (Fs.of_fr f)
theorem Fs.mono {B : Nat} {S S' : Nat → Prop} {w w' : World} (h : Fs B S w w') (hS : ∀ i, S i → S' i) : Fs B S' w w' := ⟨h.b, fun k cs t fz hk ht hn => h.f k cs t fz hk ht (fun e => hn (hS k e))⟩
theorem clnGo_len (a : Nat) : ∀ (l : List Nat) (b : Bool) (d : Dk), (clnGo a l b d).2.2.w.length ≤ d.w.length + l.length := by
  intro l
  induction l with
  | nil => intro b d; exact Nat.le_refl _
  | cons k r ih =>
    intro b d
    have h1 := write_len d ((a + k : Nat) : Int) zs64
    have h2 := ih b d
    have h3 := ih true (d.write ((a + k : Nat) : Int) zs64).2
    rw [clnGo, List.length_cons]
    split
    · exact Nat.le_add_right _ _
    · split
      · omega
      · split <;> (try dsimp only) <;> omega
theorem burn_w (d : Dk) : d.burn.w = d.w := by unfold Dk.burn; split <;> rfl
theorem sync_len (d : Dk) : d.sync.2.w.length ≤ d.w.length := by
  unfold Dk.sync
  split
  · exact Nat.le_refl _
  · split
    · rw [burn_w]; exact Nat.le_refl _
    · exact Nat.zero_le _
theorem cleanL_len (a n k : Nat) (d : Dk) : (cleanL a n k d).2.w.length ≤ d.w.length + n := by
  have h := clnGo_len a (List.range' k (n - k)) false d
  rw [List.length_range'] at h
  unfold cleanL clnEnd
  generalize clnGo a (List.range' k (n - k)) false d = r at h
  have := sync_len r.2.2
  split
  · show r.2.2.w.length ≤ _; omega
  · split
    · omega
    · show r.2.2.w.length ≤ _; omega
/-- what is left of 'begin' behind the texts. -/
def begEnd (a gen : Nat) (d : Dk) (L : Lg) : LgOut :=
  let s1 := d.sync
  if s1.1 ≠ 0 then ⟨s1.1, s1.2, L⟩ else
  let h := s1.2.write (a : Nat) (begunL gen)
  if h.1 ≠ 0 then ⟨h.1, h.2, L⟩ else
  let s2 := h.2.sync
  if s2.1 ≠ 0 then ⟨s2.1, s2.2, L⟩ else ⟨0, s2.2, L⟩
theorem beginL_no (a n gen : Nat) (ts : List (List UInt8)) (d : Dk) {o : LgOut} (hc : (cleanL a n 0 d).1 = 0) (h : putsGo ts (cleanL a n 0 d).2 ⟨a, n, gen, hmark gen, 1, []⟩ = o) (ho : o.e ≠ 0) : beginL a n gen ts d = o := by
  unfold beginL
  simp only [hc, h]
  rw [if_neg (by simp), if_pos ho]
theorem beginL_yes (a n gen : Nat) (ts : List (List UInt8)) (d d' : Dk) (L' : Lg) (hc : (cleanL a n 0 d).1 = 0) (h : putsGo ts (cleanL a n 0 d).2 ⟨a, n, gen, hmark gen, 1, []⟩ = ⟨0, d', L'⟩) : beginL a n gen ts d = begEnd a gen d' L' := by
  unfold beginL begEnd
  simp only [hc, h]
  rw [if_neg (by simp), if_neg (by simp)]
/-- the bounds that 'begin' keeps in its loop. -/
structure BegB (a n gen k : Nat) (cd : Dk) (L' : Lg) (d' : Dk) : Prop where
  a : L'.a = a
  n : L'.n = n
  gen : L'.gen = gen
  next : L'.next ≤ 1 + 32 * k
  l : L'.l.length ≤ k
  mark : L'.mark.length ≤ 16
  w : d'.w.length ≤ cd.w.length + 32 * k
theorem BegB.start (a n gen : Nat) (cd : Dk) (m : List UInt8) (hm : m.length ≤ 16) : BegB a n gen 0 cd ⟨a, n, gen, m, 1, []⟩ cd := ⟨rfl, rfl, rfl, Nat.le_refl _, Nat.le_refl _, hm, Nat.le_refl _⟩
theorem hmark_le (g : Nat) : (hmark g).length ≤ 16 := Nat.le_of_eq (hmark_length g)
theorem BegB.step {a n gen k : Nat} {cd d' : Dk} {L' : Lg} (h : BegB a n gen k cd L' d') (t : List UInt8) (ht : t.length ≤ 2000) : BegB a n gen (k + 1) cd (putL d' L' t).L (putL d' L' t).d := by
  have p := putL_b d' L' t
  have hs : sectorsN t ≤ 32 := by unfold sectorsN; omega
  have h1 := h.next; have h2 := h.l; have h3 := h.mark; have h4 := h.w
  have p1 := p.next; have p2 := p.l; have p3 := p.mark; have p4 := p.w
  exact ⟨p.a.trans h.a, p.n.trans h.n, p.gen.trans h.gen, by omega, by omega, by omega, by omega⟩
theorem lgC_new (g a n gen : Nat) (m : List UInt8) : lgC g (.slice none 0 0) ⟨a, n, gen, m, 1, []⟩ = #[.pointer (some ⟨g, 0, none⟩), .int .i64 (a : Nat), .int .i64 (n : Nat), .int .i64 (gen : Nat), .string ⟨m.toArray⟩, .int .i64 1, .slice none 0 0] := rfl
theorem build_log (g a n gen : Nat) (m : ByteArray) : Tryd.prog.built 72 [(0, .agg #[.pointer (some ⟨g, 0, none⟩), .int .i64 (a : Nat), .int .i64 (n : Nat)]), (1, .int .i64 (gen : Nat)), (2, .string m), (3, .int .i64 1)] = some #[.pointer (some ⟨g, 0, none⟩), .int .i64 (a : Nat), .int .i64 (n : Nat), .int .i64 (gen : Nat), .string m, .int .i64 1, .slice none 0 0] := by kernel_rfl
end Go.Proofs.YteajpebkanamgaaDoor
namespace Go.Proofs.YteajpebkanamgaaDoor
set_option linter.unusedSimpArgs false
set_option linter.unusedVariables false
/-- the bytes of these sectors of a half. -/
def readsGo (a : Nat) : List Nat → List UInt8 → Dk → Int × List UInt8
  | [], acc, _ => (0, acc)
  | k :: r, acc, d => if (d.read ((a + k : Nat) : Int)).2 ≠ 0 then ((d.read ((a + k : Nat) : Int)).2, acc) else readsGo a r (acc ++ (d.read ((a + k : Nat) : Int)).1) d
def lenL (s : List UInt8) : Nat := (bd s 0).toNat * 256 + (bd s 1).toNat
def textL (s : List UInt8) : List UInt8 := (s.drop 18).take (lenL s)
/-- does a record stand here, behind this mark? -/
def recOk (m s : List UInt8) : Bool := decide (18 < s.length) && decide (1 ≤ lenL s) && decide (lenL s ≤ 2000) && decide (lenL s ≤ s.length - 18) && (recL m (textL s)).isPrefixOf s
def recsGo : Nat → List UInt8 → Lg → Lg
  | 0, _, L => L
  | f + 1, s, L => if recOk L.mark s then recsGo f (s.drop (sectorsN (textL s) * 64)) (L.took (textL s) (ownL L.mark (textL s)) (sectorsN (textL s))) else L
/-- what 'load' makes of a log whose head is right. -/
def loadL (d : Dk) (L : Lg) : LgOut :=
  let r := readsGo L.a (List.range' 1 (L.n - 1)) [] d
  if r.1 ≠ 0 then ⟨r.1, d, L⟩ else
  let L' := recsGo r.2.length r.2 L
  let c := cleanL L.a L.n L'.next d
  ⟨c.1, c.2, L'⟩
/-! ### records, one behind the other -/
def recsB : List UInt8 → List (List UInt8) → List UInt8
  | _, [] => []
  | m, t :: r => recL m t ++ recsB (ownL m t) r
def endMark : List UInt8 → List (List UInt8) → List UInt8
  | m, [] => m
  | m, t :: r => endMark (ownL m t) r
def sumSec (ts : List (List UInt8)) : Nat := (ts.map sectorsN).sum
theorem sumSec_cons (t : List UInt8) (r : List (List UInt8)) : sumSec (t :: r) = sectorsN t + sumSec r := by simp [sumSec]
theorem sumSec_append (a b : List (List UInt8)) : sumSec (a ++ b) = sumSec a + sumSec b := by simp [sumSec]
theorem recsB_length (ts : List (List UInt8)) : ∀ m, (recsB m ts).length = 64 * sumSec ts := by
  induction ts with
  | nil => intro m; rfl
  | cons t r ih => intro m; rw [recsB, List.length_append, recL_length, ih, sumSec_cons]; omega
theorem recsB_snoc (t : List UInt8) (ts : List (List UInt8)) : ∀ m, recsB m (ts ++ [t]) = recsB m ts ++ recL (endMark m ts) t := by
  induction ts with
  | nil => intro m; simp [recsB, endMark]
  | cons u r ih => intro m; rw [List.cons_append, recsB, ih, recsB, endMark, List.append_assoc]
theorem endMark_snoc (t : List UInt8) (ts : List (List UInt8)) : ∀ m, endMark m (ts ++ [t]) = ownL (endMark m ts) t := by
  induction ts with
  | nil => intro m; rfl
  | cons u r ih => intro m; rw [List.cons_append, endMark, ih, endMark]
theorem endMark_length (ts : List (List UInt8)) : ∀ m, m.length = 16 → (endMark m ts).length = 16 := by
  induction ts with
  | nil => intro m h; exact h
  | cons t r ih => intro m _; rw [endMark]; exact ih _ (ownL_length m t)
theorem recL_cat (m t r : List UInt8) : recL m t ++ r = UInt8.ofNat (t.length / 256) :: UInt8.ofNat t.length :: (ownL m t ++ (t ++ (List.replicate (pad0 (longL t ++ ownL m t ++ t).length) 0 ++ r))) := by
  unfold recL padL
  generalize pad0 (longL t ++ ownL m t ++ t).length = p
  generalize ownL m t = o
  simp [longL]
theorem lenL_rec (m t r : List UInt8) (ht : t.length ≤ 2000) : lenL (recL m t ++ r) = t.length := by
  rw [recL_cat]
  unfold lenL bd
  simp only [List.getD_cons_zero, List.getD_cons_succ]
  rw [UInt8.toNat_ofNat', UInt8.toNat_ofNat']
  omega
theorem textL_rec (m t r : List UInt8) (ht : t.length ≤ 2000) : textL (recL m t ++ r) = t := by
  unfold textL
  rw [lenL_rec m t r ht, recL_cat, List.drop_succ_cons, List.drop_succ_cons, List.drop_append, ownL_length]
  rw [show (ownL m t).drop 16 = [] from List.drop_eq_nil_of_le (by rw [ownL_length]; exact Nat.le_refl _), List.nil_append]
  simp
theorem recOk_rec (m t r : List UInt8) (ht : t.length ≤ 2000) (h1 : 1 ≤ t.length) : recOk m (recL m t ++ r) = true := by
  unfold recOk
  have hl : (recL m t ++ r).length = sectorsN t * 64 + r.length := by rw [List.length_append, recL_length]
  have hs : 18 + t.length ≤ sectorsN t * 64 := by unfold sectorsN; omega
  rw [lenL_rec m t r ht, textL_rec m t r ht, hl]
  simp only [Bool.and_eq_true, decide_eq_true_eq]
  refine ⟨⟨⟨⟨by omega, h1⟩, ht⟩, by omega⟩, ?_⟩
  rw [List.isPrefixOf_iff_prefix]
  exact ⟨r, rfl⟩
theorem recOk_zeros (m : List UInt8) (z : Nat) : recOk m (List.replicate z 0) = false := by
  have h : lenL (List.replicate z 0) = 0 := by
    have h0 : ∀ i, (List.replicate z (0 : UInt8)).getD i 0 = 0 := fun i => by rw [List.getD_eq_getElem?_getD, List.getElem?_replicate]; split <;> rfl
    unfold lenL bd
    rw [h0, h0]; decide
  unfold recOk
  rw [h]
  simp
theorem took_mark (L : Lg) (t o : List UInt8) (k : Nat) : (L.took t o k).mark = o := rfl
theorem took_end (L : Lg) (t o m : List UInt8) (r : List (List UInt8)) (k j : Nat) : ({ L.took t o k with l := (L.took t o k).l ++ r, mark := m, next := (L.took t o k).next + j } : Lg) = { L with l := L.l ++ t :: r, mark := m, next := L.next + (k + j) } := by simp [Lg.took, Nat.add_assoc]
theorem recsGo_recs (ts : List (List UInt8)) (hts : ∀ t ∈ ts, 1 ≤ t.length ∧ t.length ≤ 2000) : ∀ (f z : Nat) (L : Lg), ts.length ≤ f →
    recsGo f (recsB L.mark ts ++ List.replicate z 0) L = { L with l := L.l ++ ts, mark := endMark L.mark ts, next := L.next + sumSec ts } := by
  induction ts with
  | nil =>
    intro f z L _
    have : recsGo f (recsB L.mark [] ++ List.replicate z 0) L = L := by
      cases f with
      | zero => rfl
      | succ f => rw [recsGo, recsB, List.nil_append, recOk_zeros]; rfl
    rw [this]
    cases L
    simp [endMark, sumSec]
  | cons t r ih =>
    intro f z L hf
    obtain ⟨h1, h2⟩ := hts t (List.mem_cons_self ..)
    obtain ⟨g, rfl⟩ : ∃ g, f = g + 1 := ⟨f - 1, by simp at hf; omega⟩
    rw [recsGo, recsB, List.append_assoc, recOk_rec _ _ _ h2 h1, if_pos rfl, textL_rec _ _ _ h2]
    have hd : List.drop (sectorsN t * 64) (recL L.mark t ++ (recsB (ownL L.mark t) r ++ List.replicate z 0)) = recsB (ownL L.mark t) r ++ List.replicate z 0 := by
      rw [← recL_length L.mark t, List.drop_left]
    rw [hd]
    have := ih (fun u hu => hts u (List.mem_cons_of_mem _ hu)) g z (L.took t (ownL L.mark t) (sectorsN t)) (by simp at hf; omega)
    rw [took_mark] at this
    rw [this, took_end, sumSec_cons, endMark]
/-! ### sectors -/
theorem chunkL_length (s : List UInt8) (k : Nat) (h : 64 * k + 64 ≤ s.length) : (chunkL s k).length = 64 := by unfold chunkL; rw [List.length_take, List.length_drop]; omega
theorem chunkL_append_left (s t : List UInt8) (k : Nat) (h : 64 * k + 64 ≤ s.length) : chunkL (s ++ t) k = chunkL s k := by
  unfold chunkL
  rw [List.drop_append_of_le_length (by omega), List.take_append_of_le_length (by rw [List.length_drop]; omega)]
theorem chunkL_append_right (s t : List UInt8) (n k : Nat) (h : s.length = 64 * n) : chunkL (s ++ t) (n + k) = chunkL t k := by
  unfold chunkL
  rw [List.drop_append, show s.drop (64 * (n + k)) = [] from List.drop_eq_nil_of_le (by omega), List.nil_append, h]
  congr 2; omega
theorem chunkL_zeros (z k : Nat) (h : 64 * k + 64 ≤ z) : chunkL (List.replicate z 0) k = zs64 := by
  unfold chunkL zs64
  rw [List.drop_replicate, List.take_replicate]
  congr 1; omega
/-- the sectors of a half are these bytes. -/
structure Half (d : Dk) (a n : Nat) (s : List UInt8) : Prop where
  len : s.length = 64 * n
  fit : a + n ≤ d.l.length
  at_ : ∀ k, k < n → d.l.getD (a + k) [] = chunkL s k
theorem range_reads (d : Dk) (hc : d.down = false) (a n : Nat) (s : List UInt8) (h : Half d a n s) : ∀ (m k : Nat) (acc : List UInt8), k + m = n →
    readsGo a (List.range' k m) acc d = (0, acc ++ s.drop (64 * k)) := by
  intro m
  induction m with
  | zero =>
    intro k acc hk
    rw [List.range'_zero, readsGo, show s.drop (64 * k) = [] from List.drop_eq_nil_of_le (by rw [h.len]; omega), List.append_nil]
  | succ m ih =>
    intro k acc hk
    have hr : d.read ((a + k : Nat) : Int) = (chunkL s k, 0) := by
      have := h.fit
      unfold Dk.read Dk.there
      rw [if_neg (by rw [hc]; simp; omega)]
      rw [show ((a + k : Nat) : Int).toNat = a + k by omega, h.at_ k (by omega)]
    rw [List.range'_succ, readsGo, hr, if_neg (by simp), ih (k + 1) _ (by omega)]
    congr 1
    simp only [List.append_assoc]
    congr 1
    unfold chunkL
    rw [show 64 * (k + 1) = 64 * k + 64 by omega, ← List.drop_drop, List.take_append_drop]
end Go.Proofs.YteajpebkanamgaaDoor
namespace Go.Proofs.YteajpebkanamgaaDoor
set_option linter.unusedSimpArgs false
set_option linter.unusedVariables false
attribute [local irreducible] sha
def Dk.Calm (d : Dk) : Prop := d.fuse = 0 ∧ d.down = false
/-- what would be there behind a crash that picks nothing. -/
def Dk.base (d : Dk) : List (List UInt8) := undo d.l d.w
section
variable {d d' d'' : Dk}
theorem Dk.Calm.burn (h : d.Calm) : d.burn = d := by unfold Dk.burn; rw [if_neg (by rw [h.1]; decide)]
theorem Dk.Calm.there (h : d.Calm) {i : Nat} (hi : i < d.l.length) : d.there (i : Int) = 0 := by
  unfold Dk.there
  rw [if_neg (by rw [h.2]; decide), if_neg (by omega)]
theorem calm_write (hc : d.Calm) (i : Nat) (hi : i < d.l.length) (s : List UInt8) (hs : s.length = 64) : d.write (i : Int) s = (0, d.put i s) := by
  unfold Dk.write
  rw [if_neg (by rw [hc.there hi]; decide), if_neg (by rw [hs]; decide), hc.burn, if_neg (by rw [hc.2]; decide)]
  simp
theorem calm_sync (hc : d.Calm) : d.sync = (0, { d with w := [] }) := by
  unfold Dk.sync
  rw [hc.burn, if_neg (by rw [hc.2]; decide), if_neg (by rw [hc.2]; decide)]
theorem calm_read (hc : d.Calm) (i : Nat) (hi : i < d.l.length) : d.read (i : Int) = (d.l.getD i [], 0) := by
  unfold Dk.read
  rw [if_neg (by rw [hc.there hi]; decide)]
  simp
theorem set_same (l : List (List UInt8)) (i : Nat) : l.set i (l.getD i []) = l := by
  by_cases h : i < l.length
  · rw [List.getD_eq_getElem?_getD, List.getElem?_eq_getElem h, Option.getD_some, List.set_getElem_self]
  · rw [List.set_eq_of_length_le (by omega)]
theorem base_put (d : Dk) (i : Nat) (s : List UInt8) : (d.put i s).base = d.base := by
  unfold Dk.base Dk.put undo
  simp only [List.foldr_append, List.foldr_cons, List.foldr_nil, List.set_set]
  rw [set_same]
theorem redo_nil (w : List Wt) : ∀ (i : Nat) (l : List (List UInt8)), redo [] i l w = l := by
  induction w with
  | nil => intro i l; rfl
  | cons x r ih =>
    intro i l
    rw [redo, ih]
    unfold tear pickN
    rw [if_neg (by simp)]
    simp only [List.take_zero, List.nil_append, List.drop_zero]
    exact set_same l x.at_
theorem crash_base (d : Dk) : d.crash [] = { l := d.base, w := [], fuse := 0, down := false } := by
  unfold Dk.crash
  rw [redo_nil]
  rfl
theorem base_synced (h : d.w = []) : d.base = d.l := by unfold Dk.base undo; rw [h]; rfl
theorem put_len (d : Dk) (i : Nat) (s : List UInt8) : (d.put i s).l.length = d.l.length := by simp [Dk.put]
theorem put_at (d : Dk) (i : Nat) (s : List UInt8) (hi : i < d.l.length) : (d.put i s).l.getD i [] = s := by
  simp only [Dk.put, List.getD_eq_getElem?_getD]
  rw [List.getElem?_set_self hi]; rfl
theorem put_far (d : Dk) (i j : Nat) (s : List UInt8) (hj : j ≠ i) : (d.put i s).l.getD j [] = d.l.getD j [] := by
  simp only [Dk.put, List.getD_eq_getElem?_getD]
  rw [List.getElem?_set_ne (fun e => hj e.symm)]
theorem put_calm (hc : d.Calm) (i : Nat) (s : List UInt8) : (d.put i s).Calm := hc
theorem put_w (d : Dk) (i : Nat) (s : List UInt8) : (d.put i s).w.length = d.w.length + 1 := by simp [Dk.put]
/-- what was done touched these sectors alone, and nothing that was safe. -/
structure Kept (P : Nat → Prop) (k : Nat) (d d' : Dk) : Prop where
  calm : d'.Calm
  len : d'.l.length = d.l.length
  far : ∀ i, ¬ P i → d'.l.getD i [] = d.l.getD i []
  base : d'.base = d.base
  w : d'.w.length ≤ d.w.length + k
theorem Kept.refl {P : Nat → Prop} (h : d.Calm) : Kept P 0 d d := ⟨h, rfl, fun _ _ => rfl, rfl, Nat.le_refl _⟩
theorem Kept.trans {P : Nat → Prop} {j k : Nat} (h : Kept P j d d') (h' : Kept P k d' d'') : Kept P (j + k) d d'' :=
  ⟨h'.calm, h'.len.trans h.len, fun i hi => (h'.far i hi).trans (h.far i hi), h'.base.trans h.base, by have := h.w; have := h'.w; omega⟩
theorem Kept.mono {P P' : Nat → Prop} {j k : Nat} (h : Kept P j d d') (hP : ∀ i, P i → P' i) (hk : j ≤ k) : Kept P' k d d' :=
  ⟨h.calm, h.len, fun i hi => h.far i (fun hp => hi (hP i hp)), h.base, by have := h.w; omega⟩
theorem Kept.put {P : Nat → Prop} (h : d.Calm) (i : Nat) (s : List UInt8) (hi : P i) : Kept P 1 d (d.put i s) :=
  ⟨h, put_len _ _ _, fun j hj => put_far _ _ _ _ (fun e => hj (e ▸ hi)), base_put _ _ _, by rw [put_w]; exact Nat.le_refl _⟩
theorem putGo_calm (a : Nat) (s : List UInt8) : ∀ (r k : Nat) (d : Dk), d.Calm → a + k + r ≤ d.l.length → 64 * (k + r) ≤ s.length →
    ∃ d', putGo a s r k d = (0, d') ∧ Kept (fun i => a + k ≤ i ∧ i < a + k + r) r d d' ∧ ∀ j, k ≤ j → j < k + r → d'.l.getD (a + j) [] = chunkL s j := by
  intro r
  induction r with
  | zero => intro k d hc _ _; exact ⟨d, rfl, (Kept.refl hc).mono (fun _ h => h) (Nat.le_refl _), fun j h1 h2 => absurd h2 (by omega)⟩
  | succ r ih =>
    intro k d hc hf hs
    have hw := calm_write hc (a + k) (by omega) (chunkL s k) (chunkL_length s k (by omega))
    obtain ⟨d', h1, h2, h3⟩ := ih (k + 1) (d.put (a + k) (chunkL s k)) hc (by rw [put_len]; omega) (by omega)
    refine ⟨d', ?_, ?_, ?_⟩
    · rw [putGo, hw, if_neg (by simp)]; exact h1
    · have := (Kept.put (P := fun i => a + k ≤ i ∧ i < a + k + (r + 1)) hc (a + k) (chunkL s k) ⟨Nat.le_refl _, by omega⟩).trans (h2.mono (P' := fun i => a + k ≤ i ∧ i < a + k + (r + 1)) (fun i hi => ⟨by omega, by omega⟩) (Nat.le_refl _))
      exact this.mono (fun _ h => h) (by omega)
    · intro j hj1 hj2
      by_cases hj : j = k
      · subst hj
        rw [h2.far _ (by omega), put_at _ _ _ (by omega)]
      · exact h3 j (by omega) (by omega)
/-- a log and its half, whose head is these bytes. -/
structure LgIs (hd : List UInt8) (d : Dk) (L : Lg) : Prop where
  calm : d.Calm
  half : Half d L.a L.n (hd ++ (recsB (hmark L.gen) L.l ++ List.replicate (64 * (L.n - L.next)) 0))
  mark : L.mark = endMark (hmark L.gen) L.l
  next : L.next = 1 + sumSec L.l
  fit : L.next ≤ L.n
  hd : hd.length = 64
theorem putL_is {hd : List UInt8} {L : Lg} (h : LgIs hd d L) (t : List UInt8) (ht : L.next + sectorsN t ≤ L.n) :
    ∃ d', putL d L t = ⟨0, d', L.took t (ownL L.mark t) (sectorsN t)⟩ ∧ LgIs hd d' (L.took t (ownL L.mark t) (sectorsN t)) ∧ Kept (fun i => L.a + L.next ≤ i ∧ i < L.a + L.next + sectorsN t) (sectorsN t) d d' := by
  have hl := recL_length L.mark t
  have hfit := h.half.fit
  obtain ⟨d', h1, h2, h3⟩ := putGo_calm (L.a + L.next) (recL L.mark t) (sectorsN t) 0 d h.calm (by omega) (by rw [hl]; omega)
  refine ⟨d', ?_, ⟨h2.calm, ⟨?_, ?_, ?_⟩, ?_, ?_, ht, h.hd⟩, h2.mono (fun i hi => by omega) (Nat.le_refl _)⟩
  · unfold putL
    rw [h1]
    simp
  · show (hd ++ (recsB (hmark L.gen) (L.l ++ [t]) ++ List.replicate (64 * (L.n - (L.next + sectorsN t))) 0)).length = 64 * L.n
    rw [List.length_append, List.length_append, recsB_length, List.length_replicate, sumSec_append, h.hd]
    have := h.next
    simp only [sumSec, List.map_cons, List.map_nil, List.sum_cons, List.sum_nil] at this ⊢
    omega
  · show L.a + L.n ≤ d'.l.length
    rw [h2.len]; exact hfit
  · intro k hk
    show d'.l.getD (L.a + k) [] = chunkL (hd ++ (recsB (hmark L.gen) (L.l ++ [t]) ++ List.replicate (64 * (L.n - (L.next + sectorsN t))) 0)) k
    have hk' : k < L.n := hk
    have hHR : (hd ++ recsB (hmark L.gen) L.l).length = 64 * L.next := by rw [List.length_append, h.hd, recsB_length, h.next]; omega
    have e1 : chunkL (hd ++ (recsB (hmark L.gen) L.l ++ List.replicate (64 * (L.n - L.next)) 0)) k = d.l.getD (L.a + k) [] := (h.half.at_ k hk').symm
    rw [recsB_snoc, ← h.mark]
    rw [show hd ++ (recsB (hmark L.gen) L.l ++ recL L.mark t ++ List.replicate (64 * (L.n - (L.next + sectorsN t))) 0) = (hd ++ recsB (hmark L.gen) L.l) ++ (recL L.mark t ++ List.replicate (64 * (L.n - (L.next + sectorsN t))) 0) by simp]
    rw [← List.append_assoc] at e1
    by_cases hk1 : k < L.next
    · rw [h2.far _ (by omega), ← e1, chunkL_append_left (hd ++ recsB (hmark L.gen) L.l) _ k (by omega), chunkL_append_left (hd ++ recsB (hmark L.gen) L.l) _ k (by omega)]
    · obtain ⟨j, rfl⟩ : ∃ j, k = L.next + j := ⟨k - L.next, by omega⟩
      rw [chunkL_append_right _ _ _ _ hHR]
      by_cases hk2 : j < sectorsN t
      · rw [chunkL_append_left _ _ _ (by rw [hl]; omega), ← Nat.add_assoc, h3 j (by omega) (by omega)]
      · obtain ⟨i, rfl⟩ : ∃ i, j = sectorsN t + i := ⟨j - sectorsN t, by omega⟩
        rw [chunkL_append_right _ _ _ _ (by rw [hl]; omega), chunkL_zeros _ _ (by omega)]
        rw [h2.far _ (by omega), ← e1, chunkL_append_right _ _ _ _ hHR, chunkL_zeros _ _ (by omega)]
  · show ownL L.mark t = endMark (hmark L.gen) (L.l ++ [t])
    rw [endMark_snoc, ← h.mark]
  · show L.next + sectorsN t = 1 + sumSec (L.l ++ [t])
    rw [sumSec_append, h.next]
    simp only [sumSec, List.map_cons, List.map_nil, List.sum_cons, List.sum_nil]
    omega
theorem putsGo_is {hd : List UInt8} (ts : List (List UInt8)) : ∀ (d : Dk) (L : Lg), LgIs hd d L → L.next + sumSec ts ≤ L.n →
    ∃ d', putsGo ts d L = ⟨0, d', { L with l := L.l ++ ts, mark := endMark L.mark ts, next := L.next + sumSec ts }⟩ ∧ LgIs hd d' { L with l := L.l ++ ts, mark := endMark L.mark ts, next := L.next + sumSec ts } ∧ Kept (fun i => L.a + L.next ≤ i ∧ i < L.a + L.n) (sumSec ts) d d' := by
  induction ts with
  | nil =>
    intro d L h _
    refine ⟨d, ?_, ?_, (Kept.refl h.calm).mono (fun _ hf => hf) (Nat.le_refl _)⟩
    · cases L; simp [putsGo, endMark, sumSec]
    · have : ({ L with l := L.l ++ [], mark := endMark L.mark [], next := L.next + sumSec [] } : Lg) = L := by cases L; simp [endMark, sumSec]
      rw [this]; exact h
  | cons t r ih =>
    intro d L h hf
    rw [sumSec_cons] at hf
    obtain ⟨d1, h1, h2, h3⟩ := putL_is h t (by omega)
    obtain ⟨d2, g1, g2, g3⟩ := ih d1 _ h2 (show L.next + sectorsN t + sumSec r ≤ L.n by omega)
    rw [took_mark, took_end] at g1 g2
    rw [sumSec_cons, endMark]
    refine ⟨d2, ?_, g2, ?_⟩
    · rw [putsGo, h1, if_neg (by simp)]; exact g1
    · have k1 := h3.mono (P' := fun i => L.a + L.next ≤ i ∧ i < L.a + L.n) (fun i hi => ⟨hi.1, by omega⟩) (Nat.le_refl _)
      have k2 := g3.mono (P' := fun i => L.a + L.next ≤ i ∧ i < L.a + L.n) (fun i hi => by
        have h1 : L.a + (L.next + sectorsN t) ≤ i := hi.1
        have h2 : i < L.a + L.n := hi.2
        exact ⟨by omega, h2⟩) (Nat.le_refl _)
      exact (k1.trans k2).mono (fun _ h => h) (Nat.le_refl _)
/-- a half is cleaned. -/
theorem clnGo_calm (a : Nat) : ∀ (m k : Nat) (b : Bool) (d : Dk), d.Calm → a + k + m ≤ d.l.length →
    ∃ b' d', clnGo a (List.range' k m) b d = (0, b', d') ∧ Kept (fun i => a + k ≤ i ∧ i < a + k + m) m d d' ∧ (∀ j, k ≤ j → j < k + m → d'.l.getD (a + j) [] = zs64) ∧ ((∀ j, k ≤ j → j < k + m → d.l.getD (a + j) [] = zs64) → b' = b ∧ d' = d) := by
  intro m
  induction m with
  | zero => intro k b d hc _; exact ⟨b, d, rfl, (Kept.refl hc).mono (fun _ h => h) (Nat.le_refl _), fun j h1 h2 => absurd h2 (by omega), fun _ => ⟨rfl, rfl⟩⟩
  | succ m ih =>
    intro k b d hc hf
    have hr := calm_read hc (a + k) (by omega)
    rw [List.range'_succ, clnGo, hr, if_neg (by simp)]
    by_cases hz : d.l.getD (a + k) [] = zs64
    · obtain ⟨b', d', h1, h2, h3, h4⟩ := ih (k + 1) b d hc (by omega)
      refine ⟨b', d', ?_, h2.mono (fun i hi => ⟨by omega, by omega⟩) (by omega), ?_, fun hA => h4 (fun j h1 h2 => hA j (by omega) (by omega))⟩
      · rw [if_pos hz]; exact h1
      · intro j hj1 hj2
        by_cases hj : j = k
        · subst hj; rw [h2.far _ (by omega)]; exact hz
        · exact h3 j (by omega) (by omega)
    · obtain ⟨b', d', h1, h2, h3, h4⟩ := ih (k + 1) true (d.put (a + k) zs64) hc (by rw [put_len]; omega)
      have hw := calm_write hc (a + k) (by omega) zs64 (by decide)
      refine ⟨b', d', ?_, ?_, ?_, fun hA => absurd (hA k (Nat.le_refl _) (by omega)) hz⟩
      · rw [if_neg hz, hw, if_neg (by simp)]; exact h1
      · have := (Kept.put (P := fun i => a + k ≤ i ∧ i < a + k + (m + 1)) hc (a + k) zs64 ⟨Nat.le_refl _, by omega⟩).trans (h2.mono (P' := fun i => a + k ≤ i ∧ i < a + k + (m + 1)) (fun i hi => ⟨by omega, by omega⟩) (Nat.le_refl _))
        exact this.mono (fun _ h => h) (by omega)
      · intro j hj1 hj2
        by_cases hj : j = k
        · subst hj; rw [h2.far _ (by omega), put_at _ _ _ (by omega)]
        · exact h3 j (by omega) (by omega)
theorem cleanL_calm (a n k : Nat) (d : Dk) (hc : d.Calm) (hk : k ≤ n) (hf : a + n ≤ d.l.length) :
    ∃ d', cleanL a n k d = (0, d') ∧ d'.Calm ∧ d'.l.length = d.l.length ∧ (∀ i, ¬ (a + k ≤ i ∧ i < a + n) → d'.l.getD i [] = d.l.getD i []) ∧ (∀ j, k ≤ j → j < n → d'.l.getD (a + j) [] = zs64) ∧ d'.w.length ≤ d.w.length + n ∧ ((∀ j, k ≤ j → j < n → d.l.getD (a + j) [] = zs64) → d' = d) := by
  obtain ⟨b', d', h1, h2, h3, h4⟩ := clnGo_calm a (n - k) k false d hc (by omega)
  unfold cleanL
  rw [h1]
  unfold clnEnd
  rw [if_neg (by simp)]
  have hfar : ∀ i, ¬ (a + k ≤ i ∧ i < a + n) → d'.l.getD i [] = d.l.getD i [] := fun i hi => h2.far i (by omega)
  cases b' with
  | false =>
    refine ⟨d', rfl, h2.calm, h2.len, hfar, fun j hj1 hj2 => h3 j hj1 (by omega), by have := h2.w; omega, fun hA => (h4 (fun j h1 h2 => hA j h1 (by omega))).2⟩
  | true =>
    refine ⟨{ d' with w := [] }, ?_, h2.calm, h2.len, hfar, fun j hj1 hj2 => h3 j hj1 (by omega), by simp, fun hA => ?_⟩
    · rw [if_pos rfl]; exact calm_sync h2.calm
    · have := (h4 (fun j h1 h2 => hA j h1 (by omega))).1
      cases this
end
end Go.Proofs.YteajpebkanamgaaDoor
namespace Go.Proofs.YteajpebkanamgaaDoor
open Go.Shelf Go.RowKit
set_option linter.unusedSimpArgs false
set_option linter.unusedVariables false
def lays169_ren : Go.Shelf.Ren := ⟨fun | 169 => 67 | n => n, fun | 70 => 106 | 9 => 9 | 0 => 0 | 72 => 108 | 37 => 84 | 127 => 129 | 3 => 3 | 5 => 5 | n => n, fun | n => n⟩
theorem lays169 : Go.Proofs.Lays.n169 Tryd.prog lays169_ren := {
  mixed := by kernel_rfl
  f169 := Tryd.func67.trans (congrArg some (by kernel_rfl))
  t0 := Tryd.underlying0
  a0 := Tryd.isAgg0
  z0 := Tryd.sizeOf0
  v0 := Tryd.zeroValue0
  t3 := Tryd.underlying3
  a3 := Tryd.isAgg3
  z3 := Tryd.sizeOf3
  v3 := Tryd.zeroValue3
  t9 := Tryd.underlying9
  a9 := Tryd.isAgg9
  z9 := Tryd.sizeOf9
  v9 := Tryd.zeroValue9
  t37 := Tryd.underlying84
  a37 := Tryd.isAgg84
  z37 := Tryd.sizeOf84
  v37 := Tryd.zeroValue84
  t70 := Tryd.underlying106
  a70 := Tryd.isAgg106
  z70 := Tryd.sizeOf106
  v70 := Tryd.zeroValue106
  t72 := Tryd.underlying108
  a72 := Tryd.isAgg108
  z72 := Tryd.sizeOf108
  v72 := Tryd.zeroValue108
  t127 := Tryd.underlying129
  a127 := Tryd.isAgg129
  z127 := Tryd.sizeOf129
  v127 := Tryd.zeroValue129 }
theorem Builder_Extra_169 : Builder.Extra Tryd.prog lays169_ren := {
  sizeBuilder := by kernel_rfl
  liesBuilder := by kernel_rfl
  t5 := Tryd.underlying5
  a5 := Tryd.isAgg5
  z5 := Tryd.sizeOf5
  v5 := Tryd.zeroValue5
  infoByte := by kernel_rfl
  cellsByte := by kernel_rfl
  sizeByte := by kernel_rfl
  neB5 := by decide }
theorem builder_string (B b : Nat) (l : List UInt8) (w : World) (h : Lib.IsBuilder 108 5 B b (Lib.byteCells l) w) (hBw : B ≤ w.heap.size) :
    Calls Tryd.prog 67 #[.pointer (some ⟨b, 0, none⟩)] w fun e w' => e = .returned (.string ⟨l.toArray⟩) ∧ Below B w w' := Any.Builder_String_any lays169 Builder_Extra_169 B b l w h hBw

set_option maxHeartbeats 1000000 in
set_option maxRecDepth 100000 in
theorem copyCheck_used (b : Nat) (w : World) (h0 : w.cell? ⟨b, 0, none⟩ = some (.pointer (some ⟨b, 0, none⟩))) :
    Calls Tryd.prog 89 #[.pointer (some ⟨b, 0, none⟩)] w fun e w' => e = .returned (.tuple #[]) ∧ w' = w := by
  obtain ⟨j, hj, _⟩ := Option.map_eq_some_iff.1 Builder_Extra_169.sizeBuilder
  go_enter Tryd.func89, Tryd.ntmps89
  go_wp2
  rw [Lib.run_neq_ptr_same w _ Tryd.underlying106 hj]
  go_wp2
  go_end0
  exact ⟨rfl, rfl⟩
set_option maxHeartbeats 1000000 in
set_option maxRecDepth 100000 in
theorem copyCheck_fresh (b : Nat) (w : World) (h0 : w.cell? ⟨b, 0, none⟩ = some (.pointer none)) (hsh : w.shape? b = some (108, 2)) (hfz : w.frozen? ⟨b, 0, none⟩ = false) :
    Calls Tryd.prog 89 #[.pointer (some ⟨b, 0, none⟩)] w fun e w' => e = .returned (.tuple #[]) ∧ w' = w.setCell ⟨b, 0, none⟩ (.pointer (some ⟨b, 0, none⟩)) := by
  obtain ⟨j, hj, hjs⟩ := Option.map_eq_some_iff.1 Builder_Extra_169.sizeBuilder
  go_enter Tryd.func89, Tryd.ntmps89
  go_wp2
  rw [Lib.run_to_unsafe w ⟨b, 0, none⟩ Tryd.underlying106 Tryd.underlying139 hj (by rw [hjs]; decide) hsh (Nat.zero_lt_succ 1)]
  simp only [Result.andThen]
  rw [Oper.upon_value]
  go_wp2
  rw [run_callFunc_extern Tryd.func102 (by kernel_rfl) (by kernel_rfl) (by kernel_rfl) (e := Extern.AbiNoEscape.same) (by kernel_rfl)]
  rw [Lib.run_noEscape]
  simp only [Result.andThen]
  rw [Oper.upon_value]
  go_wp2
  rw [Lib.run_from_unsafe w ⟨b, 0, none⟩ Tryd.underlying139 Tryd.underlying106 hj hsh Builder_Extra_169.liesBuilder]
  simp only [Result.andThen]
  rw [Oper.upon_value]
  go_wp2
  go_end0
  exact ⟨rfl, rfl⟩
theorem copyCheck_any (B b : Nat) (bs : List Value) (w : World) (h : Lib.IsBuilder 108 5 B b bs w) :
    Calls Tryd.prog 89 #[.pointer (some ⟨b, 0, none⟩)] w fun e w' => e = .returned (.tuple #[]) ∧ (Lib.BuilderAt 108 5 B b (.pointer (some ⟨b, 0, none⟩)) bs w' ∧ Below B w w') := by
  rcases h with h | h
  · refine (copyCheck_fresh b w h.cell0 h.shape h.frozen0).mono ?_
    rintro e w' ⟨rfl, rfl⟩
    exact ⟨rfl, h.used _, (Below.refl B w).setCell (p := ⟨b, 0, none⟩) h.1 _⟩
  · refine (copyCheck_used b w h.cell0).mono ?_
    rintro e w' ⟨rfl, rfl⟩
    exact ⟨rfl, h, Below.refl B _⟩
end Go.Proofs.YteajpebkanamgaaDoor
namespace Go.Proofs.YteajpebkanamgaaDoor
open Go.Shelf Go.RowKit
set_option linter.unusedSimpArgs false
set_option linter.unusedVariables false
theorem builder_below {B b : Nat} {bs : List Value} {w w' : World} (h : Lib.IsBuilder 108 5 B b bs w) (hb : Below w.heap.size w w') : Lib.IsBuilder 108 5 B b bs w' := by
  rcases h with h | h
  · obtain ⟨hB, v, hbk, hown, hne⟩ := h
    exact .inl ⟨hB, v, (hb.block b (Lib.BuilderAt.lt ⟨hB, v, hbk, hown, hne⟩)).trans hbk, Own.below hown hb, hne⟩
  · obtain ⟨hB, v, hbk, hown, hne⟩ := h
    exact .inr ⟨hB, v, (hb.block b (Lib.BuilderAt.lt ⟨hB, v, hbk, hown, hne⟩)).trans hbk, Own.below hown hb, hne⟩
set_option maxHeartbeats 2000000 in
set_option maxRecDepth 100000 in
theorem writeString_any (B b : Nat) (bs : List Value) (l : List UInt8) (w : World) (h : Lib.IsBuilder 108 5 B b bs w) (hlen : bs.length + l.length ≤ 140737488355328) (hBw : B ≤ w.heap.size) :
    Calls Tryd.prog 66 #[.pointer (some ⟨b, 0, none⟩), .string ⟨l.toArray⟩] w fun e w' => e = .returned (.tuple #[.int .i64 l.length, .nilIface]) ∧ (Lib.IsBuilder 108 5 B b (bs ++ Lib.byteCells l) w' ∧ Below B w w') := by
  have hsz : (⟨l.toArray⟩ : ByteArray).size = l.length := by simp [ByteArray.size]
  have H := Lib.hid h
  clear h
  go_enter Tryd.func66, Tryd.ntmps66
  go_wp2_with fail
  refine (copyCheck_any B b bs _ H.out).mono ?_
  rintro e w1 ⟨rfl, h1, hb1⟩
  obtain ⟨hB, v, hbk, hown, hne⟩ := h1
  have c0 : w1.cell? ⟨b, 0, none⟩ = some (.pointer (some ⟨b, 0, none⟩)) := by rw [Lib.cell_of_heap hbk]; rfl
  have c1 : w1.cell? ⟨b, 1, none⟩ = some v := by rw [Lib.cell_of_heap hbk]; rfl
  have hes : Elem Tryd.prog 84 5 (.int .u8 0) 1 := ⟨Tryd.underlying84, by kernel_rfl, rfl⟩
  obtain ⟨A, c', w2, hrun, hown', hgrow⟩ := own_append_str (ty := 84) hes Tryd.underlying9 (show Own 5 w1 B v bs from hown) l hlen (Nat.le_trans hBw hb1.size)
  have hlt : b < w1.heap.size := by
    rcases Nat.lt_or_ge b w1.heap.size with h' | h'
    · exact h'
    · simp [Array.getElem?_eq_none h'] at hbk
  have hb2 : w2.heap[b]? = some (.cells #[.pointer (some ⟨b, 0, none⟩), v] 108 (0, 0)) := by
    rw [hgrow.block b hlt (fun e => hne e.symm)]
    exact hbk
  have d0 : w2.cell? ⟨b, 0, none⟩ = some (.pointer (some ⟨b, 0, none⟩)) := by rw [Lib.cell_of_heap hb2]; rfl
  have d1 : w2.cell? ⟨b, 1, none⟩ = some v := by rw [Lib.cell_of_heap hb2]; rfl
  have f1 : w2.frozen? ⟨b, 1, none⟩ = false := Lib.frozen_of_heap hb2 1
  have HR := Lib.hid hrun
  clear hrun
  go_wp2_with (at_builtin; refine wpList_append_run rfl _ _ _ _ rfl rfl rfl HR.out ?_)
  go_ret2
  refine ⟨rfl, ?_, ?_⟩
  · refine .inr (Lib.BuilderAt.put (T := 108) (e := 5) hB hb2 (bs' := bs ++ Lib.byteCells l) ?_ Builder_Extra_169.neB5)
    have h2 := hown'
    unfold Own at h2
    exact h2
  · exact (hb1.grown hgrow (by have := hb1.size; omega) (fun k hk => (hown.lt k hk).1)).setCell (p := ⟨b, 1, none⟩) hB _
end Go.Proofs.YteajpebkanamgaaDoor
namespace Go.Proofs.YteajpebkanamgaaDoor
open Go.RowKit
set_option linter.unusedSimpArgs false
set_option linter.unusedVariables false
set_option maxRecDepth 20000
set_option maxHeartbeats 800000 in
theorem beg1_any {B : Nat} {w : World} {g : Nat} {d : Dk} (h : DkAt B w g d) (hb sg a n : Nat) (s : List UInt8) (hM : Blk w hb 70 #[.pointer (some ⟨g, 0, none⟩), .int .i64 (a : Nat), .int .i64 (n : Nat)]) (hS : Blk w sg 9 #[.string ⟨s.toArray⟩]) (ha : a ≤ 1000000) (hw : d.w.length < 1000000) :
    Calls Tryd.prog 62 #[.pointer (some ⟨hb, 0, none⟩), .pointer (some ⟨sg, 0, none⟩)] w fun e w' => e = .returned (.int .i64 (d.write (a : Nat) s).1) ∧ DkAt B w' g (d.write (a : Nat) s).2 ∧ Fr B w w' := by
  have m0 : w.cell? ⟨hb, 0, none⟩ = some (.pointer (some ⟨g, 0, none⟩)) := hM.cell 0
  have m1 : w.cell? ⟨hb, 1, none⟩ = some (.int .i64 (a : Nat)) := hM.cell 1
  have m2 : w.cell? ⟨hb, 2, none⟩ = some (.int .i64 (n : Nat)) := hM.cell 2
  have s0 : w.cell? ⟨sg, 0, none⟩ = some (.string ⟨s.toArray⟩) := hS.cell 0
  have HW := Lib.hid (hwrite_any h a n 0 s ha (by decide) hw)
  rw [Nat.add_zero] at HW
  unfold hv at HW
  go_enter Tryd.func62, Tryd.ntmps62
  go_wp2_with fail
  refine HW.out.mono ?_
  rintro e w1 ⟨rfl, d1, f1⟩
  have D1 := Lib.hid d1
  have F1 := Lib.hid f1
  clear d1 f1 m0 m1 m2 s0 HW
  go_wp2_with fail
  go_ret
  exact ⟨rfl, D1.out, F1.out⟩
set_option maxHeartbeats 3200000 in
theorem lbegin_any {B : Nat} {w : World} {g : Nat} {d : Dk} (h : DkAt B w g d) (a n gen : Nat) (A : Option Addr) (nT c : Nat) (ts : List (List UInt8)) (hT : TsA w (fun i => w.heap.size ≤ i) A nT ts) (hk : KsAt w) (hks : 0 < B)
    (ha : a ≤ 100000) (hn : n ≤ 100000) (hg : gen ≤ 4294967296) (hl : ∀ t ∈ ts, t.length ≤ 2000) (hnT : nT ≤ 3000) (hw : d.w.length + n + 100000 < 1000000) :
    Calls Tryd.prog 40 #[hv g a n, .int .i64 (gen : Nat), .slice A nT c] w fun e w' => BegOut B g (beginL a n gen ts d) w w' e := by
  have HD := Lib.hid h
  have HB := Lib.hid h.hB
  have HT := Lib.hid hT
  have HK := Lib.hid hk
  have hbl := fun m => build_log g a n gen m
  unfold hv
  clear h hT hk
  go_enter Tryd.func40, Tryd.ntmps40
  go_wp2_with fail
  have A1 := Lib.hid (show Below w.heap.size w (w.alloc (.cells #[.pointer (some ⟨g, 0, none⟩), .int .i64 (a : Nat), .int .i64 (n : Nat)] 70)) from (Below.refl _ _).alloc (Nat.le_refl _) _)
  obtain ⟨hb, hhb⟩ : ∃ b, Hid (w.heap.size = b) := ⟨_, Lib.hid rfl⟩
  have M1 := Lib.hid (show Blk (w.alloc (.cells #[.pointer (some ⟨g, 0, none⟩), .int .i64 (a : Nat), .int .i64 (n : Nat)] 70)) hb 70 #[.pointer (some ⟨g, 0, none⟩), .int .i64 (a : Nat), .int .i64 (n : Nat)] by rw [← hhb.out]; exact Blk.new _ _ _)
  have HCL := Lib.hid (clean_any (HD.out.below A1.out) a n 0 (by omega) hn (by omega) (by omega))
  unfold hv at HCL
  have F1 := Lib.hid (Fr.of A1.out HB.out)
  rw [hhb.out]
  obtain ⟨ce, hce⟩ : ∃ r, Hid ((cleanL a n 0 d).1 = r) := ⟨_, Lib.hid rfl⟩
  obtain ⟨cd, hcd⟩ : ∃ r, Hid ((cleanL a n 0 d).2 = r) := ⟨_, Lib.hid rfl⟩
  rw [hce.out, hcd.out] at HCL
  refine HCL.out.mono ?_
  rintro e w2 ⟨rfl, d2, f2⟩
  have D2 := Lib.hid d2
  have F2 := Lib.hid (F1.out.trans f2)
  have M2 := Lib.hid (M1.out.fr f2 (by unfold DkT; decide))
  clear d2 f2 HCL F1 M1
  by_cases hc0 : ce = 0
  · subst hc0
    have HBG := Lib.hid (begun_any gen w2 hg (HK.out.fr hks F2.out) (Nat.lt_of_lt_of_le hks D2.out.hB))
    have m0 : w2.cell? ⟨hb, 0, none⟩ = some (.pointer (some ⟨g, 0, none⟩)) := M2.out.cell 0
    obtain ⟨gb, GB⟩ : ∃ t : ByteArray, Hid (⟨(begunL gen).toArray⟩ = t) := ⟨_, Lib.hid rfl⟩
    obtain ⟨mb, MB⟩ : ∃ t : ByteArray, Hid (⟨(hmark gen).toArray⟩ = t) := ⟨_, Lib.hid rfl⟩
    rw [GB.out, MB.out] at HBG
    clear m0
    go_wp2_with fail
    refine HBG.out.mono ?_
    rintro e w3 ⟨rfl, b3⟩
    have D3 := Lib.hid (D2.out.below b3)
    have F3 := Lib.hid (F2.out.below b3 D2.out.hB)
    have M3 := Lib.hid (M2.out.below b3 M2.out.lt)
    clear b3 D2 F2 M2 HBG
    go_upto_region 5 with fail
    have A4 := Lib.hid (show Below w3.heap.size w3 (w3.alloc (.cells #[.string gb] 9)) from (Below.refl _ _).alloc (Nat.le_refl _) _)
    obtain ⟨sg, hsg⟩ : ∃ b, Hid (w3.heap.size = b) := ⟨_, Lib.hid rfl⟩
    refine gen_world (fun W => Hid (DkAt B W g cd) ∧ Hid (Fr B w W) ∧ Hid (Blk W hb 70 #[.pointer (some ⟨g, 0, none⟩), .int .i64 (a : Nat), .int .i64 (n : Nat)]) ∧ Hid (Blk W sg 9 #[.string gb])) ⟨Lib.hid (D3.out.below A4.out), Lib.hid (F3.out.below A4.out D3.out.hB), Lib.hid (M3.out.below A4.out M3.out.lt), Lib.hid (by rw [← hsg.out]; exact Blk.new _ _ _)⟩ ?_
    clear A4 D3 F3 M3
    rintro w4 ⟨D4, F4, M4, S4⟩
    rw [hsg.out]
    have m0 : w4.cell? ⟨hb, 0, none⟩ = some (.pointer (some ⟨g, 0, none⟩)) := M4.out.cell 0
    have m1 : w4.cell? ⟨hb, 1, none⟩ = some (.int .i64 (a : Nat)) := M4.out.cell 1
    have m2 : w4.cell? ⟨hb, 2, none⟩ = some (.int .i64 (n : Nat)) := M4.out.cell 2
    have hbm := hbl mb
    go_upto_region 6 with fail
    obtain ⟨lp, hlp⟩ : ∃ b, Hid (w4.heap.size = b) := ⟨_, Lib.hid rfl⟩
    have HSG := Lib.hid (show hb < lp ∧ sg < lp by rw [← hlp.out]; exact ⟨M4.out.lt, S4.out.lt⟩)
    have A5 := Lib.hid (show Below w4.heap.size w4 (w4.alloc (.cells #[.pointer (some ⟨g, 0, none⟩), .int .i64 (a : Nat), .int .i64 (n : Nat), .int .i64 (gen : Nat), .string mb, .int .i64 1, .slice none 0 0] 72)) from (Below.refl _ _).alloc (Nat.le_refl _) _)
    have LP := Lib.hid (show w.heap.size ≤ lp by rw [← hlp.out]; exact F4.out.b.size)
    rw [hlp.out]
    have HMH := Lib.hid (hmark_le gen)
    have HLM : LgW B (w4.alloc (.cells #[.pointer (some ⟨g, 0, none⟩), .int .i64 (a : Nat), .int .i64 (n : Nat), .int .i64 (gen : Nat), .string mb, .int .i64 1, .slice none 0 0] 72)) lp g (.slice none 0 0) ⟨a, n, gen, hmark gen, 1, []⟩ cd := by
      refine ⟨⟨?_, Win.nil _ _ _, Nat.le_trans HB.out LP.out⟩, D4.out.below A5.out, (HK.out.fr hks (F4.out.below A5.out D4.out.hB)), hks⟩
      rw [lgC_new, MB.out, ← hlp.out]
      exact Blk.new _ _ _
    have HL := Lib.hid HLM
    have F5 := Lib.hid (F4.out.below A5.out D4.out.hB)
    have M5 := Lib.hid (M4.out.below A5.out M4.out.lt)
    have S5 := Lib.hid (S4.out.below A5.out S4.out.lt)
    have T5 := Lib.hid (HT.out.fr F5.out)
    clear HLM A5 D4 F4 M4 S4 m0 m1 m2 hbm
    have WS := Lib.hid (show ∀ i, LgS lp (.slice none 0 0) i → lp ≤ i from fun i hi => by
      rcases hi with rfl | hi
      · exact Nat.le_refl _
      · cases hi)
    have HCW := Lib.hid (show cd.w.length ≤ d.w.length + n by have := cleanL_len a n 0 d; rw [hcd.out] at this; exact this)
    go_wp2_with fail
    go_loopg [35] (nT + 1) (fun kq v35 wr => ∃ (k : Nat) (d' : Dk) (L' : Lg) (v' : Value), kq = nT + 1 - k ∧ k ≤ nT ∧ v35 = .int .i64 (k : Nat) ∧ Hid (putsGo ts cd ⟨a, n, gen, hmark gen, 1, []⟩ = putsGo (ts.drop k) d' L') ∧ Hid (LgW B wr lp g v' L' d') ∧ Hid (∀ i, LgS lp v' i → lp ≤ i) ∧ Hid (Fr B w wr) ∧ Hid (Blk wr hb 70 #[.pointer (some ⟨g, 0, none⟩), .int .i64 (a : Nat), .int .i64 (n : Nat)]) ∧ Hid (Blk wr sg 9 #[.string gb]) ∧ Hid (TsA wr (fun i => w.heap.size ≤ i) A nT ts) ∧ Hid (BegB a n gen k cd L' d') ∧ Hid (lp < wr.heap.size))
    case atStart => exact ⟨0, cd, ⟨a, n, gen, hmark gen, 1, []⟩, .slice none 0 0, by omega, by omega, rfl, Lib.hid rfl, HL, WS, F5, M5, S5, T5, Lib.hid (BegB.start a n gen cd _ HMH.out), Lib.hid HL.out.m.hp.lt⟩
    case round =>
      clear HL WS F5 M5 S5 T5
      obtain ⟨k, d', L', v', rfl, hk, rfl, HE, HW, HWS, HF, HM, HS, HTS, HBB, HLP⟩ := hrel
      by_cases hlt : k < nT
      · obtain ⟨tb, to_, tcs, tt, tfz, hA, hh, htt, hss, hc⟩ := HTS.out.at_ (by omega)
        have hc1 := hc k hlt
        have hDR : ts.drop k = ts.getD k [] :: ts.drop (k + 1) := by
          have hk' : k < ts.length := by rw [HTS.out.len]; exact hlt
          rw [List.drop_eq_getElem_cons hk', List.getD_eq_getElem?_getD, List.getElem?_eq_getElem hk']; rfl
        have hT1 : (ts.getD k []).length ≤ 2000 := by
          have hk' : k < ts.length := by rw [HTS.out.len]; exact hlt
          rw [List.getD_eq_getElem?_getD, List.getElem?_eq_getElem hk']
          exact hl _ (List.getElem_mem hk')
        subst hA
        have e1 : (k : Int) < (nT : Int) := by omega
        obtain ⟨t, ht⟩ : ∃ t, Hid (ts.getD k [] = t) := ⟨_, Lib.hid rfl⟩
        rw [ht.out] at hc1 hDR hT1
        have HDR := Lib.hid hDR
        have HT1 := Lib.hid hT1
        have hS : sectorsN t ≤ 32 := by unfold sectorsN; omega
        have HPU := Lib.hid (put_any HW.out t hT1 (by have := HBB.out.mark; omega) (by have := HBB.out.l; omega) (by have := HBB.out.next; omega) (by have := HBB.out.a; omega) (by have := HBB.out.w; have := HCW.out; omega))
        have HBN := Lib.hid (HBB.out.step t hT1)
        obtain ⟨o, ho⟩ : ∃ o, Hid (putL d' L' t = o) := ⟨_, Lib.hid rfl⟩
        have HPG := Lib.hid (show putsGo (ts.drop k) d' L' = if o.e ≠ 0 then o else putsGo (ts.drop (k + 1)) o.d o.L by rw [HDR.out, putsGo, ho.out])
        rw [ho.out] at HPU HBN
        obtain ⟨oe, hoe⟩ : ∃ r, Hid (o.e = r) := ⟨_, Lib.hid rfl⟩
        rw [hoe.out] at HPU HPG
        clear hh htt hss hc hDR hT1 hlt hS
        go_wp2_with fail
        refine HPU.out.mono ?_
        rintro e w5 ⟨rfl, hn⟩
        have F6 := Lib.hid (hn.f.fr HF.out (fun i hi => Nat.le_trans LP.out (HWS.out i hi)))
        have M6 := Lib.hid (HM.out.fs hn.f (by unfold DkT; decide) (fun hi => by have := HWS.out _ hi; have := HSG.out.1; omega))
        have S6 := Lib.hid (HS.out.fs hn.f (by unfold DkT; decide) (fun hi => by have := HWS.out _ hi; have := HSG.out.2; omega))
        have T6 := Lib.hid (HTS.out.fs (hn.f.mono (fun i hi => Nat.le_trans LP.out (HWS.out i hi))))
        have LP6 := Lib.hid (Nat.lt_of_lt_of_le HLP.out hn.f.b.size)
        obtain ⟨v6, hv6, hi6⟩ := hn.r
        have W6 := Lib.hid hv6
        have WS6 := Lib.hid (show ∀ i, LgS lp v6 i → lp ≤ i from fun i hi => by
          rcases hi with rfl | hi
          · exact Nat.le_refl _
          · rcases hi6 i hi with hi | hi
            · exact HWS.out i (.inr hi)
            · have := HLP.out; omega)
        clear hn hv6 hi6 hc1 HPU
        by_cases hw0 : oe = 0
        · subst hw0
          go_wp2_with fail
          go_roundg (nT + 1 - (k + 1))
          case measure => omega
          case rel => exact ⟨k + 1, o.d, o.L, v6, rfl, by omega, by go_num, Lib.hid (by rw [HE.out, HPG.out, if_neg (by simp)]), W6, WS6, F6, M6, S6, T6, HBN, LP6⟩
        · have HN := Lib.hid (show beginL a n gen ts d = o from beginL_no a n gen ts d hce.out (by rw [hcd.out, HE.out, HPG.out, if_pos hw0]) (by rw [hoe.out]; exact hw0))
          have q3 : (oe != 0) = true := by simpa using hw0
          have q4 : (oe == 0) = false := by simpa using hw0
          have HW0 := Lib.hid hw0
          clear hw0
          go_wp2_with fail
          go_ret2
          rw [HN.out]
          exact ⟨F6.out, .inr ⟨by rw [hoe.out]; exact HW0.out, by rw [hoe.out]; rfl, W6.out.d⟩⟩
      · obtain rfl : k = nT := by omega
        have HBE := Lib.hid (show beginL a n gen ts d = begEnd a gen d' L' from beginL_yes a n gen ts d d' L' hce.out (by
          rw [hcd.out, HE.out, List.drop_eq_nil_of_le (Nat.le_of_eq HTS.out.len), putsGo]))
        have e1 : decide ((k : Int) < (k : Int)) = false := decide_eq_false (by omega)
        have HDW := Lib.hid (show d'.w.length + 1 < 1000000 by have := HBB.out.w; have := HCW.out; omega)
        have hmf : ∀ (fn : Fn) (first cap : Array Value) (w : World), (Instr.makeFunc fn first cap).run Tryd.prog w = .ok (.func fn first cap) w := fun _ _ _ _ => rfl
        have m0 : wr.cell? ⟨hb, 0, none⟩ = some (.pointer (some ⟨g, 0, none⟩)) := HM.out.cell 0
        have m1 : wr.cell? ⟨hb, 1, none⟩ = some (.int .i64 (a : Nat)) := HM.out.cell 1
        have m2 : wr.cell? ⟨hb, 2, none⟩ = some (.int .i64 (n : Nat)) := HM.out.cell 2
        clear hlt HE HBB HTS HT HMH
        go_wp2_with fail
        obtain ⟨fb, hfb⟩ : ∃ b, Hid (wr.heap.size = b) := ⟨_, Lib.hid rfl⟩
        have A7 := Lib.hid (show Below wr.heap.size wr (wr.alloc (.cells #[.func (.func 59) #[.pointer (some ⟨g, 0, none⟩)] #[], .func (.func 62) #[] #[.pointer (some ⟨hb, 0, none⟩), .pointer (some ⟨sg, 0, none⟩)], .func (.func 59) #[.pointer (some ⟨g, 0, none⟩)] #[]] 44)) from (Below.refl _ _).alloc (Nat.le_refl _) _)
        refine gen_world (fun W => Hid (LgW B W lp g v' L' d') ∧ Hid (Fr B w W) ∧ Hid (Blk W hb 70 #[.pointer (some ⟨g, 0, none⟩), .int .i64 (a : Nat), .int .i64 (n : Nat)]) ∧ Hid (Blk W sg 9 #[.string gb]) ∧ Hid (Blk W fb 44 #[.func (.func 59) #[.pointer (some ⟨g, 0, none⟩)] #[], .func (.func 62) #[] #[.pointer (some ⟨hb, 0, none⟩), .pointer (some ⟨sg, 0, none⟩)], .func (.func 59) #[.pointer (some ⟨g, 0, none⟩)] #[]])) ⟨Lib.hid (HW.out.below A7.out), Lib.hid (HF.out.below A7.out HW.out.d.hB), Lib.hid (HM.out.below A7.out HM.out.lt), Lib.hid (HS.out.below A7.out HS.out.lt), Lib.hid (by rw [← hfb.out]; exact Blk.new _ _ _)⟩ ?_
        clear A7 HW HF HM HS m0 m1 m2
        rintro w7 ⟨W7, F7, M7, S7, N7⟩
        rw [hfb.out]
        have n0 : w7.cell? ⟨fb, 0, none⟩ = some (.func (.func 59) #[.pointer (some ⟨g, 0, none⟩)] #[]) := N7.out.cell 0
        refine wp_loop_rounds 4 ?_
        rw [Go.rounds_succ]
        go_wp2_with fail
        have HSY := Lib.hid (sync_len d')
        obtain ⟨e1_, he1⟩ : ∃ r, Hid (d'.sync.1 = r) := ⟨_, Lib.hid rfl⟩
        obtain ⟨d1_, hd1⟩ : ∃ r, Hid (d'.sync.2 = r) := ⟨_, Lib.hid rfl⟩
        have HY := Lib.hid (show ∀ W, DkAt B W g d' → Calls Tryd.prog 59 #[.pointer (some ⟨g, 0, none⟩)] W fun e w' => e = .returned (.int .i64 e1_) ∧ DkAt B w' g d1_ ∧ Fr B W w' from fun W hW => by
          obtain ⟨q, vw, hA⟩ := hW
          have := sync_any hA
          rw [he1.out, hd1.out] at this
          exact this)
        rw [hd1.out] at HSY
        refine (HY.out _ W7.out.d).mono ?_
        rintro e w8 ⟨rfl, d8, f8⟩
        have W8 := Lib.hid (W7.out.fr f8 d8)
        have F8 := Lib.hid (F7.out.trans f8)
        have M8 := Lib.hid (M7.out.fr f8 (by unfold DkT; decide))
        have S8 := Lib.hid (S7.out.fr f8 (by unfold DkT; decide))
        have N8 := Lib.hid (N7.out.fr f8 (by unfold DkT; decide))
        clear d8 f8 W7 F7 M7 S7 N7 n0 HY
        by_cases hz1 : e1_ = 0
        · subst hz1
          have n1 : w8.cell? ⟨fb, 1, none⟩ = some (.func (.func 62) #[] #[.pointer (some ⟨hb, 0, none⟩), .pointer (some ⟨sg, 0, none⟩)]) := N8.out.cell 1
          go_wp2_with fail
          rw [Go.rounds_succ]
          go_wp2_with fail
          have HWL := Lib.hid (write_len d1_ (a : Nat) (begunL gen))
          obtain ⟨e2_, he2⟩ : ∃ r, Hid ((d1_.write (a : Nat) (begunL gen)).1 = r) := ⟨_, Lib.hid rfl⟩
          obtain ⟨d2_, hd2⟩ : ∃ r, Hid ((d1_.write (a : Nat) (begunL gen)).2 = r) := ⟨_, Lib.hid rfl⟩
          have HB1 := Lib.hid (show Calls Tryd.prog 62 #[.pointer (some ⟨hb, 0, none⟩), .pointer (some ⟨sg, 0, none⟩)] w8 fun e w' => e = .returned (.int .i64 e2_) ∧ DkAt B w' g d2_ ∧ Fr B w8 w' by
            have := beg1_any W8.out.d hb sg a n (begunL gen) M8.out (by rw [GB.out]; exact S8.out) (by omega) (by have := HSY.out; have := HDW.out; omega)
            rw [he2.out, hd2.out] at this
            exact this)
          refine HB1.out.mono ?_
          rintro e w9 ⟨rfl, d9, f9⟩
          have W9 := Lib.hid (W8.out.fr f9 d9)
          have F9 := Lib.hid (F8.out.trans f9)
          have N9 := Lib.hid (N8.out.fr f9 (by unfold DkT; decide))
          clear d9 f9 W8 F8 M8 S8 N8 n1 HB1
          by_cases hz2 : e2_ = 0
          · subst hz2
            have n2 : w9.cell? ⟨fb, 2, none⟩ = some (.func (.func 59) #[.pointer (some ⟨g, 0, none⟩)] #[]) := N9.out.cell 2
            go_wp2_with fail
            rw [Go.rounds_succ]
            go_wp2_with fail
            obtain ⟨e3_, he3⟩ : ∃ r, Hid (d2_.sync.1 = r) := ⟨_, Lib.hid rfl⟩
            obtain ⟨d3_, hd3⟩ : ∃ r, Hid (d2_.sync.2 = r) := ⟨_, Lib.hid rfl⟩
            have HY := Lib.hid (show ∀ W, DkAt B W g d2_ → Calls Tryd.prog 59 #[.pointer (some ⟨g, 0, none⟩)] W fun e w' => e = .returned (.int .i64 e3_) ∧ DkAt B w' g d3_ ∧ Fr B W w' from fun W hW => by
              obtain ⟨q, vw, hA⟩ := hW
              have := sync_any hA
              rw [he3.out, hd3.out] at this
              exact this)
            refine (HY.out _ W9.out.d).mono ?_
            rintro e w10 ⟨rfl, d10, f10⟩
            have W10 := Lib.hid (W9.out.fr f10 d10)
            have F10 := Lib.hid (F9.out.trans f10)
            clear d10 f10 W9 F9 N9 n2 HY
            by_cases hz3 : e3_ = 0
            · have HN := Lib.hid (show beginL a n gen ts d = ⟨0, d3_, L'⟩ by rw [HBE.out]; unfold begEnd; simp only [he1.out, hd1.out, he2.out, hd2.out, he3.out, hd3.out]; rw [if_neg (by simp), if_neg (by simp), if_neg (by simp [hz3])])
              subst hz3
              go_wp2_with fail
              rw [Go.rounds_succ]
              go_wp2_with fail
              go_ret2
              rw [HN.out]
              exact ⟨F10.out, .inl ⟨by rfl, lp, v', by rfl, W10.out, fun i hi => Nat.le_trans LP.out (HWS.out i hi)⟩⟩
            · have HN := Lib.hid (show beginL a n gen ts d = ⟨e3_, d3_, L'⟩ by rw [HBE.out]; unfold begEnd; simp only [he1.out, hd1.out, he2.out, hd2.out, he3.out, hd3.out]; rw [if_neg (by simp), if_neg (by simp), if_pos hz3])
              have q3 : (e3_ != 0) = true := by simpa using hz3
              have q4 : (e3_ == 0) = false := by simpa using hz3
              have HZ3 := Lib.hid hz3
              clear hz3
              go_wp2_with fail
              go_ret2
              rw [HN.out]
              exact ⟨F10.out, .inr ⟨HZ3.out, by rfl, W10.out.d⟩⟩
          · have HN := Lib.hid (show beginL a n gen ts d = ⟨e2_, d2_, L'⟩ by rw [HBE.out]; unfold begEnd; simp only [he1.out, hd1.out, he2.out, hd2.out]; rw [if_neg (by simp), if_pos hz2])
            have q3 : (e2_ != 0) = true := by simpa using hz2
            have q4 : (e2_ == 0) = false := by simpa using hz2
            have HZ2 := Lib.hid hz2
            clear hz2
            go_wp2_with fail
            go_ret2
            rw [HN.out]
            exact ⟨F9.out, .inr ⟨HZ2.out, by rfl, W9.out.d⟩⟩
        · have HN := Lib.hid (show beginL a n gen ts d = ⟨e1_, d1_, L'⟩ by rw [HBE.out]; unfold begEnd; simp only [he1.out, hd1.out]; rw [if_pos hz1])
          have q3 : (e1_ != 0) = true := by simpa using hz1
          have q4 : (e1_ == 0) = false := by simpa using hz1
          have HZ1 := Lib.hid hz1
          clear hz1
          go_wp2_with fail
          go_ret2
          rw [HN.out]
          exact ⟨F8.out, .inr ⟨HZ1.out, by rfl, W8.out.d⟩⟩
  · have HR := Lib.hid (show beginL a n gen ts d = ⟨ce, cd, ⟨a, n, gen, hmark gen, 1, []⟩⟩ by
      unfold beginL
      simp only [hce.out, hcd.out]
      rw [if_pos hc0])
    have q3 : (ce != 0) = true := by simpa using hc0
    have q4 : (ce == 0) = false := by simpa using hc0
    have HC0 := Lib.hid hc0
    clear hc0
    go_wp2_with fail
    go_ret2
    rw [HR.out]
    exact ⟨F2.out, .inr ⟨HC0.out, by rfl, D2.out⟩⟩
end Go.Proofs.YteajpebkanamgaaDoor
namespace Go.Proofs.YteajpebkanamgaaDoor
open Go.RowKit
set_option linter.unusedSimpArgs false
set_option linter.unusedVariables false
set_option maxRecDepth 20000
/-- a call's step: the log's list may have moved, all else but its blocks and the disk's is as it was. -/
structure LgStep (B p g : Nat) (v v' : Value) (L' : Lg) (d' : Dk) (w w' : World) : Prop where
  lw : LgW B w' p g v' L' d'
  o : ∀ i, v'.ownBlock = some i → v.ownBlock = some i ∨ w.heap.size ≤ i
  f : Fs B (LgS p v) w w'
section
variable {B p g : Nat} {w w' w'' : World} {v v' : Value} {L L' L'' : Lg} {d d' d'' : Dk}
theorem LgStep.refl (h : LgW B w p g v L d) : LgStep B p g v v L d w w := ⟨h, fun _ hi => .inl hi, Fs.refl _ _ _⟩
theorem LgStep.next (h : LgStep B p g v v' L' d' w w') : LgNext B p g v L' d' w w' := ⟨⟨v', h.lw, h.o⟩, h.f⟩
theorem LgNext.step (h : LgNext B p g v L' d' w w') : ∃ v', LgStep B p g v v' L' d' w w' := by
  obtain ⟨⟨v', h1, h2⟩, h3⟩ := h
  exact ⟨v', h1, h2, h3⟩
theorem LgStep.far {i : Nat} (h : LgStep B p g v v' L' d' w w') (hi : i < w.heap.size) (hn : ¬ LgS p v i) : ¬ LgS p v' i := fun hs => by
  rcases hs with rfl | hs
  · exact hn (.inl rfl)
  · rcases h.o i hs with h1 | h1
    · exact hn (.inr h1)
    · omega
theorem LgStep.trans {v'' : Value} (h : LgStep B p g v v' L' d' w w') (k : LgStep B p g v' v'' L'' d'' w' w'') : LgStep B p g v v'' L'' d'' w w'' :=
  ⟨k.lw, fun i hi => by
      rcases k.o i hi with h1 | h1
      · exact h.o i h1
      · exact .inr (Nat.le_trans h.f.b.size h1),
    ⟨h.f.b.trans k.f.b, fun j cs t fz hj ht hs => by
      have e := h.f.f j cs t fz hj ht hs
      exact (k.f.f j cs t fz (e.trans hj) ht (h.far (heap_lt hj) hs)).trans e⟩⟩
theorem LgStep.below (h : LgStep B p g v v' L' d' w w') (hb : Below w'.heap.size w' w'') : LgStep B p g v v' L' d' w w'' :=
  ⟨h.lw.below hb, h.o, h.f.trans (Fs.of_below hb h.lw.d.hB)⟩
theorem LgStep.fr (h : LgStep B p g v v' L' d' w w') (f : Fr B w' w'') (hd : DkAt B w'' g d'') : LgStep B p g v v' L' d'' w w'' :=
  ⟨h.lw.fr f hd, h.o, h.f.trans (Fs.of_fr f)⟩
theorem below_step (hb : Below w.heap.size w w') (h : LgW B w p g v L d) : LgStep B p g v v L d w w' := (LgStep.refl h).below hb
end
theorem recsGo_no (f : Nat) (s : List UInt8) (L : Lg) (h : recOk L.mark s = false) : recsGo f s L = L := by
  cases f with
  | zero => rfl
  | succ f => rw [recsGo, h]; rfl
theorem recsGo_yes (f : Nat) (s : List UInt8) (L : Lg) (h : recOk L.mark s = true) (hf : s.length ≤ f) : ∃ f', (s.drop (sectorsN (textL s) * 64)).length ≤ f' ∧ recsGo f s L = recsGo f' (s.drop (sectorsN (textL s) * 64)) (L.took (textL s) (ownL L.mark (textL s)) (sectorsN (textL s))) := by
  have h18 : 18 < s.length := by
    unfold recOk at h
    simp only [Bool.and_eq_true, decide_eq_true_eq] at h
    exact h.1.1.1.1
  obtain ⟨f', rfl⟩ : ∃ f', f = f' + 1 := ⟨f - 1, by omega⟩
  refine ⟨f', ?_, by rw [recsGo, if_pos h]⟩
  have : 1 ≤ sectorsN (textL s) := by unfold sectorsN; omega
  rw [List.length_drop]
  omega
theorem recOk_of (m s : List UInt8) (h1 : 18 < s.length) (h2 : 1 ≤ lenL s) (h3 : lenL s ≤ 2000) (h4 : lenL s ≤ s.length - 18) : recOk m s = (recL m (textL s)).isPrefixOf s := by
  unfold recOk
  rw [decide_eq_true h1, decide_eq_true h2, decide_eq_true h3, decide_eq_true h4]
  simp
theorem recOk_short (m s : List UInt8) (h : ¬ (18 < s.length ∧ 1 ≤ lenL s ∧ lenL s ≤ 2000 ∧ lenL s ≤ s.length - 18)) : recOk m s = false := by
  unfold recOk
  by_cases h1 : 18 < s.length
  · by_cases h2 : 1 ≤ lenL s
    · by_cases h3 : lenL s ≤ 2000
      · have h4 : ¬ lenL s ≤ s.length - 18 := fun h4 => h ⟨h1, h2, h3, h4⟩
        rw [decide_eq_false h4]; simp
      · rw [decide_eq_false h3]; simp
    · rw [decide_eq_false h2]; simp
  · rw [decide_eq_false h1]; simp
theorem loadL_err (d : Dk) (L : Lg) (e : Int) (acc : List UInt8) (h : readsGo L.a (List.range' 1 (L.n - 1)) [] d = (e, acc)) (he : e ≠ 0) : loadL d L = ⟨e, d, L⟩ := by
  unfold loadL
  simp only [h]
  rw [if_pos he]
theorem loadL_ok (d : Dk) (L L' : Lg) (s : List UInt8) (h : readsGo L.a (List.range' 1 (L.n - 1)) [] d = (0, s)) (hL : recsGo s.length s L = L') : loadL d L = ⟨(cleanL L.a L.n L'.next d).1, (cleanL L.a L.n L'.next d).2, L'⟩ := by
  unfold loadL
  simp only [h, hL]
  rw [if_neg (by simp)]
theorem read_le (d : Dk) (h : d.Ok) (i : Int) : (d.read i).1.length ≤ 64 := by
  unfold Dk.read
  split
  · exact Nat.zero_le _
  · show (d.l.getD i.toNat []).length ≤ 64
    by_cases hi : i.toNat < d.l.length
    · rw [List.getD_eq_getElem?_getD, List.getElem?_eq_getElem hi]
      exact Nat.le_of_eq (h.l _ (List.getElem_mem hi))
    · rw [List.getD_eq_getElem?_getD, List.getElem?_eq_none (by omega)]
      exact Nat.zero_le _
theorem DkAt.ok {B g : Nat} {w : World} {d : Dk} (h : DkAt B w g d) : d.Ok := by obtain ⟨q, vw, hA⟩ := h; exact hA.ok
theorem prefix_any (s p : List UInt8) (W : World) : Calls Tryd.prog 69 #[.string ⟨s.toArray⟩, .string ⟨p.toArray⟩] W fun e w' => e = .returned (.bool (p.isPrefixOf s)) ∧ W = w' := by
  refine (Tryd.strings_HasPrefix ⟨s.toArray⟩ ⟨p.toArray⟩ W).mono ?_
  rintro e w' ⟨h1, h2⟩
  exact ⟨h1, h2.symm⟩
/-- the bounds that 'load' keeps in its loop. -/
structure LdB (L : Lg) (s : List UInt8) (L' : Lg) : Prop where
  a : L'.a = L.a
  n : L'.n = L.n
  next : L'.next * 64 + s.length ≤ 64 * (L.next + L.n + 1)
  l : L'.l.length * 64 + s.length ≤ 64 * (L.l.length + L.n + 1)
  mark : L'.mark.length ≤ 1000000
set_option maxHeartbeats 3200000 in
theorem load_any {B p g : Nat} {w : World} {v : Value} {L : Lg} {d : Dk} (h : LgW B w p g v L d) (ha : L.a ≤ 10000) (hn : L.n ≤ 10000) (hm : L.mark.length ≤ 1000000) (hl : L.l.length ≤ 10000) (hx : L.next ≤ 10000) (hw : d.w.length + L.n < 1000000) :
    Calls Tryd.prog 42 #[.pointer (some ⟨p, 0, none⟩)] w fun e w' => e = .returned (.int .i64 (loadL d L).e) ∧ LgNext B p g v (loadL d L).L (loadL d L).d w w' := by
  have H := Lib.hid h
  have m1 : w.cell? ⟨p, 1, none⟩ = some (.int .i64 (L.a : Nat)) := h.m.hp.cell 1
  have hn2 : (L.n : Int) ≤ 10000 := by omega
  clear h m1
  go_enter Tryd.func42, Tryd.ntmps42
  go_wp2_with fail
  obtain ⟨bb, hbb⟩ : ∃ b, Hid (w.heap.size = b) := ⟨_, Lib.hid rfl⟩
  refine gen_world (fun W => Hid (Lib.IsBuilder 108 5 w.heap.size bb (Lib.byteCells []) W) ∧ Hid (Below w.heap.size w W)) ⟨Lib.hid (by rw [← hbb.out]; exact Lib.fresh_isBuilder _ _ _), Lib.hid ((Below.refl _ _).alloc (Nat.le_refl _) _)⟩ ?_
  rintro w1 ⟨K1, A1⟩
  rw [hbb.out]
  go_loopg [4] (L.n + 2) (fun kq v4 wr => ∃ (k : Nat) (acc : List UInt8), kq = L.n + 3 - k ∧ 1 ≤ k ∧ (k ≤ L.n ∨ k = 1) ∧ v4 = .int .i64 (k : Nat) ∧ Hid (readsGo L.a (List.range' 1 (L.n - 1)) [] d = readsGo L.a (List.range' k (L.n - k)) acc d) ∧ Hid (Lib.IsBuilder 108 5 w.heap.size bb (Lib.byteCells acc) wr) ∧ Hid (Below w.heap.size w wr) ∧ Hid (acc.length ≤ 64 * k))
  case atStart => exact ⟨1, [], by omega, by omega, .inr rfl, rfl, Lib.hid rfl, K1, A1, Lib.hid (Nat.zero_le _)⟩
  case round =>
    clear K1 A1
    obtain ⟨k, acc, rfl, hk1, hk2, rfl, HE, HK, HA, HC⟩ := hrel
    have HW := Lib.hid (H.out.below HA.out)
    have m0 : wr.cell? ⟨p, 0, none⟩ = some (.pointer (some ⟨g, 0, none⟩)) := HW.out.m.hp.cell 0
    have m1 : wr.cell? ⟨p, 1, none⟩ = some (.int .i64 (L.a : Nat)) := HW.out.m.hp.cell 1
    have m2 : wr.cell? ⟨p, 2, none⟩ = some (.int .i64 (L.n : Nat)) := HW.out.m.hp.cell 2
    by_cases hlt : k < L.n
    · have HRC := Lib.hid (range_cons k L.n hlt)
      have e1 : (k : Int) < (L.n : Int) := by omega
      have HRD := Lib.hid (hread_any HW.out.d L.a L.n k (by omega) (by omega))
      unfold hv at HRD
      have HRL := Lib.hid (read_le d HW.out.d.ok ((L.a + k : Nat) : Int))
      obtain ⟨rs, hrs⟩ : ∃ r, Hid ((d.read ((L.a + k : Nat) : Int)).1 = r) := ⟨_, Lib.hid rfl⟩
      obtain ⟨re, hre⟩ : ∃ r, Hid ((d.read ((L.a + k : Nat) : Int)).2 = r) := ⟨_, Lib.hid rfl⟩
      rw [hrs.out, hre.out] at HRD
      rw [hrs.out] at HRL
      clear hlt
      go_wp2_with fail
      refine HRD.out.mono ?_
      rintro e w2 ⟨rfl, b2⟩
      have A2 := Lib.hid (HA.out.trans (b2.mono HA.out.size))
      have K2 := Lib.hid (builder_below HK.out b2)
      clear b2 m0 m1 m2 HRD
      by_cases h0 : re = 0
      · have HN := Lib.hid (show readsGo L.a (List.range' 1 (L.n - 1)) [] d = readsGo L.a (List.range' (k + 1) (L.n - (k + 1))) (acc ++ rs) d by
          rw [HE.out, HRC.out, readsGo, hre.out, if_neg (by omega), hrs.out])
        subst h0
        go_wp2_with fail
        refine (writeString_any _ _ _ rs _ K2.out (by have := HC.out; have := HRL.out; simp only [Lib.byteCells, List.length_map]; omega) A2.out.size).mono ?_
        rintro e w3 ⟨rfl, k3, b3⟩
        have A3 := Lib.hid (A2.out.trans b3)
        have K3 := Lib.hid (show Lib.IsBuilder 108 5 w.heap.size bb (Lib.byteCells (acc ++ rs)) w3 by
          rw [show Lib.byteCells (acc ++ rs) = Lib.byteCells acc ++ Lib.byteCells rs by simp [Lib.byteCells]]; exact k3)
        clear k3 b3
        go_wp2_with fail
        go_roundg (L.n + 3 - (k + 1))
        case measure => omega
        case rel => exact ⟨k + 1, acc ++ rs, rfl, by omega, by omega, by go_num, HN, K3, A3, Lib.hid (by have := HC.out; have := HRL.out; rw [List.length_append]; omega)⟩
      · have HN := Lib.hid (loadL_err d L re acc (by rw [HE.out, HRC.out, readsGo, hre.out, if_pos h0]) h0)
        have q3 : (re != 0) = true := by simpa using h0
        have q4 : (re == 0) = false := by simpa using h0
        clear h0
        go_wp2_with fail
        go_ret
        rw [HN.out]
        exact ⟨rfl, (below_step A2.out H.out).next⟩
    · have hr0 : List.range' k (L.n - k) = [] := by rw [show L.n - k = 0 by omega]; rfl
      have e1 : decide ((k : Int) < (L.n : Int)) = false := decide_eq_false (by omega)
      have e2 : decide (k < L.n) = false := decide_eq_false hlt
      have HRS := Lib.hid (show readsGo L.a (List.range' 1 (L.n - 1)) [] d = (0, acc) by rw [HE.out, hr0, readsGo])
      clear hlt hr0
      go_wp2_with fail
      refine (builder_string _ _ acc _ HK.out HA.out.size).mono ?_
      rintro e w3 ⟨rfl, b3⟩
      have W3 := Lib.hid (below_step (HA.out.trans b3) H.out)
      have HAL := Lib.hid (show acc.length ≤ 64 * (L.n + 1) by have := HC.out; omega)
      clear b3 m0 m1 m2 HK HA HW
      go_wp2_with fail
      go_loopg [7] acc.length (fun kq v7 wr => ∃ (f : Nat) (s : List UInt8) (L' : Lg) (v' : Value), kq = s.length ∧ v7 = .string ⟨s.toArray⟩ ∧ Hid (s.length ≤ f) ∧ Hid (recsGo acc.length acc L = recsGo f s L') ∧ Hid (LgStep B p g v v' L' d w wr) ∧ Hid (LdB L s L'))
      case atStart => exact ⟨acc.length, acc, L, v, rfl, rfl, Lib.hid (Nat.le_refl _), Lib.hid rfl, W3, Lib.hid ⟨rfl, rfl, by have := HAL.out; omega, by have := HAL.out; omega, hm⟩⟩
      case round =>
        clear W3
        obtain ⟨f, s, L', v', rfl, rfl, HFU, HE, HW, HB⟩ := hrel
        have hsz : (⟨s.toArray⟩ : ByteArray).size = s.length := by simp [ByteArray.size]
        by_cases h18 : 18 < s.length
        · have g0 : ∀ h, (⟨s.toArray⟩ : ByteArray)[0]'h = bd s 0 := fun h => by
            show s.toArray[0] = _
            rw [List.getElem_toArray]
            unfold bd
            rw [List.getD_eq_getElem?_getD, List.getElem?_eq_getElem (by omega)]; rfl
          have g1 : ∀ h, (⟨s.toArray⟩ : ByteArray)[1]'h = bd s 1 := fun h => by
            show s.toArray[1] = _
            rw [List.getElem_toArray]
            unfold bd
            rw [List.getD_eq_getElem?_getD, List.getElem?_eq_getElem (by omega)]; rfl
          have hor : bits .or .i64 (((bd s 0).toNat : Int) * 256) ((bd s 1).toNat : Int) = ((lenL s : Nat) : Int) := or_low (bd s 0).toNat (bd s 1).toNat (bd s 1).toNat_lt (by have := (bd s 0).toNat_lt; omega)
          have hx : (⟨s.toArray⟩ : ByteArray).extract 18 (18 + lenL s) = ⟨(textL s).toArray⟩ := by
            rw [extract_mid]; unfold textL; congr 3; omega
          have hNb : lenL s < 65536 := by unfold lenL; have := (bd s 0).toNat_lt; have := (bd s 1).toNat_lt; omega
          obtain ⟨sb, SB⟩ : ∃ t : ByteArray, Hid (⟨s.toArray⟩ = t) := ⟨_, Lib.hid rfl⟩
          rw [SB.out] at hsz g0 g1 hx ⊢
          obtain ⟨N, hN⟩ : ∃ N, Hid (lenL s = N) := ⟨_, Lib.hid rfl⟩
          rw [hN.out] at hor hx hNb
          obtain ⟨b0, hb0⟩ : ∃ b, Hid (bd s 0 = b) := ⟨_, Lib.hid rfl⟩
          obtain ⟨b1, hb1⟩ : ∃ b, Hid (bd s 1 = b) := ⟨_, Lib.hid rfl⟩
          rw [hb0.out] at g0 hor
          rw [hb1.out] at g1 hor
          have x0 := b0.toNat_lt
          have x1 := b1.toNat_lt
          have e0 : 0 < s.length := by omega
          have e00 : 1 < s.length := by omega
          have e2 : (1 : Int) < (s.length : Int) := by omega
          have e3 : (0 : Int) < (s.length : Int) := by omega
          have i0 : ∀ W, (Instr.index 9 (.string sb) (.int .i64 0)).run Tryd.prog W = .ok (.int .u8 (b0.toNat : Int)) W := fun W => by
            have hd : 0 < sb.size := by rw [hsz]; omega
            rw [run_index_string _ _ _ _ _ Tryd.underlying9]
            first | (simp [hd, g0 hd]; done) | (simp [hd, g0 hd]; intro h; omega)
          have i1 : ∀ W, (Instr.index 9 (.string sb) (.int .i64 1)).run Tryd.prog W = .ok (.int .u8 (b1.toNat : Int)) W := fun W => by
            have hd : 1 < sb.size := by rw [hsz]; omega
            rw [run_index_string _ _ _ _ _ Tryd.underlying9]
            first | (simp [hd, g1 hd]; done) | (simp [hd, g1 hd]; intro h; omega)
          have e1 : (18 : Int) < (s.length : Int) := by omega
          have hor2 : bits .or .i64 (IntKind.i64.wrap (IntKind.i64.wrap (b0.toNat : Int) * 256)) (IntKind.i64.wrap (b1.toNat : Int)) = (N : Int) := by
            have hw : ∀ z : Int, 0 ≤ z → z < 1000000 → IntKind.i64.wrap z = z := fun z h1 h2 => by rw [IntKind.wrap_i64]; omega
            rw [hw (b0.toNat : Int) (by omega) (by omega), hw _ (by omega) (by omega), hw (b1.toNat : Int) (by omega) (by omega)]
            exact hor
          have HX := Lib.hid hx
          clear hx
          have HW1 := Lib.hid (fun q => (show LgStep B p g v v' L' d w (wr.drewN q) from HW.out.below (below_drewN (Below.refl _ _) q)))
          go_upto_region 11 with fail
          go_quiet (fail)
          generalize hq : wr.drewN _ = wr1
          have HW2 := Lib.hid (show LgStep B p g v v' L' d w wr1 by rw [← hq]; exact HW1.out _)
          clear HW HW1 hq g0 g1 hor hor2 x0 x1 e0 e00 e2 e3 i0 i1
          have HW := HW2
          clear HW2
          have hsl : (s.length : Int) ≤ 2000000 := by have := HB.out.next; omega
          by_cases hN1 : 1 ≤ N
          · by_cases hN2 : N ≤ 2000
            · by_cases hN3 : N ≤ s.length - 18
              · have q1 : decide ((N : Int) < 1) = false := decide_eq_false (by omega)
                have q2 : decide (2000 < (N : Int)) = false := decide_eq_false (by omega)
                have q3 : decide ((s.length : Int) - 18 < (N : Int)) = false := decide_eq_false (by omega)
                have q4 : (N : Int) ≤ (s.length : Int) - 18 := by omega
                have q5 : 0 ≤ (N : Int) ∧ (N : Int) ≤ 2000 := by omega
                have hTL : (textL s).length = N := by unfold textL; rw [List.length_take, List.length_drop, hN.out]; omega
                have HRK := Lib.hid (recOk_of L'.mark s h18 (by rw [hN.out]; exact hN1) (by rw [hN.out]; exact hN2) (by rw [hN.out]; exact hN3))
                have HYS := Lib.hid (recsGo_yes f s L')
                obtain ⟨t, ht⟩ : ∃ t, Hid (textL s = t) := ⟨_, Lib.hid rfl⟩
                rw [ht.out] at hTL HRK HYS HX
                have hsl1 : ∀ W, (Instr.slice 9 (.string sb) (some (.int .i64 18)) (some (.int .i64 (18 + (N : Int)))) none).run Tryd.prog W = .ok (.string ⟨t.toArray⟩) W := fun W => by
                  rw [run_slice_string _ _ _ _ _ _ _ Tryd.underlying9 (by omega) (by omega) (by rw [hsz]; omega)]
                  rw [show ((18 : Int)).toNat = 18 from rfl, show (18 + (N : Int)).toNat = 18 + N by omega, HX.out]
                have HRC := Lib.hid (fun W hk hks => record_any L'.mark t W HB.out.mark (by rw [hTL]; omega) hk hks)
                have HRL := Lib.hid (recL_length L'.mark t)
                have HSN := Lib.hid (show 1 ≤ sectorsN t by unfold sectorsN; omega)
                have HTT := Lib.hid (show ∀ W, LgM B W p g v' L' → B ≤ W.heap.size → Calls Tryd.prog 70 #[.pointer (some ⟨p, 0, none⟩), .string ⟨t.toArray⟩, .string ⟨(ownL L'.mark t).toArray⟩, .int .i64 ((sectorsN t : Int) * 64)] W fun e w' => TookOut B p g v' (L'.took t (ownL L'.mark t) (sectorsN t)) W w' e from fun W hW hB => by
                  have := took_any hW t (ownL L'.mark t) (sectorsN t) hB (by have := HB.out.l; omega) (by unfold sectorsN; omega) (by have := HB.out.next; omega)
                  rw [show ((sectorsN t * 64 : Nat) : Int) = (sectorsN t : Int) * 64 by omega] at this
                  exact this)
                have HPX := Lib.hid (fun W => prefix_any s (recL L'.mark t) W)
                obtain ⟨R, hR⟩ : ∃ R, Hid (recL L'.mark t = R) := ⟨_, Lib.hid rfl⟩
                obtain ⟨O, hO⟩ : ∃ O, Hid (ownL L'.mark t = O) := ⟨_, Lib.hid rfl⟩
                obtain ⟨SN, hSN⟩ : ∃ n, Hid (sectorsN t = n) := ⟨_, Lib.hid rfl⟩
                rw [hR.out, hO.out] at HRC
                rw [hR.out, hSN.out] at HRL
                rw [hR.out] at HRK HPX
                rw [hSN.out] at HSN
                rw [hSN.out, hO.out] at HTT HYS
                rw [SB.out] at HPX
                obtain ⟨rb, RB⟩ : ∃ t : ByteArray, Hid (⟨R.toArray⟩ = t) := ⟨_, Lib.hid rfl⟩
                obtain ⟨ob, OB⟩ : ∃ t : ByteArray, Hid (⟨O.toArray⟩ = t) := ⟨_, Lib.hid rfl⟩
                obtain ⟨mb, MB⟩ : ∃ t : ByteArray, Hid (⟨L'.mark.toArray⟩ = t) := ⟨_, Lib.hid rfl⟩
                have hrz : rb.size = SN * 64 := by rw [← RB.out]; show R.toArray.size = _; rw [List.size_toArray, HRL.out]
                rw [RB.out, OB.out, MB.out] at HRC
                rw [RB.out] at HPX
                rw [OB.out] at HTT
                have m2 : wr1.cell? ⟨p, 4, none⟩ = some (.string mb) := by rw [← MB.out]; exact HW.out.lw.m.hp.cell 4
                obtain ⟨pf, hpf⟩ : ∃ b, Hid (R.isPrefixOf s = b) := ⟨_, Lib.hid rfl⟩
                rw [hpf.out] at HPX HRK
                clear hN1 hN2 hN3 h18 hNb
                go_wp2_with fail
                refine (HRC.out wr1 HW.out.lw.k (Nat.lt_of_lt_of_le HW.out.lw.ks HW.out.lw.d.hB)).mono ?_
                rintro e w4 ⟨rfl, b4⟩
                have W4 := Lib.hid (HW.out.below b4)
                clear b4 m2 HRC hsl1 HW
                go_wp2_with fail
                refine (HPX.out _).mono ?_
                rintro e w5 ⟨rfl, rfl⟩
                clear HPX
                cases pf with
                | true =>
                  have HSX : SN * 64 ≤ s.length := by
                    have h1 : R <+: s := List.isPrefixOf_iff_prefix.1 hpf.out
                    have := h1.length_le
                    rw [HRL.out] at this; exact this
                  have HYY := Lib.hid (HYS.out HRK.out HFU.out)
                  have hsl2 : ∀ W, (Instr.slice 9 (.string sb) (some (.int .i64 ((SN : Int) * 64))) none none).run Tryd.prog W = .ok (.string ⟨(s.drop (SN * 64)).toArray⟩) W := fun W => by
                    rw [run_slice_string_l W _ sb Tryd.underlying9 .i64 ((SN : Int) * 64) (by omega) (by rw [hsz]; omega)]
                    rw [show ((SN : Int) * 64).toNat = SN * 64 by omega, hsz, ← SB.out, extract_eq]
                  go_wp2_with fail
                  refine (HTT.out _ W4.out.lw.m W4.out.lw.d.hB).mono ?_
                  intro e w5 hT
                  obtain ⟨v6, hst⟩ := (W4.out.lw.turned hT).step
                  have W5 := Lib.hid (W4.out.trans hst)
                  have HEE := hT.e
                  subst HEE
                  clear hT hst W4 HTT
                  go_wp2_with fail
                  go_roundg ((s.drop (SN * 64)).length)
                  case measure => rw [List.length_drop]; have := HSN.out; omega
                  case rel =>
                    obtain ⟨f', hf1, hf2⟩ := HYY.out
                    refine ⟨f', s.drop (SN * 64), L'.took t O SN, v6, rfl, rfl, Lib.hid hf1, Lib.hid (HE.out.trans hf2), W5, Lib.hid ⟨HB.out.a, HB.out.n, ?_, ?_, ?_⟩⟩
                    · show (L'.next + SN) * 64 + (s.drop (SN * 64)).length ≤ _
                      have := HB.out.next
                      rw [List.length_drop]; omega
                    · show (L'.l ++ [t]).length * 64 + (s.drop (SN * 64)).length ≤ _
                      have := HB.out.l
                      have := HSN.out
                      rw [List.length_drop, List.length_append, List.length_singleton]; omega
                    · show O.length ≤ _
                      rw [← hO.out, ownL_length]; decide
                | false =>
                  have HRO := HRK
                  have HW := W4
                  clear W4
                  have HN := Lib.hid (show loadL d L = ⟨(cleanL L'.a L'.n L'.next d).1, (cleanL L'.a L'.n L'.next d).2, L'⟩ by
                    rw [HB.out.a, HB.out.n]
                    exact loadL_ok d L L' acc HRS.out (by rw [HE.out]; exact recsGo_no f s L' HRO.out))
                  have m0 : w4.cell? ⟨p, 0, none⟩ = some (.pointer (some ⟨g, 0, none⟩)) := HW.out.lw.m.hp.cell 0
                  have m1 : w4.cell? ⟨p, 1, none⟩ = some (.int .i64 (L'.a : Nat)) := HW.out.lw.m.hp.cell 1
                  have m2 : w4.cell? ⟨p, 2, none⟩ = some (.int .i64 (L'.n : Nat)) := HW.out.lw.m.hp.cell 2
                  have m5 : w4.cell? ⟨p, 5, none⟩ = some (.int .i64 (L'.next : Nat)) := HW.out.lw.m.hp.cell 5
                  have HCL := Lib.hid (fun W (hW : DkAt B W g d) => clean_any hW L'.a L'.n L'.next (by have := HB.out.a; omega) (by have := HB.out.n; omega) (by have := HB.out.next; omega) (by have := HB.out.n; omega))
                  unfold hv at HCL
                  obtain ⟨ce, hce⟩ : ∃ r, Hid ((cleanL L'.a L'.n L'.next d).1 = r) := ⟨_, Lib.hid rfl⟩
                  obtain ⟨cd, hcd⟩ : ∃ r, Hid ((cleanL L'.a L'.n L'.next d).2 = r) := ⟨_, Lib.hid rfl⟩
                  rw [hce.out, hcd.out] at HCL HN
                  go_upto_region 18 with fail
                  refine still_tail 8 (by kernel_rfl) (by kernel_rfl) ?_
                  simp only [List.take_succ_cons, List.take_zero, List.drop_succ_cons, List.drop_zero]
                  repeat still_step
                  refine wpStill_nil ?_
                  clear m0 m1 m2 m5
                  go_wp2_with fail
                  refine (HCL.out w4.drew (by obtain ⟨q, vw, hA⟩ := HW.out.lw.d; exact ⟨q, vw, hA.drew⟩)).mono ?_
                  rintro e w9 ⟨rfl, d9, f9⟩
                  have F9 := Lib.hid (show Fr B w4 w9 from ⟨⟨f9.b.os, f9.b.tape, f9.b.output, f9.b.size, f9.b.block⟩, f9.f⟩)
                  have W9 := Lib.hid (HW.out.fr F9.out d9)
                  clear d9 f9 F9 HCL
                  go_wp2_with fail
                  go_ret
                  rw [HN.out]
                  exact ⟨rfl, W9.out.next⟩
              · have q1 : decide ((N : Int) < 1) = false := decide_eq_false (by omega)
                have q2 : decide (2000 < (N : Int)) = false := decide_eq_false (by omega)
                have q3 : decide ((s.length : Int) - 18 < (N : Int)) = true := decide_eq_true (by omega)
                have q4 : (s.length : Int) - 18 < (N : Int) := by omega
                have HRO := Lib.hid (recOk_short L'.mark s (by rw [hN.out]; omega))
                clear hN1 hN2 hN3 h18 hNb
                have HN := Lib.hid (show loadL d L = ⟨(cleanL L'.a L'.n L'.next d).1, (cleanL L'.a L'.n L'.next d).2, L'⟩ by
                  rw [HB.out.a, HB.out.n]
                  exact loadL_ok d L L' acc HRS.out (by rw [HE.out]; exact recsGo_no f s L' HRO.out))
                have m0 : wr1.cell? ⟨p, 0, none⟩ = some (.pointer (some ⟨g, 0, none⟩)) := HW.out.lw.m.hp.cell 0
                have m1 : wr1.cell? ⟨p, 1, none⟩ = some (.int .i64 (L'.a : Nat)) := HW.out.lw.m.hp.cell 1
                have m2 : wr1.cell? ⟨p, 2, none⟩ = some (.int .i64 (L'.n : Nat)) := HW.out.lw.m.hp.cell 2
                have m5 : wr1.cell? ⟨p, 5, none⟩ = some (.int .i64 (L'.next : Nat)) := HW.out.lw.m.hp.cell 5
                have HCL := Lib.hid (fun W (hW : DkAt B W g d) => clean_any hW L'.a L'.n L'.next (by have := HB.out.a; omega) (by have := HB.out.n; omega) (by have := HB.out.next; omega) (by have := HB.out.n; omega))
                unfold hv at HCL
                obtain ⟨ce, hce⟩ : ∃ r, Hid ((cleanL L'.a L'.n L'.next d).1 = r) := ⟨_, Lib.hid rfl⟩
                obtain ⟨cd, hcd⟩ : ∃ r, Hid ((cleanL L'.a L'.n L'.next d).2 = r) := ⟨_, Lib.hid rfl⟩
                rw [hce.out, hcd.out] at HCL HN
                go_upto_region 18 with fail
                refine still_tail 8 (by kernel_rfl) (by kernel_rfl) ?_
                simp only [List.take_succ_cons, List.take_zero, List.drop_succ_cons, List.drop_zero]
                repeat still_step
                refine wpStill_nil ?_
                clear m0 m1 m2 m5
                go_wp2_with fail
                refine (HCL.out wr1.drew (by obtain ⟨q, vw, hA⟩ := HW.out.lw.d; exact ⟨q, vw, hA.drew⟩)).mono ?_
                rintro e w9 ⟨rfl, d9, f9⟩
                have F9 := Lib.hid (show Fr B wr1 w9 from ⟨⟨f9.b.os, f9.b.tape, f9.b.output, f9.b.size, f9.b.block⟩, f9.f⟩)
                have W9 := Lib.hid (HW.out.fr F9.out d9)
                clear d9 f9 F9 HCL
                go_wp2_with fail
                go_ret
                rw [HN.out]
                exact ⟨rfl, W9.out.next⟩
            · have q1 : decide ((N : Int) < 1) = false := decide_eq_false (by omega)
              have q2 : decide (2000 < (N : Int)) = true := decide_eq_true (by omega)
              have HRO := Lib.hid (recOk_short L'.mark s (by rw [hN.out]; omega))
              clear hN1 hN2 h18 hNb
              have HN := Lib.hid (show loadL d L = ⟨(cleanL L'.a L'.n L'.next d).1, (cleanL L'.a L'.n L'.next d).2, L'⟩ by
                rw [HB.out.a, HB.out.n]
                exact loadL_ok d L L' acc HRS.out (by rw [HE.out]; exact recsGo_no f s L' HRO.out))
              have m0 : wr1.cell? ⟨p, 0, none⟩ = some (.pointer (some ⟨g, 0, none⟩)) := HW.out.lw.m.hp.cell 0
              have m1 : wr1.cell? ⟨p, 1, none⟩ = some (.int .i64 (L'.a : Nat)) := HW.out.lw.m.hp.cell 1
              have m2 : wr1.cell? ⟨p, 2, none⟩ = some (.int .i64 (L'.n : Nat)) := HW.out.lw.m.hp.cell 2
              have m5 : wr1.cell? ⟨p, 5, none⟩ = some (.int .i64 (L'.next : Nat)) := HW.out.lw.m.hp.cell 5
              have HCL := Lib.hid (fun W (hW : DkAt B W g d) => clean_any hW L'.a L'.n L'.next (by have := HB.out.a; omega) (by have := HB.out.n; omega) (by have := HB.out.next; omega) (by have := HB.out.n; omega))
              unfold hv at HCL
              obtain ⟨ce, hce⟩ : ∃ r, Hid ((cleanL L'.a L'.n L'.next d).1 = r) := ⟨_, Lib.hid rfl⟩
              obtain ⟨cd, hcd⟩ : ∃ r, Hid ((cleanL L'.a L'.n L'.next d).2 = r) := ⟨_, Lib.hid rfl⟩
              rw [hce.out, hcd.out] at HCL HN
              go_upto_region 18 with fail
              refine still_tail 8 (by kernel_rfl) (by kernel_rfl) ?_
              simp only [List.take_succ_cons, List.take_zero, List.drop_succ_cons, List.drop_zero]
              repeat still_step
              refine wpStill_nil ?_
              clear m0 m1 m2 m5
              go_wp2_with fail
              refine (HCL.out wr1.drew (by obtain ⟨q, vw, hA⟩ := HW.out.lw.d; exact ⟨q, vw, hA.drew⟩)).mono ?_
              rintro e w9 ⟨rfl, d9, f9⟩
              have F9 := Lib.hid (show Fr B wr1 w9 from ⟨⟨f9.b.os, f9.b.tape, f9.b.output, f9.b.size, f9.b.block⟩, f9.f⟩)
              have W9 := Lib.hid (HW.out.fr F9.out d9)
              clear d9 f9 F9 HCL
              go_wp2_with fail
              go_ret
              rw [HN.out]
              exact ⟨rfl, W9.out.next⟩
          · have q1 : decide ((N : Int) < 1) = true := decide_eq_true (by omega)
            have HRO := Lib.hid (recOk_short L'.mark s (by rw [hN.out]; omega))
            clear hN1 h18 hNb
            have HN := Lib.hid (show loadL d L = ⟨(cleanL L'.a L'.n L'.next d).1, (cleanL L'.a L'.n L'.next d).2, L'⟩ by
              rw [HB.out.a, HB.out.n]
              exact loadL_ok d L L' acc HRS.out (by rw [HE.out]; exact recsGo_no f s L' HRO.out))
            have m0 : wr1.cell? ⟨p, 0, none⟩ = some (.pointer (some ⟨g, 0, none⟩)) := HW.out.lw.m.hp.cell 0
            have m1 : wr1.cell? ⟨p, 1, none⟩ = some (.int .i64 (L'.a : Nat)) := HW.out.lw.m.hp.cell 1
            have m2 : wr1.cell? ⟨p, 2, none⟩ = some (.int .i64 (L'.n : Nat)) := HW.out.lw.m.hp.cell 2
            have m5 : wr1.cell? ⟨p, 5, none⟩ = some (.int .i64 (L'.next : Nat)) := HW.out.lw.m.hp.cell 5
            have HCL := Lib.hid (fun W (hW : DkAt B W g d) => clean_any hW L'.a L'.n L'.next (by have := HB.out.a; omega) (by have := HB.out.n; omega) (by have := HB.out.next; omega) (by have := HB.out.n; omega))
            unfold hv at HCL
            obtain ⟨ce, hce⟩ : ∃ r, Hid ((cleanL L'.a L'.n L'.next d).1 = r) := ⟨_, Lib.hid rfl⟩
            obtain ⟨cd, hcd⟩ : ∃ r, Hid ((cleanL L'.a L'.n L'.next d).2 = r) := ⟨_, Lib.hid rfl⟩
            rw [hce.out, hcd.out] at HCL HN
            go_upto_region 18 with fail
            refine still_tail 8 (by kernel_rfl) (by kernel_rfl) ?_
            simp only [List.take_succ_cons, List.take_zero, List.drop_succ_cons, List.drop_zero]
            repeat still_step
            refine wpStill_nil ?_
            clear m0 m1 m2 m5
            go_wp2_with fail
            refine (HCL.out wr1.drew (by obtain ⟨q, vw, hA⟩ := HW.out.lw.d; exact ⟨q, vw, hA.drew⟩)).mono ?_
            rintro e w9 ⟨rfl, d9, f9⟩
            have F9 := Lib.hid (show Fr B wr1 w9 from ⟨⟨f9.b.os, f9.b.tape, f9.b.output, f9.b.size, f9.b.block⟩, f9.f⟩)
            have W9 := Lib.hid (HW.out.fr F9.out d9)
            clear d9 f9 F9 HCL
            go_wp2_with fail
            go_ret
            rw [HN.out]
            exact ⟨rfl, W9.out.next⟩
        · have HRO := Lib.hid (recOk_short L'.mark s (by omega))
          have e1 : decide ((18 : Int) < (s.length : Int)) = false := decide_eq_false (by omega)
          have e2 : decide (18 < s.length) = false := decide_eq_false h18
          clear h18
          have HN := Lib.hid (show loadL d L = ⟨(cleanL L'.a L'.n L'.next d).1, (cleanL L'.a L'.n L'.next d).2, L'⟩ by
            rw [HB.out.a, HB.out.n]
            exact loadL_ok d L L' acc HRS.out (by rw [HE.out]; exact recsGo_no f s L' HRO.out))
          have m0 : wr.cell? ⟨p, 0, none⟩ = some (.pointer (some ⟨g, 0, none⟩)) := HW.out.lw.m.hp.cell 0
          have m1 : wr.cell? ⟨p, 1, none⟩ = some (.int .i64 (L'.a : Nat)) := HW.out.lw.m.hp.cell 1
          have m2 : wr.cell? ⟨p, 2, none⟩ = some (.int .i64 (L'.n : Nat)) := HW.out.lw.m.hp.cell 2
          have m5 : wr.cell? ⟨p, 5, none⟩ = some (.int .i64 (L'.next : Nat)) := HW.out.lw.m.hp.cell 5
          have HCL := Lib.hid (fun W (hW : DkAt B W g d) => clean_any hW L'.a L'.n L'.next (by have := HB.out.a; omega) (by have := HB.out.n; omega) (by have := HB.out.next; omega) (by have := HB.out.n; omega))
          unfold hv at HCL
          obtain ⟨ce, hce⟩ : ∃ r, Hid ((cleanL L'.a L'.n L'.next d).1 = r) := ⟨_, Lib.hid rfl⟩
          obtain ⟨cd, hcd⟩ : ∃ r, Hid ((cleanL L'.a L'.n L'.next d).2 = r) := ⟨_, Lib.hid rfl⟩
          rw [hce.out, hcd.out] at HCL HN
          go_upto_region 18 with fail
          refine still_tail 8 (by kernel_rfl) (by kernel_rfl) ?_
          simp only [List.take_succ_cons, List.take_zero, List.drop_succ_cons, List.drop_zero]
          repeat still_step
          refine wpStill_nil ?_
          clear m0 m1 m2 m5
          go_wp2_with fail
          refine (HCL.out wr.drew (by obtain ⟨q, vw, hA⟩ := HW.out.lw.d; exact ⟨q, vw, hA.drew⟩)).mono ?_
          rintro e w9 ⟨rfl, d9, f9⟩
          have F9 := Lib.hid (show Fr B wr w9 from ⟨⟨f9.b.os, f9.b.tape, f9.b.output, f9.b.size, f9.b.block⟩, f9.f⟩)
          have W9 := Lib.hid (HW.out.fr F9.out d9)
          clear d9 f9 F9 HCL
          go_wp2_with fail
          go_ret
          rw [HN.out]
          exact ⟨rfl, W9.out.next⟩
end Go.Proofs.YteajpebkanamgaaDoor
namespace Go.Proofs.YteajpebkanamgaaDoor
open Go.RowKit
set_option linter.unusedSimpArgs false
set_option linter.unusedVariables false
set_option maxRecDepth 20000
/-- of two halves' generations: the first sector and the generation of the one in use. -/
def openG (n g0 g1 : Nat) : Nat × Nat := if g0 < g1 then (n, g1) else (0, g0)
def lg0 : Lg := ⟨0, 0, 0, [], 1, []⟩
def openL (d : Dk) : LgOut :=
  let n := d.l.length / 2
  if n < 2 then ⟨4, d, lg0⟩ else
  if (d.read ((0 : Nat) : Int)).2 ≠ 0 then ⟨(d.read ((0 : Nat) : Int)).2, d, lg0⟩ else
  if (d.read (n : Int)).2 ≠ 0 then ⟨(d.read (n : Int)).2, d, lg0⟩ else
  let x := openG n (genL (d.read ((0 : Nat) : Int)).1) (genL (d.read (n : Int)).1)
  if x.2 = 0 then beginL 0 n 1 [] d else loadL d ⟨x.1, n, x.2, hmark x.2, 1, []⟩
def opA (n g0 g1 : Nat) : Nat → Nat × Nat
  | 0 => (0, 0)
  | 1 => (0, g0)
  | _ => openG n g0 g1
def opC (g n a gen : Nat) : Array Value := if gen = 0 then #[.pointer none, .int .i64 0, .int .i64 0, .int .i64 0, .string ⟨#[]⟩, .int .i64 1, .slice none 0 0] else #[.pointer (some ⟨g, 0, none⟩), .int .i64 (a : Nat), .int .i64 (n : Nat), .int .i64 (gen : Nat), .string ⟨#[]⟩, .int .i64 1, .slice none 0 0]
theorem opC_gen (g n a gen : Nat) : (opC g n a gen)[3]? = some (.int .i64 (gen : Nat)) := by
  unfold opC
  by_cases h : gen = 0
  · subst h; rfl
  · rw [if_neg h]; rfl
theorem opC_set (g n a gen a' gen' : Nat) (h : 0 < gen') : ((((opC g n a gen).setIfInBounds 0 (.pointer (some ⟨g, 0, none⟩))).setIfInBounds 1 (.int .i64 (a' : Nat))).setIfInBounds 2 (.int .i64 (n : Nat))).setIfInBounds 3 (.int .i64 (gen' : Nat)) = opC g n a' gen' := by
  have h' : opC g n a' gen' = #[.pointer (some ⟨g, 0, none⟩), .int .i64 (a' : Nat), .int .i64 (n : Nat), .int .i64 (gen' : Nat), .string ⟨#[]⟩, .int .i64 1, .slice none 0 0] := by unfold opC; rw [if_neg (by omega)]
  rw [h']
  unfold opC
  by_cases h : gen = 0
  · subst h; rfl
  · rw [if_neg h]; rfl
theorem opC_mark (g n a gen : Nat) (m : List UInt8) (h : gen ≠ 0) : (opC g n a gen).setIfInBounds 4 (.string ⟨m.toArray⟩) = lgC g (.slice none 0 0) ⟨a, n, gen, m, 1, []⟩ := by
  unfold opC
  rw [if_neg h]
  rfl
theorem genL_le (s : List UInt8) : genL s ≤ 2147483647 := by
  unfold genL
  simp only
  split
  · rename_i h; exact h.2.1
  · exact Nat.zero_le _
theorem read_64 (d : Dk) (h : d.Ok) (i : Int) (he : (d.read i).2 = 0) : (d.read i).1.length = 64 := by
  unfold Dk.read at he ⊢
  by_cases ht : d.there i = 0
  · rw [if_neg (by rw [ht]; decide)]
    have hi : 0 ≤ i ∧ i < d.l.length := by
      unfold Dk.there at ht
      split at ht
      · cases ht
      · split at ht
        · cases ht
        · omega
    show (d.l.getD i.toNat []).length = 64
    have hi2 : i.toNat < d.l.length := by omega
    rw [List.getD_eq_getElem?_getD, List.getElem?_eq_getElem hi2]
    exact h.l _ (List.getElem_mem hi2)
  · rw [if_pos ht] at he
    exact absurd he ht
theorem build_log0 : Tryd.prog.built 72 [(3, .int .i64 1)] = some (opC 0 0 0 0) := by kernel_rfl
set_option maxHeartbeats 3200000 in
theorem open_any {B : Nat} {w : World} {g : Nat} {d : Dk} (h : DkAt B w g d) (hk : KsAt w) (hks : 0 < B) (hw : d.w.length < 100000) :
    Calls Tryd.prog 10 #[.pointer (some ⟨g, 0, none⟩)] w fun e w' => BegOut B g (openL d) w w' e := by
  have HD := Lib.hid h
  have HB := Lib.hid h.hB
  have HK := Lib.hid hk
  have HOK := Lib.hid h.ok
  have hb0 := build_log0
  have HSZ := Lib.hid (show Calls Tryd.prog 37 #[.pointer (some ⟨g, 0, none⟩)] w fun e w' => e = .returned (.int .i64 (d.l.length : Nat)) ∧ Below w.heap.size w w' by
    obtain ⟨q, vw, hA⟩ := h
    exact size_any hA)
  have HL := Lib.hid (show d.l.length ≤ 1024 from h.ok.n)
  obtain ⟨m, hm⟩ : ∃ m, Hid (d.l.length = m) := ⟨_, Lib.hid rfl⟩
  rw [hm.out] at HSZ HL
  obtain ⟨n, hn⟩ : ∃ n, Hid (m / 2 = n) := ⟨_, Lib.hid rfl⟩
  have hq : (m : Int) / 2 = (n : Int) := by have := hn.out; omega
  have hq2 : 0 ≤ (m : Int) ∧ (m : Int) ≤ 1024 := by have := HL.out; omega
  have HN := Lib.hid (show n ≤ 512 by have := HL.out; have := hn.out; omega)
  have HNL := Lib.hid (show d.l.length / 2 = n by rw [hm.out, hn.out])
  clear h hk
  go_enter Tryd.func10, Tryd.ntmps10
  go_wp2_with fail
  refine HSZ.out.mono ?_
  rintro e w1 ⟨rfl, b1⟩
  have A1 := Lib.hid b1
  clear b1 HSZ
  by_cases hn2 : n < 2
  · have HR := Lib.hid (show openL d = ⟨4, d, lg0⟩ by unfold openL; simp only [HNL.out]; rw [if_pos hn2])
    have q1 : (n : Int) < 2 := by omega
    clear hn2
    go_wp2_with fail
    go_ret2
    rw [HR.out]
    exact ⟨Fr.of A1.out HB.out, .inr ⟨show (4 : Int) ≠ 0 by decide, by rfl, HD.out.below A1.out⟩⟩
  · have q1 : decide ((n : Int) < 2) = false := decide_eq_false (by omega)
    have HN2 := Lib.hid hn2
    have hqn : 0 ≤ (n : Int) ∧ (n : Int) ≤ 512 := by have := HN.out; omega
    clear hn2
    go_upto_region 7 with fail
    obtain ⟨lp, hlp⟩ : ∃ b, Hid (w1.heap.size = b) := ⟨_, Lib.hid rfl⟩
    have LP := Lib.hid (show w.heap.size ≤ lp by rw [← hlp.out]; exact A1.out.size)
    obtain ⟨g0, hg0⟩ : ∃ r, Hid (genL (d.read ((0 : Nat) : Int)).1 = r) := ⟨_, Lib.hid rfl⟩
    obtain ⟨g1, hg1⟩ : ∃ r, Hid (genL (d.read (n : Int)).1 = r) := ⟨_, Lib.hid rfl⟩
    refine gen_world (fun W => Hid (Below w.heap.size w W) ∧ Hid (Blk W lp 72 (opC g n 0 0))) ⟨Lib.hid (A1.out.alloc A1.out.size _), Lib.hid (by rw [← hlp.out]; exact Blk.new _ _ _)⟩ ?_
    clear A1
    rintro w2 ⟨A2, P2⟩
    rw [hlp.out]
    go_wp2_with fail
    go_loopg [21] 3 (fun kq v21 wr => ∃ k : Nat, kq = 3 - k ∧ k ≤ 2 ∧ v21 = .int .i64 (k : Nat) ∧ Hid (Below w.heap.size w wr) ∧ Hid (Blk wr lp 72 (opC g n (opA n g0 g1 k).1 (opA n g0 g1 k).2)) ∧ Hid (0 < k → (d.read ((0 : Nat) : Int)).2 = 0) ∧ Hid (1 < k → (d.read (n : Int)).2 = 0))
    case atStart => exact ⟨0, rfl, by omega, rfl, A2, P2, Lib.hid (fun h => absurd h (by omega)), Lib.hid (fun h => absurd h (by omega))⟩
    case round =>
      clear A2 P2
      obtain ⟨k, rfl, hk2, rfl, A3, P3, E0, E1⟩ := hrel
      by_cases hlt : k < 2
      · have e1 : (k : Int) < 2 := by omega
        obtain ⟨i, hi⟩ : ∃ i : Nat, Hid (k * n = i) := ⟨_, Lib.hid rfl⟩
        have hki : (k : Int) * (n : Int) = (i : Int) := by rw [← hi.out]; simp
        have hib : 0 ≤ (i : Int) ∧ (i : Int) ≤ 1024 := by
          have h1 : k * n ≤ 1 * 512 := Nat.mul_le_mul (by omega) HN.out
          have := hi.out
          omega
        have hkw : IntKind.i64.wrap ((k : Int) * (n : Int)) = (i : Int) := by rw [hki, IntKind.wrap_i64]; omega
        have HRD := Lib.hid (show ∀ W, DkAt B W g d → Calls Tryd.prog 38 #[.agg #[.pointer (some ⟨g, 0, none⟩), .int .i64 (i : Nat), .int .i64 (n : Nat)], .int .i64 0] W fun e w' => e = .returned (.tuple #[.string ⟨(d.read (i : Int)).1.toArray⟩, .int .i64 (d.read (i : Int)).2]) ∧ Below W.heap.size W w' from fun W hW => hread_any hW i n 0 (by omega) (by decide))
        have R64 := Lib.hid (read_64 d HOK.out (i : Int))
        obtain ⟨rs, hrs⟩ : ∃ r, Hid ((d.read (i : Int)).1 = r) := ⟨_, Lib.hid rfl⟩
        obtain ⟨re, hre⟩ : ∃ r, Hid ((d.read (i : Int)).2 = r) := ⟨_, Lib.hid rfl⟩
        rw [hrs.out, hre.out] at HRD R64
        have HOP := Lib.hid (show ∀ G, genL rs = G → opA n g0 g1 (k + 1) = if (opA n g0 g1 k).2 < G then (i, G) else opA n g0 g1 k from fun G hG => by
          rcases (show k = 0 ∨ k = 1 by omega) with rfl | rfl
          · have h0 : i = 0 := by have := hi.out; omega
            subst h0
            have h1 : g0 = G := by rw [← hg0.out, hrs.out, hG]
            subst h1
            show (0, g0) = if (0 : Nat) < g0 then (0, g0) else (0, 0)
            by_cases hz : g0 = 0
            · subst hz; rfl
            · rw [if_pos (by omega)]
          · have h0 : i = n := by have := hi.out; omega
            subst h0
            have h1 : g1 = G := by rw [← hg1.out, hrs.out, hG]
            subst h1
            rfl)
        have HE0 := Lib.hid (show re = 0 → (0 < k + 1 → (d.read ((0 : Nat) : Int)).2 = 0) ∧ (1 < k + 1 → (d.read (n : Int)).2 = 0) from fun hz => by
          rcases (show k = 0 ∨ k = 1 by omega) with rfl | rfl
          · have h0 : i = 0 := by have := hi.out; omega
            subst h0
            exact ⟨fun _ => hre.out.trans hz, fun h => absurd h (by omega)⟩
          · have h0 : i = n := by have := hi.out; omega
            subst h0
            exact ⟨fun _ => E0.out (by omega), fun _ => hre.out.trans hz⟩)
        have HE1 := Lib.hid (show re ≠ 0 → openL d = ⟨re, d, lg0⟩ from fun hz => by
          unfold openL
          simp only [HNL.out]
          rw [if_neg HN2.out]
          rcases (show k = 0 ∨ k = 1 by omega) with rfl | rfl
          · have h0 : i = 0 := by have := hi.out; omega
            subst h0
            simp only [hre.out]
            rw [if_pos hz]
          · have h0 : i = n := by have := hi.out; omega
            subst h0
            rw [if_neg (by rw [E0.out (by omega)]; simp)]
            simp only [hre.out]
            rw [if_pos hz])
        obtain ⟨x, hx⟩ : ∃ x, Hid (opA n g0 g1 k = x) := ⟨_, Lib.hid rfl⟩
        rw [hx.out] at HOP P3
        go_upto_region 11 with fail
        obtain ⟨hb, hhb⟩ : ∃ b, Hid (wr.heap.size = b) := ⟨_, Lib.hid rfl⟩
        have HBL := Lib.hid (show lp < hb by rw [← hhb.out]; exact P3.out.lt)
        refine gen_world (fun W => Hid (Below w.heap.size w W) ∧ Hid (Blk W lp 72 (opC g n x.1 x.2)) ∧ Hid (Blk W hb 70 #[.pointer (some ⟨g, 0, none⟩), .int .i64 (i : Nat), .int .i64 (n : Nat)])) ⟨Lib.hid (A3.out.alloc A3.out.size _), Lib.hid (P3.out.alloc _), Lib.hid (by rw [← hhb.out]; exact Blk.new _ _ _)⟩ ?_
        clear A3 P3 E0 E1 hki hib hkw hlt
        rintro w4 ⟨A4, P4, M4⟩
        rw [hhb.out]
        have m0 : w4.cell? ⟨hb, 0, none⟩ = some (.pointer (some ⟨g, 0, none⟩)) := M4.out.cell 0
        have m1 : w4.cell? ⟨hb, 1, none⟩ = some (.int .i64 (i : Nat)) := M4.out.cell 1
        have m2 : w4.cell? ⟨hb, 2, none⟩ = some (.int .i64 (n : Nat)) := M4.out.cell 2
        go_wp2_with fail
        refine (HRD.out _ (HD.out.below A4.out)).mono ?_
        rintro e w5 ⟨rfl, b5⟩
        have A5 := Lib.hid (A4.out.trans (b5.mono A4.out.size))
        have P5 := Lib.hid (P4.out.below b5 P4.out.lt)
        have M5 := Lib.hid (M4.out.below b5 M4.out.lt)
        clear b5 m0 m1 m2 A4 P4 M4 HRD
        by_cases h0 : re = 0
        · have HEE := Lib.hid (HE0.out h0)
          have HGN := Lib.hid (generation_any rs w5 (R64.out h0) (HK.out.below (Nat.lt_of_lt_of_le hks HB.out) A5.out) (Nat.lt_of_lt_of_le hks (Nat.le_trans HB.out A5.out.size)))
          have HGL := Lib.hid (genL_le rs)
          obtain ⟨G, hG⟩ : ∃ G, Hid (genL rs = G) := ⟨_, Lib.hid rfl⟩
          have HOQ := Lib.hid (HOP.out G hG.out)
          rw [hG.out] at HGN HGL
          subst h0
          go_wp2_with fail
          refine HGN.out.mono ?_
          rintro e w6 ⟨rfl, b6⟩
          have A6 := Lib.hid (A5.out.trans (b6.mono A5.out.size))
          have P6 := Lib.hid (P5.out.below b6 P5.out.lt)
          have M6 := Lib.hid (M5.out.below b6 M5.out.lt)
          clear b6 A5 P5 M5 HGN
          have p3 : w6.cell? ⟨lp, 3, none⟩ = some (.int .i64 (x.2 : Nat)) := by rw [P6.out.cell 3]; exact opC_gen _ _ _ _
          obtain ⟨C, hC⟩ : ∃ C, Hid (x.2 = C) := ⟨_, Lib.hid rfl⟩
          rw [hC.out] at p3 HOQ
          by_cases hgt : C < G
          · have q1 : (C : Int) < (G : Int) := by omega
            have HGT := Lib.hid hgt
            have m0 : w6.cell? ⟨hb, 0, none⟩ = some (.pointer (some ⟨g, 0, none⟩)) := M6.out.cell 0
            have m1 : w6.cell? ⟨hb, 1, none⟩ = some (.int .i64 (i : Nat)) := M6.out.cell 1
            have m2 : w6.cell? ⟨hb, 2, none⟩ = some (.int .i64 (n : Nat)) := M6.out.cell 2
            have f0 : w6.frozen? ⟨lp, 0, none⟩ = false := P6.out.frozen 0
            have f1 : w6.frozen? ⟨lp, 1, none⟩ = false := P6.out.frozen 1
            have f2 : w6.frozen? ⟨lp, 2, none⟩ = false := P6.out.frozen 2
            have f3 : w6.frozen? ⟨lp, 3, none⟩ = false := P6.out.frozen 3
            have hcell : ∀ j, j < 3 → ∃ v, w6.cell? ⟨lp, j, none⟩ = some v := fun j hj => by
              rw [P6.out.cell j]
              unfold opC
              rcases (show j = 0 ∨ j = 1 ∨ j = 2 by omega) with rfl | rfl | rfl <;> split <;> exact ⟨_, rfl⟩
            obtain ⟨v0, l0⟩ := hcell 0 (by decide)
            obtain ⟨v1, l1⟩ := hcell 1 (by decide)
            obtain ⟨v2, l2⟩ := hcell 2 (by decide)
            clear hgt hcell
            go_wp2_with fail
            have HR := Lib.hid (show opA n g0 g1 (k + 1) = (i, G) by rw [HOQ.out, if_pos HGT.out])
            go_roundg (3 - (k + 1))
            case measure => omega
            case rel =>
              refine ⟨k + 1, rfl, by omega, by go_num, Lib.hid ?_, Lib.hid ?_, Lib.hid HEE.out.1, Lib.hid HEE.out.2⟩
              · exact (((A6.out.setCell LP.out _).setCell LP.out _).setCell LP.out _).setCell LP.out _
              · rw [HR.out]
                have := (((P6.out.set_ 0 (.pointer (some ⟨g, 0, none⟩))).set_ 1 (.int .i64 (i : Nat))).set_ 2 (.int .i64 (n : Nat))).set_ 3 (.int .i64 (G : Nat))
                rw [opC_set _ _ _ _ _ _ (by have := HGT.out; omega)] at this
                exact this
          · have q1 : decide ((C : Int) < (G : Int)) = false := decide_eq_false (by omega)
            have q2 : decide (C < G) = false := decide_eq_false hgt
            have HR := Lib.hid (show opA n g0 g1 (k + 1) = x by rw [HOQ.out, if_neg hgt])
            clear hgt
            go_wp2_with fail
            go_roundg (3 - (k + 1))
            case measure => omega
            case rel => exact ⟨k + 1, rfl, by omega, by go_num, A6, Lib.hid (by rw [HR.out]; exact P6.out), Lib.hid HEE.out.1, Lib.hid HEE.out.2⟩
        · have HN1 := Lib.hid (HE1.out h0)
          have HZ := Lib.hid h0
          have q3 : (re != 0) = true := by simpa using h0
          have q4 : (re == 0) = false := by simpa using h0
          clear h0
          go_wp2_with fail
          go_ret2
          rw [HN1.out]
          exact ⟨Fr.of A5.out HB.out, .inr ⟨HZ.out, by rfl, HD.out.below A5.out⟩⟩
      · obtain rfl : k = 2 := by omega
        have P3' := Lib.hid (show Blk wr lp 72 (opC g n (openG n g0 g1).1 (openG n g0 g1).2) from P3.out)
        have HOL := Lib.hid (show openL d = if (openG n g0 g1).2 = 0 then beginL 0 n 1 [] d else loadL d ⟨(openG n g0 g1).1, n, (openG n g0 g1).2, hmark (openG n g0 g1).2, 1, []⟩ by
          unfold openL
          simp only [HNL.out]
          rw [if_neg HN2.out, if_neg (by rw [E0.out (by omega)]; simp), if_neg (by rw [E1.out (by omega)]; simp), hg0.out, hg1.out])
        have HXB := Lib.hid (show (openG n g0 g1).1 ≤ n ∧ (openG n g0 g1).2 ≤ 2147483647 by
          unfold openG
          split
          · exact ⟨Nat.le_refl _, by rw [← hg1.out]; exact genL_le _⟩
          · exact ⟨Nat.zero_le _, by rw [← hg0.out]; exact genL_le _⟩)
        clear P3 E0 E1
        obtain ⟨x, hx⟩ : ∃ x, Hid (openG n g0 g1 = x) := ⟨_, Lib.hid rfl⟩
        rw [hx.out] at P3' HOL HXB
        have p3 : wr.cell? ⟨lp, 3, none⟩ = some (.int .i64 (x.2 : Nat)) := by rw [P3'.out.cell 3]; exact opC_gen _ _ _ _
        obtain ⟨a, ha⟩ : ∃ a, Hid (x.1 = a) := ⟨_, Lib.hid rfl⟩
        obtain ⟨C, hC⟩ : ∃ C, Hid (x.2 = C) := ⟨_, Lib.hid rfl⟩
        rw [hC.out] at p3
        rw [ha.out, hC.out] at P3' HOL HXB
        have D3 := Lib.hid (HD.out.below A3.out)
        have K3 := Lib.hid (HK.out.below (Nat.lt_of_lt_of_le hks HB.out) A3.out)
        have F3 := Lib.hid (Fr.of A3.out HB.out)
        clear hlt
        by_cases hz : C = 0
        · have HR := Lib.hid (show openL d = beginL 0 n 1 [] d by rw [HOL.out, if_pos hz])
          have HBE := Lib.hid (lbegin_any D3.out 0 n 1 none 0 0 [] ⟨rfl, fun h => absurd h (by decide)⟩ K3.out hks (by decide) (by have := HN.out; omega) (by decide) (by simp) (by decide) (by have := HN.out; omega))
          unfold hv at HBE
          have q1 : ((C : Int) == 0) = true := by subst hz; rfl
          subst hz
          clear HOL
          go_wp2_with fail
          refine HBE.out.mono ?_
          intro e w9 hE
          have F9 := Lib.hid (F3.out.trans hE.f)
          rcases hE.r with ⟨h0, l, v, rfl, hW, hS⟩ | ⟨h0, rfl, hW⟩
          · have W9 := Lib.hid hW
            have S9 := Lib.hid hS
            have H0 := Lib.hid h0
            clear hE hW hS h0 HBE
            go_wp2_with fail
            go_ret2
            rw [HR.out]
            exact ⟨F9.out, .inl ⟨H0.out, l, v, by rfl, W9.out, fun i hi => Nat.le_trans A3.out.size (S9.out i hi)⟩⟩
          · have W9 := Lib.hid hW
            have H0 := Lib.hid h0
            clear hE hW h0 HBE
            go_wp2_with fail
            go_ret2
            rw [HR.out]
            exact ⟨F9.out, .inr ⟨H0.out, by rfl, W9.out⟩⟩
        · have q1 : ((C : Int) == 0) = false := by simpa using hz
          have q2 : (C == 0) = false := by simpa using hz
          have HZ := Lib.hid hz
          have HBG := Lib.hid (begun_any C wr (by have := HXB.out.2; omega) K3.out (Nat.lt_of_lt_of_le hks D3.out.hB))
          obtain ⟨gb, GB⟩ : ∃ t : ByteArray, Hid (⟨(begunL C).toArray⟩ = t) := ⟨_, Lib.hid rfl⟩
          obtain ⟨hmk, HM⟩ : ∃ t, Hid (hmark C = t) := ⟨_, Lib.hid rfl⟩
          have HML := Lib.hid (hmark_le C)
          rw [HM.out] at HML
          rw [GB.out, HM.out] at HBG
          clear hz
          go_wp2_with fail
          refine HBG.out.mono ?_
          rintro e w4 ⟨rfl, b4⟩
          have A4 := Lib.hid (A3.out.trans (b4.mono A3.out.size))
          have P4 := Lib.hid (P3'.out.below b4 P3'.out.lt)
          have f4 : w4.frozen? ⟨lp, 4, none⟩ = false := P4.out.frozen 4
          obtain ⟨v4, l4⟩ : ∃ v, w4.cell? ⟨lp, 4, none⟩ = some v := by
            rw [P4.out.cell 4]; unfold opC; rw [if_neg HZ.out]; exact ⟨_, rfl⟩
          clear b4 A3 P3' p3 D3 K3 F3 HBG
          go_upto_region 21 with fail
          have A5 := Lib.hid (A4.out.setCell (p := ⟨lp, 4, none⟩) LP.out (.string ⟨hmk.toArray⟩))
          have M5 := Lib.hid (show LgM B (w4.setCell ⟨lp, 4, none⟩ (.string ⟨hmk.toArray⟩)) lp g (.slice none 0 0) ⟨a, n, C, hmk, 1, []⟩ by
            refine ⟨?_, Win.nil _ _ _, Nat.le_trans HB.out LP.out⟩
            have := P4.out.set_ 4 (.string ⟨hmk.toArray⟩)
            rw [opC_mark _ _ _ _ _ HZ.out] at this
            exact this)
          refine gen_world (fun W => Hid (Below w.heap.size w W) ∧ Hid (LgM B W lp g (.slice none 0 0) ⟨a, n, C, hmk, 1, []⟩)) ⟨A5, M5⟩ ?_
          clear A5 M5 A4 P4 f4 l4
          rintro w5 ⟨A5, M5⟩
          have W5 := Lib.hid (show LgW B w5 lp g (.slice none 0 0) ⟨a, n, C, hmk, 1, []⟩ d from ⟨M5.out, HD.out.below A5.out, HK.out.below (Nat.lt_of_lt_of_le hks HB.out) A5.out, hks⟩)
          have HLD := Lib.hid (load_any W5.out (show a ≤ 10000 by have := HXB.out.1; have := HN.out; omega) (show n ≤ 10000 by have := HN.out; omega) (show hmk.length ≤ 1000000 by have := HML.out; omega) (Nat.zero_le _) (show 1 ≤ 10000 by decide) (show d.w.length + n < 1000000 by have := HN.out; omega))
          have HR := Lib.hid (show openL d = loadL d ⟨a, n, C, hmk, 1, []⟩ by rw [HOL.out, if_neg HZ.out, HM.out])
          obtain ⟨o, ho⟩ : ∃ o, Hid (loadL d ⟨a, n, C, hmk, 1, []⟩ = o) := ⟨_, Lib.hid rfl⟩
          rw [ho.out] at HLD HR
          clear HOL
          go_wp2_with fail
          refine HLD.out.mono ?_
          rintro e w6 ⟨rfl, hn6⟩
          obtain ⟨v6, hst⟩ := hn6.step
          have W6 := Lib.hid hst
          have F6 := Lib.hid (hst.f.fr (Fr.of A5.out HB.out) (fun i hi => by
            rcases hi with rfl | hi
            · exact LP.out
            · cases hi))
          have S6 := Lib.hid (show ∀ i, LgS lp v6 i → w.heap.size ≤ i from fun i hi => by
            rcases hi with rfl | hi
            · exact LP.out
            · rcases hst.o i hi with h1 | h1
              · cases h1
              · exact Nat.le_trans A5.out.size h1)
          clear hn6 hst HLD
          by_cases h0 : o.e = 0
          · have q3 : (o.e != 0) = false := by simpa using h0
            have q4 : (o.e == 0) = true := by simpa using h0
            have H0 := Lib.hid h0
            clear h0
            go_wp2_with fail
            go_ret2
            rw [HR.out]
            exact ⟨F6.out, .inl ⟨H0.out, lp, v6, by rfl, W6.out.lw, S6.out⟩⟩
          · have q3 : (o.e != 0) = true := by simpa using h0
            have q4 : (o.e == 0) = false := by simpa using h0
            have H0 := Lib.hid h0
            clear h0
            go_wp2_with fail
            go_ret2
            rw [HR.out]
            exact ⟨F6.out, .inr ⟨H0.out, by rfl, W6.out.lw.d⟩⟩
end Go.Proofs.YteajpebkanamgaaDoor
namespace Go.Proofs.YteajpebkanamgaaDoor
open Go.RowKit
set_option linter.unusedSimpArgs false
set_option linter.unusedVariables false
set_option maxRecDepth 20000
def roomI (L : Lg) : Int := (L.n : Int) - (L.next : Int)
def appendL (d : Dk) (L : Lg) (t : List UInt8) : LgOut :=
  if wrongI t ≠ 0 then ⟨wrongI t, d, L⟩ else if roomI L < (sectorsN t : Int) then ⟨151, d, L⟩ else putL d L t
theorem room_any {B p g : Nat} {w : World} {v : Value} {L : Lg} {d : Dk} (h : LgW B w p g v L d) (hn : L.n ≤ 1000000) (hx : L.next ≤ 1000000) :
    Calls Tryd.prog 11 #[.pointer (some ⟨p, 0, none⟩)] w fun e w' => e = .returned (.int .i64 (roomI L)) ∧ Below w.heap.size w w' := by
  have m2 : w.cell? ⟨p, 2, none⟩ = some (.int .i64 (L.n : Nat)) := h.m.hp.cell 2
  have m5 : w.cell? ⟨p, 5, none⟩ = some (.int .i64 (L.next : Nat)) := h.m.hp.cell 5
  have e1 : 0 ≤ (L.n : Int) ∧ (L.n : Int) ≤ 1000000 := by omega
  have e2 : 0 ≤ (L.next : Int) ∧ (L.next : Int) ≤ 1000000 := by omega
  unfold roomI
  obtain ⟨N, hN⟩ : ∃ N : Int, Hid ((L.n : Int) = N) := ⟨_, Lib.hid rfl⟩
  obtain ⟨X, hX⟩ : ∃ X : Int, Hid ((L.next : Int) = X) := ⟨_, Lib.hid rfl⟩
  rw [hN.out] at m2 e1 ⊢
  rw [hX.out] at m5 e2 ⊢
  have hw : IntKind.i64.wrap (N - X) = N - X := by rw [IntKind.wrap_i64]; omega
  clear h hn hx
  go_enter Tryd.func11, Tryd.ntmps11
  go_wp2_with fail
  go_quiet (fail)
  go_wp2
  go_ret
  exact ⟨rfl, below_drewN (Below.refl _ _) _⟩
theorem gen_any {B p g : Nat} {w : World} {v : Value} {L : Lg} {d : Dk} (h : LgW B w p g v L d) :
    Calls Tryd.prog 15 #[.pointer (some ⟨p, 0, none⟩)] w fun e w' => e = .returned (.int .i64 (L.gen : Nat)) ∧ w = w' := by
  have m3 : w.cell? ⟨p, 3, none⟩ = some (.int .i64 (L.gen : Nat)) := h.m.hp.cell 3
  clear h
  go_enter Tryd.func15, Tryd.ntmps15
  go_wp2_with fail
  go_ret
  exact ⟨rfl, by trivial⟩
theorem lsync_any {B p g : Nat} {w : World} {v : Value} {L : Lg} {d : Dk} (h : LgW B w p g v L d) :
    Calls Tryd.prog 36 #[.pointer (some ⟨p, 0, none⟩)] w fun e w' => e = .returned (.int .i64 d.sync.1) ∧ LgStep B p g v v L d.sync.2 w w' := by
  have H := Lib.hid h
  have m0 : w.cell? ⟨p, 0, none⟩ = some (.pointer (some ⟨g, 0, none⟩)) := h.m.hp.cell 0
  obtain ⟨q, vw, hA⟩ := h.d
  have HS := Lib.hid (sync_any hA)
  clear h hA
  go_enter Tryd.func36, Tryd.ntmps36
  go_wp2_with fail
  refine HS.out.mono ?_
  rintro e w1 ⟨rfl, d1, f1⟩
  have W1 := Lib.hid ((LgStep.refl H.out).fr f1 d1)
  clear d1 f1 m0 HS
  go_wp2_with fail
  go_ret
  exact ⟨rfl, W1.out⟩
theorem win_clone {B : Nat} {w : World} {v : Value} {l : List (List UInt8)} (h : Win 9 w B v (cstr l)) (hl : l.length ≤ 1000000) :
    Calls Tryd.prog 46 #[v] w fun e w' => ∃ v', e = .returned v' ∧ Own 9 w' w.heap.size v' (cstr l) ∧ Below w.heap.size w w' := by
  have hlen : (cstr l).length = l.length := cstr_length l
  rcases h with ⟨rfl, hx⟩ | ⟨b, off, cap, cur, rfl, hb, hk, h3, h4, h5, hc⟩
  · refine (Tryd.slices_Clone_string_nil 0 0 w).mono ?_
    rintro e w' ⟨rfl, rfl⟩
    refine ⟨_, rfl, ?_, Below.refl _ _⟩
    rw [hx]
    exact my_own_nil _ _ _
  · have hz : (l.map fun x => (⟨x.toArray⟩ : ByteArray)).length = l.length := List.length_map ..
    have := Tryd.slices_Clone_string b off l.length cap (l.map fun x => ⟨x.toArray⟩) w (by rw [hz]; exact Nat.le_refl _) (by omega) (fun j hj => by
      rw [hz] at hj
      rw [hk.cell, hc j (by omega), cstr_get _ _ hj]
      congr 2
      rw [List.getD_eq_getElem?_getD, List.getD_eq_getElem?_getD, List.getElem?_map, List.getElem?_eq_getElem hj]
      rfl)
    rw [hlen]
    refine this.mono ?_
    rintro e w' ⟨v', rfl, ho, hne, hb'⟩
    refine ⟨v', rfl, ?_, hb'⟩
    have e1 : ((l.map fun x => (⟨x.toArray⟩ : ByteArray)).take l.length).map Value.string = cstr l := by
      rw [List.take_of_length_le (by rw [hz]; exact Nat.le_refl _), List.map_map]
      rfl
    rw [e1] at ho
    unfold Own
    rw [hlen]
    exact ho
theorem records_any {B p g : Nat} {w : World} {v : Value} {L : Lg} {d : Dk} (h : LgW B w p g v L d) (hl : L.l.length ≤ 1000000) :
    Calls Tryd.prog 13 #[.pointer (some ⟨p, 0, none⟩)] w fun e w' => ∃ v', e = .returned v' ∧ Own 9 w' w.heap.size v' (cstr L.l) ∧ Below w.heap.size w w' := by
  have m6 : w.cell? ⟨p, 6, none⟩ = some v := h.m.hp.cell 6
  have HC := Lib.hid (win_clone h.m.ho hl)
  clear h
  go_enter Tryd.func13, Tryd.ntmps13
  go_wp2_with fail
  refine HC.out.mono ?_
  rintro e w1 ⟨v', rfl, ho, hb⟩
  have HO := Lib.hid ho
  have HB := Lib.hid hb
  clear ho hb m6 HC
  go_wp2_with fail
  go_ret
  exact ⟨_, rfl, HO.out, HB.out⟩
set_option maxHeartbeats 800000 in
theorem append_any {B p g : Nat} {w : World} {v : Value} {L : Lg} {d : Dk} (h : LgW B w p g v L d) (t : List UInt8) (ht : t.length ≤ 140737488355328) (hm : L.mark.length ≤ 1000000) (hl : L.l.length ≤ 1000000) (hn : L.next ≤ 100000) (hnn : L.n ≤ 100000) (ha : L.a ≤ 100000) (hw : d.w.length + 32 < 1000000) :
    Calls Tryd.prog 12 #[.pointer (some ⟨p, 0, none⟩), .string ⟨t.toArray⟩] w fun e w' => e = .returned (.int .i64 (appendL d L t).e) ∧ LgNext B p g v (appendL d L t).L (appendL d L t).d w w' := by
  have H := Lib.hid h
  have HWR := Lib.hid (fun W => wrong_any t W ht)
  have HSE := Lib.hid (fun W => sectors_any t W ht)
  have HRM := Lib.hid (fun W (hW : LgW B W p g v L d) => room_any hW (by omega) (by omega))
  obtain ⟨tb, TB⟩ : ∃ b : ByteArray, Hid (⟨t.toArray⟩ = b) := ⟨_, Lib.hid rfl⟩
  have HPU := Lib.hid (fun (h2 : t.length ≤ 2000) W (hW : LgW B W p g v L d) => put_any hW t h2 hm hl hn ha (by unfold sectorsN; omega))
  have HTL := Lib.hid (show wrongI t = 0 → t.length ≤ 2000 from fun h0 => by
    unfold wrongI at h0
    split at h0
    · cases h0
    · split at h0
      · cases h0
      · omega)
  obtain ⟨we, hwe⟩ : ∃ z, Hid (wrongI t = z) := ⟨_, Lib.hid rfl⟩
  obtain ⟨se, hse⟩ : ∃ z : Nat, Hid (sectorsN t = z) := ⟨_, Lib.hid rfl⟩
  obtain ⟨ro, hro⟩ : ∃ z, Hid (roomI L = z) := ⟨_, Lib.hid rfl⟩
  rw [TB.out] at HWR HSE HPU ⊢
  rw [hwe.out] at HWR HTL
  rw [hse.out] at HSE
  rw [hro.out] at HRM
  have hse2 : (se : Int) ≤ 140737488355328 := by have := hse.out; unfold sectorsN at this; omega
  clear h
  go_enter Tryd.func12, Tryd.ntmps12
  go_wp2_with fail
  refine (HWR.out w).mono ?_
  rintro e w1 ⟨rfl, rfl⟩
  by_cases h0 : we = 0
  · have HP2 := Lib.hid (HPU.out (HTL.out h0))
    subst h0
    go_wp2_with fail
    refine (HSE.out w).mono ?_
    rintro e w1 ⟨rfl, rfl⟩
    go_wp2_with fail
    refine (HRM.out w H.out).mono ?_
    rintro e w2 ⟨rfl, b2⟩
    have W2 := Lib.hid ((LgStep.refl H.out).below b2)
    clear b2 HWR HSE HRM
    by_cases hr : ro < (se : Int)
    · have HR := Lib.hid (show appendL d L t = ⟨151, d, L⟩ by unfold appendL; rw [hwe.out, hse.out, hro.out, if_neg (by simp), if_pos hr])
      go_wp2_with fail
      go_ret
      rw [HR.out]
      exact ⟨rfl, W2.out.next⟩
    · have HR := Lib.hid (show appendL d L t = putL d L t by unfold appendL; rw [hwe.out, hse.out, hro.out, if_neg (by simp), if_neg hr])
      have q1 : decide (ro < (se : Int)) = false := decide_eq_false hr
      obtain ⟨o, ho⟩ : ∃ o, Hid (putL d L t = o) := ⟨_, Lib.hid rfl⟩
      rw [ho.out] at HP2 HR
      clear hr
      go_wp2_with fail
      refine (HP2.out _ W2.out.lw).mono ?_
      rintro e w3 ⟨rfl, hn3⟩
      obtain ⟨v3, hs3⟩ := hn3.step
      have W3 := Lib.hid (W2.out.trans hs3)
      clear hn3 hs3 HP2
      go_wp2_with fail
      go_ret
      rw [HR.out]
      exact ⟨rfl, W3.out.next⟩
  · have HR := Lib.hid (show appendL d L t = ⟨we, d, L⟩ by unfold appendL; rw [hwe.out, if_pos h0])
    have q3 : (we != 0) = true := by simpa using h0
    have q4 : (we == 0) = false := by simpa using h0
    clear h0
    go_wp2_with fail
    go_ret
    rw [HR.out]
    exact ⟨rfl, (LgStep.refl H.out).next⟩
end Go.Proofs.YteajpebkanamgaaDoor
namespace Go.Proofs.YteajpebkanamgaaDoor
open Go.RowKit Go.Proofs.YteajpebkanamgaaDoorW.PrintWords Go.Proofs.YteajpebkanamgaaDoorW.PrintLast
set_option linter.unusedSimpArgs false
set_option linter.unusedVariables false
set_option maxRecDepth 20000
def lgc16.T : Bool × List (List Nat × List Nat) := (true, [([], []), ([], []), ([1], [1]), ([2], [2]), ([3], [3]), ([4], [4]), ([], []), ([0, 5, 6], [0, 5, 6]), ([7], [7]), ([8], [8]), ([8], [8]), ([9, 7, 0, 1, 2, 3, 4, 5, 6, 7, 8, 9], [9]), ([10, 11, 0, 1, 2, 3, 4, 5, 6, 7, 8, 9, 10, 11], [10])])
def lgc16.B : List Nat := [0, 0, 2, 6, 14, 30, 0, 127, 255, 511, 511, 1023, 4095]
theorem lgc16.tab : rtab .any (opsOf Tryd.f14 16) = lgc16.T := by kernel_rfl
theorem lgc16.bits : waitsOk lgc16.T.2 lgc16.B = true := by kernel_rfl
theorem BegOut.tup {B g : Nat} {r : LgOut} {w w' : World} {e : Ending} (h : BegOut B g r w w' e) : ∃ pv, e = .returned (.tuple #[pv, .int .i64 r.e]) ∧ Fr B w w' ∧ ((r.e = 0 ∧ ∃ lp v, pv = .pointer (some ⟨lp, 0, none⟩) ∧ LgW B w' lp g v r.L r.d ∧ ∀ i, LgS lp v i → w.heap.size ≤ i) ∨ (r.e ≠ 0 ∧ pv = .pointer none ∧ DkAt B w' g r.d)) := by
  rcases h.r with ⟨h0, l, v, he, hW, hS⟩ | ⟨h0, he, hW⟩
  · exact ⟨_, by rw [he, h0], h.f, .inl ⟨h0, l, v, rfl, hW, hS⟩⟩
  · exact ⟨_, he, h.f, .inr ⟨h0, rfl, hW⟩⟩
def needGo : List (List UInt8) → Nat → Int × Nat
  | [], n => (0, n)
  | t :: r, n => if wrongI t ≠ 0 then (wrongI t, n) else needGo r (n + sectorsN t)
def compactL (d : Dk) (L : Lg) (ts : List (List UInt8)) : LgOut :=
  let x := needGo ts 0
  if x.1 ≠ 0 then ⟨x.1, d, L⟩ else
  if (L.n : Int) - 1 < (x.2 : Int) then ⟨151, d, L⟩ else
  if L.gen = 2147483647 then ⟨2, d, L⟩ else
  if (beginL (L.n - L.a) L.n (L.gen + 1) ts d).e ≠ 0 then ⟨(beginL (L.n - L.a) L.n (L.gen + 1) ts d).e, (beginL (L.n - L.a) L.n (L.gen + 1) ts d).d, L⟩ else beginL (L.n - L.a) L.n (L.gen + 1) ts d
theorem wrong_le (t : List UInt8) (h : wrongI t = 0) : t.length ≤ 2000 ∧ sectorsN t ≤ 32 := by
  have : t.length ≤ 2000 := by
    unfold wrongI at h
    split at h
    · cases h
    · split at h
      · cases h
      · omega
  exact ⟨this, by unfold sectorsN; omega⟩
theorem needGo_ok (ts : List (List UInt8)) : ∀ n, (needGo ts n).1 = 0 → ∀ t ∈ ts, t.length ≤ 2000 := by
  induction ts with
  | nil => intro n _ t ht; cases ht
  | cons u r ih =>
    intro n h t ht
    rw [needGo] at h
    by_cases hu : wrongI u = 0
    · rw [if_neg (by rw [hu]; simp)] at h
      rcases List.mem_cons.1 ht with rfl | ht
      · exact (wrong_le _ hu).1
      · exact ih _ h t ht
    · rw [if_pos hu] at h
      exact absurd h hu
/-- texts that a log's call may be handed: where they lie, no call of the log's own writes. -/
theorem TsA.mono {w : World} {S S' : Nat → Prop} {A : Option Addr} {n : Nat} {ts : List (List UInt8)} (h : TsA w S A n ts) (hS : ∀ i, i < w.heap.size → S' i → S i) : TsA w S' A n ts :=
  ⟨h.len, fun hn => by
    obtain ⟨b, o, cs, t, fz, e, hh, ht, hs, hc⟩ := h.at_ hn
    exact ⟨b, o, cs, t, fz, e, hh, ht, fun h' => hs (hS b (heap_lt hh) h'), hc⟩⟩
theorem TsA.below {w w' : World} {S : Nat → Prop} {A : Option Addr} {n : Nat} {ts : List (List UInt8)} (h : TsA w S A n ts) (hb : Below w.heap.size w w') : TsA w' S A n ts :=
  ⟨h.len, fun hn => by
    obtain ⟨b, o, cs, t, fz, e, hh, ht, hs, hc⟩ := h.at_ hn
    have hbl := hb.block b (heap_lt hh)
    exact ⟨b, o, cs, t, fz, e, hbl.trans hh, ht, hs, fun i hi => (cell_of_heap hbl _).trans (hc i hi)⟩⟩
set_option maxHeartbeats 3200000 in
theorem compact_any {B p g : Nat} {w : World} {v : Value} {L : Lg} {d : Dk} (h : LgW B w p g v L d) (A : Option Addr) (nT c : Nat) (ts : List (List UInt8)) (hT : TsA w (fun i => w.heap.size ≤ i) A nT ts)
    (hnT : nT ≤ 3000) (ha : L.a ≤ L.n) (hn : L.n ≤ 10000) (hg : L.gen ≤ 2147483647) (hlen : ∀ t ∈ ts, t.length ≤ 140737488355328) (hw : d.w.length + L.n + 100000 < 1000000) :
    Calls Tryd.prog 14 #[.pointer (some ⟨p, 0, none⟩), .slice A nT c] w fun e w' => e = .returned (.int .i64 (compactL d L ts).e) ∧ LgNext B p g v (compactL d L ts).L (compactL d L ts).d w w' := by
  have H := Lib.hid h
  have HT := Lib.hid hT
  have hnT2 : (nT : Int) ≤ 3000 := by omega
  clear h hT
  go_enter Tryd.func14, Tryd.ntmps14
  go_wp2_with fail
  go_loopg [14, 5] (nT + 1) (fun kq v14 v5 wr => ∃ (k N : Nat), kq = nT + 1 - k ∧ k ≤ nT ∧ v14 = .int .i64 (k : Nat) ∧ v5 = .int .i64 (N : Nat) ∧ N ≤ 32 * k ∧ Hid (needGo ts 0 = needGo (ts.drop k) N) ∧ wr = w)
  case atStart => exact ⟨0, 0, by omega, by omega, rfl, rfl, by omega, Lib.hid rfl, rfl⟩
  case round =>
    obtain ⟨k, N, rfl, hk, rfl, rfl, hN, HE, rfl⟩ := hrel
    by_cases hlt : k < nT
    · obtain ⟨tb, to_, tcs, tt, tfz, hA, hh, htt, hss, hc⟩ := HT.out.at_ (by omega)
      have hc1 := hc k hlt
      have hk' : k < ts.length := by rw [HT.out.len]; exact hlt
      have hDR : ts.drop k = ts.getD k [] :: ts.drop (k + 1) := by
        rw [List.drop_eq_getElem_cons hk', List.getD_eq_getElem?_getD, List.getElem?_eq_getElem hk']; rfl
      have hT1 : (ts.getD k []).length ≤ 140737488355328 := by
        rw [List.getD_eq_getElem?_getD, List.getElem?_eq_getElem hk']
        exact hlen _ (List.getElem_mem hk')
      subst hA
      have e1 : (k : Int) < (nT : Int) := by omega
      obtain ⟨t, ht⟩ : ∃ t, Hid (ts.getD k [] = t) := ⟨_, Lib.hid rfl⟩
      rw [ht.out] at hc1 hDR hT1
      have HWR := Lib.hid (wrong_any t wr hT1)
      have HSE := Lib.hid (sectors_any t wr hT1)
      have HWL := Lib.hid (wrong_le t)
      have HNG := Lib.hid (show needGo (ts.drop k) N = if wrongI t ≠ 0 then (wrongI t, N) else needGo (ts.drop (k + 1)) (N + sectorsN t) by rw [hDR, needGo])
      obtain ⟨we, hwe⟩ : ∃ z, Hid (wrongI t = z) := ⟨_, Lib.hid rfl⟩
      obtain ⟨se, hse⟩ : ∃ z : Nat, Hid (sectorsN t = z) := ⟨_, Lib.hid rfl⟩
      obtain ⟨tb_, TB⟩ : ∃ b : ByteArray, Hid (⟨t.toArray⟩ = b) := ⟨_, Lib.hid rfl⟩
      rw [hwe.out, TB.out] at HWR
      rw [hse.out, TB.out] at HSE
      rw [hwe.out, hse.out] at HNG HWL
      rw [TB.out] at hc1
      clear hh htt hss hc hDR hT1 hlt hk'
      go_wp2_with fail
      refine HWR.out.mono ?_
      rintro e w1 ⟨rfl, rfl⟩
      by_cases h0 : we = 0
      · have hs32 := (HWL.out h0).2
        have hN3 : N ≤ 96000 := by omega
        subst h0
        go_wp2_with fail
        refine HSE.out.mono ?_
        rintro e w1 ⟨rfl, rfl⟩
        go_wp2_with fail
        go_roundg (nT + 1 - (k + 1))
        case measure => omega
        case rel => exact ⟨k + 1, N + se, rfl, by omega, by go_num, by go_num, by omega, Lib.hid (by rw [HE.out, HNG.out, if_neg (by simp)]), rfl⟩
      · have HR := Lib.hid (show compactL d L ts = ⟨we, d, L⟩ by
          unfold compactL
          simp only [HE.out, HNG.out]
          rw [if_pos h0, if_pos h0])
        have q3 : (we != 0) = true := by simpa using h0
        have q4 : (we == 0) = false := by simpa using h0
        clear h0
        go_wp2_with fail
        go_ret
        rw [HR.out]
        exact ⟨rfl, (LgStep.refl H.out).next⟩
    · obtain rfl : k = nT := by omega
      have HX := Lib.hid (show needGo ts 0 = (0, N) by rw [HE.out, List.drop_eq_nil_of_le (Nat.le_of_eq HT.out.len), needGo])
      have HTL := Lib.hid (needGo_ok ts 0 (by rw [HX.out]))
      have m0 : wr.cell? ⟨p, 0, none⟩ = some (.pointer (some ⟨g, 0, none⟩)) := H.out.m.hp.cell 0
      have m1 : wr.cell? ⟨p, 1, none⟩ = some (.int .i64 (L.a : Nat)) := H.out.m.hp.cell 1
      have m2 : wr.cell? ⟨p, 2, none⟩ = some (.int .i64 (L.n : Nat)) := H.out.m.hp.cell 2
      have m3 : wr.cell? ⟨p, 3, none⟩ = some (.int .i64 (L.gen : Nat)) := H.out.m.hp.cell 3
      obtain ⟨n, hn_⟩ : ∃ n, Hid (L.n = n) := ⟨_, Lib.hid rfl⟩
      obtain ⟨a, ha_⟩ : ∃ a, Hid (L.a = a) := ⟨_, Lib.hid rfl⟩
      obtain ⟨G, hG_⟩ : ∃ G, Hid (L.gen = G) := ⟨_, Lib.hid rfl⟩
      rw [ha_.out] at m1 ha
      rw [hn_.out] at m2 hn ha hw
      rw [hG_.out] at m3 hg
      have e1 : decide ((k : Int) < (k : Int)) = false := decide_eq_false (by omega)
      have e2 : (n : Int) ≤ 10000 := by omega
      have e3 : (N : Int) ≤ 96000 := by omega
      have e4 : (G : Int) ≤ 2147483647 := by omega
      clear hlt HE
      by_cases hsp : (n : Int) - 1 < (N : Int)
      · have HR := Lib.hid (show compactL d L ts = ⟨151, d, L⟩ by
          unfold compactL
          simp only [HX.out, hn_.out]
          rw [if_neg (by simp), if_pos hsp])
        go_wp2_with fail
        go_ret
        rw [HR.out]
        exact ⟨rfl, (LgStep.refl H.out).next⟩
      · have q1 : decide ((n : Int) - 1 < (N : Int)) = false := decide_eq_false hsp
        have q2 : (N : Int) ≤ (n : Int) - 1 := by omega
        have HSP := Lib.hid hsp
        clear hsp
        by_cases hg0 : G = 2147483647
        · have HR := Lib.hid (show compactL d L ts = ⟨2, d, L⟩ by
            unfold compactL
            simp only [HX.out, hn_.out, hG_.out]
            rw [if_neg (by simp), if_neg HSP.out, if_pos hg0])
          subst hg0
          go_wp2_with fail
          go_ret
          rw [HR.out]
          exact ⟨rfl, (LgStep.refl H.out).next⟩
        · have q3 : ((G : Int) == 2147483647) = false := by simp; omega
          have q4 : (G == 2147483647) = false := by simpa using hg0
          have HG0 := Lib.hid hg0
          clear hg0
          go_upto_region 15 with fail
          obtain ⟨hb, hhb⟩ : ∃ b, Hid (wr.heap.size = b) := ⟨_, Lib.hid rfl⟩
          refine gen_world (fun W => Hid (Below wr.heap.size wr W) ∧ Hid (Blk W hb 70 #[.pointer (some ⟨g, 0, none⟩), .int .i64 (a : Nat), .int .i64 (n : Nat)])) ⟨Lib.hid ((Below.refl _ _).alloc (Nat.le_refl _) _), Lib.hid (by rw [← hhb.out]; exact Blk.new _ _ _)⟩ ?_
          clear m0 m1 m2 m3
          rintro w2 ⟨A2, M2⟩
          rw [hhb.out]
          have HBP := Lib.hid (show p < hb by rw [← hhb.out]; exact H.out.m.hp.lt)
          have W2 := Lib.hid (below_step A2.out H.out)
          have m1 : w2.cell? ⟨p, 1, none⟩ = some (.int .i64 (a : Nat)) := by rw [← ha_.out]; exact W2.out.lw.m.hp.cell 1
          have m2 : w2.cell? ⟨p, 2, none⟩ = some (.int .i64 (n : Nat)) := by rw [← hn_.out]; exact W2.out.lw.m.hp.cell 2
          have n1 : w2.cell? ⟨hb, 1, none⟩ = some (.int .i64 (a : Nat)) := M2.out.cell 1
          have f1 : w2.frozen? ⟨hb, 1, none⟩ = false := M2.out.frozen 1
          obtain ⟨o, ho⟩ : ∃ o : Nat, Hid (n - a = o) := ⟨_, Lib.hid rfl⟩
          have hsub : (n : Int) - (a : Int) = (o : Int) := by have := ho.out; omega
          have ho2 : 0 ≤ (o : Int) ∧ (o : Int) ≤ 10000 := by omega
          have hwo : IntKind.i64.wrap ((n : Int) - (a : Int)) = (o : Int) := by rw [IntKind.wrap_i64]; omega
          refine still_tail 12 (by kernel_rfl) (by kernel_rfl) ?_
          simp only [List.take_succ_cons, List.take_zero, List.drop_succ_cons, List.drop_zero]
          repeat still_step
          refine wpStill_nil ?_
          have A3 := Lib.hid (show Below wr.heap.size wr w2.drew from ⟨A2.out.os, A2.out.tape, A2.out.output, A2.out.size, A2.out.block⟩)
          have M3 := Lib.hid (show Blk w2.drew hb 70 #[.pointer (some ⟨g, 0, none⟩), .int .i64 (a : Nat), .int .i64 (n : Nat)] from M2.out)
          have m1' : w2.drew.cell? ⟨p, 1, none⟩ = some (.int .i64 (a : Nat)) := m1
          have m2' : w2.drew.cell? ⟨p, 2, none⟩ = some (.int .i64 (n : Nat)) := m2
          have n1' : w2.drew.cell? ⟨hb, 1, none⟩ = some (.int .i64 (a : Nat)) := n1
          have f1' : w2.drew.frozen? ⟨hb, 1, none⟩ = false := f1
          clear m1 m2 n1 f1 A2 M2 W2
          generalize w2.drew = w3 at A3 M3 m1' m2' n1' f1' ⊢
          go_upto_region 16 with fail
          refine gen_world (fun W => Hid (Below wr.heap.size wr W) ∧ Hid (Blk W hb 70 #[.pointer (some ⟨g, 0, none⟩), .int .i64 (o : Nat), .int .i64 (n : Nat)])) ⟨Lib.hid (A3.out.setCell (p := ⟨hb, 1, none⟩) (by rw [← hhb.out]; exact Nat.le_refl _) _), Lib.hid (M3.out.set_ 1 (.int .i64 (o : Nat)))⟩ ?_
          clear m1' m2' n1' f1' A3 M3 hwo hsub
          rintro w4 ⟨A4, M4⟩
          have W4 := Lib.hid (below_step A4.out H.out)
          have m3 : w4.cell? ⟨p, 3, none⟩ = some (.int .i64 (G : Nat)) := by rw [← hG_.out]; exact W4.out.lw.m.hp.cell 3
          have n0 : w4.cell? ⟨hb, 0, none⟩ = some (.pointer (some ⟨g, 0, none⟩)) := M4.out.cell 0
          have n1 : w4.cell? ⟨hb, 1, none⟩ = some (.int .i64 (o : Nat)) := M4.out.cell 1
          have n2 : w4.cell? ⟨hb, 2, none⟩ = some (.int .i64 (n : Nat)) := M4.out.cell 2
          have hG1 : (G : Int) + 1 = ((G + 1 : Nat) : Int) := by omega
          have hGw : IntKind.i64.wrap ((G : Int) + 1) = ((G + 1 : Nat) : Int) := by rw [IntKind.wrap_i64]; omega
          obtain ⟨G1, hG1_⟩ : ∃ z : Nat, Hid (G + 1 = z) := ⟨_, Lib.hid rfl⟩
          rw [hG1_.out] at hG1 hGw
          have hG1w : IntKind.i64.wrap (G1 : Int) = (G1 : Int) := by rw [IntKind.wrap_i64]; omega
          have A5 := Lib.hid (show Below wr.heap.size wr w4.drew from ⟨A4.out.os, A4.out.tape, A4.out.output, A4.out.size, A4.out.block⟩)
          have W5 := Lib.hid (below_step A5.out H.out)
          have M5 := Lib.hid (show Blk w4.drew hb 70 #[.pointer (some ⟨g, 0, none⟩), .int .i64 (o : Nat), .int .i64 (n : Nat)] from M4.out)
          have HBE := Lib.hid ((lbegin_any W5.out.lw.d o n G1 A k c ts ((HT.out.below A5.out).mono (fun i hi h' => Nat.le_trans A5.out.size h')) W5.out.lw.k W5.out.lw.ks (by omega) (by omega) (by have := hG1_.out; omega) HTL.out (by omega) (by omega)).mono (fun _ _ h => h.tup))
          unfold hv at HBE
          obtain ⟨r, hr⟩ : ∃ r, Hid (beginL o n G1 ts d = r) := ⟨_, Lib.hid rfl⟩
          rw [hr.out] at HBE
          have HCB := Lib.hid (show compactL d L ts = if r.e ≠ 0 then ⟨r.e, r.d, L⟩ else r by
            unfold compactL
            simp only [HX.out, hn_.out, hG_.out, ha_.out, ho.out, hG1_.out, hr.out]
            rw [if_neg (by simp), if_neg HSP.out, if_neg HG0.out])
          refine start_ (n := 13) (S := fun w' => w'.cell? ⟨p, 3, none⟩ = some (.int .i64 (G : Nat)) ∧ w'.cell? ⟨hb, 0, none⟩ = some (.pointer (some ⟨g, 0, none⟩)) ∧ w'.cell? ⟨hb, 1, none⟩ = some (.int .i64 (o : Nat)) ∧ w'.cell? ⟨hb, 2, none⟩ = some (.int .i64 (n : Nat))) (ds := []) #[false, false, false, false, false, false, false, false, false, false, false, false, false] (by kernel_rfl) rfl rfl ⟨m3, n0, n1, n2⟩ (fun hHeld => ?_)
          refine with_tabW lgc16.tab lgc16.bits (fun HT_ HW_ => ?_)
          refine pure_ (i := 1) (N := some 61) (v := ?_) (a' := ?_) #[false, true, false, false, false, false, false, false, false, false, false, false, false] rfl rfl (any_of HT_.out (by kernel_rfl)) (fun _ _ _ h => h) (Or.inl ⟨by rfl, ?_⟩) ?_ ?_
          rotate_left
          · intro w'
            go_simp
            try with_reducible rfl
          rotate_left
          · simp only [Act.put, List.setIfInBounds_toArray, List.set_cons_zero, List.set_cons_succ]
            rfl
          refine pure_ (i := 2) (N := some 62) (v := ?_) (a' := ?_) #[false, true, true, false, false, false, false, false, false, false, false, false, false] rfl rfl (any_of HT_.out (by kernel_rfl)) (fun _ _ _ h => h) (Or.inl ⟨by rfl, ?_⟩) ?_ ?_
          rotate_left
          · intro w'
            go_simp
            try with_reducible rfl
          rotate_left
          · simp only [Act.put, List.setIfInBounds_toArray, List.set_cons_zero, List.set_cons_succ]
            rfl
          refine pure_ (i := 3) (N := some 63) (v := ?_) (a' := ?_) #[false, true, true, true, false, false, false, false, false, false, false, false, false] rfl rfl (any_of HT_.out (by kernel_rfl)) (fun _ _ _ h => h) (Or.inl ⟨by rfl, ?_⟩) ?_ ?_
          rotate_left
          · intro w'
            go_simp
            try with_reducible rfl
          rotate_left
          · simp only [Act.put, List.setIfInBounds_toArray, List.set_cons_zero, List.set_cons_succ]
            rfl
          refine pure_ (i := 6) (N := some 66) (v := ?_) (a' := ?_) #[false, true, true, true, false, false, true, false, false, false, false, false, false] rfl rfl (any_of HT_.out (by kernel_rfl)) (fun _ _ _ h => h) (Or.inl ⟨by rfl, ?_⟩) ?_ ?_
          rotate_left
          · intro w'
            go_simp
            try with_reducible rfl
          rotate_left
          · simp only [Act.put, List.setIfInBounds_toArray, List.set_cons_zero, List.set_cons_succ]
            rfl
          refine take_ (i := 0) (N := some 60) (v := ?_) (a' := ?_) #[true, true, true, true, false, false, true, false, false, false, false, false, false] rfl rfl (take_ofW HT_.out HW_.out (by kernel_rfl)) (fun _ _ _ h => h) (Or.inl ⟨by rfl, ?_⟩) hHeld ?_ ?_
          rotate_left
          · rintro w' ⟨s0, s1, s2, s3⟩
            go_simp
            try with_reducible rfl
          rotate_left
          · simp only [Act.put, List.setIfInBounds_toArray, List.set_cons_zero, List.set_cons_succ]
            rfl
          refine take_ (i := 4) (N := some 64) (v := ?_) (a' := ?_) #[true, true, true, true, true, false, true, false, false, false, false, false, false] rfl rfl (take_ofW HT_.out HW_.out (by kernel_rfl)) (fun _ _ _ h => h) (Or.inl ⟨by rfl, ?_⟩) hHeld ?_ ?_
          rotate_left
          · rintro w' ⟨s0, s1, s2, s3⟩
            go_simp
            try with_reducible rfl
          rotate_left
          · simp only [Act.put, List.setIfInBounds_toArray, List.set_cons_zero, List.set_cons_succ]
            rfl
          refine pure_ (i := 5) (N := some 65) (v := ?_) (a' := ?_) #[true, true, true, true, true, true, true, false, false, false, false, false, false] rfl rfl (any_of HT_.out (by kernel_rfl)) (fun _ _ _ h => h) (Or.inl ⟨by rfl, ?_⟩) ?_ ?_
          rotate_left
          · intro w'
            go_simp
            try with_reducible rfl
          rotate_left
          · simp only [Act.put, List.setIfInBounds_toArray, List.set_cons_zero, List.set_cons_succ]
            rfl
          refine one_ (i := 7) (N := some 67) #[true, true, true, true, true, true, true, true, false, false, false, false, false] rfl rfl (one_of HT_.out (by kernel_rfl)) (by decide) (fun K hK => ?_)
          refine goes_ Tryd.func40 (by kernel_rfl) rfl #[.agg #[.pointer (some ⟨g, 0, none⟩), .int .i64 (o : Nat), .int .i64 (n : Nat)], .int .i64 (G1 : Nat), .slice A k c] (by rfl) rfl rfl (by first | done | rfl | (simp only [List.map_toArray, List.map_cons, List.map_nil]; done) | (simp only [List.map_toArray, List.map_cons, List.map_nil]; rfl)) ?_
          refine (HBE.out).mono ?_
          rintro e' w6 ⟨pv, rfl, f6, h6⟩
          refine ⟨_, rfl, ?_⟩
          refine hK.out _ _ (⟨by rw [← hG_.out]; exact (W5.out.lw.m.fr f6).hp.cell 3, (M5.out.fr f6 (by unfold DkT; decide)).cell 0, (M5.out.fr f6 (by unfold DkT; decide)).cell 1, (M5.out.fr f6 (by unfold DkT; decide)).cell 2⟩) (fun hHeld => ?_)
          clear hK K
          refine norm_ (a' := ?_) ?_ ?_
          rotate_left
          · show Act.put _ (some 67) _ = _
            simp only [Act.put, List.setIfInBounds_toArray, List.set_cons_zero, List.set_cons_succ]
            rfl
          refine pure_ (i := 8) (N := some 59) (v := ?_) (a' := ?_) #[true, true, true, true, true, true, true, true, true, false, false, false, false] rfl rfl (any_of HT_.out (by kernel_rfl)) (fun _ _ _ h => h) (Or.inl ⟨by rfl, ?_⟩) ?_ ?_
          rotate_left
          · intro w'
            go_simp
            try with_reducible rfl
          rotate_left
          · simp only [Act.put, List.setIfInBounds_toArray, List.set_cons_zero, List.set_cons_succ]
            rfl
          refine pure_ (i := 9) (N := some 68) (v := ?_) (a' := ?_) #[true, true, true, true, true, true, true, true, true, true, false, false, false] rfl rfl (any_of HT_.out (by kernel_rfl)) (fun _ _ _ h => h) (Or.inl ⟨by rfl, ?_⟩) ?_ ?_
          rotate_left
          · intro w'
            go_simp
            try with_reducible rfl
          rotate_left
          · simp only [Act.put, List.setIfInBounds_toArray, List.set_cons_zero, List.set_cons_succ]
            rfl
          refine pure_ (i := 10) (N := some 69) (v := ?_) (a' := ?_) #[true, true, true, true, true, true, true, true, true, true, true, false, false] rfl rfl (any_of HT_.out (by kernel_rfl)) (fun _ _ _ h => h) (Or.inl ⟨by rfl, ?_⟩) ?_ ?_
          rotate_left
          · intro w'
            go_simp
            try with_reducible rfl
          rotate_left
          · simp only [Act.put, List.setIfInBounds_toArray, List.set_cons_zero, List.set_cons_succ]
            rfl
          refine pure_ (i := 11) (N := some 10) (v := ?_) (a' := ?_) #[true, true, true, true, true, true, true, true, true, true, true, true, false] rfl rfl (any_of HT_.out (by kernel_rfl)) (fun _ _ _ h => h) (Or.inl ⟨by rfl, ?_⟩) ?_ ?_
          rotate_left
          · intro w'
            go_simp
            try with_reducible rfl
          rotate_left
          · simp only [Act.put, List.setIfInBounds_toArray, List.set_cons_zero, List.set_cons_succ]
            rfl
          refine pure_ (i := 12) (N := some 11) (v := ?_) (a' := ?_) #[true, true, true, true, true, true, true, true, true, true, true, true, true] rfl rfl (any_of HT_.out (by kernel_rfl)) (fun _ _ _ h => h) (Or.inl ⟨by rfl, ?_⟩) ?_ ?_
          rotate_left
          · intro w'
            go_simp
            try with_reducible rfl
          rotate_left
          · simp only [Act.put, List.setIfInBounds_toArray, List.set_cons_zero, List.set_cons_succ]
            rfl
          refine done_ (done_of HT_.out (by kernel_rfl)) ?_
          clear HT_ HW_
          clear hHeld m3 n0 n1 n2
          have F6 := Lib.hid f6
          rcases h6 with ⟨h0, l, v6, rfl, hW, hS⟩ | ⟨h0, rfl, hW⟩
          · have HR := Lib.hid (show compactL d L ts = r by rw [HCB.out, if_neg (by rw [h0]; simp)])
            have R6 := Lib.hid hW
            have S6 := Lib.hid hS
            have H0 := Lib.hid h0
            have W6 := Lib.hid ((W5.out).fr F6.out hW.d)
            obtain ⟨re, hre⟩ : ∃ z, Hid (r.e = z) := ⟨_, Lib.hid rfl⟩
            rw [hre.out] at h0 ⊢
            subst h0
            clear hW hS HBE
            have s0 : w6.cell? ⟨l, 0, none⟩ = some (.pointer (some ⟨g, 0, none⟩)) := R6.out.m.hp.cell 0
            have s1 : w6.cell? ⟨l, 1, none⟩ = some (.int .i64 (r.L.a : Nat)) := R6.out.m.hp.cell 1
            have s2 : w6.cell? ⟨l, 2, none⟩ = some (.int .i64 (r.L.n : Nat)) := R6.out.m.hp.cell 2
            have s3 : w6.cell? ⟨l, 3, none⟩ = some (.int .i64 (r.L.gen : Nat)) := R6.out.m.hp.cell 3
            have s4 : w6.cell? ⟨l, 4, none⟩ = some (.string ⟨r.L.mark.toArray⟩) := R6.out.m.hp.cell 4
            have s5 : w6.cell? ⟨l, 5, none⟩ = some (.int .i64 (r.L.next : Nat)) := R6.out.m.hp.cell 5
            have s6 : w6.cell? ⟨l, 6, none⟩ = some v6 := R6.out.m.hp.cell 6
            obtain ⟨xa, hxa⟩ : ∃ z : Int, Hid ((r.L.a : Int) = z) := ⟨_, Lib.hid rfl⟩
            obtain ⟨xn, hxn⟩ : ∃ z : Int, Hid ((r.L.n : Int) = z) := ⟨_, Lib.hid rfl⟩
            obtain ⟨xg, hxg⟩ : ∃ z : Int, Hid ((r.L.gen : Int) = z) := ⟨_, Lib.hid rfl⟩
            obtain ⟨xm, hxm⟩ : ∃ z : ByteArray, Hid (⟨r.L.mark.toArray⟩ = z) := ⟨_, Lib.hid rfl⟩
            obtain ⟨xx, hxx⟩ : ∃ z : Int, Hid ((r.L.next : Int) = z) := ⟨_, Lib.hid rfl⟩
            rw [hxa.out] at s1
            rw [hxn.out] at s2
            rw [hxg.out] at s3
            rw [hxm.out] at s4
            rw [hxx.out] at s5
            have HP := Lib.hid W6.out.lw.m.hp
            have d0 : w6.cell? ⟨p, 0, none⟩ = some (.pointer (some ⟨g, 0, none⟩)) := HP.out.cell 0
            have d1 : w6.cell? ⟨p, 1, none⟩ = some (.int .i64 (L.a : Nat)) := HP.out.cell 1
            have d2 : w6.cell? ⟨p, 2, none⟩ = some (.int .i64 (L.n : Nat)) := HP.out.cell 2
            have d3 : w6.cell? ⟨p, 3, none⟩ = some (.int .i64 (L.gen : Nat)) := HP.out.cell 3
            have d4 : w6.cell? ⟨p, 4, none⟩ = some (.string ⟨L.mark.toArray⟩) := HP.out.cell 4
            have d5 : w6.cell? ⟨p, 5, none⟩ = some (.int .i64 (L.next : Nat)) := HP.out.cell 5
            have d6 : w6.cell? ⟨p, 6, none⟩ = some v := HP.out.cell 6
            have f0 : w6.frozen? ⟨p, 0, none⟩ = false := HP.out.frozen 0
            have f1 : w6.frozen? ⟨p, 1, none⟩ = false := HP.out.frozen 1
            have f2 : w6.frozen? ⟨p, 2, none⟩ = false := HP.out.frozen 2
            have f3 : w6.frozen? ⟨p, 3, none⟩ = false := HP.out.frozen 3
            have f4 : w6.frozen? ⟨p, 4, none⟩ = false := HP.out.frozen 4
            have f5 : w6.frozen? ⟨p, 5, none⟩ = false := HP.out.frozen 5
            have f6' : w6.frozen? ⟨p, 6, none⟩ = false := HP.out.frozen 6
            obtain ⟨A6, c6, hv6, _, _⟩ := R6.out.m.ho.form
            obtain ⟨n6, hn6⟩ : ∃ z, Hid ((cstr r.L.l).length = z) := ⟨_, Lib.hid rfl⟩
            rw [hn6.out] at hv6
            rw [hv6] at s6
            have HV6 := Lib.hid hv6
            clear hv6
            go_wp2_with fail
            go_ret
            rw [HR.out, H0.out]
            refine ⟨rfl, LgStep.next (v' := v6) ?_⟩
            have hb := ((((((HP.out.set_ 0 (.pointer (some ⟨g, 0, none⟩))).set_ 1 (.int .i64 xa)).set_ 2 (.int .i64 xn)).set_ 3 (.int .i64 xg)).set_ 4 (.string xm)).set_ 5 (.int .i64 xx)).set_ 6 v6
            rw [← HV6.out]
            have hcs : ((((((((lgC g v L).setIfInBounds 0 (.pointer (some ⟨g, 0, none⟩))).setIfInBounds 1 (.int .i64 xa)).setIfInBounds 2 (.int .i64 xn)).setIfInBounds 3 (.int .i64 xg)).setIfInBounds 4 (.string xm)).setIfInBounds 5 (.int .i64 xx)).setIfInBounds 6 v6) = lgC g v6 r.L := by
              rw [← hxa.out, ← hxn.out, ← hxg.out, ← hxm.out, ← hxx.out]
              rfl
            rw [hcs] at hb
            have hkp : ∀ (W : World) (i : Nat) (u : Value), Kp (fun j => j = p) W (W.setCell ⟨p, i, none⟩ u) := fun W i u => Kp.set_ (S := fun j => j = p) rfl i u
            have k7 := ((((((hkp w6 0 (.pointer (some ⟨g, 0, none⟩))).trans (hkp _ 1 (.int .i64 xa))).trans (hkp _ 2 (.int .i64 xn))).trans (hkp _ 3 (.int .i64 xg))).trans (hkp _ 4 (.string xm))).trans (hkp _ 5 (.int .i64 xx))).trans (hkp _ 6 v6)
            have hfar : v6.ownBlock ≠ some p := fun e => by
              have h1 := S6.out p (.inr e)
              have h2 : p < wr.heap.size := H.out.m.hp.lt
              have h3 := A5.out.size
              omega
            have hF := k7.below (B := B) (fun i hi => by rw [hi]; exact H.out.m.b) R6.out.d.hB
            refine ⟨⟨⟨hb, R6.out.m.ho.kp k7 (fun b hb2 e => hfar (by rw [← e]; exact hb2)), H.out.m.b⟩, ?_, ?_, H.out.ks⟩, fun i hi => .inr (Nat.le_trans A5.out.size (S6.out i (.inr hi))), ⟨W6.out.f.b.trans hF, fun q cs t fz hq ht hs => ?_⟩⟩
            · exact R6.out.d.kp k7 (fun i cs t hi hk => by
                rw [hi] at hk
                rw [(hk.type HP.out).1]; unfold DkT; decide)
            · exact fun i hi => (hF.cell (p := ⟨0, i, none⟩) H.out.ks).trans (R6.out.k i hi)
            · have e := W6.out.f.f q cs t fz hq ht hs
              exact (k7.block q (heap_lt (e.trans hq)) (fun e2 => hs (.inl e2))).trans e
          · have HR := Lib.hid (show compactL d L ts = ⟨r.e, r.d, L⟩ by rw [HCB.out, if_pos h0])
            have W6 := Lib.hid ((W5.out).fr F6.out hW)
            obtain ⟨re, hre⟩ : ∃ z, Hid (r.e = z) := ⟨_, Lib.hid rfl⟩
            rw [hre.out] at h0 HR ⊢
            have q5 : (re != 0) = true := by simpa using h0
            have q6 : (re == 0) = false := by simpa using h0
            clear hW h0 HBE
            go_wp2_with fail
            go_ret
            rw [HR.out]
            exact ⟨rfl, W6.out.next⟩
end Go.Proofs.YteajpebkanamgaaDoor
namespace Go.Proofs.YteajpebkanamgaaDoor
set_option linter.unusedSimpArgs false
set_option linter.unusedVariables false
attribute [local irreducible] sha
section
variable {d d' : Dk} {L : Lg} {hd : List UInt8}
theorem LgIs.head (h : LgIs hd d L) (hn : 1 ≤ L.n) : d.l.getD L.a [] = hd := by
  have := h.half.at_ 0 (by omega)
  rw [Nat.add_zero] at this
  rw [this]
  unfold chunkL
  rw [Nat.mul_zero, List.drop_zero, List.take_append_of_le_length (by rw [h.hd]; exact Nat.le_refl _), List.take_of_length_le (by rw [h.hd]; exact Nat.le_refl _)]
/-- the head is written. -/
theorem LgIs.headed (h : LgIs hd d L) (hn : 1 ≤ L.n) (hd' : List UInt8) (hl : hd'.length = 64) : LgIs hd' (d.put L.a hd') L := by
  refine ⟨h.calm, ⟨?_, ?_, ?_⟩, h.mark, h.next, h.fit, hl⟩
  · have := h.half.len
    rw [List.length_append, h.hd] at this
    rw [List.length_append, hl]; exact this
  · rw [put_len]; exact h.half.fit
  · intro k hk
    have hf := h.half.fit
    by_cases h0 : k = 0
    · subst h0
      rw [Nat.add_zero, put_at _ _ _ (by omega)]
      unfold chunkL
      rw [Nat.mul_zero, List.drop_zero, List.take_append_of_le_length (by rw [hl]; exact Nat.le_refl _), List.take_of_length_le (by rw [hl]; exact Nat.le_refl _)]
    · obtain ⟨j, rfl⟩ : ∃ j, k = 1 + j := ⟨k - 1, by omega⟩
      rw [put_far _ _ _ _ (by omega), h.half.at_ _ hk, chunkL_append_right _ _ 1 j (by rw [h.hd]), chunkL_append_right _ _ 1 j (by rw [hl])]
theorem LgIs.of_l (h : LgIs hd d L) (hc : d'.Calm) (hl : d'.l = d.l) : LgIs hd d' L := ⟨hc, ⟨h.half.len, by rw [hl]; exact h.half.fit, by rw [hl]; exact h.half.at_⟩, h.mark, h.next, h.fit, h.hd⟩
theorem beginL_is (hc : d.Calm) (a n gen : Nat) (ts : List (List UInt8)) (hf : a + n ≤ d.l.length) (hs : 1 + sumSec ts ≤ n) :
    ∃ d', beginL a n gen ts d = ⟨0, d', ⟨a, n, gen, endMark (hmark gen) ts, 1 + sumSec ts, ts⟩⟩ ∧ LgIs (begunL gen) d' ⟨a, n, gen, endMark (hmark gen) ts, 1 + sumSec ts, ts⟩ ∧ d'.l.length = d.l.length ∧ d'.w = [] ∧ ∀ i, ¬ (a ≤ i ∧ i < a + n) → d'.l.getD i [] = d.l.getD i [] := by
  obtain ⟨dc, c1, c2, c3, c4, c5, c6, _⟩ := cleanL_calm a n 0 d hc (Nat.zero_le _) hf
  have h0 : LgIs zs64 dc ⟨a, n, gen, hmark gen, 1, []⟩ := by
    refine ⟨c2, ⟨?_, ?_, ?_⟩, rfl, rfl, show 1 ≤ n by omega, by decide⟩
    · show (zs64 ++ ([] ++ List.replicate (64 * (n - 1)) 0)).length = 64 * n
      rw [List.nil_append, List.length_append, List.length_replicate]
      show 64 + _ = _
      omega
    · show a + n ≤ dc.l.length
      rw [c3]; exact hf
    · intro k hk
      show dc.l.getD (a + k) [] = chunkL (zs64 ++ ([] ++ List.replicate (64 * (n - 1)) 0)) k
      have hk' : k < n := hk
      rw [c5 k (Nat.zero_le _) hk, List.nil_append]
      unfold zs64
      rw [List.replicate_append_replicate]
      exact (chunkL_zeros _ _ (by omega)).symm
  obtain ⟨d1, p1, p2, p3⟩ := putsGo_is ts dc _ h0 (show 1 + sumSec ts ≤ n from hs)
  rw [show ({ (⟨a, n, gen, hmark gen, 1, []⟩ : Lg) with l := [] ++ ts, mark := endMark (hmark gen) ts, next := 1 + sumSec ts } : Lg) = ⟨a, n, gen, endMark (hmark gen) ts, 1 + sumSec ts, ts⟩ from by rw [List.nil_append]] at p1 p2
  have hlen : d1.l.length = d.l.length := p3.len.trans c3
  have e1 := beginL_yes a n gen ts d d1 _ (by rw [c1]) (by rw [c1]; exact p1)
  have hcs : Dk.Calm { d1 with w := [] } := p2.calm
  have hw := calm_write hcs a (show a < d1.l.length by omega) (begunL gen) (begunL_length gen)
  refine ⟨{ (Dk.put { d1 with w := [] } a (begunL gen)) with w := [] }, ?_, ?_, ?_, rfl, ?_⟩
  · rw [e1]
    unfold begEnd
    rw [calm_sync p2.calm]
    simp only
    rw [if_neg (by simp), hw]
    simp only
    rw [if_neg (by simp), calm_sync (put_calm hcs a (begunL gen))]
    simp only
    rw [if_neg (by simp)]
  · have q := (p2.of_l (d' := { d1 with w := [] }) hcs rfl).headed (show 1 ≤ n by omega) (begunL gen) (begunL_length gen)
    exact q.of_l hcs rfl
  · show (Dk.put { d1 with w := [] } a (begunL gen)).l.length = _
    rw [put_len]; exact hlen
  · intro i hi
    show (Dk.put { d1 with w := [] } a (begunL gen)).l.getD i [] = _
    rw [put_far _ _ _ _ (by omega)]
    show d1.l.getD i [] = _
    rw [p3.far i (fun h => hi ⟨by have : a + 1 ≤ i := h.1; omega, h.2⟩), c4 i (by omega)]
theorem beN_be4 (g : Nat) (h : g < 4294967296) : beN (be4 g) = g := by
  unfold beN be4
  simp only [List.foldl_cons, List.foldl_nil]
  rw [UInt8.toNat_ofNat', UInt8.toNat_ofNat', UInt8.toNat_ofNat', UInt8.toNat_ofNat']
  omega
theorem genL_begun (g : Nat) (h1 : 1 ≤ g) (h2 : g ≤ 2147483647) : genL (begunL g) = g := by
  refine genL_yes _ g ?_ h1 h2 rfl
  have : ((begunL g).drop 4).take 4 = be4 g := by
    unfold begunL padL headL
    generalize hmark g = m
    rw [List.append_assoc, List.append_assoc]
    rfl
  rw [this, beN_be4 g (by omega)]
theorem genL_zero : genL zs64 = 0 := genL_no zs64 0 (by decide) (.inl (by decide))
/-- a log that is in use: what is on its disk. -/
structure LgGood (d : Dk) (L : Lg) : Prop where
  is_ : LgIs (begunL L.gen) d L
  size : d.l.length / 2 = L.n
  two : 2 ≤ L.n
  a : L.a = 0 ∨ L.a = L.n
  gen : 1 ≤ L.gen ∧ L.gen ≤ 2147483647
  other : genL (d.l.getD (L.n - L.a) []) < L.gen
  ts : ∀ t ∈ L.l, 1 ≤ t.length ∧ t.length ≤ 2000
theorem LgGood.of_l (h : LgGood d L) (hc : d'.Calm) (hl : d'.l = d.l) : LgGood d' L := ⟨h.is_.of_l hc hl, by rw [hl]; exact h.size, h.two, h.a, h.gen, by rw [hl]; exact h.other, h.ts⟩
theorem LgGood.calm (h : LgGood d L) : d.Calm := h.is_.calm
theorem LgGood.mark_le (h : LgGood d L) : L.mark.length = 16 := by rw [h.is_.mark]; exact endMark_length _ _ (hmark_length _)
theorem sectorsN_pos (t : List UInt8) : 1 ≤ sectorsN t := by unfold sectorsN; omega
theorem len_sum (ts : List (List UInt8)) : ts.length ≤ sumSec ts := by
  induction ts with
  | nil => exact Nat.le_refl _
  | cons t r ih => rw [sumSec_cons, List.length_cons]; have := sectorsN_pos t; omega
theorem LgGood.l_le (h : LgGood d L) : L.l.length ≤ L.n := by have := len_sum L.l; have := h.is_.next; have := h.is_.fit; omega
theorem wrong_no (t : List UInt8) (h : 1 ≤ t.length ∧ t.length ≤ 2000) : wrongI t = 0 := by
  unfold wrongI
  rw [if_neg (by intro e; rw [e] at h; simp at h), if_neg (by omega)]
theorem openL_is (h : LgGood d L) : openL d = ⟨0, d, L⟩ := by
  have hf := h.is_.half.fit
  have hsz := h.size
  have h2 := h.two
  have hrd : ∀ i, i < d.l.length → d.read (i : Int) = (d.l.getD i [], 0) := fun i hi => calm_read h.calm i hi
  have hlen : L.n < d.l.length := by omega
  have hhead := h.is_.head (by omega)
  have hX : openG L.n (genL (d.l.getD 0 [])) (genL (d.l.getD L.n [])) = (L.a, L.gen) := by
    have ho := h.other
    have hg := genL_begun L.gen h.gen.1 h.gen.2
    unfold openG
    rcases h.a with ha | ha
    · rw [ha] at hhead ho
      rw [hhead, hg, if_neg (by rw [Nat.sub_zero] at ho; omega), ha]
    · rw [ha] at hhead
      rw [ha, Nat.sub_self] at ho
      rw [hhead, hg, if_pos ho, ha]
  have hld : loadL d ⟨L.a, L.n, L.gen, hmark L.gen, 1, []⟩ = ⟨0, d, L⟩ := by
    have hr := range_reads d h.calm.2 L.a L.n _ h.is_.half (L.n - 1) 1 [] (by omega)
    rw [List.nil_append, show 64 * 1 = (begunL L.gen).length by rw [begunL_length], List.drop_left] at hr
    have hrec := recsGo_recs L.l h.ts (recsB (hmark L.gen) L.l ++ List.replicate (64 * (L.n - L.next)) 0).length (64 * (L.n - L.next)) ⟨L.a, L.n, L.gen, hmark L.gen, 1, []⟩ (by
      rw [List.length_append, recsB_length]
      have := len_sum L.l
      omega)
    have hL : ({ (⟨L.a, L.n, L.gen, hmark L.gen, 1, []⟩ : Lg) with l := [] ++ L.l, mark := endMark (hmark L.gen) L.l, next := 1 + sumSec L.l } : Lg) = L := by
      rw [List.nil_append, ← h.is_.mark, ← h.is_.next]
    obtain ⟨d', k1, k2, k3, k4, k5, k6, k7⟩ := cleanL_calm L.a L.n L.next d h.calm h.is_.fit hf
    have hd' : d' = d := k7 (fun j hj1 hj2 => by
      rw [h.is_.half.at_ j hj2]
      have hHR : (begunL L.gen ++ recsB (hmark L.gen) L.l).length = 64 * L.next := by rw [List.length_append, begunL_length, recsB_length, h.is_.next]; omega
      obtain ⟨i, rfl⟩ : ∃ i, j = L.next + i := ⟨j - L.next, by omega⟩
      rw [← List.append_assoc, chunkL_append_right _ _ _ _ hHR, chunkL_zeros _ _ (by omega)])
    rw [loadL_ok d ⟨L.a, L.n, L.gen, hmark L.gen, 1, []⟩ L _ hr (by rw [hL] at hrec; exact hrec)]
    show (⟨(cleanL L.a L.n L.next d).1, (cleanL L.a L.n L.next d).2, L⟩ : LgOut) = _
    rw [k1, hd']
  unfold openL
  simp only [hsz]
  rw [if_neg (by omega), hrd 0 (by omega), if_neg (by simp), hrd L.n hlen, if_neg (by simp), hX]
  simp only
  rw [if_neg (by have := h.gen.1; omega), hld]
theorem openL_new (m : Nat) (hm : 4 ≤ m) (d : Dk) (hd : d = Dk.new m) : ∃ d', openL d = ⟨0, d', ⟨0, m / 2, 1, hmark 1, 1, []⟩⟩ ∧ LgGood d' ⟨0, m / 2, 1, hmark 1, 1, []⟩ ∧ d'.l.length = m ∧ d'.w = [] := by
  have hl : d.l.length = m := by rw [hd]; simp [Dk.new]
  have hc : d.Calm := by rw [hd]; exact ⟨rfl, rfl⟩
  have hz : ∀ i, i < m → d.l.getD i [] = zs64 := fun i hi => by
    rw [hd]
    show (List.replicate m _).getD i [] = _
    rw [List.getD_eq_getElem?_getD, List.getElem?_replicate, if_pos hi]; rfl
  obtain ⟨d', b1, b2, b3, b4, b5⟩ := beginL_is hc 0 (m / 2) 1 [] (by omega) (by simp [sumSec]; omega)
  have hs0 : 1 + sumSec [] = 1 := rfl
  rw [hs0] at b1 b2
  refine ⟨d', ?_, ⟨b2, by rw [b3, hl], show 2 ≤ m / 2 by omega, .inl rfl, ⟨Nat.le_refl _, show 1 ≤ 2147483647 by decide⟩, ?_, fun t ht => by cases ht⟩, by rw [b3, hl], b4⟩
  · unfold openL
    simp only [hl]
    rw [if_neg (by omega), calm_read hc 0 (by omega), if_neg (by simp), calm_read hc (m / 2) (by omega), if_neg (by simp)]
    simp only
    rw [hz 0 (by omega), hz (m / 2) (by omega), genL_zero]
    exact b1
  · show genL (d'.l.getD (m / 2 - 0) []) < 1
    rw [b5 _ (by omega), hz _ (by omega), genL_zero]
    decide
theorem appendL_is (h : LgGood d L) (t : List UInt8) (ht : 1 ≤ t.length ∧ t.length ≤ 2000) (hr : L.next + sectorsN t ≤ L.n) :
    ∃ d', appendL d L t = ⟨0, d', L.took t (ownL L.mark t) (sectorsN t)⟩ ∧ LgGood d' (L.took t (ownL L.mark t) (sectorsN t)) ∧ d'.base = d.base ∧ d'.w.length ≤ d.w.length + sectorsN t ∧ d'.l.length = d.l.length := by
  obtain ⟨d', p1, p2, p3⟩ := putL_is h.is_ t hr
  refine ⟨d', ?_, ⟨p2, ?_, h.two, h.a, h.gen, ?_, ?_⟩, p3.base, p3.w, p3.len⟩
  · unfold appendL roomI
    rw [wrong_no t ht, if_neg (by simp), if_neg (by omega), p1]
  · rw [p3.len]; exact h.size
  · show genL (d'.l.getD (L.n - L.a) []) < L.gen
    rw [p3.far _ (fun hi => by
      have := h.is_.next
      rcases h.a with ha | ha <;> rw [ha] at hi <;> omega)]
    exact h.other
  · intro u hu
    rcases List.mem_append.1 hu with hu | hu
    · exact h.ts u hu
    · rw [List.mem_singleton.1 hu]; exact ht
theorem appendL_full (L : Lg) (d : Dk) (t : List UInt8) (ht : 1 ≤ t.length ∧ t.length ≤ 2000) (hr : L.n < L.next + sectorsN t) : appendL d L t = ⟨151, d, L⟩ := by
  unfold appendL roomI
  rw [wrong_no t ht, if_neg (by simp), if_pos (by omega)]
theorem needGo_is (ts : List (List UInt8)) (h : ∀ t ∈ ts, 1 ≤ t.length ∧ t.length ≤ 2000) : ∀ n, needGo ts n = (0, n + sumSec ts) := by
  induction ts with
  | nil => intro n; rfl
  | cons t r ih =>
    intro n
    rw [needGo, wrong_no t (h t (List.mem_cons_self ..)), if_neg (by simp), ih (fun u hu => h u (List.mem_cons_of_mem _ hu)), sumSec_cons, Nat.add_assoc]
theorem compactL_is (h : LgGood d L) (ts : List (List UInt8)) (ht : ∀ t ∈ ts, 1 ≤ t.length ∧ t.length ≤ 2000) (hs : 1 + sumSec ts ≤ L.n) (hg : L.gen < 2147483647) :
    ∃ d', compactL d L ts = ⟨0, d', ⟨L.n - L.a, L.n, L.gen + 1, endMark (hmark (L.gen + 1)) ts, 1 + sumSec ts, ts⟩⟩ ∧ LgGood d' ⟨L.n - L.a, L.n, L.gen + 1, endMark (hmark (L.gen + 1)) ts, 1 + sumSec ts, ts⟩ ∧ d'.w = [] ∧ d'.l.length = d.l.length := by
  have hf := h.is_.half.fit
  have hsz := h.size
  have h2 := h.two
  obtain ⟨d', b1, b2, b3, b4, b5⟩ := beginL_is h.calm (L.n - L.a) L.n (L.gen + 1) ts (by rcases h.a with ha | ha <;> omega) hs
  refine ⟨d', ?_, ⟨b2, by rw [b3]; exact hsz, h2, ?_, ⟨show 1 ≤ L.gen + 1 by omega, show L.gen + 1 ≤ 2147483647 by omega⟩, ?_, ht⟩, b4, b3⟩
  · unfold compactL
    rw [needGo_is ts ht 0]
    simp only
    rw [if_neg (by simp), if_neg (by omega), if_neg (by omega), b1]
    simp
  · show L.n - L.a = 0 ∨ L.n - L.a = L.n
    rcases h.a with ha | ha <;> omega
  · show genL (d'.l.getD (L.n - (L.n - L.a)) []) < L.gen + 1
    rw [show L.n - (L.n - L.a) = L.a by rcases h.a with ha | ha <;> omega]
    rw [b5 _ (by rcases h.a with ha | ha <;> omega), h.is_.head (by omega), genL_begun _ h.gen.1 h.gen.2]
    omega
end
end Go.Proofs.YteajpebkanamgaaDoor
namespace Go.Proofs.YteajpebkanamgaaDoor
open Go.RowKit
set_option linter.unusedSimpArgs false
set_option linter.unusedVariables false
set_option maxRecDepth 20000
theorem getD_ne {L L' : List (List UInt8)} {k : Nat} (h : L.getD k [] ≠ L'.getD k []) : L ≠ L' := fun e => h (by rw [e])
theorem ext_getD {L L' : List (List UInt8)} (h1 : L.length = L'.length) (h2 : ∀ k, k < L.length → L.getD k [] = L'.getD k []) : L = L' := by
  refine List.ext_getElem h1 (fun k a b => ?_)
  have := h2 k a
  rw [List.getD_eq_getElem?_getD, List.getD_eq_getElem?_getD, List.getElem?_eq_getElem a, List.getElem?_eq_getElem b] at this
  exact this
def sameB (L L' : List (List UInt8)) : Bool := L == L'
theorem sameB_yes {L L' : List (List UInt8)} (h : L = L') : sameB L L' = true := by unfold sameB; rw [h]; exact beq_self_eq_true _
theorem sameB_no {L L' : List (List UInt8)} (h : L ≠ L') : sameB L L' = false := by unfold sameB; exact beq_eq_false_iff_ne.mpr h
set_option maxHeartbeats 1600000 in
theorem sameT_any (A A' : Option Addr) (n n' c c' : Nat) (L L' : List (List UInt8)) (w : World) (h : Strs w A n L) (h' : Strs w A' n' L') (hn : n ≤ 140737488355328) :
    Calls Tryd.prog 18 #[.slice A n c, .slice A' n' c'] w fun e w' => e = .returned (.bool (sameB L L')) ∧ Below w.heap.size w w' := by
  by_cases hne : n = n'
  · subst hne
    have H := Lib.hid h
    have H' := Lib.hid h'
    clear h h'
    go_enter Tryd.func18, Tryd.ntmps18
    go_wp2_with fail
    go_loopg [5] (n + 1) (fun kq v5 wr => ∃ k m : Nat, k + kq = n + 1 ∧ k ≤ n ∧ v5 = .int .i64 k ∧ Hid (∀ j, j < k → L.getD j [] = L'.getD j []) ∧ wr = w.drewN m)
    case atStart => exact ⟨0, 0, by omega, by omega, rfl, Lib.hid (fun j hj => by omega), rfl⟩
    case round =>
      obtain ⟨k, m, hk, hk2, rfl, HE, rfl⟩ := hrel
      by_cases hlt : k < n
      · obtain ⟨g, o, rfl, hg, hc⟩ := H.out.2 (by omega)
        obtain ⟨g', o', rfl, hg', hc'⟩ := H'.out.2 (by omega)
        have c1 : w.cell? ⟨g, o + k, none⟩ = some (.string ⟨(L.getD k []).toArray⟩) := hc k hlt
        have c2 : w.cell? ⟨g', o' + k, none⟩ = some (.string ⟨(L'.getD k []).toArray⟩) := hc' k hlt
        have hxt : (⟨(L.getD k []).toArray⟩ : ByteArray).toList = L.getD k [] := by rw [ByteArray.toList_eq]
        have hyt : (⟨(L'.getD k []).toArray⟩ : ByteArray).toList = L'.getD k [] := by rw [ByteArray.toList_eq]
        obtain ⟨x, hx⟩ : ∃ x : ByteArray, Hid (⟨(L.getD k []).toArray⟩ = x) := ⟨_, Lib.hid rfl⟩
        obtain ⟨y, hy⟩ : ∃ x : ByteArray, Hid (⟨(L'.getD k []).toArray⟩ = x) := ⟨_, Lib.hid rfl⟩
        rw [hx.out] at c1 hxt
        rw [hy.out] at c2 hyt
        have e1 : (k : Int) < (n : Int) := by omega
        clear hc hc'
        by_cases hxy : L.getD k [] = L'.getD k []
        · have hq : (x.toList != y.toList) = false := by rw [hxt, hyt, hxy]; simp
          have hq2 : (x.toList == y.toList) = true := by rw [hxt, hyt, hxy]; simp
          have HXY := Lib.hid hxy
          clear hxt hyt hxy
          go_upto_region 6 with fail
          go_quiet (fail)
          go_wp2_with fail
          go_roundg (n - k)
          case measure => omega
          case rel => exact ⟨k + 1, _, by omega, by omega, by go_num, Lib.hid (fun j hj => by
            by_cases hjk : j = k
            · rw [hjk]; exact HXY.out
            · exact HE.out j (by omega)), rfl⟩
        · have hq : (x.toList != y.toList) = true := by rw [hxt, hyt]; simpa using hxy
          have hq2 : (x.toList == y.toList) = false := by rw [hxt, hyt]; simpa using hxy
          have HXY := Lib.hid (sameB_no (getD_ne hxy))
          clear hxt hyt hxy
          go_upto_region 6 with fail
          go_quiet (fail)
          go_wp2_with fail
          go_ret
          exact ⟨by rw [HXY.out]; rfl, below_drewN (below_drewN (Below.refl _ _) _) _⟩
      · obtain rfl : k = n := by omega
        have HXY := Lib.hid (sameB_yes (ext_getD (H.out.1.trans H'.out.1.symm) (fun j hj => HE.out j (by have := H.out.1; omega))))
        obtain rfl : gk = 1 := by omega
        clear hlt hk
        go_wp2_with fail
        go_ret
        exact ⟨by rw [HXY.out]; rfl, below_drewN (Below.refl _ _) _⟩
  · have hq : ((n : Int) != (n' : Int)) = true := by simpa using (show (n : Int) ≠ (n' : Int) by omega)
    have hq2 : ((n : Int) == (n' : Int)) = false := by simpa using (show (n : Int) ≠ (n' : Int) by omega)
    have HXY := Lib.hid (sameB_no (fun e : L = L' => hne (by rw [← h.1, ← h'.1, e])))
    clear hne h h'
    go_enter Tryd.func18, Tryd.ntmps18
    go_wp2_with fail
    go_ret
    exact ⟨by rw [HXY.out]; rfl, Below.refl _ _⟩
end Go.Proofs.YteajpebkanamgaaDoor
namespace Go.Proofs.YteajpebkanamgaaDoor
open Go.RowKit Go.Proofs.YteajpebkanamgaaDoorW.PrintWords Go.Proofs.YteajpebkanamgaaDoorW.PrintLast
set_option linter.unusedSimpArgs false
set_option linter.unusedVariables false
set_option maxRecDepth 20000
theorem own_strs {w : World} {B : Nat} {v : Value} {l : List (List UInt8)} (h : Own 9 w B v (cstr l)) : ∃ A c, v = .slice A l.length c ∧ Strs w A l.length l := by
  obtain ⟨A, c, hv⟩ := h.form
  rw [cstr_length] at hv
  refine ⟨A, c, hv, rfl, fun hn => ?_⟩
  subst hv
  obtain ⟨g, hA, hB, hlt⟩ := h.at_ (by rw [cstr_length]; exact hn)
  subst hA
  exact ⟨g, 0, rfl, hlt, fun i hi => by rw [Nat.zero_add, Own.cell (n := l.length) h i (by rw [cstr_length]; exact hi), cstr_get _ _ hi]⟩
/-- a log in use, in memory and on its disk. -/
structure Ls (B : Nat) (w : World) (p g : Nat) (v : Value) (L : Lg) (d : Dk) : Prop where
  w : LgW B w p g v L d
  g : LgGood d L
section
variable {B p g : Nat} {w w' : World} {v v' : Value} {L L' : Lg} {d d' : Dk}
theorem Ls.n_le (h : Ls B w p g v L d) : L.n ≤ 512 := by have := h.w.d.ok.n; have := h.g.size; omega
theorem Ls.a_le (h : Ls B w p g v L d) : L.a ≤ L.n := by rcases h.g.a with e | e <;> omega
theorem Ls.l_le (h : Ls B w p g v L d) : L.l.length ≤ 512 := by have := h.g.l_le; have := h.n_le; omega
theorem Ls.next_le (h : Ls B w p g v L d) : L.next ≤ 512 := by have := h.g.is_.fit; have := h.n_le; omega
theorem Ls.below (h : Ls B w p g v L d) (hb : Below w.heap.size w w') : Ls B w' p g v L d := ⟨h.w.below hb, h.g⟩
theorem ls_open (hd : DkAt B w g d) (hk : KsAt w) (hks : 0 < B) (hG : LgGood d L) (hw : d.w.length < 100000) :
    Calls Tryd.prog 10 #[.pointer (some ⟨g, 0, none⟩)] w fun e w' => ∃ lp v, e = .returned (.tuple #[.pointer (some ⟨lp, 0, none⟩), .int .i64 0]) ∧ Ls B w' lp g v L d ∧ (∀ i, LgS lp v i → w.heap.size ≤ i) ∧ Fr B w w' := by
  have := open_any hd hk hks hw
  rw [openL_is hG] at this
  refine this.mono ?_
  intro e w' h
  rcases h.r with ⟨_, lp, v, he, hW, hS⟩ | ⟨h0, _⟩
  · exact ⟨lp, v, he, ⟨hW, hG⟩, hS, h.f⟩
  · exact absurd rfl h0
theorem ls_openNew {r : LgOut} (hd : DkAt B w g d) (hk : KsAt w) (hks : 0 < B) (hr : openL d = r) (h0 : r.e = 0) (hG : LgGood r.d r.L) (hw : d.w.length < 100000) :
    Calls Tryd.prog 10 #[.pointer (some ⟨g, 0, none⟩)] w fun e w' => ∃ lp v, e = .returned (.tuple #[.pointer (some ⟨lp, 0, none⟩), .int .i64 0]) ∧ Ls B w' lp g v r.L r.d ∧ (∀ i, LgS lp v i → w.heap.size ≤ i) ∧ Fr B w w' := by
  have := open_any hd hk hks hw
  rw [hr] at this
  refine this.mono ?_
  intro e w' h
  rcases h.r with ⟨_, lp, v, he, hW, hS⟩ | ⟨h1, _⟩
  · exact ⟨lp, v, he, ⟨hW, hG⟩, hS, h.f⟩
  · exact absurd h0 h1
theorem ls_append (h : Ls B w p g v L d) (t : List UInt8) (ht : t.length ≤ 140737488355328) (hw : d.w.length ≤ 900000) :
    Calls Tryd.prog 12 #[.pointer (some ⟨p, 0, none⟩), .string ⟨t.toArray⟩] w fun e w' => e = .returned (.int .i64 (appendL d L t).e) ∧ ∃ v', LgStep B p g v v' (appendL d L t).L (appendL d L t).d w w' := by
  have h1 := h.n_le; have h2 := h.l_le; have h3 := h.next_le; have h4 := h.g.mark_le; have h5 := h.a_le
  refine (append_any h.w t ht (by omega) (by omega) (by omega) (by omega) (by omega) (by omega)).mono ?_
  rintro e w' ⟨he, hn⟩
  exact ⟨he, hn.step⟩
theorem ls_compact (h : Ls B w p g v L d) (A : Option Addr) (nT c : Nat) (ts : List (List UInt8)) (hT : TsA w (fun i => w.heap.size ≤ i) A nT ts) (hnT : nT ≤ 3000) (hlen : ∀ t ∈ ts, t.length ≤ 140737488355328) (hw : d.w.length ≤ 800000) :
    Calls Tryd.prog 14 #[.pointer (some ⟨p, 0, none⟩), .slice A nT c] w fun e w' => e = .returned (.int .i64 (compactL d L ts).e) ∧ ∃ v', LgStep B p g v v' (compactL d L ts).L (compactL d L ts).d w w' := by
  have h1 := h.n_le; have h5 := h.a_le
  refine (compact_any h.w A nT c ts hT hnT h5 (by omega) h.g.gen.2 hlen (by omega)).mono ?_
  rintro e w' ⟨he, hn⟩
  exact ⟨he, hn.step⟩
theorem ls_records (h : Ls B w p g v L d) :
    Calls Tryd.prog 13 #[.pointer (some ⟨p, 0, none⟩)] w fun e w' => ∃ A c, e = .returned (.slice A L.l.length c) ∧ Strs w' A L.l.length L.l ∧ Below w.heap.size w w' := by
  refine (records_any h.w (by have := h.l_le; omega)).mono ?_
  rintro e w' ⟨v', rfl, ho, hb⟩
  obtain ⟨A, c, rfl, hs⟩ := own_strs ho
  exact ⟨A, c, rfl, hs, hb⟩
theorem LgStep.ls (h : LgStep B p g v v' L' d' w w') (hg : LgGood d' L') : Ls B w' p g v' L' d' := ⟨h.lw, hg⟩
end
/-! ### the example -/
def wL0 : Lg := ⟨0, 10, 1, hmark 1, 1, []⟩
theorem works16_plain : ∃ d1 d2 L1 d3 L2 : _, openL (Dk.new 20) = ⟨0, d1, wL0⟩ ∧ LgGood d1 wL0 ∧ d1.w = [] ∧ appendL d1 wL0 [97] = ⟨0, d2, L1⟩ ∧ LgGood d2 L1 ∧ d2.w.length ≤ 1 ∧ L1.l = [[97]] ∧ L1.gen = 1 ∧ LgGood { d2 with w := [] } L1 ∧ appendL { d2 with w := [] } L1 [98] = ⟨0, d3, L2⟩ ∧ LgGood d3 L2 ∧ LgGood (d3.crash []) L1 ∧ (d3.crash []).w = [] := by
  obtain ⟨d1, a1, a2, a3, a4⟩ := openL_new 20 (by decide) _ rfl
  obtain ⟨d2, b1, b2, b3, b4, b5⟩ := appendL_is a2 [97] (by decide) (show 1 + sectorsN [97] ≤ 10 by decide)
  have b2' : LgGood { d2 with w := [] } (wL0.took [97] (ownL (hmark 1) [97]) (sectorsN [97])) := b2.of_l b2.calm rfl
  obtain ⟨d3, c1, c2, c3, c4, c5⟩ := appendL_is b2' [98] (by decide) (show 1 + sectorsN [97] + sectorsN [98] ≤ 10 by decide)
  refine ⟨d1, d2, _, d3, _, a1, a2, a4, b1, b2, ?_, rfl, rfl, b2', c1, c2, ?_, rfl⟩
  · rw [a4] at b4; exact b4
  · rw [crash_base, c3, base_synced rfl]
    exact b2.of_l ⟨rfl, rfl⟩ rfl
set_option maxHeartbeats 1600000 in
theorem works16_any (w : World) (hk : KsAt w) (hks : 0 < w.heap.size) : Calls Tryd.prog 9 #[] w fun e w' => e = .returned (.bool true) ∧ Below w.heap.size w w' := by
  obtain ⟨d1, d2, L1, d3, L2, p1, p2, p3, p4, p5, p6, p7, p8, p13, p9, p10, p11, p12⟩ := works16_plain
  have P1 := Lib.hid p1
  have P3 := Lib.hid p3
  have P4 := Lib.hid p4
  have P6 := Lib.hid p6
  have P7 := Lib.hid p7
  have P8 := Lib.hid p8
  have P9 := Lib.hid p9
  have P12 := Lib.hid p12
  clear p1 p3 p4 p6 p7 p8 p9 p12
  have HK := Lib.hid hk
  go_enter Tryd.func9, Tryd.ntmps9
  go_wp2_with fail
  refine (new_any 20 (by decide) (by decide) w).mono ?_
  rintro e w1 ⟨g, rfl, D, b⟩
  have D1 := Lib.hid D
  have F1 := Lib.hid (Fr.of b (Nat.le_refl _))
  clear D b
  go_wp2_with fail
  refine (ls_openNew D1.out (HK.out.fr hks F1.out) hks P1.out rfl p2 (by decide)).mono ?_
  rintro e w2 ⟨lp, v2, rfl, l2, s2, f2⟩
  have L2_ := Lib.hid l2
  have F2 := Lib.hid (F1.out.trans f2)
  have S2 := Lib.hid (show ∀ i, LgS lp v2 i → w.heap.size ≤ i from fun i hi => Nat.le_trans F1.out.b.size (s2 i hi))
  clear l2 s2 f2 F1
  go_wp2_with fail
  have HA := Lib.hid (ls_append L2_.out [97] (by decide) (by rw [P3.out]; decide))
  rw [P4.out] at HA
  refine HA.out.mono ?_
  rintro e w3 ⟨rfl, v3, h3⟩
  have W3 := Lib.hid (h3.ls p5)
  have B3 := Lib.hid (F2.out.b.trans h3.f.b)
  clear h3 HA L2_ F2
  go_wp2_with fail
  have HY := Lib.hid (lsync_any W3.out.w)
  rw [calm_sync p5.calm] at HY
  refine HY.out.mono ?_
  rintro e w4 ⟨rfl, h4⟩
  have W4 := Lib.hid (h4.ls p13)
  have B4 := Lib.hid (B3.out.trans h4.f.b)
  clear h4 HY W3 B3
  go_wp2_with fail
  have HA := Lib.hid (ls_append W4.out [98] (by decide) (Nat.zero_le _))
  rw [P9.out] at HA
  refine HA.out.mono ?_
  rintro e w5 ⟨rfl, v5, h5⟩
  have W5 := Lib.hid (h5.ls p10)
  have B5 := Lib.hid (B4.out.trans h5.f.b)
  clear h5 HA W4 B4
  go_wp2_with fail
  obtain ⟨q, vw, hA⟩ := W5.out.w.d
  have HC := Lib.hid (crash_any hA none 0 0 [] ⟨rfl, fun h => absurd h (by decide)⟩)
  clear hA
  refine HC.out.mono ?_
  rintro e w6 ⟨rfl, d6, f6⟩
  have D6 := Lib.hid d6
  have B6 := Lib.hid (B5.out.trans f6.b)
  clear d6 f6 HC W5 B5
  go_wp2_with fail
  refine (ls_open D6.out (HK.out.below hks B6.out) hks p11 (by rw [P12.out]; decide)).mono ?_
  rintro e w7 ⟨l7, v7, rfl, h7, s7, f7⟩
  have W7 := Lib.hid h7
  have B7 := Lib.hid (B6.out.trans f7.b)
  clear h7 f7 s7 D6 B6
  go_wp2_with fail
  refine (ls_records W7.out).mono ?_
  rintro e w8 ⟨A8, c8, rfl, s8, b8⟩
  have W8 := Lib.hid (W7.out.below b8)
  have B8 := Lib.hid (B7.out.trans (b8.mono B7.out.size))
  have S8 := Lib.hid s8
  clear s8 b8 W7 B7
  go_wp2_with fail
  have b9 : Below w8.heap.size w8 (w8.alloc (.cells #[.string ⟨#[97]⟩] 9)) := (Below.refl _ _).alloc (Nat.le_refl _) _
  have W9 := Lib.hid (W8.out.below b9)
  have B9 := Lib.hid (B8.out.trans (b9.mono B8.out.size))
  have HT := Lib.hid (sameT_any A8 (some ⟨w8.heap.size, 0, none⟩) L1.l.length 1 c8 1 L1.l [[97]] _ (S8.out.below b9) (strs_one w8 9 [97]) (by rw [P7.out]; decide))
  rw [sameB_yes P7.out] at HT
  clear b9 S8 W8 B8
  refine HT.out.mono ?_
  rintro e w10 ⟨rfl, b10⟩
  have W10 := Lib.hid (W9.out.below b10)
  have B10 := Lib.hid (B9.out.trans (b10.mono B9.out.size))
  clear b10 HT W9 B9
  go_wp2_with fail
  have HG := Lib.hid (gen_any W10.out.w)
  rw [P8.out] at HG
  refine HG.out.mono ?_
  rintro e w11 ⟨rfl, rfl⟩
  go_wp2_with fail
  go_ret
  exact ⟨rfl, B10.out⟩
end Go.Proofs.YteajpebkanamgaaDoor
namespace Go.Proofs.YteajpebkanamgaaDoor
open Go.RowKit Go.Proofs.YteajpebkanamgaaDoorW.PrintWords Go.Proofs.YteajpebkanamgaaDoorW.PrintLast
set_option linter.unusedSimpArgs false
set_option linter.unusedVariables false
set_option maxRecDepth 20000
def amL (x : Int) (n : Nat) : Nat := ((x.tmod n + n).tmod n).toNat
theorem am_bd (x : Int) (n : Nat) (hn : 0 < n) : -(n : Int) < x.tmod n ∧ x.tmod n < n := ⟨by have := Int.lt_tmod_of_pos x (show (0 : Int) < n by omega); omega, Int.tmod_lt_of_pos x (by omega)⟩
theorem amL_cast (x : Int) (n : Nat) (hn : 0 < n) : (x.tmod n + n).tmod n = (amL x n : Nat) := by
  unfold amL
  have := am_bd x n hn
  have := Int.tmod_nonneg (n : Int) (show 0 ≤ x.tmod n + n by omega)
  omega
theorem amL_lt (x : Int) (n : Nat) (hn : 0 < n) : amL x n < n := by
  have h := amL_cast x n hn
  have := am_bd x n hn
  have := Int.tmod_lt_of_pos (x.tmod n + n) (show (0 : Int) < n by omega)
  omega
theorem among16_any (x : Int) (n : Nat) (hn : 0 < n) (h2 : n ≤ 1000000) (w : World) :
    Calls Tryd.prog 16 #[.int .i64 x, .int .i64 (n : Nat)] w fun e w' => e = .returned (.int .i64 (amL x n : Nat)) ∧ w = w' := by
  have hb := am_bd x n hn
  have hc := amL_cast x n hn
  obtain ⟨q, hq⟩ : ∃ q : Nat, amL x n = q := ⟨_, rfl⟩
  rw [hq] at hc ⊢
  obtain ⟨N, hN⟩ : ∃ N : Int, N = n := ⟨_, rfl⟩
  rw [← hN] at hb hc ⊢
  obtain ⟨t, ht⟩ : ∃ t, x.tmod N = t := ⟨_, rfl⟩
  rw [ht] at hb hc
  have h0 : 0 < N := by omega
  have h1 : N ≤ 1000000 := by omega
  clear hN hn h2 hq
  go_enter Tryd.func16, Tryd.ntmps16
  go_wp2_with fail
  go_ret
  exact ⟨rfl, by trivial⟩
theorem Own.win {e : TypeId} {w : World} {B : Nat} {v : Value} {xs : List Value} (h : Own e w B v xs) : Win e w B v xs := by
  have h0 := h.1
  rcases h.2 with ⟨rfl, hn⟩ | ⟨g, cap, cur, rfl, hB, hk, hn, hm, hs, ht⟩
  · exact .inl ⟨rfl, List.eq_nil_of_length_eq_zero hn⟩
  · refine .inr ⟨g, 0, cap, cur, rfl, hB, hk, by omega, hn, hm, fun i hi => ?_⟩
    rw [Nat.zero_add]
    rw [Nat.mul_one] at ht
    have h1 : (cur.toList.take xs.length)[i]? = xs[i]? := by rw [ht]
    rw [List.getElem?_take_of_lt hi] at h1
    rw [← h1, Array.getElem?_toList]
theorem win_strs {w : World} {B : Nat} {v : Value} {l : List (List UInt8)} (h : Win 9 w B v (cstr l)) : ∃ A c, v = .slice A l.length c ∧ Strs w A l.length l := by
  obtain ⟨A, c, hv, _, _⟩ := h.form
  rw [cstr_length] at hv
  refine ⟨A, c, hv, rfl, fun hn => ?_⟩
  obtain ⟨b, off, cap, hv2, hB, hlt, _⟩ := h.at_ 0 (by rw [cstr_length]; exact hn)
  rw [hv] at hv2
  injection hv2 with e1 e2 e3
  refine ⟨b, off, e1, hlt, fun i hi => ?_⟩
  obtain ⟨b', off', cap', hv3, _, _, hc⟩ := h.at_ i (by rw [cstr_length]; exact hi)
  rw [hv] at hv3
  injection hv3 with f1 f2 f3
  rw [e1] at f1
  injection f1 with f1
  injection f1 with f1 f4
  subst f1; subst f4
  rw [hc, cstr_get _ _ hi]
theorem Win.fs {B : Nat} {S : Nat → Prop} {w w' : World} {v : Value} {xs : List Value} (h : Win 9 w B v xs) (f : Fs B S w w') (hn : ∀ b, v.ownBlock = some b → ¬ S b) : Win 9 w' B v xs := by
  rcases h with h1 | ⟨b, off, cap, cur, rfl, h2, h3, h4⟩
  · exact .inl h1
  · exact .inr ⟨b, off, cap, cur, rfl, h2, h3.fs f (by unfold DkT; decide) (hn b rfl), h4⟩
theorem Win.fr {B : Nat} {w w' : World} {v : Value} {xs : List Value} (h : Win 9 w B v xs) (f : Fr B w w') : Win 9 w' B v xs := h.fs (S := fun _ => False) (Fs.of_fr f) (fun _ _ h => h)
theorem win_tsA {B : Nat} {w : World} {v : Value} {l : List (List UInt8)} (h : Win 9 w B v (cstr l)) : ∃ A c, v = .slice A l.length c ∧ TsA w (fun i => w.heap.size ≤ i) A l.length l := by
  obtain ⟨A, c, hv, hs⟩ := win_strs h
  refine ⟨A, c, hv, rfl, fun hn => ?_⟩
  obtain ⟨b, o, hA, hlt, hc⟩ := hs.2 hn
  subst hA; subst hv
  obtain ⟨_, cs, hk⟩ := h.typed b rfl
  exact ⟨b, o, cs, _, _, rfl, hk, by unfold DkT; decide, by omega, hc⟩
/-- blocks that are not the log's, the disk's or below B were turned. -/
theorem LgW.kp {B p g : Nat} {S : Nat → Prop} {w w' : World} {v : Value} {L : Lg} {d : Dk} (h : LgW B w p g v L d) (k : Kp S w w') (h1 : ∀ i, S i → B ≤ i) (h2 : ∀ i, S i → ¬ LgS p v i) (h3 : ∀ i cs t, S i → Blk w i t cs → ¬ DkT t) : LgW B w' p g v L d :=
  ⟨⟨h.m.hp.kp k (fun e => h2 p e (.inl rfl)), h.m.ho.kp k (fun b hb e => h2 b e (.inr hb)), h.m.b⟩, h.d.kp k h3, fun i hi => ((k.below h1 h.d.hB).cell (p := ⟨0, i, none⟩) h.ks).trans (h.k i hi), h.ks⟩
/-- 'append(has, s)'. -/
theorem win_push {B : Nat} {w : World} {v : Value} {l : List (List UInt8)} (h : Win 9 w B v (cstr l)) (t : List UInt8) (hB : B ≤ w.heap.size) (hl : l.length ≤ 1000000) :
    ∃ v' w', (Builtin.append_ #[22, 22] 22 #[v, .slice (some ⟨w.heap.size, 0, none⟩) 1 1]).run Tryd.prog (w.alloc (.cells #[.string ⟨t.toArray⟩] 9)) = .ok v' w' ∧ Win 9 w' B v' (cstr (l ++ [t])) ∧ Kp (fun i => v.ownBlock = some i) w w' ∧ ∀ i, v'.ownBlock = some i → v.ownBlock = some i ∨ w.heap.size ≤ i := by
  have hA1 : Below w.heap.size w (w.alloc (.cells #[.string ⟨t.toArray⟩] 9)) := (Below.refl _ _).alloc (Nat.le_refl _) _
  obtain ⟨v', w1, hrun, hown, hgr, hat⟩ := win_append (P := Tryd.prog) (ty := 22) elemSx (h.below hA1) (cstr_one1 _) w.heap.size 1 (.string ⟨t.toArray⟩) ((Blk.new w 9 _).cell 0) rfl (by rw [cstr_length]; omega) (by rw [cstr_length]; omega) (by simp; omega)
  refine ⟨v', w1, hrun, by rw [cstr_append]; exact hown, (Kp.of_below hA1).trans (Kp.grown hgr (fun q hq _ => hq)), fun i hi => ?_⟩
  rcases hat with e | e
  · exact .inl (e ▸ hi)
  · rw [e] at hi
    injection hi with hi
    subst hi
    exact .inr (by simp)
/-- 'append([]string{}, l...)'. -/
theorem win_copy (w : World) (A : Option Addr) (n c : Nat) (ls : List (List UInt8)) (h : Strs w A n ls) (hn : n ≤ 1048576) :
    ∃ v' w', (Builtin.append_ #[22, 22] 22 #[.slice (some ⟨w.heap.size, 0, none⟩) 0 0, .slice A n c]).run Tryd.prog (w.alloc (.cells #[] 9)) = .ok v' w' ∧ Win 9 w' w.heap.size v' (cstr ls) ∧ Below w.heap.size w w' := by
  have hb0 : Below w.heap.size w (w.alloc (.cells #[] 9)) := (Below.refl w.heap.size w).alloc (Nat.le_refl _) _
  rcases Nat.eq_zero_or_pos n with rfl | hpos
  · refine ⟨_, _, run_append_none elemStr _ _ A c, ?_, hb0⟩
    have hls : ls = [] := List.eq_nil_of_length_eq_zero h.1
    rw [hls]
    exact (own_empty w 9 (Nat.le_refl _)).win
  · obtain ⟨g, o, rfl, hg, hcell⟩ := h.2 hpos
    obtain ⟨A', c', w', hrun, hown, hgr⟩ := own_append_from (B := w.heap.size) (ty := 22) elemStr (own_empty w 9 (Nat.le_refl _)) g o n c (cstr ls) (by rw [cstr_length]; exact h.1) (fun j u hj => by
        have hjl : j < ls.length := by have := (List.getElem?_eq_some_iff.1 hj).1; rwa [cstr_length] at this
        rw [cstr_get _ _ hjl] at hj
        rw [World.cell?_alloc_lt _ _ _ hg, hcell j (by rw [← h.1]; exact hjl)]
        exact hj) (by
        intro u hu
        obtain ⟨l, _, rfl⟩ := List.mem_map.1 hu
        rfl) (by simp; omega) (by simp; omega) (by simp)
    simp only [List.length_nil, Nat.zero_add, List.nil_append] at hrun hown
    exact ⟨_, w', hrun, Own.win hown, (own_empty w 9 (Nat.le_refl _)).below_grown hb0 (by simp) hgr⟩
/-- 'has[m:]'. -/
theorem win_from {B : Nat} {w : World} {A : Option Addr} {n c : Nat} {l : List (List UInt8)} (h : Win 9 w B (.slice A n c) (cstr l)) (hn : l.length = n) (m : Nat) (hm : m ≤ n) (h0 : 0 < n) :
    ∃ A' c', (∀ W, (Instr.slice 22 (.slice A n c) (some (.int .i64 (m : Nat))) none none).run Tryd.prog W = .ok (.slice A' (n - m) c') W) ∧ Strs w A' (n - m) (l.drop m) := by
  obtain ⟨A2, c2, hv, hs⟩ := win_strs h
  injection hv with e1 e2 e3
  subst e1; subst e3
  obtain ⟨b, o, hA, hlt, hc⟩ := hs.2 (by omega)
  subst hA
  obtain ⟨_, _, _, hcap, _⟩ := h.form
  refine ⟨some ⟨b, if c = m then o else o + m, none⟩, c - m, fun W => ?_, by rw [List.length_drop, hn], fun hp => ⟨b, _, rfl, hlt, fun i hi => ?_⟩⟩
  · have hsz : (sizeOf (Tryd.prog.elem 22)).run Tryd.prog W = .ok 1 W := by kernel_rfl
    rw [run_slice_l (t := 22) (a := some ⟨b, o, none⟩) (len := n) (cap := c) (ht := Tryd.underlying22) (kl := .i64) (l := (m : Nat)) (h0 := by omega) (h1 := by omega), hsz]
    show Result.ok (sliced (some ⟨b, o, none⟩) ((m : Nat) : Int).toNat n c 1) W = _
    rw [Int.toNat_natCast]
    unfold sliced
    by_cases hcm : c = m
    · rw [if_pos hcm, if_pos hcm]
    · rw [if_neg hcm, if_neg hcm, Nat.mul_one]; simp [Addr.add]
  · have hcap2 : n ≤ c := by
      obtain ⟨A3, c3, hv3, h4, _⟩ := h.form
      injection hv3 with g1 g2 g3
      rw [cstr_length] at h4
      omega
    have hcm : c ≠ m := by omega
    rw [if_neg hcm, Nat.add_assoc, hc (m + i) (by omega)]
    congr 4
    rw [List.getD_eq_getElem?_getD, List.getD_eq_getElem?_getD, List.getElem?_drop]
end Go.Proofs.YteajpebkanamgaaDoor
namespace Go.Proofs.YteajpebkanamgaaDoor
open Go.RowKit Go.Proofs.YteajpebkanamgaaDoorW.PrintWords Go.Proofs.YteajpebkanamgaaDoorW.PrintLast
set_option linter.unusedSimpArgs false
set_option linter.unusedVariables false
set_option maxRecDepth 20000
attribute [local irreducible] sha
/-- what LogCompacts' loop keeps. -/
structure CpI (L : Lg) (d : Dk) (hs : List (List UInt8)) (k m : Nat) : Prop where
  n : L.n = 60
  gen : L.gen = m
  m : m ≤ k + 1
  l : L.l = hs
  w : d.w.length ≤ 4 * k
theorem CpI.took {L : Lg} {d d2 : Dk} {hs : List (List UInt8)} {k m : Nat} (h : CpI L d hs k m) (t o : List UInt8) (S : Nat) (hw : d2.w.length ≤ d.w.length + S) (hS : S ≤ 4) : CpI (L.took t o S) d2 (hs ++ [t]) (k + 1) m :=
  ⟨h.n, h.gen, by have := h.m; omega, by show L.l ++ [t] = hs ++ [t]; rw [h.l], by have := h.w; omega⟩
theorem sumSec_drop (ts : List (List UInt8)) (m : Nat) : sumSec (ts.drop m) ≤ sumSec ts := by
  have := sumSec_append (ts.take m) (ts.drop m)
  rw [List.take_append_drop] at this
  omega
theorem CpI.le {L : Lg} {d : Dk} {hs : List (List UInt8)} {k m : Nat} (h : CpI L d hs k m) (hg : LgGood d L) : hs.length ≤ 60 := by
  have := hg.l_le
  rw [h.l, h.n] at this
  exact this
/-- what a compaction makes of it. -/
def cpL (L : Lg) (ts : List (List UInt8)) : Lg := ⟨L.n - L.a, L.n, L.gen + 1, endMark (hmark (L.gen + 1)) ts, 1 + sumSec ts, ts⟩
theorem compactL_to {d : Dk} {L : Lg} {hs : List (List UInt8)} {k m : Nat} (h : LgGood d L) (hI : CpI L d hs k m) (hk : k ≤ 20) (j : Nat) :
    ∃ d', compactL d L (hs.drop j) = ⟨0, d', cpL L (hs.drop j)⟩ ∧ LgGood d' (cpL L (hs.drop j)) ∧ d'.w = [] ∧ LgGood (d'.crash []) (cpL L (hs.drop j)) ∧ (d'.crash []).w = [] ∧ CpI (cpL L (hs.drop j)) (d'.crash []) (hs.drop j) (k + 1) (m + 1) := by
  have hm := hI.m
  obtain ⟨d', q1, q2, q3, q4⟩ := compactL_is h (hs.drop j) (fun t ht => h.ts t (by rw [hI.l]; exact List.mem_of_mem_drop ht)) (by
    have h1 := h.is_.next
    have h2 := h.is_.fit
    rw [hI.l] at h1
    have := sumSec_drop hs j
    omega) (by rw [hI.gen]; omega)
  have hcl : (d'.crash []).l = d'.l := by rw [crash_base]; exact base_synced q3
  refine ⟨d', q1, q2, q3, q2.of_l ⟨rfl, rfl⟩ hcl, rfl, ⟨hI.n, ?_, by omega, rfl, by rw [show (d'.crash []).w = [] from rfl]; exact Nat.zero_le _⟩⟩
  show L.gen + 1 = m + 1
  rw [hI.gen]
set_option maxHeartbeats 6400000 in
theorem law_LogCompacts (A : Option Addr) (n c : Nat) (ls : List (List UInt8)) (A2 : Option Addr) (n2 c2 : Nat) (ks : List Int) (w : World) (h : Strs w A n ls) (hl : ∀ l ∈ ls, l.length ≤ 140737488351232) (hI : Ints w A2 n2 ks) (hk : KsAt w) (hg : 0 < w.heap.size) :
    Calls Tryd.prog 4 #[.slice A n c, .slice A2 n2 c2] w fun e w' => e = .returned (.bool true) ∧ Below w.heap.size w w' := by
  have HS := Lib.hid h
  have HL := Lib.hid hl
  have HK := Lib.hid hk
  have HIN := Lib.hid hI
  clear h hl hI
  obtain ⟨d1, a1, a2, a3, a4⟩ := openL_new 120 (by decide) _ rfl
  have P1 := Lib.hid a1
  have P2 := Lib.hid a2
  have P4 := Lib.hid a4
  clear a1 a2 a3 a4
  go_enter Tryd.func4, Tryd.ntmps4
  go_wp2_with fail
  refine (new_any 120 (by decide) (by decide) w).mono ?_
  rintro e w1 ⟨g, rfl, D, b⟩
  have D1 := Lib.hid D
  have B1 := Lib.hid b
  clear D b
  go_wp2_with fail
  refine (works16_any w1 (HK.out.below hg B1.out) (Nat.lt_of_lt_of_le hg B1.out.size)).mono ?_
  rintro e w2 ⟨rfl, b⟩
  have D2 := Lib.hid (D1.out.below b)
  have B2 := Lib.hid (B1.out.trans (b.mono B1.out.size))
  clear D1 b B1
  go_wp2_with fail
  refine (ls_openNew D2.out (HK.out.below hg B2.out) hg P1.out rfl P2.out (by decide)).mono ?_
  rintro e w3 ⟨lp, v3, rfl, l3, s3, f3⟩
  have L3 := Lib.hid (show Ls w.heap.size w3 lp g v3 ⟨0, 60, 1, hmark 1, 1, []⟩ d1 from l3)
  have B3 := Lib.hid (B2.out.trans f3.b)
  have I3 := Lib.hid (show CpI ⟨0, 60, 1, hmark 1, 1, []⟩ d1 [] 0 1 from ⟨rfl, rfl, by decide, rfl, by rw [P4.out]; exact Nat.zero_le _⟩)
  clear l3 s3 f3 D2 B2
  generalize (⟨0, 60, 1, hmark 1, 1, []⟩ : Lg) = L at L3 I3
  go_wp2_with fail
  go_loopg [10, 8, 9, 7] 13 (fun kq v10 v8 v9 v7 wr => ∃ (k m : Nat) (L : Lg) (d : Dk) (lp : Nat) (v vh : Value) (hs : List (List UInt8)) (Ah : Option Addr) (nh ch : Nat), kq = 13 - k ∧ k ≤ 12 ∧ v10 = .int .i64 (k : Nat) ∧ v8 = .slice Ah nh ch ∧ v9 = .int .i64 (m : Nat) ∧ v7 = .pointer (some ⟨lp, 0, none⟩) ∧ m ≤ k + 1 ∧ nh ≤ 60 ∧ Hid (hs.length = nh) ∧ Hid (vh = .slice Ah nh ch) ∧ Hid (Ls w.heap.size wr lp g v L d) ∧ Hid (Below w.heap.size w wr) ∧ Hid (CpI L d hs k m) ∧ Hid (Win 9 wr w.heap.size vh (cstr hs)) ∧ Hid (∀ i, vh.ownBlock = some i → ¬ LgS lp v i))
  case atStart => exact ⟨0, 1, L, d1, lp, v3, .slice none 0 0, [], none, 0, 0, rfl, by omega, rfl, rfl, rfl, rfl, by omega, by omega, Lib.hid rfl, Lib.hid rfl, L3, B3, I3, Lib.hid (Win.nil _ _ _), Lib.hid (fun i hi => by cases hi)⟩
  case round =>
    clear L3 B3 I3 P1 P2 P4
    obtain ⟨k, m, L, d, lp, v, vh, hs, Ah, nh, ch, rfl, hk12, rfl, rfl, rfl, rfl, hmk, hnh, HLN, HVH, HL_, HB, HI, HW, HF⟩ := hrel
    by_cases hlt : k < n
    · by_cases hlt2 : k < 12
      · obtain ⟨tb, to_, hA, htb, hc⟩ := HS.out.2 (by omega)
        have hc1 := (HB.out.cell (p := ⟨tb, to_ + k, none⟩) htb).trans (hc k hlt)
        have hk' : k < ls.length := by rw [HS.out.1]; exact hlt
        have hT1 : (ls.getD k []).length ≤ 140737488351232 := by
          rw [List.getD_eq_getElem?_getD, List.getElem?_eq_getElem hk']
          exact HL.out _ (List.getElem_mem hk')
        subst hA
        have e1 : (k : Int) < (n : Int) := by omega
        have e2 : (k : Int) < 12 := by omega
        obtain ⟨t, ht⟩ : ∃ t, Hid (ls.getD k [] = t) := ⟨_, Lib.hid rfl⟩
        rw [ht.out] at hc1 hT1
        have hts : (⟨t.toArray⟩ : ByteArray).size = t.length := by simp [ByteArray.size]
        have htl : (⟨t.toArray⟩ : ByteArray).toList = t := by rw [ByteArray.toList_eq]
        have HAP := Lib.hid (ls_append HL_.out t (by omega) (by have := HI.out.w; omega))
        have HPU := Lib.hid (fun W (hW : Win 9 W w.heap.size vh (cstr hs)) (hB : w.heap.size ≤ W.heap.size) => win_push hW t hB (by have := HLN.out; omega))
        obtain ⟨tb_, TB⟩ : ∃ b : ByteArray, Hid (⟨t.toArray⟩ = b) := ⟨_, Lib.hid rfl⟩
        rw [TB.out] at hc1 hts htl HAP HPU
        clear hc hk' hlt hlt2 htb
        by_cases h0 : t = []
        · have q1 : tb_.toList.isEmpty = true := by rw [htl, h0]; rfl
          have q2 : (tb_.toList == []) = true := by rw [htl, h0]; rfl
          clear h0 htl hts hT1
          go_wp2_with fail
          go_roundg (13 - (k + 1))
          case measure => omega
          case rel => exact ⟨k + 1, m, L, d, lp, v, vh, hs, Ah, nh, ch, rfl, by omega, by go_num, rfl, rfl, rfl, by omega, hnh, HLN, HVH, HL_, HB, Lib.hid ⟨HI.out.n, HI.out.gen, by omega, HI.out.l, by have := HI.out.w; omega⟩, HW, HF⟩
        · have q1 : tb_.toList.isEmpty = false := by rw [htl]; simpa using h0
          have q2 : (tb_.toList == []) = false := by rw [htl]; simpa using h0
          have hpos : 1 ≤ t.length := by
            rcases t with _ | ⟨x, r⟩
            · exact absurd rfl h0
            · simp
          clear htl h0
          by_cases hbig : 200 < t.length
          · have q3 : (200 : Int) < (t.length : Int) := by omega
            clear hbig
            go_wp2_with fail
            go_roundg (13 - (k + 1))
            case measure => omega
            case rel => exact ⟨k + 1, m, L, d, lp, v, vh, hs, Ah, nh, ch, rfl, by omega, by go_num, rfl, rfl, rfl, by omega, hnh, HLN, HVH, HL_, HB, Lib.hid ⟨HI.out.n, HI.out.gen, by omega, HI.out.l, by have := HI.out.w; omega⟩, HW, HF⟩
          · have q3 : decide ((200 : Int) < (t.length : Int)) = false := decide_eq_false (by omega)
            have HTL := Lib.hid (show 1 ≤ t.length ∧ t.length ≤ 2000 from ⟨hpos, by omega⟩)
            have HS4 := Lib.hid (show sectorsN t ≤ 4 by unfold sectorsN; omega)
            clear hbig hpos hT1
            by_cases hfit : L.next + sectorsN t ≤ L.n
            · obtain ⟨d2, p1, p2, p3, p4, p5⟩ := appendL_is HL_.out.g t HTL.out hfit
              rw [p1] at HAP
              have P2 := Lib.hid p2
              have I2 := Lib.hid (HI.out.took t (ownL L.mark t) (sectorsN t) p4 HS4.out)
              obtain ⟨L2, hL2⟩ : ∃ x, Hid (L.took t (ownL L.mark t) (sectorsN t) = x) := ⟨_, Lib.hid rfl⟩
              rw [hL2.out] at HAP P2 I2
              clear p1 p2 p3 p4 p5 hfit
              go_wp2_with fail
              refine HAP.out.mono ?_
              rintro e w5 ⟨rfl, v5, h5⟩
              have L5 := Lib.hid (h5.ls P2.out)
              have B5 := Lib.hid (HB.out.trans h5.f.b)
              have W5 := Lib.hid (HW.out.fs h5.f (fun b hb => HF.out b hb))
              have F5 := Lib.hid (show ∀ i, vh.ownBlock = some i → ¬ LgS lp v5 i from fun i hi => h5.far (by
                obtain ⟨_, cs, hk⟩ := HW.out.typed i hi
                exact hk.lt) (HF.out i hi))
              clear h5 HAP HL_ HB HW HF
              obtain ⟨vh6, w6, hrun, hw6, hk6, ho6⟩ := HPU.out w5 W5.out B5.out.size
              rw [HVH.out] at hrun
              have HR := Lib.hid hrun
              have W6 := Lib.hid hw6
              have L6 := Lib.hid (show Ls w.heap.size w6 lp g v5 L2 d2 from ⟨L5.out.w.kp hk6 (fun i hi => (W5.out.typed i hi).1) (fun i hi => F5.out i hi) (fun i cs t hi hk => by
                obtain ⟨_, cs', hk'⟩ := W5.out.typed i hi
                rw [(hk.type hk').1]; unfold DkT; decide), P2.out⟩)
              have B6 := Lib.hid (B5.out.trans (hk6.below (fun i hi => (W5.out.typed i hi).1) B5.out.size))
              have F6 := Lib.hid (show ∀ i, vh6.ownBlock = some i → ¬ LgS lp v5 i from fun i hi hs => by
                rcases ho6 i hi with h1 | h1
                · exact F5.out i h1 hs
                · rcases hs with rfl | hs
                  · exact absurd L5.out.w.m.hp.lt (by omega)
                  · obtain ⟨_, cs, hk⟩ := L5.out.w.m.ho.typed i hs
                    exact absurd hk.lt (by omega))
              obtain ⟨A6, c6, hv6, _⟩ := win_strs hw6
              clear hrun hw6 hk6 ho6 HPU W5 L5 F5
              have hln6 : (hs ++ [t]).length = nh + 1 := by rw [List.length_append, HLN.out]; rfl
              have HHS := Lib.hid (show nh + 1 ≤ 60 by have := I2.out.le P2.out; rw [hln6] at this; exact this)
              obtain ⟨hs6, hhs⟩ : ∃ x, Hid (hs ++ [t] = x) := ⟨_, Lib.hid rfl⟩
              obtain ⟨nh6, hnh6⟩ : ∃ x, Hid (nh + 1 = x) := ⟨_, Lib.hid rfl⟩
              rw [hhs.out, hnh6.out] at hln6
              rw [hhs.out] at W6 I2 hv6
              rw [hln6] at hv6
              rw [hnh6.out] at HHS
              rw [hv6] at HR
              have HV6 := Lib.hid hv6
              have HLN6 := Lib.hid hln6
              clear hv6 hln6
              by_cases hkn : k < n2
              · obtain ⟨ib, io, hA2, hib, hic⟩ := HIN.out.2 (by omega)
                have hc2 := (B6.out.cell (p := ⟨ib, io + k, none⟩) hib).trans (hic k hkn)
                subst hA2
                have x1 : (k : Int) < (n2 : Int) := by omega
                obtain ⟨z, hz⟩ : ∃ z, Hid (ks.getD k 0 = z) := ⟨_, Lib.hid rfl⟩
                rw [hz.out] at hc2
                have HAM := Lib.hid (fun W => among16_any z 3 (by decide) (by decide) W)
                obtain ⟨am, hAm⟩ : ∃ x, Hid (amL z 3 = x) := ⟨_, Lib.hid rfl⟩
                rw [hAm.out] at HAM
                clear hic hib hkn
                go_wp2_with (at_builtin; refine wpList_append_run rfl _ _ _ _ rfl rfl rfl HR.out ?_)
                refine (HAM.out _).mono ?_
                rintro e w7 ⟨rfl, rfl⟩
                clear HAM
                by_cases ham : 0 < am
                · have x2 : (0 : Int) < (am : Int) := by omega
                  clear ham hc2
                  go_wp2_with fail
                  go_roundg (13 - (k + 1))
                  case measure => omega
                  case rel => exact ⟨k + 1, m, L2, d2, lp, v5, vh6, hs6, A6, nh6, c6, rfl, by omega, by go_num, rfl, rfl, rfl, by omega, HHS.out, HLN6, HV6, L6, B6, I2, W6, F6⟩
                · have x2 : decide ((0 : Int) < (am : Int)) = false := decide_eq_false (by omega)
                  have x3 : (am : Int) = 0 := by omega
                  clear ham
                  have hm60 : (nh6 : Int) ≤ 60 ∧ 0 ≤ (nh6 : Int) := by have := HHS.out; omega
                  obtain ⟨N1, hN1⟩ : ∃ x : Nat, Hid (nh6 + 1 = x) := ⟨_, Lib.hid rfl⟩
                  have hN1i : (nh6 : Int) + 1 = (N1 : Int) := by have := hN1.out; omega
                  have HAM := Lib.hid (fun W => among16_any z N1 (by have := hN1.out; omega) (by have := hN1.out; have := HHS.out; omega) W)
                  have HAL := Lib.hid (amL_lt z N1 (by have := hN1.out; omega))
                  obtain ⟨j, hj⟩ : ∃ x, Hid (amL z N1 = x) := ⟨_, Lib.hid rfl⟩
                  rw [hj.out] at HAM HAL
                  have b7 : Below w6.heap.size w6 (w6.alloc (.cells #[] 9)) := (Below.refl _ _).alloc (Nat.le_refl _) _
                  have hc3 := (b7.cell (p := ⟨ib, io + k, none⟩) (World.block_lt_of_cell? _ _ hc2)).trans hc2
                  have hW6 := W6.out
                  rw [HV6.out] at hW6
                  obtain ⟨A7, c7, hsl, hst⟩ := win_from hW6 HLN6.out j (by have := HAL.out; have := hN1.out; omega) (by have := hnh6.out; omega)
                  obtain ⟨vh8, w8, hrun8, hwn8, hb8⟩ := win_copy w6 A7 (nh6 - j) c7 (hs6.drop j) hst (by have := HHS.out; omega)
                  have HR8 := Lib.hid hrun8
                  have L8 := Lib.hid (L6.out.below hb8)
                  have B8 := Lib.hid (B6.out.trans (hb8.mono B6.out.size))
                  have W8 := Lib.hid (show Win 9 w8 w.heap.size vh8 (cstr (hs6.drop j)) by
                    rcases hwn8 with h1 | ⟨b, off, cap, cur, h1, h2, h3⟩
                    · exact .inl h1
                    · exact .inr ⟨b, off, cap, cur, h1, Nat.le_trans B6.out.size h2, h3⟩)
                  have F8 := Lib.hid (show ∀ i, vh8.ownBlock = some i → ¬ LgS lp v5 i from fun i hi hs => by
                    have h1 := (hwn8.typed i hi).1
                    rcases hs with rfl | hs
                    · exact absurd L6.out.w.m.hp.lt (by omega)
                    · obtain ⟨_, cs, hk⟩ := L6.out.w.m.ho.typed i hs
                      exact absurd hk.lt (by omega))
                  clear hrun8 hwn8 hb8 hst b7 hW6 F6 HR
                  obtain ⟨d9, r1, r2, r3, r4, r5, r6⟩ := compactL_to P2.out I2.out (by omega) j
                  have R2 := Lib.hid r2
                  have R4 := Lib.hid r4
                  have R5 := Lib.hid r5
                  have R6 := Lib.hid r6
                  have hln8 : (hs6.drop j).length = nh6 - j := by rw [List.length_drop, HLN6.out]
                  have HHS8 := Lib.hid (show nh6 - j ≤ 60 by have := HHS.out; omega)
                  obtain ⟨hs8, hhs8⟩ : ∃ x, Hid (hs6.drop j = x) := ⟨_, Lib.hid rfl⟩
                  obtain ⟨n8, hn8⟩ : ∃ x, Hid (nh6 - j = x) := ⟨_, Lib.hid rfl⟩
                  rw [hn8.out] at hln8 HHS8 hsl HR8
                  rw [hhs8.out] at hln8 W8 r1 R2 R4 R6
                  have HLN8 := Lib.hid hln8
                  obtain ⟨A8, c8, hv8, hts8⟩ := win_tsA W8.out
                  rw [hln8] at hv8 hts8
                  have HV8 := Lib.hid hv8
                  rw [hv8] at HR8
                  have HCM := Lib.hid (ls_compact L8.out A8 n8 c8 hs8 hts8 (by have := HHS8.out; omega) (fun t ht => by
                    rw [← hhs8.out] at ht
                    have := P2.out.ts t (by rw [I2.out.l]; exact List.mem_of_mem_drop ht)
                    omega) (by have := I2.out.w; omega))
                  rw [r1] at HCM
                  obtain ⟨L9, hL9⟩ : ∃ x, Hid (cpL L2 hs8 = x) := ⟨_, Lib.hid rfl⟩
                  rw [hL9.out] at HCM R2 R4 R6
                  clear r1 r2 r3 r4 r5 r6 hln8 hv8 hts8 hc2 L6 W6 B6
                  go_wp2_with fail
                  refine (HAM.out _).mono ?_
                  rintro e w7 ⟨rfl, rfl⟩
                  clear HAM
                  go_wp2_with (at_builtin; refine wpList_append_run rfl _ _ _ _ rfl rfl rfl HR8.out ?_)
                  refine HCM.out.mono ?_
                  rintro e w10 ⟨rfl, v10, h10⟩
                  have B10 := Lib.hid (B8.out.trans h10.f.b)
                  have D10 := Lib.hid h10.lw.d
                  have W10 := Lib.hid (W8.out.fs h10.f (fun b hb => F8.out b hb))
                  have hm1 : (m : Int) + 1 = ((m + 1 : Nat) : Int) := by omega
                  obtain ⟨m9, hm9⟩ : ∃ x, Hid (m + 1 = x) := ⟨_, Lib.hid rfl⟩
                  rw [hm9.out] at hm1 R6
                  have hmb : (m : Int) ≤ 14 := by omega
                  clear h10 HCM L8 W8 B8 F8 HR8
                  go_wp2_with fail
                  obtain ⟨q, vw, hA⟩ := D10.out
                  have HC := Lib.hid (crash_any hA none 0 0 [] ⟨rfl, fun h => absurd h (by decide)⟩)
                  clear hA
                  refine HC.out.mono ?_
                  rintro e w11 ⟨rfl, d11, f11⟩
                  have D11 := Lib.hid d11
                  have B11 := Lib.hid (B10.out.trans f11.b)
                  have W11 := Lib.hid (W10.out.fr f11)
                  clear d11 f11 HC D10 W10 B10
                  go_wp2_with fail
                  refine (ls_open D11.out (HK.out.below hg B11.out) hg R4.out (by rw [R5.out]; decide)).mono ?_
                  rintro e w12 ⟨l12, v12, rfl, h12, s12, f12⟩
                  have L12 := Lib.hid h12
                  have B12 := Lib.hid (B11.out.trans f12.b)
                  have W12 := Lib.hid (W11.out.fr f12)
                  have F12 := Lib.hid (show ∀ i, vh8.ownBlock = some i → ¬ LgS l12 v12 i from fun i hi hs => by
                    obtain ⟨_, cs, hk⟩ := W11.out.typed i hi
                    have := hk.lt
                    have := s12 i hs
                    omega)
                  clear h12 f12 s12 D11 W11 B11
                  go_wp2_with fail
                  have HG := Lib.hid (gen_any L12.out.w)
                  rw [R6.out.gen] at HG
                  refine HG.out.mono ?_
                  rintro e w13 ⟨rfl, rfl⟩
                  have HRC := Lib.hid (ls_records L12.out)
                  rw [R6.out.l, HLN8.out] at HRC
                  clear HG
                  go_wp2_with fail
                  refine HRC.out.mono ?_
                  rintro e w14 ⟨A14, c14, rfl, s14, b⟩
                  have L14 := Lib.hid (L12.out.below b)
                  have B14 := Lib.hid (B12.out.trans (b.mono B12.out.size))
                  have W14 := Lib.hid (W12.out.below b)
                  obtain ⟨A15, c15, hv15, hs15⟩ := win_strs W14.out
                  rw [HV8.out, HLN8.out] at hv15
                  injection hv15 with y1 y2 y3
                  rw [← y1, HLN8.out] at hs15
                  have HST := Lib.hid (sameT_any A14 A8 n8 n8 c14 c8 hs8 hs8 w14 s14 hs15 (by have := HHS8.out; omega))
                  rw [sameB_yes rfl] at HST
                  clear b s14 HRC L12 W12 B12 hs15 y1 y2 y3
                  go_wp2_with fail
                  refine HST.out.mono ?_
                  rintro e w16 ⟨rfl, b⟩
                  have L16 := Lib.hid (L14.out.below b)
                  have B16 := Lib.hid (B14.out.trans (b.mono B14.out.size))
                  have W16 := Lib.hid (W14.out.below b)
                  clear b HST L14 W14 B14
                  go_wp2_with fail
                  go_roundg (13 - (k + 1))
                  case measure => omega
                  case rel => exact ⟨k + 1, m9, L9, d9.crash [], l12, v12, vh8, hs8, A8, n8, c8, rfl, by omega, by go_num, rfl, rfl, rfl, by have := hm9.out; omega, HHS8.out, HLN8, HV8, L16, B16, Lib.hid ⟨R6.out.n, R6.out.gen, by have := hm9.out; omega, R6.out.l, by rw [R5.out]; exact Nat.zero_le _⟩, W16, F12⟩
              · have x1 : decide ((n2 : Int) ≤ (k : Int)) = true := decide_eq_true (by omega)
                have x1' : (n2 : Int) ≤ (k : Int) := by omega
                have x1'' : n2 ≤ k := by omega
                clear hkn
                go_wp2_with (at_builtin; refine wpList_append_run rfl _ _ _ _ rfl rfl rfl HR.out ?_)
                go_roundg (13 - (k + 1))
                case measure => omega
                case rel => exact ⟨k + 1, m, L2, d2, lp, v5, vh6, hs6, A6, nh6, c6, rfl, by omega, by go_num, rfl, rfl, rfl, by omega, HHS.out, HLN6, HV6, L6, B6, I2, W6, F6⟩
            · have HR0 := Lib.hid (appendL_full L d t HTL.out (by omega))
              rw [HR0.out] at HAP
              clear hfit
              go_wp2_with fail
              refine HAP.out.mono ?_
              rintro e w5 ⟨rfl, v5, h5⟩
              have B5 := Lib.hid (HB.out.trans h5.f.b)
              clear h5 HAP
              go_wp2_with fail
              go_ret
              exact ⟨rfl, B5.out⟩
      · obtain rfl : k = 12 := by omega
        have e1 : (12 : Int) < (n : Int) := by omega
        clear hlt hlt2
        go_wp2_with fail
        have HRC := Lib.hid (ls_records HL_.out)
        rw [HI.out.l] at HRC
        rw [HLN.out] at HRC
        refine HRC.out.mono ?_
        rintro e w7 ⟨A7, c7, rfl, s7, b⟩
        have L7 := Lib.hid (HL_.out.below b)
        have B7 := Lib.hid (HB.out.trans (b.mono HB.out.size))
        have W7 := Lib.hid (HW.out.below b)
        obtain ⟨A8, c8, hv8, hs8⟩ := win_strs W7.out
        rw [HVH.out, HLN.out] at hv8
        injection hv8 with y1 y2 y3
        rw [← y1, HLN.out] at hs8
        have HST := Lib.hid (sameT_any A7 Ah nh nh c7 ch hs hs w7 s7 hs8 (by omega))
        rw [sameB_yes rfl] at HST
        clear b s7 HRC HL_ HB HW hs8 y1 y2 y3
        go_wp2_with fail
        refine HST.out.mono ?_
        rintro e w8 ⟨rfl, b⟩
        have L8 := Lib.hid (L7.out.below b)
        have B8 := Lib.hid (B7.out.trans (b.mono B7.out.size))
        clear b HST L7 B7
        go_wp2_with fail
        have HG := Lib.hid (gen_any L8.out.w)
        rw [HI.out.gen] at HG
        refine HG.out.mono ?_
        rintro e w9 ⟨rfl, rfl⟩
        go_wp2_with fail
        go_ret
        exact ⟨rfl, B8.out⟩
    · have e1 : decide ((k : Int) < (n : Int)) = false := decide_eq_false (by omega)
      have e1' : decide (k < n) = false := decide_eq_false hlt
      clear hlt
      go_wp2_with fail
      have HRC := Lib.hid (ls_records HL_.out)
      rw [HI.out.l] at HRC
      rw [HLN.out] at HRC
      refine HRC.out.mono ?_
      rintro e w7 ⟨A7, c7, rfl, s7, b⟩
      have L7 := Lib.hid (HL_.out.below b)
      have B7 := Lib.hid (HB.out.trans (b.mono HB.out.size))
      have W7 := Lib.hid (HW.out.below b)
      obtain ⟨A8, c8, hv8, hs8⟩ := win_strs W7.out
      rw [HVH.out, HLN.out] at hv8
      injection hv8 with y1 y2 y3
      rw [← y1, HLN.out] at hs8
      have HST := Lib.hid (sameT_any A7 Ah nh nh c7 ch hs hs w7 s7 hs8 (by omega))
      rw [sameB_yes rfl] at HST
      clear b s7 HRC HL_ HB HW hs8 y1 y2 y3
      go_wp2_with fail
      refine HST.out.mono ?_
      rintro e w8 ⟨rfl, b⟩
      have L8 := Lib.hid (L7.out.below b)
      have B8 := Lib.hid (B7.out.trans (b.mono B7.out.size))
      clear b HST L7 B7
      go_wp2_with fail
      have HG := Lib.hid (gen_any L8.out.w)
      rw [HI.out.gen] at HG
      refine HG.out.mono ?_
      rintro e w9 ⟨rfl, rfl⟩
      go_wp2_with fail
      go_ret
      exact ⟨rfl, B8.out⟩
end Go.Proofs.YteajpebkanamgaaDoor

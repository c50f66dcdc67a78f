/- A joiner, as the laws hold it: taking a text, how many wait. -/
import Derived.Test.YtlogcgeinbefjaaDoorPtI
import Derived.Test.YtlogcgeinbefjaaDoorFit22
namespace Go.Proofs.YtlogcgeinbefjaaDoor
open Go.RowKit Go.Proofs.YtlogcgeinbefjaaDoorW.PrintWords Go.Proofs.YtlogcgeinbefjaaDoorW.PrintLast
set_option linter.unusedSimpArgs false
set_option linter.unusedVariables false
set_option maxRecDepth 20000
theorem JnA.lower {B B' : Nat} {w : World} {j : Nat} {vS vN : Value} {T : List Pl} {J : Jn} (h : JnA B w j vS vN T J) (hb : B' ≤ B) : JnA B' w j vS vN T J :=
  ⟨h.hj, Nat.le_trans hb h.bj, h.s.mono hb, h.n.mono hb, h.len, fun i t m h1 h2 => by
    have q := h.ms i t m h1 h2
    exact ⟨q.x, q.p, q.c, q.l, ⟨Nat.le_trans hb q.b.1, Nat.le_trans hb q.b.2.1, Nat.le_trans hb q.b.2.2⟩, q.n, q.lf, q.sz⟩, h.dx, h.dp, h.dc, h.np, h.bd⟩
/-- a joiner whose blocks lie from B on and are none of F's. -/
structure JW (B : Nat) (w : World) (F : Nat → Prop) (j : Nat) (J : Jn) : Prop where
  a : ∃ vS vN T, JnA B w j vS vN T J ∧ ∀ i, JS j vS vN T i → ¬ F i
  f : ∀ i, F i → i < w.heap.size
  bs : B ≤ w.heap.size
  k : KsAt w
  ks : 1 < B
  ok : ∀ m ∈ J.some, 1 ≤ m.left
/-- what a call leaves: the joiner, all below B, and F's blocks. -/
structure JNext (B : Nat) (w w' : World) (F : Nat → Prop) (j : Nat) (J' : Jn) : Prop where
  j : JW B w' F j J'
  b : Below B w w'
  o : ∀ g, F g → w'.heap[g]? = w.heap[g]?
section
variable {B : Nat} {w w' : World} {F : Nat → Prop} {j : Nat} {J : Jn}
theorem JW.below (h : JW B w F j J) (hb : Below w.heap.size w w') : JW B w' F j J := by
  obtain ⟨vS, vN, T, ha, hn⟩ := h.a
  exact ⟨⟨vS, vN, T, ha.below hb, hn⟩, fun i hi => Nat.lt_of_lt_of_le (h.f i hi) hb.size, Nat.le_trans h.bs hb.size, h.k.below (Nat.lt_of_lt_of_le h.ks h.bs) hb, h.ks, h.ok⟩
/-- a block of the law's own, made behind the joiner. -/
theorem JW.more (h : JW B w F j J) (hb : Below w.heap.size w w') (g : Nat) (hg : w.heap.size ≤ g) (hg2 : g < w'.heap.size) : JW B w' (fun i => i = g ∨ F i) j J := by
  obtain ⟨vS, vN, T, ha, hn⟩ := h.a
  have h2 := h.below hb
  exact ⟨⟨vS, vN, T, ha.below hb, fun i hi => by
    rintro (e | e)
    · have := (ha.lt hi).2; omega
    · exact hn i hi e⟩, fun i hi => by
    rcases hi with rfl | hi
    · exact hg2
    · exact h2.f i hi, h2.bs, h2.k, h2.ks, h2.ok⟩
/-- a block of the law's own is written, or one that is new. -/
theorem JW.wrote (h : JW B w F j J) (hb : Kp F w w') (hF : ∀ i, F i → B ≤ i) : JW B w' F j J := by
  obtain ⟨vS, vN, T, ha, hn⟩ := h.a
  exact ⟨⟨vS, vN, T, ha.kp hb hn, hn⟩, fun i hi => Nat.lt_of_lt_of_le (h.f i hi) hb.size, Nat.le_trans h.bs hb.size, h.k.belowB h.ks (hb.below hF h.bs), h.ks, h.ok⟩
theorem take_jw (h : JW B w F j J) (s : List UInt8) (hs : s.length ≤ 140737488355328) :
    Calls Tryd.prog 15 #[.pointer (some ⟨j, 0, none⟩), .string ⟨s.toArray⟩] w fun e w' => e = .returned (.tuple #[.agg (toldC (takeF J s).2), .bool (takeF J s).2.whole, .int .i64 (takeF J s).2.e]) ∧ JNext B w w' F j (takeF J s).1 := by
  obtain ⟨vS, vN, T, ha, hn⟩ := h.a
  refine (takeJ_any B j vS vN T J s w ha hs h.bs h.k h.ks h.ok).mono ?_
  rintro e w' ⟨he, vS', vN', T', ha', hk, hS⟩
  have hb : Below B w w' := hk.below (fun i hi => (ha.lt hi).1) h.bs
  refine ⟨he, ⟨⟨vS', vN', T', ha', fun i hi => ?_⟩, fun i hi => Nat.lt_of_lt_of_le (h.f i hi) hk.size, Nat.le_trans h.bs hk.size, h.k.belowB h.ks hb, h.ks, takeF_ok J s h.ok⟩, hb, fun g hg => hk.block g (h.f g hg) (fun e => hn g e hg)⟩
  rcases hS i hi with h1 | h1
  · exact hn i h1
  · intro e; have := h.f i e; omega
theorem JW.wait (h : JW B w F j J) : ∃ A c, w.cell? ⟨j, 1, none⟩ = some (.slice A J.some.length c) := by
  obtain ⟨vS, vN, T, ha, hn⟩ := h.a
  obtain ⟨A, c, hv, _, _⟩ := ha.s.form
  have hl : (ptrX T).length = J.some.length := by simp [ptrX, ha.len]
  rw [hl] at hv
  refine ⟨A, c, ?_⟩
  rw [ha.hj.cell 1, ← hv]
  rfl
theorem JW.left (h : JW B w F j J) : J.some.length ≤ J.most ∧ J.done.length ≤ J.noted := by
  obtain ⟨vS, vN, T, ha, hn⟩ := h.a
  exact ha.bd.2.2
end
set_option maxHeartbeats 400000 in
theorem waits_any {B : Nat} {w : World} {F : Nat → Prop} {j : Nat} {J : Jn} (h : JW B w F j J) :
    Calls Tryd.prog 18 #[.pointer (some ⟨j, 0, none⟩)] w fun e w' => e = .returned (.int .i64 (J.some.length : Nat)) ∧ w = w' := by
  obtain ⟨A, c, hc⟩ := h.wait
  go_enter Tryd.func18, Tryd.ntmps18
  go_wp2_with fail
  go_ret
  exact ⟨rfl, rfl⟩
/-- texts in a slice that lies below B. -/
structure Pts (B : Nat) (w : World) (A : Option Addr) (n c : Nat) (L : List (List UInt8)) : Prop where
  len : n = L.length
  le : n ≤ 9223372036854775807
  cap : n ≤ c
  at_ : 0 < n → ∃ b off, A = some ⟨b, off, none⟩ ∧ b < B ∧ ∀ i s, L[i]? = some s → w.cell? ⟨b, off + i, none⟩ = some (.string ⟨s.toArray⟩)
theorem Pts.below {B : Nat} {w w' : World} {A : Option Addr} {n c : Nat} {L : List (List UInt8)} (h : Pts B w A n c L) (hb : Below B w w') : Pts B w' A n c L :=
  ⟨h.len, h.le, h.cap, fun h0 => by
    obtain ⟨b, off, h1, h2, h3⟩ := h.at_ h0
    exact ⟨b, off, h1, h2, fun i s hs => (hb.cell (p := ⟨b, off + i, none⟩) h2).trans (h3 i s hs)⟩⟩
theorem Win.pts {w : World} {B' : Nat} {v : Value} {L : List (List UInt8)} (h : Win 9 w B' v (cstr L)) : ∃ A c, v = .slice A L.length c ∧ Pts w.heap.size w A L.length c L := by
  obtain ⟨A, c, hv, hc, hc2⟩ := h.form
  rw [cstr_length] at hv hc
  refine ⟨A, c, hv, rfl, Nat.le_trans hc hc2, hc, fun h0 => ?_⟩
  obtain ⟨b, off, cap, hv2, _, hb, _⟩ := h.at_ 0 (by rw [cstr_length]; exact h0)
  have hA : A = some ⟨b, off, none⟩ := by rw [hv] at hv2; injection hv2
  refine ⟨b, off, hA, hb, fun i s hs => ?_⟩
  have hi : i < (cstr L).length := by rw [cstr_length]; exact (List.getElem?_eq_some_iff.1 hs).1
  obtain ⟨b', off', cap', hv3, _, _, hcell⟩ := h.at_ i hi
  rw [hv2] at hv3
  injection hv3 with e1
  injection e1 with e1
  injection e1 with e1 e2
  subst e1; subst e2
  rw [hcell]
  simp [cstr, hs]
theorem Pts.cell {B : Nat} {w : World} {b off n c : Nat} {L : List (List UInt8)} (h : Pts B w (some ⟨b, off, none⟩) n c L) (i : Nat) (s : List UInt8) (hs : L[i]? = some s) : b < B ∧ w.cell? ⟨b, off + i, none⟩ = some (.string ⟨s.toArray⟩) := by
  have h0 : 0 < n := by rw [h.len]; have := (List.getElem?_eq_some_iff.1 hs).1; omega
  obtain ⟨b', off', h1, h2, h3⟩ := h.at_ h0
  injection h1 with h1
  injection h1 with e1 e2
  subst e1; subst e2
  exact ⟨h2, h3 i s hs⟩
theorem Pts.some {B : Nat} {w : World} {A : Option Addr} {n c : Nat} {L : List (List UInt8)} (h : Pts B w A n c L) (h0 : 0 < n) : ∃ b off, A = some ⟨b, off, none⟩ := by
  obtain ⟨b, off, h1, _⟩ := h.at_ h0
  exact ⟨b, off, h1⟩
/-- a new joiner behind parts.New. -/
theorem JW.start {w w' : World} {j a : Nat} (hj : JnA w.heap.size w' j (.slice none 0 0) (.slice none 0 0) [] (newJ a a)) (hb : Below w.heap.size w w') (hk : KsAt w) (hks : 1 < w.heap.size) : JW w.heap.size w' (fun _ => False) j (newJ a a) :=
  ⟨⟨_, _, _, hj, fun _ _ h => h⟩, fun _ h => h.elim, hb.size, hk.below hks hb, hks, fun m hm => by simp [newJ] at hm⟩
end Go.Proofs.YtlogcgeinbefjaaDoor

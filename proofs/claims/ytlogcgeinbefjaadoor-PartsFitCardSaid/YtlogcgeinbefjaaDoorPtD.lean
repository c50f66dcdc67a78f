/- The joiner's steps, in memory. -/
import Derived.Test.YtlogcgeinbefjaaDoorPtC
namespace Go.Proofs.YtlogcgeinbefjaaDoor
open Go.RowKit Go.Proofs.YtlogcgeinbefjaaDoorW.PrintWords Go.Proofs.YtlogcgeinbefjaaDoorW.PrintLast
set_option linter.unusedSimpArgs false
set_option linter.unusedVariables false
set_option maxRecDepth 20000
/-- the joiner's blocks. -/
def JS (j : Nat) (vS vN : Value) (T : List Pl) (i : Nat) : Prop := i = j ∨ vS.ownBlock = some i ∨ vN.ownBlock = some i ∨ ∃ t ∈ T, i = t.x ∨ i = t.p ∨ i = t.c
theorem pushQ_map {α β : Type} (f : α → β) (m : Nat) (xs : List α) (x : α) : (pushQ m xs x).map f = pushQ m (xs.map f) (f x) := by
  unfold pushQ
  rw [List.map_append, List.length_map]
  split <;> simp [List.map_drop]
theorem pushQ_length {α : Type} (m : Nat) (xs : List α) (x : α) (h : 1 ≤ m) (hx : xs.length ≤ m) : (pushQ m xs x).length = min (xs.length + 1) m := by
  unfold pushQ
  split <;> simp <;> omega
theorem pushQ_mem {α : Type} {m : Nat} {xs : List α} {x y : α} (h : y ∈ pushQ m xs x) : y ∈ xs ∨ y = x := by
  unfold pushQ at h
  rcases List.mem_append.1 h with h | h
  · split at h
    · exact .inl (List.mem_of_mem_drop h)
    · exact .inl h
  · exact .inr (List.mem_singleton.1 h)
theorem pushQ_get {α β : Type} {m : Nat} {xs : List α} {ys : List β} {x : α} {y : β} (hl : xs.length = ys.length) {i : Nat} {a : α} {b : β} (ha : (pushQ m xs x)[i]? = some a) (hb : (pushQ m ys y)[i]? = some b) :
    (a = x ∧ b = y) ∨ ∃ k : Nat, xs[k]? = some a ∧ ys[k]? = some b := by
  unfold pushQ at ha hb
  rw [← hl] at hb
  by_cases h : xs.length = m
  · rw [if_pos h] at ha hb
    rw [List.getElem?_append] at ha hb
    rw [List.length_drop] at ha hb
    rw [← hl] at hb
    split at ha
    · rename_i hi
      rw [if_pos hi] at hb
      rw [List.getElem?_drop] at ha hb
      exact .inr ⟨_, ha, hb⟩
    · rename_i hi
      rw [if_neg hi] at hb
      have h0 : i - (xs.length - 1) = 0 := by
        have := (List.getElem?_eq_some_iff.1 ha).1
        simpa using this
      rw [h0] at ha hb
      exact .inl ⟨(Option.some.inj ha).symm, (Option.some.inj hb).symm⟩
  · rw [if_neg h] at ha hb
    rw [List.getElem?_append] at ha hb
    rw [← hl] at hb
    split at ha
    · rename_i hi
      rw [if_pos hi] at hb
      exact .inr ⟨_, ha, hb⟩
    · rename_i hi
      rw [if_neg hi] at hb
      have h0 : i - xs.length = 0 := by
        have := (List.getElem?_eq_some_iff.1 ha).1
        simpa using this
      rw [h0] at ha hb
      exact .inl ⟨(Option.some.inj ha).symm, (Option.some.inj hb).symm⟩
theorem pushQ_nodup {α : Type} {m : Nat} {xs : List α} {x : α} (h : xs.Nodup) (hx : x ∉ xs) : (pushQ m xs x).Nodup := by
  unfold pushQ
  rw [List.nodup_append]
  refine ⟨?_, by simp, fun a ha b hb e => ?_⟩
  · split
    · exact h.sublist (List.drop_sublist 1 xs)
    · exact h
  · rw [List.mem_singleton.1 hb] at e
    subst e
    refine hx ?_
    split at ha
    · exact List.mem_of_mem_drop ha
    · exact ha
theorem ptrX_eq (T : List Pl) : ptrX T = ptrN (T.map (·.x)) := by simp [ptrX, ptrN]
section
variable {B : Nat} {w w' : World} {j : Nat} {vS vN : Value} {T : List Pl} {J : Jn} {t : Pl} {m : Ms} {S : Nat → Prop}
theorem MsA.kp (h : MsA B w t m) (k : Kp S w w') (h1 : ¬ S t.x) (h2 : ¬ S t.p) (h3 : ¬ S t.c) : MsA B w' t m := ⟨h.x.kp k h1, h.p.kp k h2, h.c.kp k h3, h.l, h.b, h.n, h.lf, h.sz⟩
theorem JnA.lt (h : JnA B w j vS vN T J) {i : Nat} (hi : JS j vS vN T i) : B ≤ i ∧ i < w.heap.size := by
  rcases hi with rfl | hi | hi | ⟨t, ht, hi⟩
  · exact ⟨h.bj, h.hj.lt⟩
  · obtain ⟨h1, cs, h2⟩ := h.s.typed i hi; exact ⟨h1, h2.lt⟩
  · obtain ⟨h1, cs, h2⟩ := h.n.typed i hi; exact ⟨h1, h2.lt⟩
  · obtain ⟨k, hk, rfl⟩ := List.mem_iff_getElem.1 ht
    have hm := h.ms k T[k] (J.some[k]'(by rw [← h.len]; exact hk)) (List.getElem?_eq_getElem hk) (List.getElem?_eq_getElem (by rw [← h.len]; exact hk))
    rcases hi with rfl | rfl | rfl
    · exact ⟨hm.b.1, hm.x.lt⟩
    · exact ⟨hm.b.2.1, hm.p.lt⟩
    · exact ⟨hm.b.2.2, hm.c.lt⟩
theorem JnA.mem (h : JnA B w j vS vN T J) {t : Pl} (ht : t ∈ T) : ∃ m, MsA B w t m := by
  obtain ⟨k, hk, rfl⟩ := List.mem_iff_getElem.1 ht
  exact ⟨_, h.ms k T[k] (J.some[k]'(by rw [← h.len]; exact hk)) (List.getElem?_eq_getElem hk) (List.getElem?_eq_getElem (by rw [← h.len]; exact hk))⟩
/-- one message more. -/
theorem JnA.pushed (h : JnA B w j vS vN T J) (ht : MsA B w t m) (fx : ∀ u ∈ T, u.x ≠ t.x ∧ u.p ≠ t.p ∧ u.c ≠ t.c) (fp : vN.ownBlock ≠ some t.p) {v' : Value} (hb : Blk w' j 63 (jC v' vN J)) (hW : Win 70 w' B v' (ptrN (pushQ J.most (T.map (·.x)) t.x)))
    (k : Kp (fun i => i = j ∨ vS.ownBlock = some i) w w') : JnA B w' j v' vN (pushQ J.most T t) { J with some := pushQ J.most J.some m } := by
  have far : ∀ {t : Pl} {m : Ms}, MsA B w t m → ¬ (t.x = j ∨ vS.ownBlock = some t.x) ∧ ¬ (t.p = j ∨ vS.ownBlock = some t.p) ∧ ¬ (t.c = j ∨ vS.ownBlock = some t.c) := by
    intro t m hm
    refine ⟨?_, ?_, ?_⟩ <;> rintro (e | e)
    · exact absurd ((e ▸ hm.x : Blk w j _ _).ty h.hj).1 (by decide)
    · obtain ⟨_, cs, h2⟩ := h.s.typed _ e; exact absurd (hm.x.ty h2).1 (by decide)
    · exact absurd ((e ▸ hm.p : Blk w j _ _).ty h.hj).1 (by decide)
    · obtain ⟨_, cs, h2⟩ := h.s.typed _ e; exact absurd (hm.p.ty h2).1 (by decide)
    · exact absurd ((e ▸ hm.c : Blk w j _ _).ty h.hj).1 (by decide)
    · obtain ⟨_, cs, h2⟩ := h.s.typed _ e; exact absurd (hm.c.ty h2).1 (by decide)
  have hbd := h.bd
  refine ⟨hb, h.bj, by rw [ptrX_eq, pushQ_map]; exact hW, h.n.kp k (fun b hv e => ?_), ?_, fun i t' m' h1 h2 => ?_, ?_, ?_, ?_, fun u hu => ?_, hbd.1, hbd.2.1, ?_, hbd.2.2.2⟩
  · rcases e with rfl | e
    · obtain ⟨_, cs, h2⟩ := h.n.typed _ hv; exact absurd (h2.ty h.hj).1 (by decide)
    · obtain ⟨_, cs, h2⟩ := h.n.typed _ hv; obtain ⟨_, cs', h3⟩ := h.s.typed _ e; exact absurd (h2.ty h3).1 (by decide)
  · show _ = (pushQ J.most J.some m).length
    rw [pushQ_length _ _ _ hbd.1.1 (by rw [h.len]; exact hbd.2.2.1), pushQ_length _ _ _ hbd.1.1 hbd.2.2.1, h.len]
  · rcases pushQ_get h.len h1 h2 with ⟨rfl, rfl⟩ | ⟨q, hq1, hq2⟩
    · obtain ⟨f1, f2, f3⟩ := far ht; exact ht.kp k f1 f2 f3
    · have hm := h.ms q _ _ hq1 hq2
      obtain ⟨f1, f2, f3⟩ := far hm; exact hm.kp k f1 f2 f3
  · rw [pushQ_map]; exact pushQ_nodup h.dx (fun hm => by obtain ⟨u, hu, e⟩ := List.mem_map.1 hm; exact (fx u hu).1 e)
  · rw [pushQ_map]; exact pushQ_nodup h.dp (fun hm => by obtain ⟨u, hu, e⟩ := List.mem_map.1 hm; exact (fx u hu).2.1 e)
  · rw [pushQ_map]; exact pushQ_nodup h.dc (fun hm => by obtain ⟨u, hu, e⟩ := List.mem_map.1 hm; exact (fx u hu).2.2 e)
  · rcases pushQ_mem hu with hu | rfl
    · exact h.np u hu
    · exact fp
  · show (pushQ J.most J.some m).length ≤ J.most
    rw [pushQ_length _ _ _ hbd.1.1 hbd.2.2.1]; omega
theorem nodup_ne {α β : Type} {f : α → β} {l : List α} (h : (l.map f).Nodup) {i k : Nat} {a b : α} (ha : l[i]? = some a) (hb : l[k]? = some b) (hne : i ≠ k) : f a ≠ f b := by
  intro e
  have hi := (List.getElem?_eq_some_iff.1 ha)
  have hk := (List.getElem?_eq_some_iff.1 hb)
  have := (List.getElem_inj (i := i) (j := k) (h₀ := by rw [List.length_map]; exact hi.1) (h₁ := by rw [List.length_map]; exact hk.1) h).1 (by rw [List.getElem_map, List.getElem_map, hi.2, hk.2, e])
  exact hne this
/-- a message after a piece came. -/
def Ms.put (m : Ms) (k : Nat) (s : List UInt8) : Ms := { m with pcs := m.pcs.set k s, came := m.came.set k true, left := m.left - 1 }
theorem bls_set (l : List Bool) (k : Nat) (b : Bool) : (bls l).toArray.setIfInBounds k (.bool b) = (bls (l.set k b)).toArray := by simp [bls, List.map_set]
theorem cstr_set_ (l : List (List UInt8)) (k : Nat) (s : List UInt8) : (cstr l).toArray.setIfInBounds k (.string ⟨s.toArray⟩) = (cstr (l.set k s)).toArray := by simp [cstr, List.map_set]
def putW (w : World) (t : Pl) (k : Nat) (s : List UInt8) (l : Int) : World := (((w.setCell ⟨t.p, k, none⟩ (.string ⟨s.toArray⟩)).setCell ⟨t.c, k, none⟩ (.bool true)).setCell ⟨t.x, 4, none⟩ (.int .i64 l))
theorem putW_kp (w : World) (t : Pl) (k : Nat) (s : List UInt8) (l : Int) : Kp (fun i => i = t.x ∨ i = t.p ∨ i = t.c) w (putW w t k s l) :=
  ((Kp.set_ (S := fun i => i = t.x ∨ i = t.p ∨ i = t.c) (g := t.p) (.inr (.inl rfl)) _ _).trans (Kp.set_ (g := t.c) (.inr (.inr rfl)) _ _)).trans (Kp.set_ (g := t.x) (.inl rfl) _ _)
theorem MsA.put (h : MsA B w t m) (k : Nat) (s : List UInt8) (hs : s.length ≤ 200) (hl : 1 ≤ m.left) : MsA B (putW w t k s (m.left - 1)) t (m.put k s) := by
  have n1 : t.x ≠ t.p := fun e => absurd ((e ▸ h.x : Blk w t.p _ _).ty h.p).1 (by decide)
  have n2 : t.x ≠ t.c := fun e => absurd ((e ▸ h.x : Blk w t.c _ _).ty h.c).1 (by decide)
  have n3 : t.p ≠ t.c := fun e => absurd ((e ▸ h.p : Blk w t.c _ _).ty h.c).1 (by decide)
  have hlf := h.lf
  refine ⟨?_, ?_, ?_, ?_, h.b, ?_, ?_, fun u hu => ?_⟩
  · have := ((h.x.far (p := ⟨t.p, k, none⟩) n1 (.string ⟨s.toArray⟩)).far (p := ⟨t.c, k, none⟩) n2 (.bool true)).set_ 4 (.int .i64 (m.left - 1))
    have e : (msC t m).setIfInBounds 4 (.int .i64 (m.left - 1)) = msC t (m.put k s) := by simp [msC, Ms.put]
    rw [e] at this; exact this
  · have := ((h.p.set_ k (.string ⟨s.toArray⟩)).far (p := ⟨t.c, k, none⟩) n3 (.bool true)).far (p := ⟨t.x, 4, none⟩) n1.symm (.int .i64 (m.left - 1))
    rw [cstr_set_] at this; exact this
  · have := ((h.c.far (p := ⟨t.p, k, none⟩) n3.symm (.string ⟨s.toArray⟩)).set_ k (.bool true)).far (p := ⟨t.x, 4, none⟩) n2.symm (.int .i64 (m.left - 1))
    rw [bls_set] at this; exact this
  · show (m.came.set k true).length = (m.pcs.set k s).length
    rw [List.length_set, List.length_set]; exact h.l
  · show 1 ≤ (m.pcs.set k s).length ∧ (m.pcs.set k s).length ≤ 11
    rw [List.length_set]; exact h.n
  · show 0 ≤ m.left - 1 ∧ m.left - 1 ≤ 11; omega
  · rcases List.mem_or_eq_of_mem_set hu with hu | rfl
    · exact h.sz u hu
    · exact hs
/-- a piece came. -/
theorem JnA.piece (h : JnA B w j vS vN T J) {i : Nat} (hT : T[i]? = some t) (hm : J.some[i]? = some m) (k : Nat) (s : List UInt8) (hs : s.length ≤ 200) (hl : 1 ≤ m.left) : JnA B (putW w t k s (m.left - 1)) j vS vN T { J with some := J.some.set i (m.put k s) } := by
  have hA := h.ms i t m hT hm
  have kp := putW_kp w t k s (m.left - 1)
  have hmem : t ∈ T := List.mem_of_getElem? hT
  refine ⟨h.hj.kp kp ?_, h.bj, h.s.kp kp (fun b hv e => ?_), h.n.kp kp (fun b hv e => ?_), by show _ = (J.some.set i _).length; rw [List.length_set]; exact h.len, fun q t' m' h1 h2 => ?_, h.dx, h.dp, h.dc, h.np, h.bd.1, h.bd.2.1, by show (J.some.set i _).length ≤ _; rw [List.length_set]; exact h.bd.2.2.1, h.bd.2.2.2⟩
  · rintro (e | e | e)
    · exact absurd ((e ▸ h.hj : Blk w t.x _ _).ty hA.x).1 (by decide)
    · exact absurd ((e ▸ h.hj : Blk w t.p _ _).ty hA.p).1 (by decide)
    · exact absurd ((e ▸ h.hj : Blk w t.c _ _).ty hA.c).1 (by decide)
  · obtain ⟨_, cs, h2⟩ := h.s.typed _ hv
    rcases e with rfl | rfl | rfl
    · exact absurd (h2.ty hA.x).1 (by decide)
    · exact absurd (h2.ty hA.p).1 (by decide)
    · exact absurd (h2.ty hA.c).1 (by decide)
  · obtain ⟨_, cs, h2⟩ := h.n.typed _ hv
    rcases e with rfl | rfl | rfl
    · exact absurd (h2.ty hA.x).1 (by decide)
    · exact h.np t hmem hv
    · exact absurd (h2.ty hA.c).1 (by decide)
  · by_cases hq : q = i
    · subst hq
      rw [hT] at h1; cases h1
      have : J.some.set q (m.put k s) = J.some.set q (m.put k s) := rfl
      rw [show ({ J with some := J.some.set q (m.put k s) } : Jn).some = J.some.set q (m.put k s) from rfl, List.getElem?_set_self (List.getElem?_eq_some_iff.1 hm).1] at h2
      cases h2
      exact hA.put k s hs hl
    · rw [show ({ J with some := J.some.set i (m.put k s) } : Jn).some = J.some.set i (m.put k s) from rfl, List.getElem?_set_ne (Ne.symm hq)] at h2
      have hB := h.ms q t' m' h1 h2
      refine hB.kp kp ?_ ?_ ?_
      · rintro (e | e | e)
        · exact nodup_ne h.dx h1 hT hq e
        · exact absurd ((e ▸ hB.x : Blk w t.p _ _).ty hA.p).1 (by decide)
        · exact absurd ((e ▸ hB.x : Blk w t.c _ _).ty hA.c).1 (by decide)
      · rintro (e | e | e)
        · exact absurd ((e ▸ hB.p : Blk w t.x _ _).ty hA.x).1 (by decide)
        · exact nodup_ne h.dp h1 hT hq e
        · exact absurd ((e ▸ hB.p : Blk w t.c _ _).ty hA.c).1 (by decide)
      · rintro (e | e | e)
        · exact absurd ((e ▸ hB.c : Blk w t.x _ _).ty hA.x).1 (by decide)
        · exact absurd ((e ▸ hB.c : Blk w t.p _ _).ty hA.p).1 (by decide)
        · exact nodup_ne h.dc h1 hT hq e
/-- a message is taken out. -/
theorem JnA.cut (h : JnA B w j vS vN T J) (i : Nat) (hi : i < J.some.length) {v' : Value} (hb : Blk w' j 63 (jC v' vN J)) (hW : Win 70 w' B v' (ptrN ((T.map (·.x)).eraseIdx i))) (k : Kp (fun i => i = j) w w') : JnA B w' j v' vN (T.eraseIdx i) { J with some := J.some.eraseIdx i } := by
  have sub := List.eraseIdx_sublist T i
  refine ⟨hb, h.bj, by rw [ptrX_eq]; rw [show (T.eraseIdx i).map (·.x) = (T.map (·.x)).eraseIdx i by rw [List.eraseIdx_eq_take_drop_succ, List.eraseIdx_eq_take_drop_succ, List.map_append, List.map_take, List.map_drop]]; exact hW, h.n.kp k (fun b hv e => ?_), ?_, fun q t' m' h1 h2 => ?_, h.dx.sublist (sub.map _), h.dp.sublist (sub.map _), h.dc.sublist (sub.map _), fun u hu => h.np u (sub.subset hu), h.bd.1, h.bd.2.1, ?_, h.bd.2.2.2⟩
  · subst e
    obtain ⟨_, cs, h2⟩ := h.n.typed _ hv; exact absurd (h2.ty h.hj).1 (by decide)
  · show _ = (J.some.eraseIdx i).length
    rw [List.length_eraseIdx, List.length_eraseIdx, h.len]
  · have h2' : (J.some.eraseIdx i)[q]? = some m' := h2
    rw [List.getElem?_eraseIdx] at h1 h2'
    have : ∃ r : Nat, T[r]? = some t' ∧ J.some[r]? = some m' := by
      split at h1
      · rename_i hq; rw [if_pos hq] at h2'; exact ⟨_, h1, h2'⟩
      · rename_i hq; rw [if_neg hq] at h2'; exact ⟨_, h1, h2'⟩
    obtain ⟨r, h1, h2⟩ := this
    have hm := h.ms r t' m' h1 h2
    exact hm.kp k (fun e => absurd ((e ▸ hm.x : Blk w j _ _).ty h.hj).1 (by decide)) (fun e => absurd ((e ▸ hm.p : Blk w j _ _).ty h.hj).1 (by decide)) (fun e => absurd ((e ▸ hm.c : Blk w j _ _).ty h.hj).1 (by decide))
  · show (J.some.eraseIdx i).length ≤ J.most
    rw [List.length_eraseIdx]; have := h.bd.2.2.1; split <;> omega
/-- an id more. -/
theorem JnA.noted (h : JnA B w j vS vN T J) (id : List UInt8) {v' : Value} (hb : Blk w' j 63 (jC vS v' J)) (hW : Win 9 w' B v' (cstr (pushQ J.noted J.done id))) (k : Kp (fun i => i = j ∨ vN.ownBlock = some i) w w') (hv : v'.ownBlock = vN.ownBlock ∨ ∃ b, v'.ownBlock = some b ∧ w.heap.size ≤ b) :
    JnA B w' j vS v' T { J with done := pushQ J.noted J.done id } := by
  refine ⟨hb, h.bj, h.s.kp k (fun b hv e => ?_), hW, h.len, fun q t' m' h1 h2 => ?_, h.dx, h.dp, h.dc, fun u hu e => ?_, h.bd.1, h.bd.2.1, h.bd.2.2.1, ?_⟩
  · obtain ⟨_, cs, h2⟩ := h.s.typed _ hv
    rcases e with rfl | e
    · exact absurd (h2.ty h.hj).1 (by decide)
    · obtain ⟨_, cs', h3⟩ := h.n.typed _ e; exact absurd (h2.ty h3).1 (by decide)
  · have hm := h.ms q t' m' h1 h2
    refine hm.kp k ?_ ?_ ?_ <;> rintro (e | e)
    · exact absurd ((e ▸ hm.x : Blk w j _ _).ty h.hj).1 (by decide)
    · obtain ⟨_, cs', h3⟩ := h.n.typed _ e; exact absurd (hm.x.ty h3).1 (by decide)
    · exact absurd ((e ▸ hm.p : Blk w j _ _).ty h.hj).1 (by decide)
    · exact h.np t' (List.mem_of_getElem? h1) e
    · exact absurd ((e ▸ hm.c : Blk w j _ _).ty h.hj).1 (by decide)
    · obtain ⟨_, cs', h3⟩ := h.n.typed _ e; exact absurd (hm.c.ty h3).1 (by decide)
  · rcases hv with hv | ⟨b, hv, hb2⟩
    · exact h.np u hu (hv ▸ e)
    · rw [hv] at e
      obtain ⟨m, hm⟩ := h.mem hu
      have := hm.p.lt
      cases e
      omega
  · show (pushQ J.noted J.done id).length ≤ J.noted
    rw [pushQ_length _ _ _ h.bd.2.1.1 h.bd.2.2.2]; omega
end
end Go.Proofs.YtlogcgeinbefjaaDoor

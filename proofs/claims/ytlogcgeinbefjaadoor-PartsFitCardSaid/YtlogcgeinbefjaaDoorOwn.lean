/- Words of this session for a slice that the call itself made: append, make, store, read, 'string(b)', each as the equation of its run. -/
import Derived.Test.YtlogcgeinbefjaaDoorBase
import Derived.Lib.AppendStr
import Derived.Laws.OwnMore
import Derived.OwnWalk
namespace Go.Proofs.YtlogcgeinbefjaaDoor
open Go.RowKit
set_option linter.unusedSimpArgs false
set_option linter.unusedVariables false

/-- a slice of one-cell elements, made by the call since block B. -/
def Own (e : TypeId) (w : World) (B : Nat) (v : Value) (xs : List Value) : Prop := w.ownsRow B e 1 v xs.length xs
/-- what is known of the elements' type. -/
def Elem (P : Program) (t e : TypeId) (z : Value) (by_ : Nat) : Prop :=
  P.underlying t = some (.slice e) ∧ (P.info? e).map (fun i => (i.zero, i.size, i.bytes)) = some (some z, 1, by_) ∧ z.cells.size = 1

section
variable {P : Program} {t e ty : TypeId} {z : Value} {by_ : Nat} {w w' : World} {B : Nat} {v : Value} {xs : List Value}
theorem my_own_nil (e : TypeId) (w : World) (B : Nat) : Own e w B (.slice none 0 0) [] := World.ownsRow_nil w B e 1
theorem Own.form (h : Own e w B v xs) : ∃ A c, v = .slice A xs.length c := by
  rcases h.2 with ⟨h1, h2⟩ | ⟨g, cap, cur, h1, _⟩
  · exact ⟨none, 0, by rw [h1, h2]⟩
  · exact ⟨_, _, h1⟩
theorem Own.alloc (h : Own e w B v xs) (o : Obj) : Own e (w.alloc o) B v xs := World.ownsRow.alloc h o
theorem Own.drew (h : Own e w B v xs) : Own e w.drew B v xs := h
theorem Own.drewN (h : Own e w B v xs) (n : Nat) : Own e (w.drewN n) B v xs := h
theorem Own.lt (h : Own e w B v xs) : ∀ k, v.ownBlock = some k → B ≤ k ∧ k < w.heap.size := World.ownsRow.lt h
theorem Own.below (h : Own e w B v xs) (hb : Below w.heap.size w w') : Own e w' B v xs := by
  refine World.ownsRow.kept (row := none) h ⟨hb.os, hb.tape, hb.output, hb.size, fun k hk _ => hb.block k hk⟩ ?_
  cases hv : v.ownBlock with
  | none => exact .inl rfl
  | some g => exact .inr (by simp)
theorem Own.grown (h : Own e w B v xs) {row : Option Nat} (hg : w.grownBy w' row) (hne : v.ownBlock = none ∨ v.ownBlock ≠ row) : Own e w' B v xs := World.ownsRow.kept h hg hne
theorem Own.setFar (h : Own e w B v xs) {p : Addr} (hp : v.ownBlock ≠ some p.block) (u : Value) : Own e (w.setCell p u) B v xs :=
  h.grown (row := some p.block) ⟨rfl, rfl, rfl, by simp, fun k _ hk => heap_setCell_other w p k u (fun e => hk (by rw [e]))⟩ (.inr hp)
theorem own_kept (h : Own e w B v xs) (hb : ∀ k, k < w.heap.size → B ≤ k → w'.heap[k]? = w.heap[k]?) : Own e w' B v xs := by
  rcases h.2 with ⟨h1, h2⟩ | ⟨g, cap, cur, h1, hB, hg, h3⟩
  · exact ⟨h.1, .inl ⟨h1, h2⟩⟩
  · have hlt : g < w.heap.size := by
      rcases Nat.lt_or_ge g w.heap.size with hlt | hge
      · exact hlt
      · rw [Array.getElem?_eq_none hge] at hg; cases hg
    exact ⟨h.1, .inr ⟨g, cap, cur, h1, hB, (hb g hlt hB).trans hg, h3⟩⟩
theorem Own.below_grown (h : Own e w B v xs) {a : World} (ha : Below B a w) (hB : B ≤ w.heap.size) (hg : w.grownBy w' v.ownBlock) : Below B a w' :=
  ha.grown hg hB (fun k hk => (h.lt k hk).1)

/-- 'append(v, x, ..)', the elements lying in a block of their own. -/
theorem own_append (he : Elem P t e z by_) (h : Own e w B v xs) (g m c : Nat) (news : List Value) (hm : news.length = m) (hb : ∀ j u, news[j]? = some u → w.cell? ⟨g, j, none⟩ = some u) (h1 : ∀ u ∈ news, u.oneCell' = true)
    (hl : (xs.length + m) * by_ ≤ 140737488355328) (hl2 : xs.length + m ≤ 9223372036854775807) (hB : B ≤ w.heap.size) :
    ∃ A c' w', (Builtin.append_ #[t, t] ty #[v, .slice (some ⟨g, 0, none⟩) m c]).run P w = .ok (.slice A (xs.length + m) c') w' ∧ Own e w' B (.slice A (xs.length + m) c') (xs ++ news) ∧ w.grownBy w' v.ownBlock := by
  obtain ⟨i, hi, hz, hs, hby⟩ := info_parts he.2.1
  obtain ⟨v', w', hr, h2, h3, _⟩ := run_append_own (P := P) w B t ty e i z 1 by_ he.1 hi hz hs hby he.2.2 (by decide) v xs.length xs h ⟨g, 0, none⟩ m c news (by rw [hm, Nat.mul_one]) (fun j u hj => by
    have := hb j u hj
    unfold Addr.add
    split
    · rename_i h0; subst h0; exact this
    · simpa using this) h1 hl2 hl hB
  have ho : Own e w' B v' (xs ++ news) := by
    unfold Own
    rw [List.length_append, hm]
    exact h2
  obtain ⟨A, c', rfl⟩ := ho.form
  rw [List.length_append, hm] at ho hr
  exact ⟨A, c', w', hr, ho, h3⟩
/-- 'append(v, s...)', s a text. -/
theorem own_append_str (he : Elem P t e (.int .u8 0) 1) {u : TypeId} (hu : P.underlying u = some .string) (h : Own e w B v xs) (l : List UInt8)
    (hl : xs.length + l.length ≤ 140737488355328) (hB : B ≤ w.heap.size) :
    ∃ A c' w', (Builtin.append_ #[t, u] ty #[v, .string ⟨l.toArray⟩]).run P w = .ok (.slice A (xs.length + l.length) c') w' ∧ Own e w' B (.slice A (xs.length + l.length) c') (xs ++ cb l) ∧ w.grownBy w' v.ownBlock := by
  obtain ⟨i, hi, hz, hs, hby⟩ := info_parts he.2.1
  have hsz : (⟨l.toArray⟩ : ByteArray).size = l.length := by simp [ByteArray.size]
  obtain ⟨v', w', hr, h2, h3, _⟩ := Lib.run_append_own_string (P := P) w B t u ty e i he.1 hu hi hz hs hby v xs.length xs h ⟨l.toArray⟩ (by rw [hsz]; unfold maxLen; omega) (by rw [hsz]; exact hl) hB
  rw [hsz] at h2
  have hcl : (cb l).length = l.length := by simp [cb]
  have ho : Own e w' B v' (xs ++ cb l) := by
    unfold Own
    rw [List.length_append, hcl]
    exact h2
  obtain ⟨A, c', rfl⟩ := ho.form
  rw [List.length_append, hcl] at ho hr
  exact ⟨A, c', w', hr, ho, h3⟩
/-- 'make([]T, n)'. -/
theorem own_make (he : Elem P t e z by_) (w : World) (kl kc : IntKind) (n : Nat) (hb : by_ * n ≤ 281474976710656) (hl : n ≤ 9223372036854775807) (hB : B ≤ w.heap.size) :
    ∃ w', (Instr.makeSlice t (.int kl (n : Int)) (.int kc (n : Int))).run P w = .ok (.slice (some ⟨w.heap.size, 0, none⟩) n n) w' ∧ Own e w' B (.slice (some ⟨w.heap.size, 0, none⟩) n n) (List.replicate n z.cells[0]!) ∧ w.grownBy w' none := by
  obtain ⟨i, hi, hz, hs, hby⟩ := info_parts he.2.1
  obtain ⟨w', hr, h2, h3⟩ := run_make_full (P := P) w B t e i z 1 he.1 hi hz hs kl kc n (by rw [hby]; exact hb) hl hB
  refine ⟨w', hr, ?_, h3⟩
  have hz1 : z.cells = #[z.cells[0]!] := by
    have := he.2.2
    match hc : z.cells, this with
    | ⟨[x]⟩, _ => rfl
  rw [hz1, Nat.mul_one, toList_madeCells_one] at h2
  unfold Own
  rw [List.length_replicate]
  exact h2
theorem Own.cell {g cap : Nat} {n : Nat} (h : Own e w B (.slice (some ⟨g, 0, none⟩) n cap) xs) (j : Nat) (hj : j < xs.length) : w.cell? ⟨g, j, none⟩ = xs[j]? := by
  obtain ⟨A, c, hv⟩ := h.form
  injection hv with h1 h2 h3
  subst h2
  exact World.ownsRow.cellAt h j (by omega)
theorem Own.frozen {g cap n : Nat} (h : Own e w B (.slice (some ⟨g, 0, none⟩) n cap) xs) (j : Nat) : w.frozen? ⟨g, j, none⟩ = false := by
  obtain ⟨A, c, hv⟩ := h.form
  injection hv with h1 h2 h3
  subst h2
  exact World.ownsRow.frozenAt h j
theorem Own.set_ {g cap n : Nat} (h : Own e w B (.slice (some ⟨g, 0, none⟩) n cap) xs) (j : Nat) (u : Value) : Own e (w.setCell ⟨g, j, none⟩ u) B (.slice (some ⟨g, 0, none⟩) n cap) (xs.set j u) := by
  obtain ⟨A, c, hv⟩ := h.form
  injection hv with h1 h2 h3
  subst h2
  have := (World.ownsRow.stored h j u).1
  unfold Own
  rw [List.length_set]
  exact this
theorem Own.at_ {A : Option Addr} {n cap : Nat} (h : Own e w B (.slice A n cap) xs) (hn : 0 < xs.length) : ∃ g, A = some ⟨g, 0, none⟩ ∧ B ≤ g ∧ g < w.heap.size := by
  rcases h.2 with ⟨h1, h2⟩ | ⟨g, cap', cur, h1, hB, hg, h3⟩
  · omega
  · injection h1 with h1 _ _
    refine ⟨g, h1, hB, ?_⟩
    rcases Nat.lt_or_ge g w.heap.size with hlt | hge
    · exact hlt
    · rw [Array.getElem?_eq_none hge] at hg; cases hg
/-- 'string(b)'. -/
theorem my_own_string (hs : P.underlying t = some (.slice e)) (he : P.underlying e = some (.int .u8)) {d : TypeId} (hd : P.underlying d = some .string) {l : List UInt8} (h : Own e w B v (cb l)) :
    (convert t d v).run P w = .ok (.string ⟨l.toArray⟩) w := by
  rcases h.2 with ⟨h1, h2⟩ | ⟨g, cap, cur, h1, _⟩
  · have hl : l = [] := by simpa [cb] using h2
    subst hl; subst h1
    exact run_convert_bytes_nil w t e hs he 0 0 d hd
  · subst h1
    have hl : l.length = (cb l).length := by simp [cb]
    refine run_bytes_cells w t d e hs he hd g 0 cap l _ hl (fun i hi => ?_)
    rw [Nat.zero_add, h.cell i hi]
    rw [← hl] at hi
    simp [cb, bd, List.getElem?_eq_getElem hi]
end
/-- an append whose run is known, in a plain region. -/
theorem wpList_append_run {P : Program} {w w' : World} {ops : Array Oper} {rest : List Oper} {o : Oper} {a : Act} {Q : Exit → Act → World → Prop} {v sv xv : Value} (hgd : o.guard = none) (s x : Operand) (t u : TypeId)
    (ho : o.op = .call { callee := .builtin .append, args := #[s, x], argTypes := #[t, u] }) (hs : a.eval s = sv) (hx : a.eval x = xv)
    (hrun : (Builtin.append_ #[t, u] o.type #[sv, xv]).run P w = .ok v w') (h : wpList P ops Q rest (a.put o.dst v) w') : wpList P ops Q (o :: rest) a w := by
  refine wpList_plain hgd fun K hK => ?_
  unfold Oper.wp execOp
  simp only [ho, resolve, invoke, builtin, Sem.run_bind, Sem.run_pure, Result.andThen_ok, List.map_toArray, List.map_cons, List.map_nil, hs, hx, hrun]
  exact hK _ _ h
/-- .. as a step of a region that draws. -/
theorem step_append_run {P : Program} {w w' : World} {ops : Array Oper} {o : Oper} {a : Act} {K : Act → World → Prop} {Q : Exit → Act → World → Prop} {E : Prop} {v sv xv : Value} (hgd : o.guard = none) (s x : Operand) (t u : TypeId)
    (ho : o.op = .call { callee := .builtin .append, args := #[s, x], argTypes := #[t, u] }) (hs : a.eval s = sv) (hx : a.eval x = xv)
    (hrun : (Builtin.append_ #[t, u] o.type #[sv, xv]).run P w = .ok v w') (h : K (a.put o.dst v) w') : if Region.wanted o (yielded ops a.tmps) = true then Oper.wp P o a w K Q else E := by
  have hw : Region.wanted o (yielded ops a.tmps) = true := by simp [Region.wanted, hgd]
  rw [if_pos hw]
  unfold Oper.wp execOp
  simp only [ho, resolve, invoke, builtin, Sem.run_bind, Sem.run_pure, Result.andThen_ok, List.map_toArray, List.map_cons, List.map_nil, hs, hx, hrun]
  exact h
theorem cb_append (a b : List UInt8) : cb (a ++ b) = cb a ++ cb b := by simp [cb]
theorem cb_length (a : List UInt8) : (cb a).length = a.length := by simp [cb]
/-- texts as cells. -/
def cstr (ls : List (List UInt8)) : List Value := ls.map fun l => .string ⟨l.toArray⟩
theorem cstr_append (a b : List (List UInt8)) : cstr (a ++ b) = cstr a ++ cstr b := by simp [cstr]
theorem cstr_length (a : List (List UInt8)) : (cstr a).length = a.length := by simp [cstr]
theorem cstr_get (a : List (List UInt8)) (i : Nat) (h : i < a.length) : (cstr a)[i]? = some (.string ⟨(a.getD i []).toArray⟩) := by simp [cstr, List.getElem?_eq_getElem h]
theorem extract_mid (l : List UInt8) (i j : Nat) : (⟨l.toArray⟩ : ByteArray).extract i j = ⟨((l.drop i).take (j - i)).toArray⟩ := by
  apply ByteArray.ext
  rw [ByteArray.data_extract]
  simp
/-- a slice of ints that came in. -/
def Ints (w : World) (A : Option Addr) (n : Nat) (zs : List Int) : Prop :=
  zs.length = n ∧ (0 < n → ∃ g o, A = some ⟨g, o, none⟩ ∧ g < w.heap.size ∧ ∀ i, i < n → w.cell? ⟨g, o + i, none⟩ = some (.int .i64 (zs.getD i 0)))
theorem Ints.below {w w' : World} {A : Option Addr} {n : Nat} {ls : List Int} (h : Ints w A n ls) (hb : Below w.heap.size w w') : Ints w' A n ls :=
  ⟨h.1, fun hn => by
    obtain ⟨g, o, e, hg, hc⟩ := h.2 hn
    exact ⟨g, o, e, Nat.lt_of_lt_of_le hg hb.size, fun i hi => (hb.cell (p := ⟨g, o + i, none⟩) hg).trans (hc i hi)⟩⟩
/-- a new block's cells. -/
theorem new_cells (w : World) (t : TypeId) (xs : List Value) (j : Nat) (u : Value) (h : xs[j]? = some u) : (w.alloc (.cells xs.toArray t)).cell? ⟨w.heap.size, j, none⟩ = some u := by
  rw [(Blk.new w t xs.toArray).cell j]
  simpa using h
end Go.Proofs.YtlogcgeinbefjaaDoor

/- A slice of acts (structs of five fields, one of them a slice of numbers) among a law's arguments, opened. -/
import Derived.Test.YtbbmhcloigphjaaFrameT
import Derived.Test.YtbbmhcloigphjaaRkL
import Derived.Lib.SmallJoins
import Derived.Deep.Slices
import Derived.Deep.Fields
import Derived.ChangeSame
namespace Go.Proofs.Ytbbmhcloigphjaa
open Go.ChangeShapes Go.WideShapes Go.ChangeAt Go.RowKit Go.Joins Go.Deep Go.WideElems Go.Maps
open Go.ChangeMaps (open_string shut_string)
set_option linter.unusedSimpArgs false
set_option linter.unusedVariables false
/-- an act. -/
structure Av where
  kind : Int
  n : Int
  text : List UInt8
  raw : Bool
  PA : Option Addr
  pn : Nat
  pc : Nat
  picks : List Int
def Av.vals (a : Av) : List Value := [.int .i64 a.kind, .int .i64 a.n, .string ⟨a.text.toArray⟩, .bool a.raw, .slice a.PA a.pn a.pc]
def Av.pk (w : World) (a : Av) : Prop := PkB w.heap.size w a.PA a.pn a.picks ∧ (a.PA = none → a.pc = 0)
/-- a slice's datum of n elements. -/
def Held {H : Type} (d : DataW H) (n : Nat) : Prop := (d = .nil ∧ n = 0) ∨ ∃ es sp, d = .slice es sp ∧ es.length = n
def Acts (w : World) (A : Option Addr) (n : Nat) (acts : List Av) : Prop :=
  acts.length = n ∧ (0 < n → ∃ b o, A = some ⟨b, o, none⟩ ∧ b < w.heap.size ∧ ∀ (i : Nat) (x : Av), acts[i]? = some x → ∀ j v, x.vals[j]? = some v → w.cell? ⟨b, o + (i * 5 + j), none⟩ = some v) ∧ ∀ a ∈ acts, a.pk w
section
variable {H : Type} {enc : TypeId × Value → H} {P : Program} {w : World} {base : Nat} {sp : Nat → Bool} {held : Bool}
theorem open_slice_fields {t e : TypeId} {fs : Array Field} {fuel : Nat} {cs : List Value} {x : DataW H × List MemPlace} (ht : P.underlying t = some (.slice e)) (he : P.underlying e = some (.struct fs))
    (hone : oneCellFields P fs = true) (hC : P.cellsOf e = fs.size) (h : DataW.trod enc P w base sp held fuel t cs = some x) :
    (cs = [.slice none 0 0] ∧ x = (.nil, [])) ∨
    ∃ (a : Addr) (len cap m : Nat) (D : Nat → DataW H) (Pl : Nat → List MemPlace), cs = [.slice (some a) len cap] ∧ base ≤ a.block ∧ len ≤ cap ∧ cap ≤ maxLen ∧ m = (if sp a.block then cap else len) ∧
      x = (.slice ((List.range len).map D) ((List.range (m - len)).map fun j => D (len + j)), MemPlace.row a (m * fs.size) ++ (List.range m).flatMap Pl) ∧
      ∀ i, i < m → ∃ (ys : List (DataW H × List MemPlace)) (n : Nat), D i = .agg (ys.map (·.1)) ∧ Pl i = ys.flatMap (·.2) ∧ ys.length = fs.size ∧
        ∀ (j : Nat) (f : Field), fs[j]? = some f → ∃ (v : Value) (y : DataW H × List MemPlace), w.cell? (a.add (i * fs.size + j)) = some v ∧ ys[j]? = some y ∧ DataW.trod enc P w base sp held n f.type [v] = some y := by
  rcases open_slice ht h with h0 | ⟨a, len, cap, m, n, D, Pl, hcs, hb, hl, hm, hmm, hx, hi⟩
  · exact .inl h0
  · refine .inr ⟨a, len, cap, m, D, Pl, hcs, hb, hl, hm, hmm, by rw [hC] at hx; exact hx, fun i him => ?_⟩
    obtain ⟨cs', hc, ht'⟩ := hi i him
    rw [hC] at hc
    obtain ⟨ys, n', hn', hy, hlen, hyl, hf⟩ := DataW.trod_struct he ht'
    obtain ⟨_, hcl, hat⟩ := World.cells?_some hc
    simp only [Prod.mk.injEq] at hy
    refine ⟨ys, n', hy.1, hy.2, hyl, fun j f hj => ?_⟩
    obtain ⟨ho, hk⟩ := hone_of hone j f hj
    have hjl : j < fs.size := (Array.getElem?_eq_some_iff.1 hj).1
    have hcell := hat j hjl
    have hv : cs'[j]? = some (cs'[j]'(by omega)) := List.getElem?_eq_getElem (by omega)
    have h1 := hf j f hj
    rw [ho, hk] at h1
    have hone' : (cs'.drop j).take 1 = [cs'[j]'(by omega)] := by
      rw [List.drop_eq_getElem_cons (by omega)]
      rfl
    rw [hone'] at h1
    have hys : ys[j]? = some (ys[j]'(by omega)) := List.getElem?_eq_getElem (by omega)
    refine ⟨_, _, ?_, hys, h1.trans hys⟩
    rw [← Go.Deep.add_add, hcell, hv]
/-- acts many acts there are, each so. -/
theorem list_of {α : Type} {p : Nat → α → Prop} (n : Nat) (h : ∀ i, i < n → ∃ x, p i x) : ∃ l : List α, l.length = n ∧ ∀ i x, l[i]? = some x → p i x := by
  induction n with
  | zero => exact ⟨[], rfl, fun i x hx => by simp at hx⟩
  | succ n ih =>
    obtain ⟨l, hl, hp⟩ := ih (fun i hi => h i (by omega))
    obtain ⟨x, hx⟩ := h n (by omega)
    refine ⟨l ++ [x], by simp [hl], fun i y hy => ?_⟩
    by_cases hi : i < l.length
    · rw [List.getElem?_append_left hi] at hy; exact hp i y hy
    · rw [List.getElem?_append_right (by omega)] at hy
      have : i - l.length = 0 := by
        cases hk : i - l.length with
        | zero => rfl
        | succ k => rw [hk] at hy; simp at hy
      rw [this] at hy
      simp at hy
      obtain rfl : i = n := by omega
      rw [← hy]; exact hx
theorem trod_txt {n : Nat} {t : TypeId} {v : Value} {y : DataW H × List MemPlace} (ht : P.underlying t = some .string) (h : DataW.trod enc P w base sp held n t [v] = some y) : ∃ a : ByteArray, v = .string a := by
  obtain ⟨s, hs, rfl, _⟩ := DataW.trod_string ht h
  injection hs with hs
  exact ⟨s, hs⟩
theorem trod_i64 {n : Nat} {t : TypeId} {v : Value} {y : DataW H × List MemPlace} (ht : P.underlying t = some (.int .i64)) (h : DataW.trod enc P w base sp held n t [v] = some y) : ∃ a : Int, v = .int .i64 a := by
  obtain ⟨s, hs, _⟩ := DataW.trod_int ht h
  injection hs with hs
  exact ⟨s, hs⟩
theorem trod_bl {n : Nat} {t : TypeId} {v : Value} {y : DataW H × List MemPlace} (ht : P.underlying t = some .bool) (h : DataW.trod enc P w base sp held n t [v] = some y) : ∃ b : Bool, v = .bool b := by
  obtain ⟨s, hs, _⟩ := DataW.trod_bool ht h
  injection hs with hs
  exact ⟨s, hs⟩
theorem trod_picks {n : Nat} {t e : TypeId} {v : Value} {y : DataW H × List MemPlace} (ht : P.underlying t = some (.slice e)) (he : P.underlying e = some (.int .i64)) (hc : P.cellsOf e = 1) (h : DataW.trod enc P w base sp held n t [v] = some y) :
    ∃ (A : Option Addr) (m c : Nat) (zs : List Int), v = .slice A m c ∧ PkB w.heap.size w A m zs ∧ (A = none → c = 0) ∧ Held y.1 m := by
  rcases open_ints ht he hc h with ⟨hcs, hx⟩ | ⟨a, len, cap, zs, hcs, _, hl, hm, hz, hx, hcell, hwf⟩
  · injection hcs with hcs
    exact ⟨none, 0, 0, [], hcs, ⟨rfl, fun h => absurd h (by decide)⟩, fun _ => rfl, .inl ⟨by rw [hx], rfl⟩⟩
  · injection hcs with hcs
    have hlen : len ≤ zs.length := by rw [hz]; split <;> omega
    refine ⟨some a, len, cap, zs.take len, hcs, ⟨by simp; omega, fun hn => ?_⟩, (fun h => by cases h), .inr ⟨_, _, by rw [hx], by simp [lits]; omega⟩⟩
    have c0 := hcell 0 (by omega)
    have hs : a.spot = none := by have := spot_none c0; rwa [Addr.add, if_pos rfl] at this
    refine ⟨a.block, a.off, by cases a; simp_all, ?_, fun i hi => ?_⟩
    · rw [my_add_plain hs] at c0
      exact block_lt_of_cell (a := ⟨a.block, a.off + 0, none⟩) c0
    · have ci := hcell i (by omega)
      rw [my_add_plain hs] at ci
      rw [ci, getD_take' _ _ _ _ hi]
theorem trod_acts {n : Nat} {t e : TypeId} {f0 f1 f2 f3 f4 : Field} {v : Value} {y : DataW H × List MemPlace} (ht : P.underlying t = some (.slice e)) (he : P.underlying e = some (.struct #[f0, f1, f2, f3, f4])) (hone : oneCellFields P #[f0, f1, f2, f3, f4] = true) (hC : P.cellsOf e = 5)
    (h0 : P.underlying f0.type = some (.int .i64)) (h1 : P.underlying f1.type = some (.int .i64)) (h2 : P.underlying f2.type = some .string) (h3 : P.underlying f3.type = some .bool) {ee : TypeId} (h4 : P.underlying f4.type = some (.slice ee)) (h5 : P.underlying ee = some (.int .i64)) (h6 : P.cellsOf ee = 1)
    (h : DataW.trod enc P w base sp held n t [v] = some y) :
    ∃ (A : Option Addr) (m c : Nat) (acts : List Av), v = .slice A m c ∧ Acts w A m acts ∧ ∀ a ∈ acts, ∃ es sp' y0 y1 y2 y3 y4, y.1 = .slice es sp' ∧ .agg [y0, y1, y2, y3, y4] ∈ es ∧ Held y4 a.pn := by
  rcases open_slice_fields ht he hone hC h with ⟨hcs, _⟩ | ⟨a, len, cap, m, D, Pl, hcs, hb, hl, hm, hmm, hx, hi⟩
  · injection hcs with hcs
    exact ⟨none, 0, 0, [], hcs, ⟨rfl, fun h => absurd h (by decide), fun a ha => by cases ha⟩, fun a ha => by cases ha⟩
  · injection hcs with hcs
    have hlm : len ≤ m := by rw [hmm]; split <;> omega
    obtain ⟨l, hlen, hp⟩ := list_of (p := fun i (x : Av) => (∀ j v, x.vals[j]? = some v → w.cell? (a.add (i * 5 + j)) = some v) ∧ x.pk w ∧ ∃ y0 y1 y2 y3 y4, D i = .agg [y0, y1, y2, y3, y4] ∧ Held y4 x.pn) len (fun i hi' => by
      obtain ⟨ys, n', hD, _, hyl, hf⟩ := hi i (by omega)
      obtain ⟨v0, z0, c0, e0, t0⟩ := hf 0 f0 rfl
      obtain ⟨v1, z1, c1, e1, t1⟩ := hf 1 f1 rfl
      obtain ⟨v2, z2, c2, e2, t2⟩ := hf 2 f2 rfl
      obtain ⟨v3, z3, c3, e3, t3⟩ := hf 3 f3 rfl
      obtain ⟨v4, z4, c4, e4, t4⟩ := hf 4 f4 rfl
      obtain ⟨x0, rfl⟩ := trod_i64 h0 t0
      obtain ⟨x1, rfl⟩ := trod_i64 h1 t1
      obtain ⟨x2, rfl⟩ := trod_txt h2 t2
      obtain ⟨x3, rfl⟩ := trod_bl h3 t3
      obtain ⟨A4, m4, k4, zs, rfl, p1, p2, p3⟩ := trod_picks h4 h5 h6 t4
      refine ⟨⟨x0, x1, x2.data.toList, x3, A4, m4, k4, zs⟩, fun j u hu => ?_, ⟨p1, p2⟩, z0.1, z1.1, z2.1, z3.1, z4.1, ?_, p3⟩
      · match j, hu with
        | 0, hu => injection hu with hu; subst hu; exact c0
        | 1, hu => injection hu with hu; subst hu; exact c1
        | 2, hu => injection hu with hu; subst hu; simpa using c2
        | 3, hu => injection hu with hu; subst hu; exact c3
        | 4, hu => injection hu with hu; subst hu; exact c4
      · rw [hD]
        match ys, hyl, e0, e1, e2, e3, e4 with
        | [q0, q1, q2, q3, q4], _, e0, e1, e2, e3, e4 =>
          injection e0 with e0; injection e1 with e1; injection e2 with e2; injection e3 with e3; injection e4 with e4
          subst e0 e1 e2 e3 e4
          rfl)
    refine ⟨some a, len, cap, l, hcs, ⟨hlen, fun hn => ?_, fun x hxl => ?_⟩, fun x hxl => ?_⟩
    · have c0 := (hp 0 (l[0]'(by omega)) (List.getElem?_eq_getElem (by omega))).1 0 _ rfl
      have hs : a.spot = none := by have := spot_none c0; rwa [Nat.zero_mul, Addr.add, if_pos rfl] at this
      refine ⟨a.block, a.off, by cases a; simp_all, ?_, fun i x hix j v hv => ?_⟩
      · rw [my_add_plain hs] at c0
        exact block_lt_of_cell (a := ⟨a.block, a.off + (0 * 5 + 0), none⟩) c0
      · have ci := (hp i x hix).1 j v hv
        rwa [my_add_plain hs] at ci
    · obtain ⟨i, hi', e⟩ := List.mem_iff_getElem.1 hxl
      exact (hp i x (by rw [List.getElem?_eq_getElem hi', e])).2.1
    · obtain ⟨i, hi', e⟩ := List.mem_iff_getElem.1 hxl
      obtain ⟨y0, y1, y2, y3, y4, hD, hH⟩ := (hp i x (by rw [List.getElem?_eq_getElem hi', e])).2.2
      refine ⟨_, _, y0, y1, y2, y3, y4, by rw [hx], ?_, hH⟩
      rw [← hD]
      exact List.mem_map.2 ⟨i, List.mem_range.2 (by omega), rfl⟩
theorem Held.weight {H : Type} {P : Program} {t e : TypeId} {d : DataW H} {n : Nat} (h : Held d n) (hu : P.underlying t = some (.slice e)) (hw : ∀ x ∈ d.weights P t, x ≤ reachBytes) : n * P.bytesOf e ≤ reachBytes := by
  rcases h with ⟨rfl, rfl⟩ | ⟨es, sp, rfl, rfl⟩
  · simp
  · have := hw ((es.length + sp.length) * P.bytesOf e) (by simp [DataW.weights, hu])
    exact Nat.le_trans (Nat.mul_le_mul_right _ (Nat.le_add_right _ _)) this
end
theorem open_acts {H : Type} {enc : TypeId × Value → H} {w : World} {base : Nat} {sp : Nat → Bool} {held : Bool} {r : Reach} {b0 : Nat} {v : Value} {d : DataW H} {ps : List MemPlace}
    (hval : Value.okWide Try.prog w r b0 43 v) (hd : DataW.Trod enc Try.prog w base sp held 43 v d ps) :
    ∃ (A : Option Addr) (n c : Nat) (acts : List Av), v = .slice A n c ∧ Acts w A n acts ∧ ∀ a ∈ acts, ∃ es sp' y0 y1 y2 y3 y4, d = .slice es sp' ∧ .agg [y0, y1, y2, y3, y4] ∈ es ∧ Held y4 a.pn := by
  obtain ⟨a0, len, cap, rfl⟩ := okWide_slice Try.underlying43 hval
  obtain ⟨fuel, hf⟩ := hd
  have hf' : DataW.trod enc Try.prog w base sp held fuel 43 [.slice a0 len cap] = some (d, ps) := by simpa [Value.cells] using hf
  exact trod_acts (f0 := _) (f1 := _) (f2 := _) (f3 := _) (f4 := _) Try.underlying43 Try.underlying48 (by kernel_rfl) (by kernel_rfl) Try.underlying3 Try.underlying3 Try.underlying9 Try.underlying4 Try.underlying23 Try.underlying3 (by kernel_rfl) hf'
theorem sized_acts {H : Type} {ts : List TypeId} {ds : List (DataW H)} (h : (DataW.weightsEach Try.prog ts ds).all (· ≤ reachBytes) = true) {j n : Nat} {d : DataW H} (ht : ts[j]? = some 43) (hd : ds[j]? = some d)
    {es sp' : List (DataW H)} {y0 y1 y2 y3 y4 : DataW H} (e : d = .slice es sp') (he : .agg [y0, y1, y2, y3, y4] ∈ es) (hH : Held y4 n) : n ≤ 17592186044415 := by
  subst e
  have hw : ∀ x ∈ (DataW.slice es sp').weights Try.prog 43, x ≤ reachBytes := fun x hx => of_decide_eq_true (List.all_eq_true.1 h _ (DataW.weights_mem_each ht hd _ hx))
  have h4 := hH.weight (t := 23) Try.underlying23 (fun x hx => hw x (by
    simp only [DataW.weights, Try.underlying43, List.mem_cons, List.mem_append]
    refine Or.inr (Or.inl (weightsAll_mem he ?_))
    simp only [DataW.weights, Try.underlying48, List.map_cons, List.map_nil, DataW.weightsEach, List.append_nil, List.mem_append]
    exact Or.inr (Or.inr (Or.inr (Or.inr hx)))))
  rw [show Try.prog.bytesOf 3 = 8 by kernel_rfl] at h4
  have : reachBytes = 140737488351232 := by decide
  omega
end Go.Proofs.Ytbbmhcloigphjaa

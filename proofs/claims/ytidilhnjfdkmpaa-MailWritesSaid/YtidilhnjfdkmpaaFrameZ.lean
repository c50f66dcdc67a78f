/- A message (a struct of seven fields, two of them slices) that comes in by value: opened. The first theorem is after the manner of the guide extra-structs. A message that comes in by value, opened, with how many entries its datum holds (for the bound by the arguments' weight). -/
import Derived.Test.YtidilhnjfdkmpaaFrame
import Derived.Test.YtidilhnjfdkmpaaTyMailA
import Derived.Lib.SmallJoins
import Derived.Deep.Slices
import Derived.Deep.Fields
import Derived.ChangeSame
namespace Go.Proofs.Ytidilhnjfdkmpaa
open Go.ChangeShapes Go.WideShapes Go.ChangeAt Go.RowKit Go.Joins Go.Deep Go.WideElems Go.Maps Go.Proofs.YtidilhnjfdkmpaaW.PrintWords
open Go.ChangeMaps (open_string shut_string)
set_option linter.unusedSimpArgs false
set_option linter.unusedVariables false
section
variable {H : Type} {enc : TypeId × Value → H} {P : Program} {w : World} {base : Nat} {sp : Nat → Bool} {held : Bool}
theorem open_agg7 {r : Reach} {b0 : Nat} {t : TypeId} {f0 f1 f2 f3 f4 f5 f6 : Field} {v : Value} {d : DataW H} {p : List MemPlace} (hs : P.underlying t = some (.struct #[f0, f1, f2, f3, f4, f5, f6])) (hone : oneCellFields P #[f0, f1, f2, f3, f4, f5, f6] = true) (hC : P.cellsOf t = 7)
    (hv : Value.okWide P w r b0 t v) (h : DataW.Trod enc P w base sp held t v d p) :
    ∃ (v0 v1 v2 v3 v4 v5 v6 : Value) (y0 y1 y2 y3 y4 y5 y6 : DataW H × List MemPlace) (n : Nat), v = .agg #[v0, v1, v2, v3, v4, v5, v6] ∧ d = .agg [y0.1, y1.1, y2.1, y3.1, y4.1, y5.1, y6.1] ∧ DataW.trod enc P w base sp held n f0.type [v0] = some y0 ∧ DataW.trod enc P w base sp held n f1.type [v1] = some y1 ∧ DataW.trod enc P w base sp held n f2.type [v2] = some y2 ∧ DataW.trod enc P w base sp held n f3.type [v3] = some y3 ∧ DataW.trod enc P w base sp held n f4.type [v4] = some y4 ∧ DataW.trod enc P w base sp held n f5.type [v5] = some y5 ∧ DataW.trod enc P w base sp held n f6.type [v6] = some y6 := by
  obtain ⟨cs, rfl, hsz⟩ := okWide_struct hs hv
  obtain ⟨l⟩ := cs
  match l, hsz.trans hC with
  | [c0, c1, c2, c3, c4, c5, c6], _ =>
    obtain ⟨fuel, hf⟩ := h
    obtain ⟨xs, n, _, hx, _, hlen, hg⟩ := DataW.trod_struct hs hf
    obtain ⟨o0, k0⟩ := hone_of hone 0 f0 rfl
    obtain ⟨o1, k1⟩ := hone_of hone 1 f1 rfl
    obtain ⟨o2, k2⟩ := hone_of hone 2 f2 rfl
    obtain ⟨o3, k3⟩ := hone_of hone 3 f3 rfl
    obtain ⟨o4, k4⟩ := hone_of hone 4 f4 rfl
    obtain ⟨o5, k5⟩ := hone_of hone 5 f5 rfl
    obtain ⟨o6, k6⟩ := hone_of hone 6 f6 rfl
    match xs, hlen with
    | [y0, y1, y2, y3, y4, y5, y6], _ =>
      simp only [Prod.mk.injEq] at hx
      exact ⟨c0, c1, c2, c3, c4, c5, c6, y0, y1, y2, y3, y4, y5, y6, n, rfl, by simpa using hx.1, by simpa [Value.cells, o0, k0] using hg 0 f0 rfl, by simpa [Value.cells, o1, k1] using hg 1 f1 rfl, by simpa [Value.cells, o2, k2] using hg 2 f2 rfl, by simpa [Value.cells, o3, k3] using hg 3 f3 rfl, by simpa [Value.cells, o4, k4] using hg 4 f4 rfl, by simpa [Value.cells, o5, k5] using hg 5 f5 rfl, by simpa [Value.cells, o6, k6] using hg 6 f6 rfl⟩
theorem open_slice_fields {t e : TypeId} {fs : Array Field} {fuel : Nat} {cs : List Value} {x : DataW H × List MemPlace} (ht : P.underlying t = some (.slice e)) (he : P.underlying e = some (.struct fs))
    (hone : oneCellFields P fs = true) (hC : P.cellsOf e = fs.size) (h : DataW.trod enc P w base sp held fuel t cs = some x) :
    (cs = [.slice none 0 0] ∧ x = (.nil, [])) ∨
    ∃ (a : Addr) (len cap m : Nat) (D : Nat → DataW H) (Pl : Nat → List MemPlace), cs = [.slice (some a) len cap] ∧ base ≤ a.block ∧ len ≤ cap ∧ cap ≤ maxLen ∧ m = (if sp a.block then cap else len) ∧
      x = (.slice ((List.range len).map D) ((List.range (m - len)).map fun j => D (len + j)), MemPlace.row a (m * fs.size) ++ (List.range m).flatMap Pl) ∧
      ∀ i, i < m → ∃ (ys : List (DataW H × List MemPlace)) (n : Nat), D i = .agg (ys.map (·.1)) ∧ Pl i = ys.flatMap (·.2) ∧ ys.length = fs.size ∧
        ∀ (j : Nat) (f : Field), fs[j]? = some f → ∃ (v : Value) (y : DataW H × List MemPlace), w.cell? (a.add (i * fs.size + j)) = some v ∧ ys[j]? = some y ∧ DataW.trod enc P w base sp held n f.type [v] = some y := by
  rcases open_slice ht h with h0 | ⟨a, len, cap, m, n, D, Pl, hcs, hb, hl, hm, hmm, hx, hi⟩
  · exact .inl h0
  · refine .inr ⟨a, len, cap, m, D, Pl, hcs, hb, hl, hm, hmm, by rw [hC] at hx; exact hx, fun i him => ?_⟩
    obtain ⟨cs', hc, ht'⟩ := hi i him
    rw [hC] at hc
    obtain ⟨ys, n', hn', hy, hlen, hyl, hf⟩ := DataW.trod_struct he ht'
    obtain ⟨_, hcl, hat⟩ := World.cells?_some hc
    simp only [Prod.mk.injEq] at hy
    refine ⟨ys, n', hy.1, hy.2, hyl, fun j f hj => ?_⟩
    obtain ⟨ho, hk⟩ := hone_of hone j f hj
    have hjl : j < fs.size := (Array.getElem?_eq_some_iff.1 hj).1
    have hcell := hat j hjl
    have hv : cs'[j]? = some (cs'[j]'(by omega)) := List.getElem?_eq_getElem (by omega)
    have h1 := hf j f hj
    rw [ho, hk] at h1
    have hone' : (cs'.drop j).take 1 = [cs'[j]'(by omega)] := by
      rw [List.drop_eq_getElem_cons (by omega)]
      rfl
    rw [hone'] at h1
    have hys : ys[j]? = some (ys[j]'(by omega)) := List.getElem?_eq_getElem (by omega)
    refine ⟨_, _, ?_, hys, h1.trans hys⟩
    rw [← Go.Deep.add_add, hcell, hv]
/-- as many as there are, each so. -/
theorem list_of {α : Type} {p : Nat → α → Prop} (n : Nat) (h : ∀ i, i < n → ∃ x, p i x) : ∃ l : List α, l.length = n ∧ ∀ i x, l[i]? = some x → p i x := by
  induction n with
  | zero => exact ⟨[], rfl, fun i x hx => by simp at hx⟩
  | succ n ih =>
    obtain ⟨l, hl, hp⟩ := ih (fun i hi => h i (by omega))
    obtain ⟨x, hx⟩ := h n (by omega)
    refine ⟨l ++ [x], by simp [hl], fun i y hy => ?_⟩
    by_cases hi : i < l.length
    · rw [List.getElem?_append_left hi] at hy; exact hp i y hy
    · rw [List.getElem?_append_right (by omega)] at hy
      have : i - l.length = 0 := by
        cases hk : i - l.length with
        | zero => rfl
        | succ k => rw [hk] at hy; simp at hy
      rw [this] at hy
      simp at hy
      obtain rfl : i = n := by omega
      rw [← hy]; exact hx
theorem trod_txt {n : Nat} {t : TypeId} {v : Value} {y : DataW H × List MemPlace} (ht : P.underlying t = some .string) (h : DataW.trod enc P w base sp held n t [v] = some y) : ∃ a : ByteArray, v = .string a := by
  obtain ⟨s, hs, rfl, _⟩ := DataW.trod_string ht h
  injection hs with hs
  exact ⟨s, hs⟩
theorem trod_i64 {n : Nat} {t : TypeId} {v : Value} {y : DataW H × List MemPlace} (ht : P.underlying t = some (.int .i64)) (h : DataW.trod enc P w base sp held n t [v] = some y) : ∃ a : Int, v = .int .i64 a := by
  obtain ⟨s, hs, _⟩ := DataW.trod_int ht h
  injection hs with hs
  exact ⟨s, hs⟩
theorem trod_slots {n : Nat} {t e : TypeId} {f0 f1 : Field} {v : Value} {y : DataW H × List MemPlace} (ht : P.underlying t = some (.slice e)) (he : P.underlying e = some (.struct #[f0, f1])) (hone : oneCellFields P #[f0, f1] = true) (hC : P.cellsOf e = 2)
    (h0 : P.underlying f0.type = some .string) (h1 : P.underlying f1.type = some .string) (h : DataW.trod enc P w base sp held n t [v] = some y) :
    ∃ (A : Option Addr) (c : Nat) (l : List S43), v = .slice A l.length c ∧ Kd.C k43 w A l.length l ∧ l.length ≤ c := by
  rcases open_slice_fields ht he hone hC h with ⟨hcs, _⟩ | ⟨a, len, cap, m, D, Pl, hcs, hb, hl, hm, hmm, hx, hi⟩
  · injection hcs with hcs
    exact ⟨none, 0, [], hcs, ⟨rfl, by simp, fun h => absurd h (by simp)⟩, by simp⟩
  · injection hcs with hcs
    have hlm : len ≤ m := by rw [hmm]; split <;> omega
    obtain ⟨l, hlen, hp⟩ := list_of (p := fun i (x : S43) => w.cell? (a.add (i * 2)) = some (.string x.f0) ∧ w.cell? (a.add (i * 2 + 1)) = some (.string x.f1)) len (fun i hi' => by
      obtain ⟨ys, n', _, _, _, hf⟩ := hi i (by omega)
      obtain ⟨v0, y0, c0, _, t0⟩ := hf 0 f0 rfl
      obtain ⟨v1, y1, c1, _, t1⟩ := hf 1 f1 rfl
      obtain ⟨x0, rfl⟩ := trod_txt h0 t0
      obtain ⟨x1, rfl⟩ := trod_txt h1 t1
      exact ⟨⟨x0, x1⟩, c0, c1⟩)
    refine ⟨some a, cap, l, by rw [hlen]; exact hcs, ⟨rfl, by have : maxLen ≤ 9223372036854775807 := (by decide); omega, fun _ => ⟨a, rfl, fun j p hj => ?_⟩⟩, by omega⟩
    obtain ⟨c0, c1⟩ := hp j p hj
    refine ⟨[.string p.f0, .string p.f1], rfl, k43_mk _ _, fun i u hu => ?_⟩
    match i, hu with
    | 0, hu => injection hu with hu; subst hu; exact c0
    | 1, hu => injection hu with hu; subst hu; exact c1
theorem trod_texts {n : Nat} {t e : TypeId} {v : Value} {y : DataW H × List MemPlace} (ht : P.underlying t = some (.slice e)) (he : P.underlying e = some .string) (hc : P.cellsOf e = 1) (h : DataW.trod enc P w base sp held n t [v] = some y) :
    ∃ (A : Option Addr) (c : Nat) (l : List ByteArray), v = .slice A l.length c ∧ Kd.C Kd.string w A l.length l ∧ l.length ≤ c := by
  rcases open_strings ht he hc h with ⟨hcs, _⟩ | ⟨a, len, cap, ss, hcs, _, hl, hm, hz, hx, hcell, hsz⟩
  · injection hcs with hcs
    exact ⟨none, 0, [], hcs, ⟨rfl, by simp, fun h => absurd h (by simp)⟩, by simp⟩
  · injection hcs with hcs
    have hlen : len ≤ ss.length := by rw [hz]; split <;> omega
    obtain ⟨l, hll, hp⟩ := list_of (p := fun i (x : ByteArray) => w.cell? (a.add i) = some (.string x)) len (fun i hi' => ⟨_, hcell i (by omega)⟩)
    refine ⟨some a, cap, l, by rw [hll]; exact hcs, ⟨rfl, by have : maxLen ≤ 9223372036854775807 := (by decide); omega, fun _ => ⟨a, rfl, fun j p hj => ?_⟩⟩, by omega⟩
    have c0 := hp j p hj
    refine ⟨[.string p], rfl, rfl, fun i u hu => ?_⟩
    match i, hu with
    | 0, hu => injection hu with hu; subst hu; simpa [Kd.string, Kd.scalar] using c0
end
theorem open_mail {H : Type} {enc : TypeId × Value → H} {w : World} {base : Nat} {sp : Nat → Bool} {held : Bool} {r : Reach} {b0 : Nat} {v : Value} {d : DataW H} {ps : List MemPlace}
    (hval : Value.okWide Try.prog w r b0 25 v) (hd : DataW.Trod enc Try.prog w base sp held 25 v d ps) :
    ∃ (a0 a1 a2 : Int) (a3 a4 : ByteArray) (A5 : Option Addr) (c5 : Nat) (l5 : List S43) (A6 : Option Addr) (c6 : Nat) (l6 : List ByteArray), v = .agg #[.int .i64 a0, .int .i64 a1, .int .i64 a2, .string a3, .string a4, .slice A5 l5.length c5, .slice A6 l6.length c6] ∧
      Kd.C k43 w A5 l5.length l5 ∧ l5.length ≤ c5 ∧ Kd.C Kd.string w A6 l6.length l6 ∧ l6.length ≤ c6 := by
  obtain ⟨v0, v1, v2, v3, v4, v5, v6, y0, y1, y2, y3, y4, y5, y6, n, rfl, rfl, t0, t1, t2, t3, t4, t5, t6⟩ := open_agg7 Try.underlying25 (by kernel_rfl) (by kernel_rfl) hval hd
  obtain ⟨a0, rfl⟩ := trod_i64 Try.underlying3 t0
  obtain ⟨a1, rfl⟩ := trod_i64 Try.underlying3 t1
  obtain ⟨a2, rfl⟩ := trod_i64 Try.underlying3 t2
  obtain ⟨a3, rfl⟩ := trod_txt Try.underlying9 t3
  obtain ⟨a4, rfl⟩ := trod_txt Try.underlying9 t4
  obtain ⟨A5, c5, l5, rfl, h5, g5⟩ := trod_slots Try.underlying22 Try.underlying43 (by kernel_rfl) (by kernel_rfl) Try.underlying9 Try.underlying9 t5
  obtain ⟨A6, c6, l6, rfl, h6, g6⟩ := trod_texts Try.underlying23 Try.underlying9 (by kernel_rfl) t6
  exact ⟨a0, a1, a2, a3, a4, A5, c5, l5, A6, c6, l6, rfl, h5, g5, h6, g6⟩
end Go.Proofs.Ytidilhnjfdkmpaa
namespace Go.Proofs.Ytidilhnjfdkmpaa
open Go.ChangeShapes Go.WideShapes Go.ChangeAt Go.RowKit Go.Joins Go.Deep Go.WideElems Go.Maps Go.Proofs.YtidilhnjfdkmpaaW.PrintWords
open Go.ChangeMaps (open_string shut_string)
set_option linter.unusedSimpArgs false
set_option linter.unusedVariables false
/-- a slice's datum of n elements. -/
def Held {H : Type} (d : DataW H) (n : Nat) : Prop := (d = .nil ∧ n = 0) ∨ ∃ es sp, d = .slice es sp ∧ es.length = n
section
variable {H : Type} {enc : TypeId × Value → H} {P : Program} {w : World} {base : Nat} {sp : Nat → Bool} {held : Bool}
theorem trod_slots2 {n : Nat} {t e : TypeId} {f0 f1 : Field} {v : Value} {y : DataW H × List MemPlace} (ht : P.underlying t = some (.slice e)) (he : P.underlying e = some (.struct #[f0, f1])) (hone : oneCellFields P #[f0, f1] = true) (hC : P.cellsOf e = 2)
    (h0 : P.underlying f0.type = some .string) (h1 : P.underlying f1.type = some .string) (h : DataW.trod enc P w base sp held n t [v] = some y) :
    ∃ (A : Option Addr) (c : Nat) (l : List S43), v = .slice A l.length c ∧ Kd.C k43 w A l.length l ∧ l.length ≤ c ∧ Held y.1 l.length := by
  rcases open_slice_fields ht he hone hC h with ⟨hcs, hx0⟩ | ⟨a, len, cap, m, D, Pl, hcs, hb, hl, hm, hmm, hx, hi⟩
  · injection hcs with hcs
    exact ⟨none, 0, [], hcs, ⟨rfl, by simp, fun h => absurd h (by simp)⟩, by simp, .inl ⟨by simp_all, rfl⟩⟩
  · injection hcs with hcs
    have hlm : len ≤ m := by rw [hmm]; split <;> omega
    obtain ⟨l, hlen, hp⟩ := list_of (p := fun i (x : S43) => w.cell? (a.add (i * 2)) = some (.string x.f0) ∧ w.cell? (a.add (i * 2 + 1)) = some (.string x.f1)) len (fun i hi' => by
      obtain ⟨ys, n', _, _, _, hf⟩ := hi i (by omega)
      obtain ⟨v0, y0, c0, _, t0⟩ := hf 0 f0 rfl
      obtain ⟨v1, y1, c1, _, t1⟩ := hf 1 f1 rfl
      obtain ⟨x0, rfl⟩ := trod_txt h0 t0
      obtain ⟨x1, rfl⟩ := trod_txt h1 t1
      exact ⟨⟨x0, x1⟩, c0, c1⟩)
    refine ⟨some a, cap, l, by rw [hlen]; exact hcs, ⟨rfl, by have : maxLen ≤ 9223372036854775807 := (by decide); omega, fun _ => ⟨a, rfl, fun j p hj => ?_⟩⟩, by omega, .inr ⟨_, _, by rw [hx], by simp; omega⟩⟩
    obtain ⟨c0, c1⟩ := hp j p hj
    refine ⟨[.string p.f0, .string p.f1], rfl, k43_mk _ _, fun i u hu => ?_⟩
    match i, hu with
    | 0, hu => injection hu with hu; subst hu; exact c0
    | 1, hu => injection hu with hu; subst hu; exact c1
theorem trod_texts2 {n : Nat} {t e : TypeId} {v : Value} {y : DataW H × List MemPlace} (ht : P.underlying t = some (.slice e)) (he : P.underlying e = some .string) (hc : P.cellsOf e = 1) (h : DataW.trod enc P w base sp held n t [v] = some y) :
    ∃ (A : Option Addr) (c : Nat) (l : List ByteArray), v = .slice A l.length c ∧ Kd.C Kd.string w A l.length l ∧ l.length ≤ c ∧ Held y.1 l.length := by
  rcases open_strings ht he hc h with ⟨hcs, hx0⟩ | ⟨a, len, cap, ss, hcs, _, hl, hm, hz, hx, hcell, hsz⟩
  · injection hcs with hcs
    exact ⟨none, 0, [], hcs, ⟨rfl, by simp, fun h => absurd h (by simp)⟩, by simp, .inl ⟨by simp_all, rfl⟩⟩
  · injection hcs with hcs
    have hlen : len ≤ ss.length := by rw [hz]; split <;> omega
    obtain ⟨l, hll, hp⟩ := list_of (p := fun i (x : ByteArray) => w.cell? (a.add i) = some (.string x)) len (fun i hi' => ⟨_, hcell i (by omega)⟩)
    refine ⟨some a, cap, l, by rw [hll]; exact hcs, ⟨rfl, by have : maxLen ≤ 9223372036854775807 := (by decide); omega, fun _ => ⟨a, rfl, fun j p hj => ?_⟩⟩, by omega, .inr ⟨_, _, by rw [hx], by unfold strs; rw [List.length_map, List.length_take]; omega⟩⟩
    have c0 := hp j p hj
    refine ⟨[.string p], rfl, rfl, fun i u hu => ?_⟩
    match i, hu with
    | 0, hu => injection hu with hu; subst hu; simpa [Kd.string, Kd.scalar] using c0
end
theorem open_mail2 {H : Type} {enc : TypeId × Value → H} {w : World} {base : Nat} {sp : Nat → Bool} {held : Bool} {r : Reach} {b0 : Nat} {v : Value} {d : DataW H} {ps : List MemPlace}
    (hval : Value.okWide Try.prog w r b0 25 v) (hd : DataW.Trod enc Try.prog w base sp held 25 v d ps) :
    ∃ (a0 a1 a2 : Int) (a3 a4 : ByteArray) (A5 : Option Addr) (c5 : Nat) (l5 : List S43) (A6 : Option Addr) (c6 : Nat) (l6 : List ByteArray), v = .agg #[.int .i64 a0, .int .i64 a1, .int .i64 a2, .string a3, .string a4, .slice A5 l5.length c5, .slice A6 l6.length c6] ∧
      Kd.C k43 w A5 l5.length l5 ∧ l5.length ≤ c5 ∧ Kd.C Kd.string w A6 l6.length l6 ∧ l6.length ≤ c6 ∧
      ∃ y0 y1 y2 y3 y4 y5 y6 : DataW H, d = .agg [y0, y1, y2, y3, y4, y5, y6] ∧ Held y5 l5.length ∧ Held y6 l6.length := by
  obtain ⟨v0, v1, v2, v3, v4, v5, v6, y0, y1, y2, y3, y4, y5, y6, n, rfl, rfl, t0, t1, t2, t3, t4, t5, t6⟩ := open_agg7 Try.underlying25 (by kernel_rfl) (by kernel_rfl) hval hd
  obtain ⟨a0, rfl⟩ := trod_i64 Try.underlying3 t0
  obtain ⟨a1, rfl⟩ := trod_i64 Try.underlying3 t1
  obtain ⟨a2, rfl⟩ := trod_i64 Try.underlying3 t2
  obtain ⟨a3, rfl⟩ := trod_txt Try.underlying9 t3
  obtain ⟨a4, rfl⟩ := trod_txt Try.underlying9 t4
  obtain ⟨A5, c5, l5, rfl, h5, g5, s5⟩ := trod_slots2 Try.underlying22 Try.underlying43 (by kernel_rfl) (by kernel_rfl) Try.underlying9 Try.underlying9 t5
  obtain ⟨A6, c6, l6, rfl, h6, g6, s6⟩ := trod_texts2 Try.underlying23 Try.underlying9 (by kernel_rfl) t6
  exact ⟨a0, a1, a2, a3, a4, A5, c5, l5, A6, c6, l6, rfl, h5, g5, h6, g6, _, _, _, _, _, _, _, rfl, s5, s6⟩
theorem Held.weight {H : Type} {P : Program} {t e : TypeId} {d : DataW H} {n : Nat} (h : Held d n) (hu : P.underlying t = some (.slice e)) (hw : ∀ x ∈ d.weights P t, x ≤ reachBytes) : n * P.bytesOf e ≤ reachBytes := by
  rcases h with ⟨rfl, rfl⟩ | ⟨es, sp, rfl, rfl⟩
  · simp
  · have := hw ((es.length + sp.length) * P.bytesOf e) (by simp [DataW.weights, hu])
    exact Nat.le_trans (Nat.mul_le_mul_right _ (Nat.le_add_right _ _)) this
theorem sized_mail {H : Type} {ts : List TypeId} {ds : List (DataW H)} (h : (DataW.weightsEach Try.prog ts ds).all (· ≤ reachBytes) = true) {j n5 n6 : Nat} {y0 y1 y2 y3 y4 y5 y6 : DataW H}
    (ht : ts[j]? = some 25) (hd : ds[j]? = some (.agg [y0, y1, y2, y3, y4, y5, y6])) (h5 : Held y5 n5) (h6 : Held y6 n6) : n5 < 4398046511104 ∧ n6 < 8796093022208 := by
  have hw : ∀ x ∈ (DataW.agg [y0, y1, y2, y3, y4, y5, y6]).weights Try.prog 25, x ≤ reachBytes := fun x hx => of_decide_eq_true (List.all_eq_true.1 h _ (DataW.weights_mem_each ht hd _ hx))
  simp only [DataW.weights, Try.underlying25, List.map_cons, List.map_nil, DataW.weightsEach, List.append_nil] at hw
  have w5 := h5.weight (t := 22) Try.underlying22 (fun x hx => hw x (by simp [hx]))
  have w6 := h6.weight (t := 23) Try.underlying23 (fun x hx => hw x (by simp [hx]))
  rw [show Try.prog.bytesOf 43 = 32 by kernel_rfl] at w5
  rw [show Try.prog.bytesOf 9 = 16 by kernel_rfl] at w6
  have : reachBytes = 140737488351232 := by decide
  omega
end Go.Proofs.Ytidilhnjfdkmpaa

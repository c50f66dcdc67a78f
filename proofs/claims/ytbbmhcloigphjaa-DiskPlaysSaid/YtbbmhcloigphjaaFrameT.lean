/- Openers for slices of strings, of numbers, of truths among a law's arguments: what they hold, and how long together. -/
import Derived.Test.YtbbmhcloigphjaaFrame
import Derived.Test.YtbbmhcloigphjaaRows
import Derived.Test.YtbbmhcloigphjaaOwn
import Derived.Test.YtbbmhcloigphjaaStrs0
namespace Go.Proofs.Ytbbmhcloigphjaa
open Go.ChangeShapes Go.WideShapes Go.ChangeAt Go.RowKit
set_option linter.unusedSimpArgs false
set_option linter.unusedVariables false
theorem spot_none {w : World} {a : Addr} {v : Value} (h : w.cell? a = some v) : a.spot = none := by
  unfold World.cell? at h
  split at h
  · split at h
    · cases h
    · rename_i hs
      cases hh : a.spot with
      | none => rfl
      | some k => rw [hh] at hs; simp at hs
  · cases h
theorem my_add_plain {a : Addr} (h : a.spot = none) (i : Nat) : a.add i = ⟨a.block, a.off + i, none⟩ := by
  unfold Addr.add
  split
  · rename_i h0
    subst h0
    cases a
    simp_all
  · rfl
section
variable {H : Type} {enc : TypeId × Value → H} {P : Program} {w : World} {base : Nat} {sp : Nat → Bool} {held : Bool} {r : Reach} {b0 : Nat} {t e : TypeId} {v : Value} {d : DataW H} {ps : List MemPlace}
/-- a slice of numbers of one kind. -/
def Nums (k : IntKind) (w : World) (A : Option Addr) (n : Nat) (zs : List Int) : Prop :=
  zs.length = n ∧ (0 < n → ∃ g o, A = some ⟨g, o, none⟩ ∧ g < w.heap.size ∧ ∀ i, i < n → w.cell? ⟨g, o + i, none⟩ = some (.int k (zs.getD i 0)))
def Bools (w : World) (A : Option Addr) (n : Nat) (zs : List Bool) : Prop :=
  zs.length = n ∧ (0 < n → ∃ g o, A = some ⟨g, o, none⟩ ∧ g < w.heap.size ∧ ∀ i, i < n → w.cell? ⟨g, o + i, none⟩ = some (.bool (zs.getD i false)))
/-- what a slice of literals reads as. -/
def SlD (d : DataW H) (n c : Nat) (es : List (DataW H)) : Prop :=
  (n = 0 ∧ c = 0 ∧ es = [] ∧ d = .nil) ∨ ∃ sp : List (DataW H), d = .slice es sp ∧ es.length = n ∧ n ≤ c ∧ c ≤ maxLen
theorem getD_take' {α : Type} (l : List α) (n i : Nat) (x : α) (h : i < n) : (l.take n).getD i x = l.getD i x := by
  simp [List.getD, List.getElem?_take, h]
theorem open_nums {k : IntKind} (ht : P.underlying t = some (.slice e)) (he : P.underlying e = some (.int k)) (hc : P.cellsOf e = 1) (hval : Value.okWide P w r b0 t v) (hd : DataW.Trod enc P w base sp held t v d ps) :
    ∃ A n c zs, v = .slice A n c ∧ Nums k w A n zs ∧ SlD d n c (lits k zs) ∧ (∀ z ∈ zs, (Lit.int k z).wf = true) := by
  obtain ⟨a0, len, cap, rfl⟩ := okWide_slice ht hval
  obtain ⟨fuel, hf⟩ := hd
  rcases open_ints ht he hc hf with ⟨hcs, hx⟩ | ⟨a, len', cap', zs, hcs, _, hl, hm, hz, hx, hcell, hwf⟩
  · simp [Value.cells] at hcs
    simp only [Prod.mk.injEq] at hx
    obtain ⟨rfl, rfl, rfl⟩ := hcs
    exact ⟨none, 0, 0, [], rfl, ⟨rfl, fun h => absurd h (by decide)⟩, Or.inl ⟨rfl, rfl, rfl, hx.1⟩, by simp⟩
  · simp [Value.cells] at hcs
    obtain ⟨rfl, rfl, rfl⟩ := hcs
    simp only [Prod.mk.injEq] at hx
    have hlen : len ≤ zs.length := by rw [hz]; split <;> omega
    refine ⟨some a, len, cap, zs.take len, rfl, ⟨by simp; omega, fun hn => ?_⟩, Or.inr ⟨_, hx.1, by simp [lits]; omega, hl, hm⟩, fun z h => hwf z (List.mem_of_mem_take h)⟩
    have c0 := hcell 0 (by omega)
    have hs : a.spot = none := by have := spot_none c0; rwa [Addr.add, if_pos rfl] at this
    refine ⟨a.block, a.off, by cases a; simp_all, ?_, fun i hi => ?_⟩
    · rw [my_add_plain hs] at c0
      exact block_lt_of_cell (a := ⟨a.block, a.off + 0, none⟩) c0
    · have ci := hcell i (by omega)
      rw [my_add_plain hs] at ci
      rw [ci, getD_take' _ _ _ _ hi]
theorem open_intsl (ht : P.underlying t = some (.slice e)) (he : P.underlying e = some (.int .i64)) (hc : P.cellsOf e = 1) (hval : Value.okWide P w r b0 t v) (hd : DataW.Trod enc P w base sp held t v d ps) :
    ∃ A n c zs, v = .slice A n c ∧ Ints w A n zs ∧ SlD d n c (lits .i64 zs) := by
  obtain ⟨A, n, c, zs, h1, h2, h3, _⟩ := open_nums ht he hc hval hd
  exact ⟨A, n, c, zs, h1, h2, h3⟩
theorem open_strs (ht : P.underlying t = some (.slice e)) (he : P.underlying e = some .string) (hc : P.cellsOf e = 1) (hval : Value.okWide P w r b0 t v) (hd : DataW.Trod enc P w base sp held t v d ps) :
    ∃ (A : Option Addr) (n c : Nat) (ls : List (List UInt8)), v = .slice A n c ∧ Strs w A n ls ∧ SlD d n c (ls.map fun l => .lit (.string l)) ∧ n ≤ maxLen := by
  obtain ⟨a0, len, cap, rfl⟩ := okWide_slice ht hval
  obtain ⟨fuel, hf⟩ := hd
  rcases open_strings ht he hc hf with ⟨hcs, hx⟩ | ⟨a, len', cap', ss, hcs, _, hl, hm, hz, hx, hcell, hsz⟩
  · simp [Value.cells] at hcs
    simp only [Prod.mk.injEq] at hx
    obtain ⟨rfl, rfl, rfl⟩ := hcs
    exact ⟨none, 0, 0, [], rfl, ⟨rfl, fun h => absurd h (by decide)⟩, Or.inl ⟨rfl, rfl, rfl, hx.1⟩, by decide⟩
  · simp [Value.cells] at hcs
    obtain ⟨rfl, rfl, rfl⟩ := hcs
    simp only [Prod.mk.injEq] at hx
    have hlen : len ≤ ss.length := by rw [hz]; split <;> omega
    refine ⟨some a, len, cap, (ss.take len).map (·.data.toList), rfl, ⟨by simp; omega, fun hn => ?_⟩, Or.inr ⟨strs (ss.drop len), ?_, by simp; omega, hl, hm⟩, by omega⟩
    · have c0 := hcell 0 (by omega)
      have hs : a.spot = none := by have := spot_none c0; rwa [Addr.add, if_pos rfl] at this
      refine ⟨a.block, a.off, by cases a; simp_all, ?_, fun i hi => ?_⟩
      · rw [my_add_plain hs] at c0
        exact block_lt_of_cell (a := ⟨a.block, a.off + 0, none⟩) c0
      · have ci := hcell i (by omega)
        rw [my_add_plain hs] at ci
        have hi2 : i < ss.length := by omega
        have e1 : ((ss.take len).map (·.data.toList)).getD i [] = (ss.getD i ByteArray.empty).data.toList := by
          simp [List.getD, List.getElem?_take, hi, hi2]
        rw [ci, e1]
    · rw [hx.1]
      simp only [strs, List.map_map]
      rfl
theorem weightsAll_mem {ds : List (DataW H)} {x : DataW H} {n : Nat} {t : TypeId} (hd : x ∈ ds) (hn : n ∈ DataW.weights P t x) : n ∈ DataW.weightsAll P t ds := by
  induction ds with
  | nil => cases hd
  | cons y ys ih =>
    simp only [DataW.weightsAll, List.mem_append]
    rcases List.mem_cons.1 hd with rfl | h
    · exact Or.inl hn
    · exact Or.inr (ih h)
/-- THE FORM's OWN REACH, OF A STRING INSIDE A SLICE. -/
theorem sized_strs {ts : List TypeId} {ds : List (DataW H)} (h : (DataW.weightsEach P ts ds).all (· ≤ reachBytes) = true) {j n c : Nat} {ls : List (List UInt8)}
    (ht : ts[j]? = some t) (hd : ds[j]? = some d) (hu : P.underlying t = some (.slice e)) (hD : SlD d n c (ls.map fun l => .lit (.string l))) : ∀ l ∈ ls, l.length ≤ reachBytes := by
  intro l hl
  rcases hD with ⟨_, _, h0, _⟩ | ⟨sp, rfl, _⟩
  · simp at h0
    subst h0
    cases hl
  · refine of_decide_eq_true (List.all_eq_true.1 h _ (DataW.weights_mem_each ht hd _ ?_))
    simp only [DataW.weights, hu, List.mem_cons, List.mem_append]
    exact Or.inr (Or.inl (weightsAll_mem (List.mem_map.2 ⟨l, hl, rfl⟩) (by simp [DataW.weights])))
end
end Go.Proofs.Ytbbmhcloigphjaa

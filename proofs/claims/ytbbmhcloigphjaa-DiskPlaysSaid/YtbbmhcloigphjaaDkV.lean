/- What the laws of layer 15 keep beside a disk: an array of texts; slices of texts that came in. -/
import Derived.Test.YtbbmhcloigphjaaDkAm
import Derived.Test.YtbbmhcloigphjaaStrs0
namespace Go.Proofs.Ytbbmhcloigphjaa
open Go.RowKit Go.Proofs.YtbbmhcloigphjaaW.PrintWords Go.Proofs.YtbbmhcloigphjaaW.PrintLast
set_option linter.unusedSimpArgs false
set_option linter.unusedVariables false
section
variable {B : Nat} {w w' : World} {g a : Nat} {vw : Value} {d : Dk}
theorem DkA.foreign (h : DkA B w g a vw d) {k : Nat} {t : TypeId} {cs : Array Value} (hX : Blk w k t cs) (ht : ¬ DkT t) (hg : w.grownBy w' (some k)) : DkA B w' g a vw d :=
  ⟨h.hg.grown hg (fun e => h.hg.apart hX (fun e => ht (.inl e.symm)) (by injection e)), h.ha.grown hg (fun e => h.ha.apart hX (fun e => ht (.inr (.inl e.symm))) (by injection e)),
    World.ownsRow.kept h.hw hg (.inr fun e => by obtain ⟨cs', hk⟩ := owns_typed h.hw k e; exact ht (.inr (.inr (hX.type hk).1))), h.bg, h.ba, h.ok⟩
theorem DkAt.foreign (h : DkAt B w g d) {k : Nat} {t : TypeId} {cs : Array Value} (hX : Blk w k t cs) (ht : ¬ DkT t) (i : Nat) (u : Value) : DkAt B (w.setCell ⟨k, i, none⟩ u) g d := by
  obtain ⟨a, vw, h⟩ := h
  exact ⟨a, vw, h.foreign hX ht (only_set (only_refl _ _) (.inl rfl) u)⟩
theorem Fr.far {W : World} (h : Fr W.heap.size W w) {k : Nat} (hk : W.heap.size ≤ k) (i : Nat) (u : Value) : Fr W.heap.size W (w.setCell ⟨k, i, none⟩ u) :=
  ⟨h.b.setCell hk u, fun j cs t fz hj h1 h2 h3 => by
    have hl := heap_lt hj
    rw [← h.f j cs t fz hj h1 h2 h3]
    exact Below.heap_setCell w ⟨k, i, none⟩ u j (fun e => by have e : j = k := e; omega)⟩
theorem Blk.fr {k : Nat} {t : TypeId} {cs : Array Value} (hX : Blk w k t cs) (ht : ¬ DkT t) (f : Fr B w w') : Blk w' k t cs := (f.f k cs t (0, 0) hX (fun e => ht (.inl e)) (fun e => ht (.inr (.inl e))) (fun e => ht (.inr (.inr e)))).trans hX
end
/-- picks among the arguments. -/
theorem pk_arg {W : World} {A : Option Addr} {n : Nat} {zs : List Int} (h : Ints W A n zs) : PkAt W.heap.size W A n zs :=
  ⟨h.1, fun hn => by
    obtain ⟨g, o, e, hg, hc⟩ := h.2 hn
    exact ⟨g, o, e, hc, .inl hg⟩⟩
theorem pk_none {B : Nat} (w : World) : PkAt B w none 0 [] := ⟨rfl, fun h => absurd h (by decide)⟩
theorem crash_none (d : Dk) (picks : List Int) : ({ d with w := [] } : Dk).crash picks = { l := d.l, w := [], fuse := 0, down := false } := rfl
/-- an array of texts, an element read. -/
theorem index_texts {P : Program} (w : World) (t e : TypeId) (N : Nat) (hu : P.underlying t = some (.array N e)) (he : P.underlying e = some .string) (hs : (sizeOf e).run P w = .ok 1 w) (xs : List (List UInt8)) (hl : xs.length = N) (k : Nat) (hk : k < N) :
    (Instr.index t (.agg (cstr xs).toArray) (.int .i64 (k : Nat))).run P w = .ok (.string ⟨(xs.getD k []).toArray⟩) w := by
  have hg := cstr_get xs k (by omega)
  have hagg : (isAgg e).run P w = .ok false w := by
    unfold isAgg
    rw [Sem.run_bind, run_underlying he w]
    rfl
  simp [Instr.index, asIntOf, run_underlying hu, part, hagg, hs, hk, hg]
end Go.Proofs.Ytbbmhcloigphjaa

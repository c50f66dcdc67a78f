/- A disk's Read. -/
import Derived.Test.YtbbmhcloigphjaaDkR
import Derived.Test.YtbbmhcloigphjaaDkL
namespace Go.Proofs.Ytbbmhcloigphjaa
open Go.RowKit
set_option linter.unusedSimpArgs false
set_option linter.unusedVariables false
section
variable {B : Nat} {w w' : World} {g a : Nat} {vw : Value} {d : Dk}
theorem there_zero {i : Int} (h : d.there i = 0) : d.down = false ∧ 0 ≤ i ∧ i < d.l.length := by
  unfold Dk.there at h
  by_cases hd : d.down = true
  · simp [hd] at h
  · simp only [hd, if_false, Bool.false_eq_true] at h
    by_cases h1 : i < 0 ∨ (d.l.length : Int) ≤ i
    · simp [h1] at h
    · exact ⟨by simpa using hd, by omega, by omega⟩
theorem DkA.string (h : DkA B w g a vw d) (i : Nat) (hi : i < d.l.length) : (convert 62 9 (.slice (some ⟨a, i * 64, none⟩) 64 64)).run Try.prog w = .ok (.string ⟨(d.l.getD i []).toArray⟩) w := by
  have h2 := getD64 d.l h.ok.l i hi
  refine run_bytes_cells w _ _ 5 Try.underlying62 Try.underlying5 Try.underlying9 a (i * 64) 64 (d.l.getD i []) 64 h2 (fun j hj => ?_)
  have hr := h.ha.rangeAt (i * 64) 64
  rw [show (flat d.l).toArray.toList = flat d.l by simp, flat_get d.l h.ok.l i hi] at hr
  have hg := cb_get (d.l.getD i []) j (by omega)
  exact hr j _ (by simpa using hg)
theorem read_any (h : DkA B w g a vw d) (i : Int) :
    Calls Try.prog 14 #[.pointer (some ⟨g, 0, none⟩), .int .i64 i] w fun e w' => e = .returned (.tuple #[.string ⟨(d.read i).1.toArray⟩, .int .i64 (d.read i).2]) ∧ Below w.heap.size w w' := by
  have H := Lib.hid h
  by_cases h0 : d.there i = 0
  · have er : d.read i = (d.l.getD i.toNat [], 0) := by simp [Dk.read, h0]
    rw [er]
    obtain ⟨_, h1, h2⟩ := there_zero h0
    obtain ⟨m, rfl⟩ : ∃ m : Nat, i = m := ⟨i.toNat, by omega⟩
    have hm : m < d.l.length := by omega
    rw [show (m : Int).toNat = m by simp]
    obtain ⟨s, es⟩ : ∃ s, Hid (d.l.getD m [] = s) := ⟨_, Lib.hid rfl⟩
    rw [es.out]
    clear h h1 h2 er
    go_enter Try.func14, Try.ntmps14
    go_wp2_with (first | (go_at_call 28; refine (there_any H.out _).mono ?_; rintro e w1 ⟨rfl, hb⟩; rw [h0]; have H1 := Lib.hid (H.out.below hb); have c0 := H1.out.c0; have hs := H1.out.string m hm; rw [es.out] at hs))
    go_ret2
    exact ⟨rfl, hb⟩
  · have er : d.read i = ([], d.there i) := by simp [Dk.read, h0]
    rw [er]
    have hn : (d.there i != 0) = true := bne_iff_ne.mpr h0
    clear h
    go_enter Try.func14, Try.ntmps14
    go_wp2_with (first | (go_at_call 28; refine (there_any H.out _).mono ?_; rintro e w1 ⟨rfl, hb⟩))
    go_ret2
    exact ⟨rfl, hb⟩
end
end Go.Proofs.Ytbbmhcloigphjaa

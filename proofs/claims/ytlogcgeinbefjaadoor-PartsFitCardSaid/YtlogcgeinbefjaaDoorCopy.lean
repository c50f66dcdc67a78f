/- 'copy(b, s)', b a row that the call made, s a text; texts made so long. -/
import Derived.Test.YtlogcgeinbefjaaDoorOwn
namespace Go.Proofs.YtlogcgeinbefjaaDoor
open Go.RowKit
set_option linter.unusedSimpArgs false
set_option linter.unusedVariables false
section
variable {P : Program} {t e ty : TypeId} {w w' : World} {B : Nat} {xs : List Value}
theorem own_copy_str (he : P.underlying t = some (.slice e)) (h1 : (P.info? e).map (·.size) = some 1) {sT : TypeId} {g n c : Nat} (h : Own e w B (.slice (some ⟨g, 0, none⟩) n c) xs) (hn : xs.length = n) (l : List UInt8) (m : Nat) (hm : m = min l.length n) :
    ∃ w', (Builtin.copy_ #[t, sT] ty #[.slice (some ⟨g, 0, none⟩) n c, .string ⟨l.toArray⟩]).run P w = .ok (goInt m) w' ∧ Own e w' B (.slice (some ⟨g, 0, none⟩) n c) (cb (l.take m) ++ xs.drop m) ∧ w.grownBy w' (some g) := by
  obtain ⟨hx, h2⟩ := h
  rw [Nat.mul_one] at hx
  rcases h2 with ⟨h0, _⟩ | ⟨g', cap', cur, h3, hbg, hg, hnc, hcm, hcs, htake⟩
  · cases h0
  · injection h3 with e1 e2 e3
    injection e1 with e1
    injection e1 with e1
    subst e1; subst e3
    have hmn : m ≤ n := by omega
    have hcl : (cb (l.take m)).length = m := by simp [cb]; omega
    have hrun := run_copy_str (P := P) w t sT ty e g 0 n c l cur e m he h1 hg hm (by rw [hcs]; omega)
    refine ⟨_, hrun, ?_, ?_⟩
    · have hb : Blk w g e cur := hg
      have hb2 := hb.setRow (cur.toList.take 0 ++ cb (l.take m) ++ cur.toList.drop (0 + m)).toArray
      have hlen : (cb (l.take m) ++ xs.drop m).length = n := by rw [List.length_append, hcl, List.length_drop]; omega
      refine ⟨by rw [Nat.mul_one], .inr ⟨g, c, (cur.toList.take 0 ++ cb (l.take m) ++ cur.toList.drop (0 + m)).toArray, by rw [hlen], hbg, hb2, by rw [hlen]; omega, hcm, ?_, ?_⟩⟩
      · simp [hcl]; omega
      · rw [hlen]
        rw [Nat.mul_one, List.take_zero, List.nil_append, Nat.zero_add, List.take_append, hcl, List.take_of_length_le (by omega)]
        rw [Nat.mul_one] at htake
        rw [show xs.drop m = (cur.toList.take xs.length).drop m by rw [htake], List.drop_take, hn]
    · exact only_setRow (only_refl _ _) _
end
/-- a text made so long. -/
def fitL (l : List UInt8) (n : Nat) : List UInt8 := l.take n ++ List.replicate (n - l.length) 0
theorem fitL_length (l : List UInt8) (n : Nat) : (fitL l n).length = n := by simp [fitL]; omega
end Go.Proofs.YtlogcgeinbefjaaDoor

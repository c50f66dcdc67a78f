/- A number among n. -/
import Derived.Test.YtbbmhcloigphjaaDkK
namespace Go.Proofs.Ytbbmhcloigphjaa
open Go.RowKit Go.Proofs.YtbbmhcloigphjaaW.PrintWords Go.Proofs.YtbbmhcloigphjaaW.PrintLast
set_option linter.unusedSimpArgs false
set_option linter.unusedVariables false
def amL (x : Int) (n : Nat) : Nat := ((x.tmod n + n).tmod n).toNat
theorem am_bd (x : Int) (n : Nat) (hn : 0 < n) : -(n : Int) < x.tmod n ∧ x.tmod n < n := ⟨by have := Int.lt_tmod_of_pos x (show (0 : Int) < n by omega); omega, Int.tmod_lt_of_pos x (by omega)⟩
theorem amL_cast (x : Int) (n : Nat) (hn : 0 < n) : (x.tmod n + n).tmod n = (amL x n : Nat) := by
  unfold amL
  have := am_bd x n hn
  have := Int.tmod_nonneg (n : Int) (show 0 ≤ x.tmod n + n by omega)
  omega
theorem amL_lt (x : Int) (n : Nat) (hn : 0 < n) : amL x n < n := by
  have h := amL_cast x n hn
  have := am_bd x n hn
  have := Int.tmod_lt_of_pos (x.tmod n + n) (show (0 : Int) < n by omega)
  omega
theorem among_any (x : Int) (n : Nat) (hn : 0 < n) (h2 : n ≤ 1000000) (w : World) :
    Calls Try.prog 15 #[.int .i64 x, .int .i64 (n : Nat)] w fun e w' => e = .returned (.int .i64 (amL x n : Nat)) ∧ Below w.heap.size w w' := by
  have hb := am_bd x n hn
  have hc := amL_cast x n hn
  obtain ⟨q, hq⟩ : ∃ q : Nat, amL x n = q := ⟨_, rfl⟩
  rw [hq] at hc ⊢
  obtain ⟨N, hN⟩ : ∃ N : Int, N = n := ⟨_, rfl⟩
  rw [← hN] at hb hc ⊢
  obtain ⟨t, ht⟩ : ∃ t, x.tmod N = t := ⟨_, rfl⟩
  rw [ht] at hb hc
  have h0 : 0 < N := by omega
  have h1 : N ≤ 1000000 := by omega
  clear hN hn h2 hq
  go_enter Try.func15, Try.ntmps15
  go_wp2_with fail
  go_ret
  exact ⟨rfl, Below.refl _ _⟩
end Go.Proofs.Ytbbmhcloigphjaa

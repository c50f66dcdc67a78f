/- The walks of stream's quarter, word, wrong. -/
import Derived.Test.YtomflcpebnebpaaRot
import Derived.Test.YtomflcpebnebpaaChaP
import Derived.Test.YtomflcpebnebpaaOwn
import Derived.BigQuiet
import Derived.RegionTactic
import Derived.BigRegion
namespace Go.Proofs.Ytomflcpebnebpaa
open Go.RowKit
set_option linter.unusedSimpArgs false
set_option linter.unusedVariables false
theorem rl_K (x : BitVec 32) (n : Nat) (k : Int) (hk : rotm k = n) : rrK x k = rl x n := by
  unfold rrK rl
  rw [hk]
theorem rl16 (x : BitVec 32) : rrK x 16 = rl x 16 := rl_K x 16 _ (by decide +kernel)
theorem rl12 (x : BitVec 32) : rrK x 12 = rl x 12 := rl_K x 12 _ (by decide +kernel)
theorem rl8 (x : BitVec 32) : rrK x 8 = rl x 8 := rl_K x 8 _ (by decide +kernel)
theorem rl7 (x : BitVec 32) : rrK x 7 = rl x 7 := rl_K x 7 _ (by decide +kernel)
theorem results_tmp4 {fn : Func} {t u v x : Tmp} (h : fn.results = #[.tmp t, .tmp u, .tmp v, .tmp x]) (tmps : Array Value) (P : Program) (w : World) :
    (results fn tmps).run P w = .ok (.tuple #[tmps.getD t undef, tmps.getD u undef, tmps.getD v undef, tmps.getD x undef]) w := by
  simp [results, h]
theorem b32 (b : UInt8) : (b.toNat : Int) % 4294967296 = n32 (u8w b) := n8_m32 b
section
attribute [local go_sem] v32_add v32_xor v32_or v32_shl8 v32_shl16 v32_shl24 rl16 rl12 rl8 rl7
set_option maxHeartbeats 800000 in
set_option maxRecDepth 100000 in
theorem quarter_any (a b c d : BitVec 32) (w : World) :
    Calls Try.prog 37 #[.int .u32 (n32 a), .int .u32 (n32 b), .int .u32 (n32 c), .int .u32 (n32 d)] w fun e w' => e = .returned (.tuple #[.int .u32 (n32 (quart a b c d).a), .int .u32 (n32 (quart a b c d).b), .int .u32 (n32 (quart a b c d).c), .int .u32 (n32 (quart a b c d).d)]) ∧ w' = w := by
  go_enter Try.func37, Try.ntmps37
  go_wp2_with (go_at_call 44; refine (rot_any _ _ _).mono ?_; rintro e w' ⟨rfl, rfl⟩)
  (try simp only [Exit.inBlock, Exit.then])
  exact bodyPost_ret (results_tmp4 rfl _ _ _) rfl ⟨rfl, rfl⟩
set_option maxHeartbeats 800000 in
set_option maxRecDepth 100000 in
theorem word_any (l : List UInt8) (w : World) (h : 4 ≤ l.length) :
    Calls Try.prog 26 #[.string ⟨l.toArray⟩] w fun e w' => e = .returned (.int .u32 (n32 (leW l 0))) ∧ Below w.heap.size w w' := by
  have hsz : (⟨l.toArray⟩ : ByteArray).size = l.length := by simp [ByteArray.size]
  have h0 : ∀ h, (⟨l.toArray⟩ : ByteArray)[0]'h = bd l 0 := fun h => by simp [bd, List.getD, List.getElem?_eq_getElem (show 0 < l.length by omega)]; rfl
  have h1 : ∀ h, (⟨l.toArray⟩ : ByteArray)[1]'h = bd l 1 := fun h => by simp [bd, List.getD, List.getElem?_eq_getElem (show 1 < l.length by omega)]; rfl
  have h2 : ∀ h, (⟨l.toArray⟩ : ByteArray)[2]'h = bd l 2 := fun h => by simp [bd, List.getD, List.getElem?_eq_getElem (show 2 < l.length by omega)]; rfl
  have h3 : ∀ h, (⟨l.toArray⟩ : ByteArray)[3]'h = bd l 3 := fun h => by simp [bd, List.getD, List.getElem?_eq_getElem (show 3 < l.length by omega)]; rfl
  have i0 : (0 : Int) < (l.length : Int) := by omega
  have i1 : (1 : Int) < (l.length : Int) := by omega
  have i2 : (2 : Int) < (l.length : Int) := by omega
  have i3 : (3 : Int) < (l.length : Int) := by omega
  have j0 : 0 < l.length := by omega
  have j1 : 1 < l.length := by omega
  have j2 : 2 < l.length := by omega
  have j3 : 3 < l.length := by omega
  go_enter Try.func26, Try.ntmps26
  go_wp2_with fail
  go_quiet (fail)
  go_wp2_with fail
  go_ret
  refine ⟨?_, below_drewN (Below.refl _ _) _⟩
  simp only [Array.getD_eq_getD_getElem?, leW, Nat.zero_add, ← v32_or, ← v32_shl8, ← v32_shl16, ← v32_shl24, ← b32]
  rfl
end
end Go.Proofs.Ytomflcpebnebpaa

/- The walks of package hash's inner functions: words.at, words.grow, hasher.mix. -/
import Derived.Test.YtlogcgeinbefjaaDoorProg
import Derived.Test.YtlogcgeinbefjaaDoorHashP
import Derived.Outline
import Derived.Lib.Hide
namespace Go.Proofs.YtlogcgeinbefjaaDoor
set_option maxRecDepth 100000
open Go.RowKit

def cw (l : List (BitVec 32)) : List Value := l.map fun x => .int .u32 (n32 x)
def wc (l : List (BitVec 32)) : Array Value := (cw l).toArray
theorem wc_size (l : List (BitVec 32)) : (wc l).size = l.length := by simp [wc, cw]
theorem wc_get (l : List (BitVec 32)) (i : Nat) (h : i < l.length) : (wc l)[i]? = some (.int .u32 (n32 (wd l i))) := by
  simp [wc, cw, wd, List.getElem?_eq_getElem h]
theorem wc_set (l : List (BitVec 32)) (i : Nat) (x : BitVec 32) : (wc l).setIfInBounds i (.int .u32 (n32 x)) = wc (l.set i x) := by
  simp [wc, cw, List.map_set]

theorem and15 (i : Nat) (hi : i < 1000) : bits BinOp.and IntKind.i64 (i : Int) 15 = ((i % 16 : Nat) : Int) := by
  show IntKind.i64.wrap ((BitVec.ofInt 64 (i : Int) &&& BitVec.ofInt 64 15).toNat : Int) = _
  have h1 : (BitVec.ofInt 64 (i : Int)).toNat = i := by rw [BitVec.ofInt_natCast, BitVec.toNat_ofNat]; exact Nat.mod_eq_of_lt (by omega)
  have h2 : (BitVec.ofInt 64 15).toNat = 2 ^ 4 - 1 := by decide
  rw [BitVec.toNat_and, h1, h2, Nat.and_two_pow_sub_one_eq_mod]
  exact (IntWalk.i64_in _ (by omega)).trans rfl

/-- how far a count turns to the left. -/
def rotm (k : Int) : Nat := (bits .and .u64 (IntKind.u64.wrap k) 31).toNat
theorem rotm_eq (k : Int) : bits .and .u64 (IntKind.u64.wrap k) 31 = (rotm k : Int) ∧ rotm k ≤ 31 := by
  have h1 : 0 ≤ IntKind.u64.wrap k ∧ IntKind.u64.wrap k < 18446744073709551616 := by
    simp [IntKind.wrap, IntKind.bits, IntKind.signed]; omega
  have h := u64_and (IntKind.u64.wrap k) 31 h1.1 h1.2 (by decide) (by decide)
  have hle : (IntKind.u64.wrap k).toNat &&& (31 : Int).toNat ≤ 31 := Nat.and_le_right
  unfold rotm
  omega
def rrK (x : BitVec 32) (k : Int) : BitVec 32 := x <<< rotm k ||| x >>> (32 - rotm k)
theorem rrK_neg (x : BitVec 32) (n : Nat) (k : Int) (hk : rotm k = 32 - n) (hn : n ≤ 32) : rrK x k = rr x n := by
  unfold rrK rr; rw [hk, show 32 - (32 - n) = n from by omega]

set_option maxHeartbeats 400000 in
theorem rot_any (x : BitVec 32) (k : Int) (w : World) :
    Calls Tryd.prog 57 #[.int .u32 (n32 x), .int .i64 k] w fun e w' => e = .returned (.int .u32 (n32 (rrK x k))) ∧ w' = w := by
  obtain ⟨hk, hm⟩ := rotm_eq k
  have h0 : 0 ≤ bits .and .u64 (IntKind.u64.wrap k) 31 := by omega
  have hs : IntKind.u64.wrap (32 - bits .and .u64 (IntKind.u64.wrap k) 31) = ((32 - rotm k : Nat) : Int) := by
    rw [hk, wrap_u64e]; omega
  have h1 : 0 ≤ IntKind.u64.wrap (32 - bits .and .u64 (IntKind.u64.wrap k) 31) := by omega
  have E1 := v32_shl_var x _ (rotm k) hk (by omega)
  have E2 := v32_shr_var x _ (32 - rotm k) hs (by omega)
  have E3 : rrK x k = x <<< rotm k ||| x >>> (32 - rotm k) := rfl
  have H1 := Lib.hid hk
  have H2 := Lib.hid hs
  have H3 := Lib.hid E1
  have H4 := Lib.hid E2
  have H5 := Lib.hid E3
  clear hk hs E1 E2 E3 hm
  go_enter Tryd.func57, Tryd.ntmps57
  go_wp2
  go_ret
  refine ⟨?_, rfl⟩
  simp only [Array.getD_eq_getD_getElem?]
  simp only [H5.out, ← v32_or, ← H3.out, ← H4.out]
  rfl
set_option maxHeartbeats 400000 in
theorem at_any (b i : Nat) (w : World) (hi : i < 1000) :
    Calls Tryd.prog 58 #[.pointer (some ⟨b, 0, none⟩), .int .i64 i] w fun e w' => e = .returned (.pointer (some ⟨b, i % 16, none⟩)) ∧ w' = w := by
  have h1 := and15 i hi
  have h2 : 0 ≤ ((i % 16 : Nat) : Int) ∧ ((i % 16 : Nat) : Int) < 16 := by omega
  go_enter Tryd.func58, Tryd.ntmps58
  go_wp2
  go_ret
  exact ⟨rfl, rfl⟩

theorem rr7 (x : BitVec 32) : rrK x (-7) = rr x 7 := rrK_neg x 7 _ (by decide +kernel) (by decide)
theorem rr18 (x : BitVec 32) : rrK x (-18) = rr x 18 := rrK_neg x 18 _ (by decide +kernel) (by decide)
theorem rr17 (x : BitVec 32) : rrK x (-17) = rr x 17 := rrK_neg x 17 _ (by decide +kernel) (by decide)
theorem rr19 (x : BitVec 32) : rrK x (-19) = rr x 19 := rrK_neg x 19 _ (by decide +kernel) (by decide)
theorem rr6 (x : BitVec 32) : rrK x (-6) = rr x 6 := rrK_neg x 6 _ (by decide +kernel) (by decide)
theorem rr11 (x : BitVec 32) : rrK x (-11) = rr x 11 := rrK_neg x 11 _ (by decide +kernel) (by decide)
theorem rr25 (x : BitVec 32) : rrK x (-25) = rr x 25 := rrK_neg x 25 _ (by decide +kernel) (by decide)
theorem rr2 (x : BitVec 32) : rrK x (-2) = rr x 2 := rrK_neg x 2 _ (by decide +kernel) (by decide)
theorem rr13 (x : BitVec 32) : rrK x (-13) = rr x 13 := rrK_neg x 13 _ (by decide +kernel) (by decide)
theorem rr22 (x : BitVec 32) : rrK x (-22) = rr x 22 := rrK_neg x 22 _ (by decide +kernel) (by decide)

section
attribute [local go_sem] v32_add v32_xor v32_and v32_or v32_shr3 v32_shr10 v32_shl8 rr7 rr18 rr17 rr19 rr6 rr11 rr25 rr2 rr13 rr22
set_option maxHeartbeats 800000 in
theorem grow_any (b i : Nat) (w : World) (L : List (BitVec 32)) (hL : L.length = 16) (hb : Blk w b 127 (wc L)) (hi : 16 ≤ i) (hi2 : i < 64) :
    Calls Tryd.prog 56 #[.pointer (some ⟨b, 0, none⟩), .int .i64 i] w fun e w' => e = .returned (.tuple #[]) ∧
      Blk w' b 127 (wc (growW L i)) ∧ w.grownBy w' (some b) := by
  have c1 := (hb.cell ((i - 15) % 16)).trans (wc_get L _ (by omega))
  have c2 := (hb.cell ((i - 2) % 16)).trans (wc_get L _ (by omega))
  have c3 := (hb.cell (i % 16)).trans (wc_get L _ (by omega))
  have c4 := (hb.cell ((i - 7) % 16)).trans (wc_get L _ (by omega))
  have f3 := hb.frozen (i % 16)
  have hfin : ∀ n, Blk ((w.drewN n).setCell ⟨b, i % 16, none⟩ (.int .u32 (n32 (wd L (i % 16) + (sig0 (wd L ((i - 15) % 16)) + wd L ((i - 7) % 16) + sig1 (wd L ((i - 2) % 16))))))) b 127 (wc (growW L i)) ∧
      w.grownBy ((w.drewN n).setCell ⟨b, i % 16, none⟩ (.int .u32 (n32 (wd L (i % 16) + (sig0 (wd L ((i - 15) % 16)) + wd L ((i - 7) % 16) + sig1 (wd L ((i - 2) % 16))))))) (some b) := by
    intro n
    refine ⟨?_, only_set (only_drewN (only_refl _ _) n) (.inl rfl) _⟩
    have := (hb.drewN n).set_ (i % 16) (.int .u32 (n32 (wd L (i % 16) + (sig0 (wd L ((i - 15) % 16)) + wd L ((i - 7) % 16) + sig1 (wd L ((i - 2) % 16))))))
    rw [wc_set] at this
    exact this
  unfold sig0 sig1 at hfin
  have HF := Lib.hid hfin
  clear hfin
  have HB := Lib.hid hb
  clear hb hL
  have e1 : IntKind.i64.wrap ((i : Int) - 15) = ((i - 15 : Nat) : Int) := (IntWalk.i64_in _ (by omega)).trans (by omega)
  have e2 : IntKind.i64.wrap ((i : Int) - 2) = ((i - 2 : Nat) : Int) := (IntWalk.i64_in _ (by omega)).trans (by omega)
  have e3 : IntKind.i64.wrap ((i : Int) - 7) = ((i - 7 : Nat) : Int) := (IntWalk.i64_in _ (by omega)).trans (by omega)
  go_enter Tryd.func56, Tryd.ntmps56
  go_wp2_with fail
  go_quiet ((go_at_call 58; exact Calls.quiet_of_same (at_any _ _ _ (by omega))))
  go_wp2_with (go_at_call 57; refine (rot_any _ _ _).mono ?_; rintro e w' ⟨rfl, rfl⟩)
  refine still_tail 17 (by kernel_rfl) (by kernel_rfl) ?_
  simp only [List.take_succ_cons, List.take_zero, List.drop_succ_cons, List.drop_zero]
  repeat still_step
  still_call (at_any _ _ _ (by omega))
  repeat still_step
  still_call (at_any _ _ _ (by omega))
  repeat still_step
  refine wpStill_nil ?_
  go_wp2
  go_end0
  refine ⟨rfl, ?_⟩
  simp only [v32_add]
  exact HF.out _
end
end Go.Proofs.YtlogcgeinbefjaaDoor

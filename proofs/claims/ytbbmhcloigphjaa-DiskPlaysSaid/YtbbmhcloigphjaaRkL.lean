/- LendInts, SameInts, KeptInts. -/
import Derived.Test.YtbbmhcloigphjaaRkD
import Derived.Deep.LoopGhost
namespace Go.Proofs.Ytbbmhcloigphjaa
open Go.RowKit Go.Proofs.YtbbmhcloigphjaaW.PrintWords Go.Proofs.YtbbmhcloigphjaaW.PrintLast
set_option linter.unusedSimpArgs false
set_option linter.unusedVariables false
def SI6.T : Bool × List (List Nat × List Nat) := (true, [([], []), ([], []), ([0, 1], [0, 1]), ([2], [2]), ([], []), ([], []), ([4, 5], [4, 5]), ([6], [6]), ([3, 7], [3, 7])])
def SI6.B : List Nat := [0, 0, 3, 7, 0, 0, 48, 112, 255]
theorem SI6.tab : rtab .any (opsOf Try.f31 6) = SI6.T := by kernel_rfl
theorem SI6.bits : waitsOk SI6.T.2 SI6.B = true := by kernel_rfl
theorem info_int : (Try.prog.info? 3).map (fun i => (i.zero, i.size, i.bytes)) = some (some (.int .i64 0), 1, 8) := by kernel_rfl
def ints (zs : List Int) : List Value := zs.map fun z => .int .i64 z
theorem ints_get (zs : List Int) (i : Nat) (h : i < zs.length) : (ints zs)[i]? = some (.int .i64 (zs.getD i 0)) := by simp [ints, List.getElem?_eq_getElem h]
theorem ints_one (zs : List Int) : ∀ u ∈ ints zs, u.oneCell' = true := by
  intro u hu
  obtain ⟨x, _, rfl⟩ := List.mem_map.1 hu
  rfl
/-- a lent copy: the numbers, the mark behind them. -/
structure Lent (w : World) (b n c : Nat) (zs : List Int) : Prop where
  l : zs.length = n
  lc : n + 1 ≤ c
  lm : c ≤ 9223372036854775807
  x : ∃ cur, Blk w b 3 cur
  h : ∀ i, i < n → w.cell? ⟨b, i, none⟩ = some (.int .i64 (zs.getD i 0))
  e : w.cell? ⟨b, n, none⟩ = some (.int .i64 (-77))
theorem notInt' : ¬ RkT 3 := by unfold RkT; decide
theorem Lent.kept {w w' : World} {b n c : Nat} {zs : List Int} (h : Lent w b n c zs) (hh : w'.heap[b]? = w.heap[b]?) : Lent w' b n c zs := by
  obtain ⟨cur, hx⟩ := h.x
  have hc : ∀ i, w'.cell? ⟨b, i, none⟩ = w.cell? ⟨b, i, none⟩ := fun i => by unfold World.cell?; simp only [hh]
  exact ⟨h.l, h.lc, h.lm, ⟨cur, hh.trans hx⟩, fun i hi => (hc i).trans (h.h i hi), (hc n).trans h.e⟩
theorem Lent.below {w w' : World} {b n c : Nat} {zs : List Int} (h : Lent w b n c zs) (hb : Below w.heap.size w w') : Lent w' b n c zs := by
  obtain ⟨cur, hx⟩ := h.x
  exact h.kept (hb.block b hx.lt)
theorem Lent.fr {B : Nat} {w w' : World} {b n c : Nat} {zs : List Int} (h : Lent w b n c zs) (f : Fr B w w') : Lent w' b n c zs := by
  obtain ⟨cur, hx⟩ := h.x
  exact h.kept (f.f b _ _ _ hx (by decide) (by decide) (by decide))
theorem Lent.gr {B : Nat} {w w' : World} {b n c : Nat} {zs : List Int} (h : Lent w b n c zs) (f : Gr B w w') : Lent w' b n c zs := by
  obtain ⟨cur, hx⟩ := h.x
  exact h.kept (f.f b _ _ _ hx notInt')
theorem Lent.pk {B : Nat} {w : World} {b n c : Nat} {zs : List Int} (h : Lent w b n c zs) : PkAt B w (some ⟨b, 0, none⟩) n zs := by
  obtain ⟨cur, hx⟩ := h.x
  exact ⟨h.l, fun _ => ⟨b, 0, rfl, fun i hi => by rw [Nat.zero_add]; exact h.h i hi, .inr ⟨cur, _, _, hx, notInt⟩⟩⟩
set_option maxHeartbeats 800000 in
theorem lend_any {B : Nat} {w : World} {A : Option Addr} {n c : Nat} {zs : List Int} (h : PkB B w A n zs) (hA : A = none → c = 0) (hn : n ≤ 17592186044415) :
    Calls Try.prog 24 #[.slice A n c] w fun e w' => ∃ b c', e = .returned (.slice (some ⟨b, 0, none⟩) n c') ∧ Lent w' b n c' zs ∧ Below w.heap.size w w' := by
  obtain ⟨i, hi, hh⟩ := Option.map_eq_some_iff.1 info_int
  simp only [Prod.mk.injEq] at hh
  obtain ⟨hz, hs, hb⟩ := hh
  have ho0 : (w.alloc (.cells #[] 3)).ownsRow w.heap.size 3 1 (.slice (some ⟨w.heap.size, 0, none⟩) 0 0) 0 [] := World.ownsRow_lit w #[] 0 (Nat.le_refl _) (by decide) rfl
  have hBa : w.heap.size ≤ (w.alloc (.cells #[] 3)).heap.size := by simp
  obtain ⟨v1, wb, hap1, ho1, hg1, hat1⟩ : ∃ v' w', (Builtin.append_ #[23, 23] 23 #[.slice (some ⟨w.heap.size, 0, none⟩) 0 0, .slice A n c]).run Try.prog (w.alloc (.cells #[] 3)) = .ok v' w' ∧ w'.ownsRow w.heap.size 3 1 v' n (ints zs) ∧ (w.alloc (.cells #[] 3)).grownBy w' (some w.heap.size) ∧ (v'.ownBlock = some w.heap.size ∨ v'.ownBlock = some (w.alloc (.cells #[] 3)).heap.size) := by
    match A, hA, h with
    | none, hA, h =>
      have hc0 := hA rfl
      have hn0 : n = 0 := by
        rcases Nat.eq_zero_or_pos n with h0 | h0
        · exact h0
        · obtain ⟨b, o, e, _⟩ := h.2 h0; cases e
      subst hc0 hn0
      have hzs : zs = [] := List.length_eq_zero_iff.1 h.1
      subst hzs
      exact ⟨_, _, run_append_owned_none (P := Try.prog) _ w.heap.size 23 23 3 i 1 (by kernel_rfl) hi _ 0 [] ho0, ho0, only_refl _ _, .inl rfl⟩
    | some ad, hA, h =>
      obtain ⟨v', w', hr, h2, h3, _, h5⟩ := run_append_own_at (P := Try.prog) (w.alloc (.cells #[] 3)) w.heap.size 23 23 3 i _ 1 8 (by kernel_rfl) hi hz hs hb rfl (by decide) _ 0 [] ho0 ad n c (ints zs) (by simp [ints, h.1])
        (fun j u hj => by
          have hjl : j < n := by have := (List.getElem?_eq_some_iff.1 hj).1; simpa [ints, h.1] using this
          obtain ⟨b, o, e, hbB, hcell⟩ := h.2 (by omega)
          injection e with e
          subst e
          rw [Addr.add_mid]
          have hc := hcell j hjl
          rw [ints_get zs j (by rw [h.1]; exact hjl)] at hj
          injection hj with hj
          subst hj
          have hbl : b < w.heap.size := by
            rcases Nat.lt_or_ge b w.heap.size with hlt | hge
            · exact hlt
            · unfold World.cell? at hc; rw [Array.getElem?_eq_none hge] at hc; cases hc
          exact ((below_alloc (Below.refl w.heap.size w) _).cell (p := ⟨b, o + j, none⟩) hbl).trans hc) (ints_one _) (by have : maxLen = 9223372036854775807 := rfl; omega) (by omega) hBa
      rw [Nat.zero_add, List.nil_append] at h2
      exact ⟨v', w', hr, h2, h3, h5⟩
  have hb1 : Below w.heap.size w wb := (below_alloc (Below.refl w.heap.size w) _).grown hg1 (by simp) (fun k hk => by injection hk with hk; subst hk; exact Nat.le_refl _)
  obtain ⟨A3, c3, e3⟩ := owns_form ho1
  have ho2 : (wb.alloc (.cells #[.int .i64 (-77)] 3)).ownsRow w.heap.size 3 1 (.slice (some ⟨wb.heap.size, 0, none⟩) 1 1) 1 [.int .i64 (-77)] := World.ownsRow_lit wb #[.int .i64 (-77)] 1 hb1.size (by decide) rfl
  obtain ⟨v2, wd, hap2, ho3, hg2, _, hat2⟩ := run_append_own_at (P := Try.prog) (wb.alloc (.cells #[.int .i64 (-77)] 3)) w.heap.size 23 23 3 i _ 1 8 (by kernel_rfl) hi hz hs hb rfl (by decide) v1 n (ints zs) (World.ownsRow.alloc ho1 _) ⟨wb.heap.size, 0, none⟩ 1 1 [.int .i64 (-77)] rfl
    (fun j u hj => World.ownsRow.cells ho2 (g := wb.heap.size) rfl j u hj) (fun u hu => by simp only [List.mem_singleton] at hu; subst hu; rfl) (by have : maxLen = 9223372036854775807 := rfl; omega) (by omega) (by have := hb1.size; simp; omega)
  have hv1 : ∀ k, v1.ownBlock = some k → w.heap.size ≤ k := fun k hk => (World.ownsRow.lt ho1 k hk).1
  have hb2 : Below w.heap.size w wd := (below_alloc hb1 _).grown hg2 (by have := hb1.size; simp; omega) hv1
  rcases ho3.2 with ⟨_, e0⟩ | ⟨b, cap, cur, e4, hbB, hcb, hle, hcap, hsz, ht⟩
  · omega
  have hX : Blk wd b 3 cur := hcb
  have hcell : ∀ j, j < n + 1 → wd.cell? ⟨b, j, none⟩ = (ints zs ++ [Value.int .i64 (-77)])[j]? := fun j hj => by
    rw [hX.cell j, ← ht, List.getElem?_take_of_lt (by omega)]
    simp
  have hlz : (ints zs).length = n := by simp [ints, h.1]
  have HL : Hid (Lent wd b n cap zs) := Lib.hid ⟨h.1, hle, by have : maxLen = 9223372036854775807 := rfl; omega, ⟨cur, hX⟩, fun j hj => by rw [hcell j (by omega), List.getElem?_append_left (by omega)]; exact ints_get zs j (by rw [h.1]; exact hj), by rw [hcell n (by omega), List.getElem?_append_right (by omega), hlz, Nat.sub_self]; rfl⟩
  have HB := Lib.hid hb2
  rw [e3] at hap1 hap2
  rw [e4] at hap2
  have HA1 := Lib.hid hap1
  have HA2 := Lib.hid hap2
  have hnc : n ≤ cap := by omega
  clear ho0 hBa hap1 ho1 hg1 hat1 hb1 ho2 hap2 ho3 hg2 hat2 hv1 hb2 e3 e4 hbB hcb hle hsz ht hX hcell hlz h hA hz hs hb hi
  go_enter Try.func24, Try.ntmps24
  go_wp2_with (first | ((with_reducible refine gate_dst (N := 6) rfl ?_); refine wpList_append_run rfl (.tmp 4) (.tmp 5) _ _ rfl rfl rfl HA1.out ?_) | ((with_reducible refine gate_dst (N := 9) rfl ?_); refine wpList_append_run rfl (.tmp 7) (.tmp 8) _ _ rfl rfl rfl HA2.out ?_))
  go_ret
  exact ⟨b, cap, rfl, HL.out, HB.out⟩
set_option maxHeartbeats 800000 in
theorem same_any {B : Nat} {w : World} {A : Option Addr} {b n c c2 : Nat} {zs : List Int} (h1 : Lent w b n c zs) (h : PkB B w A n zs) :
    Calls Try.prog 31 #[.slice (some ⟨b, 0, none⟩) n c, .slice A n c2] w fun e w' => e = .returned (.bool true) ∧ Below w.heap.size w w' := by
  have H1 := Lib.hid h1
  have H := Lib.hid h
  have hnm : n < 9223372036854775807 := by have := h1.lc; have := h1.lm; omega
  have HNM := Lib.hid hnm
  clear h1 h hnm
  go_enter Try.func31, Try.ntmps31
  go_wp2_with fail
  go_loopg [5] (n + 1) (fun kq v wr => ∃ (k : Nat), kq = n - k + 1 ∧ v = .int .i64 (k : Nat) ∧ k ≤ n ∧ Hid (Lent wr b n c zs) ∧ Hid (PkB B wr A n zs) ∧ Hid (Below w.heap.size w wr))
  case atStart => exact ⟨0, rfl, rfl, Nat.zero_le _, H1, H, Lib.hid (Below.refl _ _)⟩
  case round =>
    clear H1 H
    obtain ⟨k, rfl, rfl, hk, H1, H, HB⟩ := hrel
    by_cases hkn : k < n
    · obtain ⟨pb, po, eA, hpB, hpc⟩ := H.out.2 (by omega)
      subst eA
      have hz1 := H1.out.h k hkn
      have hz2 := hpc k hkn
      obtain ⟨z, ez⟩ : ∃ z, Hid (zs.getD k 0 = z) := ⟨_, Lib.hid rfl⟩
      rw [ez.out] at hz1 hz2
      have S6 : wr.drew.cell? ⟨b, k, none⟩ = some (.int .i64 z) ∧ wr.drew.cell? ⟨pb, po + k, none⟩ = some (.int .i64 z) := ⟨hz1, hz2⟩
      have HK := Lib.hid hkn
      clear hpc hz1 hz2
      go_upto_region 6 with fail
      refine start_ (n := 9) (S := fun w' => w'.cell? ⟨b, k, none⟩ = some (.int .i64 z) ∧ w'.cell? ⟨pb, po + k, none⟩ = some (.int .i64 z)) (ds := []) #[false, false, false, false, false, false, false, false, false] (by kernel_rfl) rfl rfl S6 (fun hHeld => ?_)
      refine with_tabW SI6.tab SI6.bits (fun HT_ HW_ => ?_)
      refine pure_ (i := 0) (N := some 17) (v := ?_) (a' := ?_) #[true, false, false, false, false, false, false, false, false] rfl rfl (any_of HT_.out (by kernel_rfl)) (fun _ _ _ h => h) (Or.inl ⟨by rfl, ?_⟩) ?_ ?_
      rotate_left
      · intro w'
        go_simp
        try with_reducible rfl
      rotate_left
      · simp only [Act.put, List.setIfInBounds_toArray, List.set_cons_zero, List.set_cons_succ]
        rfl
      refine pure_ (i := 1) (N := some 18) (v := ?_) (a' := ?_) #[true, true, false, false, false, false, false, false, false] rfl rfl (any_of HT_.out (by kernel_rfl)) (fun _ _ _ h => h) (Or.inl ⟨by rfl, ?_⟩) ?_ ?_
      rotate_left
      · intro w'
        go_simp
        try with_reducible rfl
      rotate_left
      · simp only [Act.put, List.setIfInBounds_toArray, List.set_cons_zero, List.set_cons_succ]
        rfl
      refine pure_ (i := 2) (N := some 19) (v := ?_) (a' := ?_) #[true, true, true, false, false, false, false, false, false] rfl rfl (any_of HT_.out (by kernel_rfl)) (fun _ _ _ h => h) (Or.inl ⟨by rfl, ?_⟩) ?_ ?_
      rotate_left
      · intro w'
        go_simp
        try with_reducible rfl
      rotate_left
      · simp only [Act.put, List.setIfInBounds_toArray, List.set_cons_zero, List.set_cons_succ]
        rfl
      refine pure_ (i := 4) (N := some 21) (v := ?_) (a' := ?_) #[true, true, true, false, true, false, false, false, false] rfl rfl (any_of HT_.out (by kernel_rfl)) (fun _ _ _ h => h) (Or.inl ⟨by rfl, ?_⟩) ?_ ?_
      rotate_left
      · intro w'
        go_simp
        try with_reducible rfl
      rotate_left
      · simp only [Act.put, List.setIfInBounds_toArray, List.set_cons_zero, List.set_cons_succ]
        rfl
      refine pure_ (i := 5) (N := some 22) (v := ?_) (a' := ?_) #[true, true, true, false, true, true, false, false, false] rfl rfl (any_of HT_.out (by kernel_rfl)) (fun _ _ _ h => h) (Or.inl ⟨by rfl, ?_⟩) ?_ ?_
      rotate_left
      · intro w'
        go_simp
        try with_reducible rfl
      rotate_left
      · simp only [Act.put, List.setIfInBounds_toArray, List.set_cons_zero, List.set_cons_succ]
        rfl
      refine pure_ (i := 6) (N := some 23) (v := ?_) (a' := ?_) #[true, true, true, false, true, true, true, false, false] rfl rfl (any_of HT_.out (by kernel_rfl)) (fun _ _ _ h => h) (Or.inl ⟨by rfl, ?_⟩) ?_ ?_
      rotate_left
      · intro w'
        go_simp
        try with_reducible rfl
      rotate_left
      · simp only [Act.put, List.setIfInBounds_toArray, List.set_cons_zero, List.set_cons_succ]
        rfl
      refine take_ (i := 3) (N := some 20) (v := ?_) (a' := ?_) #[true, true, true, true, true, true, true, false, false] rfl rfl (take_ofW HT_.out HW_.out (by kernel_rfl)) (fun _ _ _ h => h) (Or.inl ⟨by rfl, ?_⟩) hHeld ?_ ?_
      rotate_left
      · rintro w' ⟨s0, s1⟩
        go_simp
        try with_reducible rfl
      rotate_left
      · simp only [Act.put, List.setIfInBounds_toArray, List.set_cons_zero, List.set_cons_succ]
        rfl
      refine take_ (i := 7) (N := some 24) (v := ?_) (a' := ?_) #[true, true, true, true, true, true, true, true, false] rfl rfl (take_ofW HT_.out HW_.out (by kernel_rfl)) (fun _ _ _ h => h) (Or.inl ⟨by rfl, ?_⟩) hHeld ?_ ?_
      rotate_left
      · rintro w' ⟨s0, s1⟩
        go_simp
        try with_reducible rfl
      rotate_left
      · simp only [Act.put, List.setIfInBounds_toArray, List.set_cons_zero, List.set_cons_succ]
        rfl
      refine pure_ (i := 8) (N := some 25) (v := ?_) (a' := ?_) #[true, true, true, true, true, true, true, true, true] rfl rfl (any_of HT_.out (by kernel_rfl)) (fun _ _ _ h => h) (Or.inl ⟨by rfl, ?_⟩) ?_ ?_
      rotate_left
      · intro w'
        go_simp
        try with_reducible rfl
      rotate_left
      · simp only [Act.put, List.setIfInBounds_toArray, List.set_cons_zero, List.set_cons_succ]
        rfl
      refine done_ (done_of HT_.out (by kernel_rfl)) ?_
      clear HT_ HW_
      go_wp2_with fail
      go_roundg (n - (k + 1) + 1)
      case measure => omega
      case rel => exact ⟨k + 1, rfl, by first | rfl | (congr 1; omega) | (congr 1; have := HNM.out; have := HK.out; unfold wrap64; omega), HK.out, Lib.hid (H1.out.kept rfl), Lib.hid (H.out.below (Go.Proofs.YtbbmhcloigphjaaW.PrintWords.below_drew (Below.refl _ _))), Lib.hid (Go.Proofs.YtbbmhcloigphjaaW.PrintWords.below_drew HB.out)⟩
    · go_wp2_with fail
      go_ret
      exact ⟨rfl, HB.out⟩
theorem kept_any {B : Nat} {w : World} {A : Option Addr} {b n c c2 : Nat} {zs : List Int} (h1 : Lent w b n c zs) (h : PkB B w A n zs) :
    Calls Try.prog 26 #[.slice (some ⟨b, 0, none⟩) n c, .slice A n c2] w fun e w' => e = .returned (.bool true) ∧ Below w.heap.size w w' := by
  have H1 := Lib.hid h1
  have H := Lib.hid h
  have hc : n + 1 ≤ c := h1.lc
  have hcm : c ≤ 9223372036854775807 := h1.lm
  clear h1 h
  go_enter Try.func26, Try.ntmps26
  go_wp2_with (first | (go_at_call 31; refine (same_any H1.out H.out).mono ?_; rintro e w1 ⟨rfl, hb⟩; have hce := (H1.out.below hb).e))
  go_ret
  exact ⟨rfl, hb⟩
end Go.Proofs.Ytbbmhcloigphjaa

/- The reference's disk: New, Write. -/
import Derived.Test.YtbbmhcloigphjaaRkP
import Derived.Deep.LoopGhost
namespace Go.Proofs.Ytbbmhcloigphjaa
open Go.RowKit Go.Proofs.YtbbmhcloigphjaaW.PrintWords Go.Proofs.YtbbmhcloigphjaaW.PrintLast
set_option linter.unusedSimpArgs false
set_option linter.unusedVariables false
def RN7.T : Bool × List (List Nat × List Nat) := (true, [([], []), ([], []), ([1], [1]), ([2], [2]), ([3], [3]), ([], []), ([5], [5]), ([6], [6]), ([4, 7], [4, 7]), ([0, 0, 1, 2, 3, 4, 5, 6, 7, 8], [0]), ([9, 0, 1, 2, 3, 4, 5, 6, 7, 8], [9]), ([10, 8, 8, 0, 1, 2, 3, 4, 5, 6, 7, 8], [8, 10])])
def RN7.B : List Nat := [0, 0, 2, 6, 14, 0, 32, 96, 254, 511, 1023, 2047]
theorem RN7.tab : rtab .any (opsOf Try.f19 7) = RN7.T := by kernel_rfl
theorem RN7.bits : waitsOk RN7.T.2 RN7.B = true := by kernel_rfl
theorem elemStr : Elem Try.prog 22 9 (.string ⟨#[]⟩) 16 := ⟨Try.underlying22, by kernel_rfl, by rfl⟩
theorem info_string : (Try.prog.info? 9).map (fun i => (i.zero, i.size, i.bytes)) = some (some (.string ⟨#[]⟩), 1, 16) := by kernel_rfl
theorem info_rw : (Try.prog.info? 68).map (fun i => (i.zero, i.size, i.bytes)) = some (some (.agg #[.int .i64 0, .string ⟨#[]⟩]), 2, 24) := by kernel_rfl
def Rk.new (n : Nat) : Rk := ⟨List.replicate n zs64, [], 0, false⟩
section
variable {B : Nat} {w w' : World} {g : Nat} {va vl : Value} {r : Rk}
/-- a sector more. -/
theorem cstr_snoc (l : List (List UInt8)) (s : List UInt8) : cstr (l ++ [s]) = cstr l ++ [.string ⟨s.toArray⟩] := by simp [cstr]
/-- while the disk is made: sectors, nothing else. -/
structure RkN (B : Nat) (w : World) (g : Nat) (va : Value) (k n : Nat) : Prop where
  hg : Blk w g 54 #[va, .slice none 0 0, .int .i64 0, .bool false, .int .i64 (n : Nat)]
  hs : w.ownsRow B 9 1 va k (cstr (List.replicate k zs64))
  bg : B ≤ g
set_option maxHeartbeats 800000 in
theorem rnew_any (n : Nat) (h1 : 1 ≤ n) (h2 : n ≤ 1024) (w : World) :
    Calls Try.prog 19 #[.int .i64 n] w fun e w' => ∃ g, e = .returned (.tuple #[.pointer (some ⟨g, 0, none⟩), .int .i64 0]) ∧ RkAt w.heap.size w' g (Rk.new n) ∧ Below w.heap.size w w' := by
  have H2 := Lib.hid h2
  have hn0 : 0 ≤ (n : Int) := by omega
  have hn1 : ((n : Int) < 1) = False := eq_false (by omega)
  have hn2 : (1024 < (n : Int)) = False := eq_false (by omega)
  clear h1 h2
  go_enter Try.func19, Try.ntmps19
  go_upto_region 4 with fail
  refine gen_world (fun W => RkN w.heap.size W w.heap.size (.slice none 0 0) 0 n ∧ Below w.heap.size w W) ?_ ?_
  · exact ⟨⟨Blk.new w _ _, World.ownsRow_nil _ _ _ _, Nat.le_refl _⟩, below_alloc (Below.refl _ _) _⟩
  rintro w1 ⟨hN, hb⟩
  have HN := Lib.hid hN
  have HB := Lib.hid hb
  obtain ⟨g, hg⟩ : ∃ g, g = w.heap.size := ⟨_, rfl⟩
  rw [← hg] at HN ⊢
  have HG := Lib.hid hg
  clear hN hb hg
  go_wp2_with fail
  go_loopg [5] (n + 1) (fun kq v wr => ∃ (k : Nat) (va : Value), kq = n - k + 1 ∧ v = .int .i64 (k : Nat) ∧ k ≤ n ∧ Hid (RkN g wr g va k n) ∧ Hid (Below g w wr))
  case atStart => exact ⟨0, _, rfl, rfl, Nat.zero_le _, HN, by rw [HG.out]; exact HB⟩
  case round =>
    clear HN HB
    obtain ⟨k, va, rfl, rfl, hk, HN, HB⟩ := hrel
    by_cases hkn : k < n
    · have hkI : ((k : Int) < (n : Int)) = True := eq_true (by omega)
      have HK := Lib.hid hkn
      go_upto_region 7 with fail
      have HW := Lib.hid (show g ≤ wr.heap.size from Nat.le_of_lt HN.out.hg.lt)
      obtain ⟨w2, hmk, hown, hgr⟩ := own_make (B := g) (t := 62) elemU8' wr.drew .i64 .i64 64 (by omega) (by omega) HW.out
      have hmk' : (Instr.makeSlice 62 (.int .i64 64) (.int .i64 64)).run Try.prog wr.drew = .ok (.slice (some ⟨wr.drew.heap.size, 0, none⟩) 64 64) w2 := hmk
      have hz : (List.replicate 64 ((Value.int .u8 0).cells[0]!)) = cb zs64 := by rw [cb_zs64]; rfl
      rw [hz] at hown
      have hcv := my_own_string Try.underlying62 Try.underlying5 Try.underlying9 hown
      have hcv' : (convert 62 9 (.slice (some ⟨wr.heap.size, 0, none⟩) 64 64)).run Try.prog w2 = .ok (.string ⟨zs64.toArray⟩) w2 := hcv
      have hG2 : Blk w2 g 54 #[va, .slice none 0 0, .int .i64 0, .bool false, .int .i64 (n : Nat)] := (show Blk wr.drew g _ _ from HN.out.hg).grown hgr (fun e => by cases e)
      have hS2 : w2.ownsRow g 9 1 va k (cstr (List.replicate k zs64)) := World.ownsRow.kept (show wr.drew.ownsRow g _ 1 va k _ from HN.out.hs) hgr (Classical.em _)
      have hB2 : Below g w w2 := Below.trans (show Below g w wr.drew from Go.Proofs.YtbbmhcloigphjaaW.PrintWords.below_drew HB.out) ((Below.refl g wr.drew).grown hgr HW.out (fun k hk => by cases hk))
      have hL2 : g ≤ w2.heap.size := Nat.le_of_lt hG2.lt
      have m0 : wr.drew.cell? ⟨g, 0, none⟩ = some va := HN.out.hg.cell 0
      clear hmk hown hcv hz hgr
      have hne : some g ≠ va.ownBlock := fun e => by obtain ⟨cs, hk⟩ := owns_typed HN.out.hs _ e.symm; exact HN.out.hg.apart hk (by decide) rfl
      have HNE := Lib.hid hne
      have HG2 := Lib.hid hG2
      have HS2 := Lib.hid hS2
      have HB2 := Lib.hid hB2
      have HL2 := Lib.hid hL2
      have HKB := Lib.hid (show (k + 1) * 16 ≤ 140737488355328 by have := H2.out; omega)
      clear hne hG2 hS2 hB2 hL2 HN HB
      refine start_ (n := 12) (S := fun w' => w'.cell? ⟨g, 0, none⟩ = some va) (ds := [11]) #[false, false, false, false, false, false, false, false, false, false, false, false] (by kernel_rfl) rfl rfl m0 (fun hHeld => ?_)
      refine with_tabW RN7.tab RN7.bits (fun HT_ HW_ => ?_)
      refine pure_ (i := 0) (N := some 20) (v := ?_) (a' := ?_) #[true, false, false, false, false, false, false, false, false, false, false, false] rfl rfl (any_of HT_.out (by kernel_rfl)) (fun _ _ _ h => h) (Or.inl ⟨by rfl, ?_⟩) ?_ ?_
      rotate_left
      · intro w'
        go_simp
        try with_reducible rfl
      rotate_left
      · simp only [Act.put, List.setIfInBounds_toArray, List.set_cons_zero, List.set_cons_succ]
        rfl
      refine pure_ (i := 1) (N := some 21) (v := ?_) (a' := ?_) #[true, true, false, false, false, false, false, false, false, false, false, false] rfl rfl (any_of HT_.out (by kernel_rfl)) (fun _ _ _ h => h) (Or.inl ⟨by rfl, ?_⟩) ?_ ?_
      rotate_left
      · intro w'
        go_simp
        try with_reducible rfl
      rotate_left
      · simp only [Act.put, List.setIfInBounds_toArray, List.set_cons_zero, List.set_cons_succ]
        rfl
      refine pure_ (i := 2) (N := some 22) (v := ?_) (a' := ?_) #[true, true, true, false, false, false, false, false, false, false, false, false] rfl rfl (any_of HT_.out (by kernel_rfl)) (fun _ _ _ h => h) (Or.inl ⟨by rfl, ?_⟩) ?_ ?_
      rotate_left
      · intro w'
        go_simp
        try with_reducible rfl
      rotate_left
      · simp only [Act.put, List.setIfInBounds_toArray, List.set_cons_zero, List.set_cons_succ]
        rfl
      refine pure_ (i := 3) (N := some 23) (v := ?_) (a' := ?_) #[true, true, true, true, false, false, false, false, false, false, false, false] rfl rfl (any_of HT_.out (by kernel_rfl)) (fun _ _ _ h => h) (Or.inl ⟨by rfl, ?_⟩) ?_ ?_
      rotate_left
      · intro w'
        go_simp
        try with_reducible rfl
      rotate_left
      · simp only [Act.put, List.setIfInBounds_toArray, List.set_cons_zero, List.set_cons_succ]
        rfl
      refine take_ (i := 4) (N := some 24) (v := ?_) (a' := ?_) #[true, true, true, true, true, false, false, false, false, false, false, false] rfl rfl (take_ofW HT_.out HW_.out (by kernel_rfl)) (fun _ _ _ h => h) (Or.inl ⟨by rfl, ?_⟩) hHeld ?_ ?_
      rotate_left
      · rintro w' s0
        go_simp
        try with_reducible rfl
      rotate_left
      · simp only [Act.put, List.setIfInBounds_toArray, List.set_cons_zero, List.set_cons_succ]
        rfl
      refine one_ (i := 5) (N := some 25) #[true, true, true, true, true, true, false, false, false, false, false, false] rfl rfl (one_of HT_.out (by kernel_rfl)) (by decide) (fun K hK => ?_)
      refine value_ (w1 := w2) (v := .slice (some ⟨wr.drew.heap.size, 0, none⟩) 64 64) (by rfl) rfl ?_ ?_
      · go_simp
      refine hK.out _ _ (HG2.out.cell 0) (fun hHeld => ?_)
      clear hK K
      refine norm_ (a' := ?_) ?_ ?_
      rotate_left
      · show Act.put _ (some 25) _ = _
        simp only [Act.put, List.setIfInBounds_toArray, List.set_cons_zero, List.set_cons_succ]
        rfl
      refine one_ (i := 6) (N := some 26) #[true, true, true, true, true, true, true, false, false, false, false, false] rfl rfl (one_of HT_.out (by kernel_rfl)) (by decide) (fun K hK => ?_)
      refine value_ (w1 := w2) (v := .string ⟨zs64.toArray⟩) (by rfl) rfl ?_ ?_
      · go_simp
      refine hK.out _ _ (HG2.out.cell 0) (fun hHeld => ?_)
      clear hK K
      refine norm_ (a' := ?_) ?_ ?_
      rotate_left
      · show Act.put _ (some 26) _ = _
        simp only [Act.put, List.setIfInBounds_toArray, List.set_cons_zero, List.set_cons_succ]
        rfl
      refine one_ (i := 7) (N := some 27) #[true, true, true, true, true, true, true, true, false, false, false, false] rfl rfl (one_of HT_.out (by kernel_rfl)) (by decide) (fun K hK => ?_)
      refine value_ (w1 := w2.alloc (.cells #[.string ⟨zs64.toArray⟩] 9)) (v := .slice (some ⟨w2.heap.size, 0, none⟩) 1 1) (by rfl) rfl ?_ ?_
      · go_simp
      refine hK.out _ _ ((HG2.out.alloc _).cell 0) (fun hHeld => ?_)
      clear hK K
      refine norm_ (a' := ?_) ?_ ?_
      rotate_left
      · show Act.put _ (some 27) _ = _
        simp only [Act.put, List.setIfInBounds_toArray, List.set_cons_zero, List.set_cons_succ]
        rfl
      refine one_ (i := 8) (N := some 28) #[true, true, true, true, true, true, true, true, true, false, false, false] rfl rfl (one_of HT_.out (by kernel_rfl)) (by decide) (fun K hK => ?_)
      refine step_append_cells (w0 := w) (W := w2) g (by rfl) (.tmp 24) (.tmp 27) 22 9 (.string ⟨#[]⟩) 1 16 rfl Try.underlying22 info_string rfl (by decide) (by decide) va k (cstr (List.replicate k zs64)) [.string ⟨zs64.toArray⟩] rfl rfl rfl (fun u hu => by simp only [List.mem_singleton] at hu; subst hu; rfl) HS2.out HB2.out HL2.out HKB.out ?_
      intro v1 w3 hown hb hg2 hat
      obtain ⟨A1, c1, e1⟩ := owns_form hown
      subst e1
      have hBg := HG2.out.grown hg2 HNE.out
      have m1 : w3.cell? ⟨g, 0, none⟩ = some va := hBg.cell 0
      have n1 := hBg.frozen 0
      refine hK.out _ _ m1 (fun hHeld => ?_)
      clear hK K
      refine norm_ (a' := ?_) ?_ ?_
      rotate_left
      · show Act.put _ (some 28) _ = _
        simp only [Act.put, List.setIfInBounds_toArray, List.set_cons_zero, List.set_cons_succ]
        rfl
      refine pure_ (i := 9) (N := some 29) (v := ?_) (a' := ?_) #[true, true, true, true, true, true, true, true, true, true, false, false] rfl rfl (any_of HT_.out (by kernel_rfl)) (fun _ _ _ h => h) (Or.inl ⟨by rfl, ?_⟩) ?_ ?_
      rotate_left
      · intro w'
        go_simp
        try with_reducible rfl
      rotate_left
      · simp only [Act.put, List.setIfInBounds_toArray, List.set_cons_zero, List.set_cons_succ]
        rfl
      refine pure_ (i := 10) (N := some 30) (v := ?_) (a' := ?_) #[true, true, true, true, true, true, true, true, true, true, true, false] rfl rfl (any_of HT_.out (by kernel_rfl)) (fun _ _ _ h => h) (Or.inl ⟨by rfl, ?_⟩) ?_ ?_
      rotate_left
      · intro w'
        go_simp
        try with_reducible rfl
      rotate_left
      · simp only [Act.put, List.setIfInBounds_toArray, List.set_cons_zero, List.set_cons_succ]
        rfl
      refine last_ (i := 11) (N := none) #[true, true, true, true, true, true, true, true, true, true, true, true] rfl rfl (one_of HT_.out (by kernel_rfl)) (by decide) (fun K hK => ?_)
      refine skip_ (w1 := ?_) (by rfl) rfl ?_ ?_
      rotate_left
      · go_simp
        try rfl
      refine hK.out _ _ ?_
      clear hK K
      refine done_ (done_of HT_.out (by kernel_rfl)) ?_
      clear HT_ HW_
      go_wp2_with fail
      go_roundg (n - (k + 1) + 1)
      case measure => omega
      case rel =>
        refine ⟨k + 1, _, rfl, by first | rfl | (congr 1; omega) | (congr 1; have := H2.out; have := HK.out; unfold wrap64; omega), HK.out, Lib.hid ⟨hBg.set_ 0 _, ?_, Nat.le_refl _⟩, Lib.hid (hb.setCell (Nat.le_refl _) _)⟩
        have hn : some g ≠ (Value.slice A1 (k + 1) c1).ownBlock := by
          rcases hat with e | ⟨b, e, hbb⟩
          · rw [e]; exact HNE.out
          · rw [e]; intro e2; injection e2 with e2; have := HG2.out.lt; omega
        have := owns_far hown (p := ⟨g, 0, none⟩) hn (.slice A1 (k + 1) c1)
        rw [← cstr_snoc, ← List.replicate_succ'] at this
        exact this
    · have hkI : ((k : Int) < (n : Int)) = False := eq_false (by omega)
      have ek : k = n := by omega
      subst ek
      go_wp2_with fail
      go_ret2
      refine ⟨g, rfl, ⟨va, .slice none 0 0, ?_⟩, by rw [← HG.out]; exact HB.out⟩
      rw [← HG.out]
      refine ⟨?_, ?_, World.ownsRow_nil _ _ _ _, HN.out.bg, ⟨?_, fun x hx => (by cases hx), ?_, ⟨Int.le_refl _, (by decide : (0 : Int) ≤ 1048576)⟩⟩⟩
      · have := HN.out.hg
        simpa [rkCells, Rk.new] using this
      · have := HN.out.hs
        simpa [Rk.new] using this
      · intro x hx; rw [List.eq_of_mem_replicate hx]; rfl
      · show (List.replicate k zs64).length ≤ 1024; rw [List.length_replicate]; exact H2.out
theorem rnew_none (n : Int) (h : n < 1 ∨ 1024 < n) (w : World) :
    Calls Try.prog 19 #[.int .i64 n] w fun e w' => e = .returned (.tuple #[.pointer none, .int .i64 1]) ∧ Below w.heap.size w w' := by
  by_cases h1 : n < 1
  · clear h
    go_enter Try.func19, Try.ntmps19
    go_wp2_with fail
    go_ret2
    exact ⟨rfl, Below.refl _ _⟩
  · have h2 : 1024 < n := by omega
    clear h
    go_enter Try.func19, Try.ntmps19
    go_wp2_with fail
    go_ret2
    exact ⟨rfl, Below.refl _ _⟩
/-! ### Write -/
/-- 'append(v, x...)' of waits. -/
theorem append_rw {B : Nat} {w : World} {v x : Value} {n m : Nat} {xs ys : List Value} (hv : w.ownsRow B 68 2 v n xs) (hx : w.ownsRow B 68 2 x m ys) (h1 : ∀ u ∈ ys, u.oneCell' = true) (hB : B ≤ w.heap.size) (hl : n + m ≤ 2000000) :
    ∃ v' w', (Builtin.append_ #[52, 52] 52 #[v, x]).run Try.prog w = .ok v' w' ∧ w'.ownsRow B 68 2 v' (n + m) (xs ++ ys) ∧ w.grownBy w' v.ownBlock ∧ (v'.ownBlock = v.ownBlock ∨ v'.ownBlock = some w.heap.size) := by
  obtain ⟨i, hi, hh⟩ := Option.map_eq_some_iff.1 info_rw
  simp only [Prod.mk.injEq] at hh
  obtain ⟨hz, hs, hb⟩ := hh
  rcases hx.2 with ⟨rfl, rfl⟩ | ⟨g, cap, cur, rfl, _, hc, hle, hcap, hsz, ht⟩
  · have hy : ys = [] := List.length_eq_zero_iff.1 (by simpa using hx.1)
    subst hy
    refine ⟨v, w, run_append_owned_none (P := Try.prog) w B 52 52 68 i 2 (by kernel_rfl) hi v n xs hv, by simpa using hv, only_refl _ _, .inl rfl⟩
  · obtain ⟨v', w', hr, h2, h3, _, h5⟩ := run_append_own_at (P := Try.prog) w B 52 52 68 i _ 2 24 (by kernel_rfl) hi hz hs hb rfl (by decide) v n xs hv ⟨g, 0, none⟩ m cap ys hx.1
      (fun j u hj => World.ownsRow.cells hx (g := g) rfl j u hj) h1 (by have : maxLen = 9223372036854775807 := rfl; omega) (by omega) hB
    exact ⟨v', w', hr, h2, h3, h5⟩
theorem flatR_one (l : List Rw) : ∀ u ∈ flatR l, u.oneCell' = true := by
  intro u hu
  obtain ⟨x, _, hx⟩ := List.mem_flatMap.1 hu
  simp only [Rw.vals, List.mem_cons, List.not_mem_nil, or_false] at hx
  rcases hx with rfl | rfl <;> rfl
def Rk.there (r : Rk) (i : Int) : Int := if r.down then 150 else if i < 0 ∨ (r.s.length : Int) ≤ i then 1 else 0
def Rk.put (r : Rk) (i : Nat) (s : List UInt8) : Rk := { r with l := r.l ++ [⟨i, s⟩] }
def Rk.write (r : Rk) (i : Int) (s : List UInt8) : Int × Rk :=
  if r.there i ≠ 0 then (r.there i, r) else if s.length ≠ 64 then (3, r) else if r.burnB then (150, r.burn) else (0, r.burn.put i.toNat s)
theorem burn_s (r : Rk) : r.burn.s = r.s ∧ r.burn.l = r.l := by unfold Rk.burn; split <;> exact ⟨rfl, rfl⟩
set_option maxHeartbeats 800000 in
theorem rwrite_any (h : RkA B w g va vl r) (i : Int) (s : List UInt8) (hm : r.l.length < 1000000) :
    Calls Try.prog 20 #[.pointer (some ⟨g, 0, none⟩), .int .i64 i, .string ⟨s.toArray⟩] w fun e w' => e = .returned (.int .i64 (r.write i s).1) ∧ RkAt B w' g (r.write i s).2 ∧ Gr B w w' := by
  have H := Lib.hid h
  have c3 := h.c3
  have c4 := h.c4
  have hsz : (⟨s.toArray⟩ : ByteArray).size = s.length := by simp [ByteArray.size]
  by_cases hd : r.down = true
  · have er : r.write i s = (150, r) := by simp [Rk.write, Rk.there, hd]
    rw [er]
    rw [hd] at c3
    clear hd er h c4
    go_enter Try.func20, Try.ntmps20
    go_wp2
    go_ret
    exact ⟨rfl, ⟨va, vl, H.out⟩, Gr.refl _ _⟩
  rw [show r.down = false by simpa using hd] at c3
  by_cases h0 : i < 0
  · have er : r.write i s = (1, r) := by simp [Rk.write, Rk.there, hd, h0]
    rw [er]
    clear hd er h c4
    go_enter Try.func20, Try.ntmps20
    go_wp2
    go_ret
    exact ⟨rfl, ⟨va, vl, H.out⟩, Gr.refl _ _⟩
  by_cases h1 : (r.s.length : Int) ≤ i
  · have er : r.write i s = (1, r) := by simp [Rk.write, Rk.there, hd, h1]
    rw [er]
    clear hd er h
    go_enter Try.func20, Try.ntmps20
    go_wp2
    go_ret
    exact ⟨rfl, ⟨va, vl, H.out⟩, Gr.refl _ _⟩
  have ht : r.there i = 0 := by simp [Rk.there, hd, h0, h1]
  by_cases hs : s.length = 64
  · have hsI : ((s.length : Int) != 64) = false := bne_eq_false_iff_eq.mpr (by omega)
    obtain ⟨m, rfl⟩ : ∃ m : Nat, i = m := ⟨i.toNat, by omega⟩
    have hmn : m < r.s.length := by omega
    have HMN := Lib.hid hmn
    have HS := Lib.hid hs
    by_cases hb : r.burnB = true
    · have er : r.write m s = (150, r.burn) := by simp [Rk.write, ht, hs, hb]
      rw [er]
      clear hd er h ht hs
      go_enter Try.func20, Try.ntmps20
      go_wp2_with (first | (go_at_call 30; refine (burns_any H.out).mono ?_; rintro e w1 ⟨rfl, h2, h3⟩; rw [hb]))
      go_ret
      exact ⟨rfl, ⟨va, vl, h2⟩, h3⟩
    · have er : r.write m s = (0, r.burn.put m s) := by simp [Rk.write, ht, hs, hb]
      rw [er]
      have hb' : r.burnB = false := by simpa using hb
      have HL := Lib.hid (show r.burn.l.length < 1000000 by rw [(burn_s r).2]; exact hm)
      have HMB := Lib.hid (show m < r.burn.s.length by rw [(burn_s r).1]; exact hmn)
      clear hd er h ht hs hb hm
      go_enter Try.func20, Try.ntmps20
      go_upto_region 9 with (first | (go_at_call 30; refine (burns_any H.out).mono ?_; rintro e w1 ⟨rfl, h2, h3⟩; rw [hb']))
      have H1 := Lib.hid h2
      have F1 := Lib.hid h3
      obtain ⟨q, hq⟩ : ∃ q, Hid (r.burn = q) := ⟨_, Lib.hid rfl⟩
      rw [hq.out] at H1 HL HMB
      have c1 := H1.out.c1
      obtain ⟨A2, k2, ev⟩ := owns_form H1.out.hl
      have ho0 : (w1.alloc (.cells #[] 68)).ownsRow B 68 2 (.slice (some ⟨w1.heap.size, 0, none⟩) 0 0) 0 [] := World.ownsRow_lit w1 #[] 0 H1.out.hB (by decide) rfl
      have hoL : (w1.alloc (.cells #[] 68)).ownsRow B 68 2 vl q.l.length (flatR q.l) := World.ownsRow.alloc H1.out.hl _
      have hBa : B ≤ (w1.alloc (.cells #[] 68)).heap.size := by have := H1.out.hB; simp; omega
      obtain ⟨v1, wb, hap1, ho1, hg1, hat1⟩ := append_rw ho0 hoL (flatR_one _) hBa (by have := HL.out; omega)
      rw [Nat.zero_add, List.nil_append] at ho1
      have hb1 : Below w1.heap.size w1 wb := (below_alloc (Below.refl w1.heap.size w1) _).grown hg1 (by simp) (fun k hk => by injection hk with hk; subst hk; exact Nat.le_refl _)
      obtain ⟨A3, c3_, e3⟩ := owns_form ho1
      have ho2 : (wb.alloc (.cells #[.int .i64 (m : Nat), .string ⟨s.toArray⟩] 68)).ownsRow B 68 2 (.slice (some ⟨wb.heap.size, 0, none⟩) 1 1) 1 [.int .i64 (m : Nat), .string ⟨s.toArray⟩] := World.ownsRow_lit wb #[.int .i64 (m : Nat), .string ⟨s.toArray⟩] 1 (Nat.le_trans H1.out.hB hb1.size) (by decide) rfl
      have hB2 : B ≤ (wb.alloc (.cells #[.int .i64 (m : Nat), .string ⟨s.toArray⟩] 68)).heap.size := by have := Nat.le_trans H1.out.hB hb1.size; simp; omega
      obtain ⟨v2, wd, hap2, ho3, hg2, hat2⟩ := append_rw (World.ownsRow.alloc ho1 _) ho2 (fun u hu => by simp only [List.mem_cons, List.not_mem_nil, or_false] at hu; rcases hu with rfl | rfl <;> rfl) hB2 (by have := HL.out; omega)
      have hv1 : ∀ k, v1.ownBlock = some k → w1.heap.size ≤ k := by
        intro k hk
        rcases hat1 with e | e
        · rw [e] at hk; injection hk with hk; subst hk; exact Nat.le_refl _
        · rw [e] at hk; injection hk with hk; subst hk; simp
      have hb2 : Below w1.heap.size w1 wd := (below_alloc hb1 _).grown hg2 (by have := hb1.size; simp; omega) hv1
      obtain ⟨A4, c4_, e4⟩ := owns_form ho3
      have HBL := Lib.hid hb2
      have HO3 := Lib.hid ho3
      have f1 : wd.frozen? ⟨g, 1, none⟩ = false := (H1.out.hg.below hb2 H1.out.hg.lt).frozen 1
      have g1 : wd.cell? ⟨g, 1, none⟩ = some vl := (H1.out.hg.below hb2 H1.out.hg.lt).cell 1
      have hn2 : some g ≠ v2.ownBlock := by
        rcases hat2 with e | e
        · rw [e]; intro e2; have := hv1 g e2.symm; have := H1.out.hg.lt; omega
        · rw [e]; intro e2; injection e2 with e2; have := H1.out.hg.lt; have := hb1.size; subst e2; simp at this; omega
      have HN2 := Lib.hid hn2
      have c1a : (w1.alloc (.cells #[] 68)).cell? ⟨g, 1, none⟩ = some vl := (H1.out.hg.alloc _).cell 1
      rw [ev] at c1 c1a hap1 g1
      rw [e3] at hap1 hap2
      rw [e4] at hap2
      have E4 := Lib.hid e4
      clear h2 h3 c3 c4 H hb' ho0 hoL hBa ho1 hg1 hat1 hb1 ho2 hB2 ho3 hg2 hat2 hv1 hb2 hn2 e3 e4 ev
      have HA1 := Lib.hid hap1
      have HA2 := Lib.hid hap2
      clear hap1 hap2
      go_wp2_with (first | ((with_reducible refine gate_dst (N := 32) rfl ?_); refine wpList_append_run rfl (.tmp 27) (.tmp 31) _ _ rfl rfl rfl HA1.out ?_) | ((with_reducible refine gate_dst (N := 37) rfl ?_); refine wpList_append_run rfl (.tmp 32) (.tmp 36) _ _ rfl rfl rfl HA2.out ?_))
      go_ret
      rw [← E4.out]
      refine ⟨rfl, ?_, F1.out.trans ((Gr.of HBL.out H1.out.hB).trans ((H1.out.below HBL.out).grG 1 _))⟩
      rw [hq.out]
      have hR := H1.out.below HBL.out
      refine ⟨va, v2, hR.hg.set_ 1 _, owns_far hR.hs hR.neS _, ?_, hR.bg, ⟨hR.ok.s, ?_, hR.ok.n, hR.ok.f⟩⟩
      · have := owns_far HO3.out (p := ⟨g, 1, none⟩) HN2.out v2
        show World.ownsRow _ B _ 2 v2 (q.l ++ [(⟨m, s⟩ : Rw)]).length (flatR (q.l ++ [(⟨m, s⟩ : Rw)]))
        rw [flatR_snoc, List.length_append]
        exact this
      · intro x hx
        rcases List.mem_append.1 hx with hx | hx
        · exact hR.ok.l x hx
        · simp only [List.mem_singleton] at hx
          subst hx
          exact ⟨HMB.out, HS.out⟩
  · have er : r.write i s = (3, r) := by simp [Rk.write, ht, hs]
    rw [er]
    have hsI : ((s.length : Int) != 64) = true := bne_iff_ne.mpr (by omega)
    clear hd er h ht
    go_enter Try.func20, Try.ntmps20
    go_wp2
    go_ret
    exact ⟨rfl, ⟨va, vl, H.out⟩, Gr.refl _ _⟩
end
end Go.Proofs.Ytbbmhcloigphjaa

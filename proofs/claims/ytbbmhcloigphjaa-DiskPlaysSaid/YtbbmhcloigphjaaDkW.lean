/- A disk's Write. -/
import Derived.Test.YtbbmhcloigphjaaDkB
import Derived.Deep.DeepCutAuto
import Derived.Deep.CutBlock
namespace Go.Proofs.Ytbbmhcloigphjaa
open Go.RowKit Go.Proofs.YtbbmhcloigphjaaW.PrintWords Go.Proofs.YtbbmhcloigphjaaW.PrintLast
set_option linter.unusedSimpArgs false
set_option linter.unusedVariables false
def W10.T : Bool × List (List Nat × List Nat) := (true, [([], []), ([], []), ([1], [1]), ([2], [2]), ([3], [3]), ([], []), ([5], [5]), ([4, 6], [4, 6]), ([0, 0, 1, 2, 3, 4, 5, 6, 7], [0]), ([8, 0, 1, 2, 3, 4, 5, 6, 7], [8]), ([9, 7, 7, 0, 1, 2, 3, 4, 5, 6, 7], [7, 9])])
def W10.B : List Nat := [0, 0, 2, 6, 14, 0, 32, 126, 255, 511, 1023]
theorem W10.tab : rtab .any (opsOf Try.f11 10) = W10.T := by kernel_rfl
theorem W10.bits : waitsOk W10.T.2 W10.B = true := by kernel_rfl
def W11.T : Bool × List (List Nat × List Nat) := (true, [([], []), ([0], [0]), ([1], [1]), ([2], [2]), ([], []), ([], []), ([5], [5]), ([3, 4, 0, 1, 2, 3, 4, 5, 6], [3, 4]), ([7, 6, 0, 1, 2, 3, 4, 5, 6], [6, 7])])
def W11.B : List Nat := [0, 1, 3, 7, 0, 0, 32, 127, 255]
theorem W11.tab : rtab .any (opsOf Try.f11 11) = W11.T := by kernel_rfl
theorem W11.bits : waitsOk W11.T.2 W11.B = true := by kernel_rfl
section
variable {B : Nat} {w w' : World} {g a : Nat} {vw : Value} {d : Dk}
theorem DkA.range (h : DkA B w g a vw d) (i : Nat) (hi : i < d.l.length) {o : List UInt8} (ho : d.l.getD i [] = o) : w.rangeAt a (i * 64) (cb o) := by
  subst ho
  have hr := h.ha.rangeAt (i * 64) 64
  rwa [show (flat d.l).toArray.toList = flat d.l by simp, flat_get d.l h.ok.l i hi] at hr
theorem size_sector : (Try.prog.info? 64).map (·.size) = some 64 := by kernel_rfl
theorem size_wait : (Try.prog.info? 66).map (·.size) = some 129 := by kernel_rfl
theorem DkA.other (h : DkA B w g a vw d) {bx : Nat} {cs : Array Value} (hX : Blk w bx 66 cs) (hn : vw.ownBlock ≠ some bx) (hg : w.grownBy w' (some bx)) : DkA B w' g a vw d :=
  ⟨h.hg.grown hg (fun e => h.hg.apart hX (by decide) (by injection e)), h.ha.grown hg (fun e => h.ha.apart hX (by decide) (by injection e)), World.ownsRow.kept h.hw hg (.inr hn), h.bg, h.ba, h.ok⟩
theorem vals_copy (m : Nat) (o s : List UInt8) (ho : o.length = 64) (hs : s.length = 64) :
    (Wt.vals ⟨m, o, zs64⟩).toArray.toList.take 65 ++ cb (s.take 64) ++ (Wt.vals ⟨m, o, zs64⟩).toArray.toList.drop (65 + 64) = Wt.vals ⟨m, o, s⟩ := by
  have h1 : (Value.int .i64 (m : Nat) :: cb o).length = 65 := by simp [cb_length, ho]
  have e : (Wt.vals ⟨m, o, zs64⟩).toArray.toList = (Value.int .i64 (m : Nat) :: cb o) ++ cb zs64 := by simp [Wt.vals]
  rw [e, List.take_left' h1, List.drop_eq_nil_of_le (by rw [List.length_append, h1, cb_length]; decide), List.append_nil, List.take_of_length_le (by omega)]
  simp [Wt.vals]
theorem DkA.drew (h : DkA B w g a vw d) : DkA B w.drew g a vw d := ⟨h.hg, h.ha, h.hw, h.bg, h.ba, h.ok⟩
theorem Fr.drew (h : Fr B w w') : Fr B w w'.drew := ⟨Go.Proofs.YtbbmhcloigphjaaW.PrintWords.below_drew h.b, h.f⟩
theorem Below.of_drew {B : Nat} {w w' : World} (h : Below B w w') : Below B w.drew w' := ⟨h.os, h.tape, h.output, h.size, h.block⟩
theorem newRange {m : Nat} {o s : List UInt8} (ho : o.length = 64) {b : Nat} (h : Blk w b 66 (Wt.vals ⟨m, o, s⟩).toArray) : w.rangeAt b 65 (cb s) := by
  intro j v hv
  rw [h.cell (65 + j)]
  have h1 : (Value.int .i64 (m : Nat) :: cb o).length = 65 := by simp [cb_length, ho]
  have e : Wt.vals ⟨m, o, s⟩ = (Value.int .i64 (m : Nat) :: cb o) ++ cb s := by simp [Wt.vals]
  rw [List.getElem?_toArray, e, List.getElem?_append_right (by omega), h1, show 65 + j - 65 = j by omega]
  exact hv
theorem flatW_snoc (l : List Wt) (x : Wt) : flatW (l ++ [x]) = flatW l ++ x.vals := by simp [flatW]
/-- one wait more, the sectors as they were. -/
theorem DkA.more (h : DkA B w g a vw d) {w6 : World} {v1 : Value} {x : Wt} (hx : wok x) (hm : x.at_ < d.l.length) (hown : w6.ownsRow B 66 129 v1 (d.w.length + 1) (flatW d.w ++ x.vals)) (hg : w.grownBy w6 vw.ownBlock)
    (hat : v1.ownBlock = vw.ownBlock ∨ ∃ b, v1.ownBlock = some b ∧ w.heap.size ≤ b) : DkA B (w6.setCell ⟨g, 1, none⟩ v1) g a v1 { d with w := d.w ++ [x] } := by
  have hn : some g ≠ v1.ownBlock := by
    rcases hat with e | ⟨b, e, hb⟩
    · rw [e]; exact h.neW.1
    · rw [e]; intro e2; injection e2 with e2; have := h.hg.lt; omega
  refine ⟨(h.hg.grown hg h.neW.1).set_ 1 _, (h.ha.grown hg h.neW.2).far h.ne.symm _, ?_, h.bg, h.ba, ⟨h.ok.l, ?_, h.ok.n, h.ok.f⟩⟩
  · have := owns_far hown (p := ⟨g, 1, none⟩) hn v1
    rw [← flatW_snoc] at this
    simpa using this
  · intro y hy
    rcases List.mem_append.1 hy with hy | hy
    · exact h.ok.w y hy
    · simp only [List.mem_singleton] at hy
      subst hy
      exact ⟨hm, hx.1, hx.2⟩
theorem DkA.frMore (h : DkA B w g a vw d) {w6 : World} (hg : w.grownBy w6 vw.ownBlock) (hb : Below B w w6) (u : Value) : Fr B w (w6.setCell ⟨g, 1, none⟩ u) :=
  (Fr.grown hg hb (fun k e => by obtain ⟨cs, hk⟩ := owns_typed h.hw k e; exact ⟨cs, _, _, hk, .inr (.inr rfl)⟩)).trans (Fr.set_ (h.hg.grown hg h.neW.1) (.inl rfl) h.bg 1 u)
/-- a sector is set. -/
theorem DkA.setL (h : DkA B w g a vw d) (m : Nat) (hm : m < d.l.length) (s : List UInt8) (hs : s.length = 64) : DkA B (w.setCells a (m * 64) (cb s)) g a vw { d with l := d.l.set m s } := by
  have hO := only_setCells (b := a) (cb s) (m * 64) (only_refl w (some a))
  have hb := Blk.setCells (cb s) (m * 64) h.ha (by rw [cb_length, hs, List.size_toArray, flat_len _ h.ok.l]; omega)
  have e : ((flat d.l).toArray.toList.take (m * 64) ++ cb s ++ (flat d.l).toArray.toList.drop (m * 64 + (cb s).length)) = flat (d.l.set m s) := by
    rw [show (flat d.l).toArray.toList = flat d.l by simp, flat_set d.l h.ok.l m hm s hs]
  rw [e] at hb
  refine ⟨?_, hb, World.ownsRow.kept h.hw hO (.inr fun e => h.neW.2 e.symm), h.bg, h.ba, ⟨all_set _ h.ok.l m s hs, fun x hx => ?_, ?_, h.ok.f⟩⟩
  · have := h.hg.grown hO (fun e => h.ne (by injection e))
    simpa [dkCells] using this
  · have := h.ok.w x hx
    simpa using this
  · simpa using h.ok.n
theorem DkA.frL (h : DkA B w g a vw d) (o : Nat) (vs : List Value) : Fr B w (w.setCells a o vs) := Fr.setCells h.ha (.inr (.inl rfl)) h.ba o vs
theorem gen_world {P : Program} {c : Code} {Q : Exit → Act → World → Prop} {a : Act} {W : World} (D : World → Prop) (h : D W) (k : ∀ W', D W' → c.wp P Q a W') : c.wp P Q a W := k W h
set_option maxHeartbeats 400000 in
theorem write_any (h : DkA B w g a vw d) (i : Int) (s : List UInt8) (hm : d.w.length < 1000000) :
    Calls Try.prog 11 #[.pointer (some ⟨g, 0, none⟩), .int .i64 i, .string ⟨s.toArray⟩] w fun e w' => e = .returned (.int .i64 (d.write i s).1) ∧ DkAt B w' g (d.write i s).2 ∧ Fr B w w' := by
  have H := Lib.hid h
  have HB := Lib.hid h.hB
  have hsz : (⟨s.toArray⟩ : ByteArray).size = s.length := by simp [ByteArray.size]
  by_cases h0 : d.there i = 0
  · obtain ⟨_, h1, h2⟩ := there_zero h0
    obtain ⟨m, rfl⟩ : ∃ m : Nat, i = m := ⟨i.toNat, by omega⟩
    have hm : m < d.l.length := by omega
    by_cases hs : s.length = 64
    · have HS := Lib.hid hs
      have hsI : ((s.length : Int) != 64) = false := bne_eq_false_iff_eq.mpr (by omega)
      by_cases hbd : d.burn.down = true
      · have er : d.write m s = (150, d.burn) := by simp [Dk.write, h0, hs, hbd]
        rw [er]
        clear h h1 h2 hs er
        go_enter Try.func11, Try.ntmps11
        go_wp2_with (first | (go_at_call 28; refine (there_any H.out _).mono ?_; rintro e w1 ⟨rfl, hb⟩; rw [h0]; have H1 := Lib.hid (H.out.below hb)) | (go_at_call 29; refine (burn_any H1.out).mono ?_; rintro e w2 ⟨rfl, h2, h3⟩; rw [hbd]))
        go_ret
        exact ⟨rfl, ⟨a, vw, h2⟩, (Fr.of hb HB.out).trans h3⟩
      · have er : d.write m s = (0, d.burn.put m s) := by simp [Dk.write, h0, hs, hbd]
        rw [er]
        have hbd' : d.burn.down = false := by simpa using hbd
        have hlb : d.burn.l = d.l := by unfold Dk.burn; split <;> rfl
        have hwb : d.burn.w = d.w := by unfold Dk.burn; split <;> rfl
        have hmb : m < d.burn.l.length := by rw [hlb]; exact hm
        obtain ⟨o, eo⟩ : ∃ o, Hid (d.burn.l.getD m [] = o) := ⟨_, Lib.hid rfl⟩
        clear h h1 h2 hs er hbd
        go_enter Try.func11, Try.ntmps11
        go_upto_region 8 with (first | (go_at_call 28; refine (there_any H.out _).mono ?_; rintro e w1 ⟨rfl, hb⟩; rw [h0]; have H1 := Lib.hid (H.out.below hb)) | (go_at_call 29; refine (burn_any H1.out).mono ?_; rintro e w2 ⟨rfl, h2, h3⟩; rw [hbd']))
        have H2 := Lib.hid h2
        have HF := Lib.hid ((Fr.of hb HB.out).trans h3)
        have c0 := H2.out.c0
        have hol : o.length = 64 := by rw [← eo.out]; exact getD64 _ H2.out.ok.l m hmb
        have HOL := Lib.hid hol
        have HL := Lib.hid (show (d.burn.w.length + 1) * 136 ≤ 140737488355328 by rw [hwb]; omega)
        clear hwb
        have HX := Lib.hid (show wok ⟨m, o, zs64⟩ from ⟨hol, rfl⟩)
        have hl := Lib.hid (H2.out.range m hmb eo.out)
        have ha := alloc_wait w2
        clear h2 h3 hb H H1 HB h0 hol hlb
        go_upto_region 9 with (first
          | ((with_reducible refine gate_dst (N := 27) rfl ?_); refine wpList_load_mid rfl 64 _ rfl a (m * 64) rfl (cb o) _ hl.out Try.underlying64 rfl (by rw [cb_length, HOL.out]; exact size_sector) ?_)
          | ((with_reducible refine gate_dst (N := 28) rfl ?_); refine wpList_buildTo rfl 66 _ rfl _ rfl (Wt.vals ⟨m, o, zs64⟩).toArray ?hb8 ?_; (case hb8 => refine Eq.trans (congrArg (Try.prog.built 66) (a₂ := [(0, Value.int .i64 m), (1, Value.agg (cb o).toArray)]) ?_) (build_wait m o HOL.out); simp only [List.map_toArray, List.map_cons, List.map_nil]; rfl))
          | ((with_reducible refine gate_dst (N := 8) rfl ?_); refine box_event ?hg (N := 8) ?hd (cs := zWt.toArray) (t := 66) ?hr ?_; (case hd => rfl); (case hg => rfl); (case hr => simp only [execOp, Sem.run_bind, ha, Result.andThen_ok, Sem.run_pure]); intro bx hbx_ w3 hbox hb3; have hbx := Lib.hid hbx_; clear hbx_)
          | ((with_reducible refine gate_store (t := 66) (p := 8) (v := .tmp 28) rfl ?_); refine wpList_store_row rfl 66 (.tmp 8) (.tmp 28) rfl bx (Wt.vals ⟨m, o, zs64⟩).toArray rfl rfl 66 zWt.toArray hbox ?hi ?hold ?h1 ?_; (case hi => rw [List.size_toArray, vals_len HX.out]; exact size_wait); (case hold => exact zWt_size.trans (by rw [List.size_toArray, vals_len HX.out])); (case h1 => exact all_oneCell_toArray (one_vals _))))
        refine gen_world (fun W => Blk W bx 66 (Wt.vals ⟨m, o, zs64⟩).toArray ∧ DkA B W g a vw d.burn ∧ Fr B w W) ?_ ?_
        · have hb4 : Below w2.heap.size w2 (w3.setRow bx (Wt.vals ⟨m, o, zs64⟩).toArray) := below_of_only hb3 (only_setRow (only_refl _ _) _) (by rw [hbx.out]; exact Nat.le_refl _) hb3.size
          exact ⟨Blk.setRow hbox _, H2.out.below hb4, HF.out.below hb4 H2.out.hB⟩
        have HNB := Lib.hid (show vw.ownBlock ≠ some bx from fun e => by have := (World.ownsRow.lt H2.out.hw bx e).2; rw [hbx.out] at this; exact Nat.lt_irrefl _ this)
        have HBX := Lib.hid (show B ≤ bx by rw [hbx.out]; exact H2.out.hB)
        clear hbox hb3 hbx ha H2 HF c0 hl
        rintro w4 ⟨hX, hD, hF⟩
        have HX0 := Lib.hid hX
        have HD := Lib.hid hD
        have HF := Lib.hid hF
        clear hX hD hF
        have hcp := run_copy_str w4 62 9 3 5 bx 65 64 64 s _ _ 64 Try.underlying62 (by kernel_rfl) HX0.out (by rw [HS.out]; rfl) (by rw [List.size_toArray, vals_len HX.out]; decide)
        unfold goInt at hcp
        rw [vals_copy m o s HOL.out HS.out] at hcp
        go_upto_region 10 with fail
        refine gen_world (fun W => Blk W bx 66 (Wt.vals ⟨m, o, s⟩).toArray ∧ DkA B W g a vw d.burn ∧ Fr B w W) ?_ ?_
        · have hO := only_setRow (only_refl w4 (some bx)) (Wt.vals ⟨m, o, s⟩).toArray
          exact ⟨Blk.setRow HX0.out _, HD.out.other HX0.out HNB.out hO, HF.out.trans (Fr.grown hO (below_of_only (Below.refl _ _) hO HBX.out (Nat.le_of_lt (Nat.lt_of_le_of_lt HBX.out HX0.out.lt))) (fun k e => by injection e with e; subst e; exact ⟨_, _, _, HX0.out, .inr (.inr rfl)⟩))⟩
        clear hcp HX0 HD HF
        rintro w5 ⟨hX, hD, hF⟩
        have HX5 := Lib.hid hX
        have HD := Lib.hid hD
        have HF := Lib.hid hF
        have HXs := Lib.hid (show wok ⟨m, o, s⟩ from ⟨HOL.out, HS.out⟩)
        clear hX hD hF
        have S10 : w5.drew.cell? ⟨g, 1, none⟩ = some vw ∧ Blk w5.drew bx 66 (Wt.vals ⟨m, o, s⟩).toArray := ⟨HD.out.c1, HX5.out⟩
        refine start_ (n := 11) (S := fun w' => w'.cell? ⟨g, 1, none⟩ = some vw ∧ Blk w' bx 66 (Wt.vals ⟨m, o, s⟩).toArray) (ds := [10]) #[false, false, false, false, false, false, false, false, false, false, false] (by kernel_rfl) rfl rfl S10 (fun hHeld => ?_)
        refine with_tabW W10.tab W10.bits (fun HT_ HW_ => ?_)
        refine pure_ (i := 0) (N := some 33) (v := ?_) (a' := ?_) #[true, false, false, false, false, false, false, false, false, false, false] rfl rfl (any_of HT_.out (by kernel_rfl)) (fun _ _ _ h => h) (Or.inl ⟨by rfl, ?_⟩) ?_ ?_
        rotate_left
        · intro w'
          go_simp
          try with_reducible rfl
        rotate_left
        · simp only [Act.put, List.setIfInBounds_toArray, List.set_cons_zero, List.set_cons_succ]
          rfl
        refine pure_ (i := 1) (N := some 34) (v := ?_) (a' := ?_) #[true, true, false, false, false, false, false, false, false, false, false] rfl rfl (any_of HT_.out (by kernel_rfl)) (fun _ _ _ h => h) (Or.inl ⟨by rfl, ?_⟩) ?_ ?_
        rotate_left
        · intro w'
          go_simp
          try with_reducible rfl
        rotate_left
        · simp only [Act.put, List.setIfInBounds_toArray, List.set_cons_zero, List.set_cons_succ]
          rfl
        refine pure_ (i := 2) (N := some 35) (v := ?_) (a' := ?_) #[true, true, true, false, false, false, false, false, false, false, false] rfl rfl (any_of HT_.out (by kernel_rfl)) (fun _ _ _ h => h) (Or.inl ⟨by rfl, ?_⟩) ?_ ?_
        rotate_left
        · intro w'
          go_simp
          try with_reducible rfl
        rotate_left
        · simp only [Act.put, List.setIfInBounds_toArray, List.set_cons_zero, List.set_cons_succ]
          rfl
        refine pure_ (i := 3) (N := some 36) (v := ?_) (a' := ?_) #[true, true, true, true, false, false, false, false, false, false, false] rfl rfl (any_of HT_.out (by kernel_rfl)) (fun _ _ _ h => h) (Or.inl ⟨by rfl, ?_⟩) ?_ ?_
        rotate_left
        · intro w'
          go_simp
          try with_reducible rfl
        rotate_left
        · simp only [Act.put, List.setIfInBounds_toArray, List.set_cons_zero, List.set_cons_succ]
          rfl
        refine take_ (i := 4) (N := some 37) (v := ?_) (a' := ?_) #[true, true, true, true, true, false, false, false, false, false, false] rfl rfl (take_ofW HT_.out HW_.out (by kernel_rfl)) (fun _ _ _ h => h) (Or.inl ⟨by rfl, ?_⟩) hHeld ?_ ?_
        rotate_left
        · rintro w' ⟨s0, s1⟩
          go_simp
          try with_reducible rfl
        rotate_left
        · simp only [Act.put, List.setIfInBounds_toArray, List.set_cons_zero, List.set_cons_succ]
          rfl
        refine take_ (i := 5) (N := some 38) (v := ?_) (a' := ?_) #[true, true, true, true, true, true, false, false, false, false, false] rfl rfl (take_ofW HT_.out HW_.out (by kernel_rfl)) (fun _ _ _ h => h) (Or.inl ⟨by rfl, ?_⟩) hHeld ?_ ?_
        rotate_left
        · rintro w' ⟨s0, s1⟩
          refine exec_load_mid 66 (.tmp 8) ?_ bx 0 ?_ (Wt.vals ⟨m, o, s⟩) _ s1.rangeAll Try.underlying66 rfl (by rw [vals_len HXs.out]; exact size_wait) <;> rfl
        rotate_left
        · simp only [Act.put, List.setIfInBounds_toArray, List.set_cons_zero, List.set_cons_succ]
          rfl
        refine one_ (i := 6) (N := some 39) #[true, true, true, true, true, true, true, false, false, false, false] rfl rfl (one_of HT_.out (by kernel_rfl)) (by decide) (fun K hK => ?_)
        refine value_ (by rfl) rfl (exec_row_wait _ (.tmp 38) rfl (Wt.vals ⟨m, o, s⟩) rfl (vals_len HXs.out)) ?_
        refine hK.out _ _ ⟨(Blk.alloc (show Blk w5.drew g _ _ from HD.out.hg) _).cell 1, Blk.alloc hHeld.2 _⟩ (fun hHeld => ?_)
        clear hK K
        refine norm_ (a' := ?_) ?_ ?_
        rotate_left
        · show Act.put _ (some 39) _ = _
          simp only [Act.put, List.setIfInBounds_toArray, List.set_cons_zero, List.set_cons_succ]
          rfl
        refine one_ (i := 7) (N := some 40) #[true, true, true, true, true, true, true, true, false, false, false] rfl rfl (one_of HT_.out (by kernel_rfl)) (by decide) (fun K hK => ?_)
        refine step_append_cells (w0 := w5) (W := w5.drew) B (by rfl) (.tmp 37) (.tmp 39) 57 66 zWtV 129 136 rfl (by kernel_rfl) info_wait zWtV_size (by decide) (by decide) vw d.burn.w.length (flatW d.burn.w) (Wt.vals ⟨m, o, s⟩) rfl rfl (vals_len HXs.out) (one_vals _) HD.out.hw (Go.Proofs.YtbbmhcloigphjaaW.PrintWords.below_drew (Below.refl _ _)) HD.out.hB HL.out ?_
        intro v1 w6 hown hb hg hat
        obtain ⟨A1, c1, e1⟩ := owns_form hown
        subst e1
        have hBg := (show Blk w5.drew g _ _ from HD.out.hg).grown hg HD.out.neW.1
        have hBx := (show Blk w5.drew bx _ _ from HX5.out).grown hg (fun e => HNB.out e.symm)
        have hBa := (show Blk w5.drew a _ _ from HD.out.ha).grown hg HD.out.neW.2
        have m1 : w6.cell? ⟨g, 1, none⟩ = some vw := hBg.cell 1
        have n1 := hBg.frozen 1
        refine hK.out _ _ ⟨m1, hBx⟩ (fun hHeld => ?_)
        clear hK K
        refine norm_ (a' := ?_) ?_ ?_
        rotate_left
        · show Act.put _ (some 40) _ = _
          simp only [Act.put, List.setIfInBounds_toArray, List.set_cons_zero, List.set_cons_succ]
          rfl
        refine pure_ (i := 8) (N := some 41) (v := ?_) (a' := ?_) #[true, true, true, true, true, true, true, true, true, false, false] rfl rfl (any_of HT_.out (by kernel_rfl)) (fun _ _ _ h => h) (Or.inl ⟨by rfl, ?_⟩) ?_ ?_
        rotate_left
        · intro w'
          go_simp
          try with_reducible rfl
        rotate_left
        · simp only [Act.put, List.setIfInBounds_toArray, List.set_cons_zero, List.set_cons_succ]
          rfl
        refine pure_ (i := 9) (N := some 42) (v := ?_) (a' := ?_) #[true, true, true, true, true, true, true, true, true, true, false] rfl rfl (any_of HT_.out (by kernel_rfl)) (fun _ _ _ h => h) (Or.inl ⟨by rfl, ?_⟩) ?_ ?_
        rotate_left
        · intro w'
          go_simp
          try with_reducible rfl
        rotate_left
        · simp only [Act.put, List.setIfInBounds_toArray, List.set_cons_zero, List.set_cons_succ]
          rfl
        refine last_ (i := 10) (N := none) #[true, true, true, true, true, true, true, true, true, true, true] rfl rfl (one_of HT_.out (by kernel_rfl)) (by decide) (fun K hK => ?_)
        refine skip_ (w1 := ?_) (by rfl) rfl ?_ ?_
        rotate_left
        · go_simp
          try rfl
        refine hK.out _ _ ?_
        clear hK K
        refine done_ (done_of HT_.out (by kernel_rfl)) ?_
        clear HT_ HW_
        go_upto_region 11 with fail
        refine gen_world (fun W => Blk W bx 66 (Wt.vals ⟨m, o, s⟩).toArray ∧ DkA B W g a (.slice A1 (d.burn.w.length + 1) c1) { d.burn with w := d.burn.w ++ [⟨m, o, s⟩] } ∧ Fr B w W) ?_ ?_
        · exact ⟨hBx.far (fun e => HD.out.hg.apart HX5.out (by decide) e.symm) _, HD.out.drew.more (x := ⟨m, o, s⟩) HXs.out hmb hown hg hat, HF.out.drew.trans (HD.out.drew.frMore hg (Below.of_drew hb) _)⟩
        clear hb hg hown hat hBg hBx hBa m1 n1 hHeld S10 HD HF HX5
        rintro w7 ⟨hX, hD, hF⟩
        have HX7 := Lib.hid hX
        have HD := Lib.hid hD
        have HF := Lib.hid hF
        have S11 : w7.drew.cell? ⟨g, 0, none⟩ = some (.slice (some ⟨a, 0, none⟩) d.burn.l.length d.burn.l.length) ∧ Blk w7.drew bx 66 (Wt.vals ⟨m, o, s⟩).toArray := ⟨hD.c0, hX⟩
        clear hX hD hF
        refine start_ (n := 9) (S := fun w' => w'.cell? ⟨g, 0, none⟩ = some (.slice (some ⟨a, 0, none⟩) d.burn.l.length d.burn.l.length) ∧ Blk w' bx 66 (Wt.vals ⟨m, o, s⟩).toArray) (ds := [8]) #[false, false, false, false, false, false, false, false, false] (by kernel_rfl) rfl rfl S11 (fun hHeld => ?_)
        refine with_tabW W11.tab W11.bits (fun HT_ HW_ => ?_)
        refine pure_ (i := 0) (N := some 43) (v := ?_) (a' := ?_) #[true, false, false, false, false, false, false, false, false] rfl rfl (any_of HT_.out (by kernel_rfl)) (fun _ _ _ h => h) (Or.inl ⟨by rfl, ?_⟩) ?_ ?_
        rotate_left
        · intro w'
          go_simp
          try with_reducible rfl
        rotate_left
        · simp only [Act.put, List.setIfInBounds_toArray, List.set_cons_zero, List.set_cons_succ]
          rfl
        refine pure_ (i := 1) (N := some 44) (v := ?_) (a' := ?_) #[true, true, false, false, false, false, false, false, false] rfl rfl (any_of HT_.out (by kernel_rfl)) (fun _ _ _ h => h) (Or.inl ⟨by rfl, ?_⟩) ?_ ?_
        rotate_left
        · intro w'
          go_simp
          try with_reducible rfl
        rotate_left
        · simp only [Act.put, List.setIfInBounds_toArray, List.set_cons_zero, List.set_cons_succ]
          rfl
        refine pure_ (i := 2) (N := some 45) (v := ?_) (a' := ?_) #[true, true, true, false, false, false, false, false, false] rfl rfl (any_of HT_.out (by kernel_rfl)) (fun _ _ _ h => h) (Or.inl ⟨by rfl, ?_⟩) ?_ ?_
        rotate_left
        · intro w'
          go_simp
          try with_reducible rfl
        rotate_left
        · simp only [Act.put, List.setIfInBounds_toArray, List.set_cons_zero, List.set_cons_succ]
          rfl
        refine pure_ (i := 4) (N := some 47) (v := ?_) (a' := ?_) #[true, true, true, false, true, false, false, false, false] rfl rfl (any_of HT_.out (by kernel_rfl)) (fun _ _ _ h => h) (Or.inl ⟨by rfl, ?_⟩) ?_ ?_
        rotate_left
        · intro w'
          go_simp
          try with_reducible rfl
        rotate_left
        · simp only [Act.put, List.setIfInBounds_toArray, List.set_cons_zero, List.set_cons_succ]
          rfl
        refine pure_ (i := 5) (N := some 48) (v := ?_) (a' := ?_) #[true, true, true, false, true, true, false, false, false] rfl rfl (any_of HT_.out (by kernel_rfl)) (fun _ _ _ h => h) (Or.inl ⟨by rfl, ?_⟩) ?_ ?_
        rotate_left
        · intro w'
          go_simp
          try with_reducible rfl
        rotate_left
        · simp only [Act.put, List.setIfInBounds_toArray, List.set_cons_zero, List.set_cons_succ]
          rfl
        refine take_ (i := 3) (N := some 46) (v := ?_) (a' := ?_) #[true, true, true, true, true, true, false, false, false] rfl rfl (take_ofW HT_.out HW_.out (by kernel_rfl)) (fun _ _ _ h => h) (Or.inl ⟨by rfl, ?_⟩) hHeld ?_ ?_
        rotate_left
        · rintro w' ⟨s0, s1⟩
          go_simp
          try with_reducible rfl
        rotate_left
        · simp only [Act.put, List.setIfInBounds_toArray, List.set_cons_zero, List.set_cons_succ]
          rfl
        refine take_ (i := 6) (N := some 49) (v := ?_) (a' := ?_) #[true, true, true, true, true, true, true, false, false] rfl rfl (take_ofW HT_.out HW_.out (by kernel_rfl)) (fun _ _ _ h => h) (Or.inl ⟨by rfl, ?_⟩) hHeld ?_ ?_
        rotate_left
        · rintro w' ⟨s0, s1⟩
          refine exec_load_mid 64 (.tmp 48) ?_ bx 65 ?_ (cb s) _ (newRange HOL.out s1) Try.underlying64 rfl (by rw [cb_length, HS.out]; exact size_sector) <;> rfl
        rotate_left
        · simp only [Act.put, List.setIfInBounds_toArray, List.set_cons_zero, List.set_cons_succ]
          rfl
        refine pure_ (i := 7) (N := some 50) (v := ?_) (a' := ?_) #[true, true, true, true, true, true, true, true, false] rfl rfl (any_of HT_.out (by kernel_rfl)) (fun _ _ _ h => h) (Or.inl ⟨by rfl, ?_⟩) ?_ ?_
        rotate_left
        · intro w'
          go_simp
          try with_reducible rfl
        rotate_left
        · simp only [Act.put, List.setIfInBounds_toArray, List.set_cons_zero, List.set_cons_succ]
          rfl
        refine last_ (i := 8) (N := none) #[true, true, true, true, true, true, true, true, true] rfl rfl (one_of HT_.out (by kernel_rfl)) (by decide) (fun K hK => ?_)
        refine skip_ (w1 := w7.drew.setCells a (m * 64) (cb s)) (by rfl) rfl (exec_store_mid 64 (.tmp 50) (.tmp 49) rfl a (m * 64) (cb s).toArray rfl rfl ?ht ?hi ?h1) ?_
        (case ht => rw [List.size_toArray, cb_length, HS.out]; exact HD.out.drew.ha.thereAt (m * 64) 64 (by rw [List.size_toArray, flat_len _ HD.out.ok.l]; show m * 64 + 64 ≤ 64 * d.burn.l.length; omega))
        (case hi => rw [List.size_toArray, cb_length, HS.out]; exact size_sector)
        (case h1 => exact all_oneCell_toArray (one_cb _))
        refine hK.out _ _ ?_
        clear hK K
        refine done_ (done_of HT_.out (by kernel_rfl)) ?_
        clear HT_ HW_
        go_wp2_with fail
        go_ret
        have e : d.burn.put m s = { ({ d.burn with w := d.burn.w ++ [⟨m, o, s⟩] } : Dk) with l := d.burn.l.set m s } := by unfold Dk.put; rw [eo.out]
        rw [e]
        exact ⟨rfl, ⟨a, _, HD.out.drew.setL m hmb s HS.out⟩, HF.out.drew.trans (HD.out.drew.frL _ _)⟩
    · have er : d.write m s = (3, d) := by simp [Dk.write, h0, hs]
      rw [er]
      have hsI : ((s.length : Int) != 64) = true := bne_iff_ne.mpr (by omega)
      clear h h1 h2 er
      go_enter Try.func11, Try.ntmps11
      go_wp2_with (first | (go_at_call 28; refine (there_any H.out _).mono ?_; rintro e w1 ⟨rfl, hb⟩; rw [h0]))
      go_ret
      exact ⟨rfl, ⟨a, vw, H.out.below hb⟩, Fr.of hb HB.out⟩
  · have er : d.write i s = (d.there i, d) := by simp [Dk.write, h0]
    rw [er]
    have hn : (d.there i != 0) = true := bne_iff_ne.mpr h0
    clear h
    go_enter Try.func11, Try.ntmps11
    go_wp2_with (first | (go_at_call 28; refine (there_any H.out _).mono ?_; rintro e w1 ⟨rfl, hb⟩))
    go_ret
    exact ⟨rfl, ⟨a, vw, H.out.below hb⟩, Fr.of hb HB.out⟩
end
end Go.Proofs.Ytbbmhcloigphjaa

/- A disk's Crash. -/
import Derived.Test.YtbbmhcloigphjaaDkN
import Derived.Deep.LoopGhost
namespace Go.Proofs.Ytbbmhcloigphjaa
open Go.RowKit Go.Proofs.YtbbmhcloigphjaaW.PrintWords Go.Proofs.YtbbmhcloigphjaaW.PrintLast
set_option linter.unusedSimpArgs false
set_option linter.unusedVariables false
def C4.T : Bool × List (List Nat × List Nat) := (true, [([], []), ([0], [0]), ([1], [1]), ([2], [2]), ([], []), ([4], [4]), ([5], [5]), ([6], [6]), ([], []), ([7, 8], [7, 8]), ([9], [9]), ([10], [10]), ([], []), ([12], [12]), ([13], [13]), ([14], [14]), ([], []), ([15, 16], [15, 16]), ([17], [17]), ([18], [18]), ([3, 11, 0, 1, 2, 3, 4, 5, 6, 7, 8, 9, 10, 11, 12, 13, 14, 15, 16, 17, 18, 19], [3, 11]), ([20, 19, 0, 1, 2, 3, 4, 5, 6, 7, 8, 9, 10, 11, 12, 13, 14, 15, 16, 17, 18, 19], [19, 20])])
def C4.B : List Nat := [0, 1, 3, 7, 0, 16, 48, 112, 0, 496, 1008, 2032, 0, 4096, 12288, 28672, 0, 126976, 258048, 520192, 1048575, 2097151]
theorem C4.tab : rtab .any (opsOf Try.f13 4) = C4.T := by kernel_rfl
theorem C4.bits : waitsOk C4.T.2 C4.B = true := by kernel_rfl
def C10.T : Bool × List (List Nat × List Nat) := (true, [([], []), ([0], [0]), ([1], [1]), ([2], [2]), ([], []), ([4], [4]), ([3, 5], [3, 5]), ([], []), ([6, 7], [6, 7]), ([], []), ([], []), ([9, 10], [9, 10]), ([8, 11], [8, 11])])
def C10.B : List Nat := [0, 1, 3, 7, 0, 16, 63, 0, 255, 0, 0, 1536, 4095]
theorem C10.tab : rtab .any (opsOf Try.f13 10) = C10.T := by kernel_rfl
theorem C10.bits : waitsOk C10.T.2 C10.B = true := by kernel_rfl
section
variable {B : Nat} {w w' : World} {g a : Nat} {vw : Value} {d : Dk}
/-- picks, where no disk's block lies. -/
def PkAt (B : Nat) (w : World) (A : Option Addr) (n : Nat) (zs : List Int) : Prop :=
  zs.length = n ∧ (0 < n → ∃ b o, A = some ⟨b, o, none⟩ ∧ (∀ i, i < n → w.cell? ⟨b, o + i, none⟩ = some (.int .i64 (zs.getD i 0))) ∧ (b < B ∨ ∃ (cs : Array Value) (t : TypeId) (fz : Nat × Nat), w.heap[b]? = some (.cells cs t fz) ∧ ¬ DkT t))
theorem PkAt.fr {A : Option Addr} {n : Nat} {zs : List Int} (h : PkAt B w A n zs) (f : Fr B w w') : PkAt B w' A n zs := by
  refine ⟨h.1, fun hn => ?_⟩
  obtain ⟨b, o, e, hc, hb⟩ := h.2 hn
  have hh : w'.heap[b]? = w.heap[b]? := by
    rcases hb with hb | ⟨cs, t, fz, hk, ht⟩
    · exact f.b.block b hb
    · exact f.f b cs t fz hk (fun e => ht (.inl e)) (fun e => ht (.inr (.inl e))) (fun e => ht (.inr (.inr e)))
  refine ⟨b, o, e, fun i hi => ?_, ?_⟩
  · rw [← hc i hi]
    unfold World.cell?
    simp only [hh]
  · rcases hb with hb | ⟨cs, t, fz, hk, ht⟩
    · exact .inl hb
    · exact .inr ⟨cs, t, fz, hh.trans hk, ht⟩
theorem undo_len (l : List (List UInt8)) (ws : List Wt) : (undo l ws).length = l.length := by
  induction ws with
  | nil => rfl
  | cons x r ih => show ((undo l r).set _ _).length = _; rw [List.length_set, ih]
theorem undo_ok (l : List (List UInt8)) (ws : List Wt) (h : ∀ x ∈ l, x.length = 64) (hw : ∀ x ∈ ws, wok x) : ∀ x ∈ undo l ws, x.length = 64 := by
  induction ws with
  | nil => exact h
  | cons y r ih => exact all_set _ (ih (fun x hx => hw x (by simp [hx]))) _ _ (hw y (by simp)).1
theorem undo_step (l : List (List UInt8)) (ws : List Wt) (k : Nat) (hk : k < ws.length) : undo l (ws.drop k) = (undo l (ws.drop (k + 1))).set (ws[k]).at_ (ws[k]).old := by
  rw [List.drop_eq_getElem_cons hk]; rfl
/-- a wait, read where it lies. -/
theorem DkA.wait (h : DkA B w g a vw d) (k : Nat) (hk : k < d.w.length) : ∃ b c, vw = .slice (some ⟨b, 0, none⟩) d.w.length c ∧ w.rangeAt b (k * 129) (d.w[k]).vals := by
  rcases h.hw.2 with ⟨_, e⟩ | ⟨b, cap, cur, e, _, hc, hle, _, hsz, ht⟩
  · rw [e] at hk; exact absurd hk (by omega)
  · refine ⟨b, cap, e, ?_⟩
    have hr := Blk.rangeAt (t := 66) hc (k * 129) 129
    have hf := flatW_get d.w (fun x hx => (h.ok.w x hx).2) k hk
    have e2 : (cur.toList.drop (k * 129)).take 129 = (d.w[k]).vals := by
      rw [← hf, ← ht, List.drop_take, List.take_take]
      congr 1
      have : (k + 1) * 129 ≤ d.w.length * 129 := Nat.mul_le_mul_right _ hk
      omega
    rw [e2] at hr
    exact hr
theorem rangeAt_cell {b o : Nat} {cs : List Value} (h : w.rangeAt b o cs) (j : Nat) {v : Value} (hv : cs[j]? = some v) : w.cell? ⟨b, o + j, none⟩ = some v := h j v hv
theorem wait_old {x : Wt} {b o : Nat} (hx : wok x) (h : w.rangeAt b o x.vals) : w.rangeAt b (o + 1) (cb x.old) := fun j v hv => by
  have := h (1 + j) v (by
    have hj := (List.getElem?_eq_some_iff.1 hv).1
    rw [Nat.add_comm 1 j]
    show (cb x.old ++ cb x.new)[j]? = some v
    rw [List.getElem?_append_left hj]; exact hv)
  rwa [← Nat.add_assoc] at this
/-- a sector's beginning is set. -/
theorem DkA.putL (h : DkA B w g a vw d) (m : Nat) (hm : m < d.l.length) (s : List UInt8) (hs : s.length ≤ 64) : DkA B (w.setCells a (m * 64) (cb s)) g a vw { d with l := d.l.set m (s ++ (d.l.getD m []).drop s.length) } := by
  have hO := only_setCells (b := a) (cb s) (m * 64) (only_refl w (some a))
  have hb := Blk.setCells (cb s) (m * 64) h.ha (by rw [cb_length, List.size_toArray, flat_len _ h.ok.l]; omega)
  have e : ((flat d.l).toArray.toList.take (m * 64) ++ cb s ++ (flat d.l).toArray.toList.drop (m * 64 + (cb s).length)) = flat (d.l.set m (s ++ (d.l.getD m []).drop s.length)) := by
    rw [show (flat d.l).toArray.toList = flat d.l by simp, flat_put d.l h.ok.l m hm s hs]
  rw [e] at hb
  have h64 := getD64 d.l h.ok.l m hm
  refine ⟨?_, hb, World.ownsRow.kept h.hw hO (.inr fun e => h.neW.2 e.symm), h.bg, h.ba, ⟨all_set _ h.ok.l m _ (by rw [List.length_append, List.length_drop, h64]; omega), fun x hx => ?_, ?_, h.ok.f⟩⟩
  · have := h.hg.grown hO (fun e => h.ne (by injection e))
    simpa [dkCells] using this
  · have := h.ok.w x hx
    simpa using this
  · simpa using h.ok.n
theorem owns_max {e : TypeId} {s n : Nat} {v : Value} {xs : List Value} (h : w.ownsRow B e s v n xs) : n ≤ 9223372036854775807 := by
  rcases h.2 with ⟨_, rfl⟩ | ⟨g, cap, cur, _, _, _, hle, hcap, _⟩
  · decide
  · have : maxLen = 9223372036854775807 := rfl
    omega
theorem wrap_pred {m : Nat} (h : m ≤ 9223372036854775807) : wrap64 ((m : Int) - 1) = (m : Int) - 1 := by unfold wrap64; omega
theorem redo_step (picks : List Int) (k : Nat) (l : List (List UInt8)) (ws : List Wt) (hk : k < ws.length) : redo picks k l (ws.drop k) = redo picks (k + 1) (tear l (ws[k]) (pickN picks k)) (ws.drop (k + 1)) := by
  rw [List.drop_eq_getElem_cons hk, redo]
theorem tear_zero (l : List (List UInt8)) (x : Wt) : tear l x 0 = l := by
  unfold tear
  rw [List.take_zero, List.nil_append, List.drop_zero]
  by_cases h : x.at_ < l.length
  · rw [List.getD_eq_getElem?_getD, List.getElem?_eq_getElem h]; simp
  · rw [List.set_eq_of_length_le (by omega)]
theorem DkA.wiped (h : DkA B w g a vw d) : DkA B ((((w.setCell ⟨g, 0, none⟩ (.slice (some ⟨a, 0, none⟩) d.l.length d.l.length)).setCell ⟨g, 1, none⟩ (.slice none 0 0)).setCell ⟨g, 2, none⟩ (.int .i64 0)).setCell ⟨g, 3, none⟩ (.int .i64 0)) g a (.slice none 0 0) { d with w := [], fuse := 0, down := false } :=
  ⟨(((h.hg.set_ 0 _).set_ 1 _).set_ 2 _).set_ 3 _, (((h.ha.far h.ne.symm _).far h.ne.symm _).far h.ne.symm _).far h.ne.symm _, World.ownsRow_nil _ _ _ _, h.bg, h.ba, ⟨h.ok.l, fun x hx => (by cases hx), h.ok.n, ⟨Int.le_refl _, (by decide : (0 : Int) ≤ 1048576)⟩⟩⟩
theorem DkA.frWiped (h : DkA B w g a vw d) (u0 u1 u2 u3 : Value) : Fr B w ((((w.setCell ⟨g, 0, none⟩ u0).setCell ⟨g, 1, none⟩ u1).setCell ⟨g, 2, none⟩ u2).setCell ⟨g, 3, none⟩ u3) :=
  (((Fr.set_ h.hg (.inl rfl) h.bg 0 u0).trans (Fr.set_ (h.hg.set_ 0 _) (.inl rfl) h.bg 1 u1)).trans (Fr.set_ ((h.hg.set_ 0 _).set_ 1 _) (.inl rfl) h.bg 2 u2)).trans (Fr.set_ (((h.hg.set_ 0 _).set_ 1 _).set_ 2 _) (.inl rfl) h.bg 3 u3)
theorem slice_sector (w : World) (b o p : Nat) (hp : p < 65) : (Instr.sliceAt 64 (.pointer (some ⟨b, o, none⟩)) none (some (.int .i64 (p : Int))) none).run Try.prog w = .ok (.slice (some ⟨b, o, none⟩) p 64) w := by
  have h64 : Try.prog.arrayLen 64 = 64 := by kernel_rfl
  have he : Try.prog.elem 64 = 5 := by kernel_rfl
  have hu : Try.prog.underlying 64 = some (.array (Try.prog.arrayLen 64) (Try.prog.elem 64)) := by kernel_rfl
  rw [run_sliceAt_array_h w _ ⟨b, o, none⟩ hu .i64 p (by omega) (by rw [h64]; omega), he, h64, Try.sizeOf5]
  simp [slicedAt, Addr.add_mid]
set_option maxHeartbeats 1600000 in
theorem crash_any (h : DkA B w g a vw d) (A : Option Addr) (n c : Nat) (picks : List Int) (hP : PkAt B w A n picks) :
    Calls Try.prog 13 #[.pointer (some ⟨g, 0, none⟩), .slice A n c] w fun e w' => e = .returned (.int .i64 0) ∧ DkAt B w' g (d.crash picks) ∧ Fr B w w' := by
  have H := Lib.hid h
  have HP := Lib.hid hP
  obtain ⟨m, hm⟩ : ∃ m, m = d.w.length := ⟨_, rfl⟩
  obtain ⟨A1, c1, hv⟩ := owns_form h.hw
  rw [← hm] at hv
  have c1_ := h.c1
  rw [hv] at c1_
  have VW := Lib.hid hv
  have HM := Lib.hid hm
  have HMX := Lib.hid (show m ≤ 9223372036854775807 by rw [hm]; exact owns_max h.hw)
  clear h hP hv hm
  go_enter Try.func13, Try.ntmps13
  go_wp2_with fail
  go_loopg [5] (m + 1) (fun kq v wr => ∃ k, kq = k + 1 ∧ v = .int .i64 ((k : Int) - 1) ∧ k ≤ m ∧ Hid (DkA B wr g a vw { d with l := undo d.l (d.w.drop k) }) ∧ Hid (Fr B w wr))
  case atStart => exact ⟨m, rfl, by rw [wrap_pred HMX.out], Nat.le_refl _, by rw [HM.out, List.drop_length]; exact H, Lib.hid (Fr.refl _ _)⟩
  case round =>
    clear c1_
    obtain ⟨k, rfl, rfl, hk, HD, HF⟩ := hrel
    rcases k with _ | k
    · rw [show ((0 : Nat) : Int) - 1 = -1 by omega]
      obtain ⟨l0, hl0⟩ : ∃ l0, Hid (undo d.l d.w = l0) := ⟨_, Lib.hid rfl⟩
      rw [List.drop_zero, hl0.out] at HD
      have HPr := Lib.hid (HP.out.fr HF.out)
      have h1 := HD.out.c1
      rw [VW.out] at h1
      clear HP hk
      go_wp2_with fail
      clear h1
      go_loopg [45] (m + 1) (fun kq v w2 => ∃ (k : Nat) (l' : List (List UInt8)), kq = m - k + 1 ∧ v = .int .i64 (k : Nat) ∧ k ≤ m ∧ Hid (DkA B w2 g a vw { d with l := l' }) ∧ Hid (Fr B w w2) ∧ Hid (PkAt B w2 A n picks) ∧ Hid (redo picks k l' (d.w.drop k) = redo picks 0 l0 d.w))
      case atStart => exact ⟨0, l0, rfl, rfl, Nat.zero_le _, HD, HF, HPr, Lib.hid rfl⟩
      case round =>
        clear HD HF HPr
        obtain ⟨k, l', rfl, rfl, hk, HD, HF, HPr, HR⟩ := hrel
        by_cases hkm : k < m
        · have hkd : k < d.w.length := by rw [← HM.out]; exact hkm
          obtain ⟨x, hx⟩ : ∃ x, Hid (d.w[k] = x) := ⟨_, Lib.hid rfl⟩
          have HS := Lib.hid (show redo picks 0 l0 d.w = redo picks (k + 1) (tear l' x (pickN picks k)) (d.w.drop (k + 1)) by rw [← HR.out, redo_step _ _ _ _ hkd, hx.out])
          obtain ⟨b, c2, hvw, hr⟩ := HD.out.wait k hkd
          rw [show (({ d with l := l' } : Dk).w[k]'hkd) = x from hx.out] at hr
          have hxk := HD.out.ok.w x (by rw [← hx.out]; exact List.getElem_mem hkd)
          have HXW := Lib.hid (show wok x from hxk.2)
          have HXL := Lib.hid (show x.at_ < l'.length from hxk.1)
          have hvv := hvw
          rw [VW.out] at hvv
          injection hvv with e1 e2 e3
          subst e1
          have HRG := Lib.hid hr
          have ha := alloc_wait wr
          clear hr hxk hvw e2 e3 HR hx hkd
          go_upto_region 8 with (first
            | ((with_reducible refine gate_dst (N := 49) rfl ?_); refine wpList_load_mid rfl 66 (.tmp 48) rfl b (k * 129) rfl x.vals _ HRG.out Try.underlying66 rfl (by rw [vals_len HXW.out]; exact size_wait) ?_)
            | ((with_reducible refine gate_dst (N := 7) rfl ?_); refine box_event ?hg (N := 7) ?hd (cs := zWt.toArray) (t := 66) ?hr ?_; (case hd => rfl); (case hg => rfl); (case hr => simp only [execOp, Sem.run_bind, ha, Result.andThen_ok, Sem.run_pure]); intro bx hbx_ w3 hbox hb3; have hbx := Lib.hid hbx_; clear hbx_)
            | ((with_reducible refine gate_store (t := 66) (p := 7) (v := .tmp 49) rfl ?_); refine wpList_store_row rfl 66 (.tmp 7) (.tmp 49) rfl bx x.vals.toArray rfl rfl 66 zWt.toArray hbox ?hi ?hold ?h1 ?_; (case hi => rw [List.size_toArray, vals_len HXW.out]; exact size_wait); (case hold => exact zWt_size.trans (by rw [List.size_toArray, vals_len HXW.out])); (case h1 => exact all_oneCell_toArray (one_vals _))))
          refine gen_world (fun W => Blk W bx 66 x.vals.toArray ∧ DkA B W g a vw { d with l := l' } ∧ Fr B w W ∧ PkAt B W A n picks) ?_ ?_
          · have hb4 : Below wr.heap.size wr (w3.setRow bx x.vals.toArray) := below_of_only hb3 (only_setRow (only_refl _ _) _) (by rw [hbx.out]; exact Nat.le_refl _) hb3.size
            exact ⟨Blk.setRow hbox _, HD.out.below hb4, HF.out.below hb4 HD.out.hB, HPr.out.fr (Fr.of hb4 HD.out.hB)⟩
          clear hbox hb3 hbx ha HD HF HPr HRG
          rintro w4 ⟨hX, hD, hF, hP⟩
          have HX := Lib.hid hX
          have HD := Lib.hid hD
          have HF := Lib.hid hF
          have HPr := Lib.hid hP
          clear hX hD hF hP
          have HN := Lib.hid HPr.out.1
          by_cases hkn : k < n
          · obtain ⟨pb, po, eA, hpc, _⟩ := HPr.out.2 (by omega)
            subst eA
            have hz := hpc k hkn
            obtain ⟨z, hz_⟩ : ∃ z, Hid (picks.getD k 0 = z) := ⟨_, Lib.hid rfl⟩
            rw [hz_.out] at hz
            obtain ⟨t, ht⟩ : ∃ t, z.tmod 65 = t := ⟨_, rfl⟩
            have htb : -65 < t ∧ t < 65 := by rw [← ht]; exact ⟨by have := Int.lt_tmod_of_pos z (show (0 : Int) < 65 by decide); omega, Int.tmod_lt_of_pos z (by decide)⟩
            obtain ⟨p, hp⟩ : ∃ p : Nat, (t + 65).tmod 65 = (p : Int) := ⟨((t + 65).tmod 65).toNat, by have := Int.tmod_nonneg 65 (show 0 ≤ t + 65 by omega); omega⟩
            have hpb : p < 65 := by have := Int.tmod_lt_of_pos (t + 65) (show (0 : Int) < 65 by decide); omega
            have HP_ := Lib.hid (show pickN picks k = p by unfold pickN; rw [if_pos (by rw [HN.out]; exact hkn), hz_.out, ht, hp]; simp)
            clear hpc
            go_upto_region 10 with fail
            have hpl : (x.new.take p).length = p := by rw [List.length_take, HXW.out.2]; omega
            have hcp := run_copy_cells (P := Try.prog) w4.drew 62 62 3 5 a (x.at_ * 64) p 64 ⟨bx, 65, none⟩ p 64 (cb (x.new.take p)) Try.underlying62 (by kernel_rfl)
              (by rw [cb_length, hpl]; exact (Nat.min_self p).symm)
              (fun j v hv => by
                rw [Addr.add_mid]
                refine newRange (m := x.at_) (o := x.old) (s := x.new) HXW.out.1 HX.out j v ?_
                have hj : j < p := by have := (List.getElem?_eq_some_iff.1 hv).1; rwa [cb_length, hpl] at this
                rw [cb, List.map_take, List.getElem?_take_of_lt hj] at hv
                exact hv)
              (fun j hj => (HD.out.drew.ha.thereAt (x.at_ * 64) 64 (by rw [List.size_toArray, flat_len _ HD.out.ok.l]; have := HXL.out; show x.at_ * 64 + 64 ≤ 64 * l'.length; omega) j (by rw [cb_length, hpl] at hj; omega)).1)
              (fun j hj => (HD.out.drew.ha.thereAt (x.at_ * 64) 64 (by rw [List.size_toArray, flat_len _ HD.out.ok.l]; have := HXL.out; show x.at_ * 64 + 64 ≤ 64 * l'.length; omega) j (by rw [cb_length, hpl] at hj; omega)).2)
              (one_cb _)
            rw [cb_length, hpl] at hcp
            unfold goInt at hcp
            have HPL := Lib.hid hpl
            have hsl1 := fun w => slice_sector w a (x.at_ * 64) p hpb
            have hsl2 := fun w => slice_sector w bx 65 p hpb
            have hxl := HXL.out
            obtain ⟨L, hL⟩ : ∃ L, l'.length = L := ⟨_, rfl⟩
            rw [hL] at hxl
            have h0 := HD.out.c0
            rw [show ({ d with l := l' } : Dk).l.length = L from hL] at h0
            have S10 : w4.drew.cell? ⟨g, 0, none⟩ = some (.slice (some ⟨a, 0, none⟩) L L) ∧ w4.drew.cell? ⟨bx, 0, none⟩ = some (.int .i64 (x.at_ : Nat)) := ⟨h0, HX.out.cell 0⟩
            clear hpl h0 hL
            refine start_ (n := 13) (S := fun w' => w'.cell? ⟨g, 0, none⟩ = some (.slice (some ⟨a, 0, none⟩) L L) ∧ w'.cell? ⟨bx, 0, none⟩ = some (.int .i64 (x.at_ : Nat))) (ds := [12]) #[false, false, false, false, false, false, false, false, false, false, false, false, false] (by kernel_rfl) rfl rfl S10 (fun hHeld => ?_)
            refine with_tabW C10.tab C10.bits (fun HT_ HW_ => ?_)
            refine pure_ (i := 0) (N := some 61) (v := ?_) (a' := ?_) #[true, false, false, false, false, false, false, false, false, false, false, false, false] rfl rfl (any_of HT_.out (by kernel_rfl)) (fun _ _ _ h => h) (Or.inl ⟨by rfl, ?_⟩) ?_ ?_
            rotate_left
            · intro w'
              go_simp
              try with_reducible rfl
            rotate_left
            · simp only [Act.put, List.setIfInBounds_toArray, List.set_cons_zero, List.set_cons_succ]
              rfl
            refine pure_ (i := 1) (N := some 62) (v := ?_) (a' := ?_) #[true, true, false, false, false, false, false, false, false, false, false, false, false] rfl rfl (any_of HT_.out (by kernel_rfl)) (fun _ _ _ h => h) (Or.inl ⟨by rfl, ?_⟩) ?_ ?_
            rotate_left
            · intro w'
              go_simp
              try with_reducible rfl
            rotate_left
            · simp only [Act.put, List.setIfInBounds_toArray, List.set_cons_zero, List.set_cons_succ]
              rfl
            refine pure_ (i := 2) (N := some 63) (v := ?_) (a' := ?_) #[true, true, true, false, false, false, false, false, false, false, false, false, false] rfl rfl (any_of HT_.out (by kernel_rfl)) (fun _ _ _ h => h) (Or.inl ⟨by rfl, ?_⟩) ?_ ?_
            rotate_left
            · intro w'
              go_simp
              try with_reducible rfl
            rotate_left
            · simp only [Act.put, List.setIfInBounds_toArray, List.set_cons_zero, List.set_cons_succ]
              rfl
            refine pure_ (i := 4) (N := some 65) (v := ?_) (a' := ?_) #[true, true, true, false, true, false, false, false, false, false, false, false, false] rfl rfl (any_of HT_.out (by kernel_rfl)) (fun _ _ _ h => h) (Or.inl ⟨by rfl, ?_⟩) ?_ ?_
            rotate_left
            · intro w'
              go_simp
              try with_reducible rfl
            rotate_left
            · simp only [Act.put, List.setIfInBounds_toArray, List.set_cons_zero, List.set_cons_succ]
              rfl
            refine pure_ (i := 7) (N := some 68) (v := ?_) (a' := ?_) #[true, true, true, false, true, false, false, true, false, false, false, false, false] rfl rfl (any_of HT_.out (by kernel_rfl)) (fun _ _ _ h => h) (Or.inl ⟨by rfl, ?_⟩) ?_ ?_
            rotate_left
            · intro w'
              go_simp
              try with_reducible rfl
            rotate_left
            · simp only [Act.put, List.setIfInBounds_toArray, List.set_cons_zero, List.set_cons_succ]
              rfl
            refine pure_ (i := 9) (N := some 70) (v := ?_) (a' := ?_) #[true, true, true, false, true, false, false, true, false, true, false, false, false] rfl rfl (any_of HT_.out (by kernel_rfl)) (fun _ _ _ h => h) (Or.inl ⟨by rfl, ?_⟩) ?_ ?_
            rotate_left
            · intro w'
              go_simp
              try with_reducible rfl
            rotate_left
            · simp only [Act.put, List.setIfInBounds_toArray, List.set_cons_zero, List.set_cons_succ]
              rfl
            refine pure_ (i := 10) (N := some 71) (v := ?_) (a' := ?_) #[true, true, true, false, true, false, false, true, false, true, true, false, false] rfl rfl (any_of HT_.out (by kernel_rfl)) (fun _ _ _ h => h) (Or.inl ⟨by rfl, ?_⟩) ?_ ?_
            rotate_left
            · intro w'
              go_simp
              try with_reducible rfl
            rotate_left
            · simp only [Act.put, List.setIfInBounds_toArray, List.set_cons_zero, List.set_cons_succ]
              rfl
            refine pure_ (i := 11) (N := some 72) (v := ?_) (a' := ?_) #[true, true, true, false, true, false, false, true, false, true, true, true, false] rfl rfl (any_of HT_.out (by kernel_rfl)) (fun _ _ _ h => h) (Or.inl ⟨by rfl, ?_⟩) ?_ ?_
            rotate_left
            · intro w'
              go_simp
              try with_reducible rfl
            rotate_left
            · simp only [Act.put, List.setIfInBounds_toArray, List.set_cons_zero, List.set_cons_succ]
              rfl
            refine take_ (i := 3) (N := some 64) (v := ?_) (a' := ?_) #[true, true, true, true, true, false, false, true, false, true, true, true, false] rfl rfl (take_ofW HT_.out HW_.out (by kernel_rfl)) (fun _ _ _ h => h) (Or.inl ⟨by rfl, ?_⟩) hHeld ?_ ?_
            rotate_left
            · rintro w' ⟨s0, s1⟩
              go_simp
              try with_reducible rfl
            rotate_left
            · simp only [Act.put, List.setIfInBounds_toArray, List.set_cons_zero, List.set_cons_succ]
              rfl
            refine take_ (i := 5) (N := some 66) (v := ?_) (a' := ?_) #[true, true, true, true, true, true, false, true, false, true, true, true, false] rfl rfl (take_ofW HT_.out HW_.out (by kernel_rfl)) (fun _ _ _ h => h) (Or.inl ⟨by rfl, ?_⟩) hHeld ?_ ?_
            rotate_left
            · rintro w' ⟨s0, s1⟩
              go_simp
              try with_reducible rfl
            rotate_left
            · simp only [Act.put, List.setIfInBounds_toArray, List.set_cons_zero, List.set_cons_succ]
              rfl
            refine pure_ (i := 6) (N := some 67) (v := ?_) (a' := ?_) #[true, true, true, true, true, true, true, true, false, true, true, true, false] rfl rfl (any_of HT_.out (by kernel_rfl)) (fun _ _ _ h => h) (Or.inl ⟨by rfl, ?_⟩) ?_ ?_
            rotate_left
            · intro w'
              go_simp
              try with_reducible rfl
            rotate_left
            · simp only [Act.put, List.setIfInBounds_toArray, List.set_cons_zero, List.set_cons_succ]
              rfl
            refine pure_ (i := 8) (N := some 69) (v := ?_) (a' := ?_) #[true, true, true, true, true, true, true, true, true, true, true, true, false] rfl rfl (any_of HT_.out (by kernel_rfl)) (fun _ _ _ h => h) (Or.inl ⟨by rfl, ?_⟩) ?_ ?_
            rotate_left
            · intro w'
              go_simp
              try with_reducible rfl
            rotate_left
            · simp only [Act.put, List.setIfInBounds_toArray, List.set_cons_zero, List.set_cons_succ]
              rfl
            refine last_ (i := 12) (N := some 73) #[true, true, true, true, true, true, true, true, true, true, true, true, true] rfl rfl (one_of HT_.out (by kernel_rfl)) (by decide) (fun K hK => ?_)
            refine value_ (w1 := ?_) (v := ?_) (by rfl) rfl ?_ ?_
            rotate_left 2
            · go_simp
              constructor
              · rfl
              · rfl
            refine hK.out _ _ ?_
            clear hK K
            refine norm_ (a' := ?_) ?_ ?_
            rotate_left
            · show Act.put _ (some 73) _ = _
              simp only [Act.put, List.setIfInBounds_toArray, List.set_cons_zero, List.set_cons_succ]
              rfl
            refine done_ (done_of HT_.out (by kernel_rfl)) ?_
            clear HT_ HW_
            go_wp2_with fail
            go_roundg (m - (k + 1) + 1)
            case measure => omega
            case rel =>
              have hq := HD.out.drew.putL x.at_ HXL.out (x.new.take p) (by rw [HPL.out]; omega)
              rw [HPL.out] at hq
              exact ⟨k + 1, tear l' x p, rfl, by first | rfl | (congr 1; omega) | (congr 1; have := HMX.out; unfold wrap64; omega), hkm, Lib.hid hq, Lib.hid (HF.out.drew.trans (HD.out.drew.frL _ _)), Lib.hid (HPr.out.fr ((Fr.refl B w4).drew.trans (HD.out.drew.frL _ _))), by rw [HS.out, HP_.out]; exact Lib.hid rfl⟩
          · have HP_ := Lib.hid (show pickN picks k = 0 by unfold pickN; rw [if_neg (by rw [HN.out]; exact hkn)])
            go_wp2_with fail
            go_roundg (m - (k + 1) + 1)
            case measure => omega
            case rel => exact ⟨k + 1, l', rfl, by first | rfl | (congr 1; omega) | (congr 1; have := HMX.out; unfold wrap64; omega), hkm, HD, HF, HPr, by rw [HS.out, HP_.out, tear_zero]; exact Lib.hid rfl⟩
        · have hc0 := HD.out.c0
          have f0 := HD.out.hg.frozen 0
          have f1 := HD.out.hg.frozen 1
          have f2 := HD.out.hg.frozen 2
          have f3 := HD.out.hg.frozen 3
          have e1 := HD.out.c1
          have e2 := HD.out.c2
          have e3 := HD.out.c3
          go_wp2_with fail
          go_ret
          have ek : k = m := by omega
          subst ek
          have hR := HR.out
          rw [HM.out, List.drop_length] at hR
          have e : d.crash picks = { ({ d with l := l' } : Dk) with w := [], fuse := 0, down := false } := by
            unfold Dk.crash
            rw [hl0.out, ← hR]
            rfl
          rw [e]
          exact ⟨rfl, ⟨a, _, HD.out.wiped⟩, HF.out.trans (HD.out.frWiped _ _ _ _)⟩
    · rw [show ((k + 1 : Nat) : Int) - 1 = (k : Int) by omega]
      have hkm : k < m := by omega
      have hkd : k < d.w.length := by rw [← HM.out]; exact hkm
      obtain ⟨x, hx⟩ : ∃ x, Hid (d.w[k] = x) := ⟨_, Lib.hid rfl⟩
      obtain ⟨lu, hlu⟩ : ∃ lu, Hid (undo d.l (d.w.drop (k + 1)) = lu) := ⟨_, Lib.hid rfl⟩
      rw [hlu.out] at HD
      have HS := Lib.hid (show undo d.l (d.w.drop k) = lu.set x.at_ x.old by rw [undo_step _ _ k hkd, hx.out, hlu.out])
      obtain ⟨b, c2, hvw, hr⟩ := HD.out.wait k hkd
      rw [show (({ d with l := lu } : Dk).w[k]'hkd) = x from hx.out] at hr
      have hxk := HD.out.ok.w x (by rw [← hx.out]; exact List.getElem_mem hkd)
      have HXO := Lib.hid hxk.2.1
      obtain ⟨L, hL⟩ : ∃ L, lu.length = L := ⟨_, rfl⟩
      have hxl : x.at_ < L := by rw [← hL]; exact hxk.1
      have h0 := HD.out.c0
      rw [show ({ d with l := lu } : Dk).l.length = L from hL] at h0
      have h1 := HD.out.c1
      rw [hvw, show ({ d with l := lu } : Dk).w.length = m from HM.out.symm] at h1
      have S4 : wr.drew.cell? ⟨g, 0, none⟩ = some (.slice (some ⟨a, 0, none⟩) L L) ∧ wr.drew.cell? ⟨g, 1, none⟩ = some (.slice (some ⟨b, 0, none⟩) m c2) ∧ wr.drew.cell? ⟨b, k * 129, none⟩ = some (.int .i64 (x.at_ : Nat)) ∧ wr.drew.rangeAt b (k * 129 + 1) (cb x.old) :=
        ⟨h0, h1, rangeAt_cell hr 0 rfl, wait_old hxk.2 hr⟩
      have HXL := Lib.hid hxl
      have HL := Lib.hid hL
      clear hr hxk h0 h1 hvw hL hk hx hkd
      go_upto_region 4 with fail
      refine start_ (n := 22) (S := fun w' => w'.cell? ⟨g, 0, none⟩ = some (.slice (some ⟨a, 0, none⟩) L L) ∧ w'.cell? ⟨g, 1, none⟩ = some (.slice (some ⟨b, 0, none⟩) m c2) ∧ w'.cell? ⟨b, k * 129, none⟩ = some (.int .i64 (x.at_ : Nat)) ∧ w'.rangeAt b (k * 129 + 1) (cb x.old)) (ds := [21]) #[false, false, false, false, false, false, false, false, false, false, false, false, false, false, false, false, false, false, false, false, false, false] (by kernel_rfl) rfl rfl S4 (fun hHeld => ?_)
      refine with_tabW C4.tab C4.bits (fun HT_ HW_ => ?_)
      refine pure_ (i := 0) (N := some 19) (v := ?_) (a' := ?_) #[true, false, false, false, false, false, false, false, false, false, false, false, false, false, false, false, false, false, false, false, false, false] rfl rfl (any_of HT_.out (by kernel_rfl)) (fun _ _ _ h => h) (Or.inl ⟨by rfl, ?_⟩) ?_ ?_
      rotate_left
      · intro w'
        go_simp
        try with_reducible rfl
      rotate_left
      · simp only [Act.put, List.setIfInBounds_toArray, List.set_cons_zero, List.set_cons_succ]
        rfl
      refine pure_ (i := 1) (N := some 20) (v := ?_) (a' := ?_) #[true, true, false, false, false, false, false, false, false, false, false, false, false, false, false, false, false, false, false, false, false, false] rfl rfl (any_of HT_.out (by kernel_rfl)) (fun _ _ _ h => h) (Or.inl ⟨by rfl, ?_⟩) ?_ ?_
      rotate_left
      · intro w'
        go_simp
        try with_reducible rfl
      rotate_left
      · simp only [Act.put, List.setIfInBounds_toArray, List.set_cons_zero, List.set_cons_succ]
        rfl
      refine pure_ (i := 2) (N := some 21) (v := ?_) (a' := ?_) #[true, true, true, false, false, false, false, false, false, false, false, false, false, false, false, false, false, false, false, false, false, false] rfl rfl (any_of HT_.out (by kernel_rfl)) (fun _ _ _ h => h) (Or.inl ⟨by rfl, ?_⟩) ?_ ?_
      rotate_left
      · intro w'
        go_simp
        try with_reducible rfl
      rotate_left
      · simp only [Act.put, List.setIfInBounds_toArray, List.set_cons_zero, List.set_cons_succ]
        rfl
      refine pure_ (i := 4) (N := some 23) (v := ?_) (a' := ?_) #[true, true, true, false, true, false, false, false, false, false, false, false, false, false, false, false, false, false, false, false, false, false] rfl rfl (any_of HT_.out (by kernel_rfl)) (fun _ _ _ h => h) (Or.inl ⟨by rfl, ?_⟩) ?_ ?_
      rotate_left
      · intro w'
        go_simp
        try with_reducible rfl
      rotate_left
      · simp only [Act.put, List.setIfInBounds_toArray, List.set_cons_zero, List.set_cons_succ]
        rfl
      refine pure_ (i := 5) (N := some 24) (v := ?_) (a' := ?_) #[true, true, true, false, true, true, false, false, false, false, false, false, false, false, false, false, false, false, false, false, false, false] rfl rfl (any_of HT_.out (by kernel_rfl)) (fun _ _ _ h => h) (Or.inl ⟨by rfl, ?_⟩) ?_ ?_
      rotate_left
      · intro w'
        go_simp
        try with_reducible rfl
      rotate_left
      · simp only [Act.put, List.setIfInBounds_toArray, List.set_cons_zero, List.set_cons_succ]
        rfl
      refine pure_ (i := 6) (N := some 25) (v := ?_) (a' := ?_) #[true, true, true, false, true, true, true, false, false, false, false, false, false, false, false, false, false, false, false, false, false, false] rfl rfl (any_of HT_.out (by kernel_rfl)) (fun _ _ _ h => h) (Or.inl ⟨by rfl, ?_⟩) ?_ ?_
      rotate_left
      · intro w'
        go_simp
        try with_reducible rfl
      rotate_left
      · simp only [Act.put, List.setIfInBounds_toArray, List.set_cons_zero, List.set_cons_succ]
        rfl
      refine pure_ (i := 8) (N := some 27) (v := ?_) (a' := ?_) #[true, true, true, false, true, true, true, false, true, false, false, false, false, false, false, false, false, false, false, false, false, false] rfl rfl (any_of HT_.out (by kernel_rfl)) (fun _ _ _ h => h) (Or.inl ⟨by rfl, ?_⟩) ?_ ?_
      rotate_left
      · intro w'
        go_simp
        try with_reducible rfl
      rotate_left
      · simp only [Act.put, List.setIfInBounds_toArray, List.set_cons_zero, List.set_cons_succ]
        rfl
      refine pure_ (i := 12) (N := some 31) (v := ?_) (a' := ?_) #[true, true, true, false, true, true, true, false, true, false, false, false, true, false, false, false, false, false, false, false, false, false] rfl rfl (any_of HT_.out (by kernel_rfl)) (fun _ _ _ h => h) (Or.inl ⟨by rfl, ?_⟩) ?_ ?_
      rotate_left
      · intro w'
        go_simp
        try with_reducible rfl
      rotate_left
      · simp only [Act.put, List.setIfInBounds_toArray, List.set_cons_zero, List.set_cons_succ]
        rfl
      refine pure_ (i := 13) (N := some 32) (v := ?_) (a' := ?_) #[true, true, true, false, true, true, true, false, true, false, false, false, true, true, false, false, false, false, false, false, false, false] rfl rfl (any_of HT_.out (by kernel_rfl)) (fun _ _ _ h => h) (Or.inl ⟨by rfl, ?_⟩) ?_ ?_
      rotate_left
      · intro w'
        go_simp
        try with_reducible rfl
      rotate_left
      · simp only [Act.put, List.setIfInBounds_toArray, List.set_cons_zero, List.set_cons_succ]
        rfl
      refine pure_ (i := 14) (N := some 33) (v := ?_) (a' := ?_) #[true, true, true, false, true, true, true, false, true, false, false, false, true, true, true, false, false, false, false, false, false, false] rfl rfl (any_of HT_.out (by kernel_rfl)) (fun _ _ _ h => h) (Or.inl ⟨by rfl, ?_⟩) ?_ ?_
      rotate_left
      · intro w'
        go_simp
        try with_reducible rfl
      rotate_left
      · simp only [Act.put, List.setIfInBounds_toArray, List.set_cons_zero, List.set_cons_succ]
        rfl
      refine pure_ (i := 16) (N := some 35) (v := ?_) (a' := ?_) #[true, true, true, false, true, true, true, false, true, false, false, false, true, true, true, false, true, false, false, false, false, false] rfl rfl (any_of HT_.out (by kernel_rfl)) (fun _ _ _ h => h) (Or.inl ⟨by rfl, ?_⟩) ?_ ?_
      rotate_left
      · intro w'
        go_simp
        try with_reducible rfl
      rotate_left
      · simp only [Act.put, List.setIfInBounds_toArray, List.set_cons_zero, List.set_cons_succ]
        rfl
      refine take_ (i := 3) (N := some 22) (v := ?_) (a' := ?_) #[true, true, true, true, true, true, true, false, true, false, false, false, true, true, true, false, true, false, false, false, false, false] rfl rfl (take_ofW HT_.out HW_.out (by kernel_rfl)) (fun _ _ _ h => h) (Or.inl ⟨by rfl, ?_⟩) hHeld ?_ ?_
      rotate_left
      · rintro w' ⟨s0, s1, s2, s3⟩
        go_simp
        try with_reducible rfl
      rotate_left
      · simp only [Act.put, List.setIfInBounds_toArray, List.set_cons_zero, List.set_cons_succ]
        rfl
      refine take_ (i := 7) (N := some 26) (v := ?_) (a' := ?_) #[true, true, true, true, true, true, true, true, true, false, false, false, true, true, true, false, true, false, false, false, false, false] rfl rfl (take_ofW HT_.out HW_.out (by kernel_rfl)) (fun _ _ _ h => h) (Or.inl ⟨by rfl, ?_⟩) hHeld ?_ ?_
      rotate_left
      · rintro w' ⟨s0, s1, s2, s3⟩
        go_simp
        try with_reducible rfl
      rotate_left
      · simp only [Act.put, List.setIfInBounds_toArray, List.set_cons_zero, List.set_cons_succ]
        rfl
      refine pure_ (i := 9) (N := some 28) (v := ?_) (a' := ?_) #[true, true, true, true, true, true, true, true, true, true, false, false, true, true, true, false, true, false, false, false, false, false] rfl rfl (any_of HT_.out (by kernel_rfl)) (fun _ _ _ h => h) (Or.inl ⟨by rfl, ?_⟩) ?_ ?_
      rotate_left
      · intro w'
        go_simp
        try with_reducible rfl
      rotate_left
      · simp only [Act.put, List.setIfInBounds_toArray, List.set_cons_zero, List.set_cons_succ]
        rfl
      refine pure_ (i := 10) (N := some 29) (v := ?_) (a' := ?_) #[true, true, true, true, true, true, true, true, true, true, true, false, true, true, true, false, true, false, false, false, false, false] rfl rfl (any_of HT_.out (by kernel_rfl)) (fun _ _ _ h => h) (Or.inl ⟨by rfl, ?_⟩) ?_ ?_
      rotate_left
      · intro w'
        go_simp
        try with_reducible rfl
      rotate_left
      · simp only [Act.put, List.setIfInBounds_toArray, List.set_cons_zero, List.set_cons_succ]
        rfl
      refine take_ (i := 11) (N := some 30) (v := ?_) (a' := ?_) #[true, true, true, true, true, true, true, true, true, true, true, true, true, true, true, false, true, false, false, false, false, false] rfl rfl (take_ofW HT_.out HW_.out (by kernel_rfl)) (fun _ _ _ h => h) (Or.inl ⟨by rfl, ?_⟩) hHeld ?_ ?_
      rotate_left
      · rintro w' ⟨s0, s1, s2, s3⟩
        go_simp
        try with_reducible rfl
      rotate_left
      · simp only [Act.put, List.setIfInBounds_toArray, List.set_cons_zero, List.set_cons_succ]
        rfl
      refine take_ (i := 15) (N := some 34) (v := ?_) (a' := ?_) #[true, true, true, true, true, true, true, true, true, true, true, true, true, true, true, true, true, false, false, false, false, false] rfl rfl (take_ofW HT_.out HW_.out (by kernel_rfl)) (fun _ _ _ h => h) (Or.inl ⟨by rfl, ?_⟩) hHeld ?_ ?_
      rotate_left
      · rintro w' ⟨s0, s1, s2, s3⟩
        go_simp
        try with_reducible rfl
      rotate_left
      · simp only [Act.put, List.setIfInBounds_toArray, List.set_cons_zero, List.set_cons_succ]
        rfl
      refine pure_ (i := 17) (N := some 36) (v := ?_) (a' := ?_) #[true, true, true, true, true, true, true, true, true, true, true, true, true, true, true, true, true, true, false, false, false, false] rfl rfl (any_of HT_.out (by kernel_rfl)) (fun _ _ _ h => h) (Or.inl ⟨by rfl, ?_⟩) ?_ ?_
      rotate_left
      · intro w'
        go_simp
        try with_reducible rfl
      rotate_left
      · simp only [Act.put, List.setIfInBounds_toArray, List.set_cons_zero, List.set_cons_succ]
        rfl
      refine pure_ (i := 18) (N := some 37) (v := ?_) (a' := ?_) #[true, true, true, true, true, true, true, true, true, true, true, true, true, true, true, true, true, true, true, false, false, false] rfl rfl (any_of HT_.out (by kernel_rfl)) (fun _ _ _ h => h) (Or.inl ⟨by rfl, ?_⟩) ?_ ?_
      rotate_left
      · intro w'
        go_simp
        try with_reducible rfl
      rotate_left
      · simp only [Act.put, List.setIfInBounds_toArray, List.set_cons_zero, List.set_cons_succ]
        rfl
      refine take_ (i := 19) (N := some 38) (v := ?_) (a' := ?_) #[true, true, true, true, true, true, true, true, true, true, true, true, true, true, true, true, true, true, true, true, false, false] rfl rfl (take_ofW HT_.out HW_.out (by kernel_rfl)) (fun _ _ _ h => h) (Or.inl ⟨by rfl, ?_⟩) hHeld ?_ ?_
      rotate_left
      · rintro w' ⟨s0, s1, s2, s3⟩
        refine exec_load_mid 64 (.tmp 37) ?_ b (k * 129 + 1) ?_ (cb x.old) _ s3 Try.underlying64 rfl (by rw [cb_length, HXO.out]; exact size_sector) <;> rfl
      rotate_left
      · simp only [Act.put, List.setIfInBounds_toArray, List.set_cons_zero, List.set_cons_succ]
        rfl
      refine pure_ (i := 20) (N := some 39) (v := ?_) (a' := ?_) #[true, true, true, true, true, true, true, true, true, true, true, true, true, true, true, true, true, true, true, true, true, false] rfl rfl (any_of HT_.out (by kernel_rfl)) (fun _ _ _ h => h) (Or.inl ⟨by rfl, ?_⟩) ?_ ?_
      rotate_left
      · intro w'
        go_simp
        try with_reducible rfl
      rotate_left
      · simp only [Act.put, List.setIfInBounds_toArray, List.set_cons_zero, List.set_cons_succ]
        rfl
      refine last_ (i := 21) (N := none) #[true, true, true, true, true, true, true, true, true, true, true, true, true, true, true, true, true, true, true, true, true, true] rfl rfl (one_of HT_.out (by kernel_rfl)) (by decide) (fun K hK => ?_)
      refine skip_ (w1 := wr.drew.setCells a (x.at_ * 64) (cb x.old)) (by rfl) rfl (exec_store_mid 64 (.tmp 39) (.tmp 38) rfl a (x.at_ * 64) (cb x.old).toArray rfl rfl ?ht ?hi ?h1) ?_
      (case ht => rw [List.size_toArray, cb_length, HXO.out]; exact HD.out.drew.ha.thereAt (x.at_ * 64) 64 (by rw [List.size_toArray, flat_len _ HD.out.ok.l]; have := HXL.out; rw [← HL.out] at this; show x.at_ * 64 + 64 ≤ 64 * lu.length; omega))
      (case hi => rw [List.size_toArray, cb_length, HXO.out]; exact size_sector)
      (case h1 => exact all_oneCell_toArray (one_cb _))
      refine hK.out _ _ ?_
      clear hK K
      refine done_ (done_of HT_.out (by kernel_rfl)) ?_
      clear HT_ HW_
      go_wp2_with fail
      go_roundg (k + 1)
      case measure => omega
      case rel => exact ⟨k, rfl, by rw [wrap_pred (by have := HMX.out; omega)], by omega, by rw [HS.out]; exact Lib.hid (HD.out.drew.setL x.at_ (by show x.at_ < lu.length; rw [HL.out]; exact HXL.out) x.old HXO.out), Lib.hid (HF.out.drew.trans (HD.out.drew.frL _ _))⟩
end
end Go.Proofs.Ytbbmhcloigphjaa

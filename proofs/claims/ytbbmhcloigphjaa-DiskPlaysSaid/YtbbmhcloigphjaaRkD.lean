/- The reference's disk: Crash. -/
import Derived.Test.YtbbmhcloigphjaaRkC
namespace Go.Proofs.Ytbbmhcloigphjaa
open Go.RowKit Go.Proofs.YtbbmhcloigphjaaW.PrintWords Go.Proofs.YtbbmhcloigphjaaW.PrintLast
set_option linter.unusedSimpArgs false
set_option linter.unusedVariables false
def RC8.T : Bool × List (List Nat × List Nat) := (true, [([], []), ([0], [0]), ([1], [1]), ([2], [2]), ([], []), ([4], [4]), ([], []), ([6], [6]), ([], []), ([7, 8], [7, 8]), ([], []), ([10], [10]), ([11], [11]), ([12], [12]), ([], []), ([14], [14]), ([13, 15], [13, 15]), ([16], [16]), ([], []), ([17, 18], [17, 18]), ([9, 19], [9, 19]), ([3, 5, 0, 1, 2, 3, 4, 5, 6, 7, 8, 9, 10, 11, 12, 13, 14, 15, 16, 17, 18, 19, 20], [3, 5]), ([21, 20, 0, 1, 2, 3, 4, 5, 6, 7, 8, 9, 10, 11, 12, 13, 14, 15, 16, 17, 18, 19, 20], [20, 21])])
def RC8.B : List Nat := [0, 1, 3, 7, 0, 16, 0, 64, 0, 448, 0, 1024, 3072, 7168, 0, 16384, 64512, 130048, 0, 523264, 1048512, 2097151, 4194303]
theorem RC8.tab : rtab .any (opsOf Try.f25 8) = RC8.T := by kernel_rfl
theorem RC8.bits : waitsOk RC8.T.2 RC8.B = true := by kernel_rfl
theorem dk_take (l : List UInt8) (n : Nat) : (⟨l.toArray⟩ : ByteArray).extract 0 n = ⟨(l.take n).toArray⟩ := by
  rw [extract_mid]; simp
theorem dk_cat (x y : List UInt8) : (⟨x.toArray⟩ : ByteArray) ++ ⟨y.toArray⟩ = ⟨(x ++ y).toArray⟩ := by
  apply ByteArray.ext; simp [ByteArray.data_append]
def redoR (picks : List Int) : Nat → List (List UInt8) → List Rw → List (List UInt8)
  | _, s, [] => s
  | i, s, x :: r => redoR picks (i + 1) (s.set x.at_ (x.text.take (pickN picks i) ++ (s.getD x.at_ []).drop (pickN picks i))) r
theorem redoR_step (picks : List Int) (k : Nat) (s : List (List UInt8)) (l : List Rw) (hk : k < l.length) : redoR picks k s (l.drop k) = redoR picks (k + 1) (s.set (l[k]).at_ ((l[k]).text.take (pickN picks k) ++ (s.getD (l[k]).at_ []).drop (pickN picks k))) (l.drop (k + 1)) := by
  rw [List.drop_eq_getElem_cons hk, redoR]
def Rk.crash (r : Rk) (picks : List Int) : Rk := { s := redoR picks 0 r.s r.l, l := [], left := 0, down := false }
/-- picks among a law's arguments. -/
def PkB (B : Nat) (w : World) (A : Option Addr) (n : Nat) (zs : List Int) : Prop :=
  zs.length = n ∧ (0 < n → ∃ b o, A = some ⟨b, o, none⟩ ∧ b < B ∧ ∀ i, i < n → w.cell? ⟨b, o + i, none⟩ = some (.int .i64 (zs.getD i 0)))
theorem PkB.below {B : Nat} {w w' : World} {A : Option Addr} {n : Nat} {zs : List Int} (h : PkB B w A n zs) (hb : Below B w w') : PkB B w' A n zs :=
  ⟨h.1, fun hn => by
    obtain ⟨b, o, e, hB, hc⟩ := h.2 hn
    exact ⟨b, o, e, hB, fun i hi => (hb.cell (p := ⟨b, o + i, none⟩) hB).trans (hc i hi)⟩⟩
section
variable {B : Nat} {w w' : World} {g : Nat} {va vl : Value} {r : Rk}
theorem RkA.other (h : RkA B w g va vl r) {k : Nat} {t : TypeId} {cs : Array Value} (hX : Blk w k t cs) (hg : w.grownBy w' (some k)) (h1 : g ≠ k) (h2 : va.ownBlock ≠ some k) (h3 : vl.ownBlock ≠ some k) : RkA B w' g va vl r :=
  ⟨h.hg.grown hg (fun e => h1 (by injection e)), World.ownsRow.kept h.hs hg (.inr h2), World.ownsRow.kept h.hl hg (.inr h3), h.bg, h.ok⟩
set_option maxHeartbeats 1600000 in
theorem rcrash_any (h : RkA B w g va vl r) (A : Option Addr) (n c : Nat) (picks : List Int) (hP : PkB B w A n picks) :
    Calls Try.prog 25 #[.pointer (some ⟨g, 0, none⟩), .slice A n c] w fun e w' => e = .returned (.int .i64 0) ∧ RkAt B w' g (r.crash picks) ∧ Gr B w w' := by
  have H := Lib.hid h
  have HP := Lib.hid hP
  obtain ⟨N, hN⟩ : ∃ N, Hid (r.l.length = N) := ⟨_, Lib.hid rfl⟩
  have HNX := Lib.hid (show (N : Int) ≤ 9223372036854775807 by have := owns_max h.hl; rw [hN.out] at this; omega)
  obtain ⟨A2, k2, ev⟩ := owns_form h.hl
  rw [hN.out] at ev
  have EV := Lib.hid ev
  clear h hP ev
  go_enter Try.func25, Try.ntmps25
  go_wp2_with fail
  go_loopg [5] (N + 1) (fun kq v wr => ∃ (k : Nat) (s' : List (List UInt8)), kq = N - k + 1 ∧ v = .int .i64 (k : Nat) ∧ k ≤ N ∧ Hid (redoR picks k s' (r.l.drop k) = redoR picks 0 r.s r.l) ∧ Hid (RkA B wr g va vl { r with s := s' }) ∧ Hid (Gr B w wr) ∧ Hid (PkB B wr A n picks))
  case atStart => exact ⟨0, r.s, rfl, rfl, Nat.zero_le _, Lib.hid rfl, H, Lib.hid (Gr.refl _ _), HP⟩
  case round =>
    clear HP
    obtain ⟨k, s', rfl, rfl, hk, HA, HR, HF, HP⟩ := hrel
    have c1 := HR.out.c1
    rw [EV.out] at c1
    by_cases hkN : k < N
    · have hkl : k < r.l.length := by rw [hN.out]; exact hkN
      obtain ⟨b, c2, e2, hx1, hx2⟩ := HR.out.wt k hkl
      have ee := EV.out
      rw [e2] at ee
      injection ee with ee1 ee2 ee3
      subst ee1
      have ht := redoR_step picks k s' r.l hkl
      have hxo := HR.out.ok.l _ (List.getElem_mem hkl)
      obtain ⟨x, hx⟩ : ∃ x, Hid (r.l[k] = x) := ⟨_, Lib.hid rfl⟩
      rw [show (({ r with s := s' } : Rk).l[k]'hkl) = x from hx.out] at hx1 hx2 hxo
      rw [hx.out, HA.out] at ht
      have HT := Lib.hid ht
      have HXA := Lib.hid (show x.at_ < s'.length from hxo.1)
      have HXT := Lib.hid hxo.2
      have HKN := Lib.hid hkN
      have HN := Lib.hid HP.out.1
      clear ht e2 ee2 ee3 hkl hx hxo
      obtain ⟨p, hp⟩ : ∃ p, Hid (pickN picks k = p) := ⟨_, Lib.hid rfl⟩
      by_cases hkn : k < n
      · obtain ⟨pb, po, eA, hpB, hpc⟩ := HP.out.2 (by omega)
        subst eA
        have hz := hpc k hkn
        obtain ⟨z, hz_⟩ : ∃ z, Hid (picks.getD k 0 = z) := ⟨_, Lib.hid rfl⟩
        rw [hz_.out] at hz
        obtain ⟨t, ht⟩ : ∃ t, z.tmod 65 = t := ⟨_, rfl⟩
        have htb : -65 < t ∧ t < 65 := by rw [← ht]; exact ⟨by have := Int.lt_tmod_of_pos z (show (0 : Int) < 65 by decide); omega, Int.tmod_lt_of_pos z (by decide)⟩
        obtain ⟨p', hp'⟩ : ∃ p' : Nat, (t + 65).tmod 65 = (p' : Int) := ⟨((t + 65).tmod 65).toNat, by have := Int.tmod_nonneg 65 (show 0 ≤ t + 65 by omega); omega⟩
        have hpb : p' < 65 := by have := Int.tmod_lt_of_pos (t + 65) (show (0 : Int) < 65 by decide); omega
        have hpp : p = p' := by rw [← hp.out]; unfold pickN; rw [if_pos (by rw [HN.out]; exact hkn), hz_.out, ht, hp']; simp
        subst hpp
        have HPB := Lib.hid hpb
        clear hpc hpB
        go_upto_region 8 with (first | ((with_reducible refine gate_dst (N := 7) rfl ?_); refine box_event ?hg (N := 7) ?hd (cs := #[.int .i64 0, .string ⟨#[]⟩]) (t := 68) ?hr ?_; (case hd => rfl); (case hg => rfl); (case hr => first | (go_simp; done) | (go_simp; rfl)); intro bx hbx_ w3 hbox hb3; have hbx := Lib.hid hbx_; clear hbx_; have z0 : w3.cell? ⟨bx, 0, none⟩ = some (.int .i64 0) := blk_cell hbox 0; have z1 : w3.cell? ⟨bx, 1, none⟩ = some (.string ⟨#[]⟩) := blk_cell hbox 1; have y0 := blk_frozen hbox 0; have y1 := blk_frozen hbox 1))
        refine gen_world (fun W => Blk W bx 68 #[.int .i64 (x.at_ : Nat), .string ⟨x.text.toArray⟩] ∧ RkA B W g va vl { r with s := s' } ∧ Gr B w W ∧ PkB B W (some ⟨pb, po, none⟩) n picks) ?_ ?_
        · have hle : wr.heap.size ≤ bx := by rw [hbx.out]; exact Nat.le_refl _
          have hb4 := (hb3.setCell (p := ⟨bx, 0, none⟩) hle (.int .i64 (x.at_ : Nat))).setCell (p := ⟨bx, 1, none⟩) hle (.string ⟨x.text.toArray⟩)
          exact ⟨(Blk.set_ hbox 0 _).set_ 1 _, HR.out.below hb4, HF.out.below hb4 HR.out.hB, HP.out.below (hb4.mono HR.out.hB)⟩
        clear hbox hb3 hbx z0 z1 y0 y1 hx1 hx2 c1 hz ht htb hp' HR HF HP
        rintro w4 ⟨hX, hR, hF, hP⟩
        have HX := Lib.hid hX
        have HR := Lib.hid hR
        have HF := Lib.hid hF
        have HP := Lib.hid hP
        clear hX hR hF hP
        obtain ⟨sa, ca, cur, ea, hsB, hsX, hsc⟩ := HR.out.sec x.at_ HXA.out
        obtain ⟨y, hy⟩ : ∃ y, Hid (s'.getD x.at_ [] = y) := ⟨_, Lib.hid rfl⟩
        rw [show (({ r with s := s' } : Rk).s.getD x.at_ []) = y from hy.out] at hsc
        have HY := Lib.hid (show y.length = 64 by rw [← hy.out]; exact getD64 s' HR.out.ok.s x.at_ HXA.out)
        have c0 := HR.out.c0
        rw [ea] at c0
        obtain ⟨L, hL⟩ : ∃ L, s'.length = L := ⟨_, rfl⟩
        rw [show ({ r with s := s' } : Rk).s.length = L from hL] at c0
        have hxL : x.at_ < L := by rw [← hL]; exact HXA.out
        obtain ⟨t1, et1⟩ : ∃ t1, Hid (x.text.take p = t1) := ⟨_, Lib.hid rfl⟩
        obtain ⟨t2, et2⟩ : ∃ t2, Hid (y.drop p = t2) := ⟨_, Lib.hid rfl⟩
        have hs1 : ∀ w, (Instr.slice 9 (.string ⟨x.text.toArray⟩) none (some (.int .i64 (p : Int))) none).run Try.prog w = .ok (.string ⟨t1.toArray⟩) w := fun w => by
          rw [run_slice_string_h w _ ⟨x.text.toArray⟩ Try.underlying9 .i64 (p : Int) (by omega) (by show (p : Int) ≤ ((x.text.toArray.size : Nat) : Int); rw [List.size_toArray, HXT.out]; omega), ← et1.out, Int.toNat_natCast, dk_take]
        have hs2 : ∀ w, (Instr.slice 9 (.string ⟨y.toArray⟩) (some (.int .i64 (p : Int))) none none).run Try.prog w = .ok (.string ⟨t2.toArray⟩) w := fun w => by
          rw [run_slice_string_l w _ ⟨y.toArray⟩ Try.underlying9 .i64 (p : Int) (by omega) (by show (p : Int) ≤ ((y.toArray.size : Nat) : Int); rw [List.size_toArray, HY.out]; omega), ← et2.out, Int.toNat_natCast, ← extract_eq]
          rfl
        obtain ⟨q, eq⟩ : ∃ q, Hid (t1 ++ t2 = q) := ⟨_, Lib.hid rfl⟩
        have hcat : (⟨t1.toArray⟩ : ByteArray) ++ ⟨t2.toArray⟩ = ⟨q.toArray⟩ := by rw [← eq.out]; exact dk_cat _ _
        have hlen : (9223372036854775807 < t1.length + t2.length) = False := eq_false (by rw [← et1.out, ← et2.out, List.length_take, List.length_drop, HXT.out, HY.out]; omega)
        have HQ := Lib.hid (show q.length = 64 by rw [← eq.out, ← et1.out, ← et2.out, List.length_append, List.length_take, List.length_drop, HXT.out, HY.out]; omega)
        have HTT := Lib.hid (show redoR picks (k + 1) (s'.set x.at_ q) (r.l.drop (k + 1)) = redoR picks 0 r.s r.l by rw [HT.out, hp.out, hy.out, et1.out, et2.out, eq.out])
        have S8 : w4.drew.cell? ⟨g, 0, none⟩ = some (.slice (some ⟨sa, 0, none⟩) L ca) ∧ w4.drew.cell? ⟨bx, 0, none⟩ = some (.int .i64 (x.at_ : Nat)) ∧ w4.drew.cell? ⟨bx, 1, none⟩ = some (.string ⟨x.text.toArray⟩) ∧ w4.drew.cell? ⟨sa, x.at_, none⟩ = some (.string ⟨y.toArray⟩) := ⟨c0, HX.out.cell 0, HX.out.cell 1, hsc⟩
        have hsc' : w4.drew.cell? ⟨sa, x.at_, none⟩ = some (.string ⟨y.toArray⟩) := hsc
        have hsf : w4.drew.frozen? ⟨sa, x.at_, none⟩ = false := hsX.frozen x.at_
        have EA := Lib.hid ea
        clear c0 hL hsB hsX hsc ea
        refine start_ (n := 23) (S := fun w' => w'.cell? ⟨g, 0, none⟩ = some (.slice (some ⟨sa, 0, none⟩) L ca) ∧ w'.cell? ⟨bx, 0, none⟩ = some (.int .i64 (x.at_ : Nat)) ∧ w'.cell? ⟨bx, 1, none⟩ = some (.string ⟨x.text.toArray⟩) ∧ w'.cell? ⟨sa, x.at_, none⟩ = some (.string ⟨y.toArray⟩)) (ds := [22]) #[false, false, false, false, false, false, false, false, false, false, false, false, false, false, false, false, false, false, false, false, false, false, false] (by kernel_rfl) rfl rfl S8 (fun hHeld => ?_)
        refine with_tabW RC8.tab RC8.bits (fun HT_ HW_ => ?_)
        refine pure_ (i := 0) (N := some 35) (v := ?_) (a' := ?_) #[true, false, false, false, false, false, false, false, false, false, false, false, false, false, false, false, false, false, false, false, false, false, false] rfl rfl (any_of HT_.out (by kernel_rfl)) (fun _ _ _ h => h) (Or.inl ⟨by rfl, ?_⟩) ?_ ?_
        rotate_left
        · intro w'
          go_simp
          try with_reducible rfl
        rotate_left
        · simp only [Act.put, List.setIfInBounds_toArray, List.set_cons_zero, List.set_cons_succ]
          rfl
        refine pure_ (i := 1) (N := some 36) (v := ?_) (a' := ?_) #[true, true, false, false, false, false, false, false, false, false, false, false, false, false, false, false, false, false, false, false, false, false, false] rfl rfl (any_of HT_.out (by kernel_rfl)) (fun _ _ _ h => h) (Or.inl ⟨by rfl, ?_⟩) ?_ ?_
        rotate_left
        · intro w'
          go_simp
          try with_reducible rfl
        rotate_left
        · simp only [Act.put, List.setIfInBounds_toArray, List.set_cons_zero, List.set_cons_succ]
          rfl
        refine pure_ (i := 2) (N := some 37) (v := ?_) (a' := ?_) #[true, true, true, false, false, false, false, false, false, false, false, false, false, false, false, false, false, false, false, false, false, false, false] rfl rfl (any_of HT_.out (by kernel_rfl)) (fun _ _ _ h => h) (Or.inl ⟨by rfl, ?_⟩) ?_ ?_
        rotate_left
        · intro w'
          go_simp
          try with_reducible rfl
        rotate_left
        · simp only [Act.put, List.setIfInBounds_toArray, List.set_cons_zero, List.set_cons_succ]
          rfl
        refine pure_ (i := 4) (N := some 39) (v := ?_) (a' := ?_) #[true, true, true, false, true, false, false, false, false, false, false, false, false, false, false, false, false, false, false, false, false, false, false] rfl rfl (any_of HT_.out (by kernel_rfl)) (fun _ _ _ h => h) (Or.inl ⟨by rfl, ?_⟩) ?_ ?_
        rotate_left
        · intro w'
          go_simp
          try with_reducible rfl
        rotate_left
        · simp only [Act.put, List.setIfInBounds_toArray, List.set_cons_zero, List.set_cons_succ]
          rfl
        refine pure_ (i := 6) (N := some 41) (v := ?_) (a' := ?_) #[true, true, true, false, true, false, true, false, false, false, false, false, false, false, false, false, false, false, false, false, false, false, false] rfl rfl (any_of HT_.out (by kernel_rfl)) (fun _ _ _ h => h) (Or.inl ⟨by rfl, ?_⟩) ?_ ?_
        rotate_left
        · intro w'
          go_simp
          try with_reducible rfl
        rotate_left
        · simp only [Act.put, List.setIfInBounds_toArray, List.set_cons_zero, List.set_cons_succ]
          rfl
        refine pure_ (i := 8) (N := some 43) (v := ?_) (a' := ?_) #[true, true, true, false, true, false, true, false, true, false, false, false, false, false, false, false, false, false, false, false, false, false, false] rfl rfl (any_of HT_.out (by kernel_rfl)) (fun _ _ _ h => h) (Or.inl ⟨by rfl, ?_⟩) ?_ ?_
        rotate_left
        · intro w'
          go_simp
          try with_reducible rfl
        rotate_left
        · simp only [Act.put, List.setIfInBounds_toArray, List.set_cons_zero, List.set_cons_succ]
          rfl
        refine pure_ (i := 10) (N := some 45) (v := ?_) (a' := ?_) #[true, true, true, false, true, false, true, false, true, false, true, false, false, false, false, false, false, false, false, false, false, false, false] rfl rfl (any_of HT_.out (by kernel_rfl)) (fun _ _ _ h => h) (Or.inl ⟨by rfl, ?_⟩) ?_ ?_
        rotate_left
        · intro w'
          go_simp
          try with_reducible rfl
        rotate_left
        · simp only [Act.put, List.setIfInBounds_toArray, List.set_cons_zero, List.set_cons_succ]
          rfl
        refine pure_ (i := 11) (N := some 46) (v := ?_) (a' := ?_) #[true, true, true, false, true, false, true, false, true, false, true, true, false, false, false, false, false, false, false, false, false, false, false] rfl rfl (any_of HT_.out (by kernel_rfl)) (fun _ _ _ h => h) (Or.inl ⟨by rfl, ?_⟩) ?_ ?_
        rotate_left
        · intro w'
          go_simp
          try with_reducible rfl
        rotate_left
        · simp only [Act.put, List.setIfInBounds_toArray, List.set_cons_zero, List.set_cons_succ]
          rfl
        refine pure_ (i := 12) (N := some 47) (v := ?_) (a' := ?_) #[true, true, true, false, true, false, true, false, true, false, true, true, true, false, false, false, false, false, false, false, false, false, false] rfl rfl (any_of HT_.out (by kernel_rfl)) (fun _ _ _ h => h) (Or.inl ⟨by rfl, ?_⟩) ?_ ?_
        rotate_left
        · intro w'
          go_simp
          try with_reducible rfl
        rotate_left
        · simp only [Act.put, List.setIfInBounds_toArray, List.set_cons_zero, List.set_cons_succ]
          rfl
        refine pure_ (i := 14) (N := some 49) (v := ?_) (a' := ?_) #[true, true, true, false, true, false, true, false, true, false, true, true, true, false, true, false, false, false, false, false, false, false, false] rfl rfl (any_of HT_.out (by kernel_rfl)) (fun _ _ _ h => h) (Or.inl ⟨by rfl, ?_⟩) ?_ ?_
        rotate_left
        · intro w'
          go_simp
          try with_reducible rfl
        rotate_left
        · simp only [Act.put, List.setIfInBounds_toArray, List.set_cons_zero, List.set_cons_succ]
          rfl
        refine pure_ (i := 18) (N := some 53) (v := ?_) (a' := ?_) #[true, true, true, false, true, false, true, false, true, false, true, true, true, false, true, false, false, false, true, false, false, false, false] rfl rfl (any_of HT_.out (by kernel_rfl)) (fun _ _ _ h => h) (Or.inl ⟨by rfl, ?_⟩) ?_ ?_
        rotate_left
        · intro w'
          go_simp
          try with_reducible rfl
        rotate_left
        · simp only [Act.put, List.setIfInBounds_toArray, List.set_cons_zero, List.set_cons_succ]
          rfl
        refine take_ (i := 3) (N := some 38) (v := ?_) (a' := ?_) #[true, true, true, true, true, false, true, false, true, false, true, true, true, false, true, false, false, false, true, false, false, false, false] rfl rfl (take_ofW HT_.out HW_.out (by kernel_rfl)) (fun _ _ _ h => h) (Or.inl ⟨by rfl, ?_⟩) hHeld ?_ ?_
        rotate_left
        · rintro w' ⟨s0, s1, s2, s3⟩
          go_simp
          try with_reducible rfl
        rotate_left
        · simp only [Act.put, List.setIfInBounds_toArray, List.set_cons_zero, List.set_cons_succ]
          rfl
        refine take_ (i := 5) (N := some 40) (v := ?_) (a' := ?_) #[true, true, true, true, true, true, true, false, true, false, true, true, true, false, true, false, false, false, true, false, false, false, false] rfl rfl (take_ofW HT_.out HW_.out (by kernel_rfl)) (fun _ _ _ h => h) (Or.inl ⟨by rfl, ?_⟩) hHeld ?_ ?_
        rotate_left
        · rintro w' ⟨s0, s1, s2, s3⟩
          go_simp
          try with_reducible rfl
        rotate_left
        · simp only [Act.put, List.setIfInBounds_toArray, List.set_cons_zero, List.set_cons_succ]
          rfl
        refine take_ (i := 7) (N := some 42) (v := ?_) (a' := ?_) #[true, true, true, true, true, true, true, true, true, false, true, true, true, false, true, false, false, false, true, false, false, false, false] rfl rfl (take_ofW HT_.out HW_.out (by kernel_rfl)) (fun _ _ _ h => h) (Or.inl ⟨by rfl, ?_⟩) hHeld ?_ ?_
        rotate_left
        · rintro w' ⟨s0, s1, s2, s3⟩
          go_simp
          try with_reducible rfl
        rotate_left
        · simp only [Act.put, List.setIfInBounds_toArray, List.set_cons_zero, List.set_cons_succ]
          rfl
        refine pure_ (i := 9) (N := some 44) (v := ?_) (a' := ?_) #[true, true, true, true, true, true, true, true, true, true, true, true, true, false, true, false, false, false, true, false, false, false, false] rfl rfl (any_of HT_.out (by kernel_rfl)) (fun _ _ _ h => h) (Or.inl ⟨by rfl, ?_⟩) ?_ ?_
        rotate_left
        · intro w'
          go_simp
          try with_reducible rfl
        rotate_left
        · simp only [Act.put, List.setIfInBounds_toArray, List.set_cons_zero, List.set_cons_succ]
          rfl
        refine take_ (i := 13) (N := some 48) (v := ?_) (a' := ?_) #[true, true, true, true, true, true, true, true, true, true, true, true, true, true, true, false, false, false, true, false, false, false, false] rfl rfl (take_ofW HT_.out HW_.out (by kernel_rfl)) (fun _ _ _ h => h) (Or.inl ⟨by rfl, ?_⟩) hHeld ?_ ?_
        rotate_left
        · rintro w' ⟨s0, s1, s2, s3⟩
          go_simp
          try with_reducible rfl
        rotate_left
        · simp only [Act.put, List.setIfInBounds_toArray, List.set_cons_zero, List.set_cons_succ]
          rfl
        refine take_ (i := 15) (N := some 50) (v := ?_) (a' := ?_) #[true, true, true, true, true, true, true, true, true, true, true, true, true, true, true, true, false, false, true, false, false, false, false] rfl rfl (take_ofW HT_.out HW_.out (by kernel_rfl)) (fun _ _ _ h => h) (Or.inl ⟨by rfl, ?_⟩) hHeld ?_ ?_
        rotate_left
        · rintro w' ⟨s0, s1, s2, s3⟩
          go_simp
          try with_reducible rfl
        rotate_left
        · simp only [Act.put, List.setIfInBounds_toArray, List.set_cons_zero, List.set_cons_succ]
          rfl
        refine pure_ (i := 16) (N := some 51) (v := ?_) (a' := ?_) #[true, true, true, true, true, true, true, true, true, true, true, true, true, true, true, true, true, false, true, false, false, false, false] rfl rfl (any_of HT_.out (by kernel_rfl)) (fun _ _ _ h => h) (Or.inl ⟨by rfl, ?_⟩) ?_ ?_
        rotate_left
        · intro w'
          go_simp
          try with_reducible rfl
        rotate_left
        · simp only [Act.put, List.setIfInBounds_toArray, List.set_cons_zero, List.set_cons_succ]
          rfl
        refine take_ (i := 17) (N := some 52) (v := ?_) (a' := ?_) #[true, true, true, true, true, true, true, true, true, true, true, true, true, true, true, true, true, true, true, false, false, false, false] rfl rfl (take_ofW HT_.out HW_.out (by kernel_rfl)) (fun _ _ _ h => h) (Or.inl ⟨by rfl, ?_⟩) hHeld ?_ ?_
        rotate_left
        · rintro w' ⟨s0, s1, s2, s3⟩
          go_simp
          try with_reducible rfl
        rotate_left
        · simp only [Act.put, List.setIfInBounds_toArray, List.set_cons_zero, List.set_cons_succ]
          rfl
        refine pure_ (i := 19) (N := some 54) (v := ?_) (a' := ?_) #[true, true, true, true, true, true, true, true, true, true, true, true, true, true, true, true, true, true, true, true, false, false, false] rfl rfl (any_of HT_.out (by kernel_rfl)) (fun _ _ _ h => h) (Or.inl ⟨by rfl, ?_⟩) ?_ ?_
        rotate_left
        · intro w'
          go_simp
          try with_reducible rfl
        rotate_left
        · simp only [Act.put, List.setIfInBounds_toArray, List.set_cons_zero, List.set_cons_succ]
          rfl
        refine pure_ (i := 20) (N := some 55) (v := ?_) (a' := ?_) #[true, true, true, true, true, true, true, true, true, true, true, true, true, true, true, true, true, true, true, true, true, false, false] rfl rfl (any_of HT_.out (by kernel_rfl)) (fun _ _ _ h => h) (Or.inl ⟨by rfl, ?_⟩) ?_ ?_
        rotate_left
        · intro w'
          go_simp
          try with_reducible rfl
        rotate_left
        · simp only [Act.put, List.setIfInBounds_toArray, List.set_cons_zero, List.set_cons_succ]
          rfl
        refine pure_ (i := 21) (N := some 56) (v := ?_) (a' := ?_) #[true, true, true, true, true, true, true, true, true, true, true, true, true, true, true, true, true, true, true, true, true, true, false] rfl rfl (any_of HT_.out (by kernel_rfl)) (fun _ _ _ h => h) (Or.inl ⟨by rfl, ?_⟩) ?_ ?_
        rotate_left
        · intro w'
          go_simp
          try with_reducible rfl
        rotate_left
        · simp only [Act.put, List.setIfInBounds_toArray, List.set_cons_zero, List.set_cons_succ]
          rfl
        refine last_ (i := 22) (N := none) #[true, true, true, true, true, true, true, true, true, true, true, true, true, true, true, true, true, true, true, true, true, true, true] rfl rfl (one_of HT_.out (by kernel_rfl)) (by decide) (fun K hK => ?_)
        refine skip_ (w1 := ?_) (by rfl) rfl ?_ ?_
        rotate_left
        · go_simp
          try rfl
        refine hK.out _ _ ?_
        clear hK K
        refine done_ (done_of HT_.out (by kernel_rfl)) ?_
        clear HT_ HW_
        go_wp2_with fail
        go_roundg (N - (k + 1) + 1)
        case measure => omega
        case rel =>
          obtain ⟨hq1, hq2⟩ := HR.out.drew.setS EA.out x.at_ HXA.out q HQ.out
          exact ⟨k + 1, _, rfl, by first | rfl | (congr 1; omega) | (congr 1; have := HNX.out; have := HKN.out; unfold wrap64; omega), HKN.out, HTT, Lib.hid hq1, Lib.hid (HF.out.drew.trans hq2), Lib.hid (HP.out.below (Below.trans (Go.Proofs.YtbbmhcloigphjaaW.PrintWords.below_drew (Below.refl _ _)) hq2.b))⟩
      · have hp0 : p = 0 := by rw [← hp.out]; unfold pickN; rw [if_neg (by rw [HN.out]; exact hkn)]
        subst hp0
        go_upto_region 8 with (first | ((with_reducible refine gate_dst (N := 7) rfl ?_); refine box_event ?hg (N := 7) ?hd (cs := #[.int .i64 0, .string ⟨#[]⟩]) (t := 68) ?hr ?_; (case hd => rfl); (case hg => rfl); (case hr => first | (go_simp; done) | (go_simp; rfl)); intro bx hbx_ w3 hbox hb3; have hbx := Lib.hid hbx_; clear hbx_; have z0 : w3.cell? ⟨bx, 0, none⟩ = some (.int .i64 0) := blk_cell hbox 0; have z1 : w3.cell? ⟨bx, 1, none⟩ = some (.string ⟨#[]⟩) := blk_cell hbox 1; have y0 := blk_frozen hbox 0; have y1 := blk_frozen hbox 1))
        refine gen_world (fun W => Blk W bx 68 #[.int .i64 (x.at_ : Nat), .string ⟨x.text.toArray⟩] ∧ RkA B W g va vl { r with s := s' } ∧ Gr B w W ∧ PkB B W A n picks) ?_ ?_
        · have hle : wr.heap.size ≤ bx := by rw [hbx.out]; exact Nat.le_refl _
          have hb4 := (hb3.setCell (p := ⟨bx, 0, none⟩) hle (.int .i64 (x.at_ : Nat))).setCell (p := ⟨bx, 1, none⟩) hle (.string ⟨x.text.toArray⟩)
          exact ⟨(Blk.set_ hbox 0 _).set_ 1 _, HR.out.below hb4, HF.out.below hb4 HR.out.hB, HP.out.below (hb4.mono HR.out.hB)⟩
        clear hbox hb3 hbx z0 z1 y0 y1 hx1 hx2 c1  HR HF HP
        rintro w4 ⟨hX, hR, hF, hP⟩
        have HX := Lib.hid hX
        have HR := Lib.hid hR
        have HF := Lib.hid hF
        have HP := Lib.hid hP
        clear hX hR hF hP
        obtain ⟨sa, ca, cur, ea, hsB, hsX, hsc⟩ := HR.out.sec x.at_ HXA.out
        obtain ⟨y, hy⟩ : ∃ y, Hid (s'.getD x.at_ [] = y) := ⟨_, Lib.hid rfl⟩
        rw [show (({ r with s := s' } : Rk).s.getD x.at_ []) = y from hy.out] at hsc
        have HY := Lib.hid (show y.length = 64 by rw [← hy.out]; exact getD64 s' HR.out.ok.s x.at_ HXA.out)
        have c0 := HR.out.c0
        rw [ea] at c0
        obtain ⟨L, hL⟩ : ∃ L, s'.length = L := ⟨_, rfl⟩
        rw [show ({ r with s := s' } : Rk).s.length = L from hL] at c0
        have hxL : x.at_ < L := by rw [← hL]; exact HXA.out
        obtain ⟨t1, et1⟩ : ∃ t1, Hid (x.text.take 0 = t1) := ⟨_, Lib.hid rfl⟩
        obtain ⟨t2, et2⟩ : ∃ t2, Hid (y.drop 0 = t2) := ⟨_, Lib.hid rfl⟩
        have hs1 : ∀ w, (Instr.slice 9 (.string ⟨x.text.toArray⟩) none (some (.int .i64 (0 : Int))) none).run Try.prog w = .ok (.string ⟨t1.toArray⟩) w := fun w => by
          rw [run_slice_string_h w _ ⟨x.text.toArray⟩ Try.underlying9 .i64 (0 : Int) (by omega) (by show (0 : Int) ≤ ((x.text.toArray.size : Nat) : Int); rw [List.size_toArray, HXT.out]; omega), ← et1.out, show ((0 : Int).toNat) = 0 from rfl, dk_take]
        have hs2 : ∀ w, (Instr.slice 9 (.string ⟨y.toArray⟩) (some (.int .i64 (0 : Int))) none none).run Try.prog w = .ok (.string ⟨t2.toArray⟩) w := fun w => by
          rw [run_slice_string_l w _ ⟨y.toArray⟩ Try.underlying9 .i64 (0 : Int) (by omega) (by show (0 : Int) ≤ ((y.toArray.size : Nat) : Int); rw [List.size_toArray, HY.out]; omega), ← et2.out, show ((0 : Int).toNat) = 0 from rfl, ← extract_eq]
          rfl
        obtain ⟨q, eq⟩ : ∃ q, Hid (t1 ++ t2 = q) := ⟨_, Lib.hid rfl⟩
        have hcat : (⟨t1.toArray⟩ : ByteArray) ++ ⟨t2.toArray⟩ = ⟨q.toArray⟩ := by rw [← eq.out]; exact dk_cat _ _
        have hlen : (9223372036854775807 < t1.length + t2.length) = False := eq_false (by rw [← et1.out, ← et2.out, List.length_take, List.length_drop, HXT.out, HY.out]; omega)
        have HQ := Lib.hid (show q.length = 64 by rw [← eq.out, ← et1.out, ← et2.out, List.length_append, List.length_take, List.length_drop, HXT.out, HY.out]; omega)
        have HTT := Lib.hid (show redoR picks (k + 1) (s'.set x.at_ q) (r.l.drop (k + 1)) = redoR picks 0 r.s r.l by rw [HT.out, hp.out, hy.out, et1.out, et2.out, eq.out])
        have S8 : w4.drew.cell? ⟨g, 0, none⟩ = some (.slice (some ⟨sa, 0, none⟩) L ca) ∧ w4.drew.cell? ⟨bx, 0, none⟩ = some (.int .i64 (x.at_ : Nat)) ∧ w4.drew.cell? ⟨bx, 1, none⟩ = some (.string ⟨x.text.toArray⟩) ∧ w4.drew.cell? ⟨sa, x.at_, none⟩ = some (.string ⟨y.toArray⟩) := ⟨c0, HX.out.cell 0, HX.out.cell 1, hsc⟩
        have hsc' : w4.drew.cell? ⟨sa, x.at_, none⟩ = some (.string ⟨y.toArray⟩) := hsc
        have hsf : w4.drew.frozen? ⟨sa, x.at_, none⟩ = false := hsX.frozen x.at_
        have EA := Lib.hid ea
        clear c0 hL hsB hsX hsc ea
        refine start_ (n := 23) (S := fun w' => w'.cell? ⟨g, 0, none⟩ = some (.slice (some ⟨sa, 0, none⟩) L ca) ∧ w'.cell? ⟨bx, 0, none⟩ = some (.int .i64 (x.at_ : Nat)) ∧ w'.cell? ⟨bx, 1, none⟩ = some (.string ⟨x.text.toArray⟩) ∧ w'.cell? ⟨sa, x.at_, none⟩ = some (.string ⟨y.toArray⟩)) (ds := [22]) #[false, false, false, false, false, false, false, false, false, false, false, false, false, false, false, false, false, false, false, false, false, false, false] (by kernel_rfl) rfl rfl S8 (fun hHeld => ?_)
        refine with_tabW RC8.tab RC8.bits (fun HT_ HW_ => ?_)
        refine pure_ (i := 0) (N := some 35) (v := ?_) (a' := ?_) #[true, false, false, false, false, false, false, false, false, false, false, false, false, false, false, false, false, false, false, false, false, false, false] rfl rfl (any_of HT_.out (by kernel_rfl)) (fun _ _ _ h => h) (Or.inl ⟨by rfl, ?_⟩) ?_ ?_
        rotate_left
        · intro w'
          go_simp
          try with_reducible rfl
        rotate_left
        · simp only [Act.put, List.setIfInBounds_toArray, List.set_cons_zero, List.set_cons_succ]
          rfl
        refine pure_ (i := 1) (N := some 36) (v := ?_) (a' := ?_) #[true, true, false, false, false, false, false, false, false, false, false, false, false, false, false, false, false, false, false, false, false, false, false] rfl rfl (any_of HT_.out (by kernel_rfl)) (fun _ _ _ h => h) (Or.inl ⟨by rfl, ?_⟩) ?_ ?_
        rotate_left
        · intro w'
          go_simp
          try with_reducible rfl
        rotate_left
        · simp only [Act.put, List.setIfInBounds_toArray, List.set_cons_zero, List.set_cons_succ]
          rfl
        refine pure_ (i := 2) (N := some 37) (v := ?_) (a' := ?_) #[true, true, true, false, false, false, false, false, false, false, false, false, false, false, false, false, false, false, false, false, false, false, false] rfl rfl (any_of HT_.out (by kernel_rfl)) (fun _ _ _ h => h) (Or.inl ⟨by rfl, ?_⟩) ?_ ?_
        rotate_left
        · intro w'
          go_simp
          try with_reducible rfl
        rotate_left
        · simp only [Act.put, List.setIfInBounds_toArray, List.set_cons_zero, List.set_cons_succ]
          rfl
        refine pure_ (i := 4) (N := some 39) (v := ?_) (a' := ?_) #[true, true, true, false, true, false, false, false, false, false, false, false, false, false, false, false, false, false, false, false, false, false, false] rfl rfl (any_of HT_.out (by kernel_rfl)) (fun _ _ _ h => h) (Or.inl ⟨by rfl, ?_⟩) ?_ ?_
        rotate_left
        · intro w'
          go_simp
          try with_reducible rfl
        rotate_left
        · simp only [Act.put, List.setIfInBounds_toArray, List.set_cons_zero, List.set_cons_succ]
          rfl
        refine pure_ (i := 6) (N := some 41) (v := ?_) (a' := ?_) #[true, true, true, false, true, false, true, false, false, false, false, false, false, false, false, false, false, false, false, false, false, false, false] rfl rfl (any_of HT_.out (by kernel_rfl)) (fun _ _ _ h => h) (Or.inl ⟨by rfl, ?_⟩) ?_ ?_
        rotate_left
        · intro w'
          go_simp
          try with_reducible rfl
        rotate_left
        · simp only [Act.put, List.setIfInBounds_toArray, List.set_cons_zero, List.set_cons_succ]
          rfl
        refine pure_ (i := 8) (N := some 43) (v := ?_) (a' := ?_) #[true, true, true, false, true, false, true, false, true, false, false, false, false, false, false, false, false, false, false, false, false, false, false] rfl rfl (any_of HT_.out (by kernel_rfl)) (fun _ _ _ h => h) (Or.inl ⟨by rfl, ?_⟩) ?_ ?_
        rotate_left
        · intro w'
          go_simp
          try with_reducible rfl
        rotate_left
        · simp only [Act.put, List.setIfInBounds_toArray, List.set_cons_zero, List.set_cons_succ]
          rfl
        refine pure_ (i := 10) (N := some 45) (v := ?_) (a' := ?_) #[true, true, true, false, true, false, true, false, true, false, true, false, false, false, false, false, false, false, false, false, false, false, false] rfl rfl (any_of HT_.out (by kernel_rfl)) (fun _ _ _ h => h) (Or.inl ⟨by rfl, ?_⟩) ?_ ?_
        rotate_left
        · intro w'
          go_simp
          try with_reducible rfl
        rotate_left
        · simp only [Act.put, List.setIfInBounds_toArray, List.set_cons_zero, List.set_cons_succ]
          rfl
        refine pure_ (i := 11) (N := some 46) (v := ?_) (a' := ?_) #[true, true, true, false, true, false, true, false, true, false, true, true, false, false, false, false, false, false, false, false, false, false, false] rfl rfl (any_of HT_.out (by kernel_rfl)) (fun _ _ _ h => h) (Or.inl ⟨by rfl, ?_⟩) ?_ ?_
        rotate_left
        · intro w'
          go_simp
          try with_reducible rfl
        rotate_left
        · simp only [Act.put, List.setIfInBounds_toArray, List.set_cons_zero, List.set_cons_succ]
          rfl
        refine pure_ (i := 12) (N := some 47) (v := ?_) (a' := ?_) #[true, true, true, false, true, false, true, false, true, false, true, true, true, false, false, false, false, false, false, false, false, false, false] rfl rfl (any_of HT_.out (by kernel_rfl)) (fun _ _ _ h => h) (Or.inl ⟨by rfl, ?_⟩) ?_ ?_
        rotate_left
        · intro w'
          go_simp
          try with_reducible rfl
        rotate_left
        · simp only [Act.put, List.setIfInBounds_toArray, List.set_cons_zero, List.set_cons_succ]
          rfl
        refine pure_ (i := 14) (N := some 49) (v := ?_) (a' := ?_) #[true, true, true, false, true, false, true, false, true, false, true, true, true, false, true, false, false, false, false, false, false, false, false] rfl rfl (any_of HT_.out (by kernel_rfl)) (fun _ _ _ h => h) (Or.inl ⟨by rfl, ?_⟩) ?_ ?_
        rotate_left
        · intro w'
          go_simp
          try with_reducible rfl
        rotate_left
        · simp only [Act.put, List.setIfInBounds_toArray, List.set_cons_zero, List.set_cons_succ]
          rfl
        refine pure_ (i := 18) (N := some 53) (v := ?_) (a' := ?_) #[true, true, true, false, true, false, true, false, true, false, true, true, true, false, true, false, false, false, true, false, false, false, false] rfl rfl (any_of HT_.out (by kernel_rfl)) (fun _ _ _ h => h) (Or.inl ⟨by rfl, ?_⟩) ?_ ?_
        rotate_left
        · intro w'
          go_simp
          try with_reducible rfl
        rotate_left
        · simp only [Act.put, List.setIfInBounds_toArray, List.set_cons_zero, List.set_cons_succ]
          rfl
        refine take_ (i := 3) (N := some 38) (v := ?_) (a' := ?_) #[true, true, true, true, true, false, true, false, true, false, true, true, true, false, true, false, false, false, true, false, false, false, false] rfl rfl (take_ofW HT_.out HW_.out (by kernel_rfl)) (fun _ _ _ h => h) (Or.inl ⟨by rfl, ?_⟩) hHeld ?_ ?_
        rotate_left
        · rintro w' ⟨s0, s1, s2, s3⟩
          go_simp
          try with_reducible rfl
        rotate_left
        · simp only [Act.put, List.setIfInBounds_toArray, List.set_cons_zero, List.set_cons_succ]
          rfl
        refine take_ (i := 5) (N := some 40) (v := ?_) (a' := ?_) #[true, true, true, true, true, true, true, false, true, false, true, true, true, false, true, false, false, false, true, false, false, false, false] rfl rfl (take_ofW HT_.out HW_.out (by kernel_rfl)) (fun _ _ _ h => h) (Or.inl ⟨by rfl, ?_⟩) hHeld ?_ ?_
        rotate_left
        · rintro w' ⟨s0, s1, s2, s3⟩
          go_simp
          try with_reducible rfl
        rotate_left
        · simp only [Act.put, List.setIfInBounds_toArray, List.set_cons_zero, List.set_cons_succ]
          rfl
        refine take_ (i := 7) (N := some 42) (v := ?_) (a' := ?_) #[true, true, true, true, true, true, true, true, true, false, true, true, true, false, true, false, false, false, true, false, false, false, false] rfl rfl (take_ofW HT_.out HW_.out (by kernel_rfl)) (fun _ _ _ h => h) (Or.inl ⟨by rfl, ?_⟩) hHeld ?_ ?_
        rotate_left
        · rintro w' ⟨s0, s1, s2, s3⟩
          go_simp
          try with_reducible rfl
        rotate_left
        · simp only [Act.put, List.setIfInBounds_toArray, List.set_cons_zero, List.set_cons_succ]
          rfl
        refine pure_ (i := 9) (N := some 44) (v := ?_) (a' := ?_) #[true, true, true, true, true, true, true, true, true, true, true, true, true, false, true, false, false, false, true, false, false, false, false] rfl rfl (any_of HT_.out (by kernel_rfl)) (fun _ _ _ h => h) (Or.inl ⟨by rfl, ?_⟩) ?_ ?_
        rotate_left
        · intro w'
          go_simp
          try with_reducible rfl
        rotate_left
        · simp only [Act.put, List.setIfInBounds_toArray, List.set_cons_zero, List.set_cons_succ]
          rfl
        refine take_ (i := 13) (N := some 48) (v := ?_) (a' := ?_) #[true, true, true, true, true, true, true, true, true, true, true, true, true, true, true, false, false, false, true, false, false, false, false] rfl rfl (take_ofW HT_.out HW_.out (by kernel_rfl)) (fun _ _ _ h => h) (Or.inl ⟨by rfl, ?_⟩) hHeld ?_ ?_
        rotate_left
        · rintro w' ⟨s0, s1, s2, s3⟩
          go_simp
          try with_reducible rfl
        rotate_left
        · simp only [Act.put, List.setIfInBounds_toArray, List.set_cons_zero, List.set_cons_succ]
          rfl
        refine take_ (i := 15) (N := some 50) (v := ?_) (a' := ?_) #[true, true, true, true, true, true, true, true, true, true, true, true, true, true, true, true, false, false, true, false, false, false, false] rfl rfl (take_ofW HT_.out HW_.out (by kernel_rfl)) (fun _ _ _ h => h) (Or.inl ⟨by rfl, ?_⟩) hHeld ?_ ?_
        rotate_left
        · rintro w' ⟨s0, s1, s2, s3⟩
          go_simp
          try with_reducible rfl
        rotate_left
        · simp only [Act.put, List.setIfInBounds_toArray, List.set_cons_zero, List.set_cons_succ]
          rfl
        refine pure_ (i := 16) (N := some 51) (v := ?_) (a' := ?_) #[true, true, true, true, true, true, true, true, true, true, true, true, true, true, true, true, true, false, true, false, false, false, false] rfl rfl (any_of HT_.out (by kernel_rfl)) (fun _ _ _ h => h) (Or.inl ⟨by rfl, ?_⟩) ?_ ?_
        rotate_left
        · intro w'
          go_simp
          try with_reducible rfl
        rotate_left
        · simp only [Act.put, List.setIfInBounds_toArray, List.set_cons_zero, List.set_cons_succ]
          rfl
        refine take_ (i := 17) (N := some 52) (v := ?_) (a' := ?_) #[true, true, true, true, true, true, true, true, true, true, true, true, true, true, true, true, true, true, true, false, false, false, false] rfl rfl (take_ofW HT_.out HW_.out (by kernel_rfl)) (fun _ _ _ h => h) (Or.inl ⟨by rfl, ?_⟩) hHeld ?_ ?_
        rotate_left
        · rintro w' ⟨s0, s1, s2, s3⟩
          go_simp
          try with_reducible rfl
        rotate_left
        · simp only [Act.put, List.setIfInBounds_toArray, List.set_cons_zero, List.set_cons_succ]
          rfl
        refine pure_ (i := 19) (N := some 54) (v := ?_) (a' := ?_) #[true, true, true, true, true, true, true, true, true, true, true, true, true, true, true, true, true, true, true, true, false, false, false] rfl rfl (any_of HT_.out (by kernel_rfl)) (fun _ _ _ h => h) (Or.inl ⟨by rfl, ?_⟩) ?_ ?_
        rotate_left
        · intro w'
          go_simp
          try with_reducible rfl
        rotate_left
        · simp only [Act.put, List.setIfInBounds_toArray, List.set_cons_zero, List.set_cons_succ]
          rfl
        refine pure_ (i := 20) (N := some 55) (v := ?_) (a' := ?_) #[true, true, true, true, true, true, true, true, true, true, true, true, true, true, true, true, true, true, true, true, true, false, false] rfl rfl (any_of HT_.out (by kernel_rfl)) (fun _ _ _ h => h) (Or.inl ⟨by rfl, ?_⟩) ?_ ?_
        rotate_left
        · intro w'
          go_simp
          try with_reducible rfl
        rotate_left
        · simp only [Act.put, List.setIfInBounds_toArray, List.set_cons_zero, List.set_cons_succ]
          rfl
        refine pure_ (i := 21) (N := some 56) (v := ?_) (a' := ?_) #[true, true, true, true, true, true, true, true, true, true, true, true, true, true, true, true, true, true, true, true, true, true, false] rfl rfl (any_of HT_.out (by kernel_rfl)) (fun _ _ _ h => h) (Or.inl ⟨by rfl, ?_⟩) ?_ ?_
        rotate_left
        · intro w'
          go_simp
          try with_reducible rfl
        rotate_left
        · simp only [Act.put, List.setIfInBounds_toArray, List.set_cons_zero, List.set_cons_succ]
          rfl
        refine last_ (i := 22) (N := none) #[true, true, true, true, true, true, true, true, true, true, true, true, true, true, true, true, true, true, true, true, true, true, true] rfl rfl (one_of HT_.out (by kernel_rfl)) (by decide) (fun K hK => ?_)
        refine skip_ (w1 := ?_) (by rfl) rfl ?_ ?_
        rotate_left
        · go_simp
          try rfl
        refine hK.out _ _ ?_
        clear hK K
        refine done_ (done_of HT_.out (by kernel_rfl)) ?_
        clear HT_ HW_
        go_wp2_with fail
        go_roundg (N - (k + 1) + 1)
        case measure => omega
        case rel =>
          obtain ⟨hq1, hq2⟩ := HR.out.drew.setS EA.out x.at_ HXA.out q HQ.out
          exact ⟨k + 1, _, rfl, by first | rfl | (congr 1; omega) | (congr 1; have := HNX.out; have := HKN.out; unfold wrap64; omega), HKN.out, HTT, Lib.hid hq1, Lib.hid (HF.out.drew.trans hq2), Lib.hid (HP.out.below (Below.trans (Go.Proofs.YtbbmhcloigphjaaW.PrintWords.below_drew (Below.refl _ _)) hq2.b))⟩
    · have ek : k = N := by omega
      subst ek
      have f1 := HR.out.hg.frozen 1
      have f2 := HR.out.hg.frozen 2
      have f3 := HR.out.hg.frozen 3
      have g2 := HR.out.c2
      have g3 := HR.out.c3
      have hA := HA.out
      rw [List.drop_eq_nil_of_le (by rw [hN.out]; exact Nat.le_refl _)] at hA
      have HAA := Lib.hid (show s' = redoR picks 0 r.s r.l from hA)
      clear hA
      go_wp2_with fail
      go_ret
      have hq := ((HR.out.setNil).setLeft 0 (by decide)).setDown false
      have hG := ((HR.out.grG 1 (.slice none 0 0)).trans (HR.out.setNil.grG 2 (.int .i64 0))).trans ((HR.out.setNil.setLeft 0 (by decide)).grG 3 (.bool false))
      refine ⟨rfl, ⟨va, .slice none 0 0, ?_⟩, HF.out.trans hG⟩
      unfold Rk.crash
      rw [← HAA.out]
      exact hq
end
end Go.Proofs.Ytbbmhcloigphjaa

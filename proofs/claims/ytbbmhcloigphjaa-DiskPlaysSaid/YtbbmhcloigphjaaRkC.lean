/- The reference's disk: Read, Sync, Crash. -/
import Derived.Test.YtbbmhcloigphjaaRkW
namespace Go.Proofs.Ytbbmhcloigphjaa
open Go.RowKit Go.Proofs.YtbbmhcloigphjaaW.PrintWords Go.Proofs.YtbbmhcloigphjaaW.PrintLast
set_option linter.unusedSimpArgs false
set_option linter.unusedVariables false
def RS6.T : Bool × List (List Nat × List Nat) := (true, [([], []), ([0], [0]), ([1], [1]), ([2], [2]), ([], []), ([4], [4]), ([5], [5]), ([6], [6]), ([], []), ([7, 8], [7, 8]), ([9], [9]), ([10], [10]), ([], []), ([12], [12]), ([13], [13]), ([14], [14]), ([], []), ([15, 16], [15, 16]), ([17], [17]), ([18], [18]), ([3, 11, 0, 1, 2, 3, 4, 5, 6, 7, 8, 9, 10, 11, 12, 13, 14, 15, 16, 17, 18, 19], [3, 11]), ([20, 19, 0, 1, 2, 3, 4, 5, 6, 7, 8, 9, 10, 11, 12, 13, 14, 15, 16, 17, 18, 19], [19, 20])])
def RS6.B : List Nat := [0, 1, 3, 7, 0, 16, 48, 112, 0, 496, 1008, 2032, 0, 4096, 12288, 28672, 0, 126976, 258048, 520192, 1048575, 2097151]
theorem RS6.tab : rtab .any (opsOf Try.f22 6) = RS6.T := by kernel_rfl
theorem RS6.bits : waitsOk RS6.T.2 RS6.B = true := by kernel_rfl
section
variable {B : Nat} {w w' : World} {g : Nat} {va vl : Value} {r : Rk}
/-- a sector of the reference's. -/
theorem RkA.sec (h : RkA B w g va vl r) (i : Nat) (hi : i < r.s.length) : ∃ sa c cur, va = .slice (some ⟨sa, 0, none⟩) r.s.length c ∧ B ≤ sa ∧ Blk w sa 9 cur ∧ w.cell? ⟨sa, i, none⟩ = some (.string ⟨(r.s.getD i []).toArray⟩) := by
  rcases h.hs.2 with ⟨_, e⟩ | ⟨sa, cap, cur, e, hB, hc, hle, _, hsz, ht⟩
  · omega
  · refine ⟨sa, cap, cur, e, hB, hc, ?_⟩
    rw [(show Blk w sa _ cur from hc).cell i]
    have h1 := cstr_get r.s i hi
    rw [← ht, List.getElem?_take_of_lt (by omega)] at h1
    simpa using h1
theorem RkA.setS (h : RkA B w g va vl r) {sa n c : Nat} (e : va = .slice (some ⟨sa, 0, none⟩) n c) (i : Nat) (hi : i < r.s.length) (s : List UInt8) (hs : s.length = 64) :
    RkA B (w.setCell ⟨sa, i, none⟩ (.string ⟨s.toArray⟩)) g va vl { r with s := r.s.set i s } ∧ Gr B w (w.setCell ⟨sa, i, none⟩ (.string ⟨s.toArray⟩)) := by
  subst e
  have hlen : (r.s.set i s).length = r.s.length := List.length_set
  rcases h.hs.2 with ⟨e, _⟩ | ⟨sa', cap, cur, e, hB, hc, hle, hcap, hsz, ht⟩
  · injection e with e; cases e
  · injection e with e1 e2 e3
    injection e1 with e1
    injection e1 with e1
    subst e1 e2 e3
    have hX : Blk w sa 9 cur := hc
    refine ⟨⟨?_, ?_, ?_, h.bg, ⟨all_set _ h.ok.s i s hs, ?_, ?_, h.ok.f⟩⟩, Gr.set_ hX (.inr (.inl rfl)) hB i _⟩
    · have := h.hg.far (p := ⟨sa, i, none⟩) (h.hg.apart hX (by decide)) (.string ⟨s.toArray⟩)
      simpa [rkCells] using this
    · refine ⟨by rw [cstr_length, Nat.mul_one], .inr ⟨sa, c, cur.setIfInBounds i (.string ⟨s.toArray⟩), by rw [hlen], hB, hX.set_ i _, by rw [hlen]; exact hle, hcap, by simpa using hsz, ?_⟩⟩
      rw [hlen, Array.toList_setIfInBounds]
      have : cstr (r.s.set i s) = (cstr r.s).set i (.string ⟨s.toArray⟩) := by simp [cstr, List.map_set]
      rw [this, ← ht, List.take_set]
    · refine World.ownsRow.kept h.hl (row := some sa) (only_set (only_refl _ _) (.inl rfl) _) (.inr fun e => ?_)
      obtain ⟨cs, hk⟩ := owns_typed h.hl sa e
      exact absurd (hX.type hk).1 (by decide)
    · intro x hx
      have := h.ok.l x hx
      rw [hlen]; exact this
    · rw [hlen]; exact h.ok.n
/-- a wait of the reference's. -/
theorem RkA.wt (h : RkA B w g va vl r) (k : Nat) (hk : k < r.l.length) : ∃ b c, vl = .slice (some ⟨b, 0, none⟩) r.l.length c ∧ w.cell? ⟨b, k * 2, none⟩ = some (.int .i64 ((r.l[k]).at_ : Nat)) ∧ w.cell? ⟨b, k * 2 + 1, none⟩ = some (.string ⟨(r.l[k]).text.toArray⟩) := by
  rcases h.hl.2 with ⟨_, e⟩ | ⟨b, cap, cur, e, hB, hc, hle, _, hsz, ht⟩
  · omega
  · have hX : Blk w b 68 cur := hc
    obtain ⟨h1, h2⟩ := flatR_get r.l k hk
    rw [← ht, List.getElem?_take_of_lt (by omega)] at h1 h2
    refine ⟨b, cap, e, ?_, ?_⟩
    · rw [hX.cell (k * 2), Nat.mul_comm k 2]; simpa using h1
    · rw [hX.cell (k * 2 + 1), Nat.mul_comm k 2]; simpa using h2
/-! ### Read -/
def lastIn (i : Nat) (s : List UInt8) (l : List Rw) : List UInt8 := l.foldl (fun s x => if x.at_ = i then x.text else s) s
theorem lastIn_take (i : Nat) (s : List UInt8) (l : List Rw) (k : Nat) (hk : k < l.length) : lastIn i s (l.take (k + 1)) = if (l[k]).at_ = i then (l[k]).text else lastIn i s (l.take k) := by
  unfold lastIn
  rw [List.take_succ_eq_append_getElem hk, List.foldl_append]
  rfl
def Rk.read (r : Rk) (i : Int) : List UInt8 × Int := if r.there i ≠ 0 then ([], r.there i) else (lastIn i.toNat (r.s.getD i.toNat []) r.l, 0)
set_option maxHeartbeats 800000 in
theorem rread_any (h : RkA B w g va vl r) (i : Int) :
    Calls Try.prog 21 #[.pointer (some ⟨g, 0, none⟩), .int .i64 i] w fun e w' => e = .returned (.tuple #[.string ⟨(r.read i).1.toArray⟩, .int .i64 (r.read i).2]) ∧ Below w.heap.size w w' := by
  have H := Lib.hid h
  have c3 := h.c3
  have c4 := h.c4
  by_cases hd : r.down = true
  · have er : r.read i = ([], 150) := by simp [Rk.read, Rk.there, hd]
    rw [er]
    rw [hd] at c3
    clear hd er h c4
    go_enter Try.func21, Try.ntmps21
    go_wp2
    go_ret2
    exact ⟨rfl, Below.refl _ _⟩
  rw [show r.down = false by simpa using hd] at c3
  by_cases h0 : i < 0
  · have er : r.read i = ([], 1) := by simp [Rk.read, Rk.there, hd, h0]
    rw [er]
    clear hd er h c4
    go_enter Try.func21, Try.ntmps21
    go_wp2
    go_ret2
    exact ⟨rfl, Below.refl _ _⟩
  by_cases h1 : (r.s.length : Int) ≤ i
  · have er : r.read i = ([], 1) := by simp [Rk.read, Rk.there, hd, h1]
    rw [er]
    clear hd er h
    go_enter Try.func21, Try.ntmps21
    go_wp2
    go_ret2
    exact ⟨rfl, Below.refl _ _⟩
  obtain ⟨m, rfl⟩ : ∃ m : Nat, i = m := ⟨i.toNat, by omega⟩
  have er : r.read m = (lastIn m (r.s.getD m []) r.l, 0) := by simp [Rk.read, Rk.there, hd, h1]
  rw [er]
  have hm : m < r.s.length := by omega
  obtain ⟨sa, ca, cur, ea, _, _, hcm⟩ := h.sec m hm
  have c0 := h.c0
  have c1 := h.c1
  obtain ⟨A2, k2, ev⟩ := owns_form h.hl
  rw [ea] at c0
  rw [ev] at c1
  obtain ⟨s0, hs0⟩ : ∃ s0, Hid (r.s.getD m [] = s0) := ⟨_, Lib.hid rfl⟩
  rw [hs0.out] at hcm ⊢
  obtain ⟨N, hN⟩ : ∃ N, Hid (r.l.length = N) := ⟨_, Lib.hid rfl⟩
  rw [hN.out] at c1
  have EV := Lib.hid ev
  clear h hd er h0 h1 ea ev
  go_enter Try.func21, Try.ntmps21
  go_wp2_with fail
  go_loopg [6, 7] (N + 1) (fun kq v6 v7 wr => ∃ (k : Nat), kq = N - k + 1 ∧ v6 = .string ⟨(lastIn m s0 (r.l.take k)).toArray⟩ ∧ v7 = .int .i64 (k : Nat) ∧ k ≤ N ∧ wr = w)
  case atStart => exact ⟨0, rfl, rfl, rfl, Nat.zero_le _, rfl⟩
  case round =>
    obtain ⟨k, rfl, rfl, rfl, hk, rfl⟩ := hrel
    by_cases hkN : k < N
    · have hkl : k < r.l.length := by rw [hN.out]; exact hkN
      obtain ⟨b, c2, e2, hx1, hx2⟩ := H.out.wt k hkl
      have ee := EV.out
      rw [e2] at ee
      injection ee with ee1 ee2 ee3
      subst ee1
      have ht := lastIn_take m s0 r.l k hkl
      obtain ⟨x, hx⟩ : ∃ x, Hid (r.l[k] = x) := ⟨_, Lib.hid rfl⟩
      rw [hx.out] at hx1 hx2 ht
      obtain ⟨u, hu⟩ : ∃ u, Hid (lastIn m s0 (r.l.take k) = u) := ⟨_, Lib.hid rfl⟩
      rw [hu.out] at ht ⊢
      have HT := Lib.hid ht
      have HNX := Lib.hid (show (N : Int) ≤ 9223372036854775807 by have := owns_max H.out.hl; rw [hN.out] at this; omega)
      clear ht e2 ee2 ee3 hkl hx
      by_cases hxm : x.at_ = m
      · have hb : ((x.at_ : Int) == (m : Int)) = true := beq_iff_eq.mpr (by omega)
        rw [hxm] at hx1 hb
        have HTT := Lib.hid (HT.out.trans (if_pos hxm))
        clear hxm
        go_wp2_with fail
        go_roundg (N - (k + 1) + 1)
        case measure => omega
        case rel => exact ⟨k + 1, rfl, by rw [HTT.out], by first | rfl | (congr 1; omega) | (congr 1; have := HNX.out; unfold wrap64; omega), hkN, rfl⟩
      · have hb : ((x.at_ : Int) == (m : Int)) = false := beq_eq_false_iff_ne.mpr (by omega)
        have HTT := Lib.hid (HT.out.trans (if_neg hxm))
        clear hxm
        go_wp2_with fail
        go_roundg (N - (k + 1) + 1)
        case measure => omega
        case rel => exact ⟨k + 1, rfl, by rw [HTT.out], by first | rfl | (congr 1; omega) | (congr 1; have := HNX.out; unfold wrap64; omega), hkN, rfl⟩
    · have ek : k = N := by omega
      subst ek
      rw [List.take_of_length_le (by rw [hN.out]; exact Nat.le_refl _)]
      go_wp2_with fail
      go_ret2
      exact ⟨rfl, Below.refl _ _⟩
/-! ### Sync -/
def applyR (s : List (List UInt8)) (l : List Rw) : List (List UInt8) := l.foldl (fun s x => s.set x.at_ x.text) s
theorem applyR_take (s : List (List UInt8)) (l : List Rw) (k : Nat) (hk : k < l.length) : applyR s (l.take (k + 1)) = (applyR s (l.take k)).set (l[k]).at_ (l[k]).text := by
  unfold applyR
  rw [List.take_succ_eq_append_getElem hk, List.foldl_append]
  rfl
def Rk.sync (r : Rk) : Int × Rk := if r.down then (150, r) else if r.burnB then (150, r.burn) else (0, { r.burn with s := applyR r.burn.s r.burn.l, l := [] })
set_option maxHeartbeats 1600000 in
theorem rsync_any (h : RkA B w g va vl r) :
    Calls Try.prog 22 #[.pointer (some ⟨g, 0, none⟩)] w fun e w' => e = .returned (.int .i64 r.sync.1) ∧ RkAt B w' g r.sync.2 ∧ Gr B w w' := by
  have H := Lib.hid h
  have c3 := h.c3
  by_cases hd : r.down = true
  · have er : r.sync = (150, r) := by simp [Rk.sync, hd]
    rw [er]
    rw [hd] at c3
    clear hd er h
    go_enter Try.func22, Try.ntmps22
    go_wp2
    go_ret
    exact ⟨rfl, ⟨va, vl, H.out⟩, Gr.refl _ _⟩
  rw [show r.down = false by simpa using hd] at c3
  by_cases hb : r.burnB = true
  · have er : r.sync = (150, r.burn) := by simp [Rk.sync, hd, hb]
    rw [er]
    clear hd er h
    go_enter Try.func22, Try.ntmps22
    go_wp2_with (first | (go_at_call 30; refine (burns_any H.out).mono ?_; rintro e w1 ⟨rfl, h2, h3⟩; rw [hb]))
    go_ret
    exact ⟨rfl, ⟨va, vl, h2⟩, h3⟩
  · have er : r.sync = (0, { r.burn with s := applyR r.burn.s r.burn.l, l := [] }) := by simp [Rk.sync, hd, hb]
    rw [er]
    have hb' : r.burnB = false := by simpa using hb
    obtain ⟨q, hq⟩ : ∃ q, Hid (r.burn = q) := ⟨_, Lib.hid rfl⟩
    clear hd er h hb
    go_enter Try.func22, Try.ntmps22
    go_upto_region 3 with (first | (go_at_call 30; refine (burns_any H.out).mono ?_; rintro e w1 ⟨rfl, h2, h3⟩; rw [hb']))
    rw [hq.out] at h2
    have H1 := Lib.hid h2
    have F1 := Lib.hid h3
    obtain ⟨N, hN⟩ : ∃ N, Hid (q.l.length = N) := ⟨_, Lib.hid rfl⟩
    have HNX := Lib.hid (show (N : Int) ≤ 9223372036854775807 by have := owns_max H1.out.hl; rw [hN.out] at this; omega)
    obtain ⟨A2, k2, ev⟩ := owns_form H1.out.hl
    rw [hN.out] at ev
    have EV := Lib.hid ev
    clear h2 h3 c3 H hb' ev
    go_wp2_with fail
    go_loopg [3] (N + 1) (fun kq v wr => ∃ (k : Nat) (s' : List (List UInt8)), kq = N - k + 1 ∧ v = .int .i64 (k : Nat) ∧ k ≤ N ∧ Hid (applyR q.s (q.l.take k) = s') ∧ Hid (RkA B wr g va vl { q with s := s' }) ∧ Hid (Gr B w wr))
    case atStart => exact ⟨0, q.s, rfl, rfl, Nat.zero_le _, Lib.hid rfl, H1, F1⟩
    case round =>
      clear H1 F1
      obtain ⟨k, s', rfl, rfl, hk, HA, HR, HF⟩ := hrel
      have c1 := HR.out.c1
      rw [EV.out] at c1
      by_cases hkN : k < N
      · have hkl : k < q.l.length := by rw [hN.out]; exact hkN
        obtain ⟨b, c2, e2, hx1, hx2⟩ := HR.out.wt k hkl
        have ee := EV.out
        rw [e2] at ee
        injection ee with ee1 ee2 ee3
        subst ee1
        have ht := applyR_take q.s q.l k hkl
        have hxo := HR.out.ok.l _ (List.getElem_mem hkl)
        obtain ⟨x, hx⟩ : ∃ x, Hid (q.l[k] = x) := ⟨_, Lib.hid rfl⟩
        rw [show (({ q with s := s' } : Rk).l[k]'hkl) = x from hx.out] at hx1 hx2 hxo
        rw [hx.out, HA.out] at ht
        have HT := Lib.hid ht
        obtain ⟨hxa, hxt⟩ := hxo
        obtain ⟨sa, ca, cur, ea, hsB, hsX, hsc⟩ := HR.out.sec x.at_ hxa
        have c0 := HR.out.c0
        rw [ea] at c0
        obtain ⟨L, hL⟩ : ∃ L, s'.length = L := ⟨_, rfl⟩
        rw [show ({ q with s := s' } : Rk).s.length = L from hL] at c0
        have hxL : x.at_ < L := by rw [← hL]; exact hxa
        have S6 : wr.drew.cell? ⟨g, 0, none⟩ = some (.slice (some ⟨sa, 0, none⟩) L ca) ∧ wr.drew.cell? ⟨g, 1, none⟩ = some (.slice (some ⟨b, 0, none⟩) N k2) ∧ wr.drew.cell? ⟨b, k * 2, none⟩ = some (.int .i64 (x.at_ : Nat)) ∧ wr.drew.cell? ⟨b, k * 2 + 1, none⟩ = some (.string ⟨x.text.toArray⟩) := ⟨c0, c1, hx1, hx2⟩
        have hsc' : wr.drew.cell? ⟨sa, x.at_, none⟩ = some (.string ⟨(s'.getD x.at_ []).toArray⟩) := hsc
        have hsf : wr.drew.frozen? ⟨sa, x.at_, none⟩ = false := hsX.frozen x.at_
        have HXA := Lib.hid (show x.at_ < s'.length from hxa)
        have HXT := Lib.hid hxt
        have EA := Lib.hid ea
        have HKN := Lib.hid hkN
        clear ht e2 ee2 ee3 hkl hx hx1 hx2 hxa hxt hL hsB hsX hsc ea
        go_upto_region 6 with fail
        clear c0 c1
        refine start_ (n := 22) (S := fun w' => w'.cell? ⟨g, 0, none⟩ = some (.slice (some ⟨sa, 0, none⟩) L ca) ∧ w'.cell? ⟨g, 1, none⟩ = some (.slice (some ⟨b, 0, none⟩) N k2) ∧ w'.cell? ⟨b, k * 2, none⟩ = some (.int .i64 (x.at_ : Nat)) ∧ w'.cell? ⟨b, k * 2 + 1, none⟩ = some (.string ⟨x.text.toArray⟩)) (ds := [21]) #[false, false, false, false, false, false, false, false, false, false, false, false, false, false, false, false, false, false, false, false, false, false] (by kernel_rfl) rfl rfl S6 (fun hHeld => ?_)
        refine with_tabW RS6.tab RS6.bits (fun HT_ HW_ => ?_)
        refine pure_ (i := 0) (N := some 21) (v := ?_) (a' := ?_) #[true, false, false, false, false, false, false, false, false, false, false, false, false, false, false, false, false, false, false, false, false, false] rfl rfl (any_of HT_.out (by kernel_rfl)) (fun _ _ _ h => h) (Or.inl ⟨by rfl, ?_⟩) ?_ ?_
        rotate_left
        · intro w'
          go_simp
          try with_reducible rfl
        rotate_left
        · simp only [Act.put, List.setIfInBounds_toArray, List.set_cons_zero, List.set_cons_succ]
          rfl
        refine pure_ (i := 1) (N := some 22) (v := ?_) (a' := ?_) #[true, true, false, false, false, false, false, false, false, false, false, false, false, false, false, false, false, false, false, false, false, false] rfl rfl (any_of HT_.out (by kernel_rfl)) (fun _ _ _ h => h) (Or.inl ⟨by rfl, ?_⟩) ?_ ?_
        rotate_left
        · intro w'
          go_simp
          try with_reducible rfl
        rotate_left
        · simp only [Act.put, List.setIfInBounds_toArray, List.set_cons_zero, List.set_cons_succ]
          rfl
        refine pure_ (i := 2) (N := some 23) (v := ?_) (a' := ?_) #[true, true, true, false, false, false, false, false, false, false, false, false, false, false, false, false, false, false, false, false, false, false] rfl rfl (any_of HT_.out (by kernel_rfl)) (fun _ _ _ h => h) (Or.inl ⟨by rfl, ?_⟩) ?_ ?_
        rotate_left
        · intro w'
          go_simp
          try with_reducible rfl
        rotate_left
        · simp only [Act.put, List.setIfInBounds_toArray, List.set_cons_zero, List.set_cons_succ]
          rfl
        refine pure_ (i := 4) (N := some 25) (v := ?_) (a' := ?_) #[true, true, true, false, true, false, false, false, false, false, false, false, false, false, false, false, false, false, false, false, false, false] rfl rfl (any_of HT_.out (by kernel_rfl)) (fun _ _ _ h => h) (Or.inl ⟨by rfl, ?_⟩) ?_ ?_
        rotate_left
        · intro w'
          go_simp
          try with_reducible rfl
        rotate_left
        · simp only [Act.put, List.setIfInBounds_toArray, List.set_cons_zero, List.set_cons_succ]
          rfl
        refine pure_ (i := 5) (N := some 26) (v := ?_) (a' := ?_) #[true, true, true, false, true, true, false, false, false, false, false, false, false, false, false, false, false, false, false, false, false, false] rfl rfl (any_of HT_.out (by kernel_rfl)) (fun _ _ _ h => h) (Or.inl ⟨by rfl, ?_⟩) ?_ ?_
        rotate_left
        · intro w'
          go_simp
          try with_reducible rfl
        rotate_left
        · simp only [Act.put, List.setIfInBounds_toArray, List.set_cons_zero, List.set_cons_succ]
          rfl
        refine pure_ (i := 6) (N := some 27) (v := ?_) (a' := ?_) #[true, true, true, false, true, true, true, false, false, false, false, false, false, false, false, false, false, false, false, false, false, false] rfl rfl (any_of HT_.out (by kernel_rfl)) (fun _ _ _ h => h) (Or.inl ⟨by rfl, ?_⟩) ?_ ?_
        rotate_left
        · intro w'
          go_simp
          try with_reducible rfl
        rotate_left
        · simp only [Act.put, List.setIfInBounds_toArray, List.set_cons_zero, List.set_cons_succ]
          rfl
        refine pure_ (i := 8) (N := some 29) (v := ?_) (a' := ?_) #[true, true, true, false, true, true, true, false, true, false, false, false, false, false, false, false, false, false, false, false, false, false] rfl rfl (any_of HT_.out (by kernel_rfl)) (fun _ _ _ h => h) (Or.inl ⟨by rfl, ?_⟩) ?_ ?_
        rotate_left
        · intro w'
          go_simp
          try with_reducible rfl
        rotate_left
        · simp only [Act.put, List.setIfInBounds_toArray, List.set_cons_zero, List.set_cons_succ]
          rfl
        refine pure_ (i := 12) (N := some 33) (v := ?_) (a' := ?_) #[true, true, true, false, true, true, true, false, true, false, false, false, true, false, false, false, false, false, false, false, false, false] rfl rfl (any_of HT_.out (by kernel_rfl)) (fun _ _ _ h => h) (Or.inl ⟨by rfl, ?_⟩) ?_ ?_
        rotate_left
        · intro w'
          go_simp
          try with_reducible rfl
        rotate_left
        · simp only [Act.put, List.setIfInBounds_toArray, List.set_cons_zero, List.set_cons_succ]
          rfl
        refine pure_ (i := 13) (N := some 34) (v := ?_) (a' := ?_) #[true, true, true, false, true, true, true, false, true, false, false, false, true, true, false, false, false, false, false, false, false, false] rfl rfl (any_of HT_.out (by kernel_rfl)) (fun _ _ _ h => h) (Or.inl ⟨by rfl, ?_⟩) ?_ ?_
        rotate_left
        · intro w'
          go_simp
          try with_reducible rfl
        rotate_left
        · simp only [Act.put, List.setIfInBounds_toArray, List.set_cons_zero, List.set_cons_succ]
          rfl
        refine pure_ (i := 14) (N := some 35) (v := ?_) (a' := ?_) #[true, true, true, false, true, true, true, false, true, false, false, false, true, true, true, false, false, false, false, false, false, false] rfl rfl (any_of HT_.out (by kernel_rfl)) (fun _ _ _ h => h) (Or.inl ⟨by rfl, ?_⟩) ?_ ?_
        rotate_left
        · intro w'
          go_simp
          try with_reducible rfl
        rotate_left
        · simp only [Act.put, List.setIfInBounds_toArray, List.set_cons_zero, List.set_cons_succ]
          rfl
        refine pure_ (i := 16) (N := some 37) (v := ?_) (a' := ?_) #[true, true, true, false, true, true, true, false, true, false, false, false, true, true, true, false, true, false, false, false, false, false] rfl rfl (any_of HT_.out (by kernel_rfl)) (fun _ _ _ h => h) (Or.inl ⟨by rfl, ?_⟩) ?_ ?_
        rotate_left
        · intro w'
          go_simp
          try with_reducible rfl
        rotate_left
        · simp only [Act.put, List.setIfInBounds_toArray, List.set_cons_zero, List.set_cons_succ]
          rfl
        refine take_ (i := 3) (N := some 24) (v := ?_) (a' := ?_) #[true, true, true, true, true, true, true, false, true, false, false, false, true, true, true, false, true, false, false, false, false, false] rfl rfl (take_ofW HT_.out HW_.out (by kernel_rfl)) (fun _ _ _ h => h) (Or.inl ⟨by rfl, ?_⟩) hHeld ?_ ?_
        rotate_left
        · rintro w' ⟨s0, s1, s2, s3⟩
          go_simp
          try with_reducible rfl
        rotate_left
        · simp only [Act.put, List.setIfInBounds_toArray, List.set_cons_zero, List.set_cons_succ]
          rfl
        refine take_ (i := 7) (N := some 28) (v := ?_) (a' := ?_) #[true, true, true, true, true, true, true, true, true, false, false, false, true, true, true, false, true, false, false, false, false, false] rfl rfl (take_ofW HT_.out HW_.out (by kernel_rfl)) (fun _ _ _ h => h) (Or.inl ⟨by rfl, ?_⟩) hHeld ?_ ?_
        rotate_left
        · rintro w' ⟨s0, s1, s2, s3⟩
          go_simp
          try with_reducible rfl
        rotate_left
        · simp only [Act.put, List.setIfInBounds_toArray, List.set_cons_zero, List.set_cons_succ]
          rfl
        refine pure_ (i := 9) (N := some 30) (v := ?_) (a' := ?_) #[true, true, true, true, true, true, true, true, true, true, false, false, true, true, true, false, true, false, false, false, false, false] rfl rfl (any_of HT_.out (by kernel_rfl)) (fun _ _ _ h => h) (Or.inl ⟨by rfl, ?_⟩) ?_ ?_
        rotate_left
        · intro w'
          go_simp
          try with_reducible rfl
        rotate_left
        · simp only [Act.put, List.setIfInBounds_toArray, List.set_cons_zero, List.set_cons_succ]
          rfl
        refine pure_ (i := 10) (N := some 31) (v := ?_) (a' := ?_) #[true, true, true, true, true, true, true, true, true, true, true, false, true, true, true, false, true, false, false, false, false, false] rfl rfl (any_of HT_.out (by kernel_rfl)) (fun _ _ _ h => h) (Or.inl ⟨by rfl, ?_⟩) ?_ ?_
        rotate_left
        · intro w'
          go_simp
          try with_reducible rfl
        rotate_left
        · simp only [Act.put, List.setIfInBounds_toArray, List.set_cons_zero, List.set_cons_succ]
          rfl
        refine take_ (i := 11) (N := some 32) (v := ?_) (a' := ?_) #[true, true, true, true, true, true, true, true, true, true, true, true, true, true, true, false, true, false, false, false, false, false] rfl rfl (take_ofW HT_.out HW_.out (by kernel_rfl)) (fun _ _ _ h => h) (Or.inl ⟨by rfl, ?_⟩) hHeld ?_ ?_
        rotate_left
        · rintro w' ⟨s0, s1, s2, s3⟩
          go_simp
          try with_reducible rfl
        rotate_left
        · simp only [Act.put, List.setIfInBounds_toArray, List.set_cons_zero, List.set_cons_succ]
          rfl
        refine take_ (i := 15) (N := some 36) (v := ?_) (a' := ?_) #[true, true, true, true, true, true, true, true, true, true, true, true, true, true, true, true, true, false, false, false, false, false] rfl rfl (take_ofW HT_.out HW_.out (by kernel_rfl)) (fun _ _ _ h => h) (Or.inl ⟨by rfl, ?_⟩) hHeld ?_ ?_
        rotate_left
        · rintro w' ⟨s0, s1, s2, s3⟩
          go_simp
          try with_reducible rfl
        rotate_left
        · simp only [Act.put, List.setIfInBounds_toArray, List.set_cons_zero, List.set_cons_succ]
          rfl
        refine pure_ (i := 17) (N := some 38) (v := ?_) (a' := ?_) #[true, true, true, true, true, true, true, true, true, true, true, true, true, true, true, true, true, true, false, false, false, false] rfl rfl (any_of HT_.out (by kernel_rfl)) (fun _ _ _ h => h) (Or.inl ⟨by rfl, ?_⟩) ?_ ?_
        rotate_left
        · intro w'
          go_simp
          try with_reducible rfl
        rotate_left
        · simp only [Act.put, List.setIfInBounds_toArray, List.set_cons_zero, List.set_cons_succ]
          rfl
        refine pure_ (i := 18) (N := some 39) (v := ?_) (a' := ?_) #[true, true, true, true, true, true, true, true, true, true, true, true, true, true, true, true, true, true, true, false, false, false] rfl rfl (any_of HT_.out (by kernel_rfl)) (fun _ _ _ h => h) (Or.inl ⟨by rfl, ?_⟩) ?_ ?_
        rotate_left
        · intro w'
          go_simp
          try with_reducible rfl
        rotate_left
        · simp only [Act.put, List.setIfInBounds_toArray, List.set_cons_zero, List.set_cons_succ]
          rfl
        refine take_ (i := 19) (N := some 40) (v := ?_) (a' := ?_) #[true, true, true, true, true, true, true, true, true, true, true, true, true, true, true, true, true, true, true, true, false, false] rfl rfl (take_ofW HT_.out HW_.out (by kernel_rfl)) (fun _ _ _ h => h) (Or.inl ⟨by rfl, ?_⟩) hHeld ?_ ?_
        rotate_left
        · rintro w' ⟨s0, s1, s2, s3⟩
          go_simp
          try with_reducible rfl
        rotate_left
        · simp only [Act.put, List.setIfInBounds_toArray, List.set_cons_zero, List.set_cons_succ]
          rfl
        refine pure_ (i := 20) (N := some 41) (v := ?_) (a' := ?_) #[true, true, true, true, true, true, true, true, true, true, true, true, true, true, true, true, true, true, true, true, true, false] rfl rfl (any_of HT_.out (by kernel_rfl)) (fun _ _ _ h => h) (Or.inl ⟨by rfl, ?_⟩) ?_ ?_
        rotate_left
        · intro w'
          go_simp
          try with_reducible rfl
        rotate_left
        · simp only [Act.put, List.setIfInBounds_toArray, List.set_cons_zero, List.set_cons_succ]
          rfl
        refine last_ (i := 21) (N := none) #[true, true, true, true, true, true, true, true, true, true, true, true, true, true, true, true, true, true, true, true, true, true] rfl rfl (one_of HT_.out (by kernel_rfl)) (by decide) (fun K hK => ?_)
        refine skip_ (w1 := ?_) (by rfl) rfl ?_ ?_
        rotate_left
        · go_simp
          try rfl
        refine hK.out _ _ ?_
        clear hK K
        refine done_ (done_of HT_.out (by kernel_rfl)) ?_
        clear HT_ HW_
        go_wp2_with fail
        go_roundg (N - (k + 1) + 1)
        case measure => omega
        case rel =>
          obtain ⟨hq1, hq2⟩ := HR.out.drew.setS EA.out x.at_ HXA.out x.text HXT.out
          exact ⟨k + 1, _, rfl, by first | rfl | (congr 1; omega) | (congr 1; have := HNX.out; have := HKN.out; unfold wrap64; omega), HKN.out, HT, Lib.hid hq1, Lib.hid (HF.out.drew.trans hq2)⟩
      · have ek : k = N := by omega
        subst ek
        have hA := HA.out
        rw [List.take_of_length_le (by rw [hN.out]; exact Nat.le_refl _)] at hA
        have f1 := HR.out.hg.frozen 1
        have HAA := Lib.hid hA
        clear hA
        go_wp2_with fail
        go_ret
        rw [hq.out, HAA.out]
        refine ⟨rfl, ⟨va, .slice none 0 0, ?_⟩, HF.out.trans (HR.out.grG 1 _)⟩
        exact HR.out.setNil
end
end Go.Proofs.Ytbbmhcloigphjaa

/- The joiner's searches. -/
import Derived.Test.YtlogcgeinbefjaaDoorPtA
namespace Go.Proofs.YtlogcgeinbefjaaDoor
open Go.RowKit Go.Proofs.YtlogcgeinbefjaaDoorW.PrintWords Go.Proofs.YtlogcgeinbefjaaDoorW.PrintLast
set_option linter.unusedSimpArgs false
set_option linter.unusedVariables false
set_option maxRecDepth 20000
/-- the first one of whom it is said; the length: there is none. -/
def fstI {α : Type} (p : α → Bool) (l : List α) : Int := if l.any p then ((l.findIdx p : Nat) : Int) else -1
theorem fstI_hit {α : Type} (p : α → Bool) (l : List α) (k : Nat) (a : α) (ha : l[k]? = some a) (h1 : p a = true) (h0 : ∀ j x, j < k → l[j]? = some x → p x = false) : fstI p l = (k : Int) := by
  have hk : k < l.length := (List.getElem?_eq_some_iff.1 ha).1
  have hm : a ∈ l := List.mem_of_getElem? ha
  have hany : l.any p = true := List.any_eq_true.2 ⟨a, hm, h1⟩
  unfold fstI
  rw [if_pos hany]
  have : l.findIdx p = k := by
    rw [List.findIdx_eq hk]
    refine ⟨by rw [← h1]; congr 1; exact (List.getElem?_eq_some_iff.1 ha).2, fun j hj => ?_⟩
    exact h0 j _ hj (List.getElem?_eq_getElem (by omega))
  rw [this]
theorem fstI_none {α : Type} (p : α → Bool) (l : List α) (h0 : ∀ j x, j < l.length → l[j]? = some x → p x = false) : fstI p l = -1 := by
  unfold fstI
  rw [if_neg]
  intro h
  obtain ⟨x, hx, hp⟩ := List.any_eq_true.1 h
  obtain ⟨j, hj, rfl⟩ := List.mem_iff_getElem.1 hx
  have := h0 j _ hj (List.getElem?_eq_getElem hj)
  rw [this] at hp
  cases hp
theorem fstI_ge {α : Type} (p : α → Bool) (l : List α) : decide (0 ≤ fstI p l) = l.any p := by
  unfold fstI
  cases h : l.any p with
  | true => rw [if_pos rfl]; simp
  | false => rw [if_neg (by simp)]; simp
set_option maxHeartbeats 800000 in
theorem indexM_any (B j : Nat) (vS vN : Value) (T : List Pl) (J : Jn) (b : Nat) (id : List UInt8) (cs : Array Value) (w : World) (h : JnA B w j vS vN T J) (hb : Blk w b 65 cs) (h0 : cs[0]? = some (.string ⟨id.toArray⟩)) :
    Calls Tryd.prog 23 #[vS, .func (Fn.func 24) #[] #[.pointer (some ⟨b, 0, none⟩)]] w fun e w' => e = .returned (.int .i64 (fstI (fun m : Ms => m.id == id) J.some)) ∧ Below w.heap.size w w' := by
  obtain ⟨A, c, rfl, hc1, hc2⟩ := h.s.form
  have hp : (ptrX T).length = J.some.length := by simp [ptrX, h.len]
  rw [hp] at hc1 h ⊢
  have hl : J.some.length ≤ 1024 := by have := h.bd; omega
  have H := Lib.hid h
  have HBB := Lib.hid hb
  have H00 := Lib.hid h0
  clear h hb h0 hp
  obtain ⟨n, hn⟩ : ∃ n, Hid (J.some.length = n) := ⟨_, Lib.hid rfl⟩
  rw [hn.out] at hc1 hl ⊢
  go_enter Tryd.func23, Tryd.ntmps23
  go_wp2_with fail
  go_loopg [8] (n + 1) (fun kq v wr => ∃ k : Nat, k + kq = n + 1 ∧ k ≤ n ∧ v = .int .i64 k ∧ Hid (Below w.heap.size w wr) ∧ Hid (∀ j x, j < k → J.some[j]? = some x → (x.id == id) = false))
  case atStart => exact ⟨0, by omega, by omega, rfl, Lib.hid (Below.refl _ _), Lib.hid (fun j x hj => by omega)⟩
  case round =>
    obtain ⟨k, hk, hk2, rfl, HW, H0⟩ := hrel
    by_cases hlt : k < n
    · obtain ⟨t, b', off, cap, hT, hv, hcell, hm⟩ := (H.out.below HW.out).at_ k (by rw [hn.out]; exact hlt)
      rw [hn.out] at hv
      injection hv with hv1 _ hv3
      subst hv1
      have e1 : 0 ≤ (k : Int) ∧ (k : Int) < (n : Int) := by omega
      have HG := Lib.hid (List.getElem?_eq_getElem (show k < J.some.length by rw [hn.out]; exact hlt))
      obtain ⟨m, hme⟩ : ∃ m, m = J.some[k]'(by rw [hn.out]; exact hlt) := ⟨_, rfl⟩
      rw [← hme] at hm HG
      have HM := Lib.hid hm
      have HB2 := Lib.hid (HBB.out.below HW.out HBB.out.lt)
      clear hT hm hme hv3
      go_wp2_with fail
      refine (byId_any t.x b id 9 _ cs m.id wr HM.out.x rfl HB2.out H00.out).mono ?_
      rintro e w' ⟨rfl, bw⟩
      have HW2 := Lib.hid (HW.out.trans (bw.mono HW.out.size))
      clear bw HW HM HB2 hcell
      cases hp : m.id == id with
      | true =>
        have HF := Lib.hid (fstI_hit (fun s : Ms => s.id == id) J.some k m HG.out hp H0.out)
        clear hp
        go_wp2_with fail
        go_ret
        exact ⟨by rw [HF.out]; rfl, HW2.out⟩
      | false =>
        have H1 : Hid (∀ j x, j < k + 1 → J.some[j]? = some x → (x.id == id) = false) := Lib.hid (fun j x hj hx => by
          rcases Nat.lt_or_ge j k with h | h
          · exact H0.out j x h hx
          · obtain rfl : j = k := by omega
            rw [HG.out] at hx
            cases hx
            exact hp)
        clear hp
        go_wp2_with fail
        go_roundg (n - k)
        case measure => omega
        case rel => exact ⟨k + 1, by omega, by omega, by go_num, HW2, H1⟩
    · obtain rfl : k = n := by omega
      have HF := Lib.hid (fstI_none (fun s : Ms => s.id == id) J.some (by rw [hn.out]; exact H0.out))
      have hq : gk = 1 := by omega
      subst hq
      clear hlt hk2 hk
      go_wp2_with fail
      go_ret
      exact ⟨by rw [HF.out]; rfl, HW.out⟩
set_option maxHeartbeats 800000 in
theorem indexT_any (B : Nat) (v : Value) (l : List (List UInt8)) (id : List UInt8) (w : World) (h : Win 9 w B v (cstr l)) (hl : l.length ≤ 1024) :
    Calls Tryd.prog 35 #[v, .string ⟨id.toArray⟩] w fun e w' => e = .returned (.int .i64 (fstI (fun s : List UInt8 => s == id) l)) ∧ w' = w := by
  obtain ⟨A, c, rfl, hc1, hc2⟩ := h.form
  rw [cstr_length] at hc1 h ⊢
  have H := Lib.hid h
  clear h
  obtain ⟨ib, IB⟩ : ∃ t : ByteArray, Hid (⟨id.toArray⟩ = t) := ⟨_, Lib.hid rfl⟩
  rw [IB.out]
  obtain ⟨n, hn⟩ : ∃ n, Hid (l.length = n) := ⟨_, Lib.hid rfl⟩
  rw [hn.out] at hc1 hl H ⊢
  go_enter Tryd.func35, Tryd.ntmps35
  go_wp2_with fail
  go_loop [8] (fun v => ∃ k : Nat, k ≤ n ∧ v = .int .i64 k ∧ Hid (∀ j x, j < k → l[j]? = some x → (x == id) = false)) (fun v => n - (intOf v).toNat)
  case atStart => exact ⟨0, by omega, rfl, Lib.hid (fun j x hj => by omega)⟩
  case round =>
    obtain ⟨k, hk, rfl, H0⟩ := hrel
    by_cases hlt : k < n
    · obtain ⟨b', off, cap, hv, _, _, hcell⟩ := H.out.at_ k (by rw [cstr_length, hn.out]; exact hlt)
      rw [cstr_length, hn.out] at hv
      injection hv with hv1 _ hv3
      subst hv1
      have e1 : 0 ≤ (k : Int) ∧ (k : Int) < (n : Int) := by omega
      have HG := Lib.hid (List.getElem?_eq_getElem (show k < l.length by rw [hn.out]; exact hlt))
      obtain ⟨a, ha⟩ : ∃ a, a = l[k]'(by rw [hn.out]; exact hlt) := ⟨_, rfl⟩
      rw [← ha] at HG
      obtain ⟨ab, AB⟩ : ∃ t : ByteArray, Hid (⟨a.toArray⟩ = t) := ⟨_, Lib.hid rfl⟩
      have hcell2 : w.cell? ⟨b', off + k, none⟩ = some (.string ab) := by rw [hcell, ← AB.out]; simp [cstr, HG.out]
      have HE := Lib.hid (show (ib.toList == ab.toList) = (a == id) by rw [← IB.out, ← AB.out, ByteArray.toList_eq, ByteArray.toList_eq]; show (id == a) = (a == id); exact Bool.beq_comm)
      clear hcell ha hv3
      cases hp : a == id with
      | true =>
        have HF := Lib.hid (fstI_hit (fun s : List UInt8 => s == id) l k a HG.out hp H0.out)
        have he := HE.out
        rw [hp] at he
        clear hp
        go_wp2_with fail
        go_ret
        exact ⟨by rw [HF.out]; rfl, rfl⟩
      | false =>
        have H1 : Hid (∀ j x, j < k + 1 → l[j]? = some x → (x == id) = false) := Lib.hid (fun j x hj hx => by
          rcases Nat.lt_or_ge j k with h | h
          · exact H0.out j x h hx
          · obtain rfl : j = k := by omega
            rw [HG.out] at hx
            cases hx
            exact hp)
        have he := HE.out
        rw [hp] at he
        clear hp
        go_wp2_with fail
        go_round
        case rel => exact ⟨k + 1, by omega, by go_num, H1⟩
        case measure => simp [intOf]; omega
    · obtain rfl : k = n := by omega
      have HF := Lib.hid (fstI_none (fun s : List UInt8 => s == id) l (by rw [hn.out]; exact H0.out))
      go_wp2_with fail
      go_ret
      exact ⟨by rw [HF.out]; rfl, rfl⟩
set_option maxHeartbeats 400000 in
theorem containsT_any (B : Nat) (v : Value) (l : List (List UInt8)) (id : List UInt8) (w : World) (h : Win 9 w B v (cstr l)) (hl : l.length ≤ 1024) :
    Calls Tryd.prog 22 #[v, .string ⟨id.toArray⟩] w fun e w' => e = .returned (.bool (l.any fun s => s == id)) ∧ w' = w := by
  have HC := Lib.hid (indexT_any B v l id w h hl)
  have HE := Lib.hid (fstI_ge (fun s : List UInt8 => s == id) l)
  obtain ⟨A, c, rfl, hc1, hc2⟩ := h.form
  clear h
  go_enter Tryd.func22, Tryd.ntmps22
  go_wp2_with fail
  refine HC.out.mono ?_
  rintro e w' ⟨rfl, rfl⟩
  go_wp2_with fail
  go_ret
  exact ⟨by rw [← HE.out]; rfl, rfl⟩
end Go.Proofs.YtlogcgeinbefjaaDoor

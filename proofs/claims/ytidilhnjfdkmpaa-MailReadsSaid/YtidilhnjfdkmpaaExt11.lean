/- What the print does not take in layer 11: strings.Repeat, mail.join, mail.filled, mail.stranger, in the print's own form. -/
import Derived.Test.YtidilhnjfdkmpaaTyMailA
import Derived.Test.YtidilhnjfdkmpaaShelf
import Derived.Test.YtidilhnjfdkmpaaBase
import Derived.Outline
namespace Go.Proofs.Ytidilhnjfdkmpaa
open Go.RowKit Go.Proofs.YtidilhnjfdkmpaaW.PrintWords Go.Proofs.YtidilhnjfdkmpaaW.PrintLast
set_option linter.unusedSimpArgs false
set_option linter.unusedVariables false
/-! ### strings.Repeat, mail.join -/
theorem repeat_zero (m : Nat) : Lib.repeatL (⟨#[0]⟩ : ByteArray).data.toList m = List.replicate m 0 := by
  induction m with
  | zero => rfl
  | succ m ih => rw [Lib.repeatL, ih]; rfl
def strings_Repeat.f (a0 : ByteArray) (a1 : Int) : Option ByteArray := if 0 ≤ a1 ∧ a1 ≤ 140737488355328 ∧ a0.size * a1.toNat ≤ 140737488355328 then some ⟨(Lib.repeatL a0.data.toList a1.toNat).toArray⟩ else none
theorem strings_Repeat.calls (a0 : ByteArray) (a1 : Int) (r : ByteArray) (w : World) (h : strings_Repeat.f a0 a1 = some r) :
    Calls Try.prog 30 #[.string a0, .int .i64 a1] w fun e w' => e = .returned (.string r) ∧ Below w.heap.size w w' := by
  unfold strings_Repeat.f at h
  split at h
  · rename_i hs
    simp only [Option.some.injEq] at h
    subst h
    have := Try.strings_Repeat a0 a1.toNat w (by omega) hs.2.2
    rw [show ((a1.toNat : Nat) : Int) = a1 by omega] at this
    exact this
  · cases h
/-- a row of texts that is read: its address has no spot, its cells. -/
theorem texts_at {w : World} {A : Option Addr} {l : List ByteArray} (h : Kd.C Kd.string w A l.length l) (hp : 0 < l.length) :
    ∃ b o, A = some ⟨b, o, none⟩ ∧ b < w.heap.size ∧ ∀ (j : Nat) x, l[j]? = some x → w.cell? ⟨b, o + j, none⟩ = some (.string x) := by
  obtain ⟨ad, e, hc⟩ := h.2.2 hp
  have hcell : ∀ (j : Nat) x, l[j]? = some x → w.cell? (ad.add j) = some (.string x) := fun j x hj => by
    obtain ⟨c, hs, hr, hcc⟩ := hc j x hj
    have hr' : c = [.string x] := hr
    subst hr'
    have := hcc 0 _ rfl
    simpa [Kd.string, Kd.scalar] using this
  obtain ⟨b, o, s⟩ := ad
  have h0 := hcell 0 l[0] (List.getElem?_eq_getElem hp)
  have e0 : (⟨b, o, s⟩ : Addr).add 0 = ⟨b, o, s⟩ := by simp [Addr.add]
  rw [e0] at h0
  have hs : s = none := by
    cases s with
    | none => rfl
    | some q => simp [World.cell?] at h0; split at h0 <;> simp at h0
  subst hs
  refine ⟨b, o, e, World.block_lt_of_cell? w _ h0, fun j x hj => ?_⟩
  have := hcell j x hj
  unfold Addr.add at this
  split at this
  · rename_i hj0; subst hj0; simpa using this
  · exact this
def mail_join.f (l : List ByteArray) : Option ByteArray := if l.length ≤ 140737488355328 ∧ (Lib.join (l.map (·.data.toList)) []).length ≤ 140737488355328 then some ⟨(Lib.join (l.map (·.data.toList)) []).toArray⟩ else none
set_option maxHeartbeats 400000 in
theorem mail_join.calls (A0 : Option Addr) (c0 : Nat) (l0 : List ByteArray) (r : ByteArray) (w : World) (hr0 : Kd.C Kd.string w A0 l0.length l0) (hc0 : l0.length ≤ c0) (h : mail_join.f l0 = some r) :
    Calls Try.prog 18 #[.slice A0 l0.length c0] w fun e w' => e = .returned (.string r) ∧ Below w.heap.size w w' := by
  unfold mail_join.f at h
  split at h
  · rename_i hs
    simp only [Option.some.injEq] at h
    subst h
    have hJ : Calls Try.prog 29 #[.slice A0 l0.length c0, .string ⟨#[]⟩] w fun e w' => e = .returned (.string ⟨(Lib.join (l0.map (·.data.toList)) []).toArray⟩) ∧ Below w.heap.size w w' := by
      rcases Nat.eq_zero_or_pos l0.length with h0 | h0
      · have hl : l0 = [] := List.eq_nil_of_length_eq_zero h0
        subst hl
        exact (Try.strings_Join_none A0 c0 ⟨#[]⟩ w).mono fun e w' ⟨he, hw⟩ => ⟨he, by rw [hw]; exact Below.refl _ _⟩
      · obtain ⟨b, o, rfl, hb, hc⟩ := texts_at hr0 h0
        exact Try.strings_Join b o c0 l0 ⟨#[]⟩ w hc hb hs.1 hc0 hs.2
    have HJ := Lib.hid hJ
    clear hJ hr0 hs
    go_enter Try.func18, Try.ntmps18
    go_wp2_with fail
    refine HJ.out.mono ?_
    rintro e w' ⟨rfl, hb⟩
    have HB := Lib.hid hb
    clear hb
    go_wp2_with fail
    go_ret
    exact ⟨rfl, HB.out⟩
  · cases h
/-! ### ids, entries -/
def noIdL : List UInt8 := [0, 0, 0, 0, 0, 0, 0, 0, 0, 0, 0, 0, 0, 0, 0, 0]
def idB (a : ByteArray) : Bool := (a.size == 16) && (a.toList != noIdL)
set_option maxHeartbeats 400000 in
theorem isId_any (a : ByteArray) (w : World) : Calls Try.prog 37 #[.string a] w fun e w' => e = .returned (.bool (idB a)) ∧ w' = w := by
  by_cases h : a.size = 16
  · have e1 : ((a.size : Int) == 16) = true := by simp; omega
    have e2 := Lib.hid (show idB a = (a.toList != noIdL) by unfold idB; rw [h]; rfl)
    clear h
    go_enter Try.func37, Try.ntmps37
    go_wp2_with fail
    go_ret
    exact ⟨by rw [e2.out]; rfl, rfl⟩
  · have e1 : ((a.size : Int) == 16) = false := by simp; omega
    have e2 := Lib.hid (show idB a = false by unfold idB; rw [show (a.size == 16) = false by simpa using h]; rfl)
    clear h
    go_enter Try.func37, Try.ntmps37
    go_wp2_with fail
    go_ret
    exact ⟨by rw [e2.out]; rfl, rfl⟩
/-! ### slices.ContainsFunc -/
set_option maxHeartbeats 400000 in
theorem strangerF_any (a : ByteArray) (w : World) : Calls Try.prog 36 #[.string a] w fun e w' => e = .returned (.bool (!idB a)) ∧ w' = w := by
  go_enter Try.func36, Try.ntmps36
  go_wp2_with fail
  refine (isId_any a w).mono ?_
  rintro e w' ⟨rfl, rfl⟩
  go_wp2_with fail
  go_ret
  exact ⟨rfl, rfl⟩
set_option maxHeartbeats 400000 in
theorem filledF_any (a : S43) (w : World) : Calls Try.prog 34 #[.agg #[.string a.f0, .string a.f1]] w fun e w' => e = .returned (.bool (!((a.f0.toList == []) && (a.f1.toList == [])))) ∧ Below w.heap.size w w' := by
  go_enter Try.func34, Try.ntmps34
  go_wp2_with fail
  all_goals (go_ret; exact ⟨by simp [*], (Below.refl _ _).alloc (Nat.le_refl _) _⟩)
/-- the first one of whom it is said; the length: there is none. -/
def fstI {α : Type} (p : α → Bool) (l : List α) : Int := if l.any p then ((l.findIdx p : Nat) : Int) else -1
theorem fstI_hit {α : Type} (p : α → Bool) (l : List α) (k : Nat) (a : α) (ha : l[k]? = some a) (h1 : p a = true) (h0 : ∀ j x, j < k → l[j]? = some x → p x = false) : fstI p l = (k : Int) := by
  have hk : k < l.length := (List.getElem?_eq_some_iff.1 ha).1
  have hm : a ∈ l := List.mem_of_getElem? ha
  have hany : l.any p = true := List.any_eq_true.2 ⟨a, hm, h1⟩
  unfold fstI
  rw [if_pos hany]
  have : l.findIdx p = k := by
    rw [List.findIdx_eq hk]
    refine ⟨by rw [← h1]; congr 1; exact (List.getElem?_eq_some_iff.1 ha).2, fun j hj => ?_⟩
    exact h0 j _ hj (List.getElem?_eq_getElem (by omega))
  rw [this]
theorem fstI_none {α : Type} (p : α → Bool) (l : List α) (h0 : ∀ j x, j < l.length → l[j]? = some x → p x = false) : fstI p l = -1 := by
  unfold fstI
  rw [if_neg]
  intro h
  obtain ⟨x, hx, hp⟩ := List.any_eq_true.1 h
  obtain ⟨j, hj, rfl⟩ := List.mem_iff_getElem.1 hx
  have := h0 j _ hj (List.getElem?_eq_getElem hj)
  rw [this] at hp
  cases hp
theorem fstI_ge {α : Type} (p : α → Bool) (l : List α) : decide (0 ≤ fstI p l) = l.any p := by
  unfold fstI
  cases h : l.any p with
  | true => rw [if_pos rfl]; simp
  | false => rw [if_neg (by simp)]; simp
set_option maxHeartbeats 800000 in
theorem indexS_any (A0 : Option Addr) (c0 : Nat) (l0 : List ByteArray) (w : World) (hr0 : Kd.C Kd.string w A0 l0.length l0) (hc0 : l0.length ≤ c0) :
    Calls Try.prog 46 #[.slice A0 l0.length c0, .func (Fn.func 36) #[] #[]] w fun e w' => e = .returned (.int .i64 (fstI (fun a => !idB a) l0)) ∧ w' = w := by
  have hl := hr0.2.1
  have HR := Lib.hid hr0
  clear hr0
  obtain ⟨n, hn⟩ : ∃ n, n = l0.length := ⟨_, rfl⟩
  go_enter Try.func46, Try.ntmps46
  go_wp2_with fail
  go_loop [8] (fun v => ∃ k : Nat, k ≤ l0.length ∧ v = .int .i64 k ∧ Hid (∀ j x, j < k → l0[j]? = some x → (!idB x) = false)) (fun v => l0.length - (intOf v).toNat)
  case atStart => exact ⟨0, by omega, rfl, Lib.hid (fun j x hj => by omega)⟩
  case round =>
    obtain ⟨k, hk, rfl, H0⟩ := hrel
    by_cases hlt : k < l0.length
    · obtain ⟨b, o, rfl, hb, hc⟩ := texts_at HR.out (by omega)
      have hget := List.getElem?_eq_getElem hlt
      obtain ⟨a, ha⟩ : ∃ a, a = l0[k] := ⟨_, rfl⟩
      rw [← ha] at hget
      have HG := Lib.hid hget
      have c1 := hc k a hget
      have e1 : 0 ≤ (k : Int) ∧ (k : Int) < (l0.length : Int) := by omega
      clear hc hget ha
      go_wp2_with fail
      refine (strangerF_any a w).mono ?_
      rintro e w' ⟨rfl, rfl⟩
      cases hp : !idB a with
      | true =>
        have HF := Lib.hid (fstI_hit (fun a => !idB a) l0 k a HG.out hp H0.out)
        clear hp
        go_wp2_with fail
        go_ret
        exact ⟨by rw [HF.out]; rfl, rfl⟩
      | false =>
        have H1 : Hid (∀ j x, j < k + 1 → l0[j]? = some x → (!idB x) = false) := Lib.hid (fun j x hj hx => by
          rcases Nat.lt_or_ge j k with h | h
          · exact H0.out j x h hx
          · obtain rfl : j = k := by omega
            rw [HG.out] at hx
            cases hx
            exact hp)
        clear hp
        go_wp2_with fail
        go_round
        case rel => exact ⟨k + 1, by omega, by go_num, H1⟩
        case measure => simp [intOf]; omega
    · obtain rfl : k = l0.length := by omega
      have HF := Lib.hid (fstI_none (fun a => !idB a) l0 H0.out)
      go_wp2_with fail
      go_ret
      exact ⟨by rw [HF.out]; rfl, rfl⟩
set_option maxHeartbeats 400000 in
theorem containsS_any (A0 : Option Addr) (c0 : Nat) (l0 : List ByteArray) (w : World) (hr0 : Kd.C Kd.string w A0 l0.length l0) (hc0 : l0.length ≤ c0) :
    Calls Try.prog 35 #[.slice A0 l0.length c0, .func (Fn.func 36) #[] #[]] w fun e w' => e = .returned (.bool (l0.any fun a => !idB a)) ∧ w' = w := by
  have HC := Lib.hid (indexS_any A0 c0 l0 w hr0 hc0)
  have HE := Lib.hid (fstI_ge (fun a => !idB a) l0)
  clear hr0
  go_enter Try.func35, Try.ntmps35
  go_wp2_with fail
  refine HC.out.mono ?_
  rintro e w' ⟨rfl, rfl⟩
  go_wp2_with fail
  go_ret
  exact ⟨by rw [← HE.out]; rfl, rfl⟩
set_option maxHeartbeats 400000 in
theorem stranger_any (A0 : Option Addr) (c0 : Nat) (l0 : List ByteArray) (w : World) (hr0 : Kd.C Kd.string w A0 l0.length l0) (hc0 : l0.length ≤ c0) :
    Calls Try.prog 22 #[.slice A0 l0.length c0] w fun e w' => e = .returned (.bool (l0.any fun a => !idB a)) ∧ w' = w := by
  have HC := Lib.hid (containsS_any A0 c0 l0 w hr0 hc0)
  clear hr0
  go_enter Try.func22, Try.ntmps22
  go_wp2_with fail
  refine HC.out.mono ?_
  rintro e w' ⟨rfl, rfl⟩
  go_wp2_with fail
  go_ret
  exact ⟨rfl, rfl⟩
def mail_stranger.f (l : List ByteArray) : Option Bool := some (l.any fun a => !idB a)
theorem mail_stranger.calls (A0 : Option Addr) (c0 : Nat) (l0 : List ByteArray) (r : Bool) (w : World) (hr0 : Kd.C Kd.string w A0 l0.length l0) (hc0 : l0.length ≤ c0) (h : mail_stranger.f l0 = some r) :
    Calls Try.prog 22 #[.slice A0 l0.length c0] w fun e w' => e = .returned (.bool r) ∧ Drawn0 w w' := by
  simp only [mail_stranger.f, Option.some.injEq] at h
  subst h
  exact (stranger_any A0 c0 l0 w hr0 hc0).mono fun e w' ⟨he, hw⟩ => ⟨he, by rw [hw]; exact Drawn0.refl w⟩
/-! ### entries of a reply -/
def entryB (a : S43) : Bool := idB a.f0 && decide (a.f1.size ≤ 222)
def someB (a : S43) : Bool := !((a.f0.toList == []) && (a.f1.toList == []))
set_option maxHeartbeats 400000 in
theorem entry_any (a : S43) (w : World) : Calls Try.prog 32 #[.agg #[.string a.f0, .string a.f1]] w fun e w' => e = .returned (.bool (entryB a)) ∧ Below w.heap.size w w' := by
  cases h : idB a.f0 with
  | true =>
    have e2 := Lib.hid (show entryB a = decide ((a.f1.size : Int) ≤ 222) by
      unfold entryB; rw [h, Bool.true_and, Bool.eq_iff_iff]; simp; omega)
    have e3 := Lib.hid h
    clear h
    go_enter Try.func32, Try.ntmps32
    go_wp2_with fail
    refine (isId_any a.f0 _).mono ?_
    rintro e w' ⟨rfl, rfl⟩
    rw [e3.out]
    go_wp2_with fail
    go_ret
    exact ⟨by rw [e2.out]; rfl, (Below.refl _ _).alloc (Nat.le_refl _) _⟩
  | false =>
    have e2 := Lib.hid (show entryB a = false by unfold entryB; rw [h, Bool.false_and])
    have e3 := Lib.hid h
    clear h
    go_enter Try.func32, Try.ntmps32
    go_wp2_with fail
    refine (isId_any a.f0 _).mono ?_
    rintro e w' ⟨rfl, rfl⟩
    rw [e3.out]
    go_wp2_with fail
    go_ret
    exact ⟨by rw [e2.out]; rfl, (Below.refl _ _).alloc (Nat.le_refl _) _⟩
/-- a row of slots that is read: its address has no spot, its cells. -/
theorem slots_at {w : World} {A : Option Addr} {n : Nat} {l : List S43} (h : Kd.C k43 w A n l) (hp : 0 < n) :
    ∃ b o, A = some ⟨b, o, none⟩ ∧ b < w.heap.size ∧ ∀ (j : Nat) x, l[j]? = some x → w.cell? ⟨b, o + j * 2, none⟩ = some (.string x.f0) ∧ w.cell? ⟨b, o + j * 2 + 1, none⟩ = some (.string x.f1) := by
  obtain ⟨ad, e, hc⟩ := h.2.2 hp
  have hln : l.length = n := h.1
  have hcell : ∀ (j : Nat) x, l[j]? = some x → w.cell? (ad.add (j * 2)) = some (.string x.f0) ∧ w.cell? (ad.add (j * 2 + 1)) = some (.string x.f1) := fun j x hj => by
    obtain ⟨c, hs, hr, hcc⟩ := hc j x hj
    obtain rfl := k43_open hr
    exact ⟨hcc 0 _ rfl, hcc 1 _ rfl⟩
  obtain ⟨b, o, s⟩ := ad
  have h0 := (hcell 0 l[0] (List.getElem?_eq_getElem (by omega))).1
  have e0 : (⟨b, o, s⟩ : Addr).add (0 * 2) = ⟨b, o, s⟩ := by simp [Addr.add]
  rw [e0] at h0
  have hs : s = none := by
    cases s with
    | none => rfl
    | some q => simp [World.cell?] at h0; split at h0 <;> simp at h0
  subst hs
  have ha : ∀ m, (⟨b, o, none⟩ : Addr).add m = ⟨b, o + m, none⟩ := fun m => by unfold Addr.add; split <;> simp_all
  refine ⟨b, o, e, World.block_lt_of_cell? w _ h0, fun j x hj => ?_⟩
  have := hcell j x hj
  rw [ha, ha] at this
  exact this
set_option maxHeartbeats 800000 in
theorem indexF_any (A0 : Option Addr) (c0 n : Nat) (l0 : List S43) (w : World) (hr0 : Kd.C k43 w A0 n l0) (hc0 : n ≤ c0) :
    Calls Try.prog 45 #[.slice A0 n c0, .func (Fn.func 34) #[] #[]] w fun e w' => e = .returned (.int .i64 (fstI someB l0)) ∧ Below w.heap.size w w' := by
  have hl := hr0.2.1
  have hln : l0.length = n := hr0.1
  have HR := Lib.hid hr0
  have HLN := Lib.hid hln
  clear hr0 hln
  go_enter Try.func45, Try.ntmps45
  go_wp2_with fail
  go_loopw [8] (fun v wr => ∃ k : Nat, k ≤ n ∧ v = .int .i64 k ∧ Hid (∀ j x, j < k → l0[j]? = some x → someB x = false) ∧ Below w.heap.size w wr) (fun v _ => n - (intOf v).toNat)
  case atStart => exact ⟨0, by omega, rfl, Lib.hid (fun j x hj => by omega), Below.refl _ _⟩
  case round =>
    obtain ⟨k, hk, rfl, H0, hb0⟩ := hrel
    have HB := Lib.hid hb0
    clear hb0
    by_cases hlt : k < n
    · obtain ⟨b, o, rfl, hb, hc⟩ := slots_at HR.out (by omega)
      have hget := List.getElem?_eq_getElem (show k < l0.length by rw [HLN.out]; exact hlt)
      obtain ⟨a, ha⟩ : ∃ a, a = l0[k]'(by rw [HLN.out]; exact hlt) := ⟨_, rfl⟩
      rw [← ha] at hget
      have HG := Lib.hid hget
      have c1 := (HB.out.cell (p := ⟨b, o + k * 2, none⟩) hb).trans (hc k a hget).1
      have c2 := (HB.out.cell (p := ⟨b, o + k * 2 + 1, none⟩) hb).trans (hc k a hget).2
      have e1 : 0 ≤ (k : Int) ∧ (k : Int) < (n : Int) := by omega
      clear hc hget ha
      go_wp2_with fail
      refine (filledF_any a wr).mono ?_
      rintro e w' ⟨rfl, hb2⟩
      have HB2 := Lib.hid (HB.out.trans (hb2.mono HB.out.size))
      clear hb2
      change Hid _ at HG
      rw [show (!((a.f0.toList == []) && (a.f1.toList == []))) = someB a from rfl]
      cases hp : someB a with
      | true =>
        have HF := Lib.hid (fstI_hit someB l0 k a HG.out hp H0.out)
        clear hp
        go_wp2_with fail
        go_ret
        exact ⟨by rw [HF.out]; rfl, HB2.out⟩
      | false =>
        have H1 : Hid (∀ j x, j < k + 1 → l0[j]? = some x → someB x = false) := Lib.hid (fun j x hj hx => by
          rcases Nat.lt_or_ge j k with h | h
          · exact H0.out j x h hx
          · obtain rfl : j = k := by omega
            rw [HG.out] at hx
            cases hx
            exact hp)
        clear hp
        go_wp2_with fail
        go_roundw
        case rel => exact ⟨k + 1, by omega, by go_num, H1, HB2.out⟩
        case measure => simp [intOf]; omega
    · obtain rfl : k = n := by omega
      have HF := Lib.hid (fstI_none someB l0 (by rw [HLN.out]; exact H0.out))
      go_wp2_with fail
      go_ret
      exact ⟨by rw [HF.out]; rfl, HB.out⟩
set_option maxHeartbeats 400000 in
theorem containsF_any (A0 : Option Addr) (c0 n : Nat) (l0 : List S43) (w : World) (hr0 : Kd.C k43 w A0 n l0) (hc0 : n ≤ c0) :
    Calls Try.prog 33 #[.slice A0 n c0, .func (Fn.func 34) #[] #[]] w fun e w' => e = .returned (.bool (l0.any someB)) ∧ Below w.heap.size w w' := by
  have HC := Lib.hid (indexF_any A0 c0 n l0 w hr0 hc0)
  have HE := Lib.hid (fstI_ge someB l0)
  clear hr0
  go_enter Try.func33, Try.ntmps33
  go_wp2_with fail
  refine HC.out.mono ?_
  rintro e w' ⟨rfl, hb⟩
  have HB := Lib.hid hb
  clear hb
  go_wp2_with fail
  go_ret
  exact ⟨by rw [← HE.out]; rfl, HB.out⟩
/-- how many entries stand ahead. -/
def leadN (l : List S43) : Nat := (l.takeWhile entryB).length
def filledB (l : List S43) : Bool := (l.length == 4) && !((l.drop (leadN l)).any someB)
theorem leadN_at (l : List S43) (k : Nat) (hk : k ≤ l.length) (h0 : ∀ j x, j < k → l[j]? = some x → entryB x = true) (h1 : ∀ x, l[k]? = some x → entryB x = false) : leadN l = k := by
  induction l generalizing k with
  | nil => simp at hk; subst hk; rfl
  | cons a l ih =>
    unfold leadN
    cases k with
    | zero =>
      have := h1 a rfl
      simp [List.takeWhile_cons, this]
    | succ k =>
      have := h0 0 a (by omega) rfl
      simp only [List.takeWhile_cons, this, if_true, List.length_cons]
      congr 1
      exact ih k (by simpa using hk) (fun j x hj hx => h0 (j + 1) x (by omega) (by simpa using hx)) (fun x hx => h1 x (by simpa using hx))
theorem kdC_drop {w : World} {b o n : Nat} {l : List S43} (h : Kd.C k43 w (some ⟨b, o, none⟩) n l) (k : Nat) (hk : k < n) : Kd.C k43 w (some ⟨b, o + k * 2, none⟩) (n - k) (l.drop k) := by
  refine ⟨by rw [List.length_drop, h.1], by have := h.2.1; omega, fun hp => ⟨_, rfl, fun j p hj => ?_⟩⟩
  obtain ⟨b', o', e, hb, hc⟩ := slots_at h (by omega)
  injection e with e
  injection e with e1 e2
  subst e1; subst e2
  rw [List.getElem?_drop] at hj
  refine ⟨_, rfl, k43_mk w p, fun i u hi => ?_⟩
  have ha : ∀ m, (⟨b, o + k * 2, none⟩ : Addr).add m = ⟨b, o + k * 2 + m, none⟩ := fun m => by unfold Addr.add; split <;> simp_all
  have hsz : k43.sz = 2 := rfl
  rw [ha, hsz]
  have := hc (k + j) p hj
  rw [show o + (k + j) * 2 = o + k * 2 + j * 2 by omega] at this
  match i, hi with
  | 0, hi => simp at hi; subst hi; exact this.1
  | 1, hi => simp at hi; subst hi; exact this.2
  | i + 2, hi => simp at hi
set_option maxHeartbeats 1600000 in
theorem filled_any (A0 : Option Addr) (c0 : Nat) (l0 : List S43) (w : World) (hr0 : Kd.C k43 w A0 l0.length l0) (hc0 : l0.length ≤ c0) :
    Calls Try.prog 21 #[.slice A0 l0.length c0] w fun e w' => e = .returned (.bool (filledB l0)) ∧ Below w.heap.size w w' := by
  have hl := hr0.2.1
  have HR := Lib.hid hr0
  clear hr0
  go_enter Try.func21, Try.ntmps21
  go_wp2_with fail
  go_loopw [3] (fun v wr => ∃ k : Nat, k ≤ l0.length ∧ v = .int .i64 k ∧ Hid (∀ j x, j < k → l0[j]? = some x → entryB x = true) ∧ Below w.heap.size w wr) (fun v _ => l0.length - (intOf v).toNat)
  case atStart => exact ⟨0, by omega, rfl, Lib.hid (fun j x hj => by omega), Below.refl _ _⟩
  case round =>
    obtain ⟨k, hk, rfl, H0, hb0⟩ := hrel
    have HB := Lib.hid hb0
    clear hb0
    have key : ∀ wz : World, Below w.heap.size w wz → (∀ x, l0[k]? = some x → entryB x = false) → True := fun _ _ _ => trivial
    by_cases hlt : k < l0.length
    · obtain ⟨b, o, rfl, hb, hc⟩ := slots_at HR.out (by omega)
      have hget := List.getElem?_eq_getElem hlt
      obtain ⟨a, ha⟩ : ∃ a, a = l0[k] := ⟨_, rfl⟩
      rw [← ha] at hget
      have HG := Lib.hid hget
      have c1 := (HB.out.cell (p := ⟨b, o + k * 2, none⟩) hb).trans (hc k a hget).1
      have c2 := (HB.out.cell (p := ⟨b, o + k * 2 + 1, none⟩) hb).trans (hc k a hget).2
      have e1 : 0 ≤ (k : Int) ∧ (k : Int) < (l0.length : Int) := by omega
      clear hc hget ha key
      go_wp2_with fail
      refine (entry_any a wr).mono ?_
      rintro e w1 ⟨rfl, hb2⟩
      have HB2 := Lib.hid (HB.out.trans (hb2.mono HB.out.size))
      clear hb2 c1 c2
      cases hp : entryB a with
      | true =>
        have H1 : Hid (∀ j x, j < k + 1 → l0[j]? = some x → entryB x = true) := Lib.hid (fun j x hj hx => by
          rcases Nat.lt_or_ge j k with h | h
          · exact H0.out j x h hx
          · obtain rfl : j = k := by omega
            rw [HG.out] at hx
            cases hx
            exact hp)
        clear hp
        go_wp2_with fail
        go_roundw
        case rel => exact ⟨k + 1, by omega, by go_num, H1, HB2.out⟩
        case measure => simp [intOf]; omega
      | false =>
        have hk2 := leadN_at l0 k hk H0.out (fun x hx => by rw [HG.out] at hx; cases hx; exact hp)
        have HL := Lib.hid hk2
        clear hk2 hp
        by_cases h4 : l0.length = 4
        · have e4 : ((l0.length : Int) == 4) = true := by simp; omega
          have HF := Lib.hid (show filledB l0 = !((l0.drop k).any someB) by unfold filledB; rw [HL.out, h4]; rfl)
          have HC : ∀ c1, l0.length - k ≤ c1 → Calls Try.prog 33 #[.slice (some ⟨b, o + k * 2, none⟩) (l0.length - k) c1, .func (Fn.func 34) #[] #[]] w1 fun e w' => e = .returned (.bool ((l0.drop k).any someB)) ∧ Below w1.heap.size w1 w' :=
            fun c1 hc1 => containsF_any _ c1 _ _ w1 (Kd.C_below (kdC_drop HR.out k hlt) (HB2.out)) hc1
          have HC2 := Lib.hid HC
          have e5 : (k : Int) ≤ (l0.length : Int) := by omega
          have e6 : ¬ c0 = k := by omega
          clear h4 HC
          go_wp2_with fail
          refine (HC2.out _ (by omega)).mono ?_
          rintro e w2 ⟨rfl, hb3⟩
          have HB3 := Lib.hid (HB2.out.trans (hb3.mono HB2.out.size))
          clear hb3
          go_wp2_with fail
          go_ret
          exact ⟨by rw [HF.out]; rfl, HB3.out⟩
        · have e4 : ((l0.length : Int) == 4) = false := by simp; omega
          have HF := Lib.hid (show filledB l0 = false by unfold filledB; rw [show (l0.length == 4) = false by simpa using h4]; rfl)
          clear h4
          go_wp2_with fail
          go_ret
          exact ⟨by rw [HF.out]; rfl, HB2.out⟩
    · obtain rfl : k = l0.length := by omega
      have hk2 := leadN_at l0 l0.length (Nat.le_refl _) H0.out (fun x hx => by rw [List.getElem?_eq_none (Nat.le_refl _)] at hx; cases hx)
      have HL := Lib.hid hk2
      clear hk2 key
      by_cases h4 : l0.length = 4
      · have e4 : ((l0.length : Int) == 4) = true := by simp; omega
        have HF := Lib.hid (show filledB l0 = !(([] : List S43).any someB) by unfold filledB; rw [HL.out, List.drop_length, h4]; rfl)
        have HC : ∀ A c1, Calls Try.prog 33 #[.slice A 0 c1, .func (Fn.func 34) #[] #[]] wr fun e w' => e = .returned (.bool (([] : List S43).any someB)) ∧ Below wr.heap.size wr w' :=
          fun A c1 => containsF_any A c1 0 [] wr ⟨rfl, by omega, fun h => absurd h (by omega)⟩ (by omega)
        have HC2 := Lib.hid HC
        obtain ⟨g, hg, hg2⟩ : ∃ g, g = l0.length ∧ 0 < g := ⟨_, rfl, by omega⟩
        obtain ⟨b, o, rfl, hb, hc⟩ := slots_at HR.out (by omega)
        clear HC hc hg hg2 h4
        by_cases h5 : c0 = l0.length
        · subst h5
          go_wp2_with fail
          refine (HC2.out _ _).mono ?_
          rintro e w2 ⟨rfl, hb3⟩
          have HB3 := Lib.hid (HB.out.trans (hb3.mono HB.out.size))
          clear hb3
          go_wp2_with fail
          go_ret
          exact ⟨by rw [HF.out]; rfl, HB3.out⟩
        · go_wp2_with fail
          refine (HC2.out _ _).mono ?_
          rintro e w2 ⟨rfl, hb3⟩
          have HB3 := Lib.hid (HB.out.trans (hb3.mono HB.out.size))
          clear hb3
          go_wp2_with fail
          go_ret
          exact ⟨by rw [HF.out]; rfl, HB3.out⟩
      · have e4 : ((l0.length : Int) == 4) = false := by simp; omega
        have HF := Lib.hid (show filledB l0 = false by unfold filledB; rw [show (l0.length == 4) = false by simpa using h4]; rfl)
        clear h4
        go_wp2_with fail
        go_ret
        exact ⟨by rw [HF.out]; rfl, HB.out⟩
def mail_filled.f (l : List S43) : Option Bool := some (filledB l)
theorem mail_filled.calls (A0 : Option Addr) (c0 : Nat) (l0 : List S43) (r : Bool) (w : World) (hr0 : Kd.C k43 w A0 l0.length l0) (hc0 : l0.length ≤ c0) (h : mail_filled.f l0 = some r) :
    Calls Try.prog 21 #[.slice A0 l0.length c0] w fun e w' => e = .returned (.bool r) ∧ Below w.heap.size w w' := by
  simp only [mail_filled.f, Option.some.injEq] at h
  subst h
  exact filled_any A0 c0 l0 w hr0 hc0
end Go.Proofs.Ytidilhnjfdkmpaa

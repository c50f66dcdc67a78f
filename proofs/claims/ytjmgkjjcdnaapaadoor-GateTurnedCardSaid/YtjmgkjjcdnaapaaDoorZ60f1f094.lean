/- What the print does not take in layer 11: strings.Repeat, mail.join, mail.filled, mail.stranger, in the print's own form. Bytes at hand: a row of bytes that '[]byte(s)' made, read and written in place. What laws over hash share: the table below a call, slice literals of texts, joined texts. HMAC-SHA-256 as plain functions on bytes; no program in sight. An append to a slice that the call made, whatever the region: what stood in it stands as it did; as one step of a region that draws. An append of any slice's elements (wherever they lie) to a slice that the call made; of none; a made slice without elements. Slices of texts: what the call made, what it read, a copy. A slice literal as the call's own; an append of whatever slice of texts to it. The walks of package keyed: padded, Tag, Extract. The walk of keyed.Same. The gate in memory; who has an account: the walks of find, Last, Has. gate.Check: which accounts may be. gate.New. The reference's slots in the print's own form. Printed by a program of this session (hook.py, by way of the kit's print): the functions as Lean functions, each with the proof that the Go code comes to its answers; conditions: as each theorem states. -/
import Derived.Test.YtjmgkjjcdnaapaaDoorZ1d1d9347
import Derived.Outline
import Derived.RegionTactic
import Derived.BigRegion
import Derived.Test.YtjmgkjjcdnaapaaDoorProg
import Derived.Below
import Derived.Deep.Draws
import Derived.Deep.AppendLies
import Derived.Maps.AppendAt
import Derived.OwnWalk
import Derived.Laws.BytesArg
import Derived.Laws.MakeOwn
import Derived.Laws.OwnMore
import Derived.Deep.OwnRows
import Derived.Tactics
import Derived.Lib.ConvBytes
import Derived.Laws.Slices
import Derived.WalkKit
import Derived.KernelRfl
import Derived.RowKit3
import Derived.Deep.LoopGhost
import Derived.Deep.QuietTactic
import Derived.BigQuiet
import Derived.WideLaws
import Derived.Deep.DeepCutAuto
import Derived.Deep.CutBlock
import Derived.Deep.RegionHeld3
import Derived.Laws.Rows
import Derived.Lib.AppendStr
import Derived.ArgAppend
import Derived.Laws.IdiomCopy
import Derived.OrdersHeld
import Derived.Laws.BitsLemmas
import Derived.RowKit
namespace Go.Proofs.YtjmgkjjcdnaapaaDoor
open Go.RowKit Go.Proofs.YtjmgkjjcdnaapaaDoorW.PrintWords Go.Proofs.YtjmgkjjcdnaapaaDoorW.PrintLast
set_option linter.unusedSimpArgs false
set_option linter.unusedVariables false
/-! ### strings.Repeat, mail.join -/
theorem repeat_zero20 (m : Nat) : Lib.repeatL (⟨#[0]⟩ : ByteArray).data.toList m = List.replicate m 0 := by
  induction m with
  | zero => rfl
  | succ m ih => rw [Lib.repeatL, ih]; rfl
def strings_Repeat.f (a0 : ByteArray) (a1 : Int) : Option ByteArray := if 0 ≤ a1 ∧ a1 ≤ 140737488355328 ∧ a0.size * a1.toNat ≤ 140737488355328 then some ⟨(Lib.repeatL a0.data.toList a1.toNat).toArray⟩ else none
theorem strings_Repeat.calls (a0 : ByteArray) (a1 : Int) (r : ByteArray) (w : World) (h : strings_Repeat.f a0 a1 = some r) :
    Calls Tryd.prog 45 #[.string a0, .int .i64 a1] w fun e w' => e = .returned (.string r) ∧ Below w.heap.size w w' := by
  unfold strings_Repeat.f at h
  split at h
  · rename_i hs
    simp only [Option.some.injEq] at h
    subst h
    have := Tryd.strings_Repeat a0 a1.toNat w (by omega) hs.2.2
    rw [show ((a1.toNat : Nat) : Int) = a1 by omega] at this
    exact this
  · cases h
/-- a row of texts that is read: its address has no spot, its cells. -/
theorem texts_at {w : World} {A : Option Addr} {l : List ByteArray} (h : Kd.C Kd.string w A l.length l) (hp : 0 < l.length) :
    ∃ b o, A = some ⟨b, o, none⟩ ∧ b < w.heap.size ∧ ∀ (j : Nat) x, l[j]? = some x → w.cell? ⟨b, o + j, none⟩ = some (.string x) := by
  obtain ⟨ad, e, hc⟩ := h.2.2 hp
  have hcell : ∀ (j : Nat) x, l[j]? = some x → w.cell? (ad.add j) = some (.string x) := fun j x hj => by
    obtain ⟨c, hs, hr, hcc⟩ := hc j x hj
    have hr' : c = [.string x] := hr
    subst hr'
    have := hcc 0 _ rfl
    simpa [Kd.string, Kd.scalar] using this
  obtain ⟨b, o, s⟩ := ad
  have h0 := hcell 0 l[0] (List.getElem?_eq_getElem hp)
  have e0 : (⟨b, o, s⟩ : Addr).add 0 = ⟨b, o, s⟩ := by simp [Addr.add]
  rw [e0] at h0
  have hs : s = none := by
    cases s with
    | none => rfl
    | some q => simp [World.cell?] at h0; split at h0 <;> simp at h0
  subst hs
  refine ⟨b, o, e, World.block_lt_of_cell? w _ h0, fun j x hj => ?_⟩
  have := hcell j x hj
  unfold Addr.add at this
  split at this
  · rename_i hj0; subst hj0; simpa using this
  · exact this
def mail_join.f (l : List ByteArray) : Option ByteArray := if l.length ≤ 140737488355328 ∧ (Lib.join (l.map (·.data.toList)) []).length ≤ 140737488355328 then some ⟨(Lib.join (l.map (·.data.toList)) []).toArray⟩ else none
set_option maxHeartbeats 400000 in
theorem mail_join.calls (A0 : Option Addr) (c0 : Nat) (l0 : List ByteArray) (r : ByteArray) (w : World) (hr0 : Kd.C Kd.string w A0 l0.length l0) (hc0 : l0.length ≤ c0) (h : mail_join.f l0 = some r) :
    Calls Tryd.prog 39 #[.slice A0 l0.length c0] w fun e w' => e = .returned (.string r) ∧ Below w.heap.size w w' := by
  unfold mail_join.f at h
  split at h
  · rename_i hs
    simp only [Option.some.injEq] at h
    subst h
    have hJ : Calls Tryd.prog 54 #[.slice A0 l0.length c0, .string ⟨#[]⟩] w fun e w' => e = .returned (.string ⟨(Lib.join (l0.map (·.data.toList)) []).toArray⟩) ∧ Below w.heap.size w w' := by
      rcases Nat.eq_zero_or_pos l0.length with h0 | h0
      · have hl : l0 = [] := List.eq_nil_of_length_eq_zero h0
        subst hl
        exact (Tryd.strings_Join_none A0 c0 ⟨#[]⟩ w).mono fun e w' ⟨he, hw⟩ => ⟨he, by rw [hw]; exact Below.refl _ _⟩
      · obtain ⟨b, o, rfl, hb, hc⟩ := texts_at hr0 h0
        exact Tryd.strings_Join b o c0 l0 ⟨#[]⟩ w hc hb hs.1 hc0 hs.2
    have HJ := Lib.hid hJ
    clear hJ hr0 hs
    go_enter Tryd.func39, Tryd.ntmps39
    go_wp2_with fail
    refine HJ.out.mono ?_
    rintro e w' ⟨rfl, hb⟩
    have HB := Lib.hid hb
    clear hb
    go_wp2_with fail
    go_ret
    exact ⟨rfl, HB.out⟩
  · cases h
/-! ### ids, entries -/
def noIdL : List UInt8 := [0, 0, 0, 0, 0, 0, 0, 0, 0, 0, 0, 0, 0, 0, 0, 0]
def idB (a : ByteArray) : Bool := (a.size == 16) && (a.toList != noIdL)
set_option maxHeartbeats 400000 in
theorem isId_any (a : ByteArray) (w : World) : Calls Tryd.prog 73 #[.string a] w fun e w' => e = .returned (.bool (idB a)) ∧ w' = w := by
  by_cases h : a.size = 16
  · have e1 : ((a.size : Int) == 16) = true := by simp; omega
    have e2 := Lib.hid (show idB a = (a.toList != noIdL) by unfold idB; rw [h]; rfl)
    clear h
    go_enter Tryd.func73, Tryd.ntmps73
    go_wp2_with fail
    go_ret
    exact ⟨by rw [e2.out]; rfl, rfl⟩
  · have e1 : ((a.size : Int) == 16) = false := by simp; omega
    have e2 := Lib.hid (show idB a = false by unfold idB; rw [show (a.size == 16) = false by simpa using h]; rfl)
    clear h
    go_enter Tryd.func73, Tryd.ntmps73
    go_wp2_with fail
    go_ret
    exact ⟨by rw [e2.out]; rfl, rfl⟩
/-! ### slices.ContainsFunc -/
set_option maxHeartbeats 400000 in
theorem strangerF_any (a : ByteArray) (w : World) : Calls Tryd.prog 72 #[.string a] w fun e w' => e = .returned (.bool (!idB a)) ∧ w' = w := by
  go_enter Tryd.func72, Tryd.ntmps72
  go_wp2_with fail
  refine (isId_any a w).mono ?_
  rintro e w' ⟨rfl, rfl⟩
  go_wp2_with fail
  go_ret
  exact ⟨rfl, rfl⟩
set_option maxHeartbeats 400000 in
theorem filledF_any (a : S68) (w : World) : Calls Tryd.prog 70 #[.agg #[.string a.f0, .string a.f1]] w fun e w' => e = .returned (.bool (!((a.f0.toList == []) && (a.f1.toList == [])))) ∧ Below w.heap.size w w' := by
  go_enter Tryd.func70, Tryd.ntmps70
  go_wp2_with fail
  all_goals (go_ret; exact ⟨by simp [*], (Below.refl _ _).alloc (Nat.le_refl _) _⟩)
/-- the first one of whom it is said; the length: there is none. -/
def fstI {α : Type} (p : α → Bool) (l : List α) : Int := if l.any p then ((l.findIdx p : Nat) : Int) else -1
theorem fstI_hit {α : Type} (p : α → Bool) (l : List α) (k : Nat) (a : α) (ha : l[k]? = some a) (h1 : p a = true) (h0 : ∀ j x, j < k → l[j]? = some x → p x = false) : fstI p l = (k : Int) := by
  have hk : k < l.length := (List.getElem?_eq_some_iff.1 ha).1
  have hm : a ∈ l := List.mem_of_getElem? ha
  have hany : l.any p = true := List.any_eq_true.2 ⟨a, hm, h1⟩
  unfold fstI
  rw [if_pos hany]
  have : l.findIdx p = k := by
    rw [List.findIdx_eq hk]
    refine ⟨by rw [← h1]; congr 1; exact (List.getElem?_eq_some_iff.1 ha).2, fun j hj => ?_⟩
    exact h0 j _ hj (List.getElem?_eq_getElem (by omega))
  rw [this]
theorem fstI_none {α : Type} (p : α → Bool) (l : List α) (h0 : ∀ j x, j < l.length → l[j]? = some x → p x = false) : fstI p l = -1 := by
  unfold fstI
  rw [if_neg]
  intro h
  obtain ⟨x, hx, hp⟩ := List.any_eq_true.1 h
  obtain ⟨j, hj, rfl⟩ := List.mem_iff_getElem.1 hx
  have := h0 j _ hj (List.getElem?_eq_getElem hj)
  rw [this] at hp
  cases hp
theorem fstI_ge {α : Type} (p : α → Bool) (l : List α) : decide (0 ≤ fstI p l) = l.any p := by
  unfold fstI
  cases h : l.any p with
  | true => rw [if_pos rfl]; simp
  | false => rw [if_neg (by simp)]; simp
set_option maxHeartbeats 800000 in
theorem indexS_any (A0 : Option Addr) (c0 : Nat) (l0 : List ByteArray) (w : World) (hr0 : Kd.C Kd.string w A0 l0.length l0) (hc0 : l0.length ≤ c0) :
    Calls Tryd.prog 85 #[.slice A0 l0.length c0, .func (Fn.func 72) #[] #[]] w fun e w' => e = .returned (.int .i64 (fstI (fun a => !idB a) l0)) ∧ w' = w := by
  have hl := hr0.2.1
  have HR := Lib.hid hr0
  clear hr0
  obtain ⟨n, hn⟩ : ∃ n, n = l0.length := ⟨_, rfl⟩
  go_enter Tryd.func85, Tryd.ntmps85
  go_wp2_with fail
  go_loop [8] (fun v => ∃ k : Nat, k ≤ l0.length ∧ v = .int .i64 k ∧ Hid (∀ j x, j < k → l0[j]? = some x → (!idB x) = false)) (fun v => l0.length - (intOf v).toNat)
  case atStart => exact ⟨0, by omega, rfl, Lib.hid (fun j x hj => by omega)⟩
  case round =>
    obtain ⟨k, hk, rfl, H0⟩ := hrel
    by_cases hlt : k < l0.length
    · obtain ⟨b, o, rfl, hb, hc⟩ := texts_at HR.out (by omega)
      have hget := List.getElem?_eq_getElem hlt
      obtain ⟨a, ha⟩ : ∃ a, a = l0[k] := ⟨_, rfl⟩
      rw [← ha] at hget
      have HG := Lib.hid hget
      have c1 := hc k a hget
      have e1 : 0 ≤ (k : Int) ∧ (k : Int) < (l0.length : Int) := by omega
      clear hc hget ha
      go_wp2_with fail
      refine (strangerF_any a w).mono ?_
      rintro e w' ⟨rfl, rfl⟩
      cases hp : !idB a with
      | true =>
        have HF := Lib.hid (fstI_hit (fun a => !idB a) l0 k a HG.out hp H0.out)
        clear hp
        go_wp2_with fail
        go_ret
        exact ⟨by rw [HF.out]; rfl, rfl⟩
      | false =>
        have H1 : Hid (∀ j x, j < k + 1 → l0[j]? = some x → (!idB x) = false) := Lib.hid (fun j x hj hx => by
          rcases Nat.lt_or_ge j k with h | h
          · exact H0.out j x h hx
          · obtain rfl : j = k := by omega
            rw [HG.out] at hx
            cases hx
            exact hp)
        clear hp
        go_wp2_with fail
        go_round
        case rel => exact ⟨k + 1, by omega, by go_num, H1⟩
        case measure => simp [intOf]; omega
    · obtain rfl : k = l0.length := by omega
      have HF := Lib.hid (fstI_none (fun a => !idB a) l0 H0.out)
      go_wp2_with fail
      go_ret
      exact ⟨by rw [HF.out]; rfl, rfl⟩
set_option maxHeartbeats 400000 in
theorem containsS_any (A0 : Option Addr) (c0 : Nat) (l0 : List ByteArray) (w : World) (hr0 : Kd.C Kd.string w A0 l0.length l0) (hc0 : l0.length ≤ c0) :
    Calls Tryd.prog 71 #[.slice A0 l0.length c0, .func (Fn.func 72) #[] #[]] w fun e w' => e = .returned (.bool (l0.any fun a => !idB a)) ∧ w' = w := by
  have HC := Lib.hid (indexS_any A0 c0 l0 w hr0 hc0)
  have HE := Lib.hid (fstI_ge (fun a => !idB a) l0)
  clear hr0
  go_enter Tryd.func71, Tryd.ntmps71
  go_wp2_with fail
  refine HC.out.mono ?_
  rintro e w' ⟨rfl, rfl⟩
  go_wp2_with fail
  go_ret
  exact ⟨by rw [← HE.out]; rfl, rfl⟩
set_option maxHeartbeats 400000 in
theorem stranger_any (A0 : Option Addr) (c0 : Nat) (l0 : List ByteArray) (w : World) (hr0 : Kd.C Kd.string w A0 l0.length l0) (hc0 : l0.length ≤ c0) :
    Calls Tryd.prog 53 #[.slice A0 l0.length c0] w fun e w' => e = .returned (.bool (l0.any fun a => !idB a)) ∧ w' = w := by
  have HC := Lib.hid (containsS_any A0 c0 l0 w hr0 hc0)
  clear hr0
  go_enter Tryd.func53, Tryd.ntmps53
  go_wp2_with fail
  refine HC.out.mono ?_
  rintro e w' ⟨rfl, rfl⟩
  go_wp2_with fail
  go_ret
  exact ⟨rfl, rfl⟩
def mail_stranger.f (l : List ByteArray) : Option Bool := some (l.any fun a => !idB a)
theorem mail_stranger.calls (A0 : Option Addr) (c0 : Nat) (l0 : List ByteArray) (r : Bool) (w : World) (hr0 : Kd.C Kd.string w A0 l0.length l0) (hc0 : l0.length ≤ c0) (h : mail_stranger.f l0 = some r) :
    Calls Tryd.prog 53 #[.slice A0 l0.length c0] w fun e w' => e = .returned (.bool r) ∧ Drawn0 w w' := by
  simp only [mail_stranger.f, Option.some.injEq] at h
  subst h
  exact (stranger_any A0 c0 l0 w hr0 hc0).mono fun e w' ⟨he, hw⟩ => ⟨he, by rw [hw]; exact Drawn0.refl w⟩
/-! ### entries of a reply -/
def entryB (a : S68) : Bool := idB a.f0 && decide (a.f1.size ≤ 222)
def someB (a : S68) : Bool := !((a.f0.toList == []) && (a.f1.toList == []))
set_option maxHeartbeats 400000 in
theorem entry_any (a : S68) (w : World) : Calls Tryd.prog 68 #[.agg #[.string a.f0, .string a.f1]] w fun e w' => e = .returned (.bool (entryB a)) ∧ Below w.heap.size w w' := by
  cases h : idB a.f0 with
  | true =>
    have e2 := Lib.hid (show entryB a = decide ((a.f1.size : Int) ≤ 222) by
      unfold entryB; rw [h, Bool.true_and, Bool.eq_iff_iff]; simp; omega)
    have e3 := Lib.hid h
    clear h
    go_enter Tryd.func68, Tryd.ntmps68
    go_wp2_with fail
    refine (isId_any a.f0 _).mono ?_
    rintro e w' ⟨rfl, rfl⟩
    rw [e3.out]
    go_wp2_with fail
    go_ret
    exact ⟨by rw [e2.out]; rfl, (Below.refl _ _).alloc (Nat.le_refl _) _⟩
  | false =>
    have e2 := Lib.hid (show entryB a = false by unfold entryB; rw [h, Bool.false_and])
    have e3 := Lib.hid h
    clear h
    go_enter Tryd.func68, Tryd.ntmps68
    go_wp2_with fail
    refine (isId_any a.f0 _).mono ?_
    rintro e w' ⟨rfl, rfl⟩
    rw [e3.out]
    go_wp2_with fail
    go_ret
    exact ⟨by rw [e2.out]; rfl, (Below.refl _ _).alloc (Nat.le_refl _) _⟩
/-- a row of slots that is read: its address has no spot, its cells. -/
theorem slots_at {w : World} {A : Option Addr} {n : Nat} {l : List S68} (h : Kd.C k68 w A n l) (hp : 0 < n) :
    ∃ b o, A = some ⟨b, o, none⟩ ∧ b < w.heap.size ∧ ∀ (j : Nat) x, l[j]? = some x → w.cell? ⟨b, o + j * 2, none⟩ = some (.string x.f0) ∧ w.cell? ⟨b, o + j * 2 + 1, none⟩ = some (.string x.f1) := by
  obtain ⟨ad, e, hc⟩ := h.2.2 hp
  have hln : l.length = n := h.1
  have hcell : ∀ (j : Nat) x, l[j]? = some x → w.cell? (ad.add (j * 2)) = some (.string x.f0) ∧ w.cell? (ad.add (j * 2 + 1)) = some (.string x.f1) := fun j x hj => by
    obtain ⟨c, hs, hr, hcc⟩ := hc j x hj
    obtain rfl := k68_open hr
    exact ⟨hcc 0 _ rfl, hcc 1 _ rfl⟩
  obtain ⟨b, o, s⟩ := ad
  have h0 := (hcell 0 l[0] (List.getElem?_eq_getElem (by omega))).1
  have e0 : (⟨b, o, s⟩ : Addr).add (0 * 2) = ⟨b, o, s⟩ := by simp [Addr.add]
  rw [e0] at h0
  have hs : s = none := by
    cases s with
    | none => rfl
    | some q => simp [World.cell?] at h0; split at h0 <;> simp at h0
  subst hs
  have ha : ∀ m, (⟨b, o, none⟩ : Addr).add m = ⟨b, o + m, none⟩ := fun m => by unfold Addr.add; split <;> simp_all
  refine ⟨b, o, e, World.block_lt_of_cell? w _ h0, fun j x hj => ?_⟩
  have := hcell j x hj
  rw [ha, ha] at this
  exact this
set_option maxHeartbeats 800000 in
theorem indexF_any (A0 : Option Addr) (c0 n : Nat) (l0 : List S68) (w : World) (hr0 : Kd.C k68 w A0 n l0) (hc0 : n ≤ c0) :
    Calls Tryd.prog 84 #[.slice A0 n c0, .func (Fn.func 70) #[] #[]] w fun e w' => e = .returned (.int .i64 (fstI someB l0)) ∧ Below w.heap.size w w' := by
  have hl := hr0.2.1
  have hln : l0.length = n := hr0.1
  have HR := Lib.hid hr0
  have HLN := Lib.hid hln
  clear hr0 hln
  go_enter Tryd.func84, Tryd.ntmps84
  go_wp2_with fail
  go_loopw [8] (fun v wr => ∃ k : Nat, k ≤ n ∧ v = .int .i64 k ∧ Hid (∀ j x, j < k → l0[j]? = some x → someB x = false) ∧ Below w.heap.size w wr) (fun v _ => n - (intOf v).toNat)
  case atStart => exact ⟨0, by omega, rfl, Lib.hid (fun j x hj => by omega), Below.refl _ _⟩
  case round =>
    obtain ⟨k, hk, rfl, H0, hb0⟩ := hrel
    have HB := Lib.hid hb0
    clear hb0
    by_cases hlt : k < n
    · obtain ⟨b, o, rfl, hb, hc⟩ := slots_at HR.out (by omega)
      have hget := List.getElem?_eq_getElem (show k < l0.length by rw [HLN.out]; exact hlt)
      obtain ⟨a, ha⟩ : ∃ a, a = l0[k]'(by rw [HLN.out]; exact hlt) := ⟨_, rfl⟩
      rw [← ha] at hget
      have HG := Lib.hid hget
      have c1 := (HB.out.cell (p := ⟨b, o + k * 2, none⟩) hb).trans (hc k a hget).1
      have c2 := (HB.out.cell (p := ⟨b, o + k * 2 + 1, none⟩) hb).trans (hc k a hget).2
      have e1 : 0 ≤ (k : Int) ∧ (k : Int) < (n : Int) := by omega
      clear hc hget ha
      go_wp2_with fail
      refine (filledF_any a wr).mono ?_
      rintro e w' ⟨rfl, hb2⟩
      have HB2 := Lib.hid (HB.out.trans (hb2.mono HB.out.size))
      clear hb2
      change Hid _ at HG
      rw [show (!((a.f0.toList == []) && (a.f1.toList == []))) = someB a from rfl]
      cases hp : someB a with
      | true =>
        have HF := Lib.hid (fstI_hit someB l0 k a HG.out hp H0.out)
        clear hp
        go_wp2_with fail
        go_ret
        exact ⟨by rw [HF.out]; rfl, HB2.out⟩
      | false =>
        have H1 : Hid (∀ j x, j < k + 1 → l0[j]? = some x → someB x = false) := Lib.hid (fun j x hj hx => by
          rcases Nat.lt_or_ge j k with h | h
          · exact H0.out j x h hx
          · obtain rfl : j = k := by omega
            rw [HG.out] at hx
            cases hx
            exact hp)
        clear hp
        go_wp2_with fail
        go_roundw
        case rel => exact ⟨k + 1, by omega, by go_num, H1, HB2.out⟩
        case measure => simp [intOf]; omega
    · obtain rfl : k = n := by omega
      have HF := Lib.hid (fstI_none someB l0 (by rw [HLN.out]; exact H0.out))
      go_wp2_with fail
      go_ret
      exact ⟨by rw [HF.out]; rfl, HB.out⟩
set_option maxHeartbeats 400000 in
theorem containsF_any (A0 : Option Addr) (c0 n : Nat) (l0 : List S68) (w : World) (hr0 : Kd.C k68 w A0 n l0) (hc0 : n ≤ c0) :
    Calls Tryd.prog 69 #[.slice A0 n c0, .func (Fn.func 70) #[] #[]] w fun e w' => e = .returned (.bool (l0.any someB)) ∧ Below w.heap.size w w' := by
  have HC := Lib.hid (indexF_any A0 c0 n l0 w hr0 hc0)
  have HE := Lib.hid (fstI_ge someB l0)
  clear hr0
  go_enter Tryd.func69, Tryd.ntmps69
  go_wp2_with fail
  refine HC.out.mono ?_
  rintro e w' ⟨rfl, hb⟩
  have HB := Lib.hid hb
  clear hb
  go_wp2_with fail
  go_ret
  exact ⟨by rw [← HE.out]; rfl, HB.out⟩
/-- how many entries stand ahead. -/
def leadN (l : List S68) : Nat := (l.takeWhile entryB).length
def filledB (l : List S68) : Bool := (l.length == 4) && !((l.drop (leadN l)).any someB)
theorem leadN_at (l : List S68) (k : Nat) (hk : k ≤ l.length) (h0 : ∀ j x, j < k → l[j]? = some x → entryB x = true) (h1 : ∀ x, l[k]? = some x → entryB x = false) : leadN l = k := by
  induction l generalizing k with
  | nil => simp at hk; subst hk; rfl
  | cons a l ih =>
    unfold leadN
    cases k with
    | zero =>
      have := h1 a rfl
      simp [List.takeWhile_cons, this]
    | succ k =>
      have := h0 0 a (by omega) rfl
      simp only [List.takeWhile_cons, this, if_true, List.length_cons]
      congr 1
      exact ih k (by simpa using hk) (fun j x hj hx => h0 (j + 1) x (by omega) (by simpa using hx)) (fun x hx => h1 x (by simpa using hx))
theorem kdC_drop {w : World} {b o n : Nat} {l : List S68} (h : Kd.C k68 w (some ⟨b, o, none⟩) n l) (k : Nat) (hk : k < n) : Kd.C k68 w (some ⟨b, o + k * 2, none⟩) (n - k) (l.drop k) := by
  refine ⟨by rw [List.length_drop, h.1], by have := h.2.1; omega, fun hp => ⟨_, rfl, fun j p hj => ?_⟩⟩
  obtain ⟨b', o', e, hb, hc⟩ := slots_at h (by omega)
  injection e with e
  injection e with e1 e2
  subst e1; subst e2
  rw [List.getElem?_drop] at hj
  refine ⟨_, rfl, k68_mk w p, fun i u hi => ?_⟩
  have ha : ∀ m, (⟨b, o + k * 2, none⟩ : Addr).add m = ⟨b, o + k * 2 + m, none⟩ := fun m => by unfold Addr.add; split <;> simp_all
  have hsz : k68.sz = 2 := rfl
  rw [ha, hsz]
  have := hc (k + j) p hj
  rw [show o + (k + j) * 2 = o + k * 2 + j * 2 by omega] at this
  match i, hi with
  | 0, hi => simp at hi; subst hi; exact this.1
  | 1, hi => simp at hi; subst hi; exact this.2
  | i + 2, hi => simp at hi
set_option maxHeartbeats 1600000 in
theorem filled_any (A0 : Option Addr) (c0 : Nat) (l0 : List S68) (w : World) (hr0 : Kd.C k68 w A0 l0.length l0) (hc0 : l0.length ≤ c0) :
    Calls Tryd.prog 52 #[.slice A0 l0.length c0] w fun e w' => e = .returned (.bool (filledB l0)) ∧ Below w.heap.size w w' := by
  have hl := hr0.2.1
  have HR := Lib.hid hr0
  clear hr0
  go_enter Tryd.func52, Tryd.ntmps52
  go_wp2_with fail
  go_loopw [3] (fun v wr => ∃ k : Nat, k ≤ l0.length ∧ v = .int .i64 k ∧ Hid (∀ j x, j < k → l0[j]? = some x → entryB x = true) ∧ Below w.heap.size w wr) (fun v _ => l0.length - (intOf v).toNat)
  case atStart => exact ⟨0, by omega, rfl, Lib.hid (fun j x hj => by omega), Below.refl _ _⟩
  case round =>
    obtain ⟨k, hk, rfl, H0, hb0⟩ := hrel
    have HB := Lib.hid hb0
    clear hb0
    have key : ∀ wz : World, Below w.heap.size w wz → (∀ x, l0[k]? = some x → entryB x = false) → True := fun _ _ _ => trivial
    by_cases hlt : k < l0.length
    · obtain ⟨b, o, rfl, hb, hc⟩ := slots_at HR.out (by omega)
      have hget := List.getElem?_eq_getElem hlt
      obtain ⟨a, ha⟩ : ∃ a, a = l0[k] := ⟨_, rfl⟩
      rw [← ha] at hget
      have HG := Lib.hid hget
      have c1 := (HB.out.cell (p := ⟨b, o + k * 2, none⟩) hb).trans (hc k a hget).1
      have c2 := (HB.out.cell (p := ⟨b, o + k * 2 + 1, none⟩) hb).trans (hc k a hget).2
      have e1 : 0 ≤ (k : Int) ∧ (k : Int) < (l0.length : Int) := by omega
      clear hc hget ha key
      go_wp2_with fail
      refine (entry_any a wr).mono ?_
      rintro e w1 ⟨rfl, hb2⟩
      have HB2 := Lib.hid (HB.out.trans (hb2.mono HB.out.size))
      clear hb2 c1 c2
      cases hp : entryB a with
      | true =>
        have H1 : Hid (∀ j x, j < k + 1 → l0[j]? = some x → entryB x = true) := Lib.hid (fun j x hj hx => by
          rcases Nat.lt_or_ge j k with h | h
          · exact H0.out j x h hx
          · obtain rfl : j = k := by omega
            rw [HG.out] at hx
            cases hx
            exact hp)
        clear hp
        go_wp2_with fail
        go_roundw
        case rel => exact ⟨k + 1, by omega, by go_num, H1, HB2.out⟩
        case measure => simp [intOf]; omega
      | false =>
        have hk2 := leadN_at l0 k hk H0.out (fun x hx => by rw [HG.out] at hx; cases hx; exact hp)
        have HL := Lib.hid hk2
        clear hk2 hp
        by_cases h4 : l0.length = 4
        · have e4 : ((l0.length : Int) == 4) = true := by simp; omega
          have HF := Lib.hid (show filledB l0 = !((l0.drop k).any someB) by unfold filledB; rw [HL.out, h4]; rfl)
          have HC : ∀ c1, l0.length - k ≤ c1 → Calls Tryd.prog 69 #[.slice (some ⟨b, o + k * 2, none⟩) (l0.length - k) c1, .func (Fn.func 70) #[] #[]] w1 fun e w' => e = .returned (.bool ((l0.drop k).any someB)) ∧ Below w1.heap.size w1 w' :=
            fun c1 hc1 => containsF_any _ c1 _ _ w1 (Kd.C_below (kdC_drop HR.out k hlt) (HB2.out)) hc1
          have HC2 := Lib.hid HC
          have e5 : (k : Int) ≤ (l0.length : Int) := by omega
          have e6 : ¬ c0 = k := by omega
          clear h4 HC
          go_wp2_with fail
          refine (HC2.out _ (by omega)).mono ?_
          rintro e w2 ⟨rfl, hb3⟩
          have HB3 := Lib.hid (HB2.out.trans (hb3.mono HB2.out.size))
          clear hb3
          go_wp2_with fail
          go_ret
          exact ⟨by rw [HF.out]; rfl, HB3.out⟩
        · have e4 : ((l0.length : Int) == 4) = false := by simp; omega
          have HF := Lib.hid (show filledB l0 = false by unfold filledB; rw [show (l0.length == 4) = false by simpa using h4]; rfl)
          clear h4
          go_wp2_with fail
          go_ret
          exact ⟨by rw [HF.out]; rfl, HB2.out⟩
    · obtain rfl : k = l0.length := by omega
      have hk2 := leadN_at l0 l0.length (Nat.le_refl _) H0.out (fun x hx => by rw [List.getElem?_eq_none (Nat.le_refl _)] at hx; cases hx)
      have HL := Lib.hid hk2
      clear hk2 key
      by_cases h4 : l0.length = 4
      · have e4 : ((l0.length : Int) == 4) = true := by simp; omega
        have HF := Lib.hid (show filledB l0 = !(([] : List S68).any someB) by unfold filledB; rw [HL.out, List.drop_length, h4]; rfl)
        have HC : ∀ A c1, Calls Tryd.prog 69 #[.slice A 0 c1, .func (Fn.func 70) #[] #[]] wr fun e w' => e = .returned (.bool (([] : List S68).any someB)) ∧ Below wr.heap.size wr w' :=
          fun A c1 => containsF_any A c1 0 [] wr ⟨rfl, by omega, fun h => absurd h (by omega)⟩ (by omega)
        have HC2 := Lib.hid HC
        obtain ⟨g, hg, hg2⟩ : ∃ g, g = l0.length ∧ 0 < g := ⟨_, rfl, by omega⟩
        obtain ⟨b, o, rfl, hb, hc⟩ := slots_at HR.out (by omega)
        clear HC hc hg hg2 h4
        by_cases h5 : c0 = l0.length
        · subst h5
          go_wp2_with fail
          refine (HC2.out _ _).mono ?_
          rintro e w2 ⟨rfl, hb3⟩
          have HB3 := Lib.hid (HB.out.trans (hb3.mono HB.out.size))
          clear hb3
          go_wp2_with fail
          go_ret
          exact ⟨by rw [HF.out]; rfl, HB3.out⟩
        · go_wp2_with fail
          refine (HC2.out _ _).mono ?_
          rintro e w2 ⟨rfl, hb3⟩
          have HB3 := Lib.hid (HB.out.trans (hb3.mono HB.out.size))
          clear hb3
          go_wp2_with fail
          go_ret
          exact ⟨by rw [HF.out]; rfl, HB3.out⟩
      · have e4 : ((l0.length : Int) == 4) = false := by simp; omega
        have HF := Lib.hid (show filledB l0 = false by unfold filledB; rw [show (l0.length == 4) = false by simpa using h4]; rfl)
        clear h4
        go_wp2_with fail
        go_ret
        exact ⟨by rw [HF.out]; rfl, HB.out⟩
def mail_filled.f (l : List S68) : Option Bool := some (filledB l)
theorem mail_filled.calls (A0 : Option Addr) (c0 : Nat) (l0 : List S68) (r : Bool) (w : World) (hr0 : Kd.C k68 w A0 l0.length l0) (hc0 : l0.length ≤ c0) (h : mail_filled.f l0 = some r) :
    Calls Tryd.prog 52 #[.slice A0 l0.length c0] w fun e w' => e = .returned (.bool r) ∧ Below w.heap.size w w' := by
  simp only [mail_filled.f, Option.some.injEq] at h
  subst h
  exact filled_any A0 c0 l0 w hr0 hc0
end Go.Proofs.YtjmgkjjcdnaapaaDoor
namespace Go.Proofs.YtjmgkjjcdnaapaaDoor
open Go.RowKit
set_option linter.unusedSimpArgs false
set_option linter.unusedVariables false
set_option maxRecDepth 100000
/-- a block's cells are these bytes, and may be written. -/
def Cb (w : World) (g : Nat) (l : List UInt8) : Prop := g < w.heap.size ∧ ∀ i, i < l.length → w.cell? ⟨g, i, none⟩ = some (.int .u8 (n8 (bd l i))) ∧ w.frozen? ⟨g, i, none⟩ = false
theorem bd_set_eq (l : List UInt8) (i : Nat) (x : UInt8) (h : i < l.length) : bd (l.set i x) i = x := by
  simp [bd, List.getD, List.getElem?_set, h]
theorem bd_set_ne (l : List UInt8) (i j : Nat) (x : UInt8) (h : i ≠ j) : bd (l.set i x) j = bd l j := by
  simp [bd, List.getD, List.getElem?_set, h]
theorem Cb.set_ {w : World} {g : Nat} {l : List UInt8} (h : Cb w g l) (i : Nat) (hi : i < l.length) (x : UInt8) : Cb (w.setCell ⟨g, i, none⟩ (.int .u8 (n8 x))) g (l.set i x) := by
  refine ⟨by simpa using h.1, fun j hj => ?_⟩
  rw [List.length_set] at hj
  refine ⟨?_, by rw [World.frozen?_setCell]; exact (h.2 j hj).2⟩
  by_cases hij : i = j
  · subst hij
    rw [bd_set_eq _ _ _ hi]
    exact World.cell?_setCell_same _ _ _ (h.2 i hi).1
  · rw [bd_set_ne _ _ _ _ hij, World.cell?_setCell_other _ _ _ _ (by simp [hij])]
    exact (h.2 j hj).1
theorem Cb.drew {w : World} {g : Nat} {l : List UInt8} (h : Cb w g l) : Cb w.drew g l := h
theorem Cb.drewN {w : World} {g : Nat} {l : List UInt8} (h : Cb w g l) (n : Nat) : Cb (w.drewN n) g l := h
theorem cb_of_string {P : Program} (w : World) (src dst e : TypeId) (l : List UInt8) (hs : P.underlying src = some .string) (hd : P.underlying dst = some (.slice e)) (he : P.underlying e = some (.int .u8)) (B : Nat) (hB : B ≤ w.heap.size) :
    ∃ cap w', (convert src dst (.string ⟨l.toArray⟩)).run P w = .ok (.slice (some ⟨w.heap.size, 0, none⟩) l.length cap) w' ∧ Cb w' w.heap.size l ∧ Below B w w' := by
  have hsz : (⟨l.toArray⟩ : ByteArray).size = l.length := by simp [ByteArray.size]
  have hr := run_bytes_of_string w src dst e ⟨l.toArray⟩ hs hd he
  rw [hsz] at hr
  refine ⟨_, _, hr, ⟨by simp, fun i hi => ⟨?_, ?_⟩⟩, ((Below.refl B w).drew).alloc (by simpa using hB) _⟩
  · have hh := heap_alloc_new w.drew (.cells (bytesRow ⟨l.toArray⟩ (grownCap w l.length 0 e)) e ((bytesRow ⟨l.toArray⟩ (grownCap w l.length 0 e)).size, (bytesRow ⟨l.toArray⟩ (grownCap w l.length 0 e)).size + 1))
    have hc := bytesRow_at ⟨l.toArray⟩ (grownCap w l.length 0 e) i (by simpa using hi)
    have hh' : (w.drew.alloc (.cells (bytesRow ⟨l.toArray⟩ (grownCap w l.length 0 e)) e ((bytesRow ⟨l.toArray⟩ (grownCap w l.length 0 e)).size, (bytesRow ⟨l.toArray⟩ (grownCap w l.length 0 e)).size + 1))).heap[w.heap.size]? = some (.cells (bytesRow ⟨l.toArray⟩ (grownCap w l.length 0 e)) e ((bytesRow ⟨l.toArray⟩ (grownCap w l.length 0 e)).size, (bytesRow ⟨l.toArray⟩ (grownCap w l.length 0 e)).size + 1)) := hh
    unfold World.cell?
    simp only [hh', Option.isSome_none, Bool.false_eq_true, if_false]
    rw [hc]
    simp [bd, n8, List.getElem?_eq_getElem hi]
  · have hh' : (w.drew.alloc (.cells (bytesRow ⟨l.toArray⟩ (grownCap w l.length 0 e)) e ((bytesRow ⟨l.toArray⟩ (grownCap w l.length 0 e)).size, (bytesRow ⟨l.toArray⟩ (grownCap w l.length 0 e)).size + 1))).heap[w.heap.size]? = some (.cells (bytesRow ⟨l.toArray⟩ (grownCap w l.length 0 e)) e ((bytesRow ⟨l.toArray⟩ (grownCap w l.length 0 e)).size, (bytesRow ⟨l.toArray⟩ (grownCap w l.length 0 e)).size + 1)) := heap_alloc_new w.drew _
    unfold World.frozen?
    simp only [hh']
    have hb : l.length ≤ (bytesRow ⟨l.toArray⟩ (grownCap w l.length 0 e)).size := by simp [bytesRow]
    simp
    omega
theorem Cb.string {P : Program} {w : World} {g : Nat} {l : List UInt8} (h : Cb w g l) (src dst e : TypeId) (cap : Nat) (hs : P.underlying src = some (.slice e)) (he : P.underlying e = some (.int .u8)) (hd : P.underlying dst = some .string) :
    (convert src dst (.slice (some ⟨g, 0, none⟩) l.length cap)).run P w = .ok (.string ⟨l.toArray⟩) w :=
  run_convert_bytes_back w src dst e ⟨g, 0, none⟩ cap l hs he hd (fun j hj => by
    have := (h.2 j hj).1
    rw [bd, List.getD, List.getElem?_eq_getElem hj] at this
    unfold Addr.add
    split
    · rename_i h0; subst h0; exact this
    · simpa [n8] using this)
theorem n8_xor (x y : UInt8) : bits .xor .u8 (n8 x) (n8 y) = n8 (x ^^^ y) := by
  show IntKind.u8.wrap ((BitVec.ofInt 8 (n8 x) ^^^ BitVec.ofInt 8 (n8 y)).toNat : Int) = _
  have e : ∀ z : UInt8, BitVec.ofInt 8 (n8 z) = z.toBitVec := fun z => by
    unfold n8
    rw [BitVec.ofInt_natCast]
    simp
  rw [e, e, ← UInt8.toBitVec_xor]
  show IntKind.u8.wrap ((x ^^^ y).toNat : Int) = _
  rw [IntKind.wrap_u8']
  have := (x ^^^ y).toNat_lt
  show _ = ((x ^^^ y).toNat : Int)
  omega
end Go.Proofs.YtjmgkjjcdnaapaaDoor
namespace Go.Proofs.YtjmgkjjcdnaapaaDoor
open Go.RowKit
set_option linter.unusedSimpArgs false
set_option linter.unusedVariables false
set_option maxRecDepth 100000
theorem KsAt.below {w w' : World} (h : KsAt w) (hg : 0 < w.heap.size) (hb : Below w.heap.size w w') : KsAt w' := fun i hi => (hb.cell (p := ⟨0, i, none⟩) hg).trans (h i hi)
theorem strs_one (w : World) (t : TypeId) (a : List UInt8) : Strs (w.alloc (.cells #[.string ⟨a.toArray⟩] t)) (some ⟨w.heap.size, 0, none⟩) 1 [a] :=
  ⟨rfl, fun _ => ⟨w.heap.size, 0, rfl, by simp, fun i hi => by
    obtain rfl : i = 0 := by omega
    exact (Blk.new w t #[.string ⟨a.toArray⟩]).cell 0⟩⟩
theorem strs_two (w : World) (t : TypeId) (a b : List UInt8) : Strs (w.alloc (.cells #[.string ⟨a.toArray⟩, .string ⟨b.toArray⟩] t)) (some ⟨w.heap.size, 0, none⟩) 2 [a, b] :=
  ⟨rfl, fun _ => ⟨w.heap.size, 0, rfl, by simp, fun i hi => by
    rcases (show i = 0 ∨ i = 1 by omega) with rfl | rfl
    · exact (Blk.new w t #[.string ⟨a.toArray⟩, .string ⟨b.toArray⟩]).cell 0
    · exact (Blk.new w t #[.string ⟨a.toArray⟩, .string ⟨b.toArray⟩]).cell 1⟩⟩
theorem cat_eq (a b : List UInt8) : (⟨a.toArray⟩ : ByteArray) ++ (⟨b.toArray⟩ : ByteArray) = ⟨(a ++ b).toArray⟩ := by
  apply ByteArray.ext
  simp
end Go.Proofs.YtjmgkjjcdnaapaaDoor
namespace Go.Proofs.YtjmgkjjcdnaapaaDoor
set_option linter.unusedSimpArgs false
set_option linter.unusedVariables false
set_option maxRecDepth 100000
/-- the key, or its digest. -/
def keyL (k : List UInt8) : List UInt8 := if 64 < k.length then sha k else k
/-- .. and bytes 0 behind it. -/
def key64 (k : List UInt8) : List UInt8 := keyL k ++ List.replicate (64 - (keyL k).length) 0
def padL (k : List UInt8) (b : UInt8) : List UInt8 := (key64 k).map (· ^^^ b)
def tagL (k t : List UInt8) : List UInt8 := sha (padL k 92 ++ sha (padL k 54 ++ t))
theorem keyL_le (k : List UInt8) : (keyL k).length ≤ 64 := by
  unfold keyL
  split
  · rw [sha_length]; omega
  · omega
theorem key64_length (k : List UInt8) : (key64 k).length = 64 := by
  have := keyL_le k
  simp [key64]
  omega
theorem padL_length (k : List UInt8) (b : UInt8) : (padL k b).length = 64 := by simp [padL, key64_length]
theorem tagL_length (k t : List UInt8) : (tagL k t).length = 32 := sha_length _
end Go.Proofs.YtjmgkjjcdnaapaaDoor
namespace Go.Proofs.YtjmgkjjcdnaapaaDoor
open Go.RowKit
set_option linter.unusedSimpArgs false
set_option linter.unusedVariables false
set_option maxRecDepth 100000
section
variable {P : Program} {t e ty : TypeId} {z : Value} {by_ : Nat} {w w' : World} {B : Nat} {v : Value} {xs : List Value}
end
end Go.Proofs.YtjmgkjjcdnaapaaDoor
namespace Go.Proofs.YtjmgkjjcdnaapaaDoor
open Go.RowKit
set_option linter.unusedSimpArgs false
set_option linter.unusedVariables false
set_option maxRecDepth 100000
section
variable {P : Program} {t e ty : TypeId} {z : Value} {by_ : Nat} {w w' : World} {B : Nat} {v : Value} {xs : List Value}
theorem own_append_from (he : Elem P t e z by_) (h : Own e w B v xs) (g o m c : Nat) (news : List Value) (hm : news.length = m) (hb : ∀ j u, news[j]? = some u → w.cell? ⟨g, o + j, none⟩ = some u) (h1 : ∀ u ∈ news, u.oneCell' = true)
    (hl : (xs.length + m) * by_ ≤ 140737488355328) (hl2 : xs.length + m ≤ 9223372036854775807) (hB : B ≤ w.heap.size) :
    ∃ A c' w', (Builtin.append_ #[t, t] ty #[v, .slice (some ⟨g, o, none⟩) m c]).run P w = .ok (.slice A (xs.length + m) c') w' ∧ Own e w' B (.slice A (xs.length + m) c') (xs ++ news) ∧ w.grownBy w' v.ownBlock := by
  obtain ⟨i, hi, hz, hs, hby⟩ := info_parts he.2.1
  obtain ⟨v', w', hr, h2, h3, _⟩ := run_append_own (P := P) w B t ty e i z 1 by_ he.1 hi hz hs hby he.2.2 (by decide) v xs.length xs h ⟨g, o, none⟩ m c news (by rw [hm, Nat.mul_one]) (fun j u hj => by
    have := hb j u hj
    unfold Addr.add
    split
    · rename_i h0; subst h0; exact this
    · exact this) h1 hl2 hl hB
  have ho : Own e w' B v' (xs ++ news) := by
    unfold Own
    rw [List.length_append, hm]
    exact h2
  obtain ⟨A, c', rfl⟩ := ho.form
  rw [List.length_append, hm] at ho hr
  exact ⟨A, c', w', hr, ho, h3⟩
end
end Go.Proofs.YtjmgkjjcdnaapaaDoor
namespace Go.Proofs.YtjmgkjjcdnaapaaDoor
open Go.RowKit
set_option linter.unusedSimpArgs false
set_option linter.unusedVariables false
set_option maxRecDepth 100000
theorem elemStr : Elem Tryd.prog 23 9 (.string ⟨#[]⟩) 16 := ⟨Tryd.underlying23, by kernel_rfl, rfl⟩
theorem Own.strs {w : World} {B : Nat} {A : Option Addr} {n c : Nat} {ls : List (List UInt8)} (h : Own 9 w B (.slice A n c) (cstr ls)) : Strs w A n ls := by
  obtain ⟨A', c', hv⟩ := h.form
  injection hv with h1 h2 h3
  refine ⟨by rw [h2, cstr_length], fun hn => ?_⟩
  obtain ⟨g, hA, hB, hg⟩ := h.at_ (by omega)
  subst hA
  refine ⟨g, 0, rfl, hg, fun i hi => ?_⟩
  rw [Nat.zero_add, h.cell i (by omega), cstr_get _ _ (by rw [← cstr_length, ← h2]; exact hi)]

theorem Strs.at_ {w : World} {g o n : Nat} {ls : List (List UInt8)} (h : Strs w (some ⟨g, o, none⟩) n ls) (k : Nat) (hk : k < n) : w.cell? ⟨g, o + k, none⟩ = some (.string ⟨(ls.getD k []).toArray⟩) := by
  obtain ⟨g', o', e, _, hc⟩ := h.2 (by omega)
  injection e with e
  injection e with e1 e2
  subst e1; subst e2
  exact hc k hk
end Go.Proofs.YtjmgkjjcdnaapaaDoor
namespace Go.Proofs.YtjmgkjjcdnaapaaDoor
open Go.RowKit
set_option linter.unusedSimpArgs false
set_option linter.unusedVariables false
set_option maxRecDepth 100000
section
variable {P : Program} {t e ty : TypeId} {z : Value} {by_ : Nat} {w w' : World} {B : Nat} {v : Value} {xs : List Value}
theorem my_own_lit (w : World) (e : TypeId) (xs : List Value) (hB : B ≤ w.heap.size) (hl : xs.length ≤ 9223372036854775807) : Own e (w.alloc (.cells xs.toArray e)) B (.slice (some ⟨w.heap.size, 0, none⟩) xs.length xs.length) xs :=
  ⟨by simp, .inr ⟨w.heap.size, xs.length, xs.toArray, rfl, hB, heap_alloc_new w _, Nat.le_refl _, hl, by simp, by simp⟩⟩
/-- nothing appended. -/
theorem run_append_zero (he : Elem P t e z by_) (w : World) (v : Value) (q : Option Addr) (n cap : Nat) (hv : v = .slice q n cap) (A : Option Addr) (c : Nat) :
    (Builtin.append_ #[t, t] ty #[v, .slice A 0 c]).run P w = .ok v w ∨ (n = 0 ∧ cap = 0 ∧ q = none) ∨ cap < n := by
  subst hv
  obtain ⟨i, hi, hz, hs, hby⟩ := info_parts he.2.1
  by_cases hc : cap < n
  · exact .inr (.inr hc)
  · left
    have hc' : n ≤ cap := by omega
    cases q <;> cases A <;> simp [Builtin.append_, run_underlying he.1, sizeOf, typeInfo, hi, Builtin.lenOf, Builtin.firstCells, loadCells, loadCellsFrom, storeCells, hc']
end
end Go.Proofs.YtjmgkjjcdnaapaaDoor
namespace Go.Proofs.YtjmgkjjcdnaapaaDoor
open Go.RowKit
set_option linter.unusedSimpArgs false
set_option linter.unusedVariables false
set_option maxRecDepth 100000
theorem repeat_zero (m : Nat) : Lib.repeatL (⟨#[0]⟩ : ByteArray).data.toList m = List.replicate m 0 := by
  induction m with
  | zero => rfl
  | succ m ih => rw [Lib.repeatL, ih]; rfl
/-- so many of them xor a byte. -/
def xorTo (l : List UInt8) (b : UInt8) (i : Nat) : List UInt8 := (l.take i).map (· ^^^ b) ++ l.drop i
theorem xorTo_length (l : List UInt8) (b : UInt8) (i : Nat) : (xorTo l b i).length = l.length := by
  simp [xorTo]
  omega
theorem xorTo_get (l : List UInt8) (b : UInt8) (i : Nat) (h : i < l.length) : bd (xorTo l b i) i = bd l i := by
  have hl : ((l.take i).map (· ^^^ b)).length = i := by simp; omega
  simp only [xorTo, bd, List.getD]
  rw [List.getElem?_append_right (by omega), hl, Nat.sub_self, List.getElem?_drop]
  simp
theorem xorTo_set (l : List UInt8) (b : UInt8) (i : Nat) (h : i < l.length) : (xorTo l b i).set i (bd l i ^^^ b) = xorTo l b (i + 1) := by
  have hl : ((l.take i).map (· ^^^ b)).length = i := by simp; omega
  unfold xorTo
  rw [List.set_append_right _ _ (by omega), hl, Nat.sub_self, List.drop_eq_getElem_cons h, List.set_cons_zero, List.take_succ_eq_append_getElem h, List.map_append, List.append_assoc]
  simp [bd, List.getD, List.getElem?_eq_getElem h]
set_option maxHeartbeats 1600000 in
set_option maxRecDepth 100000 in
theorem padded_any (k : List UInt8) (b : UInt8) (w : World) (hkl : k.length ≤ 140737488351232) (hk : KsAt w) (hg : 0 < w.heap.size) :
    Calls Tryd.prog 44 #[.string ⟨k.toArray⟩, .int .u8 (n8 b)] w fun e w' => e = .returned (.string ⟨(padL k b).toArray⟩) ∧ Below w.heap.size w w' := by
  have HK := Lib.hid hk
  clear hk
  have hszk : (⟨k.toArray⟩ : ByteArray).size = k.length := by simp [ByteArray.size]
  obtain ⟨x, hx⟩ : ∃ x, Hid (x = keyL k) := ⟨_, rfl⟩
  have hxl : x.length ≤ 64 := by rw [hx.out]; exact keyL_le k
  have hszx : (⟨x.toArray⟩ : ByteArray).size = x.length := by simp [ByteArray.size]
  obtain ⟨m, hm⟩ : ∃ m, Hid (m = 64 - x.length) := ⟨_, rfl⟩
  have e3 := Lib.hid (show (64 : Int) - (x.length : Int) = (m : Int) by rw [hm.out]; omega)
  obtain ⟨y, hy⟩ : ∃ y, Hid (y = key64 k) := ⟨_, rfl⟩
  have hyl : y.length = 64 := by rw [hy.out]; exact key64_length k
  have HY := Lib.hid (show x ++ List.replicate m 0 = y by rw [hy.out, key64, hm.out, hx.out])
  obtain ⟨zr, hzr⟩ : ∃ zr, Hid (zr = List.replicate m (0 : UInt8)) := ⟨_, rfl⟩
  have hszr : (⟨zr.toArray⟩ : ByteArray).size = m := by rw [hzr.out]; simp [ByteArray.size]
  have hm64 : m ≤ 64 := by rw [hm.out]; omega
  go_enter Tryd.func44, Tryd.ntmps44
  by_cases h64 : 64 < k.length
  · have h64i : (64 : Int) < (k.length : Int) := by omega
    have HX : Hid (sha k = x) := Lib.hid (by rw [hx.out, keyL, if_pos h64])
    go_wp2_with fail
    have B1 := Lib.hid ((Below.refl w.heap.size w).alloc (Nat.le_refl _) (.cells #[.string ⟨k.toArray⟩] 9))
    refine (sum_any _ 1 1 _ [k] (strs_one w 9 k) (by intro l hl; simp at hl; subst hl; omega) (by decide) (HK.out.below hg B1.out) (Nat.lt_of_lt_of_le hg B1.out.size)).mono ?_
    rintro e w2 ⟨rfl, b2⟩
    rw [show sha ([k] : List (List UInt8)).flatten = x by rw [← HX.out]; simp]
    have B2 := Lib.hid (B1.out.trans (b2.mono B1.out.size))
    clear b2
    go_wp2_with fail
    simp only [e3.out]
    refine (Tryd.strings_Repeat ⟨#[0]⟩ m w2 (by omega) (by simp [ByteArray.size]; omega)).mono ?_
    rintro e w3 ⟨rfl, b3⟩
    rw [repeat_zero, ← hzr.out]
    have B3 := Lib.hid (B2.out.trans (b3.mono B2.out.size))
    clear b3
    obtain ⟨cap, w4, hcv, hcb, hbl⟩ := cb_of_string (P := Tryd.prog) w3 9 61 5 y Tryd.underlying9 Tryd.underlying61 Tryd.underlying5 w.heap.size B3.out.size
    have B4 := Lib.hid (B3.out.trans hbl)
    have HC := Lib.hid hcb
    have hw34 := B3.out.size
    clear hcb hbl
    have hcat : (⟨x.toArray⟩ : ByteArray) ++ ⟨zr.toArray⟩ = ⟨y.toArray⟩ := by rw [cat_eq, hzr.out, HY.out]
    obtain ⟨g, hgw⟩ : ∃ g, g = w3.heap.size := ⟨_, rfl⟩
    rw [← hgw] at hcv HC hw34
    clear hgw
    go_wp2_with fail
    clear hcv
    go_loopw [6, 22] (fun v6 v22 wx => ∃ i : Nat, i ≤ 64 ∧ v22 = .int .i64 i ∧ Cb wx g (xorTo y b i) ∧ Below w.heap.size w wx) (fun _ v _ => 64 - (intOf v).toNat)
    case atStart => exact ⟨0, by omega, rfl, HC.out, B4.out⟩
    case round =>
      obtain ⟨i, hi, rfl, hC, hG⟩ := hrel
      have HC5 := Lib.hid hC
      have HG5 := Lib.hid hG
      clear hC hG
      have hxy := xorTo_length y b i
      by_cases hlt : i < 64
      · obtain ⟨z, hz⟩ : ∃ z, Hid (z = bd y i) := ⟨_, rfl⟩
        have c1 := (HC5.out.2 i (by omega)).1
        have f1 := (HC5.out.2 i (by omega)).2
        rw [xorTo_get y b i (by omega), ← hz.out] at c1
        have hn := n8_xor z b
        have hi64 : (0 : Int) ≤ (i : Int) ∧ (i : Int) < 64 := by omega
        have hfin : Cb (wr.setCell ⟨g, i, none⟩ (.int .u8 (n8 (z ^^^ b)))) g (xorTo y b (i + 1)) ∧ Below w.heap.size w (wr.setCell ⟨g, i, none⟩ (.int .u8 (n8 (z ^^^ b)))) := by
          have := HC5.out.set_ i (by omega) (z ^^^ b)
          rw [hz.out, xorTo_set y b i (by omega), ← hz.out] at this
          exact ⟨this, below_of_only HG5.out (only_set (only_refl _ (some g)) (.inl rfl) _) hw34 HG5.out.size⟩
        have HF := Lib.hid hfin
        clear hfin
        have hyl' : y.length = 64 := hyl
        go_wp2_with fail
        go_roundw
        case rel => exact ⟨i + 1, by omega, by go_num, HF.out⟩
        case measure => simp [intOf]; omega
      · obtain rfl : i = 64 := by omega
        have hp : xorTo y b 64 = padL k b := by rw [xorTo, List.take_of_length_le (by omega), List.drop_of_length_le (by omega), List.append_nil, hy.out]; rfl
        rw [hp] at HC5
        have hpl := padL_length k b
        obtain ⟨p, hpp⟩ : ∃ p, Hid (p = padL k b) := ⟨_, rfl⟩
        rw [← hpp.out] at HC5 hpl
        have hcv := HC5.out.string 61 9 5 cap Tryd.underlying61 Tryd.underlying5 Tryd.underlying9
        rw [hpl] at hcv
        clear hp hpl
        go_wp2_with fail
        go_ret
        exact ⟨by rw [← hpp.out]; rfl, HG5.out⟩
  · have h64i : (k.length : Int) ≤ 64 := by omega
    have hxk : x = k := by rw [hx.out, keyL, if_neg h64]
    subst hxk
    have B2 := Lib.hid (Below.refl w.heap.size w)
    go_wp2_with fail
    simp only [e3.out]
    refine (Tryd.strings_Repeat ⟨#[0]⟩ m w (by omega) (by simp [ByteArray.size]; omega)).mono ?_
    rintro e w3 ⟨rfl, b3⟩
    rw [repeat_zero, ← hzr.out]
    have B3 := Lib.hid (B2.out.trans (b3.mono B2.out.size))
    clear b3
    obtain ⟨cap, w4, hcv, hcb, hbl⟩ := cb_of_string (P := Tryd.prog) w3 9 61 5 y Tryd.underlying9 Tryd.underlying61 Tryd.underlying5 w.heap.size B3.out.size
    have B4 := Lib.hid (B3.out.trans hbl)
    have HC := Lib.hid hcb
    have hw34 := B3.out.size
    clear hcb hbl
    have hcat : (⟨x.toArray⟩ : ByteArray) ++ ⟨zr.toArray⟩ = ⟨y.toArray⟩ := by rw [cat_eq, hzr.out, HY.out]
    obtain ⟨g, hgw⟩ : ∃ g, g = w3.heap.size := ⟨_, rfl⟩
    rw [← hgw] at hcv HC hw34
    clear hgw
    go_wp2_with fail
    clear hcv
    go_loopw [6, 22] (fun v6 v22 wx => ∃ i : Nat, i ≤ 64 ∧ v22 = .int .i64 i ∧ Cb wx g (xorTo y b i) ∧ Below w.heap.size w wx) (fun _ v _ => 64 - (intOf v).toNat)
    case atStart => exact ⟨0, by omega, rfl, HC.out, B4.out⟩
    case round =>
      obtain ⟨i, hi, rfl, hC, hG⟩ := hrel
      have HC5 := Lib.hid hC
      have HG5 := Lib.hid hG
      clear hC hG
      have hxy := xorTo_length y b i
      by_cases hlt : i < 64
      · obtain ⟨z, hz⟩ : ∃ z, Hid (z = bd y i) := ⟨_, rfl⟩
        have c1 := (HC5.out.2 i (by omega)).1
        have f1 := (HC5.out.2 i (by omega)).2
        rw [xorTo_get y b i (by omega), ← hz.out] at c1
        have hn := n8_xor z b
        have hi64 : (0 : Int) ≤ (i : Int) ∧ (i : Int) < 64 := by omega
        have hfin : Cb (wr.setCell ⟨g, i, none⟩ (.int .u8 (n8 (z ^^^ b)))) g (xorTo y b (i + 1)) ∧ Below w.heap.size w (wr.setCell ⟨g, i, none⟩ (.int .u8 (n8 (z ^^^ b)))) := by
          have := HC5.out.set_ i (by omega) (z ^^^ b)
          rw [hz.out, xorTo_set y b i (by omega), ← hz.out] at this
          exact ⟨this, below_of_only HG5.out (only_set (only_refl _ (some g)) (.inl rfl) _) hw34 HG5.out.size⟩
        have HF := Lib.hid hfin
        clear hfin
        have hyl' : y.length = 64 := hyl
        go_wp2_with fail
        go_roundw
        case rel => exact ⟨i + 1, by omega, by go_num, HF.out⟩
        case measure => simp [intOf]; omega
      · obtain rfl : i = 64 := by omega
        have hp : xorTo y b 64 = padL x b := by rw [xorTo, List.take_of_length_le (by omega), List.drop_of_length_le (by omega), List.append_nil, hy.out]; rfl
        rw [hp] at HC5
        have hpl := padL_length x b
        obtain ⟨p, hpp⟩ : ∃ p, Hid (p = padL x b) := ⟨_, rfl⟩
        rw [← hpp.out] at HC5 hpl
        have hcv := HC5.out.string 61 9 5 cap Tryd.underlying61 Tryd.underlying5 Tryd.underlying9
        rw [hpl] at hcv
        clear hp hpl
        go_wp2_with fail
        go_ret
        exact ⟨by rw [← hpp.out]; rfl, HG5.out⟩

/-- 'append(own, l...)': the call's own slice of texts, and whatever slice behind it. -/
theorem own_append_strs {w : World} {B q n0 cap0 : Nat} {xs : List (List UInt8)} (ho : Own 9 w B (.slice (some ⟨q, 0, none⟩) n0 cap0) (cstr xs)) (A : Option Addr) (n c : Nat) (ls : List (List UInt8)) (h : Strs w A n ls) (hB : B ≤ w.heap.size) (hn : xs.length + n ≤ 1048577) (hx : 0 < xs.length) :
    ∃ A' c' w', (Builtin.append_ #[23, 23] 23 #[.slice (some ⟨q, 0, none⟩) n0 cap0, .slice A n c]).run Tryd.prog w = .ok (.slice A' (xs.length + n) c') w' ∧ Strs w' A' (xs.length + n) (xs ++ ls) ∧ w.grownBy w' (some q) := by
  have hl0 : (cstr xs).length = xs.length := cstr_length xs
  obtain ⟨A0, c0, hv⟩ := ho.form
  injection hv with e1 e2 e3
  rcases Nat.eq_zero_or_pos n with rfl | hpos
  · have hcap : n0 ≤ cap0 := by
      rcases ho.2 with ⟨h0, _⟩ | ⟨g, cap, cur, h1, _, _, hnc, _⟩
      · cases h0
      · injection h1 with _ a1 a2
        omega
    rcases run_append_zero (ty := 23) elemStr w (.slice (some ⟨q, 0, none⟩) n0 cap0) _ _ _ rfl A c with hr | ⟨_, _, h3⟩ | hc
    · have hls : ls = [] := List.eq_nil_of_length_eq_zero h.1
      subst hls
      rw [hl0] at e2
      subst e2
      exact ⟨_, _, _, hr, by simpa using ho.strs, only_refl _ _⟩
    · cases h3
    · omega
  · obtain ⟨g, o, rfl, hg, hcell⟩ := h.2 hpos
    obtain ⟨A', c', w', hrun, hown, hgr⟩ := own_append_from (ty := 23) elemStr ho g o n c (cstr ls) (by rw [cstr_length]; exact h.1) (fun j u hj => by
        have hjl : j < ls.length := by have := (List.getElem?_eq_some_iff.1 hj).1; rwa [cstr_length] at this
        rw [cstr_get _ _ hjl] at hj
        rw [hcell j (by rw [← h.1]; exact hjl)]
        exact hj) (by
        intro u hu
        obtain ⟨l, _, rfl⟩ := List.mem_map.1 hu
        rfl) (by rw [hl0]; omega) (by rw [hl0]; omega) hB
    rw [hl0] at hrun hown
    rw [← cstr_append] at hown
    exact ⟨A', c', w', hrun, hown.strs, hgr⟩
theorem own_one (w : World) (B : Nat) (a : List UInt8) (hB : B ≤ w.heap.size) : Own 9 (w.alloc (.cells #[.string ⟨a.toArray⟩] 9)) B (.slice (some ⟨w.heap.size, 0, none⟩) 1 1) (cstr [a]) :=
  my_own_lit w 9 [.string ⟨a.toArray⟩] hB (by simp)
set_option maxHeartbeats 1600000 in
set_option maxRecDepth 100000 in
theorem tag_any (k : List UInt8) (A : Option Addr) (n c : Nat) (ls : List (List UInt8)) (w : World) (h : Strs w A n ls) (hkl : k.length ≤ 140737488351232) (hlen : ∀ l ∈ ls, l.length ≤ 140737488355328) (hn : n ≤ 1048576) (hk : KsAt w) (hg : 0 < w.heap.size) :
    Calls Tryd.prog 25 #[.string ⟨k.toArray⟩, .slice A n c] w fun e w' => e = .returned (.string ⟨(tagL k ls.flatten).toArray⟩) ∧ Below w.heap.size w w' := by
  have HK := Lib.hid hk
  have H := Lib.hid h
  have HL := Lib.hid hlen
  clear hk h hlen
  obtain ⟨p, hp⟩ : ∃ p, Hid (p = padL k 54) := ⟨_, rfl⟩
  obtain ⟨q, hq⟩ : ∃ q, Hid (q = padL k 92) := ⟨_, rfl⟩
  have hpl := Lib.hid (show p.length = 64 by rw [hp.out]; exact padL_length _ _)
  have hql := Lib.hid (show q.length = 64 by rw [hq.out]; exact padL_length _ _)
  go_enter Tryd.func25, Tryd.ntmps25
  go_wp2_with fail
  refine (padded_any k 54 w hkl HK.out hg).mono ?_
  rintro e w1 ⟨rfl, b1⟩
  rw [← hp.out]
  have B1 := Lib.hid b1
  clear b1
  have B2 := Lib.hid (B1.out.alloc B1.out.size (.cells #[.string ⟨p.toArray⟩] 9))
  obtain ⟨A', c', w3, hrun, hst, hgr⟩ := own_append_strs (own_one w1 w.heap.size p B1.out.size) A n c ls (H.out.below B2.out) B2.out.size (by simp; omega) (by simp)
  have B3 := Lib.hid (below_of_only B2.out hgr B1.out.size B2.out.size)
  have HR := Lib.hid hrun
  have HS := Lib.hid hst
  clear hrun hst hgr
  go_wp2_with (at_builtin; refine wpList_append_run rfl _ _ _ _ rfl rfl rfl HR.out ?_)
  refine (sum_any A' ([p].length + n) c' w3 ([p] ++ ls) HS.out (fun l hl => by
    rcases List.mem_append.1 hl with h | h
    · simp at h; subst h; rw [hpl.out]; omega
    · exact HL.out l h) (by simp; omega) (HK.out.below hg B3.out) (Nat.lt_of_lt_of_le hg B3.out.size)).mono ?_
  rintro e w4 ⟨rfl, b4⟩
  obtain ⟨S, hS⟩ : ∃ S, Hid (S = sha (padL k 54 ++ ls.flatten)) := ⟨_, rfl⟩
  have hSl := Lib.hid (show S.length = 32 by rw [hS.out]; exact sha_length _)
  rw [show sha ([p] ++ ls).flatten = S by rw [hS.out, hp.out]; simp]
  have B4 := Lib.hid (B3.out.trans (b4.mono B3.out.size))
  clear b4
  go_wp2_with fail
  refine (padded_any k 92 w4 hkl (HK.out.below hg B4.out) (Nat.lt_of_lt_of_le hg B4.out.size)).mono ?_
  rintro e w5 ⟨rfl, b5⟩
  rw [← hq.out]
  have B5 := Lib.hid (B4.out.trans (b5.mono B4.out.size))
  clear b5
  go_wp2_with fail
  have B6 := Lib.hid (B5.out.alloc B5.out.size (.cells #[.string ⟨q.toArray⟩, .string ⟨S.toArray⟩] 9))
  refine (sum_any _ 2 2 _ [q, S] (strs_two w5 9 q S) (by intro l hl; simp at hl; have h1 := hql.out; have h2 := hSl.out; rcases hl with rfl | rfl <;> omega) (by decide) (HK.out.below hg B6.out) (Nat.lt_of_lt_of_le hg B6.out.size)).mono ?_
  rintro e w7 ⟨rfl, b7⟩
  have B7 := Lib.hid (B6.out.trans (b7.mono B6.out.size))
  clear b7
  go_wp2_with fail
  go_ret
  refine ⟨?_, B7.out⟩
  rw [tagL, ← hS.out, ← hq.out]
  simp
end Go.Proofs.YtjmgkjjcdnaapaaDoor
namespace Go.Proofs.YtjmgkjjcdnaapaaDoor
open Go.RowKit
set_option linter.unusedSimpArgs false
set_option linter.unusedVariables false
set_option maxRecDepth 100000
theorem toNat64 (m : Nat) (h : m < 4611686018427387904) : (BitVec.ofInt 64 (m : Int)).toNat = m := by
  rw [BitVec.ofInt_natCast, BitVec.toNat_ofNat]
  exact Nat.mod_eq_of_lt (by omega)
theorem bits_or_nat (m n : Nat) (hm : m < 4611686018427387904) (hn : n < 4611686018427387904) : bits .or .i64 (m : Int) (n : Int) = ((m ||| n : Nat) : Int) := by
  show IntKind.i64.wrap ((BitVec.ofInt 64 (m : Int) ||| BitVec.ofInt 64 (n : Int)).toNat : Int) = _
  rw [BitVec.toNat_or, toNat64 m hm, toNat64 n hn]
  have := Nat.or_lt_two_pow (n := 62) hm hn
  rw [IntKind.wrap_i64]
  omega
theorem bits_xor_nat (m n : Nat) (hm : m < 4611686018427387904) (hn : n < 4611686018427387904) : bits .xor .i64 (m : Int) (n : Int) = ((m ^^^ n : Nat) : Int) := by
  show IntKind.i64.wrap ((BitVec.ofInt 64 (m : Int) ^^^ BitVec.ofInt 64 (n : Int)).toNat : Int) = _
  rw [BitVec.toNat_xor, toNat64 m hm, toNat64 n hn]
  have := Nat.xor_lt_two_pow (n := 62) hm hn
  rw [IntKind.wrap_i64]
  omega
theorem or_zero_iff (m n : Nat) : m ||| n = 0 ↔ m = 0 ∧ n = 0 := by
  constructor
  · intro h
    constructor
    · have := Nat.left_le_or (m := n) (n := m); omega
    · have := Nat.right_le_or (m := n) (n := m); omega
  · rintro ⟨rfl, rfl⟩; rfl
theorem xor_zero_iff (m n : Nat) : m ^^^ n = 0 ↔ m = n := by
  constructor
  · intro h
    have h1 : (m ^^^ n) ^^^ n = 0 ^^^ n := by rw [h]
    rw [Nat.xor_assoc, Nat.xor_self, Nat.xor_zero, Nat.zero_xor] at h1
    exact h1
  · rintro rfl; exact Nat.xor_self _
set_option maxHeartbeats 1000000 in
set_option maxRecDepth 100000 in
theorem same_any (a b : List UInt8) (w : World) (ha : a.length ≤ 140737488355328) (hb : b.length ≤ 140737488355328) :
    Calls Tryd.prog 37 #[.string ⟨a.toArray⟩, .string ⟨b.toArray⟩] w fun e w' => e = .returned (.bool (a == b)) ∧ Below w.heap.size w w' := by
  have hsa : (⟨a.toArray⟩ : ByteArray).size = a.length := by simp [ByteArray.size]
  have hsb : (⟨b.toArray⟩ : ByteArray).size = b.length := by simp [ByteArray.size]
  obtain ⟨n, hn⟩ : ∃ n, Hid (n = min a.length b.length) := ⟨_, rfl⟩
  have hmin : min (a.length : Int) (b.length : Int) = (n : Int) := by rw [hn.out]; omega
  have hnb : n ≤ 140737488355328 := by rw [hn.out]; omega
  have hxl := bits_xor_nat a.length b.length (by omega) (by omega)
  obtain ⟨u0, hu0⟩ : ∃ u0, Hid (u0 = a.length ^^^ b.length) := ⟨_, rfl⟩
  rw [← hu0.out] at hxl
  have hu0l : u0 < 281474976710656 := by rw [hu0.out]; exact Nat.xor_lt_two_pow (n := 48) (by omega) (by omega)
  go_enter Tryd.func37, Tryd.ntmps37
  go_wp2_with fail
  go_loopw [5, 6, 17] (fun v5 v6 v17 wx => ∃ i u : Nat, i ≤ n ∧ v17 = .int .i64 i ∧ v5 = .int .i64 u ∧ u < 281474976710656 ∧ (u = 0 ↔ a.length = b.length ∧ a.take i = b.take i) ∧ Below w.heap.size w wx) (fun _ _ v _ => n - (intOf v).toNat)
  case atStart => exact ⟨0, u0, by omega, rfl, rfl, hu0l, by rw [hu0.out, xor_zero_iff]; simp, Below.refl _ _⟩
  case round =>
    obtain ⟨i, u, hi, rfl, rfl, hu, hiff, hG⟩ := hrel
    have HI := Lib.hid hiff
    have HG := Lib.hid hG
    clear hiff hG
    by_cases hlt : i < n
    · have hia : i < a.length := by have := hn.out; omega
      have hib : i < b.length := by have := hn.out; omega
      obtain ⟨x, hx⟩ : ∃ x, Hid (x = a[i]) := ⟨a[i], Lib.hid rfl⟩
      obtain ⟨y, hy⟩ : ∃ y, Hid (y = b[i]) := ⟨b[i], Lib.hid rfl⟩
      have hbx : ∀ h, (⟨a.toArray⟩ : ByteArray)[i]'h = x := fun h => hx.out.symm
      have hby : ∀ h, (⟨b.toArray⟩ : ByteArray)[i]'h = y := fun h => hy.out.symm
      obtain ⟨d, hd⟩ : ∃ d, Hid (d = (x ^^^ y).toNat) := ⟨_, rfl⟩
      have hxor : bits .xor .u8 (x.toNat : Int) (y.toNat : Int) = (d : Int) := by rw [hd.out]; exact n8_xor x y
      have hd8 : d < 256 := by rw [hd.out]; exact (x ^^^ y).toNat_lt
      have hor := bits_or_nat u d (by omega) (by omega)
      obtain ⟨u2, hu2⟩ : ∃ u2, Hid (u2 = u ||| d) := ⟨_, rfl⟩
      rw [← hu2.out] at hor
      have hu2l : u2 < 281474976710656 := by rw [hu2.out]; exact Nat.or_lt_two_pow (n := 48) (by omega) (by omega)
      have hiI : (0 : Int) ≤ (i : Int) ∧ (i : Int) < (n : Int) := by omega
      have hiaI : (i : Int) < (a.length : Int) := by omega
      have hibI : (i : Int) < (b.length : Int) := by omega
      go_wp2_with fail
      go_quiet (fail)
      go_wp2_with fail
      go_roundw
      case rel =>
        refine ⟨i + 1, u2, by omega, by go_num, rfl, hu2l, ?_, below_drewN HG.out _⟩
        rw [hu2.out, hd.out, or_zero_iff, HI.out, List.take_succ_eq_append_getElem hia, List.take_succ_eq_append_getElem hib, ← hx.out, ← hy.out]
        have hxy : (x ^^^ y).toNat = 0 ↔ x = y := by
          rw [UInt8.toNat_xor, xor_zero_iff]
          exact ⟨fun h => UInt8.toNat_inj.1 h, fun h => by rw [h]⟩
        rw [hxy]
        constructor
        · rintro ⟨⟨h1, h2⟩, h3⟩
          exact ⟨h1, by rw [h2, h3]⟩
        · rintro ⟨h1, h2⟩
          have := List.append_inj h2 (by simp; omega)
          simp at this
          exact ⟨⟨h1, this.1⟩, this.2⟩
      case measure => simp [intOf]; omega
    · obtain rfl : i = n := by omega
      have hres : ((u : Int) == 0) = (a == b) := by
        have hu00 : ((u : Int) = 0) ↔ u = 0 := by omega
        rw [Bool.eq_iff_iff, beq_iff_eq, beq_iff_eq, hu00, HI.out]
        constructor
        · rintro ⟨h1, h2⟩
          have := hn.out
          rwa [List.take_of_length_le (by omega), List.take_of_length_le (by omega)] at h2
        · rintro rfl; exact ⟨rfl, rfl⟩
      have HR := Lib.hid hres
      clear hres
      go_wp2_with fail
      go_ret
      refine ⟨?_, HG.out⟩
      rw [← HR.out]
      rfl
end Go.Proofs.YtjmgkjjcdnaapaaDoor
namespace Go.Proofs.YtjmgkjjcdnaapaaDoor
open Go.RowKit
set_option linter.unusedSimpArgs false
set_option linter.unusedVariables false
set_option maxRecDepth 20000
theorem gworld {P : Program} {c : Code} {Q : Exit → Act → World → Prop} {a : Act} {W : World} (D : World → Prop) (h : D W) (k : ∀ W', D W' → c.wp P Q a W') : c.wp P Q a W := k W h
/-- a signer: the account's user and key, and the greatest number admitted. -/
structure Sg where
  u : Int
  k : List UInt8
  q : Int
def sgC (s : Sg) : Array Value := #[.int .i64 s.u, .string ⟨s.k.toArray⟩, .int .i64 s.q]
def ptrs (gs : List Nat) : List Value := gs.map fun x => .pointer (some ⟨x, 0, none⟩)
/-- a gate in memory: its block, the slice's value, its signers' blocks. -/
structure GtA (B : Nat) (w : World) (g : Nat) (v : Value) (gs : List Nat) (l : List Sg) : Prop where
  hg : Blk w g 77 #[v]
  bg : B ≤ g
  vo : Own 78 w B v (ptrs gs)
  len : gs.length = l.length
  sg : ∀ (j x : Nat) (s : Sg), gs[j]? = some x → l[j]? = some s → B ≤ x ∧ Blk w x 80 (sgC s)
  nd : gs.Nodup
  few : l.length ≤ 1000
section
variable {B : Nat} {w w' : World} {g : Nat} {v : Value} {gs : List Nat} {l : List Sg}
theorem GtA.below (h : GtA B w g v gs l) (hb : Below w.heap.size w w') : GtA B w' g v gs l :=
  ⟨h.hg.below hb h.hg.lt, h.bg, h.vo.below hb, h.len, fun j x s h1 h2 => ⟨(h.sg j x s h1 h2).1, (h.sg j x s h1 h2).2.below hb (h.sg j x s h1 h2).2.lt⟩, h.nd, h.few⟩
theorem GtA.form (h : GtA B w g v gs l) : ∃ A c, v = .slice A l.length c := by
  obtain ⟨A, c, e⟩ := h.vo.form
  exact ⟨A, c, by rw [e]; simp [ptrs, h.len]⟩
theorem GtA.at_ (h : GtA B w g v gs l) (j : Nat) (hj : j < l.length) : ∃ A c b x, v = .slice A l.length c ∧ A = some ⟨b, 0, none⟩ ∧ gs[j]? = some x ∧ w.cell? ⟨b, j, none⟩ = some (.pointer (some ⟨x, 0, none⟩)) ∧ B ≤ x ∧ Blk w x 80 (sgC l[j]) := by
  obtain ⟨A, c, rfl⟩ := h.form
  have hl : (ptrs gs).length = l.length := by simp [ptrs, h.len]
  have hjg : j < gs.length := by rw [h.len]; exact hj
  obtain ⟨b, rfl, hb, hlt⟩ := Own.at_ h.vo (by omega)
  have hx : gs[j]? = some gs[j] := List.getElem?_eq_getElem (by rw [h.len]; exact hj)
  have hc := Own.cell h.vo j (by omega)
  have := h.sg j gs[j] l[j] hx (List.getElem?_eq_getElem hj)
  exact ⟨_, c, b, gs[j], rfl, rfl, hx, by rw [hc]; simp [ptrs, hx], this.1, this.2⟩
end
theorem finder_any (x b : Nat) (s : Sg) (u : Int) (w : World) (hx : Blk w x 80 (sgC s)) (hb : Blk w b 3 #[.int .i64 u]) :
    Calls Tryd.prog 51 #[.pointer (some ⟨x, 0, none⟩), .pointer (some ⟨b, 0, none⟩)] w fun e w' => e = .returned (.bool (s.u == u)) ∧ Below w.heap.size w w' := by
  have nb : ∀ n, Below w.heap.size w (w.drewN n) := fun n => below_drewN (Below.refl _ _) n
  have c0 : w.cell? ⟨x, 0, none⟩ = some (.int .i64 s.u) := hx.cell 0
  have c1 : w.cell? ⟨b, 0, none⟩ = some (.int .i64 u) := hb.cell 0
  go_enter Tryd.func51, Tryd.ntmps51
  go_wp2_with fail
  go_quiet (fail)
  go_wp2_with fail
  go_ret
  exact ⟨rfl, nb _⟩
def fN (l : List Sg) (u : Int) : Option Nat := if l.any (fun s => s.u == u) then some (l.findIdx (fun s => s.u == u)) else none
def ixV : Option Nat → Int
  | none => -1
  | some j => (j : Nat)
theorem fN_I (l : List Sg) (u : Int) : fstI (fun s : Sg => s.u == u) l = ixV (fN l u) := by
  unfold fstI fN
  split <;> rfl
theorem fN_some {l : List Sg} {u : Int} {j : Nat} (h : fN l u = some j) : ∃ hj : j < l.length, l[j].u = u := by
  unfold fN at h
  split at h
  · rename_i ha
    obtain rfl := Option.some.inj h
    have hf : l.findIdx (fun s => s.u == u) < l.length := List.findIdx_lt_length_of_exists (by simpa using ha)
    exact ⟨hf, by simpa using List.findIdx_getElem (w := hf)⟩
  · cases h
/-- what find gives. -/
def fndV (gs : List Nat) : Option Nat → Value
  | none => .pointer none
  | some j => .pointer (some ⟨gs.getD j 0, 0, none⟩)
set_option maxHeartbeats 800000 in
theorem indexG_any (g : Nat) (B : Nat) (v : Value) (gs : List Nat) (l : List Sg) (b : Nat) (u : Int) (w : World) (h : GtA B w g v gs l) (hb : Blk w b 3 #[.int .i64 u]) :
    Calls Tryd.prog 50 #[v, .func (Fn.func 51) #[] #[.pointer (some ⟨b, 0, none⟩)]] w fun e w' => e = .returned (.int .i64 (ixV (fN l u))) ∧ Below w.heap.size w w' := by
  obtain ⟨A, c, rfl⟩ := h.form
  have hl := h.few
  have H := Lib.hid h
  have HBB := Lib.hid hb
  clear h hb
  go_enter Tryd.func50, Tryd.ntmps50
  go_wp2_with fail
  go_loopg [8] (l.length + 1) (fun kq v wr => ∃ k : Nat, k + kq = l.length + 1 ∧ k ≤ l.length ∧ v = .int .i64 k ∧ Hid (Below w.heap.size w wr) ∧ Hid (∀ j x, j < k → l[j]? = some x → (x.u == u) = false))
  case atStart => exact ⟨0, by omega, by omega, rfl, Lib.hid (Below.refl _ _), Lib.hid (fun j x hj => by omega)⟩
  case round =>
    obtain ⟨k, hk, hk2, rfl, HW, H0⟩ := hrel
    by_cases hlt : k < l.length
    · obtain ⟨A', c', b', x, e', rfl, hx, hc, hBx, hsx⟩ := (H.out.below HW.out).at_ k hlt
      cases e'
      have e1 : 0 ≤ (k : Int) ∧ (k : Int) < (l.length : Int) := by omega
      have HG := Lib.hid (List.getElem?_eq_getElem hlt)
      obtain ⟨a, ha⟩ : ∃ a, a = l[k] := ⟨_, rfl⟩
      rw [← ha] at hsx HG
      have HX := Lib.hid hsx
      have HB2 := Lib.hid (HBB.out.below HW.out HBB.out.lt)
      clear hsx hx hBx ha
      go_wp2_with fail
      refine (finder_any x b a u wr HX.out HB2.out).mono ?_
      rintro e w' ⟨rfl, bw⟩
      have HW2 := Lib.hid (HW.out.trans (bw.mono HW.out.size))
      clear bw HW hc HX HB2
      cases hp : a.u == u with
      | true =>
        have HF := Lib.hid ((fN_I l u).symm.trans (fstI_hit (fun s : Sg => s.u == u) l k a HG.out hp H0.out))
        clear hp
        go_wp2_with fail
        go_ret
        exact ⟨by rw [HF.out]; rfl, HW2.out⟩
      | false =>
        have H1 : Hid (∀ j x, j < k + 1 → l[j]? = some x → (x.u == u) = false) := Lib.hid (fun j x hj hx => by
          rcases Nat.lt_or_ge j k with h | h
          · exact H0.out j x h hx
          · obtain rfl : j = k := by omega
            rw [HG.out] at hx
            cases hx
            exact hp)
        clear hp
        go_wp2_with fail
        go_roundg (l.length - k)
        case measure => omega
        case rel => exact ⟨k + 1, by omega, by omega, by go_num, HW2, H1⟩
    · obtain rfl : k = l.length := by omega
      have HF := Lib.hid ((fN_I l u).symm.trans (fstI_none (fun s : Sg => s.u == u) l H0.out))
      have hq : gk = 1 := by omega
      subst hq
      clear hlt hk2 hk
      go_wp2_with fail
      go_ret
      exact ⟨by rw [HF.out]; rfl, HW.out⟩
set_option maxHeartbeats 800000 in
theorem find_any (g : Nat) (B : Nat) (v : Value) (gs : List Nat) (l : List Sg) (u : Int) (w : World) (h : GtA B w g v gs l) (o : Option Nat) (ho : fN l u = o) :
    Calls Tryd.prog 36 #[.pointer (some ⟨g, 0, none⟩), .int .i64 u] w fun e w' => e = .returned (fndV gs o) ∧ Below w.heap.size w w' := by
  obtain ⟨A, c, rfl⟩ := h.form
  have H := Lib.hid h
  have HO := Lib.hid ho
  clear h ho
  go_enter Tryd.func36, Tryd.ntmps36
  go_upto_region 1 with fail
  refine gworld (fun W => Hid (Blk W w.heap.size 3 #[.int .i64 u]) ∧ Hid (Below w.heap.size w W)) ⟨Lib.hid (Blk.new w _ _), Lib.hid ((Below.refl _ _).alloc (Nat.le_refl _) _)⟩ ?_
  rintro w1 ⟨HB1, HW1⟩
  obtain ⟨b, hb⟩ : ∃ b, Hid (w.heap.size = b) := ⟨_, Lib.hid rfl⟩
  have HB1 := Lib.hid (show Blk w1 b 3 #[.int .i64 u] by rw [← hb.out]; exact HB1.out)
  rw [hb.out]
  have H1 := Lib.hid (H.out.below HW1.out)
  have m0 : w1.cell? ⟨g, 0, none⟩ = some (.slice A l.length c) := H1.out.hg.cell 0
  go_wp2_with fail
  refine (indexG_any g B _ gs l b u w1 H1.out HB1.out).mono ?_
  rintro e w2 ⟨rfl, b2⟩
  have HW2 := Lib.hid (HW1.out.trans (b2.mono HW1.out.size))
  have H2 := Lib.hid (H1.out.below b2)
  clear m0 b2 H1 HW1 HB1
  rw [HO.out]
  cases o with
  | none =>
    have e1 : ixV none = -1 := rfl
    rw [e1]
    go_wp2_with fail
    go_ret
    exact ⟨by rfl, HW2.out⟩
  | some j =>
    obtain ⟨hj, _⟩ := fN_some HO.out
    obtain ⟨A', c', b', x, e', rfl, hx, hc, hBx, hsx⟩ := H2.out.at_ j hj
    cases e'
    have e1 : ixV (some j) = (j : Int) := rfl
    rw [e1]
    have e2 : 0 ≤ (j : Int) ∧ (j : Int) < (l.length : Int) := by omega
    have hgx := Lib.hid (show gs.getD j 0 = x by rw [List.getD_eq_getElem?_getD, hx]; rfl)
    have m0 : w2.cell? ⟨g, 0, none⟩ = some (.slice (some ⟨b', 0, none⟩) l.length c) := H2.out.hg.cell 0
    clear hx hBx hsx
    go_wp2_with fail
    go_ret
    exact ⟨by show _ = Ending.returned (.pointer (some ⟨gs.getD j 0, 0, none⟩)); rw [hgx.out]; rfl, HW2.out⟩
set_option maxHeartbeats 400000 in
theorem has_any (g : Nat) (B : Nat) (v : Value) (gs : List Nat) (l : List Sg) (u : Int) (w : World) (h : GtA B w g v gs l) (o : Option Nat) (ho : fN l u = o) :
    Calls Tryd.prog 21 #[.pointer (some ⟨g, 0, none⟩), .int .i64 u] w fun e w' => e = .returned (.bool o.isSome) ∧ Below w.heap.size w w' := by
  have H := Lib.hid h
  have HO := Lib.hid ho
  clear h ho
  go_enter Tryd.func21, Tryd.ntmps21
  go_wp2_with fail
  refine (find_any g B v gs l u w H.out o HO.out).mono ?_
  rintro e w1 ⟨rfl, b1⟩
  cases o with
  | none =>
    have e1 : fndV gs none = .pointer none := rfl
    rw [e1]
    go_wp2_with fail
    go_ret
    exact ⟨by rfl, b1⟩
  | some j =>
    have e1 : fndV gs (some j) = .pointer (some ⟨gs.getD j 0, 0, none⟩) := rfl
    rw [e1]
    go_wp2_with fail
    go_ret
    exact ⟨by rfl, b1⟩
end Go.Proofs.YtjmgkjjcdnaapaaDoor
namespace Go.Proofs.YtjmgkjjcdnaapaaDoor
open Go.RowKit
set_option linter.unusedSimpArgs false
set_option linter.unusedVariables false
set_option maxRecDepth 20000
structure Ac where
  u : Int
  k : List UInt8
/-- accounts that lie somewhere. -/
def Accs (w : World) (A : Option Addr) (n c : Nat) (l : List Ac) : Prop :=
  l.length = n ∧ n ≤ c ∧ c ≤ 9223372036854775807 ∧ (0 < n → ∃ b o, A = some ⟨b, o, none⟩ ∧ b < w.heap.size ∧ ∀ (i : Nat) (x : Ac), l[i]? = some x → w.cell? ⟨b, o + i * 2, none⟩ = some (.int .i64 x.u) ∧ w.cell? ⟨b, o + i * 2 + 1, none⟩ = some (.string ⟨x.k.toArray⟩))
theorem Accs.below {w w' : World} {A : Option Addr} {n c : Nat} {l : List Ac} (h : Accs w A n c l) (hb : Below w.heap.size w w') : Accs w' A n c l := by
  obtain ⟨h1, h2, h3, h4⟩ := h
  refine ⟨h1, h2, h3, fun hn => ?_⟩
  obtain ⟨b, o, e, hlt, hc⟩ := h4 hn
  refine ⟨b, o, e, Nat.lt_of_lt_of_le hlt hb.size, fun i x hx => ?_⟩
  obtain ⟨c1, c2⟩ := hc i x hx
  exact ⟨(hb.cell (p := ⟨b, o + i * 2, none⟩) hlt).trans c1, (hb.cell (p := ⟨b, o + i * 2 + 1, none⟩) hlt).trans c2⟩
theorem Accs.at_ {w : World} {A : Option Addr} {n c : Nat} {l : List Ac} (h : Accs w A n c l) (k : Nat) (hk : k < n) : ∃ b o x, A = some ⟨b, o, none⟩ ∧ l[k]? = some x ∧ w.cell? ⟨b, o + k * 2, none⟩ = some (.int .i64 x.u) ∧ w.cell? ⟨b, o + k * 2 + 1, none⟩ = some (.string ⟨x.k.toArray⟩) := by
  obtain ⟨h1, h2, h3, h4⟩ := h
  obtain ⟨b, o, e, hlt, hc⟩ := h4 (by omega)
  have hx : l[k]? = some (l[k]'(by omega)) := List.getElem?_eq_getElem (by omega)
  exact ⟨b, o, _, e, hx, hc k _ hx⟩
theorem Accs.take {w : World} {A : Option Addr} {n c : Nat} {l : List Ac} (h : Accs w A n c l) (k : Nat) (hk : k ≤ n) : Accs w A k c (l.take k) := by
  obtain ⟨h1, h2, h3, h4⟩ := h
  refine ⟨by rw [List.length_take]; omega, by omega, h3, fun hn => ?_⟩
  obtain ⟨b, o, e, hlt, hc⟩ := h4 (by omega)
  refine ⟨b, o, e, hlt, fun i x hx => hc i x ?_⟩
  rw [List.getElem?_take] at hx
  split at hx
  · exact hx
  · cases hx
def accBad (l : List Ac) (i : Nat) (a : Ac) : Int := if a.u < 0 ∨ 64 ≤ a.u then 1 else if (l.take i).any (fun b => b.u == a.u) then 6 else if a.k.length ≠ 32 then 3 else 0
def chkFrom (l : List Ac) : Nat → List Ac → Int × Int
  | _, [] => (0, 0)
  | i, a :: r => if accBad l i a ≠ 0 then ((i : Nat), accBad l i a) else chkFrom l (i + 1) r
def chkA (l : List Ac) : Int × Int := if 64 < l.length then (-1, 2) else chkFrom l 0 l
theorem chkFrom_at {l : List Ac} {k : Nat} {a : Ac} (h : l[k]? = some a) : chkFrom l k (l.drop k) = if accBad l k a ≠ 0 then (((k : Nat) : Int), accBad l k a) else chkFrom l (k + 1) (l.drop (k + 1)) := by
  obtain ⟨hk, e⟩ := List.getElem?_eq_some_iff.1 h
  rw [List.drop_eq_getElem_cons hk, e]
  rfl
set_option maxHeartbeats 400000 in
theorem sameUser_any (b : Nat) (cs : Array Value) (a : Ac) (u : Int) (w : World) (hb : Blk w b 44 cs) (h0 : cs[0]? = some (.int .i64 u)) :
    Calls Tryd.prog 35 #[.agg #[.int .i64 a.u, .string ⟨a.k.toArray⟩], .pointer (some ⟨b, 0, none⟩)] w fun e w' => e = .returned (.bool (a.u == u)) ∧ Below w.heap.size w w' := by
  have c0 : w.cell? ⟨b, 0, none⟩ = some (.int .i64 u) := (hb.cell 0).trans h0
  have hl := hb.lt
  have c1 : (w.alloc (.cells #[.int .i64 a.u, .string ⟨a.k.toArray⟩] 44)).cell? ⟨b, 0, none⟩ = some (.int .i64 u) := ((hb.alloc _).cell 0).trans h0
  go_enter Tryd.func35, Tryd.ntmps35
  go_wp2_with fail
  go_ret
  exact ⟨rfl, (Below.refl _ _).alloc (Nat.le_refl _) _⟩
set_option maxHeartbeats 800000 in
theorem indexA_any (A : Option Addr) (n c : Nat) (l : List Ac) (b : Nat) (cs : Array Value) (u : Int) (w : World) (h : Accs w A n c l) (hb : Blk w b 44 cs) (h0 : cs[0]? = some (.int .i64 u)) :
    Calls Tryd.prog 49 #[.slice A n c, .func (Fn.func 35) #[] #[.pointer (some ⟨b, 0, none⟩)]] w fun e w' => e = .returned (.int .i64 (fstI (fun a : Ac => a.u == u) l)) ∧ Below w.heap.size w w' := by
  have H := Lib.hid h
  have HBB := Lib.hid hb
  have H00 := Lib.hid h0
  have hn : n ≤ 9223372036854775807 := Nat.le_trans h.2.1 h.2.2.1
  have HLN := Lib.hid h.1
  clear h hb h0
  go_enter Tryd.func49, Tryd.ntmps49
  go_wp2_with fail
  go_loopg [8] (n + 1) (fun kq v wr => ∃ k : Nat, k + kq = n + 1 ∧ k ≤ n ∧ v = .int .i64 k ∧ Hid (Below w.heap.size w wr) ∧ Hid (∀ j x, j < k → l[j]? = some x → (x.u == u) = false))
  case atStart => exact ⟨0, by omega, by omega, rfl, Lib.hid (Below.refl _ _), Lib.hid (fun j x hj => by omega)⟩
  case round =>
    obtain ⟨k, hk, hk2, rfl, HW, H0⟩ := hrel
    by_cases hlt : k < n
    · obtain ⟨b', o, a, rfl, hx, c1, c2⟩ := (H.out.below HW.out).at_ k hlt
      have e1 : 0 ≤ (k : Int) ∧ (k : Int) < (n : Int) := by omega
      have HG := Lib.hid hx
      have HB2 := Lib.hid (HBB.out.below HW.out HBB.out.lt)
      clear hx
      go_wp2_with fail
      refine (sameUser_any b cs a u wr HB2.out H00.out).mono ?_
      rintro e w' ⟨rfl, bw⟩
      have HW2 := Lib.hid (HW.out.trans (bw.mono HW.out.size))
      clear bw HW c1 c2 HB2
      cases hp : a.u == u with
      | true =>
        have HF := Lib.hid (fstI_hit (fun s : Ac => s.u == u) l k a HG.out hp H0.out)
        clear hp
        go_wp2_with fail
        go_ret
        exact ⟨by rw [HF.out]; rfl, HW2.out⟩
      | false =>
        have H1 : Hid (∀ j x, j < k + 1 → l[j]? = some x → (x.u == u) = false) := Lib.hid (fun j x hj hx => by
          rcases Nat.lt_or_ge j k with h | h
          · exact H0.out j x h hx
          · obtain rfl : j = k := by omega
            rw [HG.out] at hx
            cases hx
            exact hp)
        clear hp
        go_wp2_with fail
        go_roundg (n - k)
        case measure => omega
        case rel => exact ⟨k + 1, by omega, by omega, by go_num, HW2, H1⟩
    · obtain rfl : k = n := by omega
      have HF := Lib.hid (fstI_none (fun s : Ac => s.u == u) l (by rw [HLN.out]; exact H0.out))
      have hq : gk = 1 := by omega
      subst hq
      clear hlt hk2 hk
      go_wp2_with fail
      go_ret
      exact ⟨by rw [HF.out]; rfl, HW.out⟩
set_option maxHeartbeats 400000 in
theorem containsA_any (A : Option Addr) (n c : Nat) (l : List Ac) (b : Nat) (cs : Array Value) (u : Int) (w : World) (h : Accs w A n c l) (hb : Blk w b 44 cs) (h0 : cs[0]? = some (.int .i64 u)) :
    Calls Tryd.prog 34 #[.slice A n c, .func (Fn.func 35) #[] #[.pointer (some ⟨b, 0, none⟩)]] w fun e w' => e = .returned (.bool (l.any fun a : Ac => a.u == u)) ∧ Below w.heap.size w w' := by
  have HC := Lib.hid (indexA_any A n c l b cs u w h hb h0)
  have HE := Lib.hid (fstI_ge (fun a : Ac => a.u == u) l)
  clear h hb h0
  go_enter Tryd.func34, Tryd.ntmps34
  go_wp2_with fail
  refine HC.out.mono ?_
  rintro e w' ⟨rfl, hb⟩
  have HB := Lib.hid hb
  clear hb
  go_wp2_with fail
  go_ret
  exact ⟨by rw [← HE.out]; rfl, HB.out⟩
set_option maxHeartbeats 1600000 in
theorem check_any (A : Option Addr) (n c : Nat) (l : List Ac) (w : World) (h : Accs w A n c l) :
    Calls Tryd.prog 13 #[.slice A n c] w fun e w' => e = .returned (.tuple #[.int .i64 (chkA l).1, .int .i64 (chkA l).2]) ∧ Below w.heap.size w w' := by
  have H := Lib.hid h
  have HLN := Lib.hid h.1
  have hnc : n ≤ c := h.2.1
  have hc := h.2.2.1
  clear h
  by_cases hbig : 64 < n
  · have HR := Lib.hid (show chkA l = (-1, 2) from if_pos (by rw [HLN.out]; exact hbig))
    go_enter Tryd.func13, Tryd.ntmps13
    go_wp2_with fail
    go_ret2
    exact ⟨by rw [HR.out]; rfl, Below.refl _ _⟩
  · have HR := Lib.hid (show chkA l = chkFrom l 0 (l.drop 0) from if_neg (by rw [HLN.out]; exact hbig))
    go_enter Tryd.func13, Tryd.ntmps13
    go_wp2_with fail
    go_loopg [11] (n + 1) (fun kq v wr => ∃ k : Nat, k + kq = n + 1 ∧ k ≤ n ∧ v = .int .i64 k ∧ Hid (Below w.heap.size w wr) ∧ Hid (chkA l = chkFrom l k (l.drop k)))
    case atStart => exact ⟨0, by omega, by omega, rfl, Lib.hid (Below.refl _ _), HR⟩
    case round =>
      clear HR
      obtain ⟨k, hk, hk2, rfl, HW, HR⟩ := hrel
      by_cases hlt : k < n
      · obtain ⟨b', o, a, rfl, hx, c1, c2⟩ := (H.out.below HW.out).at_ k hlt
        have e1 : 0 ≤ (k : Int) ∧ (k : Int) < (n : Int) := by omega
        have HX := Lib.hid hx
        have HT := Lib.hid (HR.out.trans (chkFrom_at hx))
        clear hx
        obtain ⟨u, kb⟩ := a
        have hsz : (⟨kb.toArray⟩ : ByteArray).size = kb.length := by simp [ByteArray.size]
        go_upto_region 6 with fail
        refine gworld (fun W => Hid (Blk W wr.heap.size 44 #[.int .i64 u, .string ⟨kb.toArray⟩]) ∧ Hid (Below w.heap.size w W)) ⟨?_, ?_⟩ ?_
        · exact Lib.hid (Blk.new wr 44 _)
        · exact Lib.hid (HW.out.trans (((Below.refl _ _).alloc (Nat.le_refl _) _).mono HW.out.size))
        obtain ⟨g, hg⟩ : ∃ g, g = wr.heap.size := ⟨_, rfl⟩
        rw [← hg]
        clear c1 c2 hg HW HR
        rintro w1 ⟨HB1, HW1⟩
        have m0 : w1.cell? ⟨g, 0, none⟩ = some (.int .i64 u) := HB1.out.cell 0
        have m1 : w1.cell? ⟨g, 1, none⟩ = some (.string ⟨kb.toArray⟩) := HB1.out.cell 1
        by_cases hu : u < 0 ∨ 64 ≤ u
        · have HE := Lib.hid (show chkA l = (((k : Nat) : Int), 1) by rw [HT.out, if_pos (by unfold accBad; rw [if_pos hu]; decide)]; unfold accBad; rw [if_pos hu])
          rcases Classical.em (u < 0) with hu0 | hu0
          · have d1 : decide (u < 0) = true := decide_eq_true hu0
            clear hu hu0
            go_wp2_with fail
            go_ret2
            exact ⟨by rw [HE.out]; rfl, HW1.out⟩
          · have d1 : decide (u < 0) = false := decide_eq_false hu0
            have d2 : decide (64 ≤ u) = true := decide_eq_true (by omega)
            clear hu hu0
            go_wp2_with fail
            go_ret2
            exact ⟨by rw [HE.out]; rfl, HW1.out⟩
        · have d1 : decide (u < 0) = false := decide_eq_false (by omega)
          have d2 : decide (64 ≤ u) = false := decide_eq_false (by omega)
          have HU := Lib.hid hu
          have HTK := Lib.hid ((H.out.below HW1.out).take k hk2)
          have hkc : (k : Int) ≤ (c : Int) := by omega
          clear hu
          go_wp2_with fail
          refine (containsA_any _ k c (l.take k) g _ u w1 HTK.out HB1.out rfl).mono ?_
          rintro e w2 ⟨rfl, b2⟩
          have HW2 := Lib.hid (HW1.out.trans (b2.mono HW1.out.size))
          have HB2 := Lib.hid (HB1.out.below b2 HB1.out.lt)
          clear b2 HW1 HB1 m0 m1 HTK hkc
          have m1 : w2.cell? ⟨g, 1, none⟩ = some (.string ⟨kb.toArray⟩) := HB2.out.cell 1
          cases hd : (l.take k).any (fun b => b.u == u) with
          | true =>
            have HE := Lib.hid (show chkA l = (((k : Nat) : Int), 6) by
              have e : accBad l k ⟨u, kb⟩ = 6 := by unfold accBad; rw [if_neg HU.out, if_pos hd]
              rw [HT.out, e]; rfl)
            clear hd
            go_wp2_with fail
            go_ret2
            exact ⟨by rw [HE.out]; rfl, HW2.out⟩
          | false =>
            have HD := Lib.hid hd
            clear hd
            by_cases hk32 : kb.length = 32
            · have HE := Lib.hid (show chkA l = chkFrom l (k + 1) (l.drop (k + 1)) by
                have e : accBad l k ⟨u, kb⟩ = 0 := by unfold accBad; rw [if_neg HU.out, if_neg (by rw [HD.out]; decide), if_neg (by simpa using hk32)]
                rw [HT.out, e]; rfl)
              have d3 : (((⟨kb.toArray⟩ : ByteArray).size : Int) != 32) = false := bne_eq_false_iff_eq.mpr (by rw [hsz, hk32]; rfl)
              have d4 : ((kb.length : Int) != 32) = false := bne_eq_false_iff_eq.mpr (by rw [hk32]; rfl)
              clear hk32
              go_wp2_with fail
              go_roundg (n - k)
              case measure => omega
              case rel => exact ⟨k + 1, by omega, by omega, by go_num, HW2, HE⟩
            · have HE := Lib.hid (show chkA l = (((k : Nat) : Int), 3) by
                have e : accBad l k ⟨u, kb⟩ = 3 := by unfold accBad; rw [if_neg HU.out, if_neg (by rw [HD.out]; decide), if_pos (by simpa using hk32)]
                rw [HT.out, e]; rfl)
              have d3 : (((⟨kb.toArray⟩ : ByteArray).size : Int) != 32) = true := bne_iff_ne.mpr (by rw [hsz]; omega)
              have d4 : ((kb.length : Int) != 32) = true := bne_iff_ne.mpr (by omega)
              clear hk32
              go_wp2_with fail
              go_ret2
              exact ⟨by rw [HE.out]; rfl, HW2.out⟩
      · obtain rfl : k = n := by omega
        have hq : gk = 1 := by omega
        subst hq
        have HF := Lib.hid (show chkA l = (0, 0) by rw [HR.out, List.drop_eq_nil_of_le (by rw [HLN.out]; omega)]; rfl)
        clear hlt hk2 hk
        go_wp2_with fail
        go_ret2
        exact ⟨by rw [HF.out]; rfl, HW.out⟩
end Go.Proofs.YtjmgkjjcdnaapaaDoor
namespace Go.Proofs.YtjmgkjjcdnaapaaDoor
open Go.RowKit Go.Proofs.YtjmgkjjcdnaapaaDoorW.PrintWords Go.Proofs.YtjmgkjjcdnaapaaDoorW.PrintLast
set_option linter.unusedSimpArgs false
set_option linter.unusedVariables false
set_option maxRecDepth 20000
def nw8.T : Bool × List (List Nat × List Nat) := (true, [([], []), ([], []), ([1], [1]), ([2], [2]), ([3], [3]), ([], []), ([5], [5]), ([6], [6]), ([7], [7]), ([4, 8], [4, 8]), ([0, 0, 1, 2, 3, 4, 5, 6, 7, 8, 9], [0]), ([10, 0, 1, 2, 3, 4, 5, 6, 7, 8, 9], [10]), ([11, 9, 9, 0, 1, 2, 3, 4, 5, 6, 7, 8, 9], [9, 11])])
def nw8.B : List Nat := [0, 0, 2, 6, 14, 0, 32, 96, 224, 510, 1023, 2047, 4095]
theorem nw8.tab : rtab .any (opsOf Tryd.f15 8) = nw8.T := by kernel_rfl
theorem nw8.bits : waitsOk nw8.T.2 nw8.B = true := by kernel_rfl
theorem gt_typed {e : TypeId} {s n B : Nat} {w : World} {v : Value} {xs : List Value} (h : w.ownsRow B e s v n xs) : ∀ k, v.ownBlock = some k → ∃ cs, Blk w k e cs := by
  intro k hk
  rcases h.2 with ⟨rfl, _⟩ | ⟨g, cap, cur, rfl, _, hc, _⟩
  · cases hk
  · injection hk with hk; subst hk; exact ⟨cur, hc⟩
theorem gt_type {w : World} {g : Nat} {t t' : TypeId} {cs cs' : Array Value} (h : Blk w g t cs) (k : Blk w g t' cs') : t = t' := by
  unfold Blk at h k
  rw [h] at k
  injection k with k
  injection k
theorem gt_apart {w : World} {g g' : Nat} {t t' : TypeId} {cs cs' : Array Value} (h : Blk w g t cs) (k : Blk w g' t' cs') (ht : t ≠ t') : g ≠ g' := fun e => ht (by subst e; exact gt_type h k)
theorem ptrs_snoc (gs : List Nat) (x : Nat) : ptrs (gs ++ [x]) = ptrs gs ++ [.pointer (some ⟨x, 0, none⟩)] := by simp [ptrs]
theorem GtA.push {B g x : Nat} {w w3 w4 : World} {v v' : Value} {gs : List Nat} {l : List Sg} (h : GtA B w g v gs l) (s : Sg) (hx : Blk w3 x 80 (sgC s)) (hxw : w.heap.size ≤ x) (hBx : B ≤ x) (h3 : Below w.heap.size w w3)
    (ho : Own 78 w4 B v' (ptrs gs ++ [.pointer (some ⟨x, 0, none⟩)])) (hg : w3.grownBy w4 v.ownBlock) (hfew : l.length + 1 ≤ 1000) : GtA B (w4.setCell ⟨g, 0, none⟩ v') g v' (gs ++ [x]) (l ++ [s]) := by
  have hB := h.below h3
  have hvt := gt_typed hB.vo
  have ne1 : ∀ {k : Nat} {t : TypeId} {cs : Array Value}, Blk w3 k t cs → t ≠ 78 → some k ≠ v.ownBlock := fun hk ht e => by
    obtain ⟨cs', hc⟩ := hvt _ e.symm
    exact ht (gt_type hk hc)
  have hg4 := hB.hg.grown hg (ne1 hB.hg (by decide))
  have hvt' := gt_typed ho
  refine ⟨?_, h.bg, ?_, by simp [h.len], ?_, ?_, by simpa using hfew⟩
  · have := hg4.set_ 0 v'
    simpa using this
  · rw [ptrs_snoc]
    refine Own.setFar ho (fun e => ?_) v'
    obtain ⟨cs', hc⟩ := hvt' _ e
    exact absurd (gt_type hg4 hc) (by decide)
  · intro j y s' h1 h2
    by_cases hj : j < gs.length
    · rw [List.getElem?_append_left hj] at h1
      rw [List.getElem?_append_left (by rw [← h.len]; exact hj)] at h2
      obtain ⟨b1, b2⟩ := hB.sg j y s' h1 h2
      exact ⟨b1, (b2.grown hg (ne1 b2 (by decide))).far (gt_apart (b2.grown hg (ne1 b2 (by decide))) hg4 (by decide)) v'⟩
    · have hj2 : j = gs.length := by
        have := (List.getElem?_eq_some_iff.1 h1).1
        simp at this; omega
      subst hj2
      rw [List.getElem?_append_right (Nat.le_refl _), Nat.sub_self] at h1
      rw [List.getElem?_append_right (by rw [h.len]; exact Nat.le_refl _), h.len, Nat.sub_self] at h2
      simp at h1 h2
      subst h1; subst h2
      have hx4 := hx.grown hg (ne1 hx (by decide))
      exact ⟨hBx, hx4.far (gt_apart hx4 hg4 (by decide)) v'⟩
  · rw [List.nodup_append]
    refine ⟨h.nd, by simp, fun a ha b hb => ?_⟩
    simp at hb
    subst hb
    obtain ⟨j, hj, rfl⟩ := List.mem_iff_getElem.1 ha
    have := (h.sg j gs[j] (l[j]'(by rw [← h.len]; exact hj)) (List.getElem?_eq_getElem hj) (List.getElem?_eq_getElem _)).2.lt
    omega
def acS (a : Ac) : Sg := ⟨a.u, a.k, 0⟩
theorem elemSg : Elem Tryd.prog 75 78 (.pointer none) 8 := ⟨Tryd.underlying75, by kernel_rfl, by rfl⟩
set_option maxHeartbeats 1600000 in
theorem new_any (A : Option Addr) (n c : Nat) (l : List Ac) (w : World) (h : Accs w A n c l) (hn : (chkA l).2 = 0) :
    Calls Tryd.prog 15 #[.slice A n c] w fun e w' => ∃ g v gs, e = .returned (.tuple #[.pointer (some ⟨g, 0, none⟩), .int .i64 0]) ∧ GtA w.heap.size w' g v gs (l.map acS) ∧ Below w.heap.size w w' := by
  have H := Lib.hid h
  have HLN := Lib.hid h.1
  have hnc : n ≤ c := h.2.1
  have hc := h.2.2.1
  have h64 : n ≤ 64 := by
    rcases Nat.lt_or_ge 64 l.length with hh | hh
    · unfold chkA at hn; rw [if_pos hh] at hn; exact absurd hn (by decide)
    · rw [← h.1]; exact hh
  have HN := Lib.hid hn
  obtain ⟨at0, AT⟩ : ∃ a, Hid ((chkA l).1 = a) := ⟨_, Lib.hid rfl⟩
  clear h hn
  go_enter Tryd.func15, Tryd.ntmps15
  go_wp2_with fail
  refine (check_any A n c l w H.out).mono ?_
  rintro e w1 ⟨rfl, b1⟩
  rw [AT.out, HN.out]
  have HW1 := Lib.hid b1
  clear b1
  go_upto_region 5 with fail
  refine gworld (fun W => Hid (GtA w.heap.size W w1.heap.size (.slice none 0 0) [] []) ∧ Hid (Below w.heap.size w W)) ⟨Lib.hid ⟨Blk.new w1 _ _, HW1.out.size, my_own_nil _ _ _, rfl, fun j x s hj => by simp at hj, List.nodup_nil, by decide⟩, Lib.hid (HW1.out.alloc HW1.out.size _)⟩ ?_
  obtain ⟨g, hg⟩ : ∃ g, g = w1.heap.size := ⟨_, rfl⟩
  rw [← hg]
  clear hg HW1
  rintro w2 ⟨D2, HW2⟩
  go_wp2_with fail
  go_loopg [21] (n + 1) (fun kq v wr => ∃ (k : Nat) (v' : Value) (gs : List Nat), k + kq = n + 1 ∧ k ≤ n ∧ v = .int .i64 k ∧ Hid (Below w.heap.size w wr) ∧ Hid (GtA w.heap.size wr g v' gs ((l.take k).map acS)))
  case atStart => exact ⟨0, _, _, by omega, by omega, rfl, HW2, D2⟩
  case round =>
    clear D2 HW2
    obtain ⟨k, v', gs, hk, hk2, rfl, HW, D⟩ := hrel
    by_cases hlt : k < n
    · obtain ⟨b', o, a, rfl, hx, c1, c2⟩ := (H.out.below HW.out).at_ k hlt
      have e1 : 0 ≤ (k : Int) ∧ (k : Int) < (n : Int) := by omega
      have HX := Lib.hid hx
      clear hx
      obtain ⟨u, kb⟩ := a
      go_upto_region 8 with fail
      refine gworld (fun W => Hid (Blk W wr.heap.size 44 #[.int .i64 u, .string ⟨kb.toArray⟩]) ∧ Hid (Below w.heap.size w W) ∧ Hid (GtA w.heap.size W g v' gs ((l.take k).map acS))) ⟨Lib.hid (Blk.new wr 44 _), Lib.hid (HW.out.alloc HW.out.size _), Lib.hid (D.out.below ((Below.refl _ _).alloc (Nat.le_refl _) _))⟩ ?_
      obtain ⟨a, ha⟩ : ∃ a, a = wr.heap.size := ⟨_, rfl⟩
      rw [← ha]
      clear c1 c2 ha HW D
      rintro w3 ⟨HB3, HW3, D3⟩
      obtain ⟨A1, c1, hv⟩ := D3.out.form
      subst hv
      have g0 : w3.drew.cell? ⟨g, 0, none⟩ = some (.slice A1 ((l.take k).map acS).length c1) := D3.out.hg.cell 0
      have a0 : w3.drew.cell? ⟨a, 0, none⟩ = some (.int .i64 u) := HB3.out.cell 0
      have a1 : w3.drew.cell? ⟨a, 1, none⟩ = some (.string ⟨kb.toArray⟩) := HB3.out.cell 1
      obtain ⟨m, hm⟩ : ∃ m, Hid ((l.take k).map acS = m) := ⟨_, Lib.hid rfl⟩
      have HML := Lib.hid (show m.length = k by rw [← hm.out]; simp; rw [HLN.out]; omega)
      rw [hm.out] at D3 g0
      have hbuild : Tryd.prog.built 80 [(0, Value.agg #[.int .i64 u, .string ⟨kb.toArray⟩])] = some #[.int .i64 u, .string ⟨kb.toArray⟩, .int .i64 0] := by kernel_rfl
      obtain ⟨w4, hw4⟩ : ∃ w4, w4 = w3.drew.alloc (.cells #[.int .i64 u, .string ⟨kb.toArray⟩, .int .i64 0] 80) := ⟨_, rfl⟩
      obtain ⟨x, hx⟩ : ∃ x, x = w3.drew.heap.size := ⟨_, rfl⟩
      have hs4 : w4.heap.size = x + 1 := by rw [hw4, hx]; simp
      have hl4 : (ptrs gs).length = m.length := by have := D3.out.len; simp [ptrs, this]
      have hVO : Own 78 (w4.alloc (.cells [Value.pointer (some ⟨x, 0, none⟩)].toArray 78)) w.heap.size (.slice A1 m.length c1) (ptrs gs) := by rw [hw4]; exact (D3.out.vo.drew.alloc _).alloc _
      have hcell : ∀ (j : Nat) (y : Value), [Value.pointer (some ⟨x, 0, none⟩)][j]? = some y → (w4.alloc (.cells [Value.pointer (some ⟨x, 0, none⟩)].toArray 78)).cell? ⟨x + 1, j, none⟩ = some y := fun j y hy => by rw [← hs4]; exact new_cells w4 _ _ j y hy
      have hone : ∀ y ∈ [Value.pointer (some ⟨x, 0, none⟩)], y.oneCell' = true := fun y hy => by rw [List.mem_singleton.1 hy]; rfl
      have hsz : w.heap.size ≤ (w4.alloc (.cells [Value.pointer (some ⟨x, 0, none⟩)].toArray 78)).heap.size := by
        have := HW3.out.size
        simp [hs4, hx]; omega
      have hmk : m.length ≤ 64 := by rw [HML.out]; omega
      obtain ⟨A2, c2, w6, hrun, hown, hgr⟩ := own_append (ty := 75) elemSg hVO (x + 1) 1 1 [Value.pointer (some ⟨x, 0, none⟩)] rfl hcell hone (by rw [hl4]; omega) (by rw [hl4]; omega) hsz
      have hX4 : Blk w4 x 80 (sgC ⟨u, kb, 0⟩) := by rw [hw4, hx]; exact Blk.new _ _ _
      have hX5 : Blk (w4.alloc (.cells [Value.pointer (some ⟨x, 0, none⟩)].toArray 78)) x 80 (sgC ⟨u, kb, 0⟩) := hX4.alloc _
      have hb4 : Below w3.heap.size w3 w4 := by rw [hw4]; exact (show Below w3.heap.size w3 w3.drew from below_drewN (Below.refl _ _) 1).alloc (Nat.le_refl _) _
      have hb5 : Below w3.heap.size w3 (w4.alloc (.cells [Value.pointer (some ⟨x, 0, none⟩)].toArray 78)) := hb4.alloc hb4.size _
      have HG5 := Lib.hid (D3.out.push ⟨u, kb, 0⟩ hX5 (by rw [hx]; exact Nat.le_refl _) (by rw [hx]; exact HW3.out.size) hb5 hown hgr (by omega))
      have HS5 := Lib.hid (show w4.cell? ⟨g, 0, none⟩ = some (.slice A1 m.length c1) ∧ w4.cell? ⟨a, 0, none⟩ = some (.int .i64 u) ∧ w4.cell? ⟨a, 1, none⟩ = some (.string ⟨kb.toArray⟩) from ⟨(D3.out.hg.below hb4 D3.out.hg.lt).cell 0, (HB3.out.below hb4 HB3.out.lt).cell 0, (HB3.out.below hb4 HB3.out.lt).cell 1⟩)
      have HS6 := Lib.hid (show (w4.alloc (.cells [Value.pointer (some ⟨x, 0, none⟩)].toArray 78)).cell? ⟨g, 0, none⟩ = some (.slice A1 m.length c1) ∧ (w4.alloc (.cells [Value.pointer (some ⟨x, 0, none⟩)].toArray 78)).cell? ⟨a, 0, none⟩ = some (.int .i64 u) ∧ (w4.alloc (.cells [Value.pointer (some ⟨x, 0, none⟩)].toArray 78)).cell? ⟨a, 1, none⟩ = some (.string ⟨kb.toArray⟩) from ⟨(D3.out.hg.below hb5 D3.out.hg.lt).cell 0, (HB3.out.below hb5 HB3.out.lt).cell 0, (HB3.out.below hb5 HB3.out.lt).cell 1⟩)
      have hvt := gt_typed (D3.out.below hb5).vo
      have HS7 := Lib.hid (show w6.cell? ⟨g, 0, none⟩ = some (.slice A1 m.length c1) ∧ w6.cell? ⟨a, 0, none⟩ = some (.int .i64 u) ∧ w6.cell? ⟨a, 1, none⟩ = some (.string ⟨kb.toArray⟩) by
        have G6 := (D3.out.hg.below hb5 D3.out.hg.lt).grown hgr (fun e => by obtain ⟨cs, hc⟩ := hvt _ e.symm; exact absurd (gt_type (D3.out.hg.below hb5 D3.out.hg.lt) hc) (by decide))
        have A6 := (HB3.out.below hb5 HB3.out.lt).grown hgr (fun e => by obtain ⟨cs, hc⟩ := hvt _ e.symm; exact absurd (gt_type (HB3.out.below hb5 HB3.out.lt) hc) (by decide))
        exact ⟨G6.cell 0, A6.cell 0, A6.cell 1⟩)
      have FG := Lib.hid (show w6.frozen? ⟨g, 0, none⟩ = false from ((D3.out.hg.below hb5 D3.out.hg.lt).grown hgr (fun e => by obtain ⟨cs, hc⟩ := hvt _ e.symm; exact absurd (gt_type (D3.out.hg.below hb5 D3.out.hg.lt) hc) (by decide))).frozen 0)
      have HB6 := Lib.hid (show Below w.heap.size w w6 from Own.below_grown hVO (HW3.out.trans (hb5.mono HW3.out.size)) hsz hgr)
      have fG := FG.out
      have hrun2 := hrun
      rw [hw4, hx] at hrun2
      have HS5' := HS5
      have HS6' := HS6
      rw [hw4] at HS5'
      rw [hw4, hx] at HS6'
      refine start_ (n := 13) (S := fun w' => w'.cell? ⟨g, 0, none⟩ = some (.slice A1 m.length c1) ∧ w'.cell? ⟨a, 0, none⟩ = some (.int .i64 u) ∧ w'.cell? ⟨a, 1, none⟩ = some (.string ⟨kb.toArray⟩)) (ds := [12]) #[false, false, false, false, false, false, false, false, false, false, false, false, false] (by kernel_rfl) rfl rfl ⟨g0, a0, a1⟩ (fun hHeld => ?_)
      refine with_tabW nw8.tab nw8.bits (fun HT_ HW_ => ?_)
      refine pure_ (i := 0) (N := some 25) (v := ?_) (a' := ?_) #[true, false, false, false, false, false, false, false, false, false, false, false, false] rfl rfl (any_of HT_.out (by kernel_rfl)) (fun _ _ _ h => h) (Or.inl ⟨by rfl, ?_⟩) ?_ ?_
      rotate_left
      · intro w'
        go_simp
        try with_reducible rfl
      rotate_left
      · simp only [Act.put, List.setIfInBounds_toArray, List.set_cons_zero, List.set_cons_succ]
        rfl
      refine pure_ (i := 1) (N := some 26) (v := ?_) (a' := ?_) #[true, true, false, false, false, false, false, false, false, false, false, false, false] rfl rfl (any_of HT_.out (by kernel_rfl)) (fun _ _ _ h => h) (Or.inl ⟨by rfl, ?_⟩) ?_ ?_
      rotate_left
      · intro w'
        go_simp
        try with_reducible rfl
      rotate_left
      · simp only [Act.put, List.setIfInBounds_toArray, List.set_cons_zero, List.set_cons_succ]
        rfl
      refine pure_ (i := 2) (N := some 27) (v := ?_) (a' := ?_) #[true, true, true, false, false, false, false, false, false, false, false, false, false] rfl rfl (any_of HT_.out (by kernel_rfl)) (fun _ _ _ h => h) (Or.inl ⟨by rfl, ?_⟩) ?_ ?_
      rotate_left
      · intro w'
        go_simp
        try with_reducible rfl
      rotate_left
      · simp only [Act.put, List.setIfInBounds_toArray, List.set_cons_zero, List.set_cons_succ]
        rfl
      refine pure_ (i := 3) (N := some 28) (v := ?_) (a' := ?_) #[true, true, true, true, false, false, false, false, false, false, false, false, false] rfl rfl (any_of HT_.out (by kernel_rfl)) (fun _ _ _ h => h) (Or.inl ⟨by rfl, ?_⟩) ?_ ?_
      rotate_left
      · intro w'
        go_simp
        try with_reducible rfl
      rotate_left
      · simp only [Act.put, List.setIfInBounds_toArray, List.set_cons_zero, List.set_cons_succ]
        rfl
      refine take_ (i := 4) (N := some 29) (v := ?_) (a' := ?_) #[true, true, true, true, true, false, false, false, false, false, false, false, false] rfl rfl (take_ofW HT_.out HW_.out (by kernel_rfl)) (fun _ _ _ h => h) (Or.inl ⟨by rfl, ?_⟩) hHeld ?_ ?_
      rotate_left
      · rintro w' ⟨s0, s1, s2⟩
        go_simp
        try with_reducible rfl
      rotate_left
      · simp only [Act.put, List.setIfInBounds_toArray, List.set_cons_zero, List.set_cons_succ]
        rfl
      refine take_ (i := 5) (N := some 30) (v := ?_) (a' := ?_) #[true, true, true, true, true, true, false, false, false, false, false, false, false] rfl rfl (take_ofW HT_.out HW_.out (by kernel_rfl)) (fun _ _ _ h => h) (Or.inl ⟨by rfl, ?_⟩) hHeld ?_ ?_
      rotate_left
      · rintro w' ⟨s0, s1, s2⟩
        go_simp
        try with_reducible rfl
      rotate_left
      · simp only [Act.put, List.setIfInBounds_toArray, List.set_cons_zero, List.set_cons_succ]
        rfl
      refine pure_ (i := 6) (N := some 31) (v := ?_) (a' := ?_) #[true, true, true, true, true, true, true, false, false, false, false, false, false] rfl rfl (any_of HT_.out (by kernel_rfl)) (fun _ _ _ h => h) (Or.inl ⟨by rfl, ?_⟩) ?_ ?_
      rotate_left
      · intro w'
        go_simp
        try with_reducible rfl
      rotate_left
      · simp only [Act.put, List.setIfInBounds_toArray, List.set_cons_zero, List.set_cons_succ]
        rfl
      refine one_ (i := 7) (N := some 32) #[true, true, true, true, true, true, true, true, false, false, false, false, false] rfl rfl (one_of HT_.out (by kernel_rfl)) (by decide) (fun K hK => ?_)
      refine value_ (w1 := ?_) (v := ?_) (by rfl) rfl ?_ ?_
      rotate_left 2
      · go_simp
        constructor
        · rfl
        · rfl
      refine hK.out _ _ HS5'.out (fun hHeld => ?_)
      clear hK K
      refine norm_ (a' := ?_) ?_ ?_
      rotate_left
      · show Act.put _ (some 32) _ = _
        simp only [Act.put, List.setIfInBounds_toArray, List.set_cons_zero, List.set_cons_succ]
        rfl
      refine one_ (i := 8) (N := some 33) #[true, true, true, true, true, true, true, true, true, false, false, false, false] rfl rfl (one_of HT_.out (by kernel_rfl)) (by decide) (fun K hK => ?_)
      refine value_ (w1 := ?_) (v := ?_) (by rfl) rfl ?_ ?_
      rotate_left 2
      · go_simp
        constructor
        · rfl
        · rfl
      refine hK.out _ _ HS6'.out (fun hHeld => ?_)
      clear hK K
      refine norm_ (a' := ?_) ?_ ?_
      rotate_left
      · show Act.put _ (some 33) _ = _
        simp only [Act.put, List.setIfInBounds_toArray, List.set_cons_zero, List.set_cons_succ]
        rfl
      refine one_ (i := 9) (N := some 34) #[true, true, true, true, true, true, true, true, true, true, false, false, false] rfl rfl (one_of HT_.out (by kernel_rfl)) (by decide) (fun K hK => ?_)
      refine step_append_run (by rfl) (.tmp 29) (.tmp 33) 75 75 rfl rfl rfl hrun2 ?_
      refine hK.out _ _ HS7.out (fun hHeld => ?_)
      clear hK K
      refine norm_ (a' := ?_) ?_ ?_
      rotate_left
      · show Act.put _ (some 34) _ = _
        simp only [Act.put, List.setIfInBounds_toArray, List.set_cons_zero, List.set_cons_succ]
        rfl
      refine pure_ (i := 10) (N := some 35) (v := ?_) (a' := ?_) #[true, true, true, true, true, true, true, true, true, true, true, false, false] rfl rfl (any_of HT_.out (by kernel_rfl)) (fun _ _ _ h => h) (Or.inl ⟨by rfl, ?_⟩) ?_ ?_
      rotate_left
      · intro w'
        go_simp
        try with_reducible rfl
      rotate_left
      · simp only [Act.put, List.setIfInBounds_toArray, List.set_cons_zero, List.set_cons_succ]
        rfl
      refine pure_ (i := 11) (N := some 36) (v := ?_) (a' := ?_) #[true, true, true, true, true, true, true, true, true, true, true, true, false] rfl rfl (any_of HT_.out (by kernel_rfl)) (fun _ _ _ h => h) (Or.inl ⟨by rfl, ?_⟩) ?_ ?_
      rotate_left
      · intro w'
        go_simp
        try with_reducible rfl
      rotate_left
      · simp only [Act.put, List.setIfInBounds_toArray, List.set_cons_zero, List.set_cons_succ]
        rfl
      refine last_ (i := 12) (N := none) #[true, true, true, true, true, true, true, true, true, true, true, true, true] rfl rfl (one_of HT_.out (by kernel_rfl)) (by decide) (fun K hK => ?_)
      refine skip_ (w1 := ?_) (by rfl) rfl ?_ ?_
      rotate_left
      · go_simp
        try rfl
      refine hK.out _ _ ?_
      clear hK K
      refine done_ (done_of HT_.out (by kernel_rfl)) ?_
      clear HT_ HW_
      rw [hl4] at HG5
      have HC := Lib.hid (show (l.take (k + 1)).map acS = m ++ [⟨u, kb, 0⟩] by
        rw [List.take_add_one, HX.out, List.map_append, hm.out]; rfl)
      clear hHeld fG hrun hrun2 hown hgr hvt HS7 HS6 HS5 HS6' HS5' FG hb4 hb5 hX4 hX5 hsz hone hcell hVO g0 a0 a1 hw4 hbuild hx
      go_wp2_with fail
      go_roundg (n - k)
      case measure => omega
      case rel => exact ⟨k + 1, _, _, by omega, by omega, by go_num, Lib.hid (HB6.out.setCell D3.out.bg _), by rw [HC.out]; exact HG5⟩
    · obtain rfl : k = n := by omega
      have hq : gk = 1 := by omega
      subst hq
      have HF := Lib.hid (show l.take k = l from List.take_of_length_le (by rw [HLN.out]; exact Nat.le_refl _))
      clear hlt hk2 hk
      go_wp2_with fail
      go_ret2
      exact ⟨g, v', gs, by rfl, by have := D.out; rw [HF.out] at this; exact this, HW.out⟩
end Go.Proofs.YtjmgkjjcdnaapaaDoor
namespace Go.Proofs.YtjmgkjjcdnaapaaDoor
open Go.RowKit Go.Proofs.YtjmgkjjcdnaapaaDoorW.PrintWords Go.Proofs.YtjmgkjjcdnaapaaDoorW.PrintLast
set_option linter.unusedSimpArgs false
set_option linter.unusedVariables false
theorem elemU8 : Elem Tryd.prog 61 5 (.int .u8 0) 1 := ⟨Tryd.underlying61, by kernel_rfl, by rfl⟩
theorem someB_no {a : S68} (h : someB a = false) : a.f0.toList = [] ∧ a.f1.toList = [] := by
  unfold someB at h
  simpa using h
end Go.Proofs.YtjmgkjjcdnaapaaDoor
namespace Go.Proofs.YtjmgkjjcdnaapaaDoor.PMailA
open Go.RowKit Go.Proofs.YtjmgkjjcdnaapaaDoorW.PrintWords Go.Proofs.YtjmgkjjcdnaapaaDoorW.PrintLast Go.Proofs.YtjmgkjjcdnaapaaDoorW.PrintMore
attribute [local go_sem] max2_int min2_int max_two min_two max_three min_three max_four min_four   -- for this text's walks alone
set_option linter.unusedVariables false
set_option linter.unusedSimpArgs false



def errW : Option Int → Value
  | none => .nilIface
  | some c => .iface 0 (.int .i64 c)
theorem errW_none : errW none = .nilIface := rfl
theorem errW_some (c : Int) : errW (some c) = .iface 0 (.int .i64 c) := rfl

theorem info9 : (Tryd.prog.info? 9).map (fun i => (i.zero, i.size, i.bytes)) = some (some (.string ⟨#[]⟩), 1, 16) := by kernel_rfl
theorem info68 : (Tryd.prog.info? 68).map (fun i => (i.zero, i.size, i.bytes)) = some (some (.agg #[(.string ⟨#[]⟩), (.string ⟨#[]⟩)]), 2, 32) := by kernel_rfl
end Go.Proofs.YtjmgkjjcdnaapaaDoor.PMailA
namespace Go.Proofs.YtjmgkjjcdnaapaaDoor.PMailA
open Go.RowKit Go.Proofs.YtjmgkjjcdnaapaaDoorW.PrintWords Go.Proofs.YtjmgkjjcdnaapaaDoorW.PrintLast Go.Proofs.YtjmgkjjcdnaapaaDoorW.PrintMore
attribute [local go_sem] max2_int min2_int max_two min_two max_three min_three max_four min_four   -- for this text's walks alone
set_option linter.unusedVariables false
set_option linter.unusedSimpArgs false

theorem eqA68 (d : Nat) (w : World) (x0 y0 : ByteArray) (x1 y1 : ByteArray) :
    (Op.equalIn (d + 2) 68 (.agg #[.string x0, .string x1]) (.agg #[.string y0, .string y1])).run Tryd.prog w = .ok (x0.toList == y0.toList && (x1.toList == y1.toList)) w := by
  refine eqA_of Tryd.underlying68 (by kernel_rfl) ?_
  refine eqf_cons (by rfl) (by go_simp; rfl) (by go_simp; rfl) (by go_simp) ?_
  exact eqf_last (by rfl) (by go_simp; rfl) (by go_simp; rfl) (by go_simp)
end Go.Proofs.YtjmgkjjcdnaapaaDoor.PMailA
namespace Go.Proofs.YtjmgkjjcdnaapaaDoor.PMailA
open Go.RowKit Go.Proofs.YtjmgkjjcdnaapaaDoorW.PrintWords Go.Proofs.YtjmgkjjcdnaapaaDoorW.PrintLast Go.Proofs.YtjmgkjjcdnaapaaDoorW.PrintMore
attribute [local go_sem] max2_int min2_int max_two min_two max_three min_three max_four min_four   -- for this text's walks alone
set_option linter.unusedVariables false
set_option linter.unusedSimpArgs false

/-! ### mail_Check: function 38 -/
mutual
def mail_Check.j0 : Nat → Bool → Int → Int → Int → ByteArray → ByteArray → List (S68) → List ByteArray → Option (Int)
  | 0, _, _, _, _, _, _, _, _ => none
  | k + 1, x3, x102000, x102001, x102002, x102003, x102004, x102005, x102006 => if x102001 = 0 then (mail_Check.j1 k x3 (x102002 == 0) x102000 x102001 x102002 x102003 x102004 x102005 x102006) else (mail_Check.j1 k x3 false x102000 x102001 x102002 x102003 x102004 x102005 x102006)
def mail_Check.j1 : Nat → Bool → Bool → Int → Int → Int → ByteArray → ByteArray → List (S68) → List ByteArray → Option (Int)
  | 0, _, _, _, _, _, _, _, _, _ => none
  | k + 1, x3, x4, x102000, x102001, x102002, x102003, x102004, x102005, x102006 => if x102000 = 1 then (if x4 = true then (if ((x102003.size : Int) = 504) then (if (x102004.toList = ([] : List UInt8)) then (if ((x102005.length : Int) = 0) then (if ((x102006.length : Int) = 0) then (some 0) else (some 110)) else (some 110)) else (some 110)) else (some 110)) else (some 110)) else (if x102000 = 2 then (if x3 = true then (if (x102003.toList = ([] : List UInt8)) then (if ((x102004.size : Int) = 32) then (if ((x102005.length : Int) = 0) then (if ((x102006.length : Int) = 0) then (some 0) else (some 110)) else (some 110)) else (some 110)) else (some 110)) else (some 110)) else (if x102000 = 3 then ((mail_filled.f x102005).bind fun t102 => (if x3 = true then (if (x102003.toList = ([] : List UInt8)) then (if (x102004.toList = ([] : List UInt8)) then (if t102 = true then (if ((x102006.length : Int) = 0) then (some 0) else (some 110)) else (some 110)) else (some 110)) else (some 110)) else (some 110))) else (if x102000 = 4 then (if (x102006.length : Int) ≤ 4 then ((mail_stranger.f x102006).bind fun t103 => (if x3 = true then (if (x102003.toList = ([] : List UInt8)) then (if ((x102004.size : Int) = 32) then (if ((x102005.length : Int) = 0) then (if t103 = true then (some 110) else (some 0)) else (some 110)) else (some 110)) else (some 110)) else (some 110))) else (if x3 = true then (if (x102003.toList = ([] : List UInt8)) then (if ((x102004.size : Int) = 32) then (if ((x102005.length : Int) = 0) then (some 110) else (some 110)) else (some 110)) else (some 110)) else (some 110))) else (some 110))))
end
def mail_Check.f (k : Nat) (a0_0 : Int) (a0_1 : Int) (a0_2 : Int) (a0_3 : ByteArray) (a0_4 : ByteArray) (l0_5 : List (S68)) (l0_6 : List ByteArray) : Option (Int) := if a0_1 ≥ 0 then (if a0_1 < 64 then (if a0_2 ≥ 1 then (mail_Check.j0 k (decide (a0_2 ≤ 2147483647)) a0_0 a0_1 a0_2 a0_3 a0_4 l0_5 l0_6) else (mail_Check.j0 k false a0_0 a0_1 a0_2 a0_3 a0_4 l0_5 l0_6)) else (mail_Check.j0 k false a0_0 a0_1 a0_2 a0_3 a0_4 l0_5 l0_6)) else (mail_Check.j0 k false a0_0 a0_1 a0_2 a0_3 a0_4 l0_5 l0_6)
theorem mail_Check.mono_l : ∀ k, (∀ y0 y1 y2 y3 y4 y5 y6 y7, LeO (mail_Check.j0 k y0 y1 y2 y3 y4 y5 y6 y7) (mail_Check.j0 (k + 1) y0 y1 y2 y3 y4 y5 y6 y7)) ∧ (∀ y0 y1 y2 y3 y4 y5 y6 y7 y8, LeO (mail_Check.j1 k y0 y1 y2 y3 y4 y5 y6 y7 y8) (mail_Check.j1 (k + 1) y0 y1 y2 y3 y4 y5 y6 y7 y8))
  | 0 => ⟨fun _ _ _ _ _ _ _ _ r h => by simp [mail_Check.j0] at h, fun _ _ _ _ _ _ _ _ _ r h => by simp [mail_Check.j1] at h⟩
  | k + 1 => by
    obtain ⟨ih0, ih1⟩ := mail_Check.mono_l k
    refine ⟨?_, ?_⟩
    · intro y0 y1 y2 y3 y4 y5 y6 y7
      unfold mail_Check.j0
      repeat' first
      | (with_reducible exact ih0 _ _ _ _ _ _ _ _)
      | (with_reducible exact ih1 _ _ _ _ _ _ _ _ _)
      | (with_reducible exact LeO.refl _)
      | (with_reducible exact LeO.none _)
      | (with_reducible refine LeO.ite ?_ ?_)
      | (with_reducible refine LeO.bind ?_ (fun _ => ?_))
      | exact ih0 _ _ _ _ _ _ _ _
      | exact ih1 _ _ _ _ _ _ _ _ _
      | exact LeO.none _
      | refine LeO.ite ?_ ?_
      | refine LeO.bind ?_ (fun _ => ?_)
    · intro y0 y1 y2 y3 y4 y5 y6 y7 y8
      unfold mail_Check.j1
      repeat' first
      | (with_reducible exact ih0 _ _ _ _ _ _ _ _)
      | (with_reducible exact ih1 _ _ _ _ _ _ _ _ _)
      | (with_reducible exact LeO.refl _)
      | (with_reducible exact LeO.none _)
      | (with_reducible refine LeO.ite ?_ ?_)
      | (with_reducible refine LeO.bind ?_ (fun _ => ?_))
      | exact ih0 _ _ _ _ _ _ _ _
      | exact ih1 _ _ _ _ _ _ _ _ _
      | exact LeO.none _
      | refine LeO.ite ?_ ?_
      | refine LeO.bind ?_ (fun _ => ?_)
theorem mail_Check.mono : ∀ a0 a1 a2 a3 a4 a5 a6 k, LeO (mail_Check.f k a0 a1 a2 a3 a4 a5 a6) (mail_Check.f (k + 1) a0 a1 a2 a3 a4 a5 a6) := by
  intro a0 a1 a2 a3 a4 a5 a6 k
  obtain ⟨ih0, ih1⟩ := mail_Check.mono_l k
  unfold mail_Check.f
  repeat' first
      | (with_reducible exact ih0 _ _ _ _ _ _ _ _)
      | (with_reducible exact ih1 _ _ _ _ _ _ _ _ _)
      | (with_reducible exact LeO.refl _)
      | (with_reducible exact LeO.none _)
      | (with_reducible refine LeO.ite ?_ ?_)
      | (with_reducible refine LeO.bind ?_ (fun _ => ?_))
      | exact ih0 _ _ _ _ _ _ _ _
      | exact ih1 _ _ _ _ _ _ _ _ _
      | exact LeO.none _
      | refine LeO.ite ?_ ?_
      | refine LeO.bind ?_ (fun _ => ?_)
set_option maxHeartbeats 8000000 in
set_option maxRecDepth 100000 in
theorem mail_Check.calls (k : Nat) (a0_0 : Int) (a0_1 : Int) (a0_2 : Int) (a0_3 : ByteArray) (a0_4 : ByteArray) (A0_5 : Option Addr) (c0_5 : Nat) (l0_5 : List (S68)) (A0_6 : Option Addr) (c0_6 : Nat) (l0_6 : List ByteArray) (r : Int) (w : World) (hr0_5 : Kd.C k68 w A0_5 l0_5.length l0_5) (hc0_5 : l0_5.length ≤ c0_5) (hr0_6 : Kd.C Kd.string w A0_6 l0_6.length l0_6) (hc0_6 : l0_6.length ≤ c0_6) (h : mail_Check.f k a0_0 a0_1 a0_2 a0_3 a0_4 l0_5 l0_6 = some r) :
    Calls Tryd.prog 38 #[.agg #[.int .i64 a0_0, .int .i64 a0_1, .int .i64 a0_2, .string a0_3, .string a0_4, .slice A0_5 l0_5.length c0_5, .slice A0_6 l0_6.length c0_6]] w fun e w' => e = .returned (.int .i64 r) ∧ Below w.heap.size w w' := by
  have hu25 := Tryd.underlying25
  have HR0_5 := Aside0.mk hr0_5
  have HC0_5 := Aside0.mk hc0_5
  clear hr0_5 hc0_5
  have HR0_6 := Aside0.mk hr0_6
  have HC0_6 := Aside0.mk hc0_6
  clear hr0_6 hc0_6
  have HB := Aside0.mk (Below.refl w.heap.size w)
  have H : (if a0_1 ≥ 0 then (if a0_1 < 64 then (if a0_2 ≥ 1 then (mail_Check.j0 k (decide (a0_2 ≤ 2147483647)) a0_0 a0_1 a0_2 a0_3 a0_4 l0_5 l0_6) else (mail_Check.j0 k false a0_0 a0_1 a0_2 a0_3 a0_4 l0_5 l0_6)) else (mail_Check.j0 k false a0_0 a0_1 a0_2 a0_3 a0_4 l0_5 l0_6)) else (mail_Check.j0 k false a0_0 a0_1 a0_2 a0_3 a0_4 l0_5 l0_6)) = some r := h
  clear h
  have HC2 := Aside0.mk H
  clear H
  go_enter Tryd.func38, Tryd.ntmps38
  go_upto_region 1 with (first | ((with_reducible refine gate_dst (N := 1) rfl ?_); refine box_event ?hg (N := 1) ?hd (cs := #[.int .i64 a0_0, .int .i64 a0_1, .int .i64 a0_2, .string a0_3, .string a0_4, .slice A0_5 l0_5.length c0_5, .slice A0_6 l0_6.length c0_6]) (t := 25) ?hr ?_; (case hd => rfl); (case hg => rfl); (case hr => first | (go_simp; done) | (go_simp; rfl)); intro gb101 hg w3 hbox hb; have n0_ := Aside0.mk (below_step (by repeat (first | (with_reducible first | exact HB.out | apply below_alloc | apply pw_below_drewN | apply below_drew1) | exact HB.out)) hb); have n1_ := Aside0.mk (hbox); have n2_ := Aside0.mk ((by rw [hg]; exact (below_size (by repeat (first | (with_reducible first | exact HB.out | apply below_alloc | apply pw_below_drewN | apply below_drew1) | exact HB.out))) : w.heap.size ≤ gb101)); have n3_ := Aside0.mk ((by rw [hg]; exact (below_size (by repeat (first | (with_reducible first | exact HB.out | apply below_alloc | apply pw_below_drewN | apply below_drew1) | exact HB.out))) : w.heap.size ≤ gb101)); clear HB; have HB := n0_; have BK101 := n1_; have GW101 := n2_; have GE101 := n3_; clear n0_ n1_ n2_ n3_; clear hb hbox hg))
  repeat (go_quiet (first | ((with_reducible refine gate_dst (N := 1) rfl ?_); refine box_event ?hg (N := 1) ?hd (cs := #[.int .i64 a0_0, .int .i64 a0_1, .int .i64 a0_2, .string a0_3, .string a0_4, .slice A0_5 l0_5.length c0_5, .slice A0_6 l0_6.length c0_6]) (t := 25) ?hr ?_; (case hd => rfl); (case hg => rfl); (case hr => first | (go_simp; done) | (go_simp; rfl)); intro gb101 hg w3 hbox hb; have n0_ := Aside0.mk (below_step (by repeat (first | (with_reducible first | exact HB.out | apply below_alloc | apply pw_below_drewN | apply below_drew1) | exact HB.out)) hb); have n1_ := Aside0.mk (hbox); have n2_ := Aside0.mk ((by rw [hg]; exact (below_size (by repeat (first | (with_reducible first | exact HB.out | apply below_alloc | apply pw_below_drewN | apply below_drew1) | exact HB.out))) : w.heap.size ≤ gb101)); have n3_ := Aside0.mk ((by rw [hg]; exact (below_size (by repeat (first | (with_reducible first | exact HB.out | apply below_alloc | apply pw_below_drewN | apply below_drew1) | exact HB.out))) : w.heap.size ≤ gb101)); clear HB; have HB := n0_; have BK101 := n1_; have GW101 := n2_; have GE101 := n3_; clear n0_ n1_ n2_ n3_; clear hb hbox hg)); go_upto_region 1 with (first | ((with_reducible refine gate_dst (N := 1) rfl ?_); refine box_event ?hg (N := 1) ?hd (cs := #[.int .i64 a0_0, .int .i64 a0_1, .int .i64 a0_2, .string a0_3, .string a0_4, .slice A0_5 l0_5.length c0_5, .slice A0_6 l0_6.length c0_6]) (t := 25) ?hr ?_; (case hd => rfl); (case hg => rfl); (case hr => first | (go_simp; done) | (go_simp; rfl)); intro gb101 hg w3 hbox hb; have n0_ := Aside0.mk (below_step (by repeat (first | (with_reducible first | exact HB.out | apply below_alloc | apply pw_below_drewN | apply below_drew1) | exact HB.out)) hb); have n1_ := Aside0.mk (hbox); have n2_ := Aside0.mk ((by rw [hg]; exact (below_size (by repeat (first | (with_reducible first | exact HB.out | apply below_alloc | apply pw_below_drewN | apply below_drew1) | exact HB.out))) : w.heap.size ≤ gb101)); have n3_ := Aside0.mk ((by rw [hg]; exact (below_size (by repeat (first | (with_reducible first | exact HB.out | apply below_alloc | apply pw_below_drewN | apply below_drew1) | exact HB.out))) : w.heap.size ≤ gb101)); clear HB; have HB := n0_; have BK101 := n1_; have GW101 := n2_; have GE101 := n3_; clear n0_ n1_ n2_ n3_; clear hb hbox hg)))
  (try simp only [Act.put, List.setIfInBounds_toArray, List.set_cons_zero, List.set_cons_succ])
  go_cut [3] (fun v3 wc => ∃ (kq : Nat) (x3_1 : Bool), v3 = .bool x3_1 ∧ Aside0 (mail_Check.j0 kq x3_1 a0_0 a0_1 a0_2 a0_3 a0_4 l0_5 l0_6 = some r) ∧ Aside0 (kq ≤ k) ∧ Aside0 (wc.heap[gb101]? = some (.cells #[.int .i64 a0_0, .int .i64 a0_1, .int .i64 a0_2, .string a0_3, .string a0_4, (.slice A0_5 l0_5.length c0_5), (.slice A0_6 l0_6.length c0_6)] 25 (0, 0))) ∧ Aside0 (Below w.heap.size w wc))
  case first =>
    have H := HC2.out
    clear HC2
    by_cases c4 : a0_1 ≥ 0
    · rw [if_pos c4] at H
      have c4b0 : decide (0 ≤ a0_1) = true := decide_eq_true c4
      clear c4
      (first | rw [c4b0] | (simp only [i64_w, i32_w]; rw [c4b0]) | skip)
      by_cases c5 : a0_1 < 64
      · rw [if_pos c5] at H
        have c5b0 : decide (a0_1 < 64) = true := decide_eq_true c5
        clear c5
        by_cases c6 : a0_2 ≥ 1
        · rw [if_pos c6] at H
          have c6b0 : decide (1 ≤ a0_2) = true := decide_eq_true c6
          clear c6
          have H' := Aside0.mk H
          clear H
          have hcz7_0 : w3.cell? ⟨gb101, 0, none⟩ = some (.int .i64 a0_0) := (blk_cell BK101.out 0).trans rfl
          have hcz7_1 : w3.cell? ⟨gb101, 1, none⟩ = some (.int .i64 a0_1) := (blk_cell BK101.out 1).trans rfl
          have hcz7_2 : w3.cell? ⟨gb101, 2, none⟩ = some (.int .i64 a0_2) := (blk_cell BK101.out 2).trans rfl
          have hcz7_3 : w3.cell? ⟨gb101, 3, none⟩ = some (.string a0_3) := (blk_cell BK101.out 3).trans rfl
          have hcz7_4 : w3.cell? ⟨gb101, 4, none⟩ = some (.string a0_4) := (blk_cell BK101.out 4).trans rfl
          have hcz7_5 : w3.cell? ⟨gb101, 5, none⟩ = some (.slice A0_5 l0_5.length c0_5) := (blk_cell BK101.out 5).trans rfl
          have hcz7_6 : w3.cell? ⟨gb101, 6, none⟩ = some (.slice A0_6 l0_6.length c0_6) := (blk_cell BK101.out 6).trans rfl
          have hfz7_0 := blk_frozen BK101.out 0
          have hfz7_1 := blk_frozen BK101.out 1
          have hfz7_2 := blk_frozen BK101.out 2
          have hfz7_3 := blk_frozen BK101.out 3
          have hfz7_4 := blk_frozen BK101.out 4
          have hfz7_5 := blk_frozen BK101.out 5
          have hfz7_6 := blk_frozen BK101.out 6
          go_wp2
          repeat (go_quiet (fail); try go_wp2)
          go_meet
          case rel => exact ⟨_, (decide (a0_2 ≤ 2147483647)), (by first | rfl | (simp; done) | (simp [*]; done)), H', ⟨by first | omega | exact Nat.le_refl _⟩, ⟨by (with_reducible repeat (first | refine blk_drewN ?_ _ | refine blk_drew ?_ | refine blk_alloc ?_ _)); exact BK101.out⟩, ⟨by repeat (first | (with_reducible first | exact HB.out | apply below_alloc | apply pw_below_drewN | apply below_drew1 | refine below_set ?_ GE101.out) | exact HB.out)⟩⟩
        · rw [if_neg c6] at H
          have c6b0 : decide (1 ≤ a0_2) = false := decide_eq_false c6
          clear c6
          have H' := Aside0.mk H
          clear H
          have hcz8_0 : w3.cell? ⟨gb101, 0, none⟩ = some (.int .i64 a0_0) := (blk_cell BK101.out 0).trans rfl
          have hcz8_1 : w3.cell? ⟨gb101, 1, none⟩ = some (.int .i64 a0_1) := (blk_cell BK101.out 1).trans rfl
          have hcz8_2 : w3.cell? ⟨gb101, 2, none⟩ = some (.int .i64 a0_2) := (blk_cell BK101.out 2).trans rfl
          have hcz8_3 : w3.cell? ⟨gb101, 3, none⟩ = some (.string a0_3) := (blk_cell BK101.out 3).trans rfl
          have hcz8_4 : w3.cell? ⟨gb101, 4, none⟩ = some (.string a0_4) := (blk_cell BK101.out 4).trans rfl
          have hcz8_5 : w3.cell? ⟨gb101, 5, none⟩ = some (.slice A0_5 l0_5.length c0_5) := (blk_cell BK101.out 5).trans rfl
          have hcz8_6 : w3.cell? ⟨gb101, 6, none⟩ = some (.slice A0_6 l0_6.length c0_6) := (blk_cell BK101.out 6).trans rfl
          have hfz8_0 := blk_frozen BK101.out 0
          have hfz8_1 := blk_frozen BK101.out 1
          have hfz8_2 := blk_frozen BK101.out 2
          have hfz8_3 := blk_frozen BK101.out 3
          have hfz8_4 := blk_frozen BK101.out 4
          have hfz8_5 := blk_frozen BK101.out 5
          have hfz8_6 := blk_frozen BK101.out 6
          go_wp2
          repeat (go_quiet (fail); try go_wp2)
          go_meet
          case rel => exact ⟨_, (false), (by first | rfl | (simp; done) | (simp [*]; done)), H', ⟨by first | omega | exact Nat.le_refl _⟩, ⟨by (with_reducible repeat (first | refine blk_drewN ?_ _ | refine blk_drew ?_ | refine blk_alloc ?_ _)); exact BK101.out⟩, ⟨by repeat (first | (with_reducible first | exact HB.out | apply below_alloc | apply pw_below_drewN | apply below_drew1 | refine below_set ?_ GE101.out) | exact HB.out)⟩⟩
      · rw [if_neg c5] at H
        have c5b0 : decide (a0_1 < 64) = false := decide_eq_false c5
        clear c5
        have H' := Aside0.mk H
        clear H
        have hcz9_0 : w3.cell? ⟨gb101, 0, none⟩ = some (.int .i64 a0_0) := (blk_cell BK101.out 0).trans rfl
        have hcz9_1 : w3.cell? ⟨gb101, 1, none⟩ = some (.int .i64 a0_1) := (blk_cell BK101.out 1).trans rfl
        have hcz9_2 : w3.cell? ⟨gb101, 2, none⟩ = some (.int .i64 a0_2) := (blk_cell BK101.out 2).trans rfl
        have hcz9_3 : w3.cell? ⟨gb101, 3, none⟩ = some (.string a0_3) := (blk_cell BK101.out 3).trans rfl
        have hcz9_4 : w3.cell? ⟨gb101, 4, none⟩ = some (.string a0_4) := (blk_cell BK101.out 4).trans rfl
        have hcz9_5 : w3.cell? ⟨gb101, 5, none⟩ = some (.slice A0_5 l0_5.length c0_5) := (blk_cell BK101.out 5).trans rfl
        have hcz9_6 : w3.cell? ⟨gb101, 6, none⟩ = some (.slice A0_6 l0_6.length c0_6) := (blk_cell BK101.out 6).trans rfl
        have hfz9_0 := blk_frozen BK101.out 0
        have hfz9_1 := blk_frozen BK101.out 1
        have hfz9_2 := blk_frozen BK101.out 2
        have hfz9_3 := blk_frozen BK101.out 3
        have hfz9_4 := blk_frozen BK101.out 4
        have hfz9_5 := blk_frozen BK101.out 5
        have hfz9_6 := blk_frozen BK101.out 6
        go_wp2
        repeat (go_quiet (fail); try go_wp2)
        go_meet
        case rel => exact ⟨_, (false), (by first | rfl | (simp; done) | (simp [*]; done)), H', ⟨by first | omega | exact Nat.le_refl _⟩, ⟨by (with_reducible repeat (first | refine blk_drewN ?_ _ | refine blk_drew ?_ | refine blk_alloc ?_ _)); exact BK101.out⟩, ⟨by repeat (first | (with_reducible first | exact HB.out | apply below_alloc | apply pw_below_drewN | apply below_drew1 | refine below_set ?_ GE101.out) | exact HB.out)⟩⟩
    · rw [if_neg c4] at H
      have c4b0 : decide (0 ≤ a0_1) = false := decide_eq_false c4
      clear c4
      (first | rw [c4b0] | (simp only [i64_w, i32_w]; rw [c4b0]) | skip)
      have H' := Aside0.mk H
      clear H
      have hcz10_0 : w3.cell? ⟨gb101, 0, none⟩ = some (.int .i64 a0_0) := (blk_cell BK101.out 0).trans rfl
      have hcz10_1 : w3.cell? ⟨gb101, 1, none⟩ = some (.int .i64 a0_1) := (blk_cell BK101.out 1).trans rfl
      have hcz10_2 : w3.cell? ⟨gb101, 2, none⟩ = some (.int .i64 a0_2) := (blk_cell BK101.out 2).trans rfl
      have hcz10_3 : w3.cell? ⟨gb101, 3, none⟩ = some (.string a0_3) := (blk_cell BK101.out 3).trans rfl
      have hcz10_4 : w3.cell? ⟨gb101, 4, none⟩ = some (.string a0_4) := (blk_cell BK101.out 4).trans rfl
      have hcz10_5 : w3.cell? ⟨gb101, 5, none⟩ = some (.slice A0_5 l0_5.length c0_5) := (blk_cell BK101.out 5).trans rfl
      have hcz10_6 : w3.cell? ⟨gb101, 6, none⟩ = some (.slice A0_6 l0_6.length c0_6) := (blk_cell BK101.out 6).trans rfl
      have hfz10_0 := blk_frozen BK101.out 0
      have hfz10_1 := blk_frozen BK101.out 1
      have hfz10_2 := blk_frozen BK101.out 2
      have hfz10_3 := blk_frozen BK101.out 3
      have hfz10_4 := blk_frozen BK101.out 4
      have hfz10_5 := blk_frozen BK101.out 5
      have hfz10_6 := blk_frozen BK101.out 6
      go_wp2
      repeat (go_quiet (fail); try go_wp2)
      go_meet
      case rel => exact ⟨_, (false), (by first | rfl | (simp; done) | (simp [*]; done)), H', ⟨by first | omega | exact Nat.le_refl _⟩, ⟨by (with_reducible repeat (first | refine blk_drewN ?_ _ | refine blk_drew ?_ | refine blk_alloc ?_ _)); exact BK101.out⟩, ⟨by repeat (first | (with_reducible first | exact HB.out | apply below_alloc | apply pw_below_drewN | apply below_drew1 | refine below_set ?_ GE101.out) | exact HB.out)⟩⟩
  case rest =>
    clear HC2
    try clear p2
    try clear c3
    try clear c4
    try clear c4b0
    try clear c5
    try clear c5b0
    try clear c6
    try clear c6b0
    try clear hcz10_0
    try clear hcz10_1
    try clear hcz10_2
    try clear hcz10_3
    try clear hcz10_4
    try clear hcz10_5
    try clear hcz10_6
    try clear hcz7_0
    try clear hcz7_1
    try clear hcz7_2
    try clear hcz7_3
    try clear hcz7_4
    try clear hcz7_5
    try clear hcz7_6
    try clear hcz8_0
    try clear hcz8_1
    try clear hcz8_2
    try clear hcz8_3
    try clear hcz8_4
    try clear hcz8_5
    try clear hcz8_6
    try clear hcz9_0
    try clear hcz9_1
    try clear hcz9_2
    try clear hcz9_3
    try clear hcz9_4
    try clear hcz9_5
    try clear hcz9_6
    try clear hfz10_0
    try clear hfz10_1
    try clear hfz10_2
    try clear hfz10_3
    try clear hfz10_4
    try clear hfz10_5
    try clear hfz10_6
    try clear hfz7_0
    try clear hfz7_1
    try clear hfz7_2
    try clear hfz7_3
    try clear hfz7_4
    try clear hfz7_5
    try clear hfz7_6
    try clear hfz8_0
    try clear hfz8_1
    try clear hfz8_2
    try clear hfz8_3
    try clear hfz8_4
    try clear hfz8_5
    try clear hfz8_6
    try clear hfz9_0
    try clear hfz9_1
    try clear hfz9_2
    try clear hfz9_3
    try clear hfz9_4
    try clear hfz9_5
    try clear hfz9_6
    obtain ⟨kq, x3_1, rfl, HA, HJ1, BK101, HB⟩ := hcut
    cases kq with
    | zero => exact absurd HA.out (by simp [mail_Check.j0])
    | succ kj1 =>
      have H := HA.out
      clear HA
      simp only [mail_Check.j0] at H
      have HC11 := Aside0.mk H
      clear H
      go_upto_region 2 with (fail)
      repeat (go_quiet (fail); go_upto_region 2 with (fail))
      go_cut [4] (fun v4 wc => ∃ (kq : Nat) (x4_10 : Bool), v4 = .bool x4_10 ∧ Aside0 (mail_Check.j1 kq x3_1 x4_10 a0_0 a0_1 a0_2 a0_3 a0_4 l0_5 l0_6 = some r) ∧ Aside0 (kq ≤ kj1) ∧ Aside0 (wc.heap[gb101]? = some (.cells #[.int .i64 a0_0, .int .i64 a0_1, .int .i64 a0_2, .string a0_3, .string a0_4, (.slice A0_5 l0_5.length c0_5), (.slice A0_6 l0_6.length c0_6)] 25 (0, 0))) ∧ Aside0 (Below w.heap.size w wc))
      case first =>
        have H := HC11.out
        clear HC11
        by_cases c12 : a0_1 = 0
        · rw [if_pos c12] at H
          have c12b0 : (a0_1 == 0) = true := beq_iff_eq.mpr c12
          have c12b1 : (a0_1 != 0) = false := bne_eq_false_iff_eq.mpr c12
          clear c12
          (first | rw [c12b0] | (simp only [i64_w, i32_w]; rw [c12b0]) | skip)
          have H' := Aside0.mk H
          clear H
          have hcz13_0 : wc.cell? ⟨gb101, 0, none⟩ = some (.int .i64 a0_0) := (blk_cell BK101.out 0).trans rfl
          have hcz13_1 : wc.cell? ⟨gb101, 1, none⟩ = some (.int .i64 a0_1) := (blk_cell BK101.out 1).trans rfl
          have hcz13_2 : wc.cell? ⟨gb101, 2, none⟩ = some (.int .i64 a0_2) := (blk_cell BK101.out 2).trans rfl
          have hcz13_3 : wc.cell? ⟨gb101, 3, none⟩ = some (.string a0_3) := (blk_cell BK101.out 3).trans rfl
          have hcz13_4 : wc.cell? ⟨gb101, 4, none⟩ = some (.string a0_4) := (blk_cell BK101.out 4).trans rfl
          have hcz13_5 : wc.cell? ⟨gb101, 5, none⟩ = some (.slice A0_5 l0_5.length c0_5) := (blk_cell BK101.out 5).trans rfl
          have hcz13_6 : wc.cell? ⟨gb101, 6, none⟩ = some (.slice A0_6 l0_6.length c0_6) := (blk_cell BK101.out 6).trans rfl
          have hfz13_0 := blk_frozen BK101.out 0
          have hfz13_1 := blk_frozen BK101.out 1
          have hfz13_2 := blk_frozen BK101.out 2
          have hfz13_3 := blk_frozen BK101.out 3
          have hfz13_4 := blk_frozen BK101.out 4
          have hfz13_5 := blk_frozen BK101.out 5
          have hfz13_6 := blk_frozen BK101.out 6
          go_wp2
          repeat (go_quiet (fail); try go_wp2)
          go_meet
          case rel => exact ⟨_, ((a0_2 == 0)), (by first | rfl | (simp; done) | (simp [*]; done)), H', ⟨by have := HJ1.out; first | omega | exact Nat.le_refl _⟩, ⟨by (with_reducible repeat (first | refine blk_drewN ?_ _ | refine blk_drew ?_ | refine blk_alloc ?_ _)); exact BK101.out⟩, ⟨by repeat (first | (with_reducible first | exact HB.out | apply below_alloc | apply pw_below_drewN | apply below_drew1 | refine below_set ?_ GE101.out) | exact HB.out)⟩⟩
        · rw [if_neg c12] at H
          have c12b0 : (a0_1 == 0) = false := beq_eq_false_iff_ne.mpr c12
          have c12b1 : (a0_1 != 0) = true := bne_iff_ne.mpr c12
          (first | rw [c12b0] | (simp only [i64_w, i32_w]; rw [c12b0]) | skip)
          have H' := Aside0.mk H
          clear H
          have hcz14_0 : wc.cell? ⟨gb101, 0, none⟩ = some (.int .i64 a0_0) := (blk_cell BK101.out 0).trans rfl
          have hcz14_1 : wc.cell? ⟨gb101, 1, none⟩ = some (.int .i64 a0_1) := (blk_cell BK101.out 1).trans rfl
          have hcz14_2 : wc.cell? ⟨gb101, 2, none⟩ = some (.int .i64 a0_2) := (blk_cell BK101.out 2).trans rfl
          have hcz14_3 : wc.cell? ⟨gb101, 3, none⟩ = some (.string a0_3) := (blk_cell BK101.out 3).trans rfl
          have hcz14_4 : wc.cell? ⟨gb101, 4, none⟩ = some (.string a0_4) := (blk_cell BK101.out 4).trans rfl
          have hcz14_5 : wc.cell? ⟨gb101, 5, none⟩ = some (.slice A0_5 l0_5.length c0_5) := (blk_cell BK101.out 5).trans rfl
          have hcz14_6 : wc.cell? ⟨gb101, 6, none⟩ = some (.slice A0_6 l0_6.length c0_6) := (blk_cell BK101.out 6).trans rfl
          have hfz14_0 := blk_frozen BK101.out 0
          have hfz14_1 := blk_frozen BK101.out 1
          have hfz14_2 := blk_frozen BK101.out 2
          have hfz14_3 := blk_frozen BK101.out 3
          have hfz14_4 := blk_frozen BK101.out 4
          have hfz14_5 := blk_frozen BK101.out 5
          have hfz14_6 := blk_frozen BK101.out 6
          go_wp2
          repeat (go_quiet (fail); try go_wp2)
          go_meet
          case rel => exact ⟨_, (false), (by first | rfl | (simp; done) | (simp [*]; done)), H', ⟨by have := HJ1.out; first | omega | exact Nat.le_refl _⟩, ⟨by (with_reducible repeat (first | refine blk_drewN ?_ _ | refine blk_drew ?_ | refine blk_alloc ?_ _)); exact BK101.out⟩, ⟨by repeat (first | (with_reducible first | exact HB.out | apply below_alloc | apply pw_below_drewN | apply below_drew1 | refine below_set ?_ GE101.out) | exact HB.out)⟩⟩
      case rest =>
        clear HC11
        try clear c1
        try clear p2
        try clear c3
        try clear c4
        try clear c4b0
        try clear c5
        try clear c5b0
        try clear c6
        try clear c6b0
        try clear c12
        try clear c12b0
        try clear c12b1
        try clear hcz10_0
        try clear hcz10_1
        try clear hcz10_2
        try clear hcz10_3
        try clear hcz10_4
        try clear hcz10_5
        try clear hcz10_6
        try clear hcz13_0
        try clear hcz13_1
        try clear hcz13_2
        try clear hcz13_3
        try clear hcz13_4
        try clear hcz13_5
        try clear hcz13_6
        try clear hcz14_0
        try clear hcz14_1
        try clear hcz14_2
        try clear hcz14_3
        try clear hcz14_4
        try clear hcz14_5
        try clear hcz14_6
        try clear hcz7_0
        try clear hcz7_1
        try clear hcz7_2
        try clear hcz7_3
        try clear hcz7_4
        try clear hcz7_5
        try clear hcz7_6
        try clear hcz8_0
        try clear hcz8_1
        try clear hcz8_2
        try clear hcz8_3
        try clear hcz8_4
        try clear hcz8_5
        try clear hcz8_6
        try clear hcz9_0
        try clear hcz9_1
        try clear hcz9_2
        try clear hcz9_3
        try clear hcz9_4
        try clear hcz9_5
        try clear hcz9_6
        try clear hfz10_0
        try clear hfz10_1
        try clear hfz10_2
        try clear hfz10_3
        try clear hfz10_4
        try clear hfz10_5
        try clear hfz10_6
        try clear hfz13_0
        try clear hfz13_1
        try clear hfz13_2
        try clear hfz13_3
        try clear hfz13_4
        try clear hfz13_5
        try clear hfz13_6
        try clear hfz14_0
        try clear hfz14_1
        try clear hfz14_2
        try clear hfz14_3
        try clear hfz14_4
        try clear hfz14_5
        try clear hfz14_6
        try clear hfz7_0
        try clear hfz7_1
        try clear hfz7_2
        try clear hfz7_3
        try clear hfz7_4
        try clear hfz7_5
        try clear hfz7_6
        try clear hfz8_0
        try clear hfz8_1
        try clear hfz8_2
        try clear hfz8_3
        try clear hfz8_4
        try clear hfz8_5
        try clear hfz8_6
        try clear hfz9_0
        try clear hfz9_1
        try clear hfz9_2
        try clear hfz9_3
        try clear hfz9_4
        try clear hfz9_5
        try clear hfz9_6
        try clear p2
        obtain ⟨kq, x4_10, rfl, HA, HJ10, BK101, HB⟩ := hcut
        cases kq with
        | zero => exact absurd HA.out (by simp [mail_Check.j1])
        | succ kj10 =>
          have H := HA.out
          clear HA
          simp only [mail_Check.j1] at H
          by_cases c15 : a0_0 = 1
          · rw [if_pos c15] at H
            have c15b0 : (a0_0 == 1) = true := beq_iff_eq.mpr c15
            have c15b1 : (a0_0 != 1) = false := bne_eq_false_iff_eq.mpr c15
            clear c15
            by_cases c16 : x4_10 = true
            · subst c16
              have H1 : (if ((a0_3.size : Int) = 504) then (if (a0_4.toList = ([] : List UInt8)) then (if ((l0_5.length : Int) = 0) then (if ((l0_6.length : Int) = 0) then (some 0) else (some 110)) else (some 110)) else (some 110)) else (some 110)) = some r := by rw [if_pos rfl] at H; exact H
              clear H
              have H := H1
              clear H1
              by_cases c17 : ((a0_3.size : Int) = 504)
              · rw [if_pos c17] at H
                have c17b0 : ((a0_3.size : Int) == 504) = true := beq_iff_eq.mpr c17
                have c17b1 : ((a0_3.size : Int) != 504) = false := bne_eq_false_iff_eq.mpr c17
                clear c17
                by_cases c18 : (a0_4.toList = ([] : List UInt8))
                · rw [if_pos c18] at H
                  have c18b0 : (a0_4.toList == ([] : List UInt8)) = true := beq_iff_eq.mpr c18
                  have c18b1 : (a0_4.toList != ([] : List UInt8)) = false := bne_eq_false_iff_eq.mpr c18
                  clear c18
                  by_cases c19 : ((l0_5.length : Int) = 0)
                  · rw [if_pos c19] at H
                    have c19b0 : ((l0_5.length : Int) == 0) = true := beq_iff_eq.mpr c19
                    have c19b1 : ((l0_5.length : Int) != 0) = false := bne_eq_false_iff_eq.mpr c19
                    clear c19
                    by_cases c20 : ((l0_6.length : Int) = 0)
                    · rw [if_pos c20] at H
                      have c20b0 : ((l0_6.length : Int) == 0) = true := beq_iff_eq.mpr c20
                      have c20b1 : ((l0_6.length : Int) != 0) = false := bne_eq_false_iff_eq.mpr c20
                      clear c20
                      obtain rfl := Option.some.inj H
                      have hcz21_0 : wc.cell? ⟨gb101, 0, none⟩ = some (.int .i64 a0_0) := (blk_cell BK101.out 0).trans rfl
                      have hcz21_1 : wc.cell? ⟨gb101, 1, none⟩ = some (.int .i64 a0_1) := (blk_cell BK101.out 1).trans rfl
                      have hcz21_2 : wc.cell? ⟨gb101, 2, none⟩ = some (.int .i64 a0_2) := (blk_cell BK101.out 2).trans rfl
                      have hcz21_3 : wc.cell? ⟨gb101, 3, none⟩ = some (.string a0_3) := (blk_cell BK101.out 3).trans rfl
                      have hcz21_4 : wc.cell? ⟨gb101, 4, none⟩ = some (.string a0_4) := (blk_cell BK101.out 4).trans rfl
                      have hcz21_5 : wc.cell? ⟨gb101, 5, none⟩ = some (.slice A0_5 l0_5.length c0_5) := (blk_cell BK101.out 5).trans rfl
                      have hcz21_6 : wc.cell? ⟨gb101, 6, none⟩ = some (.slice A0_6 l0_6.length c0_6) := (blk_cell BK101.out 6).trans rfl
                      have hfz21_0 := blk_frozen BK101.out 0
                      have hfz21_1 := blk_frozen BK101.out 1
                      have hfz21_2 := blk_frozen BK101.out 2
                      have hfz21_3 := blk_frozen BK101.out 3
                      have hfz21_4 := blk_frozen BK101.out 4
                      have hfz21_5 := blk_frozen BK101.out 5
                      have hfz21_6 := blk_frozen BK101.out 6
                      go_wp2
                      repeat (go_quiet (fail); try go_wp2)
                      go_ret
                      exact ⟨by first | rfl | (simp [errW_none, errW_some] <;> rfl) | (simp [*, errW_none, errW_some] <;> rfl), by repeat (first | (with_reducible first | exact HB.out | apply below_alloc | apply pw_below_drewN | apply below_drew1 | refine below_set ?_ GE101.out) | exact HB.out)⟩
                    · rw [if_neg c20] at H
                      have c20b0 : ((l0_6.length : Int) == 0) = false := beq_eq_false_iff_ne.mpr c20
                      have c20b1 : ((l0_6.length : Int) != 0) = true := bne_iff_ne.mpr c20
                      have c20b2 : ¬ (l0_6 = []) := fun h_ => c20 (by rw [h_]; rfl)
                      obtain rfl := Option.some.inj H
                      have hcz22_0 : wc.cell? ⟨gb101, 0, none⟩ = some (.int .i64 a0_0) := (blk_cell BK101.out 0).trans rfl
                      have hcz22_1 : wc.cell? ⟨gb101, 1, none⟩ = some (.int .i64 a0_1) := (blk_cell BK101.out 1).trans rfl
                      have hcz22_2 : wc.cell? ⟨gb101, 2, none⟩ = some (.int .i64 a0_2) := (blk_cell BK101.out 2).trans rfl
                      have hcz22_3 : wc.cell? ⟨gb101, 3, none⟩ = some (.string a0_3) := (blk_cell BK101.out 3).trans rfl
                      have hcz22_4 : wc.cell? ⟨gb101, 4, none⟩ = some (.string a0_4) := (blk_cell BK101.out 4).trans rfl
                      have hcz22_5 : wc.cell? ⟨gb101, 5, none⟩ = some (.slice A0_5 l0_5.length c0_5) := (blk_cell BK101.out 5).trans rfl
                      have hcz22_6 : wc.cell? ⟨gb101, 6, none⟩ = some (.slice A0_6 l0_6.length c0_6) := (blk_cell BK101.out 6).trans rfl
                      have hfz22_0 := blk_frozen BK101.out 0
                      have hfz22_1 := blk_frozen BK101.out 1
                      have hfz22_2 := blk_frozen BK101.out 2
                      have hfz22_3 := blk_frozen BK101.out 3
                      have hfz22_4 := blk_frozen BK101.out 4
                      have hfz22_5 := blk_frozen BK101.out 5
                      have hfz22_6 := blk_frozen BK101.out 6
                      go_wp2
                      repeat (go_quiet (fail); try go_wp2)
                      go_ret
                      exact ⟨by first | rfl | (simp [errW_none, errW_some] <;> rfl) | (simp [*, errW_none, errW_some] <;> rfl), by repeat (first | (with_reducible first | exact HB.out | apply below_alloc | apply pw_below_drewN | apply below_drew1 | refine below_set ?_ GE101.out) | exact HB.out)⟩
                  · rw [if_neg c19] at H
                    have c19b0 : ((l0_5.length : Int) == 0) = false := beq_eq_false_iff_ne.mpr c19
                    have c19b1 : ((l0_5.length : Int) != 0) = true := bne_iff_ne.mpr c19
                    have c19b2 : ¬ (l0_5 = []) := fun h_ => c19 (by rw [h_]; rfl)
                    obtain rfl := Option.some.inj H
                    have hcz23_0 : wc.cell? ⟨gb101, 0, none⟩ = some (.int .i64 a0_0) := (blk_cell BK101.out 0).trans rfl
                    have hcz23_1 : wc.cell? ⟨gb101, 1, none⟩ = some (.int .i64 a0_1) := (blk_cell BK101.out 1).trans rfl
                    have hcz23_2 : wc.cell? ⟨gb101, 2, none⟩ = some (.int .i64 a0_2) := (blk_cell BK101.out 2).trans rfl
                    have hcz23_3 : wc.cell? ⟨gb101, 3, none⟩ = some (.string a0_3) := (blk_cell BK101.out 3).trans rfl
                    have hcz23_4 : wc.cell? ⟨gb101, 4, none⟩ = some (.string a0_4) := (blk_cell BK101.out 4).trans rfl
                    have hcz23_5 : wc.cell? ⟨gb101, 5, none⟩ = some (.slice A0_5 l0_5.length c0_5) := (blk_cell BK101.out 5).trans rfl
                    have hcz23_6 : wc.cell? ⟨gb101, 6, none⟩ = some (.slice A0_6 l0_6.length c0_6) := (blk_cell BK101.out 6).trans rfl
                    have hfz23_0 := blk_frozen BK101.out 0
                    have hfz23_1 := blk_frozen BK101.out 1
                    have hfz23_2 := blk_frozen BK101.out 2
                    have hfz23_3 := blk_frozen BK101.out 3
                    have hfz23_4 := blk_frozen BK101.out 4
                    have hfz23_5 := blk_frozen BK101.out 5
                    have hfz23_6 := blk_frozen BK101.out 6
                    go_wp2
                    repeat (go_quiet (fail); try go_wp2)
                    go_ret
                    exact ⟨by first | rfl | (simp [errW_none, errW_some] <;> rfl) | (simp [*, errW_none, errW_some] <;> rfl), by repeat (first | (with_reducible first | exact HB.out | apply below_alloc | apply pw_below_drewN | apply below_drew1 | refine below_set ?_ GE101.out) | exact HB.out)⟩
                · rw [if_neg c18] at H
                  have c18b0 : (a0_4.toList == ([] : List UInt8)) = false := beq_eq_false_iff_ne.mpr c18
                  have c18b1 : (a0_4.toList != ([] : List UInt8)) = true := bne_iff_ne.mpr c18
                  obtain rfl := Option.some.inj H
                  have hcz24_0 : wc.cell? ⟨gb101, 0, none⟩ = some (.int .i64 a0_0) := (blk_cell BK101.out 0).trans rfl
                  have hcz24_1 : wc.cell? ⟨gb101, 1, none⟩ = some (.int .i64 a0_1) := (blk_cell BK101.out 1).trans rfl
                  have hcz24_2 : wc.cell? ⟨gb101, 2, none⟩ = some (.int .i64 a0_2) := (blk_cell BK101.out 2).trans rfl
                  have hcz24_3 : wc.cell? ⟨gb101, 3, none⟩ = some (.string a0_3) := (blk_cell BK101.out 3).trans rfl
                  have hcz24_4 : wc.cell? ⟨gb101, 4, none⟩ = some (.string a0_4) := (blk_cell BK101.out 4).trans rfl
                  have hcz24_5 : wc.cell? ⟨gb101, 5, none⟩ = some (.slice A0_5 l0_5.length c0_5) := (blk_cell BK101.out 5).trans rfl
                  have hcz24_6 : wc.cell? ⟨gb101, 6, none⟩ = some (.slice A0_6 l0_6.length c0_6) := (blk_cell BK101.out 6).trans rfl
                  have hfz24_0 := blk_frozen BK101.out 0
                  have hfz24_1 := blk_frozen BK101.out 1
                  have hfz24_2 := blk_frozen BK101.out 2
                  have hfz24_3 := blk_frozen BK101.out 3
                  have hfz24_4 := blk_frozen BK101.out 4
                  have hfz24_5 := blk_frozen BK101.out 5
                  have hfz24_6 := blk_frozen BK101.out 6
                  go_wp2
                  repeat (go_quiet (fail); try go_wp2)
                  go_ret
                  exact ⟨by first | rfl | (simp [errW_none, errW_some] <;> rfl) | (simp [*, errW_none, errW_some] <;> rfl), by repeat (first | (with_reducible first | exact HB.out | apply below_alloc | apply pw_below_drewN | apply below_drew1 | refine below_set ?_ GE101.out) | exact HB.out)⟩
              · rw [if_neg c17] at H
                have c17b0 : ((a0_3.size : Int) == 504) = false := beq_eq_false_iff_ne.mpr c17
                have c17b1 : ((a0_3.size : Int) != 504) = true := bne_iff_ne.mpr c17
                obtain rfl := Option.some.inj H
                have hcz25_0 : wc.cell? ⟨gb101, 0, none⟩ = some (.int .i64 a0_0) := (blk_cell BK101.out 0).trans rfl
                have hcz25_1 : wc.cell? ⟨gb101, 1, none⟩ = some (.int .i64 a0_1) := (blk_cell BK101.out 1).trans rfl
                have hcz25_2 : wc.cell? ⟨gb101, 2, none⟩ = some (.int .i64 a0_2) := (blk_cell BK101.out 2).trans rfl
                have hcz25_3 : wc.cell? ⟨gb101, 3, none⟩ = some (.string a0_3) := (blk_cell BK101.out 3).trans rfl
                have hcz25_4 : wc.cell? ⟨gb101, 4, none⟩ = some (.string a0_4) := (blk_cell BK101.out 4).trans rfl
                have hcz25_5 : wc.cell? ⟨gb101, 5, none⟩ = some (.slice A0_5 l0_5.length c0_5) := (blk_cell BK101.out 5).trans rfl
                have hcz25_6 : wc.cell? ⟨gb101, 6, none⟩ = some (.slice A0_6 l0_6.length c0_6) := (blk_cell BK101.out 6).trans rfl
                have hfz25_0 := blk_frozen BK101.out 0
                have hfz25_1 := blk_frozen BK101.out 1
                have hfz25_2 := blk_frozen BK101.out 2
                have hfz25_3 := blk_frozen BK101.out 3
                have hfz25_4 := blk_frozen BK101.out 4
                have hfz25_5 := blk_frozen BK101.out 5
                have hfz25_6 := blk_frozen BK101.out 6
                go_wp2
                repeat (go_quiet (fail); try go_wp2)
                go_ret
                exact ⟨by first | rfl | (simp [errW_none, errW_some] <;> rfl) | (simp [*, errW_none, errW_some] <;> rfl), by repeat (first | (with_reducible first | exact HB.out | apply below_alloc | apply pw_below_drewN | apply below_drew1 | refine below_set ?_ GE101.out) | exact HB.out)⟩
            · replace c16 := Bool.eq_false_iff.mpr c16
              subst c16
              have H1 : (some 110) = some r := by rw [if_neg (show ¬ (false = true) by decide)] at H; exact H
              clear H
              have H := H1
              clear H1
              obtain rfl := Option.some.inj H
              have hcz26_0 : wc.cell? ⟨gb101, 0, none⟩ = some (.int .i64 a0_0) := (blk_cell BK101.out 0).trans rfl
              have hcz26_1 : wc.cell? ⟨gb101, 1, none⟩ = some (.int .i64 a0_1) := (blk_cell BK101.out 1).trans rfl
              have hcz26_2 : wc.cell? ⟨gb101, 2, none⟩ = some (.int .i64 a0_2) := (blk_cell BK101.out 2).trans rfl
              have hcz26_3 : wc.cell? ⟨gb101, 3, none⟩ = some (.string a0_3) := (blk_cell BK101.out 3).trans rfl
              have hcz26_4 : wc.cell? ⟨gb101, 4, none⟩ = some (.string a0_4) := (blk_cell BK101.out 4).trans rfl
              have hcz26_5 : wc.cell? ⟨gb101, 5, none⟩ = some (.slice A0_5 l0_5.length c0_5) := (blk_cell BK101.out 5).trans rfl
              have hcz26_6 : wc.cell? ⟨gb101, 6, none⟩ = some (.slice A0_6 l0_6.length c0_6) := (blk_cell BK101.out 6).trans rfl
              have hfz26_0 := blk_frozen BK101.out 0
              have hfz26_1 := blk_frozen BK101.out 1
              have hfz26_2 := blk_frozen BK101.out 2
              have hfz26_3 := blk_frozen BK101.out 3
              have hfz26_4 := blk_frozen BK101.out 4
              have hfz26_5 := blk_frozen BK101.out 5
              have hfz26_6 := blk_frozen BK101.out 6
              go_wp2
              repeat (go_quiet (fail); try go_wp2)
              go_ret
              exact ⟨by first | rfl | (simp [errW_none, errW_some] <;> rfl) | (simp [*, errW_none, errW_some] <;> rfl), by repeat (first | (with_reducible first | exact HB.out | apply below_alloc | apply pw_below_drewN | apply below_drew1 | refine below_set ?_ GE101.out) | exact HB.out)⟩
          · rw [if_neg c15] at H
            have c15b0 : (a0_0 == 1) = false := beq_eq_false_iff_ne.mpr c15
            have c15b1 : (a0_0 != 1) = true := bne_iff_ne.mpr c15
            by_cases c27 : a0_0 = 2
            · rw [if_pos c27] at H
              have c27b0 : (a0_0 == 2) = true := beq_iff_eq.mpr c27
              have c27b1 : (a0_0 != 2) = false := bne_eq_false_iff_eq.mpr c27
              clear c27
              by_cases c28 : x3_1 = true
              · subst c28
                have H1 : (if (a0_3.toList = ([] : List UInt8)) then (if ((a0_4.size : Int) = 32) then (if ((l0_5.length : Int) = 0) then (if ((l0_6.length : Int) = 0) then (some 0) else (some 110)) else (some 110)) else (some 110)) else (some 110)) = some r := by rw [if_pos rfl] at H; exact H
                clear H
                have H := H1
                clear H1
                by_cases c29 : (a0_3.toList = ([] : List UInt8))
                · rw [if_pos c29] at H
                  have c29b0 : (a0_3.toList == ([] : List UInt8)) = true := beq_iff_eq.mpr c29
                  have c29b1 : (a0_3.toList != ([] : List UInt8)) = false := bne_eq_false_iff_eq.mpr c29
                  clear c29
                  by_cases c30 : ((a0_4.size : Int) = 32)
                  · rw [if_pos c30] at H
                    have c30b0 : ((a0_4.size : Int) == 32) = true := beq_iff_eq.mpr c30
                    have c30b1 : ((a0_4.size : Int) != 32) = false := bne_eq_false_iff_eq.mpr c30
                    clear c30
                    by_cases c31 : ((l0_5.length : Int) = 0)
                    · rw [if_pos c31] at H
                      have c31b0 : ((l0_5.length : Int) == 0) = true := beq_iff_eq.mpr c31
                      have c31b1 : ((l0_5.length : Int) != 0) = false := bne_eq_false_iff_eq.mpr c31
                      clear c31
                      by_cases c32 : ((l0_6.length : Int) = 0)
                      · rw [if_pos c32] at H
                        have c32b0 : ((l0_6.length : Int) == 0) = true := beq_iff_eq.mpr c32
                        have c32b1 : ((l0_6.length : Int) != 0) = false := bne_eq_false_iff_eq.mpr c32
                        clear c32
                        obtain rfl := Option.some.inj H
                        have hcz33_0 : wc.cell? ⟨gb101, 0, none⟩ = some (.int .i64 a0_0) := (blk_cell BK101.out 0).trans rfl
                        have hcz33_1 : wc.cell? ⟨gb101, 1, none⟩ = some (.int .i64 a0_1) := (blk_cell BK101.out 1).trans rfl
                        have hcz33_2 : wc.cell? ⟨gb101, 2, none⟩ = some (.int .i64 a0_2) := (blk_cell BK101.out 2).trans rfl
                        have hcz33_3 : wc.cell? ⟨gb101, 3, none⟩ = some (.string a0_3) := (blk_cell BK101.out 3).trans rfl
                        have hcz33_4 : wc.cell? ⟨gb101, 4, none⟩ = some (.string a0_4) := (blk_cell BK101.out 4).trans rfl
                        have hcz33_5 : wc.cell? ⟨gb101, 5, none⟩ = some (.slice A0_5 l0_5.length c0_5) := (blk_cell BK101.out 5).trans rfl
                        have hcz33_6 : wc.cell? ⟨gb101, 6, none⟩ = some (.slice A0_6 l0_6.length c0_6) := (blk_cell BK101.out 6).trans rfl
                        have hfz33_0 := blk_frozen BK101.out 0
                        have hfz33_1 := blk_frozen BK101.out 1
                        have hfz33_2 := blk_frozen BK101.out 2
                        have hfz33_3 := blk_frozen BK101.out 3
                        have hfz33_4 := blk_frozen BK101.out 4
                        have hfz33_5 := blk_frozen BK101.out 5
                        have hfz33_6 := blk_frozen BK101.out 6
                        go_wp2
                        repeat (go_quiet (fail); try go_wp2)
                        go_ret
                        exact ⟨by first | rfl | (simp [errW_none, errW_some] <;> rfl) | (simp [*, errW_none, errW_some] <;> rfl), by repeat (first | (with_reducible first | exact HB.out | apply below_alloc | apply pw_below_drewN | apply below_drew1 | refine below_set ?_ GE101.out) | exact HB.out)⟩
                      · rw [if_neg c32] at H
                        have c32b0 : ((l0_6.length : Int) == 0) = false := beq_eq_false_iff_ne.mpr c32
                        have c32b1 : ((l0_6.length : Int) != 0) = true := bne_iff_ne.mpr c32
                        have c32b2 : ¬ (l0_6 = []) := fun h_ => c32 (by rw [h_]; rfl)
                        obtain rfl := Option.some.inj H
                        have hcz34_0 : wc.cell? ⟨gb101, 0, none⟩ = some (.int .i64 a0_0) := (blk_cell BK101.out 0).trans rfl
                        have hcz34_1 : wc.cell? ⟨gb101, 1, none⟩ = some (.int .i64 a0_1) := (blk_cell BK101.out 1).trans rfl
                        have hcz34_2 : wc.cell? ⟨gb101, 2, none⟩ = some (.int .i64 a0_2) := (blk_cell BK101.out 2).trans rfl
                        have hcz34_3 : wc.cell? ⟨gb101, 3, none⟩ = some (.string a0_3) := (blk_cell BK101.out 3).trans rfl
                        have hcz34_4 : wc.cell? ⟨gb101, 4, none⟩ = some (.string a0_4) := (blk_cell BK101.out 4).trans rfl
                        have hcz34_5 : wc.cell? ⟨gb101, 5, none⟩ = some (.slice A0_5 l0_5.length c0_5) := (blk_cell BK101.out 5).trans rfl
                        have hcz34_6 : wc.cell? ⟨gb101, 6, none⟩ = some (.slice A0_6 l0_6.length c0_6) := (blk_cell BK101.out 6).trans rfl
                        have hfz34_0 := blk_frozen BK101.out 0
                        have hfz34_1 := blk_frozen BK101.out 1
                        have hfz34_2 := blk_frozen BK101.out 2
                        have hfz34_3 := blk_frozen BK101.out 3
                        have hfz34_4 := blk_frozen BK101.out 4
                        have hfz34_5 := blk_frozen BK101.out 5
                        have hfz34_6 := blk_frozen BK101.out 6
                        go_wp2
                        repeat (go_quiet (fail); try go_wp2)
                        go_ret
                        exact ⟨by first | rfl | (simp [errW_none, errW_some] <;> rfl) | (simp [*, errW_none, errW_some] <;> rfl), by repeat (first | (with_reducible first | exact HB.out | apply below_alloc | apply pw_below_drewN | apply below_drew1 | refine below_set ?_ GE101.out) | exact HB.out)⟩
                    · rw [if_neg c31] at H
                      have c31b0 : ((l0_5.length : Int) == 0) = false := beq_eq_false_iff_ne.mpr c31
                      have c31b1 : ((l0_5.length : Int) != 0) = true := bne_iff_ne.mpr c31
                      have c31b2 : ¬ (l0_5 = []) := fun h_ => c31 (by rw [h_]; rfl)
                      obtain rfl := Option.some.inj H
                      have hcz35_0 : wc.cell? ⟨gb101, 0, none⟩ = some (.int .i64 a0_0) := (blk_cell BK101.out 0).trans rfl
                      have hcz35_1 : wc.cell? ⟨gb101, 1, none⟩ = some (.int .i64 a0_1) := (blk_cell BK101.out 1).trans rfl
                      have hcz35_2 : wc.cell? ⟨gb101, 2, none⟩ = some (.int .i64 a0_2) := (blk_cell BK101.out 2).trans rfl
                      have hcz35_3 : wc.cell? ⟨gb101, 3, none⟩ = some (.string a0_3) := (blk_cell BK101.out 3).trans rfl
                      have hcz35_4 : wc.cell? ⟨gb101, 4, none⟩ = some (.string a0_4) := (blk_cell BK101.out 4).trans rfl
                      have hcz35_5 : wc.cell? ⟨gb101, 5, none⟩ = some (.slice A0_5 l0_5.length c0_5) := (blk_cell BK101.out 5).trans rfl
                      have hcz35_6 : wc.cell? ⟨gb101, 6, none⟩ = some (.slice A0_6 l0_6.length c0_6) := (blk_cell BK101.out 6).trans rfl
                      have hfz35_0 := blk_frozen BK101.out 0
                      have hfz35_1 := blk_frozen BK101.out 1
                      have hfz35_2 := blk_frozen BK101.out 2
                      have hfz35_3 := blk_frozen BK101.out 3
                      have hfz35_4 := blk_frozen BK101.out 4
                      have hfz35_5 := blk_frozen BK101.out 5
                      have hfz35_6 := blk_frozen BK101.out 6
                      go_wp2
                      repeat (go_quiet (fail); try go_wp2)
                      go_ret
                      exact ⟨by first | rfl | (simp [errW_none, errW_some] <;> rfl) | (simp [*, errW_none, errW_some] <;> rfl), by repeat (first | (with_reducible first | exact HB.out | apply below_alloc | apply pw_below_drewN | apply below_drew1 | refine below_set ?_ GE101.out) | exact HB.out)⟩
                  · rw [if_neg c30] at H
                    have c30b0 : ((a0_4.size : Int) == 32) = false := beq_eq_false_iff_ne.mpr c30
                    have c30b1 : ((a0_4.size : Int) != 32) = true := bne_iff_ne.mpr c30
                    obtain rfl := Option.some.inj H
                    have hcz36_0 : wc.cell? ⟨gb101, 0, none⟩ = some (.int .i64 a0_0) := (blk_cell BK101.out 0).trans rfl
                    have hcz36_1 : wc.cell? ⟨gb101, 1, none⟩ = some (.int .i64 a0_1) := (blk_cell BK101.out 1).trans rfl
                    have hcz36_2 : wc.cell? ⟨gb101, 2, none⟩ = some (.int .i64 a0_2) := (blk_cell BK101.out 2).trans rfl
                    have hcz36_3 : wc.cell? ⟨gb101, 3, none⟩ = some (.string a0_3) := (blk_cell BK101.out 3).trans rfl
                    have hcz36_4 : wc.cell? ⟨gb101, 4, none⟩ = some (.string a0_4) := (blk_cell BK101.out 4).trans rfl
                    have hcz36_5 : wc.cell? ⟨gb101, 5, none⟩ = some (.slice A0_5 l0_5.length c0_5) := (blk_cell BK101.out 5).trans rfl
                    have hcz36_6 : wc.cell? ⟨gb101, 6, none⟩ = some (.slice A0_6 l0_6.length c0_6) := (blk_cell BK101.out 6).trans rfl
                    have hfz36_0 := blk_frozen BK101.out 0
                    have hfz36_1 := blk_frozen BK101.out 1
                    have hfz36_2 := blk_frozen BK101.out 2
                    have hfz36_3 := blk_frozen BK101.out 3
                    have hfz36_4 := blk_frozen BK101.out 4
                    have hfz36_5 := blk_frozen BK101.out 5
                    have hfz36_6 := blk_frozen BK101.out 6
                    go_wp2
                    repeat (go_quiet (fail); try go_wp2)
                    go_ret
                    exact ⟨by first | rfl | (simp [errW_none, errW_some] <;> rfl) | (simp [*, errW_none, errW_some] <;> rfl), by repeat (first | (with_reducible first | exact HB.out | apply below_alloc | apply pw_below_drewN | apply below_drew1 | refine below_set ?_ GE101.out) | exact HB.out)⟩
                · rw [if_neg c29] at H
                  have c29b0 : (a0_3.toList == ([] : List UInt8)) = false := beq_eq_false_iff_ne.mpr c29
                  have c29b1 : (a0_3.toList != ([] : List UInt8)) = true := bne_iff_ne.mpr c29
                  obtain rfl := Option.some.inj H
                  have hcz37_0 : wc.cell? ⟨gb101, 0, none⟩ = some (.int .i64 a0_0) := (blk_cell BK101.out 0).trans rfl
                  have hcz37_1 : wc.cell? ⟨gb101, 1, none⟩ = some (.int .i64 a0_1) := (blk_cell BK101.out 1).trans rfl
                  have hcz37_2 : wc.cell? ⟨gb101, 2, none⟩ = some (.int .i64 a0_2) := (blk_cell BK101.out 2).trans rfl
                  have hcz37_3 : wc.cell? ⟨gb101, 3, none⟩ = some (.string a0_3) := (blk_cell BK101.out 3).trans rfl
                  have hcz37_4 : wc.cell? ⟨gb101, 4, none⟩ = some (.string a0_4) := (blk_cell BK101.out 4).trans rfl
                  have hcz37_5 : wc.cell? ⟨gb101, 5, none⟩ = some (.slice A0_5 l0_5.length c0_5) := (blk_cell BK101.out 5).trans rfl
                  have hcz37_6 : wc.cell? ⟨gb101, 6, none⟩ = some (.slice A0_6 l0_6.length c0_6) := (blk_cell BK101.out 6).trans rfl
                  have hfz37_0 := blk_frozen BK101.out 0
                  have hfz37_1 := blk_frozen BK101.out 1
                  have hfz37_2 := blk_frozen BK101.out 2
                  have hfz37_3 := blk_frozen BK101.out 3
                  have hfz37_4 := blk_frozen BK101.out 4
                  have hfz37_5 := blk_frozen BK101.out 5
                  have hfz37_6 := blk_frozen BK101.out 6
                  go_wp2
                  repeat (go_quiet (fail); try go_wp2)
                  go_ret
                  exact ⟨by first | rfl | (simp [errW_none, errW_some] <;> rfl) | (simp [*, errW_none, errW_some] <;> rfl), by repeat (first | (with_reducible first | exact HB.out | apply below_alloc | apply pw_below_drewN | apply below_drew1 | refine below_set ?_ GE101.out) | exact HB.out)⟩
              · replace c28 := Bool.eq_false_iff.mpr c28
                subst c28
                have H1 : (some 110) = some r := by rw [if_neg (show ¬ (false = true) by decide)] at H; exact H
                clear H
                have H := H1
                clear H1
                obtain rfl := Option.some.inj H
                have hcz38_0 : wc.cell? ⟨gb101, 0, none⟩ = some (.int .i64 a0_0) := (blk_cell BK101.out 0).trans rfl
                have hcz38_1 : wc.cell? ⟨gb101, 1, none⟩ = some (.int .i64 a0_1) := (blk_cell BK101.out 1).trans rfl
                have hcz38_2 : wc.cell? ⟨gb101, 2, none⟩ = some (.int .i64 a0_2) := (blk_cell BK101.out 2).trans rfl
                have hcz38_3 : wc.cell? ⟨gb101, 3, none⟩ = some (.string a0_3) := (blk_cell BK101.out 3).trans rfl
                have hcz38_4 : wc.cell? ⟨gb101, 4, none⟩ = some (.string a0_4) := (blk_cell BK101.out 4).trans rfl
                have hcz38_5 : wc.cell? ⟨gb101, 5, none⟩ = some (.slice A0_5 l0_5.length c0_5) := (blk_cell BK101.out 5).trans rfl
                have hcz38_6 : wc.cell? ⟨gb101, 6, none⟩ = some (.slice A0_6 l0_6.length c0_6) := (blk_cell BK101.out 6).trans rfl
                have hfz38_0 := blk_frozen BK101.out 0
                have hfz38_1 := blk_frozen BK101.out 1
                have hfz38_2 := blk_frozen BK101.out 2
                have hfz38_3 := blk_frozen BK101.out 3
                have hfz38_4 := blk_frozen BK101.out 4
                have hfz38_5 := blk_frozen BK101.out 5
                have hfz38_6 := blk_frozen BK101.out 6
                go_wp2
                repeat (go_quiet (fail); try go_wp2)
                go_ret
                exact ⟨by first | rfl | (simp [errW_none, errW_some] <;> rfl) | (simp [*, errW_none, errW_some] <;> rfl), by repeat (first | (with_reducible first | exact HB.out | apply below_alloc | apply pw_below_drewN | apply below_drew1 | refine below_set ?_ GE101.out) | exact HB.out)⟩
            · rw [if_neg c27] at H
              have c27b0 : (a0_0 == 2) = false := beq_eq_false_iff_ne.mpr c27
              have c27b1 : (a0_0 != 2) = true := bne_iff_ne.mpr c27
              by_cases c39 : a0_0 = 3
              · rw [if_pos c39] at H
                have c39b0 : (a0_0 == 3) = true := beq_iff_eq.mpr c39
                have c39b1 : (a0_0 != 3) = false := bne_eq_false_iff_eq.mpr c39
                clear c39
                replace H := Option.bind_eq_some_iff.mp H
                obtain ⟨t102, A400, H⟩ := H
                replace H : (if x3_1 = true then (if (a0_3.toList = ([] : List UInt8)) then (if (a0_4.toList = ([] : List UInt8)) then (if t102 = true then (if ((l0_6.length : Int) = 0) then (some 0) else (some 110)) else (some 110)) else (some 110)) else (some 110)) else (some 110)) = some r := H
                have A40 := Aside0.mk A400
                clear A400
                by_cases c41 : x3_1 = true
                · subst c41
                  have H1 : (if (a0_3.toList = ([] : List UInt8)) then (if (a0_4.toList = ([] : List UInt8)) then (if t102 = true then (if ((l0_6.length : Int) = 0) then (some 0) else (some 110)) else (some 110)) else (some 110)) else (some 110)) = some r := by rw [if_pos rfl] at H; exact H
                  clear H
                  have H := H1
                  clear H1
                  by_cases c42 : (a0_3.toList = ([] : List UInt8))
                  · rw [if_pos c42] at H
                    have c42b0 : (a0_3.toList == ([] : List UInt8)) = true := beq_iff_eq.mpr c42
                    have c42b1 : (a0_3.toList != ([] : List UInt8)) = false := bne_eq_false_iff_eq.mpr c42
                    clear c42
                    by_cases c43 : (a0_4.toList = ([] : List UInt8))
                    · rw [if_pos c43] at H
                      have c43b0 : (a0_4.toList == ([] : List UInt8)) = true := beq_iff_eq.mpr c43
                      have c43b1 : (a0_4.toList != ([] : List UInt8)) = false := bne_eq_false_iff_eq.mpr c43
                      clear c43
                      by_cases c44 : t102 = true
                      · subst c44
                        have H1 : (if ((l0_6.length : Int) = 0) then (some 0) else (some 110)) = some r := by rw [if_pos rfl] at H; exact H
                        clear H
                        have H := H1
                        clear H1
                        by_cases c45 : ((l0_6.length : Int) = 0)
                        · rw [if_pos c45] at H
                          have c45b0 : ((l0_6.length : Int) == 0) = true := beq_iff_eq.mpr c45
                          have c45b1 : ((l0_6.length : Int) != 0) = false := bne_eq_false_iff_eq.mpr c45
                          clear c45
                          obtain rfl := Option.some.inj H
                          have hcz46_0 : wc.cell? ⟨gb101, 0, none⟩ = some (.int .i64 a0_0) := (blk_cell BK101.out 0).trans rfl
                          have hcz46_1 : wc.cell? ⟨gb101, 1, none⟩ = some (.int .i64 a0_1) := (blk_cell BK101.out 1).trans rfl
                          have hcz46_2 : wc.cell? ⟨gb101, 2, none⟩ = some (.int .i64 a0_2) := (blk_cell BK101.out 2).trans rfl
                          have hcz46_3 : wc.cell? ⟨gb101, 3, none⟩ = some (.string a0_3) := (blk_cell BK101.out 3).trans rfl
                          have hcz46_4 : wc.cell? ⟨gb101, 4, none⟩ = some (.string a0_4) := (blk_cell BK101.out 4).trans rfl
                          have hcz46_5 : wc.cell? ⟨gb101, 5, none⟩ = some (.slice A0_5 l0_5.length c0_5) := (blk_cell BK101.out 5).trans rfl
                          have hcz46_6 : wc.cell? ⟨gb101, 6, none⟩ = some (.slice A0_6 l0_6.length c0_6) := (blk_cell BK101.out 6).trans rfl
                          have hfz46_0 := blk_frozen BK101.out 0
                          have hfz46_1 := blk_frozen BK101.out 1
                          have hfz46_2 := blk_frozen BK101.out 2
                          have hfz46_3 := blk_frozen BK101.out 3
                          have hfz46_4 := blk_frozen BK101.out 4
                          have hfz46_5 := blk_frozen BK101.out 5
                          have hfz46_6 := blk_frozen BK101.out 6
                          go_wp2_with (first | (go_at_call 52; (with_reducible refine (mail_filled.calls _ _ l0_5 true _ ?side1 ?side2 A40.out).mono ?_); (case side1 => repeat (first | exact (Kd.C_below HR0_5.out HB.out) | (with_reducible refine Kd.C_alloc ?_ _) | (with_reducible refine Kd.C_drewN ?_ _) | (with_reducible refine Kd.C_drew ?_))); (case side2 => exact HC0_5.out); rintro e w47 ⟨rfl, hb⟩; have n0_ := Aside0.mk (blk_below (g := gb101) (o := .cells #[.int .i64 a0_0, .int .i64 a0_1, .int .i64 a0_2, .string a0_3, .string a0_4, .slice A0_5 l0_5.length c0_5, .slice A0_6 l0_6.length c0_6] 25 (0, 0)) (by (with_reducible repeat (first | refine blk_drewN ?_ _ | refine blk_drew ?_ | refine blk_alloc ?_ _)); exact BK101.out) hb); have n1_ := Aside0.mk (below_step (by repeat (first | (with_reducible first | exact HB.out | apply below_alloc | apply pw_below_drewN | apply below_drew1 | refine below_set ?_ GE101.out) | exact HB.out)) hb); clear BK101; clear HB; have BK101 := n0_; have HB := n1_; clear n0_ n1_; (try clear hb); (try clear hb2); (try clear hk); (try clear hi)))
                          repeat (go_quiet (first | (go_at_call 52; (with_reducible refine (mail_filled.calls _ _ l0_5 true _ ?side1 ?side2 A40.out).mono ?_); (case side1 => repeat (first | exact (Kd.C_below HR0_5.out HB.out) | (with_reducible refine Kd.C_alloc ?_ _) | (with_reducible refine Kd.C_drewN ?_ _) | (with_reducible refine Kd.C_drew ?_))); (case side2 => exact HC0_5.out); rintro e w47 ⟨rfl, hb⟩; have n0_ := Aside0.mk (blk_below (g := gb101) (o := .cells #[.int .i64 a0_0, .int .i64 a0_1, .int .i64 a0_2, .string a0_3, .string a0_4, .slice A0_5 l0_5.length c0_5, .slice A0_6 l0_6.length c0_6] 25 (0, 0)) (by (with_reducible repeat (first | refine blk_drewN ?_ _ | refine blk_drew ?_ | refine blk_alloc ?_ _)); exact BK101.out) hb); have n1_ := Aside0.mk (below_step (by repeat (first | (with_reducible first | exact HB.out | apply below_alloc | apply pw_below_drewN | apply below_drew1 | refine below_set ?_ GE101.out) | exact HB.out)) hb); clear BK101; clear HB; have BK101 := n0_; have HB := n1_; clear n0_ n1_; (try clear hb); (try clear hb2); (try clear hk); (try clear hi))); try go_wp2_with (first | (go_at_call 52; (with_reducible refine (mail_filled.calls _ _ l0_5 true _ ?side1 ?side2 A40.out).mono ?_); (case side1 => repeat (first | exact (Kd.C_below HR0_5.out HB.out) | (with_reducible refine Kd.C_alloc ?_ _) | (with_reducible refine Kd.C_drewN ?_ _) | (with_reducible refine Kd.C_drew ?_))); (case side2 => exact HC0_5.out); rintro e w47 ⟨rfl, hb⟩; have n0_ := Aside0.mk (blk_below (g := gb101) (o := .cells #[.int .i64 a0_0, .int .i64 a0_1, .int .i64 a0_2, .string a0_3, .string a0_4, .slice A0_5 l0_5.length c0_5, .slice A0_6 l0_6.length c0_6] 25 (0, 0)) (by (with_reducible repeat (first | refine blk_drewN ?_ _ | refine blk_drew ?_ | refine blk_alloc ?_ _)); exact BK101.out) hb); have n1_ := Aside0.mk (below_step (by repeat (first | (with_reducible first | exact HB.out | apply below_alloc | apply pw_below_drewN | apply below_drew1 | refine below_set ?_ GE101.out) | exact HB.out)) hb); clear BK101; clear HB; have BK101 := n0_; have HB := n1_; clear n0_ n1_; (try clear hb); (try clear hb2); (try clear hk); (try clear hi))))
                          go_ret
                          exact ⟨by first | rfl | (simp [errW_none, errW_some] <;> rfl) | (simp [*, errW_none, errW_some] <;> rfl), by repeat (first | (with_reducible first | exact HB.out | apply below_alloc | apply pw_below_drewN | apply below_drew1 | refine below_set ?_ GE101.out) | exact HB.out)⟩
                        · rw [if_neg c45] at H
                          have c45b0 : ((l0_6.length : Int) == 0) = false := beq_eq_false_iff_ne.mpr c45
                          have c45b1 : ((l0_6.length : Int) != 0) = true := bne_iff_ne.mpr c45
                          have c45b2 : ¬ (l0_6 = []) := fun h_ => c45 (by rw [h_]; rfl)
                          obtain rfl := Option.some.inj H
                          have hcz48_0 : wc.cell? ⟨gb101, 0, none⟩ = some (.int .i64 a0_0) := (blk_cell BK101.out 0).trans rfl
                          have hcz48_1 : wc.cell? ⟨gb101, 1, none⟩ = some (.int .i64 a0_1) := (blk_cell BK101.out 1).trans rfl
                          have hcz48_2 : wc.cell? ⟨gb101, 2, none⟩ = some (.int .i64 a0_2) := (blk_cell BK101.out 2).trans rfl
                          have hcz48_3 : wc.cell? ⟨gb101, 3, none⟩ = some (.string a0_3) := (blk_cell BK101.out 3).trans rfl
                          have hcz48_4 : wc.cell? ⟨gb101, 4, none⟩ = some (.string a0_4) := (blk_cell BK101.out 4).trans rfl
                          have hcz48_5 : wc.cell? ⟨gb101, 5, none⟩ = some (.slice A0_5 l0_5.length c0_5) := (blk_cell BK101.out 5).trans rfl
                          have hcz48_6 : wc.cell? ⟨gb101, 6, none⟩ = some (.slice A0_6 l0_6.length c0_6) := (blk_cell BK101.out 6).trans rfl
                          have hfz48_0 := blk_frozen BK101.out 0
                          have hfz48_1 := blk_frozen BK101.out 1
                          have hfz48_2 := blk_frozen BK101.out 2
                          have hfz48_3 := blk_frozen BK101.out 3
                          have hfz48_4 := blk_frozen BK101.out 4
                          have hfz48_5 := blk_frozen BK101.out 5
                          have hfz48_6 := blk_frozen BK101.out 6
                          go_wp2_with (first | (go_at_call 52; (with_reducible refine (mail_filled.calls _ _ l0_5 true _ ?side1 ?side2 A40.out).mono ?_); (case side1 => repeat (first | exact (Kd.C_below HR0_5.out HB.out) | (with_reducible refine Kd.C_alloc ?_ _) | (with_reducible refine Kd.C_drewN ?_ _) | (with_reducible refine Kd.C_drew ?_))); (case side2 => exact HC0_5.out); rintro e w49 ⟨rfl, hb⟩; have n0_ := Aside0.mk (blk_below (g := gb101) (o := .cells #[.int .i64 a0_0, .int .i64 a0_1, .int .i64 a0_2, .string a0_3, .string a0_4, .slice A0_5 l0_5.length c0_5, .slice A0_6 l0_6.length c0_6] 25 (0, 0)) (by (with_reducible repeat (first | refine blk_drewN ?_ _ | refine blk_drew ?_ | refine blk_alloc ?_ _)); exact BK101.out) hb); have n1_ := Aside0.mk (below_step (by repeat (first | (with_reducible first | exact HB.out | apply below_alloc | apply pw_below_drewN | apply below_drew1 | refine below_set ?_ GE101.out) | exact HB.out)) hb); clear BK101; clear HB; have BK101 := n0_; have HB := n1_; clear n0_ n1_; (try clear hb); (try clear hb2); (try clear hk); (try clear hi)))
                          repeat (go_quiet (first | (go_at_call 52; (with_reducible refine (mail_filled.calls _ _ l0_5 true _ ?side1 ?side2 A40.out).mono ?_); (case side1 => repeat (first | exact (Kd.C_below HR0_5.out HB.out) | (with_reducible refine Kd.C_alloc ?_ _) | (with_reducible refine Kd.C_drewN ?_ _) | (with_reducible refine Kd.C_drew ?_))); (case side2 => exact HC0_5.out); rintro e w49 ⟨rfl, hb⟩; have n0_ := Aside0.mk (blk_below (g := gb101) (o := .cells #[.int .i64 a0_0, .int .i64 a0_1, .int .i64 a0_2, .string a0_3, .string a0_4, .slice A0_5 l0_5.length c0_5, .slice A0_6 l0_6.length c0_6] 25 (0, 0)) (by (with_reducible repeat (first | refine blk_drewN ?_ _ | refine blk_drew ?_ | refine blk_alloc ?_ _)); exact BK101.out) hb); have n1_ := Aside0.mk (below_step (by repeat (first | (with_reducible first | exact HB.out | apply below_alloc | apply pw_below_drewN | apply below_drew1 | refine below_set ?_ GE101.out) | exact HB.out)) hb); clear BK101; clear HB; have BK101 := n0_; have HB := n1_; clear n0_ n1_; (try clear hb); (try clear hb2); (try clear hk); (try clear hi))); try go_wp2_with (first | (go_at_call 52; (with_reducible refine (mail_filled.calls _ _ l0_5 true _ ?side1 ?side2 A40.out).mono ?_); (case side1 => repeat (first | exact (Kd.C_below HR0_5.out HB.out) | (with_reducible refine Kd.C_alloc ?_ _) | (with_reducible refine Kd.C_drewN ?_ _) | (with_reducible refine Kd.C_drew ?_))); (case side2 => exact HC0_5.out); rintro e w49 ⟨rfl, hb⟩; have n0_ := Aside0.mk (blk_below (g := gb101) (o := .cells #[.int .i64 a0_0, .int .i64 a0_1, .int .i64 a0_2, .string a0_3, .string a0_4, .slice A0_5 l0_5.length c0_5, .slice A0_6 l0_6.length c0_6] 25 (0, 0)) (by (with_reducible repeat (first | refine blk_drewN ?_ _ | refine blk_drew ?_ | refine blk_alloc ?_ _)); exact BK101.out) hb); have n1_ := Aside0.mk (below_step (by repeat (first | (with_reducible first | exact HB.out | apply below_alloc | apply pw_below_drewN | apply below_drew1 | refine below_set ?_ GE101.out) | exact HB.out)) hb); clear BK101; clear HB; have BK101 := n0_; have HB := n1_; clear n0_ n1_; (try clear hb); (try clear hb2); (try clear hk); (try clear hi))))
                          go_ret
                          exact ⟨by first | rfl | (simp [errW_none, errW_some] <;> rfl) | (simp [*, errW_none, errW_some] <;> rfl), by repeat (first | (with_reducible first | exact HB.out | apply below_alloc | apply pw_below_drewN | apply below_drew1 | refine below_set ?_ GE101.out) | exact HB.out)⟩
                      · replace c44 := Bool.eq_false_iff.mpr c44
                        subst c44
                        have H1 : (some 110) = some r := by rw [if_neg (show ¬ (false = true) by decide)] at H; exact H
                        clear H
                        have H := H1
                        clear H1
                        obtain rfl := Option.some.inj H
                        have hcz50_0 : wc.cell? ⟨gb101, 0, none⟩ = some (.int .i64 a0_0) := (blk_cell BK101.out 0).trans rfl
                        have hcz50_1 : wc.cell? ⟨gb101, 1, none⟩ = some (.int .i64 a0_1) := (blk_cell BK101.out 1).trans rfl
                        have hcz50_2 : wc.cell? ⟨gb101, 2, none⟩ = some (.int .i64 a0_2) := (blk_cell BK101.out 2).trans rfl
                        have hcz50_3 : wc.cell? ⟨gb101, 3, none⟩ = some (.string a0_3) := (blk_cell BK101.out 3).trans rfl
                        have hcz50_4 : wc.cell? ⟨gb101, 4, none⟩ = some (.string a0_4) := (blk_cell BK101.out 4).trans rfl
                        have hcz50_5 : wc.cell? ⟨gb101, 5, none⟩ = some (.slice A0_5 l0_5.length c0_5) := (blk_cell BK101.out 5).trans rfl
                        have hcz50_6 : wc.cell? ⟨gb101, 6, none⟩ = some (.slice A0_6 l0_6.length c0_6) := (blk_cell BK101.out 6).trans rfl
                        have hfz50_0 := blk_frozen BK101.out 0
                        have hfz50_1 := blk_frozen BK101.out 1
                        have hfz50_2 := blk_frozen BK101.out 2
                        have hfz50_3 := blk_frozen BK101.out 3
                        have hfz50_4 := blk_frozen BK101.out 4
                        have hfz50_5 := blk_frozen BK101.out 5
                        have hfz50_6 := blk_frozen BK101.out 6
                        go_wp2_with (first | (go_at_call 52; (with_reducible refine (mail_filled.calls _ _ l0_5 false _ ?side1 ?side2 A40.out).mono ?_); (case side1 => repeat (first | exact (Kd.C_below HR0_5.out HB.out) | (with_reducible refine Kd.C_alloc ?_ _) | (with_reducible refine Kd.C_drewN ?_ _) | (with_reducible refine Kd.C_drew ?_))); (case side2 => exact HC0_5.out); rintro e w51 ⟨rfl, hb⟩; have n0_ := Aside0.mk (blk_below (g := gb101) (o := .cells #[.int .i64 a0_0, .int .i64 a0_1, .int .i64 a0_2, .string a0_3, .string a0_4, .slice A0_5 l0_5.length c0_5, .slice A0_6 l0_6.length c0_6] 25 (0, 0)) (by (with_reducible repeat (first | refine blk_drewN ?_ _ | refine blk_drew ?_ | refine blk_alloc ?_ _)); exact BK101.out) hb); have n1_ := Aside0.mk (below_step (by repeat (first | (with_reducible first | exact HB.out | apply below_alloc | apply pw_below_drewN | apply below_drew1 | refine below_set ?_ GE101.out) | exact HB.out)) hb); clear BK101; clear HB; have BK101 := n0_; have HB := n1_; clear n0_ n1_; (try clear hb); (try clear hb2); (try clear hk); (try clear hi)))
                        repeat (go_quiet (first | (go_at_call 52; (with_reducible refine (mail_filled.calls _ _ l0_5 false _ ?side1 ?side2 A40.out).mono ?_); (case side1 => repeat (first | exact (Kd.C_below HR0_5.out HB.out) | (with_reducible refine Kd.C_alloc ?_ _) | (with_reducible refine Kd.C_drewN ?_ _) | (with_reducible refine Kd.C_drew ?_))); (case side2 => exact HC0_5.out); rintro e w51 ⟨rfl, hb⟩; have n0_ := Aside0.mk (blk_below (g := gb101) (o := .cells #[.int .i64 a0_0, .int .i64 a0_1, .int .i64 a0_2, .string a0_3, .string a0_4, .slice A0_5 l0_5.length c0_5, .slice A0_6 l0_6.length c0_6] 25 (0, 0)) (by (with_reducible repeat (first | refine blk_drewN ?_ _ | refine blk_drew ?_ | refine blk_alloc ?_ _)); exact BK101.out) hb); have n1_ := Aside0.mk (below_step (by repeat (first | (with_reducible first | exact HB.out | apply below_alloc | apply pw_below_drewN | apply below_drew1 | refine below_set ?_ GE101.out) | exact HB.out)) hb); clear BK101; clear HB; have BK101 := n0_; have HB := n1_; clear n0_ n1_; (try clear hb); (try clear hb2); (try clear hk); (try clear hi))); try go_wp2_with (first | (go_at_call 52; (with_reducible refine (mail_filled.calls _ _ l0_5 false _ ?side1 ?side2 A40.out).mono ?_); (case side1 => repeat (first | exact (Kd.C_below HR0_5.out HB.out) | (with_reducible refine Kd.C_alloc ?_ _) | (with_reducible refine Kd.C_drewN ?_ _) | (with_reducible refine Kd.C_drew ?_))); (case side2 => exact HC0_5.out); rintro e w51 ⟨rfl, hb⟩; have n0_ := Aside0.mk (blk_below (g := gb101) (o := .cells #[.int .i64 a0_0, .int .i64 a0_1, .int .i64 a0_2, .string a0_3, .string a0_4, .slice A0_5 l0_5.length c0_5, .slice A0_6 l0_6.length c0_6] 25 (0, 0)) (by (with_reducible repeat (first | refine blk_drewN ?_ _ | refine blk_drew ?_ | refine blk_alloc ?_ _)); exact BK101.out) hb); have n1_ := Aside0.mk (below_step (by repeat (first | (with_reducible first | exact HB.out | apply below_alloc | apply pw_below_drewN | apply below_drew1 | refine below_set ?_ GE101.out) | exact HB.out)) hb); clear BK101; clear HB; have BK101 := n0_; have HB := n1_; clear n0_ n1_; (try clear hb); (try clear hb2); (try clear hk); (try clear hi))))
                        go_ret
                        exact ⟨by first | rfl | (simp [errW_none, errW_some] <;> rfl) | (simp [*, errW_none, errW_some] <;> rfl), by repeat (first | (with_reducible first | exact HB.out | apply below_alloc | apply pw_below_drewN | apply below_drew1 | refine below_set ?_ GE101.out) | exact HB.out)⟩
                    · rw [if_neg c43] at H
                      have c43b0 : (a0_4.toList == ([] : List UInt8)) = false := beq_eq_false_iff_ne.mpr c43
                      have c43b1 : (a0_4.toList != ([] : List UInt8)) = true := bne_iff_ne.mpr c43
                      obtain rfl := Option.some.inj H
                      have hcz52_0 : wc.cell? ⟨gb101, 0, none⟩ = some (.int .i64 a0_0) := (blk_cell BK101.out 0).trans rfl
                      have hcz52_1 : wc.cell? ⟨gb101, 1, none⟩ = some (.int .i64 a0_1) := (blk_cell BK101.out 1).trans rfl
                      have hcz52_2 : wc.cell? ⟨gb101, 2, none⟩ = some (.int .i64 a0_2) := (blk_cell BK101.out 2).trans rfl
                      have hcz52_3 : wc.cell? ⟨gb101, 3, none⟩ = some (.string a0_3) := (blk_cell BK101.out 3).trans rfl
                      have hcz52_4 : wc.cell? ⟨gb101, 4, none⟩ = some (.string a0_4) := (blk_cell BK101.out 4).trans rfl
                      have hcz52_5 : wc.cell? ⟨gb101, 5, none⟩ = some (.slice A0_5 l0_5.length c0_5) := (blk_cell BK101.out 5).trans rfl
                      have hcz52_6 : wc.cell? ⟨gb101, 6, none⟩ = some (.slice A0_6 l0_6.length c0_6) := (blk_cell BK101.out 6).trans rfl
                      have hfz52_0 := blk_frozen BK101.out 0
                      have hfz52_1 := blk_frozen BK101.out 1
                      have hfz52_2 := blk_frozen BK101.out 2
                      have hfz52_3 := blk_frozen BK101.out 3
                      have hfz52_4 := blk_frozen BK101.out 4
                      have hfz52_5 := blk_frozen BK101.out 5
                      have hfz52_6 := blk_frozen BK101.out 6
                      go_wp2_with (first | (go_at_call 52; (with_reducible refine (mail_filled.calls _ _ l0_5 t102 _ ?side1 ?side2 A40.out).mono ?_); (case side1 => repeat (first | exact (Kd.C_below HR0_5.out HB.out) | (with_reducible refine Kd.C_alloc ?_ _) | (with_reducible refine Kd.C_drewN ?_ _) | (with_reducible refine Kd.C_drew ?_))); (case side2 => exact HC0_5.out); rintro e w53 ⟨rfl, hb⟩; have n0_ := Aside0.mk (blk_below (g := gb101) (o := .cells #[.int .i64 a0_0, .int .i64 a0_1, .int .i64 a0_2, .string a0_3, .string a0_4, .slice A0_5 l0_5.length c0_5, .slice A0_6 l0_6.length c0_6] 25 (0, 0)) (by (with_reducible repeat (first | refine blk_drewN ?_ _ | refine blk_drew ?_ | refine blk_alloc ?_ _)); exact BK101.out) hb); have n1_ := Aside0.mk (below_step (by repeat (first | (with_reducible first | exact HB.out | apply below_alloc | apply pw_below_drewN | apply below_drew1 | refine below_set ?_ GE101.out) | exact HB.out)) hb); clear BK101; clear HB; have BK101 := n0_; have HB := n1_; clear n0_ n1_; (try clear hb); (try clear hb2); (try clear hk); (try clear hi)))
                      repeat (go_quiet (first | (go_at_call 52; (with_reducible refine (mail_filled.calls _ _ l0_5 t102 _ ?side1 ?side2 A40.out).mono ?_); (case side1 => repeat (first | exact (Kd.C_below HR0_5.out HB.out) | (with_reducible refine Kd.C_alloc ?_ _) | (with_reducible refine Kd.C_drewN ?_ _) | (with_reducible refine Kd.C_drew ?_))); (case side2 => exact HC0_5.out); rintro e w53 ⟨rfl, hb⟩; have n0_ := Aside0.mk (blk_below (g := gb101) (o := .cells #[.int .i64 a0_0, .int .i64 a0_1, .int .i64 a0_2, .string a0_3, .string a0_4, .slice A0_5 l0_5.length c0_5, .slice A0_6 l0_6.length c0_6] 25 (0, 0)) (by (with_reducible repeat (first | refine blk_drewN ?_ _ | refine blk_drew ?_ | refine blk_alloc ?_ _)); exact BK101.out) hb); have n1_ := Aside0.mk (below_step (by repeat (first | (with_reducible first | exact HB.out | apply below_alloc | apply pw_below_drewN | apply below_drew1 | refine below_set ?_ GE101.out) | exact HB.out)) hb); clear BK101; clear HB; have BK101 := n0_; have HB := n1_; clear n0_ n1_; (try clear hb); (try clear hb2); (try clear hk); (try clear hi))); try go_wp2_with (first | (go_at_call 52; (with_reducible refine (mail_filled.calls _ _ l0_5 t102 _ ?side1 ?side2 A40.out).mono ?_); (case side1 => repeat (first | exact (Kd.C_below HR0_5.out HB.out) | (with_reducible refine Kd.C_alloc ?_ _) | (with_reducible refine Kd.C_drewN ?_ _) | (with_reducible refine Kd.C_drew ?_))); (case side2 => exact HC0_5.out); rintro e w53 ⟨rfl, hb⟩; have n0_ := Aside0.mk (blk_below (g := gb101) (o := .cells #[.int .i64 a0_0, .int .i64 a0_1, .int .i64 a0_2, .string a0_3, .string a0_4, .slice A0_5 l0_5.length c0_5, .slice A0_6 l0_6.length c0_6] 25 (0, 0)) (by (with_reducible repeat (first | refine blk_drewN ?_ _ | refine blk_drew ?_ | refine blk_alloc ?_ _)); exact BK101.out) hb); have n1_ := Aside0.mk (below_step (by repeat (first | (with_reducible first | exact HB.out | apply below_alloc | apply pw_below_drewN | apply below_drew1 | refine below_set ?_ GE101.out) | exact HB.out)) hb); clear BK101; clear HB; have BK101 := n0_; have HB := n1_; clear n0_ n1_; (try clear hb); (try clear hb2); (try clear hk); (try clear hi))))
                      go_ret
                      exact ⟨by first | rfl | (simp [errW_none, errW_some] <;> rfl) | (simp [*, errW_none, errW_some] <;> rfl), by repeat (first | (with_reducible first | exact HB.out | apply below_alloc | apply pw_below_drewN | apply below_drew1 | refine below_set ?_ GE101.out) | exact HB.out)⟩
                  · rw [if_neg c42] at H
                    have c42b0 : (a0_3.toList == ([] : List UInt8)) = false := beq_eq_false_iff_ne.mpr c42
                    have c42b1 : (a0_3.toList != ([] : List UInt8)) = true := bne_iff_ne.mpr c42
                    obtain rfl := Option.some.inj H
                    have hcz54_0 : wc.cell? ⟨gb101, 0, none⟩ = some (.int .i64 a0_0) := (blk_cell BK101.out 0).trans rfl
                    have hcz54_1 : wc.cell? ⟨gb101, 1, none⟩ = some (.int .i64 a0_1) := (blk_cell BK101.out 1).trans rfl
                    have hcz54_2 : wc.cell? ⟨gb101, 2, none⟩ = some (.int .i64 a0_2) := (blk_cell BK101.out 2).trans rfl
                    have hcz54_3 : wc.cell? ⟨gb101, 3, none⟩ = some (.string a0_3) := (blk_cell BK101.out 3).trans rfl
                    have hcz54_4 : wc.cell? ⟨gb101, 4, none⟩ = some (.string a0_4) := (blk_cell BK101.out 4).trans rfl
                    have hcz54_5 : wc.cell? ⟨gb101, 5, none⟩ = some (.slice A0_5 l0_5.length c0_5) := (blk_cell BK101.out 5).trans rfl
                    have hcz54_6 : wc.cell? ⟨gb101, 6, none⟩ = some (.slice A0_6 l0_6.length c0_6) := (blk_cell BK101.out 6).trans rfl
                    have hfz54_0 := blk_frozen BK101.out 0
                    have hfz54_1 := blk_frozen BK101.out 1
                    have hfz54_2 := blk_frozen BK101.out 2
                    have hfz54_3 := blk_frozen BK101.out 3
                    have hfz54_4 := blk_frozen BK101.out 4
                    have hfz54_5 := blk_frozen BK101.out 5
                    have hfz54_6 := blk_frozen BK101.out 6
                    go_wp2_with (first | (go_at_call 52; (with_reducible refine (mail_filled.calls _ _ l0_5 t102 _ ?side1 ?side2 A40.out).mono ?_); (case side1 => repeat (first | exact (Kd.C_below HR0_5.out HB.out) | (with_reducible refine Kd.C_alloc ?_ _) | (with_reducible refine Kd.C_drewN ?_ _) | (with_reducible refine Kd.C_drew ?_))); (case side2 => exact HC0_5.out); rintro e w55 ⟨rfl, hb⟩; have n0_ := Aside0.mk (blk_below (g := gb101) (o := .cells #[.int .i64 a0_0, .int .i64 a0_1, .int .i64 a0_2, .string a0_3, .string a0_4, .slice A0_5 l0_5.length c0_5, .slice A0_6 l0_6.length c0_6] 25 (0, 0)) (by (with_reducible repeat (first | refine blk_drewN ?_ _ | refine blk_drew ?_ | refine blk_alloc ?_ _)); exact BK101.out) hb); have n1_ := Aside0.mk (below_step (by repeat (first | (with_reducible first | exact HB.out | apply below_alloc | apply pw_below_drewN | apply below_drew1 | refine below_set ?_ GE101.out) | exact HB.out)) hb); clear BK101; clear HB; have BK101 := n0_; have HB := n1_; clear n0_ n1_; (try clear hb); (try clear hb2); (try clear hk); (try clear hi)))
                    repeat (go_quiet (first | (go_at_call 52; (with_reducible refine (mail_filled.calls _ _ l0_5 t102 _ ?side1 ?side2 A40.out).mono ?_); (case side1 => repeat (first | exact (Kd.C_below HR0_5.out HB.out) | (with_reducible refine Kd.C_alloc ?_ _) | (with_reducible refine Kd.C_drewN ?_ _) | (with_reducible refine Kd.C_drew ?_))); (case side2 => exact HC0_5.out); rintro e w55 ⟨rfl, hb⟩; have n0_ := Aside0.mk (blk_below (g := gb101) (o := .cells #[.int .i64 a0_0, .int .i64 a0_1, .int .i64 a0_2, .string a0_3, .string a0_4, .slice A0_5 l0_5.length c0_5, .slice A0_6 l0_6.length c0_6] 25 (0, 0)) (by (with_reducible repeat (first | refine blk_drewN ?_ _ | refine blk_drew ?_ | refine blk_alloc ?_ _)); exact BK101.out) hb); have n1_ := Aside0.mk (below_step (by repeat (first | (with_reducible first | exact HB.out | apply below_alloc | apply pw_below_drewN | apply below_drew1 | refine below_set ?_ GE101.out) | exact HB.out)) hb); clear BK101; clear HB; have BK101 := n0_; have HB := n1_; clear n0_ n1_; (try clear hb); (try clear hb2); (try clear hk); (try clear hi))); try go_wp2_with (first | (go_at_call 52; (with_reducible refine (mail_filled.calls _ _ l0_5 t102 _ ?side1 ?side2 A40.out).mono ?_); (case side1 => repeat (first | exact (Kd.C_below HR0_5.out HB.out) | (with_reducible refine Kd.C_alloc ?_ _) | (with_reducible refine Kd.C_drewN ?_ _) | (with_reducible refine Kd.C_drew ?_))); (case side2 => exact HC0_5.out); rintro e w55 ⟨rfl, hb⟩; have n0_ := Aside0.mk (blk_below (g := gb101) (o := .cells #[.int .i64 a0_0, .int .i64 a0_1, .int .i64 a0_2, .string a0_3, .string a0_4, .slice A0_5 l0_5.length c0_5, .slice A0_6 l0_6.length c0_6] 25 (0, 0)) (by (with_reducible repeat (first | refine blk_drewN ?_ _ | refine blk_drew ?_ | refine blk_alloc ?_ _)); exact BK101.out) hb); have n1_ := Aside0.mk (below_step (by repeat (first | (with_reducible first | exact HB.out | apply below_alloc | apply pw_below_drewN | apply below_drew1 | refine below_set ?_ GE101.out) | exact HB.out)) hb); clear BK101; clear HB; have BK101 := n0_; have HB := n1_; clear n0_ n1_; (try clear hb); (try clear hb2); (try clear hk); (try clear hi))))
                    go_ret
                    exact ⟨by first | rfl | (simp [errW_none, errW_some] <;> rfl) | (simp [*, errW_none, errW_some] <;> rfl), by repeat (first | (with_reducible first | exact HB.out | apply below_alloc | apply pw_below_drewN | apply below_drew1 | refine below_set ?_ GE101.out) | exact HB.out)⟩
                · replace c41 := Bool.eq_false_iff.mpr c41
                  subst c41
                  have H1 : (some 110) = some r := by rw [if_neg (show ¬ (false = true) by decide)] at H; exact H
                  clear H
                  have H := H1
                  clear H1
                  obtain rfl := Option.some.inj H
                  have hcz56_0 : wc.cell? ⟨gb101, 0, none⟩ = some (.int .i64 a0_0) := (blk_cell BK101.out 0).trans rfl
                  have hcz56_1 : wc.cell? ⟨gb101, 1, none⟩ = some (.int .i64 a0_1) := (blk_cell BK101.out 1).trans rfl
                  have hcz56_2 : wc.cell? ⟨gb101, 2, none⟩ = some (.int .i64 a0_2) := (blk_cell BK101.out 2).trans rfl
                  have hcz56_3 : wc.cell? ⟨gb101, 3, none⟩ = some (.string a0_3) := (blk_cell BK101.out 3).trans rfl
                  have hcz56_4 : wc.cell? ⟨gb101, 4, none⟩ = some (.string a0_4) := (blk_cell BK101.out 4).trans rfl
                  have hcz56_5 : wc.cell? ⟨gb101, 5, none⟩ = some (.slice A0_5 l0_5.length c0_5) := (blk_cell BK101.out 5).trans rfl
                  have hcz56_6 : wc.cell? ⟨gb101, 6, none⟩ = some (.slice A0_6 l0_6.length c0_6) := (blk_cell BK101.out 6).trans rfl
                  have hfz56_0 := blk_frozen BK101.out 0
                  have hfz56_1 := blk_frozen BK101.out 1
                  have hfz56_2 := blk_frozen BK101.out 2
                  have hfz56_3 := blk_frozen BK101.out 3
                  have hfz56_4 := blk_frozen BK101.out 4
                  have hfz56_5 := blk_frozen BK101.out 5
                  have hfz56_6 := blk_frozen BK101.out 6
                  go_wp2_with (first | (go_at_call 52; (with_reducible refine (mail_filled.calls _ _ l0_5 t102 _ ?side1 ?side2 A40.out).mono ?_); (case side1 => repeat (first | exact (Kd.C_below HR0_5.out HB.out) | (with_reducible refine Kd.C_alloc ?_ _) | (with_reducible refine Kd.C_drewN ?_ _) | (with_reducible refine Kd.C_drew ?_))); (case side2 => exact HC0_5.out); rintro e w57 ⟨rfl, hb⟩; have n0_ := Aside0.mk (blk_below (g := gb101) (o := .cells #[.int .i64 a0_0, .int .i64 a0_1, .int .i64 a0_2, .string a0_3, .string a0_4, .slice A0_5 l0_5.length c0_5, .slice A0_6 l0_6.length c0_6] 25 (0, 0)) (by (with_reducible repeat (first | refine blk_drewN ?_ _ | refine blk_drew ?_ | refine blk_alloc ?_ _)); exact BK101.out) hb); have n1_ := Aside0.mk (below_step (by repeat (first | (with_reducible first | exact HB.out | apply below_alloc | apply pw_below_drewN | apply below_drew1 | refine below_set ?_ GE101.out) | exact HB.out)) hb); clear BK101; clear HB; have BK101 := n0_; have HB := n1_; clear n0_ n1_; (try clear hb); (try clear hb2); (try clear hk); (try clear hi)))
                  repeat (go_quiet (first | (go_at_call 52; (with_reducible refine (mail_filled.calls _ _ l0_5 t102 _ ?side1 ?side2 A40.out).mono ?_); (case side1 => repeat (first | exact (Kd.C_below HR0_5.out HB.out) | (with_reducible refine Kd.C_alloc ?_ _) | (with_reducible refine Kd.C_drewN ?_ _) | (with_reducible refine Kd.C_drew ?_))); (case side2 => exact HC0_5.out); rintro e w57 ⟨rfl, hb⟩; have n0_ := Aside0.mk (blk_below (g := gb101) (o := .cells #[.int .i64 a0_0, .int .i64 a0_1, .int .i64 a0_2, .string a0_3, .string a0_4, .slice A0_5 l0_5.length c0_5, .slice A0_6 l0_6.length c0_6] 25 (0, 0)) (by (with_reducible repeat (first | refine blk_drewN ?_ _ | refine blk_drew ?_ | refine blk_alloc ?_ _)); exact BK101.out) hb); have n1_ := Aside0.mk (below_step (by repeat (first | (with_reducible first | exact HB.out | apply below_alloc | apply pw_below_drewN | apply below_drew1 | refine below_set ?_ GE101.out) | exact HB.out)) hb); clear BK101; clear HB; have BK101 := n0_; have HB := n1_; clear n0_ n1_; (try clear hb); (try clear hb2); (try clear hk); (try clear hi))); try go_wp2_with (first | (go_at_call 52; (with_reducible refine (mail_filled.calls _ _ l0_5 t102 _ ?side1 ?side2 A40.out).mono ?_); (case side1 => repeat (first | exact (Kd.C_below HR0_5.out HB.out) | (with_reducible refine Kd.C_alloc ?_ _) | (with_reducible refine Kd.C_drewN ?_ _) | (with_reducible refine Kd.C_drew ?_))); (case side2 => exact HC0_5.out); rintro e w57 ⟨rfl, hb⟩; have n0_ := Aside0.mk (blk_below (g := gb101) (o := .cells #[.int .i64 a0_0, .int .i64 a0_1, .int .i64 a0_2, .string a0_3, .string a0_4, .slice A0_5 l0_5.length c0_5, .slice A0_6 l0_6.length c0_6] 25 (0, 0)) (by (with_reducible repeat (first | refine blk_drewN ?_ _ | refine blk_drew ?_ | refine blk_alloc ?_ _)); exact BK101.out) hb); have n1_ := Aside0.mk (below_step (by repeat (first | (with_reducible first | exact HB.out | apply below_alloc | apply pw_below_drewN | apply below_drew1 | refine below_set ?_ GE101.out) | exact HB.out)) hb); clear BK101; clear HB; have BK101 := n0_; have HB := n1_; clear n0_ n1_; (try clear hb); (try clear hb2); (try clear hk); (try clear hi))))
                  go_ret
                  exact ⟨by first | rfl | (simp [errW_none, errW_some] <;> rfl) | (simp [*, errW_none, errW_some] <;> rfl), by repeat (first | (with_reducible first | exact HB.out | apply below_alloc | apply pw_below_drewN | apply below_drew1 | refine below_set ?_ GE101.out) | exact HB.out)⟩
              · rw [if_neg c39] at H
                have c39b0 : (a0_0 == 3) = false := beq_eq_false_iff_ne.mpr c39
                have c39b1 : (a0_0 != 3) = true := bne_iff_ne.mpr c39
                by_cases c58 : a0_0 = 4
                · rw [if_pos c58] at H
                  have c58b0 : (a0_0 == 4) = true := beq_iff_eq.mpr c58
                  have c58b1 : (a0_0 != 4) = false := bne_eq_false_iff_eq.mpr c58
                  clear c58
                  by_cases c59 : (l0_6.length : Int) ≤ 4
                  · rw [if_pos c59] at H
                    have c59b0 : decide ((l0_6.length : Int) ≤ 4) = true := decide_eq_true c59
                    have c59b1 : decide (l0_6.length ≤ 4) = true := decide_eq_true (by omega)
                    clear c59
                    replace H := Option.bind_eq_some_iff.mp H
                    obtain ⟨t103, A600, H⟩ := H
                    replace H : (if x3_1 = true then (if (a0_3.toList = ([] : List UInt8)) then (if ((a0_4.size : Int) = 32) then (if ((l0_5.length : Int) = 0) then (if t103 = true then (some 110) else (some 0)) else (some 110)) else (some 110)) else (some 110)) else (some 110)) = some r := H
                    have A60 := Aside0.mk A600
                    clear A600
                    by_cases c61 : x3_1 = true
                    · subst c61
                      have H1 : (if (a0_3.toList = ([] : List UInt8)) then (if ((a0_4.size : Int) = 32) then (if ((l0_5.length : Int) = 0) then (if t103 = true then (some 110) else (some 0)) else (some 110)) else (some 110)) else (some 110)) = some r := by rw [if_pos rfl] at H; exact H
                      clear H
                      have H := H1
                      clear H1
                      by_cases c62 : (a0_3.toList = ([] : List UInt8))
                      · rw [if_pos c62] at H
                        have c62b0 : (a0_3.toList == ([] : List UInt8)) = true := beq_iff_eq.mpr c62
                        have c62b1 : (a0_3.toList != ([] : List UInt8)) = false := bne_eq_false_iff_eq.mpr c62
                        clear c62
                        by_cases c63 : ((a0_4.size : Int) = 32)
                        · rw [if_pos c63] at H
                          have c63b0 : ((a0_4.size : Int) == 32) = true := beq_iff_eq.mpr c63
                          have c63b1 : ((a0_4.size : Int) != 32) = false := bne_eq_false_iff_eq.mpr c63
                          clear c63
                          by_cases c64 : ((l0_5.length : Int) = 0)
                          · rw [if_pos c64] at H
                            have c64b0 : ((l0_5.length : Int) == 0) = true := beq_iff_eq.mpr c64
                            have c64b1 : ((l0_5.length : Int) != 0) = false := bne_eq_false_iff_eq.mpr c64
                            clear c64
                            by_cases c65 : t103 = true
                            · subst c65
                              have H1 : (some 110) = some r := by rw [if_pos rfl] at H; exact H
                              clear H
                              have H := H1
                              clear H1
                              obtain rfl := Option.some.inj H
                              have hcz66_0 : wc.cell? ⟨gb101, 0, none⟩ = some (.int .i64 a0_0) := (blk_cell BK101.out 0).trans rfl
                              have hcz66_1 : wc.cell? ⟨gb101, 1, none⟩ = some (.int .i64 a0_1) := (blk_cell BK101.out 1).trans rfl
                              have hcz66_2 : wc.cell? ⟨gb101, 2, none⟩ = some (.int .i64 a0_2) := (blk_cell BK101.out 2).trans rfl
                              have hcz66_3 : wc.cell? ⟨gb101, 3, none⟩ = some (.string a0_3) := (blk_cell BK101.out 3).trans rfl
                              have hcz66_4 : wc.cell? ⟨gb101, 4, none⟩ = some (.string a0_4) := (blk_cell BK101.out 4).trans rfl
                              have hcz66_5 : wc.cell? ⟨gb101, 5, none⟩ = some (.slice A0_5 l0_5.length c0_5) := (blk_cell BK101.out 5).trans rfl
                              have hcz66_6 : wc.cell? ⟨gb101, 6, none⟩ = some (.slice A0_6 l0_6.length c0_6) := (blk_cell BK101.out 6).trans rfl
                              have hfz66_0 := blk_frozen BK101.out 0
                              have hfz66_1 := blk_frozen BK101.out 1
                              have hfz66_2 := blk_frozen BK101.out 2
                              have hfz66_3 := blk_frozen BK101.out 3
                              have hfz66_4 := blk_frozen BK101.out 4
                              have hfz66_5 := blk_frozen BK101.out 5
                              have hfz66_6 := blk_frozen BK101.out 6
                              go_wp2_with (first | (go_at_call 53; (with_reducible refine (mail_stranger.calls _ _ l0_6 true _ ?side1 ?side2 A60.out).mono ?_); (case side1 => repeat (first | exact (Kd.C_below HR0_6.out HB.out) | (with_reducible refine Kd.C_alloc ?_ _) | (with_reducible refine Kd.C_drewN ?_ _) | (with_reducible refine Kd.C_drew ?_))); (case side2 => exact HC0_6.out); rintro e w' ⟨rfl, ⟨nd, rfl⟩⟩; (try first | exact ⟨rfl, _, World.drewN_drewN _ _ _⟩ | exact ⟨rfl, _, Eq.trans (World.drewN_drewN _ _ _) (congrArg (World.drewN _) (Nat.add_assoc _ _ _))⟩)))
                              repeat (go_quiet (first | (go_at_call 53; (with_reducible refine (mail_stranger.calls _ _ l0_6 true _ ?side1 ?side2 A60.out).mono ?_); (case side1 => repeat (first | exact (Kd.C_below HR0_6.out HB.out) | (with_reducible refine Kd.C_alloc ?_ _) | (with_reducible refine Kd.C_drewN ?_ _) | (with_reducible refine Kd.C_drew ?_))); (case side2 => exact HC0_6.out); rintro e w' ⟨rfl, ⟨nd, rfl⟩⟩; (try first | exact ⟨rfl, _, World.drewN_drewN _ _ _⟩ | exact ⟨rfl, _, Eq.trans (World.drewN_drewN _ _ _) (congrArg (World.drewN _) (Nat.add_assoc _ _ _))⟩))); try go_wp2_with (first | (go_at_call 53; (with_reducible refine (mail_stranger.calls _ _ l0_6 true _ ?side1 ?side2 A60.out).mono ?_); (case side1 => repeat (first | exact (Kd.C_below HR0_6.out HB.out) | (with_reducible refine Kd.C_alloc ?_ _) | (with_reducible refine Kd.C_drewN ?_ _) | (with_reducible refine Kd.C_drew ?_))); (case side2 => exact HC0_6.out); rintro e w' ⟨rfl, ⟨nd, rfl⟩⟩; (try first | exact ⟨rfl, _, World.drewN_drewN _ _ _⟩ | exact ⟨rfl, _, Eq.trans (World.drewN_drewN _ _ _) (congrArg (World.drewN _) (Nat.add_assoc _ _ _))⟩))))
                              go_ret
                              exact ⟨by first | rfl | (simp [errW_none, errW_some] <;> rfl) | (simp [*, errW_none, errW_some] <;> rfl), by repeat (first | (with_reducible first | exact HB.out | apply below_alloc | apply pw_below_drewN | apply below_drew1 | refine below_set ?_ GE101.out) | exact HB.out)⟩
                            · replace c65 := Bool.eq_false_iff.mpr c65
                              subst c65
                              have H1 : (some 0) = some r := by rw [if_neg (show ¬ (false = true) by decide)] at H; exact H
                              clear H
                              have H := H1
                              clear H1
                              obtain rfl := Option.some.inj H
                              have hcz67_0 : wc.cell? ⟨gb101, 0, none⟩ = some (.int .i64 a0_0) := (blk_cell BK101.out 0).trans rfl
                              have hcz67_1 : wc.cell? ⟨gb101, 1, none⟩ = some (.int .i64 a0_1) := (blk_cell BK101.out 1).trans rfl
                              have hcz67_2 : wc.cell? ⟨gb101, 2, none⟩ = some (.int .i64 a0_2) := (blk_cell BK101.out 2).trans rfl
                              have hcz67_3 : wc.cell? ⟨gb101, 3, none⟩ = some (.string a0_3) := (blk_cell BK101.out 3).trans rfl
                              have hcz67_4 : wc.cell? ⟨gb101, 4, none⟩ = some (.string a0_4) := (blk_cell BK101.out 4).trans rfl
                              have hcz67_5 : wc.cell? ⟨gb101, 5, none⟩ = some (.slice A0_5 l0_5.length c0_5) := (blk_cell BK101.out 5).trans rfl
                              have hcz67_6 : wc.cell? ⟨gb101, 6, none⟩ = some (.slice A0_6 l0_6.length c0_6) := (blk_cell BK101.out 6).trans rfl
                              have hfz67_0 := blk_frozen BK101.out 0
                              have hfz67_1 := blk_frozen BK101.out 1
                              have hfz67_2 := blk_frozen BK101.out 2
                              have hfz67_3 := blk_frozen BK101.out 3
                              have hfz67_4 := blk_frozen BK101.out 4
                              have hfz67_5 := blk_frozen BK101.out 5
                              have hfz67_6 := blk_frozen BK101.out 6
                              go_wp2_with (first | (go_at_call 53; (with_reducible refine (mail_stranger.calls _ _ l0_6 false _ ?side1 ?side2 A60.out).mono ?_); (case side1 => repeat (first | exact (Kd.C_below HR0_6.out HB.out) | (with_reducible refine Kd.C_alloc ?_ _) | (with_reducible refine Kd.C_drewN ?_ _) | (with_reducible refine Kd.C_drew ?_))); (case side2 => exact HC0_6.out); rintro e w' ⟨rfl, ⟨nd, rfl⟩⟩; (try first | exact ⟨rfl, _, World.drewN_drewN _ _ _⟩ | exact ⟨rfl, _, Eq.trans (World.drewN_drewN _ _ _) (congrArg (World.drewN _) (Nat.add_assoc _ _ _))⟩)))
                              repeat (go_quiet (first | (go_at_call 53; (with_reducible refine (mail_stranger.calls _ _ l0_6 false _ ?side1 ?side2 A60.out).mono ?_); (case side1 => repeat (first | exact (Kd.C_below HR0_6.out HB.out) | (with_reducible refine Kd.C_alloc ?_ _) | (with_reducible refine Kd.C_drewN ?_ _) | (with_reducible refine Kd.C_drew ?_))); (case side2 => exact HC0_6.out); rintro e w' ⟨rfl, ⟨nd, rfl⟩⟩; (try first | exact ⟨rfl, _, World.drewN_drewN _ _ _⟩ | exact ⟨rfl, _, Eq.trans (World.drewN_drewN _ _ _) (congrArg (World.drewN _) (Nat.add_assoc _ _ _))⟩))); try go_wp2_with (first | (go_at_call 53; (with_reducible refine (mail_stranger.calls _ _ l0_6 false _ ?side1 ?side2 A60.out).mono ?_); (case side1 => repeat (first | exact (Kd.C_below HR0_6.out HB.out) | (with_reducible refine Kd.C_alloc ?_ _) | (with_reducible refine Kd.C_drewN ?_ _) | (with_reducible refine Kd.C_drew ?_))); (case side2 => exact HC0_6.out); rintro e w' ⟨rfl, ⟨nd, rfl⟩⟩; (try first | exact ⟨rfl, _, World.drewN_drewN _ _ _⟩ | exact ⟨rfl, _, Eq.trans (World.drewN_drewN _ _ _) (congrArg (World.drewN _) (Nat.add_assoc _ _ _))⟩))))
                              go_ret
                              exact ⟨by first | rfl | (simp [errW_none, errW_some] <;> rfl) | (simp [*, errW_none, errW_some] <;> rfl), by repeat (first | (with_reducible first | exact HB.out | apply below_alloc | apply pw_below_drewN | apply below_drew1 | refine below_set ?_ GE101.out) | exact HB.out)⟩
                          · rw [if_neg c64] at H
                            have c64b0 : ((l0_5.length : Int) == 0) = false := beq_eq_false_iff_ne.mpr c64
                            have c64b1 : ((l0_5.length : Int) != 0) = true := bne_iff_ne.mpr c64
                            have c64b2 : ¬ (l0_5 = []) := fun h_ => c64 (by rw [h_]; rfl)
                            obtain rfl := Option.some.inj H
                            have hcz68_0 : wc.cell? ⟨gb101, 0, none⟩ = some (.int .i64 a0_0) := (blk_cell BK101.out 0).trans rfl
                            have hcz68_1 : wc.cell? ⟨gb101, 1, none⟩ = some (.int .i64 a0_1) := (blk_cell BK101.out 1).trans rfl
                            have hcz68_2 : wc.cell? ⟨gb101, 2, none⟩ = some (.int .i64 a0_2) := (blk_cell BK101.out 2).trans rfl
                            have hcz68_3 : wc.cell? ⟨gb101, 3, none⟩ = some (.string a0_3) := (blk_cell BK101.out 3).trans rfl
                            have hcz68_4 : wc.cell? ⟨gb101, 4, none⟩ = some (.string a0_4) := (blk_cell BK101.out 4).trans rfl
                            have hcz68_5 : wc.cell? ⟨gb101, 5, none⟩ = some (.slice A0_5 l0_5.length c0_5) := (blk_cell BK101.out 5).trans rfl
                            have hcz68_6 : wc.cell? ⟨gb101, 6, none⟩ = some (.slice A0_6 l0_6.length c0_6) := (blk_cell BK101.out 6).trans rfl
                            have hfz68_0 := blk_frozen BK101.out 0
                            have hfz68_1 := blk_frozen BK101.out 1
                            have hfz68_2 := blk_frozen BK101.out 2
                            have hfz68_3 := blk_frozen BK101.out 3
                            have hfz68_4 := blk_frozen BK101.out 4
                            have hfz68_5 := blk_frozen BK101.out 5
                            have hfz68_6 := blk_frozen BK101.out 6
                            go_wp2_with (first | (go_at_call 53; (with_reducible refine (mail_stranger.calls _ _ l0_6 t103 _ ?side1 ?side2 A60.out).mono ?_); (case side1 => repeat (first | exact (Kd.C_below HR0_6.out HB.out) | (with_reducible refine Kd.C_alloc ?_ _) | (with_reducible refine Kd.C_drewN ?_ _) | (with_reducible refine Kd.C_drew ?_))); (case side2 => exact HC0_6.out); rintro e w' ⟨rfl, ⟨nd, rfl⟩⟩; (try first | exact ⟨rfl, _, World.drewN_drewN _ _ _⟩ | exact ⟨rfl, _, Eq.trans (World.drewN_drewN _ _ _) (congrArg (World.drewN _) (Nat.add_assoc _ _ _))⟩)))
                            repeat (go_quiet (first | (go_at_call 53; (with_reducible refine (mail_stranger.calls _ _ l0_6 t103 _ ?side1 ?side2 A60.out).mono ?_); (case side1 => repeat (first | exact (Kd.C_below HR0_6.out HB.out) | (with_reducible refine Kd.C_alloc ?_ _) | (with_reducible refine Kd.C_drewN ?_ _) | (with_reducible refine Kd.C_drew ?_))); (case side2 => exact HC0_6.out); rintro e w' ⟨rfl, ⟨nd, rfl⟩⟩; (try first | exact ⟨rfl, _, World.drewN_drewN _ _ _⟩ | exact ⟨rfl, _, Eq.trans (World.drewN_drewN _ _ _) (congrArg (World.drewN _) (Nat.add_assoc _ _ _))⟩))); try go_wp2_with (first | (go_at_call 53; (with_reducible refine (mail_stranger.calls _ _ l0_6 t103 _ ?side1 ?side2 A60.out).mono ?_); (case side1 => repeat (first | exact (Kd.C_below HR0_6.out HB.out) | (with_reducible refine Kd.C_alloc ?_ _) | (with_reducible refine Kd.C_drewN ?_ _) | (with_reducible refine Kd.C_drew ?_))); (case side2 => exact HC0_6.out); rintro e w' ⟨rfl, ⟨nd, rfl⟩⟩; (try first | exact ⟨rfl, _, World.drewN_drewN _ _ _⟩ | exact ⟨rfl, _, Eq.trans (World.drewN_drewN _ _ _) (congrArg (World.drewN _) (Nat.add_assoc _ _ _))⟩))))
                            go_ret
                            exact ⟨by first | rfl | (simp [errW_none, errW_some] <;> rfl) | (simp [*, errW_none, errW_some] <;> rfl), by repeat (first | (with_reducible first | exact HB.out | apply below_alloc | apply pw_below_drewN | apply below_drew1 | refine below_set ?_ GE101.out) | exact HB.out)⟩
                        · rw [if_neg c63] at H
                          have c63b0 : ((a0_4.size : Int) == 32) = false := beq_eq_false_iff_ne.mpr c63
                          have c63b1 : ((a0_4.size : Int) != 32) = true := bne_iff_ne.mpr c63
                          obtain rfl := Option.some.inj H
                          have hcz69_0 : wc.cell? ⟨gb101, 0, none⟩ = some (.int .i64 a0_0) := (blk_cell BK101.out 0).trans rfl
                          have hcz69_1 : wc.cell? ⟨gb101, 1, none⟩ = some (.int .i64 a0_1) := (blk_cell BK101.out 1).trans rfl
                          have hcz69_2 : wc.cell? ⟨gb101, 2, none⟩ = some (.int .i64 a0_2) := (blk_cell BK101.out 2).trans rfl
                          have hcz69_3 : wc.cell? ⟨gb101, 3, none⟩ = some (.string a0_3) := (blk_cell BK101.out 3).trans rfl
                          have hcz69_4 : wc.cell? ⟨gb101, 4, none⟩ = some (.string a0_4) := (blk_cell BK101.out 4).trans rfl
                          have hcz69_5 : wc.cell? ⟨gb101, 5, none⟩ = some (.slice A0_5 l0_5.length c0_5) := (blk_cell BK101.out 5).trans rfl
                          have hcz69_6 : wc.cell? ⟨gb101, 6, none⟩ = some (.slice A0_6 l0_6.length c0_6) := (blk_cell BK101.out 6).trans rfl
                          have hfz69_0 := blk_frozen BK101.out 0
                          have hfz69_1 := blk_frozen BK101.out 1
                          have hfz69_2 := blk_frozen BK101.out 2
                          have hfz69_3 := blk_frozen BK101.out 3
                          have hfz69_4 := blk_frozen BK101.out 4
                          have hfz69_5 := blk_frozen BK101.out 5
                          have hfz69_6 := blk_frozen BK101.out 6
                          go_wp2_with (first | (go_at_call 53; (with_reducible refine (mail_stranger.calls _ _ l0_6 t103 _ ?side1 ?side2 A60.out).mono ?_); (case side1 => repeat (first | exact (Kd.C_below HR0_6.out HB.out) | (with_reducible refine Kd.C_alloc ?_ _) | (with_reducible refine Kd.C_drewN ?_ _) | (with_reducible refine Kd.C_drew ?_))); (case side2 => exact HC0_6.out); rintro e w' ⟨rfl, ⟨nd, rfl⟩⟩; (try first | exact ⟨rfl, _, World.drewN_drewN _ _ _⟩ | exact ⟨rfl, _, Eq.trans (World.drewN_drewN _ _ _) (congrArg (World.drewN _) (Nat.add_assoc _ _ _))⟩)))
                          repeat (go_quiet (first | (go_at_call 53; (with_reducible refine (mail_stranger.calls _ _ l0_6 t103 _ ?side1 ?side2 A60.out).mono ?_); (case side1 => repeat (first | exact (Kd.C_below HR0_6.out HB.out) | (with_reducible refine Kd.C_alloc ?_ _) | (with_reducible refine Kd.C_drewN ?_ _) | (with_reducible refine Kd.C_drew ?_))); (case side2 => exact HC0_6.out); rintro e w' ⟨rfl, ⟨nd, rfl⟩⟩; (try first | exact ⟨rfl, _, World.drewN_drewN _ _ _⟩ | exact ⟨rfl, _, Eq.trans (World.drewN_drewN _ _ _) (congrArg (World.drewN _) (Nat.add_assoc _ _ _))⟩))); try go_wp2_with (first | (go_at_call 53; (with_reducible refine (mail_stranger.calls _ _ l0_6 t103 _ ?side1 ?side2 A60.out).mono ?_); (case side1 => repeat (first | exact (Kd.C_below HR0_6.out HB.out) | (with_reducible refine Kd.C_alloc ?_ _) | (with_reducible refine Kd.C_drewN ?_ _) | (with_reducible refine Kd.C_drew ?_))); (case side2 => exact HC0_6.out); rintro e w' ⟨rfl, ⟨nd, rfl⟩⟩; (try first | exact ⟨rfl, _, World.drewN_drewN _ _ _⟩ | exact ⟨rfl, _, Eq.trans (World.drewN_drewN _ _ _) (congrArg (World.drewN _) (Nat.add_assoc _ _ _))⟩))))
                          go_ret
                          exact ⟨by first | rfl | (simp [errW_none, errW_some] <;> rfl) | (simp [*, errW_none, errW_some] <;> rfl), by repeat (first | (with_reducible first | exact HB.out | apply below_alloc | apply pw_below_drewN | apply below_drew1 | refine below_set ?_ GE101.out) | exact HB.out)⟩
                      · rw [if_neg c62] at H
                        have c62b0 : (a0_3.toList == ([] : List UInt8)) = false := beq_eq_false_iff_ne.mpr c62
                        have c62b1 : (a0_3.toList != ([] : List UInt8)) = true := bne_iff_ne.mpr c62
                        obtain rfl := Option.some.inj H
                        have hcz70_0 : wc.cell? ⟨gb101, 0, none⟩ = some (.int .i64 a0_0) := (blk_cell BK101.out 0).trans rfl
                        have hcz70_1 : wc.cell? ⟨gb101, 1, none⟩ = some (.int .i64 a0_1) := (blk_cell BK101.out 1).trans rfl
                        have hcz70_2 : wc.cell? ⟨gb101, 2, none⟩ = some (.int .i64 a0_2) := (blk_cell BK101.out 2).trans rfl
                        have hcz70_3 : wc.cell? ⟨gb101, 3, none⟩ = some (.string a0_3) := (blk_cell BK101.out 3).trans rfl
                        have hcz70_4 : wc.cell? ⟨gb101, 4, none⟩ = some (.string a0_4) := (blk_cell BK101.out 4).trans rfl
                        have hcz70_5 : wc.cell? ⟨gb101, 5, none⟩ = some (.slice A0_5 l0_5.length c0_5) := (blk_cell BK101.out 5).trans rfl
                        have hcz70_6 : wc.cell? ⟨gb101, 6, none⟩ = some (.slice A0_6 l0_6.length c0_6) := (blk_cell BK101.out 6).trans rfl
                        have hfz70_0 := blk_frozen BK101.out 0
                        have hfz70_1 := blk_frozen BK101.out 1
                        have hfz70_2 := blk_frozen BK101.out 2
                        have hfz70_3 := blk_frozen BK101.out 3
                        have hfz70_4 := blk_frozen BK101.out 4
                        have hfz70_5 := blk_frozen BK101.out 5
                        have hfz70_6 := blk_frozen BK101.out 6
                        go_wp2_with (first | (go_at_call 53; (with_reducible refine (mail_stranger.calls _ _ l0_6 t103 _ ?side1 ?side2 A60.out).mono ?_); (case side1 => repeat (first | exact (Kd.C_below HR0_6.out HB.out) | (with_reducible refine Kd.C_alloc ?_ _) | (with_reducible refine Kd.C_drewN ?_ _) | (with_reducible refine Kd.C_drew ?_))); (case side2 => exact HC0_6.out); rintro e w' ⟨rfl, ⟨nd, rfl⟩⟩; (try first | exact ⟨rfl, _, World.drewN_drewN _ _ _⟩ | exact ⟨rfl, _, Eq.trans (World.drewN_drewN _ _ _) (congrArg (World.drewN _) (Nat.add_assoc _ _ _))⟩)))
                        repeat (go_quiet (first | (go_at_call 53; (with_reducible refine (mail_stranger.calls _ _ l0_6 t103 _ ?side1 ?side2 A60.out).mono ?_); (case side1 => repeat (first | exact (Kd.C_below HR0_6.out HB.out) | (with_reducible refine Kd.C_alloc ?_ _) | (with_reducible refine Kd.C_drewN ?_ _) | (with_reducible refine Kd.C_drew ?_))); (case side2 => exact HC0_6.out); rintro e w' ⟨rfl, ⟨nd, rfl⟩⟩; (try first | exact ⟨rfl, _, World.drewN_drewN _ _ _⟩ | exact ⟨rfl, _, Eq.trans (World.drewN_drewN _ _ _) (congrArg (World.drewN _) (Nat.add_assoc _ _ _))⟩))); try go_wp2_with (first | (go_at_call 53; (with_reducible refine (mail_stranger.calls _ _ l0_6 t103 _ ?side1 ?side2 A60.out).mono ?_); (case side1 => repeat (first | exact (Kd.C_below HR0_6.out HB.out) | (with_reducible refine Kd.C_alloc ?_ _) | (with_reducible refine Kd.C_drewN ?_ _) | (with_reducible refine Kd.C_drew ?_))); (case side2 => exact HC0_6.out); rintro e w' ⟨rfl, ⟨nd, rfl⟩⟩; (try first | exact ⟨rfl, _, World.drewN_drewN _ _ _⟩ | exact ⟨rfl, _, Eq.trans (World.drewN_drewN _ _ _) (congrArg (World.drewN _) (Nat.add_assoc _ _ _))⟩))))
                        go_ret
                        exact ⟨by first | rfl | (simp [errW_none, errW_some] <;> rfl) | (simp [*, errW_none, errW_some] <;> rfl), by repeat (first | (with_reducible first | exact HB.out | apply below_alloc | apply pw_below_drewN | apply below_drew1 | refine below_set ?_ GE101.out) | exact HB.out)⟩
                    · replace c61 := Bool.eq_false_iff.mpr c61
                      subst c61
                      have H1 : (some 110) = some r := by rw [if_neg (show ¬ (false = true) by decide)] at H; exact H
                      clear H
                      have H := H1
                      clear H1
                      obtain rfl := Option.some.inj H
                      have hcz71_0 : wc.cell? ⟨gb101, 0, none⟩ = some (.int .i64 a0_0) := (blk_cell BK101.out 0).trans rfl
                      have hcz71_1 : wc.cell? ⟨gb101, 1, none⟩ = some (.int .i64 a0_1) := (blk_cell BK101.out 1).trans rfl
                      have hcz71_2 : wc.cell? ⟨gb101, 2, none⟩ = some (.int .i64 a0_2) := (blk_cell BK101.out 2).trans rfl
                      have hcz71_3 : wc.cell? ⟨gb101, 3, none⟩ = some (.string a0_3) := (blk_cell BK101.out 3).trans rfl
                      have hcz71_4 : wc.cell? ⟨gb101, 4, none⟩ = some (.string a0_4) := (blk_cell BK101.out 4).trans rfl
                      have hcz71_5 : wc.cell? ⟨gb101, 5, none⟩ = some (.slice A0_5 l0_5.length c0_5) := (blk_cell BK101.out 5).trans rfl
                      have hcz71_6 : wc.cell? ⟨gb101, 6, none⟩ = some (.slice A0_6 l0_6.length c0_6) := (blk_cell BK101.out 6).trans rfl
                      have hfz71_0 := blk_frozen BK101.out 0
                      have hfz71_1 := blk_frozen BK101.out 1
                      have hfz71_2 := blk_frozen BK101.out 2
                      have hfz71_3 := blk_frozen BK101.out 3
                      have hfz71_4 := blk_frozen BK101.out 4
                      have hfz71_5 := blk_frozen BK101.out 5
                      have hfz71_6 := blk_frozen BK101.out 6
                      go_wp2_with (first | (go_at_call 53; (with_reducible refine (mail_stranger.calls _ _ l0_6 t103 _ ?side1 ?side2 A60.out).mono ?_); (case side1 => repeat (first | exact (Kd.C_below HR0_6.out HB.out) | (with_reducible refine Kd.C_alloc ?_ _) | (with_reducible refine Kd.C_drewN ?_ _) | (with_reducible refine Kd.C_drew ?_))); (case side2 => exact HC0_6.out); rintro e w' ⟨rfl, ⟨nd, rfl⟩⟩; (try first | exact ⟨rfl, _, World.drewN_drewN _ _ _⟩ | exact ⟨rfl, _, Eq.trans (World.drewN_drewN _ _ _) (congrArg (World.drewN _) (Nat.add_assoc _ _ _))⟩)))
                      repeat (go_quiet (first | (go_at_call 53; (with_reducible refine (mail_stranger.calls _ _ l0_6 t103 _ ?side1 ?side2 A60.out).mono ?_); (case side1 => repeat (first | exact (Kd.C_below HR0_6.out HB.out) | (with_reducible refine Kd.C_alloc ?_ _) | (with_reducible refine Kd.C_drewN ?_ _) | (with_reducible refine Kd.C_drew ?_))); (case side2 => exact HC0_6.out); rintro e w' ⟨rfl, ⟨nd, rfl⟩⟩; (try first | exact ⟨rfl, _, World.drewN_drewN _ _ _⟩ | exact ⟨rfl, _, Eq.trans (World.drewN_drewN _ _ _) (congrArg (World.drewN _) (Nat.add_assoc _ _ _))⟩))); try go_wp2_with (first | (go_at_call 53; (with_reducible refine (mail_stranger.calls _ _ l0_6 t103 _ ?side1 ?side2 A60.out).mono ?_); (case side1 => repeat (first | exact (Kd.C_below HR0_6.out HB.out) | (with_reducible refine Kd.C_alloc ?_ _) | (with_reducible refine Kd.C_drewN ?_ _) | (with_reducible refine Kd.C_drew ?_))); (case side2 => exact HC0_6.out); rintro e w' ⟨rfl, ⟨nd, rfl⟩⟩; (try first | exact ⟨rfl, _, World.drewN_drewN _ _ _⟩ | exact ⟨rfl, _, Eq.trans (World.drewN_drewN _ _ _) (congrArg (World.drewN _) (Nat.add_assoc _ _ _))⟩))))
                      go_ret
                      exact ⟨by first | rfl | (simp [errW_none, errW_some] <;> rfl) | (simp [*, errW_none, errW_some] <;> rfl), by repeat (first | (with_reducible first | exact HB.out | apply below_alloc | apply pw_below_drewN | apply below_drew1 | refine below_set ?_ GE101.out) | exact HB.out)⟩
                  · rw [if_neg c59] at H
                    have c59b0 : decide ((l0_6.length : Int) ≤ 4) = false := decide_eq_false c59
                    have c59b1 : decide (l0_6.length ≤ 4) = false := decide_eq_false (by omega)
                    clear c59
                    by_cases c72 : x3_1 = true
                    · subst c72
                      have H1 : (if (a0_3.toList = ([] : List UInt8)) then (if ((a0_4.size : Int) = 32) then (if ((l0_5.length : Int) = 0) then (some 110) else (some 110)) else (some 110)) else (some 110)) = some r := by rw [if_pos rfl] at H; exact H
                      clear H
                      have H := H1
                      clear H1
                      by_cases c73 : (a0_3.toList = ([] : List UInt8))
                      · rw [if_pos c73] at H
                        have c73b0 : (a0_3.toList == ([] : List UInt8)) = true := beq_iff_eq.mpr c73
                        have c73b1 : (a0_3.toList != ([] : List UInt8)) = false := bne_eq_false_iff_eq.mpr c73
                        clear c73
                        by_cases c74 : ((a0_4.size : Int) = 32)
                        · rw [if_pos c74] at H
                          have c74b0 : ((a0_4.size : Int) == 32) = true := beq_iff_eq.mpr c74
                          have c74b1 : ((a0_4.size : Int) != 32) = false := bne_eq_false_iff_eq.mpr c74
                          clear c74
                          by_cases c75 : ((l0_5.length : Int) = 0)
                          · rw [if_pos c75] at H
                            have c75b0 : ((l0_5.length : Int) == 0) = true := beq_iff_eq.mpr c75
                            have c75b1 : ((l0_5.length : Int) != 0) = false := bne_eq_false_iff_eq.mpr c75
                            clear c75
                            obtain rfl := Option.some.inj H
                            have hcz76_0 : wc.cell? ⟨gb101, 0, none⟩ = some (.int .i64 a0_0) := (blk_cell BK101.out 0).trans rfl
                            have hcz76_1 : wc.cell? ⟨gb101, 1, none⟩ = some (.int .i64 a0_1) := (blk_cell BK101.out 1).trans rfl
                            have hcz76_2 : wc.cell? ⟨gb101, 2, none⟩ = some (.int .i64 a0_2) := (blk_cell BK101.out 2).trans rfl
                            have hcz76_3 : wc.cell? ⟨gb101, 3, none⟩ = some (.string a0_3) := (blk_cell BK101.out 3).trans rfl
                            have hcz76_4 : wc.cell? ⟨gb101, 4, none⟩ = some (.string a0_4) := (blk_cell BK101.out 4).trans rfl
                            have hcz76_5 : wc.cell? ⟨gb101, 5, none⟩ = some (.slice A0_5 l0_5.length c0_5) := (blk_cell BK101.out 5).trans rfl
                            have hcz76_6 : wc.cell? ⟨gb101, 6, none⟩ = some (.slice A0_6 l0_6.length c0_6) := (blk_cell BK101.out 6).trans rfl
                            have hfz76_0 := blk_frozen BK101.out 0
                            have hfz76_1 := blk_frozen BK101.out 1
                            have hfz76_2 := blk_frozen BK101.out 2
                            have hfz76_3 := blk_frozen BK101.out 3
                            have hfz76_4 := blk_frozen BK101.out 4
                            have hfz76_5 := blk_frozen BK101.out 5
                            have hfz76_6 := blk_frozen BK101.out 6
                            go_wp2
                            repeat (go_quiet (fail); try go_wp2)
                            go_ret
                            exact ⟨by first | rfl | (simp [errW_none, errW_some] <;> rfl) | (simp [*, errW_none, errW_some] <;> rfl), by repeat (first | (with_reducible first | exact HB.out | apply below_alloc | apply pw_below_drewN | apply below_drew1 | refine below_set ?_ GE101.out) | exact HB.out)⟩
                          · rw [if_neg c75] at H
                            have c75b0 : ((l0_5.length : Int) == 0) = false := beq_eq_false_iff_ne.mpr c75
                            have c75b1 : ((l0_5.length : Int) != 0) = true := bne_iff_ne.mpr c75
                            have c75b2 : ¬ (l0_5 = []) := fun h_ => c75 (by rw [h_]; rfl)
                            obtain rfl := Option.some.inj H
                            have hcz77_0 : wc.cell? ⟨gb101, 0, none⟩ = some (.int .i64 a0_0) := (blk_cell BK101.out 0).trans rfl
                            have hcz77_1 : wc.cell? ⟨gb101, 1, none⟩ = some (.int .i64 a0_1) := (blk_cell BK101.out 1).trans rfl
                            have hcz77_2 : wc.cell? ⟨gb101, 2, none⟩ = some (.int .i64 a0_2) := (blk_cell BK101.out 2).trans rfl
                            have hcz77_3 : wc.cell? ⟨gb101, 3, none⟩ = some (.string a0_3) := (blk_cell BK101.out 3).trans rfl
                            have hcz77_4 : wc.cell? ⟨gb101, 4, none⟩ = some (.string a0_4) := (blk_cell BK101.out 4).trans rfl
                            have hcz77_5 : wc.cell? ⟨gb101, 5, none⟩ = some (.slice A0_5 l0_5.length c0_5) := (blk_cell BK101.out 5).trans rfl
                            have hcz77_6 : wc.cell? ⟨gb101, 6, none⟩ = some (.slice A0_6 l0_6.length c0_6) := (blk_cell BK101.out 6).trans rfl
                            have hfz77_0 := blk_frozen BK101.out 0
                            have hfz77_1 := blk_frozen BK101.out 1
                            have hfz77_2 := blk_frozen BK101.out 2
                            have hfz77_3 := blk_frozen BK101.out 3
                            have hfz77_4 := blk_frozen BK101.out 4
                            have hfz77_5 := blk_frozen BK101.out 5
                            have hfz77_6 := blk_frozen BK101.out 6
                            go_wp2
                            repeat (go_quiet (fail); try go_wp2)
                            go_ret
                            exact ⟨by first | rfl | (simp [errW_none, errW_some] <;> rfl) | (simp [*, errW_none, errW_some] <;> rfl), by repeat (first | (with_reducible first | exact HB.out | apply below_alloc | apply pw_below_drewN | apply below_drew1 | refine below_set ?_ GE101.out) | exact HB.out)⟩
                        · rw [if_neg c74] at H
                          have c74b0 : ((a0_4.size : Int) == 32) = false := beq_eq_false_iff_ne.mpr c74
                          have c74b1 : ((a0_4.size : Int) != 32) = true := bne_iff_ne.mpr c74
                          obtain rfl := Option.some.inj H
                          have hcz78_0 : wc.cell? ⟨gb101, 0, none⟩ = some (.int .i64 a0_0) := (blk_cell BK101.out 0).trans rfl
                          have hcz78_1 : wc.cell? ⟨gb101, 1, none⟩ = some (.int .i64 a0_1) := (blk_cell BK101.out 1).trans rfl
                          have hcz78_2 : wc.cell? ⟨gb101, 2, none⟩ = some (.int .i64 a0_2) := (blk_cell BK101.out 2).trans rfl
                          have hcz78_3 : wc.cell? ⟨gb101, 3, none⟩ = some (.string a0_3) := (blk_cell BK101.out 3).trans rfl
                          have hcz78_4 : wc.cell? ⟨gb101, 4, none⟩ = some (.string a0_4) := (blk_cell BK101.out 4).trans rfl
                          have hcz78_5 : wc.cell? ⟨gb101, 5, none⟩ = some (.slice A0_5 l0_5.length c0_5) := (blk_cell BK101.out 5).trans rfl
                          have hcz78_6 : wc.cell? ⟨gb101, 6, none⟩ = some (.slice A0_6 l0_6.length c0_6) := (blk_cell BK101.out 6).trans rfl
                          have hfz78_0 := blk_frozen BK101.out 0
                          have hfz78_1 := blk_frozen BK101.out 1
                          have hfz78_2 := blk_frozen BK101.out 2
                          have hfz78_3 := blk_frozen BK101.out 3
                          have hfz78_4 := blk_frozen BK101.out 4
                          have hfz78_5 := blk_frozen BK101.out 5
                          have hfz78_6 := blk_frozen BK101.out 6
                          go_wp2
                          repeat (go_quiet (fail); try go_wp2)
                          go_ret
                          exact ⟨by first | rfl | (simp [errW_none, errW_some] <;> rfl) | (simp [*, errW_none, errW_some] <;> rfl), by repeat (first | (with_reducible first | exact HB.out | apply below_alloc | apply pw_below_drewN | apply below_drew1 | refine below_set ?_ GE101.out) | exact HB.out)⟩
                      · rw [if_neg c73] at H
                        have c73b0 : (a0_3.toList == ([] : List UInt8)) = false := beq_eq_false_iff_ne.mpr c73
                        have c73b1 : (a0_3.toList != ([] : List UInt8)) = true := bne_iff_ne.mpr c73
                        obtain rfl := Option.some.inj H
                        have hcz79_0 : wc.cell? ⟨gb101, 0, none⟩ = some (.int .i64 a0_0) := (blk_cell BK101.out 0).trans rfl
                        have hcz79_1 : wc.cell? ⟨gb101, 1, none⟩ = some (.int .i64 a0_1) := (blk_cell BK101.out 1).trans rfl
                        have hcz79_2 : wc.cell? ⟨gb101, 2, none⟩ = some (.int .i64 a0_2) := (blk_cell BK101.out 2).trans rfl
                        have hcz79_3 : wc.cell? ⟨gb101, 3, none⟩ = some (.string a0_3) := (blk_cell BK101.out 3).trans rfl
                        have hcz79_4 : wc.cell? ⟨gb101, 4, none⟩ = some (.string a0_4) := (blk_cell BK101.out 4).trans rfl
                        have hcz79_5 : wc.cell? ⟨gb101, 5, none⟩ = some (.slice A0_5 l0_5.length c0_5) := (blk_cell BK101.out 5).trans rfl
                        have hcz79_6 : wc.cell? ⟨gb101, 6, none⟩ = some (.slice A0_6 l0_6.length c0_6) := (blk_cell BK101.out 6).trans rfl
                        have hfz79_0 := blk_frozen BK101.out 0
                        have hfz79_1 := blk_frozen BK101.out 1
                        have hfz79_2 := blk_frozen BK101.out 2
                        have hfz79_3 := blk_frozen BK101.out 3
                        have hfz79_4 := blk_frozen BK101.out 4
                        have hfz79_5 := blk_frozen BK101.out 5
                        have hfz79_6 := blk_frozen BK101.out 6
                        go_wp2
                        repeat (go_quiet (fail); try go_wp2)
                        go_ret
                        exact ⟨by first | rfl | (simp [errW_none, errW_some] <;> rfl) | (simp [*, errW_none, errW_some] <;> rfl), by repeat (first | (with_reducible first | exact HB.out | apply below_alloc | apply pw_below_drewN | apply below_drew1 | refine below_set ?_ GE101.out) | exact HB.out)⟩
                    · replace c72 := Bool.eq_false_iff.mpr c72
                      subst c72
                      have H1 : (some 110) = some r := by rw [if_neg (show ¬ (false = true) by decide)] at H; exact H
                      clear H
                      have H := H1
                      clear H1
                      obtain rfl := Option.some.inj H
                      have hcz80_0 : wc.cell? ⟨gb101, 0, none⟩ = some (.int .i64 a0_0) := (blk_cell BK101.out 0).trans rfl
                      have hcz80_1 : wc.cell? ⟨gb101, 1, none⟩ = some (.int .i64 a0_1) := (blk_cell BK101.out 1).trans rfl
                      have hcz80_2 : wc.cell? ⟨gb101, 2, none⟩ = some (.int .i64 a0_2) := (blk_cell BK101.out 2).trans rfl
                      have hcz80_3 : wc.cell? ⟨gb101, 3, none⟩ = some (.string a0_3) := (blk_cell BK101.out 3).trans rfl
                      have hcz80_4 : wc.cell? ⟨gb101, 4, none⟩ = some (.string a0_4) := (blk_cell BK101.out 4).trans rfl
                      have hcz80_5 : wc.cell? ⟨gb101, 5, none⟩ = some (.slice A0_5 l0_5.length c0_5) := (blk_cell BK101.out 5).trans rfl
                      have hcz80_6 : wc.cell? ⟨gb101, 6, none⟩ = some (.slice A0_6 l0_6.length c0_6) := (blk_cell BK101.out 6).trans rfl
                      have hfz80_0 := blk_frozen BK101.out 0
                      have hfz80_1 := blk_frozen BK101.out 1
                      have hfz80_2 := blk_frozen BK101.out 2
                      have hfz80_3 := blk_frozen BK101.out 3
                      have hfz80_4 := blk_frozen BK101.out 4
                      have hfz80_5 := blk_frozen BK101.out 5
                      have hfz80_6 := blk_frozen BK101.out 6
                      go_wp2
                      repeat (go_quiet (fail); try go_wp2)
                      go_ret
                      exact ⟨by first | rfl | (simp [errW_none, errW_some] <;> rfl) | (simp [*, errW_none, errW_some] <;> rfl), by repeat (first | (with_reducible first | exact HB.out | apply below_alloc | apply pw_below_drewN | apply below_drew1 | refine below_set ?_ GE101.out) | exact HB.out)⟩
                · rw [if_neg c58] at H
                  have c58b0 : (a0_0 == 4) = false := beq_eq_false_iff_ne.mpr c58
                  have c58b1 : (a0_0 != 4) = true := bne_iff_ne.mpr c58
                  obtain rfl := Option.some.inj H
                  have hcz81_0 : wc.cell? ⟨gb101, 0, none⟩ = some (.int .i64 a0_0) := (blk_cell BK101.out 0).trans rfl
                  have hcz81_1 : wc.cell? ⟨gb101, 1, none⟩ = some (.int .i64 a0_1) := (blk_cell BK101.out 1).trans rfl
                  have hcz81_2 : wc.cell? ⟨gb101, 2, none⟩ = some (.int .i64 a0_2) := (blk_cell BK101.out 2).trans rfl
                  have hcz81_3 : wc.cell? ⟨gb101, 3, none⟩ = some (.string a0_3) := (blk_cell BK101.out 3).trans rfl
                  have hcz81_4 : wc.cell? ⟨gb101, 4, none⟩ = some (.string a0_4) := (blk_cell BK101.out 4).trans rfl
                  have hcz81_5 : wc.cell? ⟨gb101, 5, none⟩ = some (.slice A0_5 l0_5.length c0_5) := (blk_cell BK101.out 5).trans rfl
                  have hcz81_6 : wc.cell? ⟨gb101, 6, none⟩ = some (.slice A0_6 l0_6.length c0_6) := (blk_cell BK101.out 6).trans rfl
                  have hfz81_0 := blk_frozen BK101.out 0
                  have hfz81_1 := blk_frozen BK101.out 1
                  have hfz81_2 := blk_frozen BK101.out 2
                  have hfz81_3 := blk_frozen BK101.out 3
                  have hfz81_4 := blk_frozen BK101.out 4
                  have hfz81_5 := blk_frozen BK101.out 5
                  have hfz81_6 := blk_frozen BK101.out 6
                  go_wp2
                  repeat (go_quiet (fail); try go_wp2)
                  go_ret
                  exact ⟨by first | rfl | (simp [errW_none, errW_some] <;> rfl) | (simp [*, errW_none, errW_some] <;> rfl), by repeat (first | (with_reducible first | exact HB.out | apply below_alloc | apply pw_below_drewN | apply below_drew1 | refine below_set ?_ GE101.out) | exact HB.out)⟩

end Go.Proofs.YtjmgkjjcdnaapaaDoor.PMailA
namespace Go.Proofs.YtjmgkjjcdnaapaaDoor.PMailA
open Go.RowKit Go.Proofs.YtjmgkjjcdnaapaaDoorW.PrintWords Go.Proofs.YtjmgkjjcdnaapaaDoorW.PrintLast Go.Proofs.YtjmgkjjcdnaapaaDoorW.PrintMore
attribute [local go_sem] max2_int min2_int max_two min_two max_three min_three max_four min_four   -- for this text's walks alone
set_option linter.unusedVariables false
set_option linter.unusedSimpArgs false

-- mail_join: by a contract of this session

-- strings_Repeat: by a contract of this session

/-! ### mail_pad: function 40 -/
def mail_pad.f (a0 : ByteArray) (a1 : Int) : Option (ByteArray) := (strings_Repeat.f (⟨#[0]⟩ : ByteArray) (wrap64 (a1 - (a0.size : Int)))).bind fun t104 => (if a0.size + t104.size ≤ 9223372036854775807 then (some (a0 ++ t104)) else (none))
set_option maxHeartbeats 8000000 in
set_option maxRecDepth 100000 in
theorem mail_pad.calls (a0 : ByteArray) (a1 : Int) (r : ByteArray) (w : World) (h : mail_pad.f a0 a1 = some r) :
    Calls Tryd.prog 40 #[.string a0, .int .i64 a1] w fun e w' => e = .returned (.string r) ∧ Below w.heap.size w w' := by
  have HB := Aside0.mk (Below.refl w.heap.size w)
  have H : ((strings_Repeat.f (⟨#[0]⟩ : ByteArray) (wrap64 (a1 - (a0.size : Int)))).bind fun t104 => (if a0.size + t104.size ≤ 9223372036854775807 then (some (a0 ++ t104)) else (none))) = some r := h
  clear h
  replace H := Option.bind_eq_some_iff.mp H
  obtain ⟨t104, A30, H⟩ := H
  replace H : (if a0.size + t104.size ≤ 9223372036854775807 then (some (a0 ++ t104)) else (none)) = some r := H
  have A3 := Aside0.mk A30
  clear A30
  by_cases c4 : a0.size + t104.size ≤ 9223372036854775807
  · rw [if_pos c4] at H
    have c4b0 := eq_true c4
    have c4b1 : decide (a0.size + t104.size ≤ 9223372036854775807) = true := decide_eq_true c4
    try have c4b2 : (9223372036854775807 < a0.size + t104.size) = False := eq_false (Nat.not_lt.2 c4)
    obtain rfl := Option.some.inj H
    go_enter Tryd.func40, Tryd.ntmps40
    go_wp2_with (first | ((with_reducible refine gate_callee (f := 45) rfl ?_); refine goesL_ (some 10) rfl rfl Tryd.func45 (by kernel_rfl) rfl #[.string (⟨#[0]⟩ : ByteArray), .int .i64 (wrap64 (a1 - (a0.size : Int)))] rfl (by (try simp only [List.map_toArray, List.map_cons, List.map_nil]); first | done | rfl | (simp only [List.length_drop, List.length_take]; rfl)) ?_; (with_reducible refine (strings_Repeat.calls (⟨#[0]⟩ : ByteArray) (wrap64 (a1 - (a0.size : Int))) t104 _ A3.out).mono ?_); rintro e w5 ⟨rfl, hb⟩; refine ⟨_, rfl, ?_⟩; have n0_ := Aside0.mk (below_step (by repeat (first | (with_reducible first | exact HB.out | apply below_alloc | apply pw_below_drewN | apply below_drew1) | exact HB.out)) hb); clear HB; have HB := n0_; clear n0_; (try clear hb); (try clear hb2); (try clear hk); (try clear hi)))
    go_ret
    exact ⟨by first | rfl | (simp [errW_none, errW_some] <;> rfl) | (simp [*, errW_none, errW_some] <;> rfl), by repeat (first | (with_reducible first | exact HB.out | apply below_alloc | apply pw_below_drewN | apply below_drew1) | exact HB.out)⟩
  · rw [if_neg c4] at H
    exact absurd H (by simp)

/-! ### mail_Long: function 41 -/
def mail_Long.f (a0 : Int) : Option (Int) := if a0 = 1 then (some 505) else (if a0 = 2 then (some 38) else (if a0 = 3 then (some 962) else (if a0 = 4 then (some 102) else (some 0))))
set_option maxHeartbeats 8000000 in
set_option maxRecDepth 100000 in
theorem mail_Long.calls (a0 : Int) (r : Int) (w : World) (h : mail_Long.f a0 = some r) :
    Calls Tryd.prog 41 #[.int .i64 a0] w fun e w' => e = .returned (.int .i64 r) ∧ Drawn0 w w' := by
  have H : (if a0 = 1 then (some 505) else (if a0 = 2 then (some 38) else (if a0 = 3 then (some 962) else (if a0 = 4 then (some 102) else (some 0))))) = some r := h
  clear h
  by_cases c2 : a0 = 1
  · rw [if_pos c2] at H
    have c2b0 : (a0 == 1) = true := beq_iff_eq.mpr c2
    have c2b1 : (a0 != 1) = false := bne_eq_false_iff_eq.mpr c2
    clear c2
    obtain rfl := Option.some.inj H
    go_enter Tryd.func41, Tryd.ntmps41
    go_wp2
    go_ret
    exact ⟨by first | rfl | (simp; done) | (simp [*]; done), by repeat (first | exact Drawn0.refl _ | apply Drawn0.step)⟩
  · rw [if_neg c2] at H
    have c2b0 : (a0 == 1) = false := beq_eq_false_iff_ne.mpr c2
    have c2b1 : (a0 != 1) = true := bne_iff_ne.mpr c2
    by_cases c3 : a0 = 2
    · rw [if_pos c3] at H
      have c3b0 : (a0 == 2) = true := beq_iff_eq.mpr c3
      have c3b1 : (a0 != 2) = false := bne_eq_false_iff_eq.mpr c3
      clear c3
      obtain rfl := Option.some.inj H
      go_enter Tryd.func41, Tryd.ntmps41
      go_wp2
      go_ret
      exact ⟨by first | rfl | (simp; done) | (simp [*]; done), by repeat (first | exact Drawn0.refl _ | apply Drawn0.step)⟩
    · rw [if_neg c3] at H
      have c3b0 : (a0 == 2) = false := beq_eq_false_iff_ne.mpr c3
      have c3b1 : (a0 != 2) = true := bne_iff_ne.mpr c3
      by_cases c4 : a0 = 3
      · rw [if_pos c4] at H
        have c4b0 : (a0 == 3) = true := beq_iff_eq.mpr c4
        have c4b1 : (a0 != 3) = false := bne_eq_false_iff_eq.mpr c4
        clear c4
        obtain rfl := Option.some.inj H
        go_enter Tryd.func41, Tryd.ntmps41
        go_wp2
        go_ret
        exact ⟨by first | rfl | (simp; done) | (simp [*]; done), by repeat (first | exact Drawn0.refl _ | apply Drawn0.step)⟩
      · rw [if_neg c4] at H
        have c4b0 : (a0 == 3) = false := beq_eq_false_iff_ne.mpr c4
        have c4b1 : (a0 != 3) = true := bne_iff_ne.mpr c4
        by_cases c5 : a0 = 4
        · rw [if_pos c5] at H
          have c5b0 : (a0 == 4) = true := beq_iff_eq.mpr c5
          have c5b1 : (a0 != 4) = false := bne_eq_false_iff_eq.mpr c5
          clear c5
          obtain rfl := Option.some.inj H
          go_enter Tryd.func41, Tryd.ntmps41
          go_wp2
          go_ret
          exact ⟨by first | rfl | (simp; done) | (simp [*]; done), by repeat (first | exact Drawn0.refl _ | apply Drawn0.step)⟩
        · rw [if_neg c5] at H
          have c5b0 : (a0 == 4) = false := beq_eq_false_iff_ne.mpr c5
          have c5b1 : (a0 != 4) = true := bne_iff_ne.mpr c5
          obtain rfl := Option.some.inj H
          go_enter Tryd.func41, Tryd.ntmps41
          go_wp2
          go_ret
          exact ⟨by first | rfl | (simp; done) | (simp [*]; done), by repeat (first | exact Drawn0.refl _ | apply Drawn0.step)⟩

end Go.Proofs.YtjmgkjjcdnaapaaDoor.PMailA

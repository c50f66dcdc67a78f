/- The reference's slots in the print's own form. -/
import Derived.Test.YtidilhnjfdkmpaaExt11
import Derived.Test.YtidilhnjfdkmpaaOwn
namespace Go.Proofs.Ytidilhnjfdkmpaa
open Go.RowKit Go.Proofs.YtidilhnjfdkmpaaW.PrintWords Go.Proofs.YtidilhnjfdkmpaaW.PrintLast
set_option linter.unusedSimpArgs false
set_option linter.unusedVariables false
theorem elemU8 : Elem Try.prog 39 5 (.int .u8 0) 1 := ⟨Try.underlying39, by kernel_rfl, by rfl⟩
set_option maxHeartbeats 400000 in
theorem refId_any (a : ByteArray) (w : World) : Calls Try.prog 38 #[.string a] w fun e w' => e = .returned (.bool (idB a)) ∧ Below w.heap.size w w' := by
  by_cases h : a.size = 16
  · have e1 : ((a.size : Int) == 16) = true := by simp; omega
    have e2 := Lib.hid (show idB a = (a.toList != noIdL) by unfold idB; rw [h]; rfl)
    obtain ⟨w2, hmk0, hown, hgr⟩ := own_make (B := w.heap.size) (t := 39) elemU8 w .i64 .i64 16 (by omega) (by omega) (Nat.le_refl _)
    have hmk : (Instr.makeSlice 39 (.int .i64 16) (.int .i64 16)).run Try.prog w = .ok (.slice (some ⟨w.heap.size, 0, none⟩) 16 16) w2 := hmk0
    have hown2 : Own 5 w2 w.heap.size (.slice (some ⟨w.heap.size, 0, none⟩) 16 16) (cb noIdL) := hown
    have hcv0 := my_own_string (P := Try.prog) (t := 39) (e := 5) (d := 9) Try.underlying39 Try.underlying5 Try.underlying9 hown2
    have hcv : (convert 39 9 (.slice (some ⟨w.heap.size, 0, none⟩) 16 16)).run Try.prog w2 = .ok (.string ⟨#[0, 0, 0, 0, 0, 0, 0, 0, 0, 0, 0, 0, 0, 0, 0, 0]⟩) w2 := hcv0
    have HG := Lib.hid (show Below w.heap.size w w2 from (Below.refl _ _).grown hgr (Nat.le_refl _) (fun k hk => by cases hk))
    clear h hmk0 hown hown2 hcv0 hgr
    go_enter Try.func38, Try.ntmps38
    go_wp2_with fail
    go_ret
    exact ⟨by rw [e2.out]; rfl, HG.out⟩
  · have e1 : ((a.size : Int) == 16) = false := by simp; omega
    have e2 := Lib.hid (show idB a = false by unfold idB; rw [show (a.size == 16) = false by simpa using h]; rfl)
    clear h
    go_enter Try.func38, Try.ntmps38
    go_wp2_with fail
    go_ret
    exact ⟨by rw [e2.out]; rfl, Below.refl _ _⟩
/-- p: is the one ahead nothing? -/
def slotsOk : Bool → List S43 → Bool
  | _, [] => true
  | p, a :: l => (!someB a || (entryB a && !p)) && slotsOk (!someB a) l
def prevN (l : List S43) : Nat → Bool
  | 0 => false
  | k + 1 => !someB (l.getD k z43)
theorem prevN_succ (l : List S43) (k : Nat) (a : S43) (h : l[k]? = some a) : prevN l (k + 1) = !someB a := by
  show (!someB (l.getD k z43)) = _
  rw [List.getD_eq_getElem?_getD, h]; rfl
theorem slotsOk_step (l : List S43) (k : Nat) (a : S43) (h : l[k]? = some a) : slotsOk (prevN l k) (l.drop k) = ((!someB a || (entryB a && !prevN l k)) && slotsOk (prevN l (k + 1)) (l.drop (k + 1))) := by
  have hk : k < l.length := (List.getElem?_eq_some_iff.1 h).1
  have ha : l[k] = a := (List.getElem?_eq_some_iff.1 h).2
  rw [List.drop_eq_getElem_cons hk, ha, slotsOk]
  rw [prevN_succ l k a h]
theorem someB_no {a : S43} (h : someB a = false) : a.f0.toList = [] ∧ a.f1.toList = [] := by
  unfold someB at h
  simpa using h
theorem someB_yes {a : S43} (h : someB a = true) : ¬ a.f0.toList = [] ∨ a.f0.toList = [] ∧ ¬ a.f1.toList = [] := by
  unfold someB at h
  by_cases h0 : a.f0.toList = []
  · right
    refine ⟨h0, fun h1 => ?_⟩
    rw [h0, h1] at h
    cases h
  · exact Or.inl h0
set_option maxHeartbeats 3200000 in
theorem refSlots_any (A0 : Option Addr) (c0 : Nat) (l0 : List S43) (w : World) (hr0 : Kd.C k43 w A0 l0.length l0) (hc0 : l0.length ≤ c0) :
    Calls Try.prog 23 #[.slice A0 l0.length c0] w fun e w' => e = .returned (.bool ((l0.length == 4) && slotsOk false l0)) ∧ Below w.heap.size w w' := by
  have hl := hr0.2.1
  have HR := Lib.hid hr0
  clear hr0
  by_cases h4 : l0.length = 4
  · have e4 : ((l0.length : Int) != 4) = false := by rw [h4]; rfl
    have E4 := Lib.hid (show (l0.length == 4) = true by simpa using h4)
    have E5 := Lib.hid h4
    clear h4
    go_enter Try.func23, Try.ntmps23
    go_wp2_with fail
    go_loopw [3] (fun v wr => ∃ k : Nat, k ≤ l0.length ∧ v = .int .i64 k ∧ Hid (slotsOk false l0 = slotsOk (prevN l0 k) (l0.drop k)) ∧ Below w.heap.size w wr) (fun v _ => l0.length - (intOf v).toNat)
    case atStart => exact ⟨0, by omega, rfl, Lib.hid (by rw [List.drop_zero]; rfl), Below.refl _ _⟩
    case round =>
      obtain ⟨k, hk, rfl, H0, hb0⟩ := hrel
      have HB := Lib.hid hb0
      clear hb0
      by_cases hlt : k < l0.length
      · obtain ⟨b, o, rfl, hb, hc⟩ := slots_at HR.out (by omega)
        have hget := List.getElem?_eq_getElem hlt
        obtain ⟨a, ha⟩ : ∃ a, a = l0[k] := ⟨_, rfl⟩
        rw [← ha] at hget
        have HS := Lib.hid (H0.out.trans (slotsOk_step l0 k a hget))
        have c1 := (HB.out.cell (p := ⟨b, o + k * 2, none⟩) hb).trans (hc k a hget).1
        have c2 := (HB.out.cell (p := ⟨b, o + k * 2 + 1, none⟩) hb).trans (hc k a hget).2
        have e1 : 0 ≤ (k : Int) ∧ (k : Int) < (l0.length : Int) := by omega
        cases hs : someB a with
        | false =>
          obtain ⟨f0, f1⟩ := someB_no hs
          have H1 := Lib.hid (show slotsOk false l0 = slotsOk (prevN l0 (k + 1)) (l0.drop (k + 1)) by rw [HS.out, hs]; rfl)
          clear hc hget ha hs HS H0
          go_wp2_with fail
          go_roundw
          case rel => exact ⟨k + 1, by omega, by go_num, H1, HB.out⟩
          case measure => simp [intOf]; omega
        | true =>
          have HS2 := Lib.hid (show slotsOk false l0 = ((entryB a && !prevN l0 k) && slotsOk (prevN l0 (k + 1)) (l0.drop (k + 1))) by rw [HS.out, hs]; rfl)
          have HC := Lib.hid hc
          rcases someB_yes hs with f0 | ⟨f0, f1⟩
          all_goals
            clear hc hget ha hs HS H0
            go_wp2_with fail
            refine (refId_any a.f0 wr).mono ?_
            rintro e w1 ⟨rfl, hb2⟩
            have HB2 := Lib.hid (HB.out.trans (hb2.mono HB.out.size))
            have c3 := (hb2.cell (p := ⟨b, o + k * 2 + 1, none⟩) (World.block_lt_of_cell? wr _ c2)).trans c2
            clear hb2 c1 c2
            cases hi : idB a.f0 with
            | false =>
              have HF := Lib.hid (show slotsOk false l0 = false by rw [HS2.out]; unfold entryB; rw [hi]; rfl)
              clear hi
              go_wp2_with fail
              go_ret
              exact ⟨by rw [E4.out, HF.out]; rfl, HB2.out⟩
            | true =>
              by_cases hz : (222 : Int) < (a.f1.size : Int)
              · have HF := Lib.hid (show slotsOk false l0 = false by rw [HS2.out]; unfold entryB; rw [show decide (a.f1.size ≤ 222) = false by simp; omega, Bool.and_false]; rfl)
                have d1 : decide ((222 : Int) < (a.f1.size : Int)) = true := by simp; omega
                clear hi hz
                go_wp2_with fail
                go_ret
                exact ⟨by rw [E4.out, HF.out]; rfl, HB2.out⟩
              · have HS3 := Lib.hid (show slotsOk false l0 = ((!prevN l0 k) && slotsOk (prevN l0 (k + 1)) (l0.drop (k + 1))) by rw [HS2.out]; unfold entryB; rw [hi, show decide (a.f1.size ≤ 222) = true by simp; omega]; rfl)
                have d1 : decide ((222 : Int) < (a.f1.size : Int)) = false := by simp; omega
                have d2 : (a.f1.size : Int) ≤ 222 := by omega
                clear hi hz
                rcases Nat.eq_zero_or_pos k with hk0 | hk0
                · subst hk0
                  have H1 := Lib.hid (show slotsOk false l0 = slotsOk (prevN l0 (0 + 1)) (l0.drop (0 + 1)) by rw [HS3.out]; rfl)
                  go_wp2_with fail
                  go_roundw
                  case rel => exact ⟨0 + 1, by omega, by go_num, H1, HB2.out⟩
                  case measure => simp [intOf]; omega
                · obtain ⟨j, rfl⟩ : ∃ j, k = j + 1 := ⟨k - 1, by omega⟩
                  have hj : j < l0.length := by omega
                  obtain ⟨p, hp⟩ : ∃ p, p = l0[j] := ⟨_, rfl⟩
                  have hgp : l0[j]? = some p := by rw [hp]; exact List.getElem?_eq_getElem hj
                  have p1 := (HB2.out.cell (p := ⟨b, o + j * 2, none⟩) hb).trans (HC.out j p hgp).1
                  have p2 := (HB2.out.cell (p := ⟨b, o + j * 2 + 1, none⟩) hb).trans (HC.out j p hgp).2
                  have hpn := prevN_succ l0 j p hgp
                  have q1 : (0 : Int) < ((j + 1 : Nat) : Int) := by omega
                  have q2 : ((j + 1 : Nat) : Int) - 1 = (j : Int) := by omega
                  have q3 : (j : Int) < (l0.length : Int) := by omega
                  cases hq : someB p with
                  | false =>
                    obtain ⟨g0, g1⟩ := someB_no hq
                    have HF := Lib.hid (show slotsOk false l0 = false by rw [HS3.out, hpn, hq]; rfl)
                    clear hgp hp hpn hq
                    go_wp2_with fail
                    go_ret
                    exact ⟨by rw [E4.out, HF.out]; rfl, HB2.out⟩
                  | true =>
                    have H1 := Lib.hid (show slotsOk false l0 = slotsOk (prevN l0 (j + 1 + 1)) (l0.drop (j + 1 + 1)) by rw [HS3.out, hpn, hq]; rfl)
                    rcases someB_yes hq with g0 | ⟨g0, g1⟩
                    all_goals
                      clear hgp hp hpn hq
                      go_wp2_with fail
                      go_roundw
                      case rel => exact ⟨j + 1 + 1, by omega, by go_num, H1, HB2.out⟩
                      case measure => simp [intOf]; omega
      · obtain rfl : k = l0.length := by omega
        have HF := Lib.hid (show slotsOk false l0 = true by rw [H0.out, List.drop_length]; rfl)
        go_wp2_with fail
        go_ret
        exact ⟨by rw [E4.out, HF.out]; rfl, HB.out⟩
  · have e4 : ((l0.length : Int) != 4) = true := by rw [bne_iff_ne]; omega
    have E4 := Lib.hid (show (l0.length == 4) = false by simpa using h4)
    clear h4
    go_enter Try.func23, Try.ntmps23
    go_wp2_with fail
    go_ret
    exact ⟨by rw [E4.out]; rfl, Below.refl _ _⟩
def dovecoteref11_slots.f (l : List S43) : Option Bool := some ((l.length == 4) && slotsOk false l)
theorem dovecoteref11_slots.calls (A0 : Option Addr) (c0 : Nat) (l0 : List S43) (r : Bool) (w : World) (hr0 : Kd.C k43 w A0 l0.length l0) (hc0 : l0.length ≤ c0) (h : dovecoteref11_slots.f l0 = some r) :
    Calls Try.prog 23 #[.slice A0 l0.length c0] w fun e w' => e = .returned (.bool r) ∧ Below w.heap.size w w' := by
  simp only [dovecoteref11_slots.f, Option.some.injEq] at h
  subst h
  exact refSlots_any A0 c0 l0 w hr0 hc0
end Go.Proofs.Ytidilhnjfdkmpaa

/- The law MailLong, plainly. -/
import Derived.Test.YtidilhnjfdkmpaaL11a
import Derived.Test.YtidilhnjfdkmpaaPMailLx
namespace Go.Proofs.Ytidilhnjfdkmpaa
open Go.RowKit Go.Proofs.Ytidilhnjfdkmpaa.PMailA Go.Proofs.Ytidilhnjfdkmpaa.PMailL Go.Proofs.YtidilhnjfdkmpaaW.PrintWords Go.Proofs.YtidilhnjfdkmpaaW.PrintLast
set_option linter.unusedSimpArgs false
set_option linter.unusedVariables false
set_option maxRecDepth 100000 in
theorem works11_ev : Ev (fun k => dovecotelaw11_works.f k) true := Ev.of (fun k => dovecotelaw11_works.mono k) (k := 40) (by decide +kernel)
theorem MailLong_ev (a0 a1 a2 : Int) (a3 a4 : ByteArray) (a5 : List S43) (a6 : List ByteArray) (b0 b1 b2 : Int) (b3 b4 : ByteArray) (b5 : List S43) (b6 : List ByteArray) :
    Ev (fun k => dovecotelaw11_MailLong.f k a0 a1 a2 a3 a4 a5 a6 b0 b1 b2 b3 b4 b5 b6) true := by
  unfold dovecotelaw11_MailLong.f
  refine Ev.bind works11_ev ?_
  rcases enc_any a0 a1 a2 a3 a4 a5 a6 with ⟨ha, ga⟩ | ha
  · rcases enc_any b0 b1 b2 b3 b4 b5 b6 with ⟨hb, gb⟩ | hb
    · refine Ev.congr (fun k => if_pos rfl) (Ev.bind ha (Ev.bind hb ?_))
      refine Ev.congr (f := fun _ => some true) (fun k => ?_) (Ev.now _)
      rw [if_pos rfl, if_pos rfl]
      by_cases h : a0 = b0
      · rw [if_pos h]
        subst h
        have e2 : some ((encL a0 a1 a2 a3 a4 a5 a6).length : Int) = some ((encL a0 b1 b2 b3 b4 b5 b6).length : Int) := ga.long.symm.trans gb.long
        injection e2 with e2
        rw [tx_size, tx_size, e2]
        simp
      · rw [if_neg h]
    · refine Ev.congr (fun k => if_pos rfl) (Ev.bind ha (Ev.bind hb ?_))
      refine Ev.congr (f := fun _ => some true) (fun k => ?_) (Ev.now _)
      rw [if_pos rfl, if_neg (by decide)]
  · obtain ⟨r, hb⟩ : ∃ r, Ev (fun k => mail_Encode.f k b0 b1 b2 b3 b4 b5 b6) r := by
      rcases enc_any b0 b1 b2 b3 b4 b5 b6 with ⟨hb, _⟩ | hb
      · exact ⟨_, hb⟩
      · exact ⟨_, hb⟩
    refine Ev.congr (fun k => if_pos rfl) (Ev.bind ha (Ev.bind hb ?_))
    refine Ev.congr (f := fun _ => some true) (fun k => ?_) (Ev.now _)
    rw [if_neg (by decide)]
theorem law_MailLong (a0 a1 a2 : Int) (a3 a4 : ByteArray) (A5 : Option Addr) (c5 : Nat) (l5 : List S43) (A6 : Option Addr) (c6 : Nat) (l6 : List ByteArray) (b0 b1 b2 : Int) (b3 b4 : ByteArray) (B5 : Option Addr) (d5 : Nat) (m5 : List S43) (B6 : Option Addr) (d6 : Nat) (m6 : List ByteArray) (W : World)
    (hA : Kd.C k43 W A5 l5.length l5) (hB : l5.length ≤ c5) (hC : Kd.C Kd.string W A6 l6.length l6) (hD : l6.length ≤ c6) (gA : Kd.C k43 W B5 m5.length m5) (gB : m5.length ≤ d5) (gC : Kd.C Kd.string W B6 m6.length m6) (gD : m6.length ≤ d6) :
    Calls Try.prog 6 #[.agg #[.int .i64 a0, .int .i64 a1, .int .i64 a2, .string a3, .string a4, .slice A5 l5.length c5, .slice A6 l6.length c6], .agg #[.int .i64 b0, .int .i64 b1, .int .i64 b2, .string b3, .string b4, .slice B5 m5.length d5, .slice B6 m6.length d6]] W fun e W' => e = .returned (.bool true) ∧ Below W.heap.size W W' := by
  obtain ⟨k, hk⟩ := (MailLong_ev a0 a1 a2 a3 a4 l5 l6 b0 b1 b2 b3 b4 m5 m6).rounds
  exact dovecotelaw11_MailLong.calls k a0 a1 a2 a3 a4 A5 c5 l5 A6 c6 l6 b0 b1 b2 b3 b4 B5 d5 m5 B6 d6 m6 true W hA hB hC hD gA gB gC gD hk
end Go.Proofs.Ytidilhnjfdkmpaa

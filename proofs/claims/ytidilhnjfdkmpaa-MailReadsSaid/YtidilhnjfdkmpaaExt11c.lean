/- mail.Decode in the print's own form. -/
import Derived.Test.YtidilhnjfdkmpaaMailF
namespace Go.Proofs.Ytidilhnjfdkmpaa
open Go.RowKit Go.Proofs.Ytidilhnjfdkmpaa.PMailA Go.Proofs.YtidilhnjfdkmpaaW.PrintWords Go.Proofs.YtidilhnjfdkmpaaW.PrintLast
set_option linter.unusedSimpArgs false
set_option linter.unusedVariables false
abbrev DecR : Type := Int × Int × Int × ByteArray × ByteArray × (List (S43)) × List ByteArray × Int
def zeroR : DecR := (0, 0, 0, (⟨#[]⟩ : ByteArray), (⟨#[]⟩ : ByteArray), [], [], 110)
def decTail (k : Nat) (a0 : ByteArray) (kd : Int) (tag : ByteArray) (ls : List S43) (li : List ByteArray) : Option DecR :=
  (mail_Encode.f k kd (uL a0.data.toList) (qL a0.data.toList) ⟨#[]⟩ tag ls li).bind fun x =>
    if x.2 = 0 ∧ x.1.toList = a0.toList then some (kd, uL a0.data.toList, qL a0.data.toList, ⟨#[]⟩, tag, ls, li, 0) else some zeroR
def decKind (k : Nat) (a0 : ByteArray) (kd : Int) : Option DecR :=
  if kd = 1 then some (kd, 0, 0, tx (a0.data.toList.drop 1), ⟨#[]⟩, [], [], 0)
  else if kd = 3 then decTail k a0 kd ⟨#[]⟩ (dSlots 4 (r3L a0.data.toList) []) []
  else if kd = 4 then decTail k a0 kd (tx ((r3L a0.data.toList).take 32)) [] (dIds 4 ((r3L a0.data.toList).drop 32) [])
  else decTail k a0 kd (tx ((r3L a0.data.toList).take 32)) [] (dIds 0 ((r3L a0.data.toList).drop 32) [])
def mail_Decode.f (k : Nat) (a0 : ByteArray) : Option (Int × Int × Int × ByteArray × ByteArray × (List (S43)) × List ByteArray × Int) :=
  if a0.size = 0 then some zeroR
  else (mail_Long.f (wrap64 (bt a0 0))).bind fun n => if (a0.size : Int) = n then decKind k a0 (wrap64 (bt a0 0)) else some zeroR
theorem decTail_mono (a0 : ByteArray) (kd : Int) (tag : ByteArray) (ls : List S43) (li : List ByteArray) (k : Nat) : LeO (decTail k a0 kd tag ls li) (decTail (k + 1) a0 kd tag ls li) := by
  intro r h
  unfold decTail at h ⊢
  obtain ⟨x, hx, h⟩ := Option.bind_eq_some_iff.mp h
  rw [mail_Encode.mono _ _ _ _ _ _ _ k x hx]
  exact h
theorem mail_Decode.mono : ∀ a0 k, LeO (mail_Decode.f k a0) (mail_Decode.f (k + 1) a0) := by
  intro a0 k r h
  unfold mail_Decode.f at h ⊢
  split at h
  · rename_i h0; rw [if_pos h0]; exact h
  · rename_i h0
    rw [if_neg h0]
    obtain ⟨n, hn, h⟩ := Option.bind_eq_some_iff.mp h
    rw [hn]
    show (if (a0.size : Int) = n then _ else _) = _
    split at h
    · rename_i h1
      rw [if_pos h1]
      unfold decKind at h ⊢
      split at h
      · rename_i h2; rw [if_pos h2]; exact h
      · rename_i h2
        rw [if_neg h2]
        split at h
        · rename_i h3; rw [if_pos h3]; exact decTail_mono _ _ _ _ _ k _ h
        · rename_i h3
          rw [if_neg h3]
          split at h
          · rename_i h4; rw [if_pos h4]; exact decTail_mono _ _ _ _ _ k _ h
          · rename_i h4; rw [if_neg h4]; exact decTail_mono _ _ _ _ _ k _ h
    · rename_i h1; rw [if_neg h1]; exact h
theorem long_cases {kd n : Int} (h : mail_Long.f kd = some n) (hn : 0 < n) : (kd = 1 ∧ n = 505) ∨ (kd = 2 ∧ n = 38) ∨ (kd = 3 ∧ n = 962) ∨ (kd = 4 ∧ n = 102) := by
  unfold mail_Long.f at h
  repeat' split at h
  all_goals (simp only [Option.some.injEq] at h; subst h; simp_all)
theorem decTail_some {k : Nat} {a0 : ByteArray} {kd : Int} {tag : ByteArray} {ls : List S43} {li : List ByteArray} {r : DecR} (h : decTail k a0 kd tag ls li = some r) :
    ∃ t e0, mail_Encode.f k kd (uL a0.data.toList) (qL a0.data.toList) ⟨#[]⟩ tag ls li = some (t, e0) ∧
      ((e0 = 0 ∧ t.toList = a0.toList) ∧ r = (kd, uL a0.data.toList, qL a0.data.toList, ⟨#[]⟩, tag, ls, li, 0) ∨ ¬ (e0 = 0 ∧ t.toList = a0.toList) ∧ r = zeroR) := by
  unfold decTail at h
  obtain ⟨⟨t, e0⟩, hx, h⟩ := Option.bind_eq_some_iff.mp h
  refine ⟨t, e0, hx, ?_⟩
  by_cases hc : e0 = 0 ∧ t.toList = a0.toList
  · rw [if_pos hc] at h; exact Or.inl ⟨hc, (Option.some.inj h).symm⟩
  · rw [if_neg hc] at h; exact Or.inr ⟨hc, (Option.some.inj h).symm⟩
theorem mail_Decode.calls (k : Nat) (a0 : ByteArray) (r1 : Int) (r2 : Int) (r3 : Int) (r4 : ByteArray) (r5 : ByteArray) (r6 : List (S43)) (r7 : List ByteArray) (r8 : Int) (w : World) (h : mail_Decode.f k a0 = some (r1, r2, r3, r4, r5, r6, r7, r8)) :
    Calls Try.prog 16 #[.string a0] w fun e w' => ∃ v5_ v6_ : Value, e = .returned (.tuple #[.agg #[.int .i64 r1, .int .i64 r2, .int .i64 r3, .string r4, .string r5, v5_, v6_], .int .i64 r8]) ∧ Kd.R k43 43 w' w.heap.size (fun _ => True) v5_ r6 ∧ Kd.R Kd.string 9 w' w.heap.size (fun _ => True) v6_ r7 ∧ Below w.heap.size w w' := by
  unfold mail_Decode.f at h
  split at h
  · rename_i h0
    simp only [zeroR, Option.some.injEq, Prod.mk.injEq] at h
    obtain ⟨rfl, rfl, rfl, rfl, rfl, rfl, rfl, rfl⟩ := h
    refine (dec_none a0 w (by rw [ByteArray.toList_eq]; exact List.eq_nil_of_length_eq_zero (by rw [Array.length_toList]; exact h0))).mono ?_
    rintro e w' ⟨rfl, hb⟩
    exact DecOut.zero hb
  · rename_i h0
    have q : 0 < a0.size := by omega
    obtain ⟨n, hn, h⟩ := Option.bind_eq_some_iff.mp h
    split at h
    · rename_i h1
      have hlen : a0.data.toList.length = a0.size := Array.length_toList
      have hr3 : (r3L a0.data.toList).length = a0.size - 6 := by unfold r3L; simp only [List.length_drop]; omega
      have fin : ∀ {tag ls li t e0 e w'}, ((e0 = 0 ∧ t.toList = a0.toList → DecOut w (wrap64 (bt a0 0)) (uL a0.data.toList) (qL a0.data.toList) ⟨#[]⟩ tag ls li 0 e w') ∧ (¬ (e0 = 0 ∧ t.toList = a0.toList) → DecOut w 0 0 0 ⟨#[]⟩ ⟨#[]⟩ [] [] 110 e w')) →
          ((e0 = 0 ∧ t.toList = a0.toList) ∧ ((r1, r2, r3, r4, r5, r6, r7, r8) : DecR) = (wrap64 (bt a0 0), uL a0.data.toList, qL a0.data.toList, ⟨#[]⟩, tag, ls, li, 0) ∨ ¬ (e0 = (0 : Int) ∧ ByteArray.toList t = a0.toList) ∧ ((r1, r2, r3, r4, r5, r6, r7, r8) : DecR) = zeroR) → DecOut w r1 r2 r3 r4 r5 r6 r7 r8 e w' := by
        intro tag ls li t e0 e w' hd hc
        rcases hc with ⟨hc, he⟩ | ⟨hc, he⟩
        · simp only [Prod.mk.injEq] at he
          obtain ⟨rfl, rfl, rfl, rfl, rfl, rfl, rfl, rfl⟩ := he
          exact hd.1 hc
        · simp only [zeroR, Prod.mk.injEq] at he
          obtain ⟨rfl, rfl, rfl, rfl, rfl, rfl, rfl, rfl⟩ := he
          exact hd.2 hc
      unfold decKind at h
      rcases long_cases hn (by omega) with ⟨hk, hn2⟩ | ⟨hk, hn2⟩ | ⟨hk, hn2⟩ | ⟨hk, hn2⟩
      · rw [if_pos hk] at h
        simp only [Option.some.injEq, Prod.mk.injEq] at h
        obtain ⟨rfl, rfl, rfl, rfl, rfl, rfl, rfl, rfl⟩ := h
        refine (dec_pac a0 n _ w q rfl hn h1 hk).mono ?_
        rintro e w' ⟨rfl, hb⟩
        exact ⟨_, _, rfl, Kd.R_nil _ _ _ _ _, Kd.R_nil _ _ _ _ _, hb⟩
      · rw [if_neg (by omega), if_neg (by omega), if_neg (by omega)] at h
        obtain ⟨t, e0, hE, hc⟩ := decTail_some h
        exact (dec_ids a0 n _ w q rfl hn h1 (by omega) (by omega) (by omega) 0 k (by omega) (by omega) t e0 hE).mono fun e w' hd => fin hd hc
      · rw [if_neg (by omega), if_pos hk] at h
        obtain ⟨t, e0, hE, hc⟩ := decTail_some h
        exact (dec_slots a0 n _ w q rfl hn h1 (by omega) (by omega) hk 4 k (by omega) (by omega) t e0 hE).mono fun e w' hd => fin hd hc
      · rw [if_neg (by omega), if_neg (by omega), if_pos hk] at h
        obtain ⟨t, e0, hE, hc⟩ := decTail_some h
        exact (dec_ids a0 n _ w q rfl hn h1 (by omega) (by omega) (by omega) 4 k (by omega) (by omega) t e0 hE).mono fun e w' hd => fin hd hc
    · rename_i h1
      simp only [zeroR, Option.some.injEq, Prod.mk.injEq] at h
      obtain ⟨rfl, rfl, rfl, rfl, rfl, rfl, rfl, rfl⟩ := h
      refine (dec_long a0 _ n w q rfl hn h1).mono ?_
      rintro e w' ⟨rfl, hb⟩
      exact DecOut.zero hb
end Go.Proofs.Ytidilhnjfdkmpaa

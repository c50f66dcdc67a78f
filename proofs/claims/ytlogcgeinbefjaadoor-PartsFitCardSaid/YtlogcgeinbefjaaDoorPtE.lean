/- Take, whole. -/
import Derived.Test.YtlogcgeinbefjaaDoorPtN
namespace Go.Proofs.YtlogcgeinbefjaaDoor
open Go.RowKit Go.Proofs.YtlogcgeinbefjaaDoorW.PrintWords Go.Proofs.YtlogcgeinbefjaaDoorW.PrintLast
set_option linter.unusedSimpArgs false
set_option linter.unusedVariables false
set_option maxRecDepth 20000
theorem fstI_cases {α : Type} (p : α → Bool) (l : List α) : fstI p l = -1 ∨ ∃ i, fstI p l = (i : Nat) ∧ i < l.length := by
  unfold fstI
  cases h : l.any p with
  | false => exact .inl rfl
  | true =>
    obtain ⟨x, hx, hp⟩ := List.any_eq_true.1 h
    exact .inr ⟨l.findIdx p, rfl, List.findIdx_lt_length_of_exists ⟨x, hx, hp⟩⟩
theorem takeJ_any (B j : Nat) (vS vN : Value) (T : List Pl) (J : Jn) (s : List UInt8) (w : World) (h : JnA B w j vS vN T J) (hs : s.length ≤ 140737488355328) (hB : B ≤ w.heap.size) (hk : KsAt w) (hks : 1 < B) (hok : ∀ m ∈ J.some, 1 ≤ m.left) :
    Calls Tryd.prog 15 #[.pointer (some ⟨j, 0, none⟩), .string ⟨s.toArray⟩] w fun e w' => TkOut B j vS vN T (takeF J s).1 (takeF J s).2 w w' e := by
  by_cases ho : okP s = true
  · by_cases hd : J.done.any (fun x => x == (ptOf s).id) = true
    · exact take_there B j vS vN T J s w h hs ho hd
    · have hd' : J.done.any (fun x => x == (ptOf s).id) = false := Bool.eq_false_iff.mpr hd
      rcases fstI_cases (fun m : Ms => m.id == (ptOf s).id) J.some with hF | ⟨i, hF, hi⟩
      · exact take_new B j vS vN T J s w h hs ho hd' hF hB hk hks
      · have hget : J.some[i]? = some J.some[i] := List.getElem?_eq_getElem hi
        have one : ∀ {q : Ms → Prop}, q J.some[i] → ∀ m, J.some[i]? = some m → q m := fun hq m hm => by
          rw [hget] at hm; cases hm; exact hq
        by_cases h1 : J.some[i].sum = (ptOf s).sum
        · by_cases h2 : J.some[i].pcs.length = (ptOf s).many
          · have hT : i < T.length := by rw [h.len]; exact hi
            have hA := h.ms i T[i] J.some[i] (List.getElem?_eq_getElem hT) hget
            have hlt : (ptOf s).at_ < J.some[i].came.length := by rw [hA.l, h2]; exact (okP_many s ho).2.2
            cases hc : J.some[i].came[(ptOf s).at_]'hlt with
            | true => exact take_old_came B j vS vN T J s w h hs ho hd' i hi hF (one (q := fun m => (m.sum = (ptOf s).sum ∧ m.pcs.length = (ptOf s).many) ∧ m.came[(ptOf s).at_]? = some true) ⟨⟨h1, h2⟩, by rw [List.getElem?_eq_getElem hlt, hc]⟩)
            | false => exact take_old_put B j vS vN T J s w h hs ho hd' i hi hF hB hk hks hok (one (q := fun m => (m.sum = (ptOf s).sum ∧ m.pcs.length = (ptOf s).many) ∧ m.came[(ptOf s).at_]? = some false) ⟨⟨h1, h2⟩, by rw [List.getElem?_eq_getElem hlt, hc]⟩)
          · exact take_old_len B j vS vN T J s w h hs ho hd' i hi hF (one (q := fun m => m.sum = (ptOf s).sum ∧ m.pcs.length ≠ (ptOf s).many) ⟨h1, h2⟩)
        · exact take_old_sum B j vS vN T J s w h hs ho hd' i hi hF (one (q := fun m => m.sum ≠ (ptOf s).sum) h1)
  · exact take_none B j vS vN T J s w h hs (by simpa using ho)
/-- every message that waits has a piece left. -/
theorem putIn_ok (J : Jn) (i : Nat) (m : Ms) (p : Pt) (h : ∀ m ∈ J.some, 1 ≤ m.left) : ∀ u ∈ (putIn J i m p).1.some, 1 ≤ u.left := by
  unfold putIn
  split
  · intro u hu
    rcases List.mem_or_eq_of_mem_set hu with hu | rfl
    · exact h u hu
    · rename_i h1; show 1 ≤ m.left - 1; omega
  · have he : ∀ u ∈ (J.some.set i (m.put p.at_ p.text)).eraseIdx i, 1 ≤ u.left := fun u hu => by
      rw [List.eraseIdx_set_eq] at hu
      exact h u ((List.eraseIdx_sublist _ _).subset hu)
    unfold lastIn
    split
    · exact he
    · exact he
theorem takeF_ok (J : Jn) (s : List UInt8) (h : ∀ m ∈ J.some, 1 ≤ m.left) : ∀ u ∈ (takeF J s).1.some, 1 ≤ u.left := by
  unfold takeF
  split
  · rename_i ho
    have hp : ∀ u ∈ pushQ J.most J.some (freshM (ptOf s)), 1 ≤ u.left := fun u hu => by
      rcases pushQ_mem hu with hu | rfl
      · exact h u hu
      · have := (okP_many s ho).1
        show 1 ≤ (((ptOf s).many : Nat) : Int); omega
    split
    · exact h
    · split
      · split
        · exact putIn_ok _ _ _ _ hp
        · unfold oldIn
          split
          · split
            · exact h
            · exact putIn_ok _ _ _ _ h
          · exact h
      · exact putIn_ok _ _ _ _ hp
  · exact h
end Go.Proofs.YtlogcgeinbefjaaDoor

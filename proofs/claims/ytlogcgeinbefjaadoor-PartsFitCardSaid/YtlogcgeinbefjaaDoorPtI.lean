/- Parts of a message that come to a joiner, plainly. -/
import Derived.Test.YtlogcgeinbefjaaDoorPtE
import Derived.Test.YtlogcgeinbefjaaDoorPtG
namespace Go.Proofs.YtlogcgeinbefjaaDoor
open Go.RowKit
set_option linter.unusedSimpArgs false
set_option linter.unusedVariables false
/-- a message: its id, its sum, its pieces. -/
structure Mg where
  id : List UInt8
  sum : List UInt8
  ps : List (List UInt8)
structure Mg.ok (M : Mg) : Prop where
  id : M.id.length = 8
  sum : M.sum.length = 6
  n : 1 ≤ M.ps.length ∧ M.ps.length ≤ 11
  pc : ∀ i s, M.ps[i]? = some s → (i + 1 < M.ps.length → s.length = 200) ∧ (i + 1 = M.ps.length → min 1 (M.ps.length - 1) ≤ s.length ∧ s.length ≤ 200 ∧ 200 * i + s.length ≤ 2048)
def Mg.part (M : Mg) (i : Nat) : List UInt8 := M.id ++ [UInt8.ofNat i, UInt8.ofNat M.ps.length] ++ M.sum ++ M.ps.getD i []
def Mg.pt (M : Mg) (i : Nat) : Pt := ⟨M.id, M.sum, M.ps.getD i [], i, M.ps.length⟩
theorem four_parts (a b c d : List UInt8) (x y : UInt8) (ha : a.length = 8) (hc : c.length = 6) (hb : b = [x, y]) :
    (a ++ b ++ c ++ d).take 8 = a ∧ ((a ++ b ++ c ++ d).drop 10).take 6 = c ∧ (a ++ b ++ c ++ d).drop 16 = d ∧ (a ++ b ++ c ++ d).getD 8 0 = x ∧ (a ++ b ++ c ++ d).getD 9 0 = y := by
  subst hb
  have h1 : a ++ [x, y] ++ c ++ d = a ++ ([x, y] ++ (c ++ d)) := by simp
  have h2 : a ++ [x, y] ++ c ++ d = (a ++ [x, y]) ++ (c ++ d) := by simp
  have h3 : a ++ [x, y] ++ c ++ d = (a ++ [x, y] ++ c) ++ d := by simp
  refine ⟨?_, ?_, ?_, ?_, ?_⟩
  · rw [h1, List.take_left' ha]
  · rw [h2, List.drop_left' (by simp [ha]), List.take_left' hc]
  · rw [h3, List.drop_left' (by simp [ha, hc])]
  · rw [h1, List.getD_eq_getElem?_getD, List.getElem?_append_right (by omega), ha]; rfl
  · rw [h1, List.getD_eq_getElem?_getD, List.getElem?_append_right (by omega), ha]; rfl
theorem u8_small (i : Nat) (h : i < 256) : (UInt8.ofNat i).toNat = i := by rw [UInt8.toNat_ofNat']; omega
section
variable {M : Mg} {i : Nat}
theorem Mg.ptOf_ (h : M.ok) (hi : i < M.ps.length) : ptOf (M.part i) = M.pt i := by
  obtain ⟨h1, h2, h3, h4, h5⟩ := four_parts M.id [UInt8.ofNat i, UInt8.ofNat M.ps.length] M.sum (M.ps.getD i []) _ _ h.id h.sum rfl
  have hn := h.n
  have e4 : (bd (M.part i) 8).toNat = i := by
    have : bd (M.part i) 8 = UInt8.ofNat i := h4
    rw [this, u8_small _ (by omega)]
  have e5 : (bd (M.part i) 9).toNat = M.ps.length := by
    have : bd (M.part i) 9 = UInt8.ofNat M.ps.length := h5
    rw [this, u8_small _ (by omega)]
  unfold ptOf
  rw [e4, e5]
  unfold Mg.part Mg.pt
  rw [h1, h2, h3]
theorem Mg.okP_ (h : M.ok) (hi : i < M.ps.length) : okP (M.part i) = true := by
  have hp := M.ptOf_ h hi
  have hn := h.n
  have hd : (M.part i).drop 16 = M.ps.getD i [] := by
    have : (ptOf (M.part i)).text = (M.pt i).text := by rw [hp]
    exact this
  have hl : (M.part i).length = 16 + (M.ps.getD i []).length := by
    unfold Mg.part
    simp only [List.length_append, h.id, h.sum, List.length_cons, List.length_nil]
  have hg : M.ps[i]? = some (M.ps.getD i []) := by
    rw [List.getD_eq_getElem?_getD, List.getElem?_eq_getElem hi]; rfl
  obtain ⟨p1, p2⟩ := h.pc i _ hg
  unfold okP
  rw [hp, hd]
  simp only [Bool.and_eq_true, decide_eq_true_eq]
  refine ⟨⟨by omega, hn.1, hn.2, hi⟩, ?_⟩
  unfold lowP highP
  have f1 : (M.pt i).at_ = i := rfl
  have f2 : (M.pt i).many = M.ps.length := rfl
  rw [f1, f2]
  by_cases hlast : i + 1 = M.ps.length
  · obtain ⟨q1, q2, q3⟩ := p2 hlast
    rw [if_pos hlast, if_pos hlast]
    exact ⟨q1, by omega⟩
  · have := p1 (by omega)
    rw [if_neg hlast, if_neg hlast]
    exact ⟨by omega, by omega⟩
end
/-- a message of which some pieces came. -/
def pick (b : Bool) (s : List UInt8) : List UInt8 := if b then s else []
def Mg.ms (M : Mg) (c : List Bool) : Ms := ⟨M.id, M.sum, List.zipWith pick c M.ps, c, (c.count false : Nat)⟩
theorem pick_fresh : ∀ (n : Nat) (ps : List (List UInt8)), ps.length = n → List.zipWith pick (List.replicate n false) ps = List.replicate n []
  | 0, ps, h => by simp
  | n + 1, [], h => by simp at h
  | n + 1, p :: ps, h => by
    rw [List.replicate_succ, List.zipWith_cons_cons, pick_fresh n ps (by simpa using h)]
    rfl
theorem pick_set : ∀ (c : List Bool) (ps : List (List UInt8)) (i : Nat), c.length = ps.length → i < ps.length → List.zipWith pick (c.set i true) ps = (List.zipWith pick c ps).set i (ps.getD i [])
  | [], ps, i, h, hi => by simp at h; omega
  | b :: c, [], i, h, hi => by simp at hi
  | b :: c, p :: ps, 0, h, hi => by simp [pick]
  | b :: c, p :: ps, i + 1, h, hi => by
    have := pick_set c ps i (by simpa using h) (by simpa using hi)
    simp only [List.set_cons_succ, List.zipWith_cons_cons, List.getD_cons_succ]
    rw [this]
theorem pick_all : ∀ (c : List Bool) (ps : List (List UInt8)), c.length = ps.length → c.count false = 0 → List.zipWith pick c ps = ps
  | [], ps, h, hc => by simp at h; simp [List.eq_nil_of_length_eq_zero h.symm]
  | b :: c, [], h, hc => by simp at h
  | b :: c, p :: ps, h, hc => by
    cases b with
    | false => simp at hc
    | true =>
      rw [List.zipWith_cons_cons, pick_all c ps (by simpa using h) (by simpa using hc)]
      rfl
theorem count_set (c : List Bool) : ∀ i, c[i]? = some false → (c.set i true).count false + 1 = c.count false ∧ (c.set i true).count true = c.count true + 1 := by
  induction c with
  | nil => intro i h; simp at h
  | cons b c ih =>
    intro i h
    cases i with
    | zero =>
      simp at h; subst h
      simp
    | succ i =>
      have := ih i (by simpa using h)
      rw [List.set_cons_succ]
      cases b <;> simp <;> omega
theorem count_two (c : List Bool) : c.count true + c.count false = c.length := by
  induction c with
  | nil => rfl
  | cons b c ih => cases b <;> simp <;> omega
theorem Mg.fresh (M : Mg) (i : Nat) : freshM (M.pt i) = M.ms (List.replicate M.ps.length false) := by
  unfold freshM Mg.ms Mg.pt
  rw [pick_fresh _ _ rfl]
  simp [List.count_replicate]
theorem Mg.put_ (M : Mg) (c : List Bool) (i : Nat) (hc : c.length = M.ps.length) (h : c[i]? = some false) : (M.ms c).put i (M.ps.getD i []) = M.ms (c.set i true) := by
  have hi : i < M.ps.length := by rw [← hc]; exact (List.getElem?_eq_some_iff.1 h).1
  have := (count_set c i h).1
  unfold Ms.put Mg.ms
  simp only [pick_set c M.ps i hc hi, Ms.mk.injEq, true_and]
  omega
/-- what a joiner has of a message: which pieces came (none: it isn't there; all: it was told). -/
def Got (J : Jn) (M : Mg) (c : List Bool) : Prop :=
  c.length = M.ps.length ∧
  (c.count true = 0 → M.id ∉ J.done ∧ ∀ m ∈ J.some, m.id ≠ M.id) ∧
  (c.count false = 0 → M.id ∈ J.done) ∧
  (c.count true ≠ 0 → c.count false ≠ 0 → M.id ∉ J.done ∧ ∃ k : Nat, J.some[k]? = some (M.ms c) ∧ ∀ (j : Nat) (m : Ms), J.some[j]? = some m → m.id = M.id → j = k)
theorem anyId (l : List (List UInt8)) (x : List UInt8) : l.any (fun y => y == x) = decide (x ∈ l) := by
  rw [Bool.eq_iff_iff, List.any_eq_true, decide_eq_true_iff]
  constructor
  · rintro ⟨y, hy, e⟩; rw [← eq_of_beq e]; exact hy
  · intro h; exact ⟨x, h, beq_self_eq_true x⟩
theorem fstI_no (J : Jn) (id : List UInt8) (h : ∀ m ∈ J.some, m.id ≠ id) : fstI (fun m : Ms => m.id == id) J.some = -1 := by
  refine fstI_none _ _ (fun j x hj hx => ?_)
  exact beq_eq_false_iff_ne.mpr (h x (List.mem_of_getElem? hx))
theorem fstI_at (J : Jn) (id : List UInt8) (k : Nat) (m : Ms) (hk : J.some[k]? = some m) (hm : m.id = id) (h : ∀ (j : Nat) (m : Ms), J.some[j]? = some m → m.id = id → j = k) : fstI (fun m : Ms => m.id == id) J.some = (k : Int) := by
  refine fstI_hit _ _ k m hk (by simpa using hm) (fun j x hj hx => ?_)
  refine beq_eq_false_iff_ne.mpr (fun e => ?_)
  have := h j x hx e
  omega
theorem pushQ_room {α : Type} (m : Nat) (xs : List α) (x : α) (h : xs.length < m) : pushQ m xs x = xs ++ [x] := by
  unfold pushQ; rw [if_neg (by omega)]
/-- the answer to a part that had not come. -/
def Mg.ans (M : Mg) (c : List Bool) : Tk := if c.count false = 0 then (if digL M.id M.ps.flatten = M.sum then ⟨M.id, M.ps.flatten, true, 0⟩ else noTk 220) else noTk 0
/-- what is left as it was of the others. -/
structure Nxt (J J' : Jn) (M : Mg) (c : List Bool) : Prop where
  most : J'.most = J.most
  noted : J'.noted = J.noted
  sum : J'.some.length + J'.done.length ≤ J.some.length + J.done.length + (if c.count true = 0 then 1 else 0)
  oth : ∀ (M2 : Mg) (c2 : List Bool), M2.id ≠ M.id → Got J M2 c2 → Got J' M2 c2
theorem put_in (J : Jn) (M : Mg) (c : List Bool) (i k : Nat) (hc : c.length = M.ps.length) (hi : c[i]? = some false) (hk : J.some[k]? = some (M.ms c)) (hn : J.done.length < J.noted) :
    putIn J k (M.ms c) (M.pt i) = if (c.set i true).count false = 0 then
      (if digL M.id M.ps.flatten = M.sum then ({ J with some := J.some.eraseIdx k, done := J.done ++ [M.id] }, ⟨M.id, M.ps.flatten, true, 0⟩) else ({ J with some := J.some.eraseIdx k }, noTk 220))
      else ({ J with some := J.some.set k (M.ms (c.set i true)) }, noTk 0) := by
  have h1 := (count_set c i hi).1
  have hp := M.put_ c i hc hi
  have hp' : (M.ms c).put (M.pt i).at_ (M.pt i).text = M.ms (c.set i true) := hp
  have hl : (M.ms c).left = (c.count false : Nat) := rfl
  unfold putIn
  rw [hp', hl]
  by_cases h0 : (c.set i true).count false = 0
  · rw [if_neg (by omega), if_pos h0]
    unfold lastIn
    have hps : (M.ms (c.set i true)).pcs = M.ps := pick_all _ _ (by rw [List.length_set]; exact hc) h0
    rw [hps, List.eraseIdx_set_eq]
    have e1 : (M.pt i).id = M.id := rfl
    have e2 : (M.pt i).sum = M.sum := rfl
    simp only [e1, e2]
    split
    · rw [pushQ_room _ _ _ hn]
    · rfl
  · rw [if_pos (by omega), if_neg h0]
theorem take_came (J : Jn) (M : Mg) (c : List Bool) (i : Nat) (h : M.ok) (hs : Got J M c) (hi : c[i]? = some true) : takeF J (M.part i) = (J, noTk 6) := by
  have hlt : i < M.ps.length := by rw [← hs.1]; exact (List.getElem?_eq_some_iff.1 hi).1
  have hp := M.ptOf_ h hlt
  unfold takeF
  rw [if_pos (M.okP_ h hlt), hp, anyId]
  have e1 : (M.pt i).id = M.id := rfl
  simp only [e1]
  have ht : c.count true ≠ 0 := by
    have : true ∈ c := List.mem_of_getElem? hi
    have := List.count_pos_iff.2 this
    omega
  by_cases hf : c.count false = 0
  · rw [if_pos (by simpa using hs.2.2.1 hf)]
  · obtain ⟨h1, k, h2, h3⟩ := hs.2.2.2 ht hf
    rw [if_neg (by simpa using h1), fstI_at J M.id k _ h2 rfl h3]
    simp only [Int.toNat_natCast, h2]
    rw [if_neg (by omega)]
    unfold oldIn
    have hlen : (M.ms c).pcs.length = M.ps.length := by
      show (List.zipWith pick c M.ps).length = _
      rw [List.length_zipWith, hs.1]; omega
    have hci : (M.ms c).came[(M.pt i).at_]? = some true := hi
    rw [if_pos ⟨rfl, hlen⟩, if_pos hci]
theorem Got.erase {J : Jn} {M2 : Mg} {c2 : List Bool} (k : Nat) (m : Ms) (hk : J.some[k]? = some m) (hne : M2.id ≠ m.id) (d : List (List UInt8)) (hd : ∀ x, x ≠ m.id → (x ∈ d ↔ x ∈ J.done)) (h : Got J M2 c2) : Got { J with some := J.some.eraseIdx k, done := d } M2 c2 := by
  have hdm := hd M2.id hne
  refine ⟨h.1, fun h0 => ?_, fun h0 => hdm.2 (h.2.2.1 h0), fun h0 h1 => ?_⟩
  · obtain ⟨a, b⟩ := h.2.1 h0
    exact ⟨fun e => a (hdm.1 e), fun m hm => b m ((List.eraseIdx_sublist _ _).subset hm)⟩
  · obtain ⟨a, q, hq, hu⟩ := h.2.2.2 h0 h1
    refine ⟨fun e => a (hdm.1 e), ?_⟩
    have hqk : q ≠ k := fun e => by
      subst e
      rw [hk] at hq
      have := Option.some.inj hq
      rw [this] at hne
      exact hne rfl
    have get : ∀ j : Nat, (J.some.eraseIdx k)[j]? = if j < k then J.some[j]? else J.some[j + 1]? := fun j => by rw [List.getElem?_eraseIdx]
    by_cases hlt : q < k
    · refine ⟨q, ?_, fun j m' hj he => ?_⟩
      · show (J.some.eraseIdx k)[q]? = _
        rw [get, if_pos hlt]; exact hq
      · have hj' : (J.some.eraseIdx k)[j]? = some m' := hj
        rw [get] at hj'
        split at hj'
        · exact hu j m' hj' he
        · have := hu (j + 1) m' hj' he; omega
    · refine ⟨q - 1, ?_, fun j m' hj he => ?_⟩
      · show (J.some.eraseIdx k)[q - 1]? = _
        rw [get, if_neg (by omega), show q - 1 + 1 = q by omega]; exact hq
      · have hj' : (J.some.eraseIdx k)[j]? = some m' := hj
        rw [get] at hj'
        split at hj'
        · have := hu j m' hj' he; omega
        · have := hu (j + 1) m' hj' he; omega
theorem Got.setAt {J : Jn} {M2 : Mg} {c2 : List Bool} (k : Nat) (m m' : Ms) (hk : J.some[k]? = some m) (hid : m'.id = m.id) (hne : M2.id ≠ m.id) (h : Got J M2 c2) : Got { J with some := J.some.set k m' } M2 c2 := by
  have get : ∀ j : Nat, j ≠ k → (J.some.set k m')[j]? = J.some[j]? := fun j hj => List.getElem?_set_ne (Ne.symm hj)
  have self : (J.some.set k m')[k]? = some m' := List.getElem?_set_self (List.getElem?_eq_some_iff.1 hk).1
  refine ⟨h.1, fun h0 => ?_, fun h0 => h.2.2.1 h0, fun h0 h1 => ?_⟩
  · obtain ⟨a, b⟩ := h.2.1 h0
    refine ⟨a, fun x hx => ?_⟩
    rcases List.mem_or_eq_of_mem_set hx with hx | rfl
    · exact b x hx
    · rw [hid]; exact hne.symm
  · obtain ⟨a, q, hq, hu⟩ := h.2.2.2 h0 h1
    have hqk : q ≠ k := fun e => by
      subst e
      rw [hk] at hq
      have := Option.some.inj hq
      rw [this] at hne
      exact hne rfl
    refine ⟨a, q, ?_, fun j x hj he => ?_⟩
    · show (J.some.set k m')[q]? = _
      rw [get q hqk]; exact hq
    · have hj' : (J.some.set k m')[j]? = some x := hj
      by_cases hjk : j = k
      · subst hjk
        rw [self] at hj'
        cases hj'
        rw [hid] at he
        exact absurd he.symm hne
      · rw [get j hjk] at hj'
        exact hu j x hj' he
theorem Got.pushed {J : Jn} {M2 : Mg} {c2 : List Bool} (m : Ms) (hne : M2.id ≠ m.id) (h : Got J M2 c2) : Got { J with some := J.some ++ [m] } M2 c2 := by
  refine ⟨h.1, fun h0 => ?_, fun h0 => h.2.2.1 h0, fun h0 h1 => ?_⟩
  · obtain ⟨a, b⟩ := h.2.1 h0
    refine ⟨a, fun x hx => ?_⟩
    rcases List.mem_append.1 hx with hx | hx
    · exact b x hx
    · rw [List.mem_singleton.1 hx]; exact hne.symm
  · obtain ⟨a, q, hq, hu⟩ := h.2.2.2 h0 h1
    have hql := (List.getElem?_eq_some_iff.1 hq).1
    refine ⟨a, q, ?_, fun j x hj he => ?_⟩
    · show (J.some ++ [m])[q]? = _
      rw [List.getElem?_append_left hql]; exact hq
    · have hj' : (J.some ++ [m])[j]? = some x := hj
      by_cases hjl : j < J.some.length
      · rw [List.getElem?_append_left hjl] at hj'; exact hu j x hj' he
      · rw [List.getElem?_append_right (by omega)] at hj'
        have : x = m := by
          have h2 := List.mem_of_getElem? hj'
          exact List.mem_singleton.1 h2
        subst this
        exact absurd he.symm hne
/-- a message that waits at a place: what a part that had not come makes of it. -/
theorem put_St (J : Jn) (M : Mg) (c : List Bool) (i k : Nat) (hc : c.length = M.ps.length) (hi : c[i]? = some false) (hk : J.some[k]? = some (M.ms c)) (hu : ∀ (j : Nat) (m : Ms), J.some[j]? = some m → m.id = M.id → j = k) (hd : M.id ∉ J.done) (hn : J.done.length < J.noted) :
    (putIn J k (M.ms c) (M.pt i)).2 = M.ans (c.set i true) ∧ (putIn J k (M.ms c) (M.pt i)).1.most = J.most ∧ (putIn J k (M.ms c) (M.pt i)).1.noted = J.noted ∧
    (putIn J k (M.ms c) (M.pt i)).1.some.length + (putIn J k (M.ms c) (M.pt i)).1.done.length ≤ J.some.length + J.done.length ∧
    (((c.set i true).count false = 0 → digL M.id M.ps.flatten = M.sum) → Got (putIn J k (M.ms c) (M.pt i)).1 M (c.set i true)) ∧
    ∀ (M2 : Mg) (c2 : List Bool), M2.id ≠ M.id → Got J M2 c2 → Got (putIn J k (M.ms c) (M.pt i)).1 M2 c2 := by
  rw [put_in J M c i k hc hi hk hn]
  have hkl := (List.getElem?_eq_some_iff.1 hk).1
  have h1 := count_set c i hi
  unfold Mg.ans
  by_cases h0 : (c.set i true).count false = 0
  · simp only [if_pos h0]
    by_cases hg : digL M.id M.ps.flatten = M.sum
    · simp only [if_pos hg]
      refine ⟨by trivial, by trivial, by trivial, ?_, fun _ => ⟨by rw [List.length_set]; exact hc, fun h => by omega, fun _ => ?_, fun _ h => absurd h0 h⟩, fun M2 c2 hne hS => ?_⟩
      · show (J.some.eraseIdx k).length + (J.done ++ [M.id]).length ≤ _
        rw [List.length_eraseIdx, if_pos hkl, List.length_append]
        simp; omega
      · show M.id ∈ J.done ++ [M.id]; simp
      · exact Got.erase k _ hk (by exact hne) _ (fun x hx => by
          have : x ≠ M.id := hx
          simp [this]) hS
    · simp only [if_neg hg]
      refine ⟨by trivial, by trivial, by trivial, ?_, fun h => absurd (h h0) hg, fun M2 c2 hne hS => Got.erase k _ hk (by exact hne) _ (fun x hx => Iff.rfl) hS⟩
      show (J.some.eraseIdx k).length + J.done.length ≤ _
      rw [List.length_eraseIdx, if_pos hkl]; omega
  · simp only [if_neg h0]
    refine ⟨by trivial, by trivial, by trivial, ?_, fun _ => ⟨by rw [List.length_set]; exact hc, fun h => by omega, fun h => absurd h h0, fun _ _ => ⟨hd, k, List.getElem?_set_self hkl, fun j m hj he => ?_⟩⟩, fun M2 c2 hne hS => Got.setAt k _ _ hk rfl (by exact hne) hS⟩
    · show (J.some.set k _).length + _ ≤ _
      rw [List.length_set]; omega
    · by_cases hjk : j = k
      · exact hjk
      · have hj' : (J.some.set k (M.ms (c.set i true)))[j]? = some m := hj
        rw [List.getElem?_set_ne (Ne.symm hjk)] at hj'
        exact hu j m hj' he
theorem take_comes (J : Jn) (M : Mg) (c : List Bool) (i : Nat) (h : M.ok) (hs : Got J M c) (hi : c[i]? = some false) (hr : J.some.length < J.most) (hn : J.done.length < J.noted) :
    (takeF J (M.part i)).2 = M.ans (c.set i true) ∧ Nxt J (takeF J (M.part i)).1 M c ∧ (((c.set i true).count false = 0 → digL M.id M.ps.flatten = M.sum) → Got (takeF J (M.part i)).1 M (c.set i true)) := by
  have hlt : i < M.ps.length := by rw [← hs.1]; exact (List.getElem?_eq_some_iff.1 hi).1
  have hp := M.ptOf_ h hlt
  have e1 : (M.pt i).id = M.id := rfl
  have hf : c.count false ≠ 0 := by
    have := (count_set c i hi).1
    omega
  by_cases ht : c.count true = 0
  · obtain ⟨h1, h2⟩ := hs.2.1 ht
    have hcr : c = List.replicate M.ps.length false := by
      have := count_two c
      rw [← hs.1]
      refine List.eq_replicate_of_mem (fun b hb => ?_)
      cases b with
      | false => rfl
      | true => have := List.count_pos_iff.2 hb; omega
    have hT : takeF J (M.part i) = putIn { J with some := J.some ++ [M.ms c] } J.some.length (M.ms c) (M.pt i) := by
      unfold takeF
      rw [if_pos (M.okP_ h hlt), hp, anyId]
      simp only [e1]
      rw [if_neg (by simpa using h1), fstI_no J M.id h2, M.fresh, ← hcr, pushQ_room _ _ _ hr]
      have hl : (J.some ++ [M.ms c]).length - 1 = J.some.length := by simp
      rw [hl]
      split
      · rfl
      · rfl
    rw [hT]
    have hk : (J.some ++ [M.ms c])[J.some.length]? = some (M.ms c) := by simp
    have := put_St { J with some := J.some ++ [M.ms c] } M c i J.some.length hs.1 hi hk (fun j m hj he => by
      have hj' : (J.some ++ [M.ms c])[j]? = some m := hj
      by_cases hjl : j < J.some.length
      · rw [List.getElem?_append_left hjl] at hj'
        exact absurd he (h2 m (List.mem_of_getElem? hj'))
      · have := (List.getElem?_eq_some_iff.1 hj').1
        simp at this; omega) h1 hn
    obtain ⟨a1, a2, a3, a4, a5, a6⟩ := this
    refine ⟨a1, ⟨a2, a3, ?_, fun M2 c2 hne hS => a6 M2 c2 hne (hS.pushed _ hne)⟩, a5⟩
    rw [if_pos ht]
    have e : ({ J with some := J.some ++ [M.ms c] } : Jn).some.length = J.some.length + 1 := by simp
    rw [e] at a4
    have e2 : ({ J with some := J.some ++ [M.ms c] } : Jn).done = J.done := rfl
    rw [e2] at a4
    omega
  · obtain ⟨h1, k, h2, h3⟩ := hs.2.2.2 ht hf
    have hlen : (M.ms c).pcs.length = M.ps.length := by
      show (List.zipWith pick c M.ps).length = _
      rw [List.length_zipWith, hs.1]; omega
    have hT : takeF J (M.part i) = putIn J k (M.ms c) (M.pt i) := by
      unfold takeF
      rw [if_pos (M.okP_ h hlt), hp, anyId]
      simp only [e1]
      rw [if_neg (by simpa using h1), fstI_at J M.id k _ h2 rfl h3]
      simp only [Int.toNat_natCast, h2]
      rw [if_neg (by omega)]
      unfold oldIn
      have hci : ¬ ((M.ms c).came[(M.pt i).at_]? = some true) := by
        show ¬ (c[i]? = some true)
        rw [hi]; simp
      rw [if_pos ⟨rfl, hlen⟩, if_neg hci]
    rw [hT]
    obtain ⟨a1, a2, a3, a4, a5, a6⟩ := put_St J M c i k hs.1 hi h2 h3 h1 hn
    exact ⟨a1, ⟨a2, a3, by rw [if_neg ht]; omega, a6⟩, a5⟩
/-- a message as Cut has it. -/
def mgWith (id d b : List UInt8) : Mg := ⟨id, d, (List.range (cutN b)).map (pieceL b)⟩
theorem mgWith_id (id d b : List UInt8) : (mgWith id d b).id = id := rfl
theorem mgWith_sum (id d b : List UInt8) : (mgWith id d b).sum = d := rfl
theorem mgWith_ps (id d b : List UInt8) : (mgWith id d b).ps = (List.range (cutN b)).map (pieceL b) := rfl
def mgOf (id b : List UInt8) : Mg := mgWith id (digL id b) b
theorem mgOf_id (id b : List UInt8) : (mgOf id b).id = id := by unfold mgOf; exact mgWith_id _ _ _
theorem mgOf_sum (id b : List UInt8) : (mgOf id b).sum = digL id b := by unfold mgOf; exact mgWith_sum _ _ _
theorem mgOf_ps (id b : List UInt8) : (mgOf id b).ps = (List.range (cutN b)).map (pieceL b) := by unfold mgOf; exact mgWith_ps _ _ _
theorem mgOf_len (id b : List UInt8) : (mgOf id b).ps.length = cutN b := by rw [mgOf_ps]; simp
theorem mgOf_flat (id b : List UInt8) : (mgOf id b).ps.flatten = b := by rw [mgOf_ps]; exact pieces_flat b
theorem mgOf_getD (id b : List UInt8) (i : Nat) (hi : i < cutN b) : (mgOf id b).ps.getD i [] = pieceL b i := by
  rw [mgOf_ps, List.getD_eq_getElem?_getD, List.getElem?_map, List.getElem?_range hi]; rfl
theorem mgOf_part (id b : List UInt8) (i : Nat) (hi : i < cutN b) : (mgOf id b).part i = partL id b i := by
  unfold Mg.part partL
  rw [mgOf_getD _ _ _ hi, mgOf_len, mgOf_id, mgOf_sum]
theorem mgOf_ok (id b : List UInt8) (hid : id.length = 8) (hb : b.length ≤ 2048) : (mgOf id b).ok := by
  have hN := cutN_max b hb
  refine ⟨by rw [mgOf_id]; exact hid, by rw [mgOf_sum]; exact digL_length _ _ (by rw [sha_length]; decide), by rw [mgOf_len]; exact hN, fun i s hs => ?_⟩
  have hi : i < cutN b := by rw [← mgOf_len id b]; exact (List.getElem?_eq_some_iff.1 hs).1
  have he : s = pieceL b i := by
    have := mgOf_getD id b i hi
    rw [List.getD_eq_getElem?_getD, hs] at this
    exact this
  subst he
  have hl : (pieceL b i).length = min 200 (b.length - 200 * i) := by unfold pieceL; rw [List.length_take, List.length_drop]
  rw [mgOf_len, hl]
  unfold cutN at hi hN ⊢
  exact ⟨fun h => by omega, fun h => by omega⟩
theorem cutL_parts (id b : List UInt8) : cutL id b = (List.range (mgOf id b).ps.length).map (mgOf id b).part := by
  rw [mgOf_len]
  unfold cutL
  refine List.map_congr_left (fun i hi => ?_)
  rw [mgOf_part id b i (List.mem_range.1 hi)]
theorem Got.new (M : Mg) (a b : Nat) : Got (newJ a b) M (List.replicate M.ps.length false) ∨ M.ps.length = 0 := by
  by_cases h : M.ps.length = 0
  · exact .inr h
  · refine .inl ⟨by simp, fun _ => ⟨by simp [newJ], fun m hm => by simp [newJ] at hm⟩, fun h0 => ?_, fun h0 _ => ?_⟩
    · rw [List.count_replicate] at h0; simp at h0; exact absurd (by rw [h0]; rfl) h
    · rw [List.count_replicate] at h0; simp at h0
theorem Got.start (M : Mg) (hM : M.ok) (a b : Nat) : Got (newJ a b) M (List.replicate M.ps.length false) := (Got.new M a b).resolve_right (by have := hM.n; omega)
theorem ans_ok (M : Mg) (c : List Bool) (h : digL M.id M.ps.flatten = M.sum) : M.ans c = if c.count false = 0 then ⟨M.id, M.ps.flatten, true, 0⟩ else noTk 0 := by unfold Mg.ans; rw [if_pos h]
theorem mgOf_dig (id b : List UInt8) : digL (mgOf id b).id (mgOf id b).ps.flatten = (mgOf id b).sum := by rw [mgOf_flat, mgOf_id, mgOf_sum]
end Go.Proofs.YtlogcgeinbefjaaDoor

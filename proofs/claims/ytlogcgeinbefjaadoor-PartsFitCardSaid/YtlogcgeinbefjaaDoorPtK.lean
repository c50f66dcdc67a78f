/- What Take does, plainly. -/
import Derived.Test.YtlogcgeinbefjaaDoorPtD
import Derived.Test.YtlogcgeinbefjaaDoorShelf
namespace Go.Proofs.YtlogcgeinbefjaaDoor
open Go.RowKit Go.Proofs.YtlogcgeinbefjaaDoorW.PrintWords Go.Proofs.YtlogcgeinbefjaaDoorW.PrintLast
set_option linter.unusedSimpArgs false
set_option linter.unusedVariables false
set_option maxRecDepth 20000
structure Tk where
  id : List UInt8
  body : List UInt8
  whole : Bool
  e : Int
def noTk (e : Int) : Tk := ⟨[], [], false, e⟩
def freshM (p : Pt) : Ms := ⟨p.id, p.sum, List.replicate p.many [], List.replicate p.many false, (p.many : Nat)⟩
def lastIn (J : Jn) (i : Nat) (m : Ms) (p : Pt) : Jn × Tk :=
  if digL p.id m.pcs.flatten = p.sum then ({ J with some := J.some.eraseIdx i, done := pushQ J.noted J.done p.id }, ⟨p.id, m.pcs.flatten, true, 0⟩) else ({ J with some := J.some.eraseIdx i }, noTk 220)
def putIn (J : Jn) (i : Nat) (m : Ms) (p : Pt) : Jn × Tk :=
  if 0 < m.left - 1 then ({ J with some := J.some.set i (m.put p.at_ p.text) }, noTk 0) else lastIn { J with some := J.some.set i (m.put p.at_ p.text) } i (m.put p.at_ p.text) p
def oldIn (J : Jn) (i : Nat) (m : Ms) (p : Pt) : Jn × Tk :=
  if m.sum = p.sum ∧ m.pcs.length = p.many then (if m.came[p.at_]? = some true then (J, noTk 6) else putIn J i m p) else (J, noTk 220)
def takeF (J : Jn) (s : List UInt8) : Jn × Tk :=
  if okP s then
    (if J.done.any (fun x => x == (ptOf s).id) then (J, noTk 6)
     else match J.some[(fstI (fun m : Ms => m.id == (ptOf s).id) J.some).toNat]? with
       | some m => if fstI (fun m : Ms => m.id == (ptOf s).id) J.some < 0 then putIn { J with some := pushQ J.most J.some (freshM (ptOf s)) } ((pushQ J.most J.some (freshM (ptOf s))).length - 1) (freshM (ptOf s)) (ptOf s)
                   else oldIn J (fstI (fun m : Ms => m.id == (ptOf s).id) J.some).toNat m (ptOf s)
       | none => putIn { J with some := pushQ J.most J.some (freshM (ptOf s)) } ((pushQ J.most J.some (freshM (ptOf s))).length - 1) (freshM (ptOf s)) (ptOf s))
  else (J, noTk 220)
def toldC (r : Tk) : Array Value := #[.string ⟨r.id.toArray⟩, .string ⟨r.body.toArray⟩]
def zTold : Array Value := #[.string ⟨#[]⟩, .string ⟨#[]⟩]
structure TkOut (B j : Nat) (vS vN : Value) (T : List Pl) (J' : Jn) (r : Tk) (w w' : World) (e : Ending) : Prop where
  e : e = .returned (.tuple #[.agg (toldC r), .bool r.whole, .int .i64 r.e])
  r : ∃ vS' vN' T', JnA B w' j vS' vN' T' J' ∧ Kp (JS j vS vN T) w w' ∧ ∀ i, JS j vS' vN' T' i → JS j vS vN T i ∨ w.heap.size ≤ i
theorem size_told : (Tryd.prog.info? 36).map (·.size) = some 2 := by kernel_rfl
theorem one_ztold : zTold.all (·.oneCell') = true := by
  refine all_oneCell_toArray (cs := [.string ⟨#[]⟩, .string ⟨#[]⟩]) fun u hu => ?_
  simp only [List.mem_cons, List.not_mem_nil, or_false] at hu
  rcases hu with rfl | rfl <;> rfl
theorem one_told2 (a b : ByteArray) : (#[.string a, .string b] : Array Value).all (·.oneCell') = true := by
  refine all_oneCell_toArray (cs := [.string a, .string b]) fun u hu => ?_
  simp only [List.mem_cons, List.not_mem_nil, or_false] at hu
  rcases hu with rfl | rfl <;> rfl
theorem five (cs : Array Value) (h : cs.size = 5) : ∃ a b c d e, cs = #[a, b, c, d, e] := by
  rcases cs with ⟨l⟩
  match l, h with
  | [a, b, c, d, e], _ => exact ⟨a, b, c, d, e, rfl⟩
theorem Kp.row {S : Nat → Prop} {w w' : World} (h : Kp S w w') {g : Nat} (hg : w.heap.size ≤ g) (cs : Array Value) : Kp S w (w'.setRow g cs) :=
  ⟨h.os, h.tape, h.output, by simpa using h.size, fun i hi hn => (heap_setRow_other w' g cs i (by omega)).trans (h.block i hi hn)⟩
theorem Kp.drewR {S : Nat → Prop} {w w' : World} (h : Kp S w w') : Kp S w w'.drew := ⟨h.os, h.tape, h.output, h.size, h.block⟩
theorem Kp.rowAt {S : Nat → Prop} {w : World} {g : Nat} (hg : S g) (cs : Array Value) : Kp S w (w.setRow g cs) :=
  ⟨rfl, rfl, rfl, by simp, fun i hi hn => heap_setRow_other w g cs i (fun e => hn (e ▸ hg))⟩
theorem JnA.kp {B : Nat} {w w' : World} {j : Nat} {vS vN : Value} {T : List Pl} {J : Jn} {S : Nat → Prop} (h : JnA B w j vS vN T J) (k : Kp S w w') (hn : ∀ i, JS j vS vN T i → ¬ S i) : JnA B w' j vS vN T J :=
  ⟨h.hj.kp k (hn _ (.inl rfl)), h.bj, h.s.kp k (fun b hb => hn _ (.inr (.inl hb))), h.n.kp k (fun b hb => hn _ (.inr (.inr (.inl hb)))), h.len, fun i t m h1 h2 => (h.ms i t m h1 h2).kp k (hn _ (.inr (.inr (.inr ⟨t, List.mem_of_getElem? h1, .inl rfl⟩)))) (hn _ (.inr (.inr (.inr ⟨t, List.mem_of_getElem? h1, .inr (.inl rfl)⟩)))) (hn _ (.inr (.inr (.inr ⟨t, List.mem_of_getElem? h1, .inr (.inr rfl)⟩)))), h.dx, h.dp, h.dc, h.np, h.bd⟩
theorem JnA.notIn {B : Nat} {w : World} {j : Nat} {vS vN : Value} {T : List Pl} {J : Jn} {g : Nat} {u : TypeId} {cs : Array Value} (h : JnA B w j vS vN T J) (hg : Blk w g u cs) (hu : u ∉ [63, 70, 9, 72, 4]) : ¬ JS j vS vN T g := by
  rintro (rfl | e | e | ⟨t, ht, e⟩)
  · exact hu (by rw [(hg.ty h.hj).1]; decide)
  · obtain ⟨_, cs, h2⟩ := h.s.typed _ e; exact hu (by rw [(hg.ty h2).1]; decide)
  · obtain ⟨_, cs, h2⟩ := h.n.typed _ e; exact hu (by rw [(hg.ty h2).1]; decide)
  · obtain ⟨m, hm⟩ := h.mem ht
    rcases e with rfl | rfl | rfl
    · exact hu (by rw [(hg.ty hm.x).1]; decide)
    · exact hu (by rw [(hg.ty hm.p).1]; decide)
    · exact hu (by rw [(hg.ty hm.c).1]; decide)
theorem ptOf_id (s : List UInt8) : (ptOf s).id.length ≤ 140737488355328 := by
  show (s.take 8).length ≤ _
  rw [List.length_take]; omega
theorem okP_text (s : List UInt8) (h : okP s = true) : (ptOf s).text.length ≤ 200 := by
  unfold okP at h
  simp only [Bool.and_eq_true, decide_eq_true_eq] at h
  have h3 := h.2.2
  have : highP (ptOf s) ≤ 200 := by unfold highP; split <;> omega
  show (s.drop 16).length ≤ 200
  omega
theorem beq_dec (a b : List UInt8) : (a == b) = decide (a = b) := by
  by_cases h : a = b
  · rw [decide_eq_true h]; exact beq_iff_eq.mpr h
  · rw [decide_eq_false h]; exact beq_eq_false_iff_ne.mpr h
theorem join_flat (l : List (List UInt8)) : Lib.join ((l.map fun s => (⟨s.toArray⟩ : ByteArray)).map (·.data.toList)) (⟨#[]⟩ : ByteArray).data.toList = l.flatten := by
  have e : (l.map fun s => (⟨s.toArray⟩ : ByteArray)).map (·.data.toList) = l := by
    rw [List.map_map]
    exact (List.map_congr_left (fun s _ => rfl)).trans (List.map_id l)
  rw [e]
  cases l with
  | nil => rfl
  | cons x r => rw [Lib.join_cons]; simp [Lib.joinTail]
theorem flatten_le : ∀ l : List (List UInt8), (∀ s ∈ l, s.length ≤ 200) → l.flatten.length ≤ 200 * l.length
  | [], _ => by simp
  | x :: r, h => by
    have h1 := h x (List.mem_cons_self ..)
    have h2 := flatten_le r (fun s hs => h s (List.mem_cons_of_mem _ hs))
    simp only [List.flatten_cons, List.length_append, List.length_cons]
    omega
theorem joined {B : Nat} {w : World} {t : Pl} {m : Ms} (h : MsA B w t m) : Calls Tryd.prog 27 #[.slice (some ⟨t.p, 0, none⟩) m.pcs.length m.pcs.length, .string ⟨#[]⟩] w fun e w' => e = .returned (.string ⟨m.pcs.flatten.toArray⟩) ∧ Below w.heap.size w w' := by
  have hlen := flatten_le m.pcs h.sz
  have hn := h.n
  have := Tryd.strings_Join t.p 0 m.pcs.length (m.pcs.map fun s => (⟨s.toArray⟩ : ByteArray)) ⟨#[]⟩ w (fun j x hx => by
    rw [Nat.zero_add, h.p.cell j]
    rw [List.getElem?_map] at hx
    cases hs : m.pcs[j]? with
    | none => rw [hs] at hx; cases hx
    | some y => rw [hs] at hx; cases hx; simp [cstr, hs]) h.p.lt (by rw [List.length_map]; omega) (by rw [List.length_map]; exact Nat.le_refl _) (by rw [join_flat]; omega)
  rw [join_flat, List.length_map] at this
  exact this
theorem KsAt.belowB {B : Nat} {w w' : World} (h : KsAt w) (hg : 1 < B) (hb : Below B w w') : KsAt w' := fun i hi => (hb.cell (p := ⟨1, i, none⟩) hg).trans (h i hi)
end Go.Proofs.YtlogcgeinbefjaaDoor

/- The joiner in memory; its small calls. -/
import Derived.Test.YtlogcgeinbefjaaDoorPtR
import Derived.Test.YtlogcgeinbefjaaDoorHashC
import Derived.Test.YtlogcgeinbefjaaDoorHashV
namespace Go.Proofs.YtlogcgeinbefjaaDoor
open Go.RowKit Go.Proofs.YtlogcgeinbefjaaDoorW.PrintWords Go.Proofs.YtlogcgeinbefjaaDoorW.PrintLast
set_option linter.unusedSimpArgs false
set_option linter.unusedVariables false
set_option maxRecDepth 20000
/-- a message that is not whole. -/
structure Ms where
  id : List UInt8
  sum : List UInt8
  pcs : List (List UInt8)
  came : List Bool
  left : Int
structure Jn where
  most : Nat
  noted : Nat
  some : List Ms
  done : List (List UInt8)
/-- where a message lies: its block, its pieces', what came. -/
structure Pl where
  x : Nat
  p : Nat
  c : Nat
def msC (t : Pl) (m : Ms) : Array Value := #[.string ⟨m.id.toArray⟩, .string ⟨m.sum.toArray⟩, .slice (some ⟨t.p, 0, none⟩) m.pcs.length m.pcs.length, .slice (some ⟨t.c, 0, none⟩) m.pcs.length m.pcs.length, .int .i64 m.left]
def bls (l : List Bool) : List Value := l.map fun b => Value.bool b
structure MsA (B : Nat) (w : World) (t : Pl) (m : Ms) : Prop where
  x : Blk w t.x 72 (msC t m)
  p : Blk w t.p 9 (cstr m.pcs).toArray
  c : Blk w t.c 4 (bls m.came).toArray
  l : m.came.length = m.pcs.length
  b : B ≤ t.x ∧ B ≤ t.p ∧ B ≤ t.c
  n : 1 ≤ m.pcs.length ∧ m.pcs.length ≤ 11
  lf : 0 ≤ m.left ∧ m.left ≤ 11
  sz : ∀ s ∈ m.pcs, s.length ≤ 200
def ptrX (T : List Pl) : List Value := T.map fun t => .pointer (some ⟨t.x, 0, none⟩)
def jC (vS vN : Value) (J : Jn) : Array Value := #[.int .i64 (J.most : Nat), vS, .int .i64 (J.noted : Nat), vN]
structure JnA (B : Nat) (w : World) (j : Nat) (vS vN : Value) (T : List Pl) (J : Jn) : Prop where
  hj : Blk w j 63 (jC vS vN J)
  bj : B ≤ j
  s : Win 70 w B vS (ptrX T)
  n : Win 9 w B vN (cstr J.done)
  len : T.length = J.some.length
  ms : ∀ (i : Nat) (t : Pl) (m : Ms), T[i]? = some t → J.some[i]? = some m → MsA B w t m
  dx : (T.map (·.x)).Nodup
  dp : (T.map (·.p)).Nodup
  dc : (T.map (·.c)).Nodup
  np : ∀ t ∈ T, vN.ownBlock ≠ some t.p
  bd : (1 ≤ J.most ∧ J.most ≤ 1024) ∧ (1 ≤ J.noted ∧ J.noted ≤ 1024) ∧ J.some.length ≤ J.most ∧ J.done.length ≤ J.noted
section
variable {B : Nat} {w w' : World} {j : Nat} {vS vN : Value} {T : List Pl} {J : Jn} {t : Pl} {m : Ms}
theorem MsA.below (h : MsA B w t m) (hb : Below w.heap.size w w') : MsA B w' t m := ⟨h.x.below hb h.x.lt, h.p.below hb h.p.lt, h.c.below hb h.c.lt, h.l, h.b, h.n, h.lf, h.sz⟩
theorem JnA.below (h : JnA B w j vS vN T J) (hb : Below w.heap.size w w') : JnA B w' j vS vN T J :=
  ⟨h.hj.below hb h.hj.lt, h.bj, h.s.below hb, h.n.below hb, h.len, fun i t m h1 h2 => (h.ms i t m h1 h2).below hb, h.dx, h.dp, h.dc, h.np, h.bd⟩
theorem JnA.at_ (h : JnA B w j vS vN T J) (i : Nat) (hi : i < J.some.length) : ∃ t b off cap, T[i]? = some t ∧ vS = .slice (some ⟨b, off, none⟩) J.some.length cap ∧ w.cell? ⟨b, off + i, none⟩ = some (.pointer (some ⟨t.x, 0, none⟩)) ∧ MsA B w t J.some[i] := by
  have hT : i < T.length := by rw [h.len]; exact hi
  have hp : (ptrX T).length = J.some.length := by simp [ptrX, h.len]
  obtain ⟨b, off, cap, hv, _, _, hc⟩ := h.s.at_ i (by rw [hp]; exact hi)
  rw [hp] at hv
  exact ⟨T[i], b, off, cap, List.getElem?_eq_getElem hT, hv, by rw [hc]; simp [ptrX, List.getElem?_eq_getElem hT], h.ms i _ _ (List.getElem?_eq_getElem hT) (List.getElem?_eq_getElem hi)⟩
end
/-! ### small calls -/
def digL (id body : List UInt8) : List UInt8 := (sha (id ++ body)).take 6
set_option maxHeartbeats 800000 in
theorem digest_any (id body : List UInt8) (w : World) (h1 : id.length ≤ 140737488355328) (h2 : body.length ≤ 140737488355328) (hk : KsAt w) (hks : 1 < w.heap.size) :
    Calls Tryd.prog 19 #[.string ⟨id.toArray⟩, .string ⟨body.toArray⟩] w fun e w' => e = .returned (.string ⟨(digL id body).toArray⟩) ∧ Below w.heap.size w w' := by
  have HS := Lib.hid (show ∀ (W : World) (A : Option Addr), Strs W A 2 [id, body] → KsAt W → 1 < W.heap.size → Calls Tryd.prog 33 #[.int .i64 6, .slice A 2 2] W fun e w' => e = .returned (.tuple #[.string ⟨(digL id body).toArray⟩, .int .i64 0]) ∧ Below W.heap.size W w' from fun W A hS hk hg => by
    have := short_any 6 (by decide) (by decide) A 2 2 W [id, body] hS (by
      intro y hy
      rcases List.mem_cons.1 hy with h | h
      · rw [h]; exact h1
      · rw [List.mem_singleton.1 h]; exact h2) (by decide) hk hg
    have e : ([id, body] : List (List UInt8)).flatten = id ++ body := by simp
    rw [e] at this
    exact this)
  have HST := Lib.hid (fun W : World => strs_two W 9 id body)
  have HK := Lib.hid hk
  have HKS := Lib.hid hks
  obtain ⟨ib, IB⟩ : ∃ t : ByteArray, Hid (⟨id.toArray⟩ = t) := ⟨_, Lib.hid rfl⟩
  obtain ⟨bb, BB⟩ : ∃ t : ByteArray, Hid (⟨body.toArray⟩ = t) := ⟨_, Lib.hid rfl⟩
  obtain ⟨rb, RB⟩ : ∃ t : ByteArray, Hid (⟨(digL id body).toArray⟩ = t) := ⟨_, Lib.hid rfl⟩
  rw [RB.out] at HS ⊢
  rw [IB.out, BB.out] at HST ⊢
  clear h1 h2 hk hks
  go_enter Tryd.func19, Tryd.ntmps19
  go_wp2_with fail
  refine (HS.out _ _ (HST.out w) (HK.out.below HKS.out ((Below.refl _ _).alloc (Nat.le_refl _) _)) (Nat.lt_of_lt_of_le HKS.out (by simp))).mono ?_
  rintro e w1 ⟨rfl, b1⟩
  have B1 := Lib.hid ((show Below w.heap.size w (w.alloc _) from (Below.refl _ _).alloc (Nat.le_refl _) _).trans (b1.mono (by simp)))
  clear b1
  go_wp2_with fail
  go_ret
  exact ⟨rfl, B1.out⟩
set_option maxHeartbeats 400000 in
theorem byId_any (x b : Nat) (id : List UInt8) (t : TypeId) (cs cs' : Array Value) (i2 : List UInt8) (w : World) (hx : Blk w x 72 cs) (h0 : cs[0]? = some (.string ⟨i2.toArray⟩)) (hb : Blk w b 65 cs') (h1 : cs'[0]? = some (.string ⟨id.toArray⟩)) :
    Calls Tryd.prog 24 #[.pointer (some ⟨x, 0, none⟩), .pointer (some ⟨b, 0, none⟩)] w fun e w' => e = .returned (.bool (i2 == id)) ∧ Below w.heap.size w w' := by
  have nb : ∀ n, Below w.heap.size w (w.drewN n) := fun n => below_drewN (Below.refl _ _) n
  have HE := Lib.hid (show ((⟨i2.toArray⟩ : ByteArray).toList == (⟨id.toArray⟩ : ByteArray).toList) = (i2 == id) by rw [ByteArray.toList_eq, ByteArray.toList_eq])
  have c0 : w.cell? ⟨x, 0, none⟩ = some (.string ⟨i2.toArray⟩) := (hx.cell 0).trans h0
  have c1 : w.cell? ⟨b, 0, none⟩ = some (.string ⟨id.toArray⟩) := (hb.cell 0).trans h1
  obtain ⟨ib, IB⟩ : ∃ t : ByteArray, Hid (⟨id.toArray⟩ = t) := ⟨_, Lib.hid rfl⟩
  obtain ⟨bb, BB⟩ : ∃ t : ByteArray, Hid (⟨i2.toArray⟩ = t) := ⟨_, Lib.hid rfl⟩
  rw [IB.out] at c1 HE
  rw [BB.out] at c0 HE
  clear hx hb h0 h1
  go_enter Tryd.func24, Tryd.ntmps24
  go_wp2_with fail
  go_quiet (fail)
  go_wp2_with fail
  go_ret
  exact ⟨by rw [← HE.out]; rfl, nb _⟩
end Go.Proofs.YtlogcgeinbefjaaDoor

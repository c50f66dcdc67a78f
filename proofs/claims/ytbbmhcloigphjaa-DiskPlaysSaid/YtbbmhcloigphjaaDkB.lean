/- A wait, built, boxed, and put into a fresh row: the laws of these operations with the cells as a list. -/
import Derived.Test.YtbbmhcloigphjaaDkT
import Derived.Test.YtbbmhcloigphjaaWWords
import Derived.Test.YtbbmhcloigphjaaWLast
import Derived.Test.YtbbmhcloigphjaaWTab
import Derived.Great.BuildSlice
namespace Go.Proofs.Ytbbmhcloigphjaa
open Go.RowKit
set_option linter.unusedSimpArgs false
set_option linter.unusedVariables false
def z8 : Value := .int .u8 0
def zs64 : List UInt8 := List.replicate 64 0
theorem cb_zs64 : cb zs64 = List.replicate 64 z8 := by
  unfold cb zs64
  rw [List.map_replicate]
  rfl
def zWt : List Value := .int .i64 0 :: List.replicate 128 z8
theorem zWt_size : zWt.toArray.size = 129 := by simp [zWt]
/-- a part's cells set. -/
theorem put_cells (off : Nat) (vs : List Value) (cs : Array Value) (h : off + vs.length ≤ cs.size) :
    (vs.zipIdx.foldl (fun cs (x : Value × Nat) => cs.setIfInBounds (off + x.2) x.1) cs) = (cs.toList.take off ++ vs ++ cs.toList.drop (off + vs.length)).toArray := by
  obtain ⟨h1, h2⟩ := Go.Great.foldl_set off vs 0 cs
  apply Array.ext_getElem?
  intro k
  rw [show vs.zipIdx = vs.zipIdx 0 from rfl, h2 k]
  have hc : cs.toList.length = cs.size := by simp
  simp only [Nat.add_zero, List.getElem?_toArray]
  by_cases hk : off ≤ k ∧ k < off + vs.length ∧ k < cs.size
  · rw [if_pos hk, List.append_assoc, List.getElem?_append_right (by rw [List.length_take]; omega), List.length_take, List.getElem?_append_left (by omega)]
    congr 1
    omega
  · rw [if_neg hk]
    by_cases hlo : k < off
    · rw [List.append_assoc, List.getElem?_append_left (by rw [List.length_take]; omega), List.getElem?_take_of_lt hlo]
      simp
    · have hge : off + vs.length ≤ k := by omega
      rw [List.append_assoc, List.getElem?_append_right (by rw [List.length_take]; omega), List.length_take, List.getElem?_append_right (by omega), List.getElem?_drop]
      rw [show off + vs.length + (k - min off cs.toList.length - vs.length) = k by omega]
      simp
theorem fill_step {place : Nat → Option (Nat × Nat)} {cells : Array Value} {i off size : Nat} {v : Value} {rest : List (Nat × Value)} (hp : place i = some (off, size)) (hs : v.cells.size = size) (hl : off + size ≤ cells.size) :
    Instr.fill place cells ((i, v) :: rest) = Instr.fill place (cells.toList.take off ++ v.cells.toList ++ cells.toList.drop (off + v.cells.toList.length)).toArray rest := by
  rw [← put_cells off v.cells.toList cells (by simp; omega)]
  conv => lhs; unfold Instr.fill
  simp only [hp]
  rw [if_neg (by simp [hs]; omega)]
  congr 1
  rw [← Array.foldl_toList]
  congr 1
  simp [Array.toList_zipIdx]
def wtPlaces : Array (Nat × Nat) := #[(0, 1), (1, 64), (65, 64)]
theorem build_fill (x y : Value) : Try.prog.built 66 [(0, x), (1, y)] = Instr.fill (wtPlaces[·]?) zWt.toArray [(0, x), (1, y)] := by kernel_rfl
theorem build_wait (m : Int) (o : List UInt8) (ho : o.length = 64) : Try.prog.built 66 [(0, .int .i64 m), (1, .agg (cb o).toArray)] = some (.int .i64 m :: (cb o ++ cb zs64)).toArray := by
  rw [build_fill, fill_step (off := 0) (size := 1) rfl rfl (by simp [zWt])]
  have e1 : (List.take 0 zWt.toArray.toList ++ (Value.int .i64 m).cells.toList ++ List.drop (0 + (Value.int .i64 m).cells.toList.length) zWt.toArray.toList) = Value.int .i64 m :: List.replicate 128 z8 := by simp [zWt, Value.cells]
  rw [e1, fill_step (off := 1) (size := 64) rfl (by simp [Value.cells, cb_length, ho]) (by simp)]
  have e2 : ((Value.int .i64 m :: List.replicate 128 z8).toArray.toList.take 1 ++ (Value.agg (cb o).toArray).cells.toList ++ (Value.int .i64 m :: List.replicate 128 z8).toArray.toList.drop (1 + (Value.agg (cb o).toArray).cells.toList.length)) = Value.int .i64 m :: (cb o ++ cb zs64) := by
    rw [cb_zs64]
    have : (Value.agg (cb o).toArray).cells.toList = cb o := by simp [Value.cells]
    rw [this, cb_length, ho]
    simp [Nat.add_comm 1]
  rw [e2]
  rfl
theorem alloc_wait (W : World) : (Instr.alloc 66 true (.tuple #[])).run Try.prog W = .ok (.pointer (some ⟨W.heap.size, 0, none⟩)) (W.alloc (.cells zWt.toArray 66 (0, 0))) := by kernel_rfl
theorem row_wait (W : World) (ys : List Value) (hy : ys.length = 129) : (Instr.buildSlice 57 1 #[(0, .agg ys.toArray)]).run Try.prog W = .ok (.slice (some ⟨W.heap.size, 0, none⟩) 1 1) (W.alloc (.cells ys.toArray 66)) := by
  obtain ⟨ie, hie, hp⟩ : ∃ ie, Try.prog.info? 66 = some ie ∧ (ie.zero.map (·.cells) = some zWt.toArray ∧ ie.size = 129) := by
    have h : (Try.prog.info? 66).map (fun i => (i.zero.map (·.cells), i.size)) = some (some zWt.toArray, 129) := by kernel_rfl
    obtain ⟨ie, h1, h2⟩ := Option.map_eq_some_iff.1 h
    simp only [Prod.mk.injEq] at h2
    exact ⟨ie, h1, h2⟩
  obtain ⟨hz, hs⟩ := hp
  obtain ⟨z, hz1, hz2⟩ := Option.map_eq_some_iff.1 hz
  refine run_buildSlice W _ _ 1 _ ys.toArray ie z (by kernel_rfl) hie hz1 (by rw [hs]; decide) (by rw [hs]; decide) ?_
  rw [hs, hz2]
  have hsz : ((Array.range (1 * 129)).map (zWt.toArray[· % zWt.toArray.size]!)).size = 129 := by simp
  generalize (Array.range (1 * 129)).map (zWt.toArray[· % zWt.toArray.size]!) = Z at hsz
  rw [show (#[(0, Value.agg ys.toArray)] : Array (Nat × Value)).toList = [(0, Value.agg ys.toArray)] from rfl, fill_step (off := 0) (size := 129) rfl (by simp [Value.cells, hy]) (by omega)]
  have : (Value.agg ys.toArray).cells.toList = ys := by simp [Value.cells]
  rw [this, hy, List.drop_eq_nil_of_le (by simp; omega)]
  simp [Instr.fill]
/-! ### The operations, as they are carried out -/
section
variable {P : Program} {op : Oper} {a : Act} {w : World}
theorem exec_load_mid (ty : TypeId) (x : Operand) (ho : op.op = .load ty x) (b o : Nat) (hx : a.eval x = .pointer (some ⟨b, o, none⟩)) (cs : List Value) (d : TypeDesc) (hc : w.rangeAt b o cs)
    (hu : P.underlying ty = some d) (hd : d.isRow = true) (hi : (P.info? ty).map (·.size) = some cs.length) : (execOp a.eval op).run P w = .ok (.value (.agg cs.toArray)) w := by
  unfold execOp
  simp only [ho, hx, Instr.loadAt, Instr.sureAddr, Sem.run_bind, Sem.run_pure, Result.andThen_ok, run_loadVar_mid w b o ty cs d hc hu hd hi]
theorem exec_store_mid (ty : TypeId) (x y : Operand) (ho : op.op = .store ty x y) (b o : Nat) (cells : Array Value) (hx : a.eval x = .pointer (some ⟨b, o, none⟩)) (hy : a.eval y = .agg cells)
    (ht : w.there b o cells.size) (hi : (P.info? ty).map (·.size) = some cells.size) (h1 : cells.all (·.oneCell') = true) : (execOp a.eval op).run P w = .ok .skip (w.setCells b o cells.toList) := by
  unfold execOp
  simp only [ho, hx, hy, Instr.storeAt, Instr.sureAddr, Sem.run_bind, Sem.run_pure, Result.andThen_ok, run_storeVar_mid w b o ty cells ht hi h1]
end
theorem exec_row_wait {op : Oper} {a : Act} (W : World) (x : Operand) (ho : op.op = .buildSlice 57 1 #[(0, x)]) (ys : List Value) (hx : a.eval x = .agg ys.toArray) (hy : ys.length = 129) :
    (execOp a.eval op).run Try.prog W = .ok (.value (.slice (some ⟨W.heap.size, 0, none⟩) 1 1)) (W.alloc (.cells ys.toArray 66)) := by
  unfold execOp
  simp only [ho, List.map_toArray, List.map_cons, List.map_nil, hx, Sem.run_bind, Sem.run_pure, row_wait W ys hy, Result.andThen_ok]
def zWtV : Value := .agg zWt.toArray
theorem info_wait : (Try.prog.info? 66).map (fun i => (i.zero, i.size, i.bytes)) = some (some zWtV, 129, 136) := by kernel_rfl
theorem zWtV_size : zWtV.cells.size = 129 := by show zWt.toArray.size = 129; exact zWt_size
end Go.Proofs.Ytbbmhcloigphjaa

/- A struct of two texts that comes in by value: opened, and its sizes. The law StreamBytes: so many bytes of the stream are those of the document. The law StreamBytes of dovecotelaw05: for every input that its statement speaks of, the call returns true and its arguments read as they did. Conditions: none but the row's own. -/
import Derived.Test.YtomflcpebnebpaaFrame
import Derived.Lib.SmallJoins
import Derived.Test.YtomflcpebnebpaaPureB
import Derived.Test.YtomflcpebnebpaaPStrx6
import Derived.Test.YtomflcpebnebpaaRows
namespace Go.Proofs.Ytomflcpebnebpaa
open Go.ChangeShapes Go.WideShapes Go.ChangeAt Go.RowKit Go.Joins Go.Deep Go.WideElems Go.Maps
open Go.ChangeMaps (open_string shut_string)
set_option linter.unusedSimpArgs false
set_option linter.unusedVariables false
section
variable {H : Type} {enc : TypeId × Value → H} {P : Program} {w : World} {base : Nat} {sp : Nat → Bool} {held : Bool} {r : Reach} {b0 : Nat} {t : TypeId} {v : Value} {d : DataW H} {ps : List MemPlace}
theorem trod_text {n : Nat} {t : TypeId} {v : Value} {y : DataW H × List MemPlace} (ht : P.underlying t = some .string) (h : DataW.trod enc P w base sp held n t [v] = some y) : ∃ l : List UInt8, v = .string ⟨l.toArray⟩ ∧ y.1 = .lit (.string l) := by
  obtain ⟨s, hs, rfl, _⟩ := DataW.trod_string ht h
  injection hs with hs
  exact ⟨s.data.toList, by rw [hs, ← bytes_eq], rfl⟩
theorem open_key {f0 f1 : Field} (hs : P.underlying t = some (.struct #[f0, f1])) (hone : oneCellFields P #[f0, f1] = true) (hC : P.cellsOf t = 2) (h0 : P.underlying f0.type = some .string) (h1 : P.underlying f1.type = some .string)
    (hval : Value.okWide P w r b0 t v) (hd : DataW.Trod enc P w base sp held t v d ps) :
    ∃ l0 l1 : List UInt8, v = .agg #[.string ⟨l0.toArray⟩, .string ⟨l1.toArray⟩] ∧ d = .agg [.lit (.string l0), .lit (.string l1)] := by
  obtain ⟨v0, v1, y0, y1, n, rfl, rfl, rfl, t0, t1⟩ := open_agg2 hs hone hC hval hd
  obtain ⟨l0, rfl, e0⟩ := trod_text h0 t0
  obtain ⟨l1, rfl, e1⟩ := trod_text h1 t1
  exact ⟨l0, l1, rfl, by rw [e0, e1]⟩
theorem sized_key {ts : List TypeId} {ds : List (DataW H)} (h : (DataW.weightsEach P ts ds).all (· ≤ reachBytes) = true) {j : Nat} {t : TypeId} {f0 f1 : Field} {l0 l1 : List UInt8} (hs : P.underlying t = some (.struct #[f0, f1])) (ht : ts[j]? = some t) (hd : ds[j]? = some (.agg [.lit (.string l0), .lit (.string l1)])) :
    l0.length ≤ reachBytes ∧ l1.length ≤ reachBytes := by
  constructor
  · have := List.all_eq_true.1 h _ (DataW.weights_mem_each ht hd l0.length (by simp [DataW.weights, hs, DataW.weightsEach]))
    simpa using this
  · have := List.all_eq_true.1 h _ (DataW.weights_mem_each ht hd l1.length (by simp [DataW.weights, hs, DataW.weightsEach]))
    simpa using this
end
end Go.Proofs.Ytomflcpebnebpaa
namespace Go.Proofs.Ytomflcpebnebpaa.PStr
open Go.RowKit Go.Proofs.YtomflcpebnebpaaW.PrintWords Go.Proofs.YtomflcpebnebpaaW.PrintLast Go.Proofs.YtomflcpebnebpaaW.PrintMore
set_option linter.unusedSimpArgs false
set_option linter.unusedVariables false
theorem wrong_ev (a0 a1 : ByteArray) (a2 : Int) : Ev (fun k => stream_wrong.f k a0 a1 a2) (wrongN a0.data.toList.length a1.data.toList.length a2) := by
  refine ⟨1, fun k hk => ?_⟩
  obtain ⟨k, rfl⟩ : ∃ m, k = m + 1 := ⟨k - 1, by omega⟩
  have e0 : a0.data.toList.length = a0.size := data_length a0
  have e1 : a1.data.toList.length = a1.size := data_length a1
  rw [e0, e1]
  unfold stream_wrong.f wrongN
  simp only [stream_wrong.j0]
  by_cases h1 : a0.size = 32
  · rw [if_pos (by omega)]
    by_cases h2 : a1.size = 12
    · have e2 : ((a1.size : Int) != 12) = false := by rw [h2]; rfl
      rw [e2, if_neg (show ¬ (a0.size ≠ 32 ∨ a1.size ≠ 12) by omega)]
      simp only [Bool.false_eq_true, if_false]
      by_cases h3 : a2 < 0
      · rw [if_pos h3, if_pos (Or.inl h3)]
      · rw [if_neg h3]
        by_cases h4 : 4294967295 < a2
        · rw [if_pos h4, if_pos (Or.inr h4)]
        · rw [if_neg h4, if_neg (by omega)]
    · have e2 : ((a1.size : Int) != 12) = true := by rw [bne_iff_ne]; omega
      rw [e2, if_pos (show (a0.size ≠ 32 ∨ a1.size ≠ 12) by omega)]
      simp only [if_true]
  · rw [if_neg (by omega), if_pos (show (a0.size ≠ 32 ∨ a1.size ≠ 12) by omega)]
    simp only [if_true]
/-- what so many bytes are, and what is wrong. -/
def bytesE (kl nl : Nat) (n : Int) : Int := if wrongN kl nl 0 = 0 then (if n < 0 ∨ 65536 < n then 1 else 0) else wrongN kl nl 0
def bytesL (key nonce : List UInt8) (n : Int) : List UInt8 := if wrongN key.length nonce.length 0 = 0 then (if n < 0 ∨ 65536 < n then [] else strL key nonce 0 n.toNat) else []
theorem refBytes_ev (a0 a1 : ByteArray) (n : Int) : Ev (fun k => dovecoteref05_Bytes.f k a0 a1 n) (⟨(bytesL a0.data.toList a1.data.toList n).toArray⟩, bytesE a0.data.toList.length a1.data.toList.length n) := by
  unfold dovecoteref05_Bytes.f
  refine Ev.bind (may_ev a0 a1 0) ?_
  by_cases h : wrongN a0.data.toList.length a1.data.toList.length 0 = 0
  · obtain ⟨h0, h1, h2, h3⟩ := wrongN_ok h
    rw [data_length] at h0 h1
    by_cases hn : n < 0 ∨ 65536 < n
    · refine Ev.congr (f := fun _ => some (⟨(bytesL a0.data.toList a1.data.toList n).toArray⟩, bytesE a0.data.toList.length a1.data.toList.length n)) (fun k => ?_) (Ev.now _)
      rw [if_pos h, bytesL, bytesE, if_pos h, if_pos h, if_pos hn, if_pos hn]
      by_cases h3 : n < 0
      · rw [if_pos h3]
      · rw [if_neg h3, if_pos (by omega)]
    · refine Ev.congr (f := fun k => (dovecoteref05_Stream.f k a0 a1 (n32 0#32) ((n.toNat : Nat) : Int)).bind fun t203 => some (t203, 0)) (fun k => ?_) (Ev.bind (Stream_ev a0 a1 0#32 n.toNat (by omega) h0 h1) ?_)
      · rw [if_pos h, if_neg (by omega), if_neg (by omega), show ((n.toNat : Nat) : Int) = n by omega]
        rfl
      · rw [bytesL, bytesE, if_pos h, if_pos h, if_neg hn, if_neg hn]
        exact Ev.now _
  · refine Ev.congr (f := fun _ => some (⟨(bytesL a0.data.toList a1.data.toList n).toArray⟩, bytesE a0.data.toList.length a1.data.toList.length n)) (fun k => ?_) (Ev.now _)
    rw [if_neg h, bytesL, bytesE, if_neg h, if_neg h]
theorem ownBytes_ev (a0 a1 : ByteArray) (n : Int) : Ev (fun k => stream_Bytes.f k a0 a1 n) (⟨(bytesL a0.data.toList a1.data.toList n).toArray⟩, bytesE a0.data.toList.length a1.data.toList.length n) := by
  unfold stream_Bytes.f
  refine Ev.bind (wrong_ev a0 a1 0) ?_
  by_cases h : wrongN a0.data.toList.length a1.data.toList.length 0 = 0
  · by_cases hn : n < 0 ∨ 65536 < n
    · refine Ev.step (f := fun _ => some (⟨(bytesL a0.data.toList a1.data.toList n).toArray⟩, bytesE a0.data.toList.length a1.data.toList.length n)) (fun k => ?_) (Ev.now _)
      rw [if_pos h, bytesL, bytesE, if_pos h, if_pos h, if_pos hn, if_pos hn]
      simp only [stream_Bytes.j0]
      by_cases h3 : n < 0
      · rw [if_pos h3]; simp only [if_true]
      · rw [if_neg h3, show decide (n > 65536) = true by simp; omega]; simp only [if_true]
    · refine Ev.step (f := fun _ => some (⟨(bytesL a0.data.toList a1.data.toList n).toArray⟩, bytesE a0.data.toList.length a1.data.toList.length n)) (fun k => ?_) (Ev.now _)
      rw [if_pos h, bytesL, bytesE, if_pos h, if_pos h, if_neg hn, if_neg hn, if_neg (by omega), show decide (n > 65536) = false by simp; omega]
      simp only [stream_Bytes.j0, Bool.false_eq_true, if_false]
      have hr : strings_Repeat.f (⟨#[0]⟩ : ByteArray) n = some ⟨(List.replicate n.toNat (0 : UInt8)).toArray⟩ := by
        unfold strings_Repeat.f
        rw [if_pos ⟨by omega, by omega, by simp [ByteArray.size]; omega⟩, repeat_zero]
      rw [hr]
      simp only [Option.bind_some]
      unfold stream_Xor.f
      rw [if_pos (by rw [size_mk, List.length_replicate]; omega)]
      simp only [Option.bind_some]
      rw [xorL, xorE, if_pos h, if_pos h, if_pos (by rw [List.length_replicate]; omega), if_pos (by rw [List.length_replicate]; omega)]
      rw [List.length_replicate, xorS_zeros]
      rfl
  · refine Ev.congr (f := fun _ => some (⟨(bytesL a0.data.toList a1.data.toList n).toArray⟩, bytesE a0.data.toList.length a1.data.toList.length n)) (fun k => ?_) (Ev.now _)
    rw [if_neg h, bytesL, bytesE, if_neg h, if_neg h]
theorem Bytes_ev (a0 a1 : ByteArray) (n : Int) : Ev (fun k => dovecotelaw05_StreamBytes.f k a0 a1 n) true := by
  have hm : Ev (fun k => dovecotelaw05_StreamBytes.j0 k n true a0 a1) true := by
    refine Ev.step (f := fun k => (dovecotelaw05_works.f k).bind fun t205 => some t205) (fun k => ?_) (Ev.bind works_ev (Ev.now _))
    simp only [dovecotelaw05_StreamBytes.j0, if_true]
  have hf : Ev (fun k => dovecotelaw05_StreamBytes.j0 k n false a0 a1) true := by
    refine Ev.step (fun k => by simp only [dovecotelaw05_StreamBytes.j0, Bool.false_eq_true, if_false]; rfl) ?_
    refine Ev.bind (ownBytes_ev a0 a1 n) (Ev.bind (refBytes_ev a0 a1 n) ?_)
    refine Ev.congr (f := fun k => (dovecotelaw05_works.f k).bind fun t => some t) (fun k => ?_) (Ev.bind works_ev (Ev.now _))
    rw [if_pos rfl, if_pos rfl]
  unfold dovecotelaw05_StreamBytes.f
  by_cases h : n > 5000
  · by_cases h2 : n ≤ 65536
    · refine Ev.congr (fun k => ?_) hm
      rw [if_pos h, show decide (n ≤ 65536) = true by simpa using h2]
    · refine Ev.congr (fun k => ?_) hf
      rw [if_pos h, show decide (n ≤ 65536) = false by simpa using h2]
  · refine Ev.congr (fun k => ?_) hf
    rw [if_neg h]
end Go.Proofs.Ytomflcpebnebpaa.PStr
namespace Go.Proofs.Ytomflcpebnebpaa
open Go.RowKit
set_option linter.unusedVariables false
theorem law_StreamBytes (l0 l1 : List UInt8) (n : Int) (W : World) (h0 : l0.length ≤ 140737488351232) (h1 : l1.length ≤ 140737488351232) :
    Calls Try.prog 8 #[.agg #[.string ⟨l0.toArray⟩, .string ⟨l1.toArray⟩], .int .i64 n] W fun e W' => e = .returned (.bool true) ∧ Below W.heap.size W W' := by
  obtain ⟨k, hk⟩ := (PStr.Bytes_ev ⟨l0.toArray⟩ ⟨l1.toArray⟩ n).rounds
  exact PStr.dovecotelaw05_StreamBytes.calls k ⟨l0.toArray⟩ ⟨l1.toArray⟩ n true W hk
end Go.Proofs.Ytomflcpebnebpaa
namespace Go.Proofs.Ytomflcpebnebpaa.streamBytes
open Go.ChangeShapes Go.WideShapes Go.ChangeAt Go.RowKit Go.Proofs.Ytomflcpebnebpaa
set_option linter.unusedSimpArgs false
set_option linter.unusedVariables false
theorem contract (H : Type) (enc : TypeId × Value → H) (W : World) (base : Nat) (args : Array Value) (ds gs : List (DataW H)) (before : List MemPlace)
    (hval : ∀ (j : Nat) t v, Try.f8.params[j]? = some t → args[j]? = some v → Value.okWide Try.prog W .any base t v)
    (hW : DataW.Whole enc Try.prog Try.f8.params.toList Rows.streamBytesSpec.vars false W args.toList ds gs before)
    (hsz : (DataW.weightsEach Try.prog (Try.f8.params.toList ++ (OpenSpec.ofChange Rows.streamBytesSpec).bare.plain.varTypes Try.prog) (ds ++ gs)).all (· ≤ reachBytes) = true) :
    Calls Try.prog 8 args W fun e W' => ∃ v, e = .returned v ∧ Rows.streamBytesSpec.post enc Try.prog Try.f8 false true false false W args v W' := by
  have hW' := hW
  obtain ⟨p, q, hA0, hV, rfl, hfz, hnd⟩ := hW
  have hA : DataW.TrodAll enc Try.prog W 0 (fun _ => true) true Try.f8.params.toList args.toList ds p := hA0
  rw [Try.params8] at hA hval
  obtain ⟨v0, vs0, d0, ds0, p0, q0, hargs, rfl, rfl, h0, r0⟩ := trodAll_cons hA
  obtain ⟨v1, vs1, d1, ds1, p1, q1, rfl, rfl, rfl, h1, r1⟩ := trodAll_cons r0
  obtain ⟨rfl, rfl, rfl⟩ := trodAll_nil r1
  obtain rfl : args = #[v0, v1] := by cases args; simp_all
  obtain ⟨rfl, rfl⟩ := trodVars_none hV
  obtain ⟨a0, b0, rfl, rfl⟩ := open_key Try.underlying28 (by kernel_rfl) (by kernel_rfl) Try.underlying9 Try.underlying9 (hval 0 28 v0 rfl rfl) h0
  obtain ⟨a1, rfl, rfl, rfl, w1⟩ := open_int Try.underlying3 (hval 1 3 v1 rfl rfl) h1
  have s0 := sized_key hsz (j := 0) (t := 28) Try.underlying28 rfl rfl
  clear hA0
  simp only [List.append_nil] at hW'
  refine (law_StreamBytes a0 b0 a1 W s0.1 s0.2).mono fun e W' ⟨he, hbl⟩ => ?_
  subst he
  exact ⟨_, rfl, post_law laidOut (by rw [Try.params8]; intro t ht; simp only [List.mem_cons, List.not_mem_nil, or_false] at ht; rcases ht with rfl | rfl <;> exact ⟨by kernel_rfl, of_decide_eq_true (by kernel_rfl)⟩) hW' rfl 4 rfl Try.underlying4 rfl rfl rfl hbl⟩
noncomputable def laidWorld (os : Os) : World := World.holding Try.prog os ⟨#[], #[], []⟩
theorem laid_met (os : Os) : laidMet Try.prog Rows.streamBytesRow.laid ((laidWorld os).forCall (fun _ _ => 0) ⟨#[], #[Value.agg #[Value.string ⟨#[]⟩, Value.string ⟨#[]⟩], .int .i64 0], []⟩).memory :=
  laidMet_of_run' 80 (by kernel_rfl) (by kernel_rfl)
theorem reads (os : Os) {H : Type} (enc : TypeId × Value → H) : ∃ places, DataW.whole enc Try.prog ((laidWorld os).forCall (fun _ _ => 0) ⟨#[], #[Value.agg #[Value.string ⟨#[]⟩, Value.string ⟨#[]⟩], .int .i64 0], []⟩).memory Try.f8.params.toList Rows.streamBytesSpec.vars false (#[Value.agg #[Value.string ⟨#[]⟩, Value.string ⟨#[]⟩], .int .i64 0] : Array Value).toList 8 = some ([.agg [.lit (Lit.string []), .lit (Lit.string [])], .lit (.int .i64 0)], [], places) :=
  ⟨[], by kernel_rfl⟩
set_option maxRecDepth 100000 in
theorem lifted (os : Os) (started : os.Started) (H : Type) (enc : TypeId × Value → H) (F : Stop.Interp) :
    ReturnsInHanded {} Try.checked os 8 .any ((OpenSpec.ofChange Rows.streamBytesSpec).preRow enc Try.prog Try.f8 Rows.streamBytesRow.domain false Rows.streamBytesRow.laid) (((OpenSpec.ofChange Rows.streamBytesSpec).at F).post enc Try.prog Try.f8 false true false false) := by
  obtain ⟨places, hx⟩ := reads os enc
  refine returnsInHanded_of_row (C := Try.checked) (s := (OpenSpec.ofChange Rows.streamBytesSpec)) own started (by kernel_rfl) Try.func8
    (witness_row_at (enc := enc) (C := Try.checked) false (laidWorld os) #[Value.agg #[Value.string ⟨#[]⟩, Value.string ⟨#[]⟩], .int .i64 0] rfl (by kernel_rfl) (by kernel_rfl) (by kernel_rfl)
      (OpenSpec.preRow_of_cond 8 hx (by kernel_rfl) (fun k hk => by cases hk) (by kernel_rfl) (laid_met os))) ?_
  intro W base args ds gs before hval hW _ hcond hsz hL _ _
  exact contract H enc W base args ds gs before hval hW hsz
theorem said : Rows.StreamBytesSaid :=
  OpenClaim.holds_of_cond 8 Try.f8 rfl rfl rfl rfl rfl rfl rfl ⟨rfl, rfl, rfl, rfl, rfl⟩ rfl rfl rfl rfl rfl (by kernel_rfl) Try.func8 (by kernel_rfl)
    (of_decide_eq_true (by kernel_rfl)) (by unfold Func.isWrapper; first | (rw [if_pos (by decide +kernel)]; kernel_rfl) | (rw [if_neg (by decide +kernel)]; exact ⟨rfl, rfl⟩))
    (fun os started H enc _ F => by rw [OpenClaim.pre_eq_preRow]; exact lifted os started H enc F)
end Go.Proofs.Ytomflcpebnebpaa.streamBytes

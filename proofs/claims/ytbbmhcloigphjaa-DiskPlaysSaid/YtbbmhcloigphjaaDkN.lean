/- A new disk; a text made 64 long; a number among n. -/
import Derived.Test.YtbbmhcloigphjaaDkW
import Derived.Test.YtbbmhcloigphjaaShelf
namespace Go.Proofs.Ytbbmhcloigphjaa
open Go.RowKit Go.Proofs.YtbbmhcloigphjaaW.PrintWords Go.Proofs.YtbbmhcloigphjaaW.PrintLast
set_option linter.unusedSimpArgs false
set_option linter.unusedVariables false
def Dk.new (n : Nat) : Dk := ⟨List.replicate n zs64, [], 0, false⟩
theorem flat_zeros (n : Nat) : flat (List.replicate n zs64) = List.replicate (n * 64) z8 := by
  induction n with
  | zero => rfl
  | succ n ih =>
    have e : flat (List.replicate (n + 1) zs64) = cb zs64 ++ flat (List.replicate n zs64) := by simp [flat, List.replicate_succ]
    rw [e, ih, cb_zs64, List.replicate_append_replicate, show 64 + n * 64 = (n + 1) * 64 by omega]
theorem made_zeros (m : Nat) : (madeCells (List.replicate 64 z8).toArray m).toList = List.replicate m z8 := by
  unfold madeCells
  apply List.ext_getElem?
  intro k
  simp only [Array.toList_map, Array.toList_range, List.getElem?_map, List.getElem?_replicate]
  by_cases hk : k < m
  · rw [List.getElem?_range hk, if_pos hk]
    have hs : k % (List.replicate 64 z8).toArray.size < 64 := by
      have : (List.replicate 64 z8).toArray.size = 64 := by simp
      rw [this]; exact Nat.mod_lt _ (by decide)
    simp only [Option.map_some]
    congr 1
    rw [getElem!_pos (List.replicate 64 z8).toArray _ hs, List.getElem_toArray, List.getElem_replicate]
  · rw [if_neg hk, List.getElem?_eq_none (by simpa using hk)]
    rfl
def zSec : Value := .agg (List.replicate 64 z8).toArray
theorem info_sector : (Try.prog.info? 64).map (fun i => (i.zero, i.size, i.bytes)) = some (some zSec, 64, 64) := by kernel_rfl
theorem build_disk (A : Option Addr) (n c : Nat) : Try.prog.built 60 [(0, .slice A n c)] = some #[.slice A n c, .slice none 0 0, .int .i64 0, .int .i64 0] := by kernel_rfl
theorem make_disk (w : World) (n : Nat) (hn : n ≤ 1024) :
    ∃ w', (Instr.makeSlice 56 (.int .i64 (n : Int)) (.int .i64 (n : Int))).run Try.prog w = .ok (.slice (some ⟨w.heap.size, 0, none⟩) n n) w' ∧ Blk w' w.heap.size 64 (flat (List.replicate n zs64)).toArray ∧ Below w.heap.size w w' ∧ w.heap.size < w'.heap.size := by
  obtain ⟨i, hi, hh⟩ := Option.map_eq_some_iff.1 info_sector
  simp only [Prod.mk.injEq] at hh
  obtain ⟨hz, hs, hb⟩ := hh
  obtain ⟨w', hr, h2, h3⟩ := run_make_full (P := Try.prog) w w.heap.size 56 64 i zSec 64 (by kernel_rfl) hi hz hs .i64 .i64 n (by rw [hb]; omega) (by have : maxLen = 9223372036854775807 := rfl; omega) (Nat.le_refl _)
  refine ⟨w', hr, ?_, (Below.refl w.heap.size w).grown h3 (Nat.le_refl _) (fun k hk => by cases hk), ?_⟩
  · rcases h2.2 with ⟨e, _⟩ | ⟨g, cap, cur, e, _, hc, _, _, hsz, ht⟩
    · injection e with e; cases e
    · injection e with e1 e2 e3
      injection e1 with e1
      injection e1 with e1
      subst e1 e3
      have hzc : zSec.cells = (List.replicate 64 z8).toArray := rfl
      rw [hzc, made_zeros, List.take_of_length_le (by simp [hsz])] at ht
      rw [flat_zeros, ← ht]
      exact hc
  · rcases h2.2 with ⟨e, _⟩ | ⟨g, cap, cur, e, _, hc, _⟩
    · injection e with e; cases e
    · injection e with e1 e2 e3
      injection e1 with e1
      injection e1 with e1
      subst e1
      exact heap_lt hc
theorem new_any (n : Nat) (h1 : 1 ≤ n) (h2 : n ≤ 1024) (w : World) :
    Calls Try.prog 8 #[.int .i64 n] w fun e w' => ∃ g, e = .returned (.tuple #[.pointer (some ⟨g, 0, none⟩), .int .i64 0]) ∧ DkAt w.heap.size w' g (Dk.new n) ∧ Below w.heap.size w w' := by
  obtain ⟨w1, hmk, hb, hbl, hsz⟩ := make_disk w n h2
  have HB := Lib.hid hb
  have HL := Lib.hid hbl
  have HS := Lib.hid hsz
  have H1 := Lib.hid h1
  have H2 := Lib.hid h2
  have hn0 : 0 ≤ (n : Int) := by omega
  have hn1 : ((n : Int) < 1) = False := eq_false (by omega)
  have hn2 : (1024 < (n : Int)) = False := eq_false (by omega)
  have hbd := build_disk (some ⟨w.heap.size, 0, none⟩) n n
  clear hb hbl hsz h1 h2
  go_enter Try.func8, Try.ntmps8
  go_wp2_with fail
  go_ret2
  refine ⟨w1.heap.size, rfl, ⟨w.heap.size, .slice none 0 0, ?_⟩, HL.out.alloc (Nat.le_of_lt HS.out) _⟩
  refine ⟨?_, HB.out.alloc _, World.ownsRow_nil _ _ _ _, Nat.le_of_lt HS.out, Nat.le_refl _, ⟨?_, ?_, ?_, ?_⟩⟩
  · have := Blk.new w1 60 (dkCells w.heap.size (.slice none 0 0) (Dk.new n))
    have e : dkCells w.heap.size (.slice none 0 0) (Dk.new n) = #[.slice (some ⟨w.heap.size, 0, none⟩) n n, .slice none 0 0, .int .i64 0, .int .i64 0] := by simp [dkCells, Dk.new, isV]
    rw [e] at this ⊢
    exact this
  · intro x hx; rw [List.eq_of_mem_replicate hx]; rfl
  · intro x hx; cases hx
  · show (List.replicate n zs64).length ≤ 1024; rw [List.length_replicate]; exact H2.out
  · show (0 : Int) ≤ 0 ∧ (0 : Int) ≤ 1048576; decide
theorem new_none (n : Int) (h : n < 1 ∨ 1024 < n) (w : World) :
    Calls Try.prog 8 #[.int .i64 n] w fun e w' => e = .returned (.tuple #[.pointer none, .int .i64 1]) ∧ Below w.heap.size w w' := by
  by_cases h1 : n < 1
  · clear h
    go_enter Try.func8, Try.ntmps8
    go_wp2_with fail
    go_ret2
    exact ⟨rfl, Below.refl _ _⟩
  · have h2 : 1024 < n := by omega
    clear h
    go_enter Try.func8, Try.ntmps8
    go_wp2_with fail
    go_ret2
    exact ⟨rfl, Below.refl _ _⟩
/-! ### sector, among -/
theorem elemU8' : Elem Try.prog 62 5 (.int .u8 0) 1 := ⟨Try.underlying62, by kernel_rfl, by rfl⟩
def secL (l : List UInt8) : List UInt8 := fitL l 64
theorem secL_length (l : List UInt8) : (secL l).length = 64 := fitL_length l 64
set_option maxHeartbeats 1000000 in
theorem sector_any (l : List UInt8) (w : World) :
    Calls Try.prog 10 #[.string ⟨l.toArray⟩] w fun e w' => e = .returned (.string ⟨(secL l).toArray⟩) ∧ Below w.heap.size w w' := by
  obtain ⟨w2, hmk, hown, hgr⟩ := own_make (B := w.heap.size) (t := 62) elemU8' w .i64 .i64 64 (by omega) (by omega) (Nat.le_refl _)
  obtain ⟨m, hm⟩ : ∃ m, m = min l.length 64 := ⟨_, rfl⟩
  obtain ⟨w3, hcp, hown3, hgr3⟩ := own_copy_str (P := Try.prog) (ty := 3) (sT := 9) Try.underlying62 (by kernel_rfl) hown (by simp) l m hm
  have he : cb (l.take m) ++ (List.replicate 64 ((Value.int .u8 0).cells[0]!)).drop m = cb (secL l) := by
    have : (Value.int IntKind.u8 0).cells[0]! = .int .u8 (n8 0) := rfl
    rw [this, List.drop_replicate, secL, fitL, cb_append, hm]
    have e1 : l.take (min l.length 64) = l.take 64 := by
      rcases Nat.le_total l.length 64 with h | h
      · rw [Nat.min_eq_left h, List.take_of_length_le (Nat.le_refl _), List.take_of_length_le h]
      · rw [Nat.min_eq_right h]
    rw [e1, show 64 - min l.length 64 = 64 - l.length by omega]
    simp [cb, List.map_replicate]
  rw [he] at hown3
  have hcv := my_own_string Try.underlying62 Try.underlying5 Try.underlying9 hown3
  have hmk' : (Instr.makeSlice 62 (.int .i64 64) (.int .i64 64)).run Try.prog w = .ok (.slice (some ⟨w.heap.size, 0, none⟩) 64 64) w2 := hmk
  clear hmk
  have HG := Lib.hid (show Below w.heap.size w w3 from below_of_only (g := w.heap.size) ((Below.refl w.heap.size w).grown hgr (Nat.le_refl _) (fun k hk => by cases hk)) hgr3 (Nat.le_refl _) hgr.size)
  unfold goInt at hcp
  clear hown hown3 hgr hgr3 he hm
  go_enter Try.func10, Try.ntmps10
  go_wp2_with fail
  go_ret
  exact ⟨rfl, HG.out⟩
end Go.Proofs.Ytbbmhcloigphjaa

/- A disk's calls where no fuse burns and it is up; the chapter's example (works). -/
import Derived.Test.YtbbmhcloigphjaaDkC
import Derived.Test.YtbbmhcloigphjaaWGuard
namespace Go.Proofs.Ytbbmhcloigphjaa
open Go.RowKit Go.Proofs.YtbbmhcloigphjaaW.PrintWords Go.Proofs.YtbbmhcloigphjaaW.PrintLast
set_option linter.unusedSimpArgs false
set_option linter.unusedVariables false
section
variable {B : Nat} {w w' : World} {g : Nat} {d : Dk}
def Dk.Calm (d : Dk) : Prop := d.fuse = 0 ∧ d.down = false
theorem DkAt.below (h : DkAt B w g d) (hb : Below w.heap.size w w') : DkAt B w' g d := by
  obtain ⟨a, vw, h⟩ := h
  exact ⟨a, vw, h.below hb⟩
theorem DkAt.hB (h : DkAt B w g d) : B ≤ w.heap.size := by
  obtain ⟨a, vw, h⟩ := h
  exact h.hB
theorem DkAt.ok (h : DkAt B w g d) : d.Ok := by
  obtain ⟨a, vw, h⟩ := h
  exact h.ok
theorem Dk.Calm.burn (h : d.Calm) : d.burn = d := by unfold Dk.burn; rw [if_neg (by rw [h.1]; decide)]
theorem Dk.Calm.there (h : d.Calm) {i : Nat} (hi : i < d.l.length) : d.there (i : Int) = 0 := by
  unfold Dk.there
  rw [if_neg (by rw [h.2]; decide), if_neg (by omega)]
theorem write_c (h : DkAt B w g d) (hc : d.Calm) (i : Nat) (hi : i < d.l.length) (s : List UInt8) (hs : s.length = 64) (hm : d.w.length < 1000000) :
    Calls Try.prog 11 #[.pointer (some ⟨g, 0, none⟩), .int .i64 (i : Nat), .string ⟨s.toArray⟩] w fun e w' => e = .returned (.int .i64 0) ∧ DkAt B w' g (d.put i s) ∧ Fr B w w' := by
  obtain ⟨a, vw, h⟩ := h
  have e : d.write (i : Int) s = (0, d.put i s) := by
    unfold Dk.write
    rw [if_neg (by rw [hc.there hi]; decide), if_neg (by rw [hs]; decide), hc.burn, if_neg (by rw [hc.2]; decide)]
    simp
  have := write_any h (i : Int) s hm
  rw [e] at this
  exact this
theorem sync_c (h : DkAt B w g d) (hc : d.Calm) :
    Calls Try.prog 12 #[.pointer (some ⟨g, 0, none⟩)] w fun e w' => e = .returned (.int .i64 0) ∧ DkAt B w' g { d with w := [] } ∧ Fr B w w' := by
  obtain ⟨a, vw, h⟩ := h
  have e : d.sync = (0, { d with w := [] }) := by
    unfold Dk.sync
    rw [hc.burn, if_neg (by rw [hc.2]; decide), if_neg (by rw [hc.2]; decide)]
  have := sync_any h
  rw [e] at this
  exact this
theorem read_c (h : DkAt B w g d) (hc : d.Calm) (i : Nat) (hi : i < d.l.length) :
    Calls Try.prog 14 #[.pointer (some ⟨g, 0, none⟩), .int .i64 (i : Nat)] w fun e w' => e = .returned (.tuple #[.string ⟨(d.l.getD i []).toArray⟩, .int .i64 0]) ∧ Below w.heap.size w w' := by
  obtain ⟨a, vw, h⟩ := h
  have e : d.read (i : Int) = (d.l.getD i [], 0) := by
    unfold Dk.read
    rw [if_neg (by rw [hc.there hi]; decide)]
    simp
  have := read_any h (i : Int)
  rw [e] at this
  exact this
theorem crash_c (h : DkAt B w g d) (A : Option Addr) (n c : Nat) (picks : List Int) (hP : PkAt B w A n picks) :
    Calls Try.prog 13 #[.pointer (some ⟨g, 0, none⟩), .slice A n c] w fun e w' => e = .returned (.int .i64 0) ∧ DkAt B w' g (d.crash picks) ∧ Fr B w w' := by
  obtain ⟨a, vw, h⟩ := h
  exact crash_any h A n c picks hP
theorem waits_c (h : DkAt B w g d) :
    Calls Try.prog 16 #[.pointer (some ⟨g, 0, none⟩)] w fun e w' => e = .returned (.int .i64 (d.w.length : Nat)) ∧ Below w.heap.size w w' := by
  obtain ⟨a, vw, h⟩ := h
  exact waits_any h
theorem size_c (h : DkAt B w g d) :
    Calls Try.prog 17 #[.pointer (some ⟨g, 0, none⟩)] w fun e w' => e = .returned (.int .i64 (d.l.length : Nat)) ∧ Below w.heap.size w w' := by
  obtain ⟨a, vw, h⟩ := h
  exact size_any h
theorem fuse_c (h : DkAt B w g d) (n : Int) :
    Calls Try.prog 18 #[.pointer (some ⟨g, 0, none⟩), .int .i64 n] w fun e w' => e = .returned (.int .i64 (d.setFuse n).1) ∧ DkAt B w' g (d.setFuse n).2 ∧ Fr B w w' := by
  obtain ⟨a, vw, h⟩ := h
  refine (fuse_any h n).mono ?_
  rintro e w' ⟨h1, h2, h3⟩
  exact ⟨h1, ⟨a, vw, h2⟩, h3⟩
end
def wA : List UInt8 := List.replicate 64 97
def wB : List UInt8 := List.replicate 64 98
def wR : List UInt8 := List.replicate 61 97
theorem repeat_any (b : UInt8) (n : Nat) (hn : n ≤ 1000) (w : World) :
    Calls Try.prog 27 #[.string ⟨#[b]⟩, .int .i64 (n : Nat)] w fun e w' => e = .returned (.string ⟨(List.replicate n b).toArray⟩) ∧ Below w.heap.size w w' := by
  have := Try.strings_Repeat ⟨#[b]⟩ n w (by omega) (by show 1 * n ≤ _; omega)
  have e : Lib.repeatL (⟨#[b]⟩ : ByteArray).data.toList n = List.replicate n b := by
    clear this hn
    induction n with
    | zero => rfl
    | succ m ih => rw [Lib.repeatL, ih]; rfl
  rw [e] at this
  exact this
def wS : List UInt8 := [98, 98, 98] ++ wR
def wD1 : Dk := (Dk.new 2).put 0 wA
def wD2 : Dk := { wD1 with w := [] }
def wD3 : Dk := wD2.put 0 wB
def wD4 : Dk := wD3.crash [3]
set_option maxRecDepth 100000 in
theorem works_read : wD4.l.getD 0 [] = wS := by decide +kernel
theorem works_cat : (⟨#[98, 98, 98]⟩ : ByteArray) ++ ⟨wR.toArray⟩ = ⟨wS.toArray⟩ := by decide +kernel
theorem rep_A (w : World) : Calls Try.prog 27 #[.string ⟨#[97]⟩, .int .i64 64] w fun e w' => e = .returned (.string ⟨wA.toArray⟩) ∧ Below w.heap.size w w' := repeat_any 97 64 (by decide) w
theorem rep_B (w : World) : Calls Try.prog 27 #[.string ⟨#[98]⟩, .int .i64 64] w fun e w' => e = .returned (.string ⟨wB.toArray⟩) ∧ Below w.heap.size w w' := repeat_any 98 64 (by decide) w
theorem rep_R (w : World) : Calls Try.prog 27 #[.string ⟨#[97]⟩, .int .i64 61] w fun e w' => e = .returned (.string ⟨wR.toArray⟩) ∧ Below w.heap.size w w' := repeat_any 97 61 (by decide) w
theorem notInt : ¬ DkT 3 := by unfold DkT; decide
/-- picks written out at the call. -/
theorem pk_new {B : Nat} (w : World) (xs : List Int) (t : TypeId) (ht : ¬ DkT t) : PkAt B (w.alloc (.cells (xs.map fun x => Value.int .i64 x).toArray t)) (some ⟨w.heap.size, 0, none⟩) xs.length xs := by
  refine ⟨rfl, fun _ => ⟨w.heap.size, 0, rfl, fun i hi => ?_, .inr ⟨_, t, (0, 0), heap_alloc_new w _, ht⟩⟩⟩
  rw [Nat.zero_add, (Blk.new w t _).cell i]
  simp [List.getElem?_eq_getElem hi]
set_option maxHeartbeats 800000 in
theorem works_any (w : World) : Calls Try.prog 9 #[] w fun e w' => e = .returned (.bool true) ∧ Below w.heap.size w w' := by
  go_enter Try.func9, Try.ntmps9
  go_wp2_with fail
  refine (new_any 2 (by decide) (by decide) w).mono ?_
  rintro e w1 ⟨g, rfl, D, b⟩
  have D1 := Lib.hid D
  have F1 := Lib.hid (Fr.of b (Nat.le_refl _))
  clear D b
  go_wp2_with fail
  refine (rep_A w1).mono ?_
  rintro e w2 ⟨rfl, b⟩
  have D2 := Lib.hid (D1.out.below b)
  have F2 := Lib.hid (F1.out.below b D1.out.hB)
  clear b F1 D1
  go_wp2_with fail
  refine (write_c D2.out ⟨rfl, rfl⟩ 0 (by decide) wA (by decide) (by decide)).mono ?_
  rintro e w3 ⟨rfl, D, f⟩
  have D3 := Lib.hid (show DkAt w.heap.size w3 g wD1 from D)
  have F3 := Lib.hid (F2.out.trans f)
  clear D f F2 D2
  go_wp2_with fail
  refine (sync_c D3.out ⟨rfl, rfl⟩).mono ?_
  rintro e w4 ⟨rfl, D, f⟩
  have D4 := Lib.hid (show DkAt w.heap.size w4 g wD2 from D)
  have F4 := Lib.hid (F3.out.trans f)
  clear D f F3 D3
  go_wp2_with fail
  refine (rep_B w4).mono ?_
  rintro e w5 ⟨rfl, b⟩
  have D5 := Lib.hid (D4.out.below b)
  have F5 := Lib.hid (F4.out.below b D4.out.hB)
  clear b F4 D4
  go_wp2_with fail
  refine (write_c D5.out ⟨rfl, rfl⟩ 0 (by decide) wB (by decide) (by decide)).mono ?_
  rintro e w6 ⟨rfl, D, f⟩
  have D6 := Lib.hid (show DkAt w.heap.size w6 g wD3 from D)
  have F6 := Lib.hid (F5.out.trans f)
  clear D f F5 D5
  go_wp2_with fail
  have D7 := D6.out.below (below_alloc (Below.refl _ _) (.cells #[Value.int .i64 3] 3))
  refine (crash_c D7 _ 1 1 [3] (pk_new w6 [3] 3 notInt)).mono ?_
  rintro e w8 ⟨rfl, D, f⟩
  have D8 := Lib.hid (show DkAt w.heap.size w8 g wD4 from D)
  have F8 := Lib.hid ((F6.out.below (below_alloc (Below.refl _ _) _) D6.out.hB).trans f)
  clear D f F6 D6 D7
  go_wp2_with fail
  refine (read_c D8.out ⟨rfl, rfl⟩ 0 (by decide)).mono ?_
  rintro e w9 ⟨rfl, b⟩
  have D9 := Lib.hid (D8.out.below b)
  have F9 := Lib.hid (F8.out.below b D8.out.hB)
  clear b F8 D8
  rw [works_read]
  go_wp2_with fail
  refine (rep_R w9).mono ?_
  rintro e w10 ⟨rfl, b⟩
  have D10 := Lib.hid (D9.out.below b)
  have F10 := Lib.hid (F9.out.below b D9.out.hB)
  clear b F9 D9
  have hcat := works_cat
  have hlw : (9223372036854775807 < 3 + wR.length) = False := eq_false (by decide)
  go_wp2_with fail
  refine (waits_c D10.out).mono ?_
  rintro e w11 ⟨rfl, b⟩
  have F11 := Lib.hid (F10.out.below b D10.out.hB)
  rw [show (wD4.w.length : Nat) = 0 from rfl]
  clear b F10 D10
  go_wp2_with fail
  go_ret
  exact ⟨rfl, F11.out.b⟩
end Go.Proofs.Ytbbmhcloigphjaa

/- A disk's calls that change its scalars alone: there, Size, Waits, burn, Fuse, Sync. -/
import Derived.Test.YtbbmhcloigphjaaProg
import Derived.Test.YtbbmhcloigphjaaDkP
import Derived.IntWalk
namespace Go.Proofs.Ytbbmhcloigphjaa
open Go.RowKit
set_option linter.unusedSimpArgs false
set_option linter.unusedVariables false
section
variable {B : Nat} {w w' : World} {g a : Nat} {vw : Value} {d : Dk}
theorem DkA.c0 (h : DkA B w g a vw d) : w.cell? ⟨g, 0, none⟩ = some (.slice (some ⟨a, 0, none⟩) d.l.length d.l.length) := h.hg.cell 0
theorem DkA.c1 (h : DkA B w g a vw d) : w.cell? ⟨g, 1, none⟩ = some vw := h.hg.cell 1
theorem DkA.c2 (h : DkA B w g a vw d) : w.cell? ⟨g, 2, none⟩ = some (.int .i64 d.fuse) := h.hg.cell 2
theorem DkA.c3 (h : DkA B w g a vw d) : w.cell? ⟨g, 3, none⟩ = some (.int .i64 (isV d.down)) := h.hg.cell 3
theorem owns_form {e : TypeId} {s n : Nat} {v : Value} {xs : List Value} (h : w.ownsRow B e s v n xs) : ∃ A c, v = .slice A n c := by
  rcases h.2 with ⟨rfl, rfl⟩ | ⟨g, cap, cur, rfl, _⟩
  · exact ⟨_, _, rfl⟩
  · exact ⟨_, _, rfl⟩
theorem there_any (h : DkA B w g a vw d) (i : Int) :
    Calls Try.prog 28 #[.pointer (some ⟨g, 0, none⟩), .int .i64 i] w fun e w' => e = .returned (.int .i64 (d.there i)) ∧ Below w.heap.size w w' := by
  have c0 := h.c0
  have c3 := h.c3
  by_cases hd : d.down = true
  · have e3 : isV d.down = 1 := by simp [hd, isV]
    rw [e3] at c3
    have er : d.there i = 150 := by simp [Dk.there, hd]
    rw [er]
    go_enter Try.func28, Try.ntmps28
    go_wp2
    go_ret
    exact ⟨rfl, Below.refl _ _⟩
  · have e3 : isV d.down = 0 := by simp [hd, isV]
    rw [e3] at c3
    by_cases h0 : i < 0
    · have er : d.there i = 1 := by simp [Dk.there, hd, h0]
      rw [er]
      go_enter Try.func28, Try.ntmps28
      go_wp2
      go_ret
      exact ⟨rfl, Below.refl _ _⟩
    · by_cases h1 : (d.l.length : Int) ≤ i
      · have er : d.there i = 1 := by simp [Dk.there, hd, h1]
        rw [er]
        go_enter Try.func28, Try.ntmps28
        go_wp2
        go_ret
        exact ⟨rfl, Below.refl _ _⟩
      · have er : d.there i = 0 := by simp [Dk.there, hd, h0, h1]
        rw [er]
        go_enter Try.func28, Try.ntmps28
        go_wp2
        go_ret
        exact ⟨rfl, Below.refl _ _⟩
theorem size_any (h : DkA B w g a vw d) :
    Calls Try.prog 17 #[.pointer (some ⟨g, 0, none⟩)] w fun e w' => e = .returned (.int .i64 (d.l.length : Nat)) ∧ Below w.heap.size w w' := by
  have c0 := h.c0
  go_enter Try.func17, Try.ntmps17
  go_wp2
  go_ret
  exact ⟨rfl, Below.refl _ _⟩
theorem waits_any (h : DkA B w g a vw d) :
    Calls Try.prog 16 #[.pointer (some ⟨g, 0, none⟩)] w fun e w' => e = .returned (.int .i64 (d.w.length : Nat)) ∧ Below w.heap.size w w' := by
  have c1 := h.c1
  obtain ⟨A, c, hv⟩ := owns_form h.hw
  rw [hv] at c1
  go_enter Try.func16, Try.ntmps16
  go_wp2
  go_ret
  exact ⟨rfl, Below.refl _ _⟩
/-- fields set. -/
theorem DkA.setFuse (h : DkA B w g a vw d) (n : Int) (hn : 0 ≤ n ∧ n ≤ 1048576) : DkA B (w.setCell ⟨g, 2, none⟩ (.int .i64 n)) g a vw { d with fuse := n } :=
  ⟨h.hg.set_ 2 _, h.ha.far h.ne.symm _, owns_far h.hw h.neW.1 _, h.bg, h.ba, ⟨h.ok.l, h.ok.w, h.ok.n, hn⟩⟩
theorem DkA.setDown (h : DkA B w g a vw d) : DkA B (w.setCell ⟨g, 3, none⟩ (.int .i64 1)) g a vw { d with down := true } :=
  ⟨h.hg.set_ 3 _, h.ha.far h.ne.symm _, owns_far h.hw h.neW.1 _, h.bg, h.ba, ⟨h.ok.l, h.ok.w, h.ok.n, h.ok.f⟩⟩
theorem DkA.setNil (h : DkA B w g a vw d) : DkA B (w.setCell ⟨g, 1, none⟩ (.slice none 0 0)) g a (.slice none 0 0) { d with w := [] } :=
  ⟨h.hg.set_ 1 _, h.ha.far h.ne.symm _, World.ownsRow_nil _ _ _ _, h.bg, h.ba, ⟨h.ok.l, fun x hx => (by cases hx), h.ok.n, h.ok.f⟩⟩
theorem DkA.frG (h : DkA B w g a vw d) (i : Nat) (u : Value) : Fr B w (w.setCell ⟨g, i, none⟩ u) := Fr.set_ h.hg (.inl rfl) h.bg i u
theorem burn_any (h : DkA B w g a vw d) :
    Calls Try.prog 29 #[.pointer (some ⟨g, 0, none⟩)] w fun e w' => e = .returned (.bool d.burn.down) ∧ DkA B w' g a vw d.burn ∧ Fr B w w' := by
  have hf := h.ok.f
  have c2 := h.c2
  have c3 := h.c3
  have f2 := h.hg.frozen 2
  have f3 := h.hg.frozen 3
  by_cases hp : 0 < d.fuse
  · have ed : d.burn = { d with fuse := d.fuse - 1, down := d.down || decide (d.fuse = 1) } := by simp [Dk.burn, hp]
    rw [ed]
    by_cases h1 : d.fuse = 1
    · have hq := (h.setFuse 0 (by omega)).setDown
      have hF := (h.frG 2 (.int .i64 0)).trans ((h.setFuse 0 (by omega)).frG 3 (.int .i64 1))
      have ed2 : ({ d with fuse := d.fuse - 1, down := d.down || decide (d.fuse = 1) } : Dk) = { d with fuse := 0, down := true } := by simp [h1]
      rw [ed2]
      rw [h1] at c2
      clear h1 hp hf ed ed2
      go_enter Try.func29, Try.ntmps29
      go_wp2
      go_ret
      exact ⟨rfl, hq, hF⟩
    · have hq := h.setFuse (d.fuse - 1) (by omega)
      have hF := h.frG 2 (.int .i64 (d.fuse - 1))
      have ed2 : ({ d with fuse := d.fuse - 1, down := d.down || decide (d.fuse = 1) } : Dk) = { d with fuse := d.fuse - 1 } := by simp [h1]
      rw [ed2]
      have hw : Go.RowKit.wrap64 (d.fuse - 1) = d.fuse - 1 := by unfold Go.RowKit.wrap64; omega
      have hz : ((d.fuse - 1 : Int) == 0) = false := beq_eq_false_iff_ne.mpr (by omega)
      have hp' : (0 < d.fuse) = True := eq_true hp
      obtain ⟨b, hb⟩ : ∃ b, b = d.down := ⟨_, rfl⟩
      have hbV : (isV d.down == 1) = d.down := by rw [← hb]; cases b <;> rfl
      go_enter Try.func29, Try.ntmps29
      go_wp2
      go_ret
      exact ⟨by simp [hbV], hq, hF⟩
  · have ed : d.burn = d := by simp [Dk.burn, hp]
    rw [ed]
    have hbV : (isV d.down == 1) = d.down := by cases d.down <;> rfl
    go_enter Try.func29, Try.ntmps29
    go_wp2
    go_ret
    exact ⟨by simp [hbV], h, Fr.refl _ _⟩
theorem fuse_any (h : DkA B w g a vw d) (n : Int) :
    Calls Try.prog 18 #[.pointer (some ⟨g, 0, none⟩), .int .i64 n] w fun e w' => e = .returned (.int .i64 (d.setFuse n).1) ∧ DkA B w' g a vw (d.setFuse n).2 ∧ Fr B w w' := by
  have c3 := h.c3
  have f2 := h.hg.frozen 2
  have c2 := h.c2
  by_cases hd : d.down = true
  · have e3 : isV d.down = 1 := by simp [hd, isV]
    rw [e3] at c3
    have er : d.setFuse n = (150, d) := by simp [Dk.setFuse, hd]
    rw [er]
    go_enter Try.func18, Try.ntmps18
    go_wp2
    go_ret
    exact ⟨rfl, h, Fr.refl _ _⟩
  · have e3 : isV d.down = 0 := by simp [hd, isV]
    rw [e3] at c3
    by_cases h0 : n < 0
    · have er : d.setFuse n = (1, d) := by simp [Dk.setFuse, hd, h0]
      rw [er]
      go_enter Try.func18, Try.ntmps18
      go_wp2
      go_ret
      exact ⟨rfl, h, Fr.refl _ _⟩
    · by_cases h1 : 1048576 < n
      · have er : d.setFuse n = (1, d) := by simp [Dk.setFuse, hd, h1]
        rw [er]
        go_enter Try.func18, Try.ntmps18
        go_wp2
        go_ret
        exact ⟨rfl, h, Fr.refl _ _⟩
      · have er : d.setFuse n = (0, { d with fuse := n }) := by simp [Dk.setFuse, hd, h0, h1]
        rw [er]
        have hq := h.setFuse n (by omega)
        have hF := h.frG 2 (.int .i64 n)
        clear hd e3 er
        go_enter Try.func18, Try.ntmps18
        go_wp2
        go_ret
        exact ⟨rfl, hq, hF⟩
theorem sync_any (h : DkA B w g a vw d) :
    Calls Try.prog 12 #[.pointer (some ⟨g, 0, none⟩)] w fun e w' => e = .returned (.int .i64 d.sync.1) ∧ DkAt B w' g d.sync.2 ∧ Fr B w w' := by
  have c3 := h.c3
  by_cases hd : d.down = true
  · have e3 : isV d.down = 1 := by simp [hd, isV]
    rw [e3] at c3
    have er : d.sync = (150, d) := by simp [Dk.sync, hd]
    rw [er]
    go_enter Try.func12, Try.ntmps12
    go_wp2
    go_ret
    exact ⟨rfl, ⟨a, vw, h⟩, Fr.refl _ _⟩
  · have e3 : isV d.down = 0 := by simp [hd, isV]
    rw [e3] at c3
    have H := Lib.hid h
    by_cases h1 : d.burn.down = true
    · have er : d.sync = (150, d.burn) := by simp [Dk.sync, hd, h1]
      rw [er]
      clear h hd
      go_enter Try.func12, Try.ntmps12
      go_wp2_with (first | (go_at_call 29; refine (burn_any H.out).mono ?_; rintro e w1 ⟨rfl, h2, h3⟩; rw [h1]))
      go_ret
      exact ⟨rfl, ⟨a, vw, h2⟩, h3⟩
    · have er : d.sync = (0, { d.burn with w := [] }) := by simp [Dk.sync, hd, h1]
      rw [er]
      have h1' : d.burn.down = false := by simpa using h1
      clear h hd h1
      go_enter Try.func12, Try.ntmps12
      go_wp2_with (first | (go_at_call 29; refine (burn_any H.out).mono ?_; rintro e w1 ⟨rfl, h2, h3⟩; rw [h1']; have f1 := h2.hg.frozen 1; have c1 := h2.c1))
      go_ret
      exact ⟨rfl, ⟨a, _, h2.setNil⟩, h3.trans (h2.frG 1 _)⟩
end
end Go.Proofs.Ytbbmhcloigphjaa

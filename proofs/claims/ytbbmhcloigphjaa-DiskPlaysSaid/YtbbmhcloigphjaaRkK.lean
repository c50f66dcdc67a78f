/- The disk and the reference's side by side in memory; their calls, for the law DiskPlays. -/
import Derived.Test.YtbbmhcloigphjaaRkM
namespace Go.Proofs.Ytbbmhcloigphjaa
open Go.RowKit Go.Proofs.YtbbmhcloigphjaaW.PrintWords Go.Proofs.YtbbmhcloigphjaaW.PrintLast
set_option linter.unusedSimpArgs false
set_option linter.unusedVariables false
section
variable {B : Nat} {w w' : World} {g a : Nat} {vw va vl : Value} {d : Dk} {r : Rk}
theorem owns_same {e : TypeId} {s n : Nat} {v : Value} {xs : List Value} (h : w.ownsRow B e s v n xs) (hh : ∀ k, v.ownBlock = some k → w'.heap[k]? = w.heap[k]?) : w'.ownsRow B e s v n xs := by
  refine ⟨h.1, ?_⟩
  rcases h.2 with hn | ⟨k, cap, cur, rfl, hB, hc, rest⟩
  · exact .inl hn
  · exact .inr ⟨k, cap, cur, rfl, hB, (hh k rfl).trans hc, rest⟩
theorem DkA.gr (h : DkA B w g a vw d) (f : Gr B w w') : DkA B w' g a vw d :=
  ⟨(f.f g _ _ _ h.hg (by unfold RkT; decide)).trans h.hg, (f.f a _ _ _ h.ha (by unfold RkT; decide)).trans h.ha, owns_same h.hw (fun k hk => by obtain ⟨cs, hx⟩ := owns_typed h.hw k hk; exact f.f k _ _ _ hx (by unfold RkT; decide)), h.bg, h.ba, h.ok⟩
theorem RkA.fr (h : RkA B w g va vl r) (f : Fr B w w') : RkA B w' g va vl r :=
  ⟨(f.f g _ _ _ h.hg (by decide) (by decide) (by decide)).trans h.hg, owns_same h.hs (fun k hk => by obtain ⟨cs, hx⟩ := owns_typed h.hs k hk; exact f.f k _ _ _ hx (by decide) (by decide) (by decide)), owns_same h.hl (fun k hk => by obtain ⟨cs, hx⟩ := owns_typed h.hl k hk; exact f.f k _ _ _ hx (by decide) (by decide) (by decide)), h.bg, h.ok⟩
theorem DkAt.gr (h : DkAt B w g d) (f : Gr B w w') : DkAt B w' g d := by
  obtain ⟨a, vw, h⟩ := h
  exact ⟨a, vw, h.gr f⟩
theorem RkAt.fr (h : RkAt B w g r) (f : Fr B w w') : RkAt B w' g r := by
  obtain ⟨a, vw, h⟩ := h
  exact ⟨a, vw, h.fr f⟩
theorem RkAt.below (h : RkAt B w g r) (hb : Below w.heap.size w w') : RkAt B w' g r := by
  obtain ⟨a, vw, h⟩ := h
  exact ⟨a, vw, h.below hb⟩
theorem DkAt.drew (h : DkAt B w g d) : DkAt B w.drew g d := by
  obtain ⟨a, vw, h⟩ := h
  exact ⟨a, vw, h.drew⟩
theorem RkAt.drew (h : RkAt B w g r) : RkAt B w.drew g r := by
  obtain ⟨a, vw, h⟩ := h
  exact ⟨a, vw, h.drew⟩
theorem notAct : ¬ DkT 48 := by unfold DkT; decide
theorem notAct' : ¬ RkT 48 := by unfold RkT; decide
theorem Blk.gr {k : Nat} {t : TypeId} {cs : Array Value} (hX : Blk w k t cs) (ht : ¬ RkT t) (f : Gr B w w') : Blk w' k t cs := (f.f k cs t (0, 0) hX ht).trans hX
theorem owns_lower {B' : Nat} {e : TypeId} {s n : Nat} {v : Value} {xs : List Value} (h : w.ownsRow B e s v n xs) (hB : B' ≤ B) : w.ownsRow B' e s v n xs := by
  refine ⟨h.1, ?_⟩
  rcases h.2 with hn | ⟨k, cap, cur, rfl, hb, rest⟩
  · exact .inl hn
  · exact .inr ⟨k, cap, cur, rfl, Nat.le_trans hB hb, rest⟩
theorem size_at (h : DkAt B w g d) {N : Nat} (hN : d.l.length = N) :
    Calls Try.prog 17 #[.pointer (some ⟨g, 0, none⟩)] w fun e w' => e = .returned (.int .i64 (N : Nat)) ∧ Below w.heap.size w w' := by
  subst hN
  exact size_c h
theorem waits_at (h : DkAt B w g d) {N : Nat} (hN : d.w.length = N) :
    Calls Try.prog 16 #[.pointer (some ⟨g, 0, none⟩)] w fun e w' => e = .returned (.int .i64 (N : Nat)) ∧ Below w.heap.size w w' := by
  subst hN
  exact waits_c h
/-- both, and the act. -/
structure Two (w0 w : World) (g g2 : Nat) (d : Dk) (r : Rk) : Prop where
  m : Match d r
  d : DkAt w0.heap.size w g d
  r : RkAt w0.heap.size w g2 r
  b : Below w0.heap.size w0 w
variable {w0 : World} {g2 : Nat}
theorem Two.below (h : Two w0 w g g2 d r) (hb : Below w.heap.size w w') : Two w0 w' g g2 d r := ⟨h.m, h.d.below hb, h.r.below hb, h.b.trans (hb.mono h.b.size)⟩
theorem Two.drew (h : Two w0 w g g2 d r) : Two w0 w.drew g g2 d r := ⟨h.m, h.d.drew, h.r.drew, Go.Proofs.YtbbmhcloigphjaaW.PrintWords.below_drew h.b⟩
theorem write_at (h : DkAt B w g d) (i : Int) (s : List UInt8) (hm : d.w.length < 1000000) {e0 : Int} (he : (d.write i s).1 = e0) {d' : Dk} (hd : (d.write i s).2 = d') :
    Calls Try.prog 11 #[.pointer (some ⟨g, 0, none⟩), .int .i64 i, .string ⟨s.toArray⟩] w fun e w' => e = .returned (.int .i64 e0) ∧ DkAt B w' g d' ∧ Fr B w w' := by
  obtain ⟨a, vw, h⟩ := h
  subst he hd
  exact write_any h i s hm
theorem rwrite_at (h : RkAt B w g r) (i : Int) (s : List UInt8) (hm : r.l.length < 1000000) {e0 : Int} (he : (r.write i s).1 = e0) {r' : Rk} (hd : (r.write i s).2 = r') :
    Calls Try.prog 20 #[.pointer (some ⟨g, 0, none⟩), .int .i64 i, .string ⟨s.toArray⟩] w fun e w' => e = .returned (.int .i64 e0) ∧ RkAt B w' g r' ∧ Gr B w w' := by
  obtain ⟨va, vl, h⟩ := h
  subst he hd
  exact rwrite_any h i s hm
theorem read_at (h : DkAt B w g d) (i : Int) {t : List UInt8} {e0 : Int} (he : d.read i = (t, e0)) :
    Calls Try.prog 14 #[.pointer (some ⟨g, 0, none⟩), .int .i64 i] w fun e w' => e = .returned (.tuple #[.string ⟨t.toArray⟩, .int .i64 e0]) ∧ Below w.heap.size w w' := by
  obtain ⟨a, vw, h⟩ := h
  have := read_any h i
  rw [he] at this
  exact this
theorem rread_at (h : RkAt B w g r) (i : Int) {t : List UInt8} {e0 : Int} (he : r.read i = (t, e0)) :
    Calls Try.prog 21 #[.pointer (some ⟨g, 0, none⟩), .int .i64 i] w fun e w' => e = .returned (.tuple #[.string ⟨t.toArray⟩, .int .i64 e0]) ∧ Below w.heap.size w w' := by
  obtain ⟨va, vl, h⟩ := h
  have := rread_any h i
  rw [he] at this
  exact this
theorem sync_at (h : DkAt B w g d) {e0 : Int} (he : d.sync.1 = e0) {d' : Dk} (hd : d.sync.2 = d') :
    Calls Try.prog 12 #[.pointer (some ⟨g, 0, none⟩)] w fun e w' => e = .returned (.int .i64 e0) ∧ DkAt B w' g d' ∧ Fr B w w' := by
  obtain ⟨a, vw, h⟩ := h
  subst he hd
  exact sync_any h
theorem rsync_at (h : RkAt B w g r) {e0 : Int} (he : r.sync.1 = e0) {r' : Rk} (hd : r.sync.2 = r') :
    Calls Try.prog 22 #[.pointer (some ⟨g, 0, none⟩)] w fun e w' => e = .returned (.int .i64 e0) ∧ RkAt B w' g r' ∧ Gr B w w' := by
  obtain ⟨va, vl, h⟩ := h
  subst he hd
  exact rsync_any h
theorem fuse_at (h : DkAt B w g d) (n : Int) {e0 : Int} (he : (d.setFuse n).1 = e0) {d' : Dk} (hd : (d.setFuse n).2 = d') :
    Calls Try.prog 18 #[.pointer (some ⟨g, 0, none⟩), .int .i64 n] w fun e w' => e = .returned (.int .i64 e0) ∧ DkAt B w' g d' ∧ Fr B w w' := by
  subst he hd
  exact fuse_c h n
theorem rfuse_at (h : RkAt B w g r) (n : Int) {e0 : Int} (he : (r.setFuse n).1 = e0) {r' : Rk} (hd : (r.setFuse n).2 = r') :
    Calls Try.prog 23 #[.pointer (some ⟨g, 0, none⟩), .int .i64 n] w fun e w' => e = .returned (.int .i64 e0) ∧ RkAt B w' g r' ∧ Gr B w w' := by
  obtain ⟨va, vl, h⟩ := h
  subst he hd
  refine (rfuse_any h n).mono ?_
  rintro e w' ⟨h1, h2, h3⟩
  exact ⟨h1, ⟨va, vl, h2⟩, h3⟩
theorem rcrash_at (h : RkAt B w g r) (A : Option Addr) (n c : Nat) (picks : List Int) (hP : PkB B w A n picks) :
    Calls Try.prog 25 #[.pointer (some ⟨g, 0, none⟩), .slice A n c] w fun e w' => e = .returned (.int .i64 0) ∧ RkAt B w' g (r.crash picks) ∧ Gr B w w' := by
  obtain ⟨va, vl, h⟩ := h
  exact rcrash_any h A n c picks hP
theorem burn_w (d : Dk) : d.burn.w = d.w := by unfold Dk.burn; split <;> rfl
theorem wlen_write (d : Dk) (i : Int) (s : List UInt8) : (d.write i s).2.w.length ≤ d.w.length + 1 := by
  unfold Dk.write
  by_cases h1 : d.there i ≠ 0
  · rw [if_pos h1]; exact Nat.le_succ _
  rw [if_neg h1]
  by_cases h2 : s.length ≠ 64
  · rw [if_pos h2]; exact Nat.le_succ _
  rw [if_neg h2]
  by_cases h3 : d.burn.down = true
  · rw [if_pos h3]; show d.burn.w.length ≤ _; rw [burn_w]; exact Nat.le_succ _
  · rw [if_neg h3]
    show (d.burn.w ++ [_]).length ≤ _
    rw [List.length_append, burn_w]
    exact Nat.le_refl _
theorem wlen_sync (d : Dk) : d.sync.2.w.length ≤ d.w.length := by
  unfold Dk.sync
  by_cases h1 : d.down = true
  · rw [if_pos h1]; exact Nat.le_refl _
  rw [if_neg h1]
  by_cases h3 : d.burn.down = true
  · rw [if_pos h3]; show d.burn.w.length ≤ _; rw [burn_w]; exact Nat.le_refl _
  · rw [if_neg h3]; exact Nat.zero_le _
theorem wlen_fuse (d : Dk) (n : Int) : (d.setFuse n).2.w.length ≤ d.w.length := by
  unfold Dk.setFuse
  by_cases h1 : d.down = true
  · rw [if_pos h1]; exact Nat.le_refl _
  rw [if_neg h1]
  by_cases h3 : n < 0 ∨ 1048576 < n
  · rw [if_pos h3]; exact Nat.le_refl _
  · rw [if_neg h3]; exact Nat.le_refl _
end
end Go.Proofs.Ytbbmhcloigphjaa

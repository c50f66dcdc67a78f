/- mail.Decode: its blocks (the result, the rest, the message). -/
import Derived.Test.YtidilhnjfdkmpaaMailC
namespace Go.Proofs.Ytidilhnjfdkmpaa
open Go.RowKit Go.Proofs.YtidilhnjfdkmpaaW.PrintWords Go.Proofs.YtidilhnjfdkmpaaW.PrintLast
set_option linter.unusedSimpArgs false
set_option linter.unusedVariables false
/-- a text of bytes. -/
def tx (l : List UInt8) : ByteArray := ⟨l.toArray⟩
theorem tx_size (l : List UInt8) : (tx l).size = l.length := by simp [tx, ByteArray.size]
theorem tx_ext {a : ByteArray} {l : List UInt8} (h : a.data.toList = l) : a = tx l := by
  subst h; cases a; simp [tx]
theorem tx_list (l : List UInt8) : (tx l).data.toList = l := by simp [tx]
theorem tx_take (l : List UInt8) (n : Nat) : (tx l).extract 0 n = tx (l.take n) := by
  apply tx_ext
  simp [tx, ByteArray.data_extract]
theorem tx_drop (l : List UInt8) (n : Nat) : (tx l).extract n (tx l).size = tx (l.drop n) := by
  apply tx_ext
  rw [tx_size]
  simp [tx, ByteArray.data_extract]
  exact List.take_of_length_le (by simp)
theorem tx_of (a : ByteArray) : a = tx a.data.toList := tx_ext rfl
structure DS (w0 w : World) (g2 g4 g5 : Nat) (cs2 cs5 : Array Value) (r : List UInt8) (vs : Value) (ls : List S43) (vi : Value) (li : List ByteArray) : Prop where
  b : Below w0.heap.size w0 w
  h2 : Blk w g2 25 cs2
  h4 : Blk w g4 9 #[.string (tx r)]
  h5 : Blk w g5 25 cs5
  n2 : w0.heap.size ≤ g2
  n4 : w0.heap.size ≤ g4
  n5 : w0.heap.size ≤ g5
  d24 : g2 ≠ g4
  d25 : g2 ≠ g5
  d45 : g4 ≠ g5
  rs : Kd.R k43 43 w w0.heap.size (fun _ => True) vs ls
  ri : Kd.R Kd.string 9 w w0.heap.size (fun k => k ≠ g4) vi li
section
variable {w0 w w1 : World} {g2 g4 g5 : Nat} {cs2 cs5 : Array Value} {r : List UInt8} {vs vi : Value} {ls : List S43} {li : List ByteArray}
theorem DS.cut (h : DS w0 w g2 g4 g5 cs2 cs5 r vs ls vi li) (r' : List UInt8) : DS w0 (w.setCell ⟨g4, 0, none⟩ (.string (tx r'))) g2 g4 g5 cs2 cs5 r' vs ls vi li :=
  ⟨h.b.setCell h.n4 _, h.h2.far h.d24 _, h.h4.set_ 0 _, h.h5.far h.d45.symm _, h.n2, h.n4, h.n5, h.d24, h.d25, h.d45, Kd.R_set h.rs h.h4 (by decide) 0 _,
    Kd.R_grown h.ri (only_set (g := g4) (only_refl w _) (Or.inl rfl) _) (fun k hk e => hk (by injection e))⟩
theorem DS.put (h : DS w0 w g2 g4 g5 cs2 cs5 r vs ls vi li) (i : Nat) (u : Value) : DS w0 (w.setCell ⟨g5, i, none⟩ u) g2 g4 g5 cs2 (cs5.setIfInBounds i u) r vs ls vi li :=
  ⟨h.b.setCell h.n5 _, h.h2.far h.d25 _, h.h4.far h.d45 _, h.h5.set_ i _, h.n2, h.n4, h.n5, h.d24, h.d25, h.d45, Kd.R_set h.rs h.h5 (by decide) i _, Kd.R_set h.ri h.h5 (by decide) i _⟩
theorem DS.put2 (h : DS w0 w g2 g4 g5 cs2 cs5 r vs ls vi li) (i : Nat) (u : Value) : DS w0 (w.setCell ⟨g2, i, none⟩ u) g2 g4 g5 (cs2.setIfInBounds i u) cs5 r vs ls vi li :=
  ⟨h.b.setCell h.n2 _, h.h2.set_ i _, h.h4.far h.d24.symm _, h.h5.far h.d25.symm _, h.n2, h.n4, h.n5, h.d24, h.d25, h.d45, Kd.R_set h.rs h.h2 (by decide) i _, Kd.R_set h.ri h.h2 (by decide) i _⟩
theorem DS.below (h : DS w0 w g2 g4 g5 cs2 cs5 r vs ls vi li) (hb : Below w.heap.size w w1) : DS w0 w1 g2 g4 g5 cs2 cs5 r vs ls vi li :=
  ⟨h.b.trans (hb.mono h.b.size), h.h2.below hb h.h2.lt, h.h4.below hb h.h4.lt, h.h5.below hb h.h5.lt, h.n2, h.n4, h.n5, h.d24, h.d25, h.d45, Kd.R_below h.rs hb, Kd.R_below h.ri hb⟩
theorem DS.alloc (h : DS w0 w g2 g4 g5 cs2 cs5 r vs ls vi li) (o : Obj) : DS w0 (w.alloc o) g2 g4 g5 cs2 cs5 r vs ls vi li := h.below (below_alloc (Below.refl _ _) o)
theorem DS.drew (h : DS w0 w g2 g4 g5 cs2 cs5 r vs ls vi li) : DS w0 w.drew g2 g4 g5 cs2 cs5 r vs ls vi li := h.below (Go.Proofs.YtidilhnjfdkmpaaW.PrintWords.below_drew (Below.refl _ _))
theorem DS.drewN (h : DS w0 w g2 g4 g5 cs2 cs5 r vs ls vi li) (n : Nat) : DS w0 (w.drewN n) g2 g4 g5 cs2 cs5 r vs ls vi li := h.below (pw_below_drewN (Below.refl _ _) n)
theorem DS.appI (h : DS w0 w g2 g4 g5 cs2 cs5 r vs ls vi li) {v1 : Value} {l1 : List ByteArray} (hr : Kd.R Kd.string 9 w1 w0.heap.size (fun k => k ≠ g4) v1 l1) (hb : Below w0.heap.size w0 w1) (hg : w.grownBy w1 vi.ownBlock) : DS w0 w1 g2 g4 g5 cs2 cs5 r vs ls v1 l1 :=
  ⟨hb, h.h2.grown hg (Kd.R_ne h.ri h.h2 (by decide)), h.h4.grown hg (fun e => h.ri.1 g4 e.symm rfl), h.h5.grown hg (Kd.R_ne h.ri h.h5 (by decide)), h.n2, h.n4, h.n5, h.d24, h.d25, h.d45,
    Kd.R_over' h.rs (Kd.R_typed h.ri) (by decide) hg, hr⟩
theorem DS.appS (h : DS w0 w g2 g4 g5 cs2 cs5 r vs ls vi li) {v1 : Value} {l1 : List S43} (hr : Kd.R k43 43 w1 w0.heap.size (fun _ => True) v1 l1) (hb : Below w0.heap.size w0 w1) (hg : w.grownBy w1 vs.ownBlock) : DS w0 w1 g2 g4 g5 cs2 cs5 r v1 l1 vi li :=
  ⟨hb, h.h2.grown hg (Kd.R_ne h.rs h.h2 (by decide)), h.h4.grown hg (Kd.R_ne h.rs h.h4 (by decide)), h.h5.grown hg (Kd.R_ne h.rs h.h5 (by decide)), h.n2, h.n4, h.n5, h.d24, h.d25, h.d45,
    hr, Kd.R_over' h.ri (Kd.R_typed h.rs) (by decide) hg⟩
/-- the blocks as they are made. -/
theorem DS.start (w : World) (g2 g4 g5 : Nat) (w1 : World) (cs2 cs5 : Array Value) (r : List UInt8) (b : Below w.heap.size w w1) (h2 : Blk w1 g2 25 cs2) (h4 : Blk w1 g4 9 #[.string (tx r)]) (h5 : Blk w1 g5 25 cs5) (n2 : w.heap.size ≤ g2) (n4 : w.heap.size ≤ g4) (n5 : w.heap.size ≤ g5) (d24 : g2 ≠ g4) (d25 : g2 ≠ g5) (d45 : g4 ≠ g5) :
    DS w w1 g2 g4 g5 cs2 cs5 r (.slice none 0 0) [] (.slice none 0 0) [] := ⟨b, h2, h4, h5, n2, n4, n5, d24, d25, d45, Kd.R_nil _ _ _ _ _, Kd.R_nil _ _ _ _ _⟩
theorem cut_ds (h : DS w0 w g2 g4 g5 cs2 cs5 r vs ls vi li) (n : Nat) (hn : n ≤ r.length) :
    Calls Try.prog 27 #[.pointer (some ⟨g4, 0, none⟩), .int .i64 n] w fun e w' => e = .returned (.string (tx (r.take n))) ∧ DS w0 w' g2 g4 g5 cs2 cs5 (r.drop n) vs ls vi li := by
  refine (cut_any g4 (tx r) n w h.h4 (by rw [tx_size]; exact hn)).mono ?_
  rintro e w' ⟨rfl, rfl⟩
  refine ⟨by rw [tx_take], ?_⟩
  rw [tx_drop]
  exact h.cut _
end
end Go.Proofs.Ytidilhnjfdkmpaa

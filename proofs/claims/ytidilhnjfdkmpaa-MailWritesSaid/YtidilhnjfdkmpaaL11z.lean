/- The law MailWrites: the walk. The law MailWrites: the walk (under way). The law MailWrites: the walk and the plain law, joined. -/
import Derived.Test.YtidilhnjfdkmpaaL11f
import Derived.Test.YtidilhnjfdkmpaaPMailWx
namespace Go.Proofs.Ytidilhnjfdkmpaa
open Go.RowKit Go.Proofs.Ytidilhnjfdkmpaa.PMailA Go.Proofs.Ytidilhnjfdkmpaa.PMailW Go.Proofs.YtidilhnjfdkmpaaW.PrintWords Go.Proofs.YtidilhnjfdkmpaaW.PrintLast
set_option linter.unusedSimpArgs false
set_option linter.unusedVariables false
set_option maxRecDepth 100000 in
theorem works11w_ev : Ev (fun k => dovecotelaw11_works.f k) true := Ev.of (fun k => dovecotelaw11_works.mono k) (k := 40) (by decide +kernel)
theorem copy_f (a0 a1 a2 : Int) (a3 a4 : ByteArray) (l5 : List S43) (l6 : List ByteArray) (h5 : l5.length < 4398046511104) (h6 : l6.length < 8796093022208) : dovecotebook_CopyMail.f a0 a1 a2 a3 a4 l5 l6 = some (a0, a1, a2, a3, a4, l5, l6) := by
  unfold dovecotebook_CopyMail.f
  simp only [Option.bind_some, List.length_nil, List.nil_append]
  rw [if_pos (by omega)]
  rw [if_pos (by omega)]
/-- what is held while the law runs: the two boxes (the message, its copy), and what they tell. -/
structure MW (W w : World) (g1 g3 : Nat) (a0 a1 a2 : Int) (a3 a4 : ByteArray) (A5 : Option Addr) (c5 : Nat) (l5 : List S43) (A6 : Option Addr) (c6 : Nat) (l6 : List ByteArray) (B5 : Option Addr) (d5 : Nat) (B6 : Option Addr) (d6 : Nat) : Prop where
  b : Below W.heap.size W w
  h1 : Blk w g1 25 #[.int .i64 a0, .int .i64 a1, .int .i64 a2, .string a3, .string a4, .slice A5 l5.length c5, .slice A6 l6.length c6]
  h3 : Blk w g3 25 #[.int .i64 a0, .int .i64 a1, .int .i64 a2, .string a3, .string a4, .slice B5 l5.length d5, .slice B6 l6.length d6]
  rA : Kd.C k43 w A5 l5.length l5
  rC : Kd.C Kd.string w A6 l6.length l6
  sA : Kd.C k43 w B5 l5.length l5
  sC : Kd.C Kd.string w B6 l6.length l6
theorem MW.below {W w w1 : World} {g1 g3 : Nat} {a0 a1 a2 : Int} {a3 a4 : ByteArray} {A5 : Option Addr} {c5 : Nat} {l5 : List S43} {A6 : Option Addr} {c6 : Nat} {l6 : List ByteArray} {B5 : Option Addr} {d5 : Nat} {B6 : Option Addr} {d6 : Nat}
    (h : MW W w g1 g3 a0 a1 a2 a3 a4 A5 c5 l5 A6 c6 l6 B5 d5 B6 d6) (hb : Below w.heap.size w w1) : MW W w1 g1 g3 a0 a1 a2 a3 a4 A5 c5 l5 A6 c6 l6 B5 d5 B6 d6 :=
  ⟨h.b.trans (hb.mono h.b.size), h.h1.below hb h.h1.lt, h.h3.below hb h.h3.lt, Kd.C_below h.rA hb, Kd.C_below h.rC hb, Kd.C_below h.sA hb, Kd.C_below h.sC hb⟩
end Go.Proofs.Ytidilhnjfdkmpaa
namespace Go.Proofs.Ytidilhnjfdkmpaa
open Go.RowKit Go.Proofs.Ytidilhnjfdkmpaa.PMailA Go.Proofs.Ytidilhnjfdkmpaa.PMailW Go.Proofs.YtidilhnjfdkmpaaW.PrintWords Go.Proofs.YtidilhnjfdkmpaaW.PrintLast
set_option linter.unusedSimpArgs false
set_option linter.unusedVariables false
/-- while the copy's box is filled. -/
structure MP (W w : World) (g1 g3 : Nat) (cs1 cs3 : Array Value) : Prop where
  b : Below W.heap.size W w
  h1 : Blk w g1 25 cs1
  h3 : Blk w g3 25 cs3
  ne : g1 ≠ g3
  n3 : W.heap.size ≤ g3
theorem MP.put {W w : World} {g1 g3 : Nat} {cs1 cs3 : Array Value} (h : MP W w g1 g3 cs1 cs3) (i : Nat) (u : Value) : MP W (w.setCell ⟨g3, i, none⟩ u) g1 g3 cs1 (cs3.setIfInBounds i u) :=
  ⟨h.b.setCell h.n3 _, h.h1.far h.ne _, h.h3.set_ i _, h.ne, h.n3⟩
theorem MW.of {W w1 w : World} {g1 g3 : Nat} {a0 a1 a2 : Int} {a3 a4 : ByteArray} {A5 : Option Addr} {c5 : Nat} {l5 : List S43} {A6 : Option Addr} {c6 : Nat} {l6 : List ByteArray} {B5 : Option Addr} {d5 : Nat} {B6 : Option Addr} {d6 : Nat}
    (h : MP w1 w g1 g3 #[.int .i64 a0, .int .i64 a1, .int .i64 a2, .string a3, .string a4, .slice A5 l5.length c5, .slice A6 l6.length c6] #[.int .i64 a0, .int .i64 a1, .int .i64 a2, .string a3, .string a4, .slice B5 l5.length d5, .slice B6 l6.length d6])
    (hb : Below W.heap.size W w1) (hA : Kd.C k43 W A5 l5.length l5) (hC : Kd.C Kd.string W A6 l6.length l6) (sA : Kd.C k43 w1 B5 l5.length l5) (sC : Kd.C Kd.string w1 B6 l6.length l6) : MW W w g1 g3 a0 a1 a2 a3 a4 A5 c5 l5 A6 c6 l6 B5 d5 B6 d6 :=
  ⟨hb.trans (h.b.mono hb.size), h.h1, h.h3, Kd.C_below hA (hb.trans (h.b.mono hb.size)), Kd.C_below hC (hb.trans (h.b.mono hb.size)), Kd.C_below sA h.b, Kd.C_below sC h.b⟩
theorem MW.all {W w : World} {g1 g3 : Nat} {a0 a1 a2 : Int} {a3 a4 : ByteArray} {A5 : Option Addr} {c5 : Nat} {l5 : List S43} {A6 : Option Addr} {c6 : Nat} {l6 : List ByteArray} {B5 : Option Addr} {d5 : Nat} {B6 : Option Addr} {d6 : Nat} (h : MW W w g1 g3 a0 a1 a2 a3 a4 A5 c5 l5 A6 c6 l6 B5 d5 B6 d6) :
    MW W w g1 g3 a0 a1 a2 a3 a4 A5 c5 l5 A6 c6 l6 B5 d5 B6 d6 ∧ w.cell? ⟨g1, 0, none⟩ = some (.int .i64 a0) ∧ w.cell? ⟨g1, 1, none⟩ = some (.int .i64 a1) ∧ w.cell? ⟨g1, 2, none⟩ = some (.int .i64 a2) ∧ w.cell? ⟨g1, 3, none⟩ = some (.string a3) ∧ w.cell? ⟨g1, 4, none⟩ = some (.string a4) ∧ w.cell? ⟨g1, 5, none⟩ = some (.slice A5 l5.length c5) ∧ w.cell? ⟨g1, 6, none⟩ = some (.slice A6 l6.length c6) ∧ w.cell? ⟨g3, 0, none⟩ = some (.int .i64 a0) ∧ w.cell? ⟨g3, 1, none⟩ = some (.int .i64 a1) ∧ w.cell? ⟨g3, 2, none⟩ = some (.int .i64 a2) ∧ w.cell? ⟨g3, 3, none⟩ = some (.string a3) ∧ w.cell? ⟨g3, 4, none⟩ = some (.string a4) ∧ w.cell? ⟨g3, 5, none⟩ = some (.slice B5 l5.length d5) ∧ w.cell? ⟨g3, 6, none⟩ = some (.slice B6 l6.length d6) :=
  ⟨h, h.h1.cell 0, h.h1.cell 1, h.h1.cell 2, h.h1.cell 3, h.h1.cell 4, h.h1.cell 5, h.h1.cell 6, h.h3.cell 0, h.h3.cell 1, h.h3.cell 2, h.h3.cell 3, h.h3.cell 4, h.h3.cell 5, h.h3.cell 6⟩
def R5.T : Bool × List (List Nat × List Nat) := (true, [([], []), ([0], [0]), ([1], [1]), ([1], [1]), ([2, 3, 1], [1, 2, 3]), ([1, 4], [1, 4]), ([5, 1], [5]), ([6], [6]), ([6], [6]), ([7, 8, 6], [6, 7, 8]), ([6, 9], [6, 9]), ([10, 6], [10]), ([11], [11]), ([12, 11, 11], [11, 12]), ([11], [11]), ([14, 13, 11], [11, 14]), ([13, 15, 11], [11, 13, 15]), ([11, 16], [11, 16]), ([17, 15], [17]), ([18], [18]), ([19, 18], [18, 19]), ([20, 18, 18], [18, 20]), ([18], [18]), ([22, 18], [18, 22]), ([23, 21, 18], [18, 23]), ([21, 24, 18], [18, 21, 24]), ([18, 25], [18, 25]), ([26, 24], [26]), ([27], [27]), ([27], [27]), ([28, 29, 27, 27], [27, 28, 29]), ([27, 30], [27, 30]), ([31, 30], [31]), ([32, 32], [32]), ([32, 33], [32, 33]), ([34, 33, 0, 1, 2, 3, 4, 5, 6, 7, 8, 9, 10, 11, 12, 13, 14, 15, 16, 17, 18, 19, 20, 21, 22, 23, 24, 25, 26, 27, 28, 29, 30, 31, 32, 33, 34], [34])])
def R5.B : List Nat := [0, 1, 3, 3, 15, 31, 63, 127, 127, 511, 1023, 2047, 4095, 8191, 4095, 32767, 65535, 131071, 262143, 524287, 1048575, 2097151, 524287, 4718591, 16777215, 33554431, 67108863, 134217727, 268435455, 268435455, 1073741823, 2147483647, 4294967295, 8589934591, 17179869183, 34359738367]
theorem R5.tab : rtab .any (opsOf Try.f3 5) = R5.T := by kernel_rfl
theorem R5.bits : waitsOk R5.T.2 R5.B = true := by kernel_rfl
set_option maxHeartbeats 1600000 in
theorem walk_MailWrites (k : Nat) (a0 a1 a2 : Int) (a3 a4 : ByteArray) (A5 : Option Addr) (c5 : Nat) (l5 : List S43) (A6 : Option Addr) (c6 : Nat) (l6 : List ByteArray) (x : ByteArray) (e c n : Int) (W : World)
    (h5 : l5.length < 4398046511104) (h6 : l6.length < 8796093022208)
    (hA : Kd.C k43 W A5 l5.length l5) (hB : l5.length ≤ c5) (hC : Kd.C Kd.string W A6 l6.length l6) (hD : l6.length ≤ c6)
    (m1 : mail_Check.f k a0 a1 a2 a3 a4 l5 l6 = some c) (m2 : dovecoteref11_Check.f k a0 a1 a2 a3 a4 l5 l6 = some c) (m3 : mail_Long.f a0 = some n) (m4 : dovecoteref11_Long.f a0 = some n) (m5 : dovecotebook_SameMail.f k a0 a1 a2 a3 a4 l5 l6 a0 a1 a2 a3 a4 l5 l6 = some true) (m6 : dovecotelaw11_works.f k = some true)
    (e1 : mail_Encode.f k a0 a1 a2 a3 a4 l5 l6 = some (x, e)) (e2 : dovecoteref11_Encode.f k a0 a1 a2 a3 a4 l5 l6 = some (x, e)) :
    Calls Try.prog 3 #[.agg #[.int .i64 a0, .int .i64 a1, .int .i64 a2, .string a3, .string a4, .slice A5 l5.length c5, .slice A6 l6.length c6]] W fun e W' => e = .returned (.bool true) ∧ Below W.heap.size W W' := by
  have HCF := Lib.hid (copy_f a0 a1 a2 a3 a4 l5 l6 h5 h6)
  have HA := Lib.hid hA
  have HB := Lib.hid hB
  have HC := Lib.hid hC
  have HD := Lib.hid hD
  have E1 := Lib.hid e1
  have E2 := Lib.hid e2
  have M1 := Lib.hid m1
  have M2 := Lib.hid m2
  have M3 := Lib.hid m3
  have M4 := Lib.hid m4
  have M5 := Lib.hid m5
  have M6 := Lib.hid m6
  clear m1 m2 m3 m4 m5 m6
  clear h5 h6 hA hB hC hD e1 e2
  go_enter Try.func3, Try.ntmps3
  go_wp2_with fail
  refine (dovecotebook_CopyMail.calls a0 a1 a2 a3 a4 A5 c5 l5 A6 c6 l6 a0 a1 a2 a3 a4 l5 l6 _ (Kd.C_below HA.out (below_alloc (Below.refl _ _) _)) HB.out (Kd.C_below HC.out (below_alloc (Below.refl _ _) _)) HD.out HCF.out).mono ?_
  rintro e' w1 ⟨v5, v6, rfl, r5, r6, hb1⟩
  obtain ⟨B5, d5, rfl, hd5, s5⟩ := Kd.R_reads r5
  obtain ⟨B6, d6, rfl, hd6, s6⟩ := Kd.R_reads r6
  obtain ⟨g1, G1⟩ : ∃ g, g = W.heap.size := ⟨_, rfl⟩
  have HB1 := Lib.hid (show Below W.heap.size W w1 from (below_alloc (Below.refl _ _) _).trans (hb1.mono (by simp)))
  have K1 := Lib.hid (show Blk w1 g1 25 #[.int .i64 a0, .int .i64 a1, .int .i64 a2, .string a3, .string a4, .slice A5 l5.length c5, .slice A6 l6.length c6] by rw [G1]; exact (Blk.new W 25 _).below hb1 (Blk.new W 25 _).lt)
  have S5 := Lib.hid s5
  have S6 := Lib.hid s6
  have H5 := Lib.hid hd5
  have H6 := Lib.hid hd6
  rw [← G1]
  clear G1 r5 r6 s5 s6 hb1 hd5 hd6
  go_upto_region 2 with (first | ((with_reducible refine gate_dst (N := 3) rfl ?_); refine box_event ?hg (N := 3) ?hd (cs := #[.int .i64 0, .int .i64 0, .int .i64 0, .string ⟨#[]⟩, .string ⟨#[]⟩, .slice none 0 0, .slice none 0 0]) (t := 25) ?hr ?_; (case hd => rfl); (case hg => rfl); (case hr => first | (go_simp; done) | (go_simp; rfl)); intro g3 hg w3 hbox hb; subst hg; have hz0 : w3.cell? ⟨w1.heap.size, 0, none⟩ = some (.int .i64 0) := blk_cell hbox 0; have fz0 := blk_frozen hbox 0; have hz1 : w3.cell? ⟨w1.heap.size, 1, none⟩ = some (.int .i64 0) := blk_cell hbox 1; have fz1 := blk_frozen hbox 1; have hz2 : w3.cell? ⟨w1.heap.size, 2, none⟩ = some (.int .i64 0) := blk_cell hbox 2; have fz2 := blk_frozen hbox 2; have hz3 : w3.cell? ⟨w1.heap.size, 3, none⟩ = some (.string ⟨#[]⟩) := blk_cell hbox 3; have fz3 := blk_frozen hbox 3; have hz4 : w3.cell? ⟨w1.heap.size, 4, none⟩ = some (.string ⟨#[]⟩) := blk_cell hbox 4; have fz4 := blk_frozen hbox 4; have hz5 : w3.cell? ⟨w1.heap.size, 5, none⟩ = some (.slice none 0 0) := blk_cell hbox 5; have fz5 := blk_frozen hbox 5; have hz6 : w3.cell? ⟨w1.heap.size, 6, none⟩ = some (.slice none 0 0) := blk_cell hbox 6; have fz6 := blk_frozen hbox 6))
  refine gen_world (fun w' => MW W w' g1 w1.heap.size a0 a1 a2 a3 a4 A5 c5 l5 A6 c6 l6 B5 d5 B6 d6) ?_ ?_
  · exact MW.of ((((((((MP.mk (W := w1) (w := w3) (g1 := g1) (g3 := w1.heap.size) hb (K1.out.below hb K1.out.lt) hbox (Nat.ne_of_lt K1.out.lt) (Nat.le_refl _)).put 0 _).put 1 _).put 2 _).put 3 _).put 4 _).put 5 _).put 6 _) HB1.out HA.out HC.out S5.out S6.out
  obtain ⟨g3, G3⟩ : ∃ g, g = w1.heap.size := ⟨_, rfl⟩
  rw [← G3]
  clear G3 hbox hb hz0 hz1 hz2 hz3 hz4 hz5 hz6 fz0 fz1 fz2 fz3 fz4 fz5 fz6 HA HC S5 S6 K1 HB1 HCF
  intro w4 D4
  have p0 : w4.cell? ⟨g1, 0, none⟩ = some (.int .i64 a0) := D4.h1.cell 0
  have p1 : w4.cell? ⟨g1, 1, none⟩ = some (.int .i64 a1) := D4.h1.cell 1
  have p2 : w4.cell? ⟨g1, 2, none⟩ = some (.int .i64 a2) := D4.h1.cell 2
  have p3 : w4.cell? ⟨g1, 3, none⟩ = some (.string a3) := D4.h1.cell 3
  have p4 : w4.cell? ⟨g1, 4, none⟩ = some (.string a4) := D4.h1.cell 4
  have p5 : w4.cell? ⟨g1, 5, none⟩ = some (.slice A5 l5.length c5) := D4.h1.cell 5
  have p6 : w4.cell? ⟨g1, 6, none⟩ = some (.slice A6 l6.length c6) := D4.h1.cell 6
  have q0 : w4.cell? ⟨g3, 0, none⟩ = some (.int .i64 a0) := D4.h3.cell 0
  have q1 : w4.cell? ⟨g3, 1, none⟩ = some (.int .i64 a1) := D4.h3.cell 1
  have q2 : w4.cell? ⟨g3, 2, none⟩ = some (.int .i64 a2) := D4.h3.cell 2
  have q3 : w4.cell? ⟨g3, 3, none⟩ = some (.string a3) := D4.h3.cell 3
  have q4 : w4.cell? ⟨g3, 4, none⟩ = some (.string a4) := D4.h3.cell 4
  have q5 : w4.cell? ⟨g3, 5, none⟩ = some (.slice B5 l5.length d5) := D4.h3.cell 5
  have q6 : w4.cell? ⟨g3, 6, none⟩ = some (.slice B6 l6.length d6) := D4.h3.cell 6
  go_wp2_with fail
  refine (mail_Encode.calls k a0 a1 a2 a3 a4 B5 d5 l5 B6 d6 l6 x e _ D4.sA H5.out D4.sC H6.out E1.out).mono ?_
  rintro e' w5 ⟨rfl, hb5⟩
  clear p0 q0 p1 q1 p2 q2 p3 q3 p4 q4 p5 q5 p6 q6
  have D5 := D4.below hb5
  clear D4 hb5
  have p0 : w5.cell? ⟨g1, 0, none⟩ = some (.int .i64 a0) := D5.h1.cell 0
  have p1 : w5.cell? ⟨g1, 1, none⟩ = some (.int .i64 a1) := D5.h1.cell 1
  have p2 : w5.cell? ⟨g1, 2, none⟩ = some (.int .i64 a2) := D5.h1.cell 2
  have p3 : w5.cell? ⟨g1, 3, none⟩ = some (.string a3) := D5.h1.cell 3
  have p4 : w5.cell? ⟨g1, 4, none⟩ = some (.string a4) := D5.h1.cell 4
  have p5 : w5.cell? ⟨g1, 5, none⟩ = some (.slice A5 l5.length c5) := D5.h1.cell 5
  have p6 : w5.cell? ⟨g1, 6, none⟩ = some (.slice A6 l6.length c6) := D5.h1.cell 6
  have q0 : w5.cell? ⟨g3, 0, none⟩ = some (.int .i64 a0) := D5.h3.cell 0
  have q1 : w5.cell? ⟨g3, 1, none⟩ = some (.int .i64 a1) := D5.h3.cell 1
  have q2 : w5.cell? ⟨g3, 2, none⟩ = some (.int .i64 a2) := D5.h3.cell 2
  have q3 : w5.cell? ⟨g3, 3, none⟩ = some (.string a3) := D5.h3.cell 3
  have q4 : w5.cell? ⟨g3, 4, none⟩ = some (.string a4) := D5.h3.cell 4
  have q5 : w5.cell? ⟨g3, 5, none⟩ = some (.slice B5 l5.length d5) := D5.h3.cell 5
  have q6 : w5.cell? ⟨g3, 6, none⟩ = some (.slice B6 l6.length d6) := D5.h3.cell 6
  go_wp2_with fail
  refine (dovecoteref11_Encode.calls k a0 a1 a2 a3 a4 A5 c5 l5 A6 c6 l6 x e _ D5.rA HB.out D5.rC HD.out E2.out).mono ?_
  rintro e' w6 ⟨rfl, hb6⟩
  clear p0 q0 p1 q1 p2 q2 p3 q3 p4 q4 p5 q5 p6 q6
  have D6 := D5.below hb6
  clear D5 hb6
  have p0 : w6.cell? ⟨g1, 0, none⟩ = some (.int .i64 a0) := D6.h1.cell 0
  have p1 : w6.cell? ⟨g1, 1, none⟩ = some (.int .i64 a1) := D6.h1.cell 1
  have p2 : w6.cell? ⟨g1, 2, none⟩ = some (.int .i64 a2) := D6.h1.cell 2
  have p3 : w6.cell? ⟨g1, 3, none⟩ = some (.string a3) := D6.h1.cell 3
  have p4 : w6.cell? ⟨g1, 4, none⟩ = some (.string a4) := D6.h1.cell 4
  have p5 : w6.cell? ⟨g1, 5, none⟩ = some (.slice A5 l5.length c5) := D6.h1.cell 5
  have p6 : w6.cell? ⟨g1, 6, none⟩ = some (.slice A6 l6.length c6) := D6.h1.cell 6
  have q0 : w6.cell? ⟨g3, 0, none⟩ = some (.int .i64 a0) := D6.h3.cell 0
  have q1 : w6.cell? ⟨g3, 1, none⟩ = some (.int .i64 a1) := D6.h3.cell 1
  have q2 : w6.cell? ⟨g3, 2, none⟩ = some (.int .i64 a2) := D6.h3.cell 2
  have q3 : w6.cell? ⟨g3, 3, none⟩ = some (.string a3) := D6.h3.cell 3
  have q4 : w6.cell? ⟨g3, 4, none⟩ = some (.string a4) := D6.h3.cell 4
  have q5 : w6.cell? ⟨g3, 5, none⟩ = some (.slice B5 l5.length d5) := D6.h3.cell 5
  have q6 : w6.cell? ⟨g3, 6, none⟩ = some (.slice B6 l6.length d6) := D6.h3.cell 6
  have z1 : (x.toList == x.toList) = true := by simp
  have z2 : (e == e) = true := by simp
  go_upto_region 5 with fail
  have z3 : (c == c) = true := by simp
  have z4 : (n == n) = true := by simp
  clear p0 q0 p1 q1 p2 q2 p3 q3 p4 q4 p5 q5 p6 q6
  have D7 := MW.all (D6.below (Go.Proofs.YtidilhnjfdkmpaaW.PrintWords.below_drew (Below.refl _ _)))
  clear D6
  refine start_ (n := 36) (S := fun w' => MW W w' g1 g3 a0 a1 a2 a3 a4 A5 c5 l5 A6 c6 l6 B5 d5 B6 d6 ∧ w'.cell? ⟨g1, 0, none⟩ = some (.int .i64 a0) ∧ w'.cell? ⟨g1, 1, none⟩ = some (.int .i64 a1) ∧ w'.cell? ⟨g1, 2, none⟩ = some (.int .i64 a2) ∧ w'.cell? ⟨g1, 3, none⟩ = some (.string a3) ∧ w'.cell? ⟨g1, 4, none⟩ = some (.string a4) ∧ w'.cell? ⟨g1, 5, none⟩ = some (.slice A5 l5.length c5) ∧ w'.cell? ⟨g1, 6, none⟩ = some (.slice A6 l6.length c6) ∧ w'.cell? ⟨g3, 0, none⟩ = some (.int .i64 a0) ∧ w'.cell? ⟨g3, 1, none⟩ = some (.int .i64 a1) ∧ w'.cell? ⟨g3, 2, none⟩ = some (.int .i64 a2) ∧ w'.cell? ⟨g3, 3, none⟩ = some (.string a3) ∧ w'.cell? ⟨g3, 4, none⟩ = some (.string a4) ∧ w'.cell? ⟨g3, 5, none⟩ = some (.slice B5 l5.length d5) ∧ w'.cell? ⟨g3, 6, none⟩ = some (.slice B6 l6.length d6)) (ds := []) #[false, false, false, false, false, false, false, false, false, false, false, false, false, false, false, false, false, false, false, false, false, false, false, false, false, false, false, false, false, false, false, false, false, false, false, false] (by kernel_rfl) rfl rfl D7 (fun hHeld => ?_)
  refine with_tabW R5.tab R5.bits (fun HT_ HW_ => ?_)
  refine pure_ (i := 0) (N := some 21) (v := ?_) (a' := ?_) #[true, false, false, false, false, false, false, false, false, false, false, false, false, false, false, false, false, false, false, false, false, false, false, false, false, false, false, false, false, false, false, false, false, false, false, false] rfl rfl (any_of HT_.out (by kernel_rfl)) (fun _ _ _ h => h) (Or.inl ⟨by rfl, ?_⟩) ?_ ?_
  rotate_left
  · intro w'
    go_simp
    try with_reducible rfl
  rotate_left
  · simp only [Act.put, List.setIfInBounds_toArray, List.set_cons_zero, List.set_cons_succ]
    rfl
  refine pure_ (i := 1) (N := some 22) (v := ?_) (a' := ?_) #[true, true, false, false, false, false, false, false, false, false, false, false, false, false, false, false, false, false, false, false, false, false, false, false, false, false, false, false, false, false, false, false, false, false, false, false] rfl rfl (any_of HT_.out (by kernel_rfl)) (fun _ _ _ h => h) (Or.inl ⟨by rfl, ?_⟩) ?_ ?_
  rotate_left
  · intro w'
    go_simp
    try with_reducible rfl
  rotate_left
  · simp only [Act.put, List.setIfInBounds_toArray, List.set_cons_zero, List.set_cons_succ]
    rfl
  refine pure_ (i := 2) (N := some 23) (v := ?_) (a' := ?_) #[true, true, true, false, false, false, false, false, false, false, false, false, false, false, false, false, false, false, false, false, false, false, false, false, false, false, false, false, false, false, false, false, false, false, false, false] rfl rfl (any_of HT_.out (by kernel_rfl)) (fun _ _ _ h => h) (Or.inl ⟨by rfl, ?_⟩) ?_ ?_
  rotate_left
  · intro w'
    go_simp
    try with_reducible rfl
  rotate_left
  · simp only [Act.put, List.setIfInBounds_toArray, List.set_cons_zero, List.set_cons_succ]
    rfl
  refine pure_ (i := 3) (N := some 24) (v := ?_) (a' := ?_) #[true, true, true, true, false, false, false, false, false, false, false, false, false, false, false, false, false, false, false, false, false, false, false, false, false, false, false, false, false, false, false, false, false, false, false, false] rfl rfl (any_of HT_.out (by kernel_rfl)) (fun _ _ _ h => h) (Or.inl ⟨by rfl, ?_⟩) ?_ ?_
  rotate_left
  · intro w'
    go_simp
    try with_reducible rfl
  rotate_left
  · simp only [Act.put, List.setIfInBounds_toArray, List.set_cons_zero, List.set_cons_succ]
    rfl
  refine pure_ (i := 4) (N := some 25) (v := ?_) (a' := ?_) #[true, true, true, true, true, false, false, false, false, false, false, false, false, false, false, false, false, false, false, false, false, false, false, false, false, false, false, false, false, false, false, false, false, false, false, false] rfl rfl (any_of HT_.out (by kernel_rfl)) (fun _ _ _ h => h) (Or.inl ⟨by rfl, ?_⟩) ?_ ?_
  rotate_left
  · intro w'
    go_simp
    try with_reducible rfl
  rotate_left
  · simp only [Act.put, List.setIfInBounds_toArray, List.set_cons_zero, List.set_cons_succ]
    rfl
  refine pure_ (i := 5) (N := some 26) (v := ?_) (a' := ?_) #[true, true, true, true, true, true, false, false, false, false, false, false, false, false, false, false, false, false, false, false, false, false, false, false, false, false, false, false, false, false, false, false, false, false, false, false] rfl rfl (any_of HT_.out (by kernel_rfl)) (fun _ _ _ h => h) (Or.inl ⟨by rfl, ?_⟩) ?_ ?_
  rotate_left
  · intro w'
    go_simp
    try with_reducible rfl
  rotate_left
  · simp only [Act.put, List.setIfInBounds_toArray, List.set_cons_zero, List.set_cons_succ]
    rfl
  refine pure_ (i := 6) (N := some 27) (v := ?_) (a' := ?_) #[true, true, true, true, true, true, true, false, false, false, false, false, false, false, false, false, false, false, false, false, false, false, false, false, false, false, false, false, false, false, false, false, false, false, false, false] rfl rfl (any_of HT_.out (by kernel_rfl)) (fun _ _ _ h => h) (Or.inl ⟨by rfl, ?_⟩) ?_ ?_
  rotate_left
  · intro w'
    go_simp
    try with_reducible rfl
  rotate_left
  · simp only [Act.put, List.setIfInBounds_toArray, List.set_cons_zero, List.set_cons_succ]
    rfl
  refine pure_ (i := 7) (N := some 28) (v := ?_) (a' := ?_) #[true, true, true, true, true, true, true, true, false, false, false, false, false, false, false, false, false, false, false, false, false, false, false, false, false, false, false, false, false, false, false, false, false, false, false, false] rfl rfl (any_of HT_.out (by kernel_rfl)) (fun _ _ _ h => h) (Or.inl ⟨by rfl, ?_⟩) ?_ ?_
  rotate_left
  · intro w'
    go_simp
    try with_reducible rfl
  rotate_left
  · simp only [Act.put, List.setIfInBounds_toArray, List.set_cons_zero, List.set_cons_succ]
    rfl
  refine pure_ (i := 8) (N := some 29) (v := ?_) (a' := ?_) #[true, true, true, true, true, true, true, true, true, false, false, false, false, false, false, false, false, false, false, false, false, false, false, false, false, false, false, false, false, false, false, false, false, false, false, false] rfl rfl (any_of HT_.out (by kernel_rfl)) (fun _ _ _ h => h) (Or.inl ⟨by rfl, ?_⟩) ?_ ?_
  rotate_left
  · intro w'
    go_simp
    try with_reducible rfl
  rotate_left
  · simp only [Act.put, List.setIfInBounds_toArray, List.set_cons_zero, List.set_cons_succ]
    rfl
  refine pure_ (i := 9) (N := some 30) (v := ?_) (a' := ?_) #[true, true, true, true, true, true, true, true, true, true, false, false, false, false, false, false, false, false, false, false, false, false, false, false, false, false, false, false, false, false, false, false, false, false, false, false] rfl rfl (any_of HT_.out (by kernel_rfl)) (fun _ _ _ h => h) (Or.inl ⟨by rfl, ?_⟩) ?_ ?_
  rotate_left
  · intro w'
    go_simp
    try with_reducible rfl
  rotate_left
  · simp only [Act.put, List.setIfInBounds_toArray, List.set_cons_zero, List.set_cons_succ]
    rfl
  refine pure_ (i := 10) (N := some 31) (v := ?_) (a' := ?_) #[true, true, true, true, true, true, true, true, true, true, true, false, false, false, false, false, false, false, false, false, false, false, false, false, false, false, false, false, false, false, false, false, false, false, false, false] rfl rfl (any_of HT_.out (by kernel_rfl)) (fun _ _ _ h => h) (Or.inl ⟨by rfl, ?_⟩) ?_ ?_
  rotate_left
  · intro w'
    go_simp
    try with_reducible rfl
  rotate_left
  · simp only [Act.put, List.setIfInBounds_toArray, List.set_cons_zero, List.set_cons_succ]
    rfl
  refine pure_ (i := 11) (N := some 32) (v := ?_) (a' := ?_) #[true, true, true, true, true, true, true, true, true, true, true, true, false, false, false, false, false, false, false, false, false, false, false, false, false, false, false, false, false, false, false, false, false, false, false, false] rfl rfl (any_of HT_.out (by kernel_rfl)) (fun _ _ _ h => h) (Or.inl ⟨by rfl, ?_⟩) ?_ ?_
  rotate_left
  · intro w'
    go_simp
    try with_reducible rfl
  rotate_left
  · simp only [Act.put, List.setIfInBounds_toArray, List.set_cons_zero, List.set_cons_succ]
    rfl
  refine take_ (i := 12) (N := some 33) (v := ?_) (a' := ?_) #[true, true, true, true, true, true, true, true, true, true, true, true, true, false, false, false, false, false, false, false, false, false, false, false, false, false, false, false, false, false, false, false, false, false, false, false] rfl rfl (take_ofW HT_.out HW_.out (by kernel_rfl)) (fun _ _ _ h => h) (Or.inl ⟨by rfl, ?_⟩) hHeld ?_ ?_
  rotate_left
  · rintro w' ⟨s0, s1, s2, s3, s4, s5, s6, s7, s8, s9, s10, s11, s12, s13, s14⟩
    go_simp
    try with_reducible rfl
  rotate_left
  · simp only [Act.put, List.setIfInBounds_toArray, List.set_cons_zero, List.set_cons_succ]
    rfl
  refine take_ (i := 14) (N := some 35) (v := ?_) (a' := ?_) #[true, true, true, true, true, true, true, true, true, true, true, true, true, false, true, false, false, false, false, false, false, false, false, false, false, false, false, false, false, false, false, false, false, false, false, false] rfl rfl (take_ofW HT_.out HW_.out (by kernel_rfl)) (fun _ _ _ h => h) (Or.inl ⟨by rfl, ?_⟩) hHeld ?_ ?_
  rotate_left
  · rintro w' ⟨s0, s1, s2, s3, s4, s5, s6, s7, s8, s9, s10, s11, s12, s13, s14⟩
    go_simp
    try with_reducible rfl
  rotate_left
  · simp only [Act.put, List.setIfInBounds_toArray, List.set_cons_zero, List.set_cons_succ]
    rfl
  refine one_ (i := 13) (N := some 34) #[true, true, true, true, true, true, true, true, true, true, true, true, true, true, true, false, false, false, false, false, false, false, false, false, false, false, false, false, false, false, false, false, false, false, false, false] rfl rfl (one_of HT_.out (by kernel_rfl)) (by decide) (fun K hK => ?_)
  refine goes_ Try.func10 (by kernel_rfl) rfl #[.agg #[.int .i64 a0, .int .i64 a1, .int .i64 a2, .string a3, .string a4, .slice B5 l5.length d5, .slice B6 l6.length d6]] (by rfl) rfl rfl (by first | done | rfl | (simp only [List.map_toArray, List.map_cons, List.map_nil]; done) | (simp only [List.map_toArray, List.map_cons, List.map_nil]; rfl)) ?_
  refine (mail_Check.calls k a0 a1 a2 a3 a4 B5 d5 l5 B6 d6 l6 c _ hHeld.1.sA H5.out hHeld.1.sC H6.out M1.out).mono ?_
  rintro e' w9 ⟨rfl, b9⟩
  refine ⟨_, rfl, ?_⟩
  refine hK.out _ _ (MW.all (hHeld.1.below b9)) (fun hHeld => ?_)
  clear hK K
  refine norm_ (a' := ?_) ?_ ?_
  rotate_left
  · show Act.put _ (some 34) _ = _
    simp only [Act.put, List.setIfInBounds_toArray, List.set_cons_zero, List.set_cons_succ]
    rfl
  refine one_ (i := 15) (N := some 36) #[true, true, true, true, true, true, true, true, true, true, true, true, true, true, true, true, false, false, false, false, false, false, false, false, false, false, false, false, false, false, false, false, false, false, false, false] rfl rfl (one_of HT_.out (by kernel_rfl)) (by decide) (fun K hK => ?_)
  refine goes_ Try.func11 (by kernel_rfl) rfl #[.agg #[.int .i64 a0, .int .i64 a1, .int .i64 a2, .string a3, .string a4, .slice A5 l5.length c5, .slice A6 l6.length c6]] (by rfl) rfl rfl (by first | done | rfl | (simp only [List.map_toArray, List.map_cons, List.map_nil]; done) | (simp only [List.map_toArray, List.map_cons, List.map_nil]; rfl)) ?_
  refine (dovecoteref11_Check.calls k a0 a1 a2 a3 a4 A5 c5 l5 A6 c6 l6 c _ hHeld.1.rA HB.out hHeld.1.rC HD.out M2.out).mono ?_
  rintro e' w9 ⟨rfl, b9⟩
  refine ⟨_, rfl, ?_⟩
  refine hK.out _ _ (MW.all (hHeld.1.below b9)) (fun hHeld => ?_)
  clear hK K
  refine norm_ (a' := ?_) ?_ ?_
  rotate_left
  · show Act.put _ (some 36) _ = _
    simp only [Act.put, List.setIfInBounds_toArray, List.set_cons_zero, List.set_cons_succ]
    rfl
  refine pure_ (i := 16) (N := some 37) (v := ?_) (a' := ?_) #[true, true, true, true, true, true, true, true, true, true, true, true, true, true, true, true, true, false, false, false, false, false, false, false, false, false, false, false, false, false, false, false, false, false, false, false] rfl rfl (any_of HT_.out (by kernel_rfl)) (fun _ _ _ h => h) (Or.inl ⟨by rfl, ?_⟩) ?_ ?_
  rotate_left
  · intro w'
    go_simp
    try with_reducible rfl
  rotate_left
  · simp only [Act.put, List.setIfInBounds_toArray, List.set_cons_zero, List.set_cons_succ]
    rfl
  refine pure_ (i := 17) (N := some 38) (v := ?_) (a' := ?_) #[true, true, true, true, true, true, true, true, true, true, true, true, true, true, true, true, true, true, false, false, false, false, false, false, false, false, false, false, false, false, false, false, false, false, false, false] rfl rfl (any_of HT_.out (by kernel_rfl)) (fun _ _ _ h => h) (Or.inl ⟨by rfl, ?_⟩) ?_ ?_
  rotate_left
  · intro w'
    go_simp
    try with_reducible rfl
  rotate_left
  · simp only [Act.put, List.setIfInBounds_toArray, List.set_cons_zero, List.set_cons_succ]
    rfl
  refine pure_ (i := 18) (N := some 39) (v := ?_) (a' := ?_) #[true, true, true, true, true, true, true, true, true, true, true, true, true, true, true, true, true, true, true, false, false, false, false, false, false, false, false, false, false, false, false, false, false, false, false, false] rfl rfl (any_of HT_.out (by kernel_rfl)) (fun _ _ _ h => h) (Or.inl ⟨by rfl, ?_⟩) ?_ ?_
  rotate_left
  · intro w'
    go_simp
    try with_reducible rfl
  rotate_left
  · simp only [Act.put, List.setIfInBounds_toArray, List.set_cons_zero, List.set_cons_succ]
    rfl
  refine pure_ (i := 19) (N := some 40) (v := ?_) (a' := ?_) #[true, true, true, true, true, true, true, true, true, true, true, true, true, true, true, true, true, true, true, true, false, false, false, false, false, false, false, false, false, false, false, false, false, false, false, false] rfl rfl (any_of HT_.out (by kernel_rfl)) (fun _ _ _ h => h) (Or.inl ⟨by rfl, ?_⟩) ?_ ?_
  rotate_left
  · intro w'
    go_simp
    try with_reducible rfl
  rotate_left
  · simp only [Act.put, List.setIfInBounds_toArray, List.set_cons_zero, List.set_cons_succ]
    rfl
  refine pure_ (i := 22) (N := some 43) (v := ?_) (a' := ?_) #[true, true, true, true, true, true, true, true, true, true, true, true, true, true, true, true, true, true, true, true, false, false, true, false, false, false, false, false, false, false, false, false, false, false, false, false] rfl rfl (any_of HT_.out (by kernel_rfl)) (fun _ _ _ h => h) (Or.inl ⟨by rfl, ?_⟩) ?_ ?_
  rotate_left
  · intro w'
    go_simp
    try with_reducible rfl
  rotate_left
  · simp only [Act.put, List.setIfInBounds_toArray, List.set_cons_zero, List.set_cons_succ]
    rfl
  refine take_ (i := 20) (N := some 41) (v := ?_) (a' := ?_) #[true, true, true, true, true, true, true, true, true, true, true, true, true, true, true, true, true, true, true, true, true, false, true, false, false, false, false, false, false, false, false, false, false, false, false, false] rfl rfl (take_ofW HT_.out HW_.out (by kernel_rfl)) (fun _ _ _ h => h) (Or.inl ⟨by rfl, ?_⟩) hHeld ?_ ?_
  rotate_left
  · rintro w' ⟨s0, s1, s2, s3, s4, s5, s6, s7, s8, s9, s10, s11, s12, s13, s14⟩
    go_simp
    try with_reducible rfl
  rotate_left
  · simp only [Act.put, List.setIfInBounds_toArray, List.set_cons_zero, List.set_cons_succ]
    rfl
  refine take_ (i := 23) (N := some 44) (v := ?_) (a' := ?_) #[true, true, true, true, true, true, true, true, true, true, true, true, true, true, true, true, true, true, true, true, true, false, true, true, false, false, false, false, false, false, false, false, false, false, false, false] rfl rfl (take_ofW HT_.out HW_.out (by kernel_rfl)) (fun _ _ _ h => h) (Or.inl ⟨by rfl, ?_⟩) hHeld ?_ ?_
  rotate_left
  · rintro w' ⟨s0, s1, s2, s3, s4, s5, s6, s7, s8, s9, s10, s11, s12, s13, s14⟩
    go_simp
    try with_reducible rfl
  rotate_left
  · simp only [Act.put, List.setIfInBounds_toArray, List.set_cons_zero, List.set_cons_succ]
    rfl
  refine one_ (i := 21) (N := some 42) #[true, true, true, true, true, true, true, true, true, true, true, true, true, true, true, true, true, true, true, true, true, true, true, true, false, false, false, false, false, false, false, false, false, false, false, false] rfl rfl (one_of HT_.out (by kernel_rfl)) (by decide) (fun K hK => ?_)
  refine goes_ Try.func12 (by kernel_rfl) rfl #[.int .i64 a0] (by rfl) rfl rfl (by first | done | rfl | (simp only [List.map_toArray, List.map_cons, List.map_nil]; done) | (simp only [List.map_toArray, List.map_cons, List.map_nil]; rfl)) ?_
  refine (mail_Long.calls a0 n _ M3.out).mono ?_
  rintro e' w9 ⟨rfl, ⟨nd, rfl⟩⟩
  refine ⟨_, rfl, ?_⟩
  refine hK.out _ _ (MW.all (hHeld.1.below (pw_below_drewN (Below.refl _ _) nd))) (fun hHeld => ?_)
  clear hK K
  refine norm_ (a' := ?_) ?_ ?_
  rotate_left
  · show Act.put _ (some 42) _ = _
    simp only [Act.put, List.setIfInBounds_toArray, List.set_cons_zero, List.set_cons_succ]
    rfl
  refine one_ (i := 24) (N := some 45) #[true, true, true, true, true, true, true, true, true, true, true, true, true, true, true, true, true, true, true, true, true, true, true, true, true, false, false, false, false, false, false, false, false, false, false, false] rfl rfl (one_of HT_.out (by kernel_rfl)) (by decide) (fun K hK => ?_)
  refine goes_ Try.func13 (by kernel_rfl) rfl #[.int .i64 a0] (by rfl) rfl rfl (by first | done | rfl | (simp only [List.map_toArray, List.map_cons, List.map_nil]; done) | (simp only [List.map_toArray, List.map_cons, List.map_nil]; rfl)) ?_
  refine (dovecoteref11_Long.calls a0 n _ M4.out).mono ?_
  rintro e' w9 ⟨rfl, ⟨nd, rfl⟩⟩
  refine ⟨_, rfl, ?_⟩
  refine hK.out _ _ (MW.all (hHeld.1.below (pw_below_drewN (Below.refl _ _) nd))) (fun hHeld => ?_)
  clear hK K
  refine norm_ (a' := ?_) ?_ ?_
  rotate_left
  · show Act.put _ (some 45) _ = _
    simp only [Act.put, List.setIfInBounds_toArray, List.set_cons_zero, List.set_cons_succ]
    rfl
  refine pure_ (i := 25) (N := some 46) (v := ?_) (a' := ?_) #[true, true, true, true, true, true, true, true, true, true, true, true, true, true, true, true, true, true, true, true, true, true, true, true, true, true, false, false, false, false, false, false, false, false, false, false] rfl rfl (any_of HT_.out (by kernel_rfl)) (fun _ _ _ h => h) (Or.inl ⟨by rfl, ?_⟩) ?_ ?_
  rotate_left
  · intro w'
    go_simp
    try with_reducible rfl
  rotate_left
  · simp only [Act.put, List.setIfInBounds_toArray, List.set_cons_zero, List.set_cons_succ]
    rfl
  refine pure_ (i := 26) (N := some 47) (v := ?_) (a' := ?_) #[true, true, true, true, true, true, true, true, true, true, true, true, true, true, true, true, true, true, true, true, true, true, true, true, true, true, true, false, false, false, false, false, false, false, false, false] rfl rfl (any_of HT_.out (by kernel_rfl)) (fun _ _ _ h => h) (Or.inl ⟨by rfl, ?_⟩) ?_ ?_
  rotate_left
  · intro w'
    go_simp
    try with_reducible rfl
  rotate_left
  · simp only [Act.put, List.setIfInBounds_toArray, List.set_cons_zero, List.set_cons_succ]
    rfl
  refine pure_ (i := 27) (N := some 48) (v := ?_) (a' := ?_) #[true, true, true, true, true, true, true, true, true, true, true, true, true, true, true, true, true, true, true, true, true, true, true, true, true, true, true, true, false, false, false, false, false, false, false, false] rfl rfl (any_of HT_.out (by kernel_rfl)) (fun _ _ _ h => h) (Or.inl ⟨by rfl, ?_⟩) ?_ ?_
  rotate_left
  · intro w'
    go_simp
    try with_reducible rfl
  rotate_left
  · simp only [Act.put, List.setIfInBounds_toArray, List.set_cons_zero, List.set_cons_succ]
    rfl
  refine take_ (i := 28) (N := some 49) (v := ?_) (a' := ?_) #[true, true, true, true, true, true, true, true, true, true, true, true, true, true, true, true, true, true, true, true, true, true, true, true, true, true, true, true, true, false, false, false, false, false, false, false] rfl rfl (take_ofW HT_.out HW_.out (by kernel_rfl)) (fun _ _ _ h => h) (Or.inl ⟨by rfl, ?_⟩) hHeld ?_ ?_
  rotate_left
  · rintro w' ⟨s0, s1, s2, s3, s4, s5, s6, s7, s8, s9, s10, s11, s12, s13, s14⟩
    go_simp
    try with_reducible rfl
  rotate_left
  · simp only [Act.put, List.setIfInBounds_toArray, List.set_cons_zero, List.set_cons_succ]
    rfl
  refine take_ (i := 29) (N := some 50) (v := ?_) (a' := ?_) #[true, true, true, true, true, true, true, true, true, true, true, true, true, true, true, true, true, true, true, true, true, true, true, true, true, true, true, true, true, true, false, false, false, false, false, false] rfl rfl (take_ofW HT_.out HW_.out (by kernel_rfl)) (fun _ _ _ h => h) (Or.inl ⟨by rfl, ?_⟩) hHeld ?_ ?_
  rotate_left
  · rintro w' ⟨s0, s1, s2, s3, s4, s5, s6, s7, s8, s9, s10, s11, s12, s13, s14⟩
    go_simp
    try with_reducible rfl
  rotate_left
  · simp only [Act.put, List.setIfInBounds_toArray, List.set_cons_zero, List.set_cons_succ]
    rfl
  refine one_ (i := 30) (N := some 51) #[true, true, true, true, true, true, true, true, true, true, true, true, true, true, true, true, true, true, true, true, true, true, true, true, true, true, true, true, true, true, true, false, false, false, false, false] rfl rfl (one_of HT_.out (by kernel_rfl)) (by decide) (fun K hK => ?_)
  refine goes_ Try.func14 (by kernel_rfl) rfl #[.agg #[.int .i64 a0, .int .i64 a1, .int .i64 a2, .string a3, .string a4, .slice B5 l5.length d5, .slice B6 l6.length d6], .agg #[.int .i64 a0, .int .i64 a1, .int .i64 a2, .string a3, .string a4, .slice A5 l5.length c5, .slice A6 l6.length c6]] (by rfl) rfl rfl (by first | done | rfl | (simp only [List.map_toArray, List.map_cons, List.map_nil]; done) | (simp only [List.map_toArray, List.map_cons, List.map_nil]; rfl)) ?_
  refine (dovecotebook_SameMail.calls k a0 a1 a2 a3 a4 B5 d5 l5 B6 d6 l6 a0 a1 a2 a3 a4 A5 c5 l5 A6 c6 l6 true _ hHeld.1.sA H5.out hHeld.1.sC H6.out hHeld.1.rA HB.out hHeld.1.rC HD.out M5.out).mono ?_
  rintro e' w9 ⟨rfl, b9⟩
  refine ⟨_, rfl, ?_⟩
  refine hK.out _ _ (MW.all (hHeld.1.below b9)) (fun hHeld => ?_)
  clear hK K
  refine norm_ (a' := ?_) ?_ ?_
  rotate_left
  · show Act.put _ (some 51) _ = _
    simp only [Act.put, List.setIfInBounds_toArray, List.set_cons_zero, List.set_cons_succ]
    rfl
  refine pure_ (i := 31) (N := some 52) (v := ?_) (a' := ?_) #[true, true, true, true, true, true, true, true, true, true, true, true, true, true, true, true, true, true, true, true, true, true, true, true, true, true, true, true, true, true, true, true, false, false, false, false] rfl rfl (any_of HT_.out (by kernel_rfl)) (fun _ _ _ h => h) (Or.inl ⟨by rfl, ?_⟩) ?_ ?_
  rotate_left
  · intro w'
    go_simp
    try with_reducible rfl
  rotate_left
  · simp only [Act.put, List.setIfInBounds_toArray, List.set_cons_zero, List.set_cons_succ]
    rfl
  refine pure_ (i := 32) (N := some 53) (v := ?_) (a' := ?_) #[true, true, true, true, true, true, true, true, true, true, true, true, true, true, true, true, true, true, true, true, true, true, true, true, true, true, true, true, true, true, true, true, true, false, false, false] rfl rfl (any_of HT_.out (by kernel_rfl)) (fun _ _ _ h => h) (Or.inl ⟨by rfl, ?_⟩) ?_ ?_
  rotate_left
  · intro w'
    go_simp
    try with_reducible rfl
  rotate_left
  · simp only [Act.put, List.setIfInBounds_toArray, List.set_cons_zero, List.set_cons_succ]
    rfl
  refine one_ (i := 33) (N := some 54) #[true, true, true, true, true, true, true, true, true, true, true, true, true, true, true, true, true, true, true, true, true, true, true, true, true, true, true, true, true, true, true, true, true, true, false, false] rfl rfl (one_of HT_.out (by kernel_rfl)) (by decide) (fun K hK => ?_)
  refine goes_ Try.func15 (by kernel_rfl) rfl #[] (by rfl) rfl rfl (by first | done | rfl | (simp only [List.map_toArray, List.map_cons, List.map_nil]; done) | (simp only [List.map_toArray, List.map_cons, List.map_nil]; rfl)) ?_
  refine (dovecotelaw11_works.calls k _ M6.out).mono ?_
  rintro e' w9 ⟨rfl, b9⟩
  refine ⟨_, rfl, ?_⟩
  refine hK.out _ _ (MW.all (hHeld.1.below b9)) (fun hHeld => ?_)
  clear hK K
  refine norm_ (a' := ?_) ?_ ?_
  rotate_left
  · show Act.put _ (some 54) _ = _
    simp only [Act.put, List.setIfInBounds_toArray, List.set_cons_zero, List.set_cons_succ]
    rfl
  refine pure_ (i := 34) (N := some 55) (v := ?_) (a' := ?_) #[true, true, true, true, true, true, true, true, true, true, true, true, true, true, true, true, true, true, true, true, true, true, true, true, true, true, true, true, true, true, true, true, true, true, true, false] rfl rfl (any_of HT_.out (by kernel_rfl)) (fun _ _ _ h => h) (Or.inl ⟨by rfl, ?_⟩) ?_ ?_
  rotate_left
  · intro w'
    go_simp
    try with_reducible rfl
  rotate_left
  · simp only [Act.put, List.setIfInBounds_toArray, List.set_cons_zero, List.set_cons_succ]
    rfl
  refine pure_ (i := 35) (N := some 2) (v := ?_) (a' := ?_) #[true, true, true, true, true, true, true, true, true, true, true, true, true, true, true, true, true, true, true, true, true, true, true, true, true, true, true, true, true, true, true, true, true, true, true, true] rfl rfl (any_of HT_.out (by kernel_rfl)) (fun _ _ _ h => h) (Or.inl ⟨by rfl, ?_⟩) ?_ ?_
  rotate_left
  · intro w'
    go_simp
    try with_reducible rfl
  rotate_left
  · simp only [Act.put, List.setIfInBounds_toArray, List.set_cons_zero, List.set_cons_succ]
    rfl
  refine done_ (done_of HT_.out (by kernel_rfl)) ?_
  clear HT_ HW_
  go_wp2_with fail
  go_ret
  exact ⟨rfl, hHeld.1.b⟩
end Go.Proofs.Ytidilhnjfdkmpaa
namespace Go.Proofs.Ytidilhnjfdkmpaa
open Go.RowKit Go.Proofs.Ytidilhnjfdkmpaa.PMailA Go.Proofs.Ytidilhnjfdkmpaa.PMailW Go.Proofs.YtidilhnjfdkmpaaW.PrintWords Go.Proofs.YtidilhnjfdkmpaaW.PrintLast Go.Proofs.YtidilhnjfdkmpaaW.PrintMore
set_option linter.unusedSimpArgs false
set_option linter.unusedVariables false
theorem slots_same2 (l : List S43) (hl : l.length ≤ 9000000000000000) (d : Nat) : ∀ i, i + d = l.length → Ev (fun k => dovecotebook_SameSlots.l0 k l l (i : Int)) true := by
  induction d with
  | zero =>
    intro i hi
    refine Ev.step (f := fun _ => some true) (fun k => ?_) (Ev.now _)
    simp only [dovecotebook_SameSlots.l0]
    rw [if_neg (by omega)]
  | succ d ih =>
    intro i hi
    refine Ev.step (f := fun k => dovecotebook_SameSlots.l0 k l l ((i + 1 : Nat) : Int)) (fun k => ?_) (ih (i + 1) (by omega))
    simp only [dovecotebook_SameSlots.l0]
    rw [if_pos (by omega), if_pos (by omega), if_pos (by omega), if_neg (by simp), show wrap64 ((i : Int) + 1) = ((i + 1 : Nat) : Int) by unfold wrap64; omega]
theorem texts_same2 (l : List ByteArray) (hl : l.length ≤ 9000000000000000) (d : Nat) : ∀ i, i + d = l.length → Ev (fun k => dovecotebook_SameTexts.l0 k l l (i : Int)) true := by
  induction d with
  | zero =>
    intro i hi
    refine Ev.step (f := fun _ => some true) (fun k => ?_) (Ev.now _)
    simp only [dovecotebook_SameTexts.l0]
    rw [if_neg (by omega)]
  | succ d ih =>
    intro i hi
    refine Ev.step (f := fun k => dovecotebook_SameTexts.l0 k l l ((i + 1 : Nat) : Int)) (fun k => ?_) (ih (i + 1) (by omega))
    simp only [dovecotebook_SameTexts.l0]
    rw [if_pos (by omega), if_pos (by omega), if_pos (by omega), if_pos trivial, show wrap64 ((i : Int) + 1) = ((i + 1 : Nat) : Int) by unfold wrap64; omega]
theorem same_ev2 (a0 a1 a2 : Int) (a3 a4 : ByteArray) (l5 : List S43) (l6 : List ByteArray) (h5 : l5.length ≤ 9000000000000000) (h6 : l6.length ≤ 9000000000000000) : Ev (fun k => dovecotebook_SameMail.f k a0 a1 a2 a3 a4 l5 l6 a0 a1 a2 a3 a4 l5 l6) true := by
  unfold dovecotebook_SameMail.f
  refine Ev.congr (fun k => by rw [if_pos rfl, if_pos rfl, if_pos rfl, if_pos rfl, if_pos rfl]) ?_
  refine Ev.bind (a := true) ?_ (Ev.congr (fun k => if_pos rfl) (Ev.bind (a := true) ?_ (Ev.now _)))
  · unfold dovecotebook_SameSlots.f
    exact Ev.congr (fun k => if_pos rfl) (slots_same2 l5 h5 l5.length 0 (by omega))
  · unfold dovecotebook_SameTexts.f
    exact Ev.congr (fun k => if_pos rfl) (texts_same2 l6 h6 l6.length 0 (by omega))
theorem long_same (a : Int) : ∃ n, mail_Long.f a = some n ∧ dovecoteref11_Long.f a = some n := by
  unfold mail_Long.f dovecoteref11_Long.f
  by_cases h1 : a = 1
  · exact ⟨_, if_pos h1, if_pos h1⟩
  rw [if_neg h1]
  by_cases h2 : a = 2
  · exact ⟨_, if_pos h2, if_pos h2⟩
  rw [if_neg h2]
  by_cases h3 : a = 3
  · exact ⟨_, if_pos h3, if_pos h3⟩
  rw [if_neg h3]
  by_cases h4 : a = 4
  · exact ⟨_, if_pos h4, if_pos h4⟩
  exact ⟨_, if_neg h4, if_neg h4⟩
theorem law_MailWrites (a0 a1 a2 : Int) (a3 a4 : ByteArray) (A5 : Option Addr) (c5 : Nat) (l5 : List S43) (A6 : Option Addr) (c6 : Nat) (l6 : List ByteArray) (W : World)
    (hA : Kd.C k43 W A5 l5.length l5) (hB : l5.length ≤ c5) (hC : Kd.C Kd.string W A6 l6.length l6) (hD : l6.length ≤ c6) (h5 : l5.length < 4398046511104) (h6 : l6.length < 8796093022208) :
    Calls Try.prog 3 #[.agg #[.int .i64 a0, .int .i64 a1, .int .i64 a2, .string a3, .string a4, .slice A5 l5.length c5, .slice A6 l6.length c6]] W fun e W' => e = .returned (.bool true) ∧ Below W.heap.size W W' := by
  obtain ⟨⟨x, e⟩, c, e1, e2, e3, e4⟩ := both_enc a0 a1 a2 a3 a4 l5 l6 (by omega)
  obtain ⟨n, m3, m4⟩ := long_same a0
  obtain ⟨K1, k1⟩ := e1
  obtain ⟨K2, k2⟩ := e2
  obtain ⟨K3, k3⟩ := e3
  obtain ⟨K4, k4⟩ := e4
  obtain ⟨K5, k5⟩ := (same_ev2 a0 a1 a2 a3 a4 l5 l6 (by omega) (by omega))
  obtain ⟨K6, k6⟩ := works11w_ev
  exact walk_MailWrites (K1 + K2 + K3 + K4 + K5 + K6) a0 a1 a2 a3 a4 A5 c5 l5 A6 c6 l6 x e c n W h5 h6 hA hB hC hD (k3 _ (by omega)) (k4 _ (by omega)) m3 m4 (k5 _ (by omega)) (k6 _ (by omega)) (k1 _ (by omega)) (k2 _ (by omega))
end Go.Proofs.Ytidilhnjfdkmpaa

/- mail.Decode. -/
import Derived.Test.YtidilhnjfdkmpaaMailS
import Derived.Test.YtidilhnjfdkmpaaCb
import Derived.Test.YtidilhnjfdkmpaaPMailAx5
namespace Go.Proofs.Ytidilhnjfdkmpaa
open Go.RowKit Go.Proofs.Ytidilhnjfdkmpaa.PMailA Go.Proofs.YtidilhnjfdkmpaaW.PrintWords Go.Proofs.YtidilhnjfdkmpaaW.PrintLast
set_option linter.unusedSimpArgs false
set_option linter.unusedVariables false
def zM : Value := .agg #[.int .i64 0, .int .i64 0, .int .i64 0, .string ⟨#[]⟩, .string ⟨#[]⟩, .slice none 0 0, .slice none 0 0]
set_option maxHeartbeats 400000 in
theorem dec_none (a0 : ByteArray) (w : World) (h0 : a0.toList = []) :
    Calls Try.prog 16 #[.string a0] w fun e w' => e = .returned (.tuple #[zM, .int .i64 110]) ∧ Below w.heap.size w w' := by
  go_enter Try.func16, Try.ntmps16
  go_wp2_with fail
  refine bodyPost_ret (results_ct rfl _ _ w.heap.size 25 #[.int .i64 0, .int .i64 0, .int .i64 0, .string ⟨#[]⟩, .string ⟨#[]⟩, .slice none 0 0, .slice none 0 0] (0, 0) _ rfl (blk_new _ _) Try.underlying25 rfl rfl) rfl ?_
  exact ⟨rfl, below_alloc (Below.refl _ _) _⟩
abbrev Z7 : Array Value := #[.int .i64 0, .int .i64 0, .int .i64 0, .string ⟨#[]⟩, .string ⟨#[]⟩, .slice none 0 0, .slice none 0 0]
theorem gen_world {P : Program} {c : Code} {Q : Exit → Act → World → Prop} {a : Act} {W : World} (D : World → Prop) (h : D W) (k : ∀ W', D W' → c.wp P Q a W') : c.wp P Q a W := k W h
theorem bt_at' (a : ByteArray) (h : 0 < a.size) : ((a[0]'h).toNat : Int) = bt a 0 := by
  unfold bt
  rw [dif_pos (by simpa using h)]
  rfl
theorem list_ne {a : ByteArray} (h : 0 < a.size) : a.toList.isEmpty = false := by
  rw [ByteArray.toList_eq]
  obtain ⟨⟨l⟩⟩ := a
  cases l with
  | nil => simp [ByteArray.size] at h
  | cons x l => rfl
def sq (l : List UInt8) : Int := l.foldl (fun m b => m * 256 + n8 b) 0
theorem gen_body {P : Program} {fn : Func} {Q : Ending → World → Prop} {ex : Exit} {a : Act} {W : World} (D : World → Prop) (h : D W) (k : ∀ W', D W' → bodyPost P fn Q ex a W') : bodyPost P fn Q ex a W := k W h
theorem ex_drop (a : ByteArray) (n : Nat) : a.extract n a.size = tx (a.data.toList.drop n) := by
  conv => lhs; rw [tx_of a]
  exact tx_drop _ n
theorem ex_bt (a : ByteArray) (q : 0 < a.size) (h : 0 < (a.extract 0 1).size) : (((a.extract 0 1)[0]'h).toNat : Int) = bt a 0 := by
  rw [← bt_at' a q]
  have e : (a.extract 0 1)[0]'h = a[0]'q := by first | (simp; done) | simp [ByteArray.getElem_eq_getElem_data, ByteArray.data_extract] | simp [ByteArray.getElem_extract]
  rw [e]
set_option maxHeartbeats 800000 in
theorem dec_long (a0 : ByteArray) (kd n : Int) (w : World) (q : 0 < a0.size) (hk : wrap64 (bt a0 0) = kd) (hn : mail_Long.f kd = some n) (h1 : ¬ (a0.size : Int) = n) :
    Calls Try.prog 16 #[.string a0] w fun e w' => e = .returned (.tuple #[zM, .int .i64 110]) ∧ Below w.heap.size w w' := by
  have hx := bt_at' a0
  have hl := list_ne q
  have qi : (0 < (a0.size : Int)) = True := eq_true (by omega)
  have q' : (0 < a0.size) = True := eq_true q
  have hc : ((a0.size : Int) != n) = true := bne_iff_ne.mpr h1
  have HN := Lib.hid hn
  clear h1 hn
  go_enter Try.func16, Try.ntmps16
  go_wp2_with fail
  refine (mail_Long.calls kd n _ HN.out).mono ?_
  rintro e w1 ⟨rfl, ⟨nd, hw⟩⟩
  have HZ := Lib.hid (show Blk w1 w.heap.size 25 Z7 by rw [hw]; exact blk_drewN (blk_new w _) nd)
  have HB := Lib.hid (show Below w.heap.size w w1 by rw [hw]; exact pw_below_drewN (below_alloc (Below.refl _ _) _) _)
  have HS := Lib.hid (show w1.heap.size = w.heap.size + 1 by rw [hw]; simp [World.drewN])
  clear hw
  have hz0 : w1.cell? ⟨w.heap.size, 0, none⟩ = some (.int .i64 0) := HZ.out.cell 0
  have fz0 := HZ.out.frozen 0
  have hz1 : w1.cell? ⟨w.heap.size, 1, none⟩ = some (.int .i64 0) := HZ.out.cell 1
  have fz1 := HZ.out.frozen 1
  have hz2 : w1.cell? ⟨w.heap.size, 2, none⟩ = some (.int .i64 0) := HZ.out.cell 2
  have fz2 := HZ.out.frozen 2
  have hz3 : w1.cell? ⟨w.heap.size, 3, none⟩ = some (.string ⟨#[]⟩) := HZ.out.cell 3
  have fz3 := HZ.out.frozen 3
  have hz4 : w1.cell? ⟨w.heap.size, 4, none⟩ = some (.string ⟨#[]⟩) := HZ.out.cell 4
  have fz4 := HZ.out.frozen 4
  have hz5 : w1.cell? ⟨w.heap.size, 5, none⟩ = some (.slice none 0 0) := HZ.out.cell 5
  have fz5 := HZ.out.frozen 5
  have hz6 : w1.cell? ⟨w.heap.size, 6, none⟩ = some (.slice none 0 0) := HZ.out.cell 6
  have fz6 := HZ.out.frozen 6
  go_wp2_with fail
  refine gen_body (fun W => Blk W w.heap.size 25 Z7 ∧ Below w.heap.size w W) ⟨?_, ?_⟩ ?_
  · exact ((((((HZ.out.set_ 0 _).set_ 1 _).set_ 2 _).set_ 3 _).set_ 4 _).set_ 5 _).set_ 6 _
  · exact (((((((HB.out.setCell (p := ⟨w.heap.size, 0, none⟩) (Nat.le_refl _) _).setCell (p := ⟨w.heap.size, 1, none⟩) (Nat.le_refl _) _).setCell (p := ⟨w.heap.size, 2, none⟩) (Nat.le_refl _) _).setCell (p := ⟨w.heap.size, 3, none⟩) (Nat.le_refl _) _).setCell (p := ⟨w.heap.size, 4, none⟩) (Nat.le_refl _) _).setCell (p := ⟨w.heap.size, 5, none⟩) (Nat.le_refl _) _).setCell (p := ⟨w.heap.size, 6, none⟩) (Nat.le_refl _) _)
  rintro W' ⟨hb, hB⟩
  refine bodyPost_ret (results_ct rfl _ _ w.heap.size 25 Z7 (0, 0) _ rfl hb Try.underlying25 rfl rfl) rfl ?_
  exact ⟨rfl, hB⟩
set_option maxHeartbeats 1600000 in
theorem dec_pac (a0 : ByteArray) (n kd : Int) (w : World) (q : 0 < a0.size) (hk : wrap64 (bt a0 0) = kd) (hn : mail_Long.f kd = some n) (h1 : (a0.size : Int) = n) (k1 : kd = 1) :
    Calls Try.prog 16 #[.string a0] w fun e w' => e = .returned (.tuple #[.agg #[.int .i64 kd, .int .i64 0, .int .i64 0, .string (tx (a0.data.toList.drop 1)), .string ⟨#[]⟩, .slice none 0 0, .slice none 0 0], .int .i64 0]) ∧ Below w.heap.size w w' := by
  have K1 : (kd == 1) = true := beq_iff_eq.mpr k1
  clear k1
  have hx := bt_at' a0
  have hl := list_ne q
  have qi : (0 < (a0.size : Int)) = True := eq_true (by omega)
  have q' : (0 < a0.size) = True := eq_true q
  have hc : ((a0.size : Int) != n) = false := bne_eq_false_iff_eq.mpr h1
  have HN := Lib.hid hn
  clear h1 hn
  go_enter Try.func16, Try.ntmps16
  go_wp2_with fail
  refine (mail_Long.calls kd n _ HN.out).mono ?_
  rintro e w1 ⟨rfl, ⟨nd, hw⟩⟩
  have HZ := Lib.hid (show Blk w1 w.heap.size 25 Z7 by rw [hw]; exact blk_drewN (blk_new w _) nd)
  have HB := Lib.hid (show Below w.heap.size w w1 by rw [hw]; exact pw_below_drewN (below_alloc (Below.refl _ _) _) _)
  have HS := Lib.hid (show w1.heap.size = w.heap.size + 1 by rw [hw]; simp [World.drewN])
  clear hw
  go_wp2_with fail
  refine (cut_any w1.heap.size a0 1 _ (Blk.new w1 _ _) q).mono ?_
  rintro e w2 ⟨rfl, hw⟩
  have B4 := Lib.hid (show Blk w2 w1.heap.size 9 #[.string (tx (a0.data.toList.drop 1))] by rw [hw, ex_drop]; exact (Blk.new w1 9 #[.string a0]).set_ 0 _)
  have B2 := Lib.hid (show Blk w2 w.heap.size 25 Z7 by rw [hw]; exact (HZ.out.alloc _).far (by show w.heap.size ≠ w1.heap.size; rw [HS.out]; omega) _)
  have B0 := Lib.hid (show Below w.heap.size w w2 by rw [hw]; exact ((below_alloc HB.out _).setCell (by show w.heap.size ≤ w1.heap.size; rw [HS.out]; omega) _))
  have S2 := Lib.hid (show w2.heap.size = w1.heap.size + 1 by rw [hw]; simp [World.setCell])
  clear hw
  have hx1 := ex_bt a0 q
  go_upto_region 5 with (first | ((with_reducible refine gate_dst (N := 5) rfl ?_); refine box_event ?hg (N := 5) ?hd (cs := Z7) (t := 25) ?hr ?_; (case hd => rfl); (case hg => rfl); (case hr => first | (go_simp; done) | (go_simp; rfl)); intro g5 hg w3 hbox hb; subst hg; have hz0 : w3.cell? ⟨w2.heap.size, 0, none⟩ = some (.int .i64 0) := blk_cell hbox 0; have fz0 := blk_frozen hbox 0; have hz1 : w3.cell? ⟨w2.heap.size, 1, none⟩ = some (.int .i64 0) := blk_cell hbox 1; have fz1 := blk_frozen hbox 1; have hz2 : w3.cell? ⟨w2.heap.size, 2, none⟩ = some (.int .i64 0) := blk_cell hbox 2; have fz2 := blk_frozen hbox 2; have hz3 : w3.cell? ⟨w2.heap.size, 3, none⟩ = some (.string ⟨#[]⟩) := blk_cell hbox 3; have fz3 := blk_frozen hbox 3; have hz4 : w3.cell? ⟨w2.heap.size, 4, none⟩ = some (.string ⟨#[]⟩) := blk_cell hbox 4; have fz4 := blk_frozen hbox 4; have hz5 : w3.cell? ⟨w2.heap.size, 5, none⟩ = some (.slice none 0 0) := blk_cell hbox 5; have fz5 := blk_frozen hbox 5; have hz6 : w3.cell? ⟨w2.heap.size, 6, none⟩ = some (.slice none 0 0) := blk_cell hbox 6; have fz6 := blk_frozen hbox 6))
  refine gen_world (fun W => DS w W w.heap.size w1.heap.size w2.heap.size Z7 #[.int .i64 kd, .int .i64 0, .int .i64 0, .string ⟨#[]⟩, .string ⟨#[]⟩, .slice none 0 0, .slice none 0 0] (a0.data.toList.drop 1) (.slice none 0 0) [] (.slice none 0 0) []) ?_ ?_
  · exact ((((((((DS.start w w.heap.size w1.heap.size w2.heap.size w3 Z7 Z7 (a0.data.toList.drop 1) (B0.out.trans (hb.mono B0.out.size)) (B2.out.below hb B2.out.lt) (B4.out.below hb B4.out.lt) hbox (Nat.le_refl _) (by rw [HS.out]; omega) (by rw [S2.out, HS.out]; omega) (by rw [HS.out]; omega) (by rw [S2.out, HS.out]; omega) (by rw [S2.out]; omega)).put 0 _).put 1 _).put 2 _).put 3 _).put 4 _).put 5 _).put 6 _)
  obtain ⟨r1, R1_⟩ : ∃ r, r = a0.data.toList.drop 1 := ⟨_, rfl⟩
  obtain ⟨g2, G2⟩ : ∃ g, g = w.heap.size := ⟨_, rfl⟩
  obtain ⟨g4, G4⟩ : ∃ g, g = w1.heap.size := ⟨_, rfl⟩
  obtain ⟨g5, G5⟩ : ∃ g, g = w2.heap.size := ⟨_, rfl⟩
  rw [← G2, ← G4, ← G5, ← R1_]
  have R1 := Lib.hid R1_
  clear R1_ G2 G4 G5 hbox hb hx1 hz0 hz1 hz2 hz3 hz4 hz5 hz6 fz0 fz1 fz2 fz3 fz4 fz5 fz6 HB HZ HS B4 B2 B0 S2 HN hx
  intro w4 D
  have D_ := Lib.hid D
  have t4 : w4.cell? ⟨g4, 0, none⟩ = some (.string (tx r1)) := D.h4.cell 0
  have f4 := D.h4.frozen 0
  have m0 : w4.cell? ⟨g5, 0, none⟩ = some (.int .i64 kd) := D.h5.cell 0
  have n0 := D.h5.frozen 0
  have m1 : w4.cell? ⟨g5, 1, none⟩ = some (.int .i64 0) := D.h5.cell 1
  have n1 := D.h5.frozen 1
  have m2 : w4.cell? ⟨g5, 2, none⟩ = some (.int .i64 0) := D.h5.cell 2
  have n2 := D.h5.frozen 2
  have m3 : w4.cell? ⟨g5, 3, none⟩ = some (.string ⟨#[]⟩) := D.h5.cell 3
  have n3 := D.h5.frozen 3
  have m4 : w4.cell? ⟨g5, 4, none⟩ = some (.string ⟨#[]⟩) := D.h5.cell 4
  have n4 := D.h5.frozen 4
  have m5 : w4.cell? ⟨g5, 5, none⟩ = some (.slice none 0 0) := D.h5.cell 5
  have n5 := D.h5.frozen 5
  have m6 : w4.cell? ⟨g5, 6, none⟩ = some (.slice none 0 0) := D.h5.cell 6
  have n6 := D.h5.frozen 6
  have k0 : w4.cell? ⟨g2, 0, none⟩ = some (.int .i64 0) := D.h2.cell 0
  have l0 := D.h2.frozen 0
  have k1 : w4.cell? ⟨g2, 1, none⟩ = some (.int .i64 0) := D.h2.cell 1
  have l1 := D.h2.frozen 1
  have k2 : w4.cell? ⟨g2, 2, none⟩ = some (.int .i64 0) := D.h2.cell 2
  have l2 := D.h2.frozen 2
  have k3 : w4.cell? ⟨g2, 3, none⟩ = some (.string ⟨#[]⟩) := D.h2.cell 3
  have l3 := D.h2.frozen 3
  have k4 : w4.cell? ⟨g2, 4, none⟩ = some (.string ⟨#[]⟩) := D.h2.cell 4
  have l4 := D.h2.frozen 4
  have k5 : w4.cell? ⟨g2, 5, none⟩ = some (.slice none 0 0) := D.h2.cell 5
  have l5 := D.h2.frozen 5
  have k6 : w4.cell? ⟨g2, 6, none⟩ = some (.slice none 0 0) := D.h2.cell 6
  have l6 := D.h2.frozen 6
  have d24 := D.d24
  have d25 := D.d25
  have d45 := D.d45
  have d42 := D.d24.symm
  have d52 := D.d25.symm
  have d54 := D.d45.symm
  clear D
  go_wp2_with fail
  refine gen_body (fun W => DS w W g2 g4 g5 #[.int .i64 kd, .int .i64 0, .int .i64 0, .string (tx r1), .string ⟨#[]⟩, .slice none 0 0, .slice none 0 0] #[.int .i64 kd, .int .i64 0, .int .i64 0, .string (tx r1), .string ⟨#[]⟩, .slice none 0 0, .slice none 0 0] r1 (.slice none 0 0) [] (.slice none 0 0) []) ?_ ?_
  · exact ((((((((D_.out.put 3 _).put2 0 _).put2 1 _).put2 2 _).put2 3 _).put2 4 _).put2 5 _).put2 6 _)
  intro W' E
  refine bodyPost_ret (results_ct rfl _ _ g2 25 #[.int .i64 kd, .int .i64 0, .int .i64 0, .string (tx r1), .string ⟨#[]⟩, .slice none 0 0, .slice none 0 0] (0, 0) _ rfl E.h2 Try.underlying25 rfl rfl) rfl ?_
  exact ⟨by rw [← R1.out]; rfl, E.b⟩
end Go.Proofs.Ytidilhnjfdkmpaa

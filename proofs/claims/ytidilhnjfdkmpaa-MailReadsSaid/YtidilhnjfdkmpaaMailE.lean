/- mail.Decode: what is no packet. -/
import Derived.Test.YtidilhnjfdkmpaaMailD
namespace Go.Proofs.Ytidilhnjfdkmpaa
open Go.RowKit Go.Proofs.Ytidilhnjfdkmpaa.PMailA Go.Proofs.YtidilhnjfdkmpaaW.PrintWords Go.Proofs.YtidilhnjfdkmpaaW.PrintLast
set_option linter.unusedSimpArgs false
set_option linter.unusedVariables false
theorem Cb.far {w : World} {g g' : Nat} {l : List UInt8} (h : Cb w g l) (hne : g ≠ g') (i : Nat) (u : Value) : Cb (w.setCell ⟨g', i, none⟩ u) g l :=
  ⟨by simpa using h.1, fun j hj => ⟨by rw [World.cell?_setCell_other _ _ _ _ (by simp [Ne.symm hne])]; exact (h.2 j hj).1, by rw [World.frozen?_setCell]; exact (h.2 j hj).2⟩⟩
theorem sq_snoc (l : List UInt8) (b : UInt8) : sq (l ++ [b]) = sq l * 256 + n8 b := by simp [sq]
theorem take_snoc (l : List UInt8) (k : Nat) (hk : k < l.length) : l.take (k + 1) = l.take k ++ [bd l k] := by
  rw [List.take_add_one, List.getElem?_eq_getElem hk]; simp [bd, List.getElem?_eq_getElem hk]
theorem sq_bd (l : List UInt8) (k : Nat) (hk : k ≤ l.length) : 0 ≤ sq (l.take k) ∧ sq (l.take k) < 256 ^ k := by
  induction k with
  | zero => simp [sq]
  | succ k ih =>
    have := ih (by omega)
    rw [take_snoc l k (by omega), sq_snoc]
    have hb := n8_bd (bd l k)
    rw [Int.pow_succ]
    omega
theorem sq_step (l : List UInt8) (k : Nat) (hl : l.length = 4) (hk : k < 4) : bits .or .i64 (wrap64 (sq (l.take k) * 256)) (wrap64 (n8 (bd l k))) = sq (l.take (k + 1)) := by
  have h1 := sq_bd l k (by omega)
  have hb := n8_bd (bd l k)
  have h2 : (256 : Int) ^ k ≤ 16777216 := by
    rcases (by omega : k = 0 ∨ k = 1 ∨ k = 2 ∨ k = 3) with rfl | rfl | rfl | rfl <;> decide
  have e1 : wrap64 (sq (l.take k) * 256) = sq (l.take k) * 256 := by unfold wrap64; omega
  have e2 : wrap64 (n8 (bd l k)) = n8 (bd l k) := by unfold wrap64; omega
  rw [e1, e2, bits_join .i64 63 (by decide) (fun n h0 h1 => by rw [IntKind.wrap_i64]; omega) 8 _ _ (by omega) (by omega) (by omega) (by omega) (by omega) (by omega), take_snoc l k (by omega), sq_snoc]
def dIds : Nat → List UInt8 → List ByteArray → List ByteArray
  | 0, _, li => li
  | n + 1, r, li => dIds n (r.drop 16) (if r.take 16 = noIdL then li else li ++ [tx (r.take 16)])
def r3L (l : List UInt8) : List UInt8 := ((l.drop 1).drop 1).drop 4
def uL (l : List UInt8) : Int := wrap64 (bt (tx ((l.drop 1).take 1)) 0)
def qL (l : List UInt8) : Int := sq (((l.drop 1).drop 1).take 4)
/-- what Decode gives. -/
def DecOut (w0 : World) (kd u q : Int) (x3 tag : ByteArray) (ls : List S43) (li : List ByteArray) (er : Int) (e : Ending) (w' : World) : Prop :=
  ∃ v5_ v6_ : Value, e = .returned (.tuple #[.agg #[.int .i64 kd, .int .i64 u, .int .i64 q, .string x3, .string tag, v5_, v6_], .int .i64 er]) ∧ Kd.R k43 43 w' w0.heap.size (fun _ => True) v5_ ls ∧ Kd.R Kd.string 9 w' w0.heap.size (fun _ => True) v6_ li ∧ Below w0.heap.size w0 w'
theorem DecOut.zero {w w' : World} (h : Below w.heap.size w w') : DecOut w 0 0 0 ⟨#[]⟩ ⟨#[]⟩ [] [] 110 (.returned (.tuple #[zM, .int .i64 110])) w' := ⟨.slice none 0 0, .slice none 0 0, rfl, Kd.R_nil _ _ _ _ _, Kd.R_nil _ _ _ _ _, h⟩
set_option maxHeartbeats 6400000 in
theorem dec_ids (a0 : ByteArray) (n kd : Int) (w : World) (q : 0 < a0.size) (hk : wrap64 (bt a0 0) = kd) (hn : mail_Long.f kd = some n) (h1 : (a0.size : Int) = n) (k1 : ¬ kd = 1) (h38 : 38 ≤ a0.size) (k3 : ¬ kd = 3) (N kE : Nat) (hN : (r3L a0.data.toList).length = 32 + 16 * N) (hN4 : N ≤ 4) (t : ByteArray) (e0 : Int) (hE : mail_Encode.f kE kd (uL a0.data.toList) (qL a0.data.toList) ⟨#[]⟩ (tx ((r3L a0.data.toList).take 32)) [] (dIds N ((r3L a0.data.toList).drop 32) []) = some (t, e0)) :
    Calls Try.prog 16 #[.string a0] w fun e w' => (e0 = 0 ∧ t.toList = a0.toList → DecOut w kd (uL a0.data.toList) (qL a0.data.toList) ⟨#[]⟩ (tx ((r3L a0.data.toList).take 32)) [] (dIds N ((r3L a0.data.toList).drop 32) []) 0 e w') ∧ (¬ (e0 = 0 ∧ t.toList = a0.toList) → DecOut w 0 0 0 ⟨#[]⟩ ⟨#[]⟩ [] [] 110 e w') := by
  have K1 : (kd == 1) = false := beq_eq_false_iff_ne.mpr k1
  clear k1
  have K3 : (kd != 3) = true := bne_iff_ne.mpr k3
  have K3b : (kd == 3) = false := beq_eq_false_iff_ne.mpr k3
  have HNN := Lib.hid hN
  have HN4 := Lib.hid hN4
  have HEE := Lib.hid hE
  clear k3 hN hN4 hE
  have hx := bt_at' a0
  have hl := list_ne q
  have qi : (0 < (a0.size : Int)) = True := eq_true (by omega)
  have q' : (0 < a0.size) = True := eq_true q
  have hc : ((a0.size : Int) != n) = false := bne_eq_false_iff_eq.mpr h1
  have HN := Lib.hid hn
  clear h1 hn
  go_enter Try.func16, Try.ntmps16
  go_wp2_with fail
  refine (mail_Long.calls kd n _ HN.out).mono ?_
  rintro e w1 ⟨rfl, ⟨nd, hw⟩⟩
  have HZ := Lib.hid (show Blk w1 w.heap.size 25 Z7 by rw [hw]; exact blk_drewN (blk_new w _) nd)
  have HB := Lib.hid (show Below w.heap.size w w1 by rw [hw]; exact pw_below_drewN (below_alloc (Below.refl _ _) _) _)
  have HS := Lib.hid (show w1.heap.size = w.heap.size + 1 by rw [hw]; simp [World.drewN])
  clear hw
  go_wp2_with fail
  refine (cut_any w1.heap.size a0 1 _ (Blk.new w1 _ _) q).mono ?_
  rintro e w2 ⟨rfl, hw⟩
  have B4 := Lib.hid (show Blk w2 w1.heap.size 9 #[.string (tx (a0.data.toList.drop 1))] by rw [hw, ex_drop]; exact (Blk.new w1 9 #[.string a0]).set_ 0 _)
  have B2 := Lib.hid (show Blk w2 w.heap.size 25 Z7 by rw [hw]; exact (HZ.out.alloc _).far (by show w.heap.size ≠ w1.heap.size; rw [HS.out]; omega) _)
  have B0 := Lib.hid (show Below w.heap.size w w2 by rw [hw]; exact ((below_alloc HB.out _).setCell (by show w.heap.size ≤ w1.heap.size; rw [HS.out]; omega) _))
  have S2 := Lib.hid (show w2.heap.size = w1.heap.size + 1 by rw [hw]; simp [World.setCell])
  clear hw
  have hx1 := ex_bt a0 q
  go_upto_region 5 with (first | ((with_reducible refine gate_dst (N := 5) rfl ?_); refine box_event ?hg (N := 5) ?hd (cs := Z7) (t := 25) ?hr ?_; (case hd => rfl); (case hg => rfl); (case hr => first | (go_simp; done) | (go_simp; rfl)); intro g5 hg w3 hbox hb; subst hg; have hz0 : w3.cell? ⟨w2.heap.size, 0, none⟩ = some (.int .i64 0) := blk_cell hbox 0; have fz0 := blk_frozen hbox 0; have hz1 : w3.cell? ⟨w2.heap.size, 1, none⟩ = some (.int .i64 0) := blk_cell hbox 1; have fz1 := blk_frozen hbox 1; have hz2 : w3.cell? ⟨w2.heap.size, 2, none⟩ = some (.int .i64 0) := blk_cell hbox 2; have fz2 := blk_frozen hbox 2; have hz3 : w3.cell? ⟨w2.heap.size, 3, none⟩ = some (.string ⟨#[]⟩) := blk_cell hbox 3; have fz3 := blk_frozen hbox 3; have hz4 : w3.cell? ⟨w2.heap.size, 4, none⟩ = some (.string ⟨#[]⟩) := blk_cell hbox 4; have fz4 := blk_frozen hbox 4; have hz5 : w3.cell? ⟨w2.heap.size, 5, none⟩ = some (.slice none 0 0) := blk_cell hbox 5; have fz5 := blk_frozen hbox 5; have hz6 : w3.cell? ⟨w2.heap.size, 6, none⟩ = some (.slice none 0 0) := blk_cell hbox 6; have fz6 := blk_frozen hbox 6))
  refine gen_world (fun W => DS w W w.heap.size w1.heap.size w2.heap.size Z7 #[.int .i64 kd, .int .i64 0, .int .i64 0, .string ⟨#[]⟩, .string ⟨#[]⟩, .slice none 0 0, .slice none 0 0] (a0.data.toList.drop 1) (.slice none 0 0) [] (.slice none 0 0) []) ?_ ?_
  · exact ((((((((DS.start w w.heap.size w1.heap.size w2.heap.size w3 Z7 Z7 (a0.data.toList.drop 1) (B0.out.trans (hb.mono B0.out.size)) (B2.out.below hb B2.out.lt) (B4.out.below hb B4.out.lt) hbox (Nat.le_refl _) (by rw [HS.out]; omega) (by rw [S2.out, HS.out]; omega) (by rw [HS.out]; omega) (by rw [S2.out, HS.out]; omega) (by rw [S2.out]; omega)).put 0 _).put 1 _).put 2 _).put 3 _).put 4 _).put 5 _).put 6 _)
  obtain ⟨r1, R1_⟩ : ∃ r, r = a0.data.toList.drop 1 := ⟨_, rfl⟩
  obtain ⟨g2, G2⟩ : ∃ g, g = w.heap.size := ⟨_, rfl⟩
  obtain ⟨g4, G4⟩ : ∃ g, g = w1.heap.size := ⟨_, rfl⟩
  obtain ⟨g5, G5⟩ : ∃ g, g = w2.heap.size := ⟨_, rfl⟩
  rw [← G2, ← G4, ← G5, ← R1_]
  have R1 := Lib.hid R1_
  clear R1_ G2 G4 G5 hbox hb hx1 hz0 hz1 hz2 hz3 hz4 hz5 hz6 fz0 fz1 fz2 fz3 fz4 fz5 fz6 HB HZ HS B4 B2 B0 S2 HN hx
  intro w4 D
  have L1 := Lib.hid (show r1.length + 1 = a0.size by rw [R1.out, List.length_drop]; have e_ : a0.data.toList.length = a0.size := Array.length_toList; omega)
  have D_ := Lib.hid D
  have t4 : w4.cell? ⟨g4, 0, none⟩ = some (.string (tx r1)) := D.h4.cell 0
  have f4 := D.h4.frozen 0
  have m0 : w4.cell? ⟨g5, 0, none⟩ = some (.int .i64 kd) := D.h5.cell 0
  have n0 := D.h5.frozen 0
  have m1 : w4.cell? ⟨g5, 1, none⟩ = some (.int .i64 0) := D.h5.cell 1
  have n1 := D.h5.frozen 1
  have m2 : w4.cell? ⟨g5, 2, none⟩ = some (.int .i64 0) := D.h5.cell 2
  have n2 := D.h5.frozen 2
  have m3 : w4.cell? ⟨g5, 3, none⟩ = some (.string ⟨#[]⟩) := D.h5.cell 3
  have n3 := D.h5.frozen 3
  have m4 : w4.cell? ⟨g5, 4, none⟩ = some (.string ⟨#[]⟩) := D.h5.cell 4
  have n4 := D.h5.frozen 4
  have m5 : w4.cell? ⟨g5, 5, none⟩ = some (.slice none 0 0) := D.h5.cell 5
  have n5 := D.h5.frozen 5
  have m6 : w4.cell? ⟨g5, 6, none⟩ = some (.slice none 0 0) := D.h5.cell 6
  have n6 := D.h5.frozen 6
  have d24 := D.d24
  have d25 := D.d25
  have d45 := D.d45
  have d42 := D.d24.symm
  have d52 := D.d25.symm
  have d54 := D.d45.symm
  clear D
  go_wp2_with fail
  refine (cut_ds D_.out 1 (by have := L1.out; omega)).mono ?_
  rintro e w5 ⟨rfl, D5⟩
  clear t4 f4 m0 n0 m1 n1 m2 n2 m3 n3 m4 n4 m5 n5 m6 n6
  clear D_
  obtain ⟨x1, X1_⟩ : ∃ x, x = tx (r1.take 1) := ⟨_, rfl⟩
  obtain ⟨r2, R2_⟩ : ∃ r, r = r1.drop 1 := ⟨_, rfl⟩
  obtain ⟨u, hu⟩ : ∃ u, wrap64 (bt x1 0) = u := ⟨_, rfl⟩
  rw [← R2_] at D5
  rw [← X1_]
  have qx : 0 < x1.size := by rw [X1_, tx_size, List.length_take]; have := L1.out; omega
  have hx1 := bt_at' x1
  have qxi : (0 < (x1.size : Int)) = True := eq_true (by omega)
  have qx' : (0 < x1.size) = True := eq_true qx
  have D_ := Lib.hid D5
  have L2 := Lib.hid (show r2.length + 1 = r1.length by rw [R2_, List.length_drop]; have := L1.out; omega)
  have R2 := Lib.hid R2_
  have X1 := Lib.hid X1_
  clear R2_ X1_
  have t4 : w5.cell? ⟨g4, 0, none⟩ = some (.string (tx r2)) := D5.h4.cell 0
  have f4 := D5.h4.frozen 0
  have m0 : w5.cell? ⟨g5, 0, none⟩ = some (.int .i64 kd) := D5.h5.cell 0
  have n0 := D5.h5.frozen 0
  have m1 : w5.cell? ⟨g5, 1, none⟩ = some (.int .i64 0) := D5.h5.cell 1
  have n1 := D5.h5.frozen 1
  have m2 : w5.cell? ⟨g5, 2, none⟩ = some (.int .i64 0) := D5.h5.cell 2
  have n2 := D5.h5.frozen 2
  have m3 : w5.cell? ⟨g5, 3, none⟩ = some (.string ⟨#[]⟩) := D5.h5.cell 3
  have n3 := D5.h5.frozen 3
  have m4 : w5.cell? ⟨g5, 4, none⟩ = some (.string ⟨#[]⟩) := D5.h5.cell 4
  have n4 := D5.h5.frozen 4
  have m5 : w5.cell? ⟨g5, 5, none⟩ = some (.slice none 0 0) := D5.h5.cell 5
  have n5 := D5.h5.frozen 5
  have m6 : w5.cell? ⟨g5, 6, none⟩ = some (.slice none 0 0) := D5.h5.cell 6
  have n6 := D5.h5.frozen 6
  clear D5
  go_upto_region 9 with fail
  refine gen_world (fun W => DS w W g2 g4 g5 Z7 #[.int .i64 kd, .int .i64 u, .int .i64 0, .string ⟨#[]⟩, .string ⟨#[]⟩, .slice none 0 0, .slice none 0 0] r2 (.slice none 0 0) [] (.slice none 0 0) []) ?_ ?_
  · exact D_.out.put 1 _
  clear t4 f4 m0 n0 m1 n1 m2 n2 m3 n3 m4 n4 m5 n5 m6 n6
  clear D_
  intro w6 D
  have D_ := Lib.hid D
  have t4 : w6.cell? ⟨g4, 0, none⟩ = some (.string (tx r2)) := D.h4.cell 0
  have f4 := D.h4.frozen 0
  have m0 : w6.cell? ⟨g5, 0, none⟩ = some (.int .i64 kd) := D.h5.cell 0
  have n0 := D.h5.frozen 0
  have m1 : w6.cell? ⟨g5, 1, none⟩ = some (.int .i64 u) := D.h5.cell 1
  have n1 := D.h5.frozen 1
  have m2 : w6.cell? ⟨g5, 2, none⟩ = some (.int .i64 0) := D.h5.cell 2
  have n2 := D.h5.frozen 2
  have m3 : w6.cell? ⟨g5, 3, none⟩ = some (.string ⟨#[]⟩) := D.h5.cell 3
  have n3 := D.h5.frozen 3
  have m4 : w6.cell? ⟨g5, 4, none⟩ = some (.string ⟨#[]⟩) := D.h5.cell 4
  have n4 := D.h5.frozen 4
  have m5 : w6.cell? ⟨g5, 5, none⟩ = some (.slice none 0 0) := D.h5.cell 5
  have n5 := D.h5.frozen 5
  have m6 : w6.cell? ⟨g5, 6, none⟩ = some (.slice none 0 0) := D.h5.cell 6
  have n6 := D.h5.frozen 6
  clear D
  go_wp2_with fail
  refine (cut_ds D_.out 4 (by have := L1.out; have := L2.out; omega)).mono ?_
  rintro e w7 ⟨rfl, D7⟩
  clear t4 f4 m0 n0 m1 n1 m2 n2 m3 n3 m4 n4 m5 n5 m6 n6
  clear D_
  obtain ⟨x4, X4_⟩ : ∃ x, x = tx (r2.take 4) := ⟨_, rfl⟩
  obtain ⟨r3, R3_⟩ : ∃ r, r = r2.drop 4 := ⟨_, rfl⟩
  rw [← R3_] at D7
  rw [← X4_]
  have D_ := Lib.hid D7
  have L3 := Lib.hid (show r3.length + 4 = r2.length by rw [R3_, List.length_drop]; have := L1.out; have := L2.out; omega)
  have hl4 : (r2.take 4).length = 4 := by rw [List.length_take]; have := L1.out; have := L2.out; omega
  obtain ⟨cap, w8, hcv0, hC, hB8⟩ := cb_of_string (P := Try.prog) w7 9 39 5 (r2.take 4) Try.underlying9 Try.underlying39 Try.underlying5 w7.heap.size (Nat.le_refl _)
  rw [hl4] at hcv0
  obtain ⟨gB, GB⟩ : ∃ g, g = w7.heap.size := ⟨_, rfl⟩
  rw [← GB] at hcv0 hC
  have hbg : g5 < gB := by rw [GB]; exact D7.h5.lt
  have hcv : (convert 9 39 (.string x4)).run Try.prog w7 = .ok (.slice (some ⟨gB, 0, none⟩) 4 cap) w8 := by rw [X4_]; exact hcv0
  have D_ := Lib.hid (D7.below hB8)
  have R3 := Lib.hid R3_
  obtain ⟨l4, hL4⟩ : ∃ l, l = r2.take 4 := ⟨_, rfl⟩
  rw [← hL4] at hl4 hC
  have H4 := Lib.hid hl4
  have HL4 := Lib.hid hL4
  have HC := Lib.hid hC
  clear GB D7 hB8 hcv0 hC R3_ hl4 hL4 X4_
  go_wp2_with fail
  go_loopw [43] (fun v wr => ∃ k : Nat, ∃ q : Int, k ≤ 4 ∧ v = .int .i64 k ∧ Hid (q = sq (l4.take k)) ∧ Hid (DS w wr g2 g4 g5 Z7 #[.int .i64 kd, .int .i64 u, .int .i64 q, .string ⟨#[]⟩, .string ⟨#[]⟩, .slice none 0 0, .slice none 0 0] r3 (.slice none 0 0) [] (.slice none 0 0) []) ∧ Hid (Cb wr gB l4)) (fun v _ => 4 - (intOf v).toNat)
  case atStart => exact ⟨0, 0, by omega, rfl, Lib.hid rfl, D_, HC⟩
  case round =>
    clear D_ HC hcv
    obtain ⟨k, q, hk4, rfl, Hq, D_, HC⟩ := hrel
    have DD := D_.out
    have t4 : wr.cell? ⟨g4, 0, none⟩ = some (.string (tx r3)) := DD.h4.cell 0
    have f4 := DD.h4.frozen 0
    have m0 : wr.cell? ⟨g5, 0, none⟩ = some (.int .i64 kd) := DD.h5.cell 0
    have n0 := DD.h5.frozen 0
    have m1 : wr.cell? ⟨g5, 1, none⟩ = some (.int .i64 u) := DD.h5.cell 1
    have n1 := DD.h5.frozen 1
    have m2 : wr.cell? ⟨g5, 2, none⟩ = some (.int .i64 q) := DD.h5.cell 2
    have n2 := DD.h5.frozen 2
    have m3 : wr.cell? ⟨g5, 3, none⟩ = some (.string ⟨#[]⟩) := DD.h5.cell 3
    have n3 := DD.h5.frozen 3
    have m4 : wr.cell? ⟨g5, 4, none⟩ = some (.string ⟨#[]⟩) := DD.h5.cell 4
    have n4 := DD.h5.frozen 4
    have m5 : wr.cell? ⟨g5, 5, none⟩ = some (.slice none 0 0) := DD.h5.cell 5
    have n5 := DD.h5.frozen 5
    have m6 : wr.cell? ⟨g5, 6, none⟩ = some (.slice none 0 0) := DD.h5.cell 6
    have n6 := DD.h5.frozen 6

    clear DD
    by_cases hlt : k < 4
    · have c1 := (HC.out.2 k (by rw [H4.out]; exact hlt)).1
      have e1 : 0 ≤ (k : Int) ∧ (k : Int) < 4 := by omega
      go_wp2_with fail
      go_roundw
      case rel => exact ⟨k + 1, _, by omega, by go_num, Lib.hid (by rw [Hq.out]; exact sq_step l4 k H4.out hlt), Lib.hid (D_.out.put 2 _), Lib.hid (HC.out.far (Nat.ne_of_gt hbg) _ _)⟩
      case measure => simp [intOf]; omega
    · have hk' : k = 4 := by omega
      subst hk'
      rw [List.take_of_length_le (by rw [H4.out]; exact Nat.le_refl _)] at Hq
      clear HC hlt hk4
      go_wp2_with fail
      refine (cut_ds D_.out 32 (by have := L1.out; have := L2.out; have := L3.out; omega)).mono ?_
      rintro e w9 ⟨rfl, D9⟩
      clear t4 f4 m0 n0 m1 n1 m2 n2 m3 n3 m4 n4 m5 n5 m6 n6
      clear D_
      obtain ⟨xt, XT_⟩ : ∃ x, x = tx (r3.take 32) := ⟨_, rfl⟩
      obtain ⟨r4, R4_⟩ : ∃ r, r = r3.drop 32 := ⟨_, rfl⟩
      rw [← R4_] at D9
      rw [← XT_]
      have D_ := Lib.hid D9
      have R4 := Lib.hid R4_
      have XT := Lib.hid XT_
      have HE := Lib.hid (show mail_Encode.f kE kd u q ⟨#[]⟩ xt [] (dIds N r4 []) = some (t, e0) by
        have e1 : r3 = r3L a0.data.toList := by rw [R3.out, R2.out, R1.out]; rfl
        have e2 : uL a0.data.toList = u := by rw [← hu, X1.out, R1.out]; rfl
        have e3 : qL a0.data.toList = q := by rw [Hq.out, HL4.out, R2.out, R1.out]; rfl
        rw [XT.out, R4.out, e1, ← e2, ← e3]; exact HEE.out)
      have HU := Lib.hid (show uL a0.data.toList = u by rw [← hu, X1.out, R1.out]; rfl)
      have HQ := Lib.hid (show qL a0.data.toList = q by rw [Hq.out, HL4.out, R2.out, R1.out]; rfl)
      have HX := Lib.hid (show tx ((r3L a0.data.toList).take 32) = xt by rw [XT.out, R3.out, R2.out, R1.out]; rfl)
      have HR4 := Lib.hid (show r4.length = 16 * N by rw [R4_, List.length_drop, R3.out, R2.out, R1.out]; have := HNN.out; unfold r3L at this; omega)
      have HD := Lib.hid (show dIds N r4 [] = dIds N ((r3L a0.data.toList).drop 32) [] by rw [R4_, R3.out, R2.out, R1.out]; rfl)
      clear R4_ XT_
      have t4 : w9.cell? ⟨g4, 0, none⟩ = some (.string (tx r4)) := D9.h4.cell 0
      have f4 := D9.h4.frozen 0
      have m0 : w9.cell? ⟨g5, 0, none⟩ = some (.int .i64 kd) := D9.h5.cell 0
      have n0 := D9.h5.frozen 0
      have m1 : w9.cell? ⟨g5, 1, none⟩ = some (.int .i64 u) := D9.h5.cell 1
      have n1 := D9.h5.frozen 1
      have m2 : w9.cell? ⟨g5, 2, none⟩ = some (.int .i64 q) := D9.h5.cell 2
      have n2 := D9.h5.frozen 2
      have m3 : w9.cell? ⟨g5, 3, none⟩ = some (.string ⟨#[]⟩) := D9.h5.cell 3
      have n3 := D9.h5.frozen 3
      have m4 : w9.cell? ⟨g5, 4, none⟩ = some (.string ⟨#[]⟩) := D9.h5.cell 4
      have n4 := D9.h5.frozen 4
      have m5 : w9.cell? ⟨g5, 5, none⟩ = some (.slice none 0 0) := D9.h5.cell 5
      have n5 := D9.h5.frozen 5
      have m6 : w9.cell? ⟨g5, 6, none⟩ = some (.slice none 0 0) := D9.h5.cell 6
      have n6 := D9.h5.frozen 6
      clear D9
      go_wp2_with fail
      go_loopg [8] (N + 1) (fun kq v8 wr => ∃ (nn : Nat) (r : List UInt8) (vi : Value) (li : List ByteArray), kq = nn + 1 ∧ nn ≤ N ∧ Hid (r.length = 16 * nn) ∧ Hid (dIds nn r li = dIds N r4 []) ∧ Hid (li.length + nn ≤ N) ∧ Hid (DS w wr g2 g4 g5 Z7 #[.int .i64 kd, .int .i64 u, .int .i64 q, .string ⟨#[]⟩, .string xt, .slice none 0 0, vi] r (.slice none 0 0) [] vi li))
      case atStart => exact ⟨N, r4, .slice none 0 0, [], rfl, Nat.le_refl _, HR4, Lib.hid rfl, Lib.hid (by simp), Lib.hid (D_.out.put 4 _)⟩
      case round =>
        clear t4 f4 m0 n0 m1 n1 m2 n2 m3 n3 m4 n4 m5 n5 m6 n6
        clear D_
        obtain ⟨nn, r, vi, li, rfl, hnn, HRl, HDl, HLl, D_⟩ := hrel
        have DD := D_.out
        have t4 : wr.cell? ⟨g4, 0, none⟩ = some (.string (tx r)) := DD.h4.cell 0
        have f4 := DD.h4.frozen 0
        have m0 : wr.cell? ⟨g5, 0, none⟩ = some (.int .i64 kd) := DD.h5.cell 0
        have n0 := DD.h5.frozen 0
        have m1 : wr.cell? ⟨g5, 1, none⟩ = some (.int .i64 u) := DD.h5.cell 1
        have n1 := DD.h5.frozen 1
        have m2 : wr.cell? ⟨g5, 2, none⟩ = some (.int .i64 q) := DD.h5.cell 2
        have n2 := DD.h5.frozen 2
        have m3 : wr.cell? ⟨g5, 3, none⟩ = some (.string ⟨#[]⟩) := DD.h5.cell 3
        have n3 := DD.h5.frozen 3
        have m4 : wr.cell? ⟨g5, 4, none⟩ = some (.string xt) := DD.h5.cell 4
        have n4 := DD.h5.frozen 4
        have m5 : wr.cell? ⟨g5, 5, none⟩ = some (.slice none 0 0) := DD.h5.cell 5
        have n5 := DD.h5.frozen 5
        have m6 : wr.cell? ⟨g5, 6, none⟩ = some (vi) := DD.h5.cell 6
        have n6 := DD.h5.frozen 6
        clear DD
        by_cases h0 : nn = 0
        · subst h0
          have hr : r = [] := List.eq_nil_of_length_eq_zero (by have := HRl.out; omega)
          subst hr
          have he : (tx ([] : List UInt8)).toList.isEmpty = true := by rw [ByteArray.toList_eq]; rfl
          have HLI : Hid (li = dIds N r4 []) := Lib.hid HDl.out
          have HE2 := Lib.hid (show mail_Encode.f kE kd u q ⟨#[]⟩ xt [] li = some (t, e0) by rw [HLI.out]; exact HE.out)
          have HCs := Lib.hid (Kd.R_reads' D_.out.rs).2.2
          obtain ⟨Ai, cpi, rfl, hci, hCi⟩ := Kd.R_reads D_.out.ri
          have HCi := Lib.hid hCi
          have Hci := Lib.hid hci
          clear hCi hci
          go_wp2_with fail
          refine (mail_Encode.calls kE kd u q ⟨#[]⟩ xt none 0 [] Ai cpi li t e0 _ HCs.out (Nat.le_refl _) HCi.out Hci.out HE2.out).mono ?_
          rintro e w12 ⟨rfl, hb12⟩
          have D12 := Lib.hid (D_.out.below hb12)
          clear t4 f4 m0 n0 m1 n1 m2 n2 m3 n3 m4 n4 m5 n5 m6 n6 hb12 HCs HCi
          have DD := D12.out
          have t4 : w12.cell? ⟨g4, 0, none⟩ = some (.string (tx [])) := DD.h4.cell 0
          have f4 := DD.h4.frozen 0
          have m0 : w12.cell? ⟨g5, 0, none⟩ = some (.int .i64 kd) := DD.h5.cell 0
          have n0 := DD.h5.frozen 0
          have m1 : w12.cell? ⟨g5, 1, none⟩ = some (.int .i64 u) := DD.h5.cell 1
          have n1 := DD.h5.frozen 1
          have m2 : w12.cell? ⟨g5, 2, none⟩ = some (.int .i64 q) := DD.h5.cell 2
          have n2 := DD.h5.frozen 2
          have m3 : w12.cell? ⟨g5, 3, none⟩ = some (.string ⟨#[]⟩) := DD.h5.cell 3
          have n3 := DD.h5.frozen 3
          have m4 : w12.cell? ⟨g5, 4, none⟩ = some (.string xt) := DD.h5.cell 4
          have n4 := DD.h5.frozen 4
          have m5 : w12.cell? ⟨g5, 5, none⟩ = some (.slice none 0 0) := DD.h5.cell 5
          have n5 := DD.h5.frozen 5
          have m6 : w12.cell? ⟨g5, 6, none⟩ = some (.slice Ai li.length cpi) := DD.h5.cell 6
          have n6 := DD.h5.frozen 6
          have k0 : w12.cell? ⟨g2, 0, none⟩ = some (.int .i64 0) := DD.h2.cell 0
          have l0 := DD.h2.frozen 0
          have k1 : w12.cell? ⟨g2, 1, none⟩ = some (.int .i64 0) := DD.h2.cell 1
          have l1 := DD.h2.frozen 1
          have k2 : w12.cell? ⟨g2, 2, none⟩ = some (.int .i64 0) := DD.h2.cell 2
          have l2 := DD.h2.frozen 2
          have k3 : w12.cell? ⟨g2, 3, none⟩ = some (.string ⟨#[]⟩) := DD.h2.cell 3
          have l3 := DD.h2.frozen 3
          have k4 : w12.cell? ⟨g2, 4, none⟩ = some (.string ⟨#[]⟩) := DD.h2.cell 4
          have l4 := DD.h2.frozen 4
          have k5 : w12.cell? ⟨g2, 5, none⟩ = some (.slice none 0 0) := DD.h2.cell 5
          have l5 := DD.h2.frozen 5
          have k6 : w12.cell? ⟨g2, 6, none⟩ = some (.slice none 0 0) := DD.h2.cell 6
          have l6 := DD.h2.frozen 6
          clear DD
          by_cases he0 : e0 = 0
          · have E0 : (e0 != 0) = false := bne_eq_false_iff_eq.mpr he0
            by_cases ht : t.toList = a0.toList
            · have E1 : (t.toList != a0.toList) = false := bne_eq_false_iff_eq.mpr ht
              have E2 : (t.toList == a0.toList) = true := beq_iff_eq.mpr ht
              have OK := Lib.hid (And.intro he0 ht)
              clear he0 ht
              go_wp2_with fail
              refine gen_body (fun W => DS w W g2 g4 g5 #[.int .i64 kd, .int .i64 u, .int .i64 q, .string ⟨#[]⟩, .string xt, .slice none 0 0, .slice Ai li.length cpi] #[.int .i64 kd, .int .i64 u, .int .i64 q, .string ⟨#[]⟩, .string xt, .slice none 0 0, .slice Ai li.length cpi] [] (.slice none 0 0) [] (.slice Ai li.length cpi) li) ?_ ?_
              · exact (((((((D12.out.put2 0 _).put2 1 _).put2 2 _).put2 3 _).put2 4 _).put2 5 _).put2 6 _)
              intro W' E
              refine bodyPost_ret (results_ct rfl _ _ g2 25 #[.int .i64 kd, .int .i64 u, .int .i64 q, .string ⟨#[]⟩, .string xt, .slice none 0 0, .slice Ai li.length cpi] (0, 0) _ rfl E.h2 Try.underlying25 rfl rfl) rfl ?_
              rw [HU.out, HQ.out, HX.out, ← HD.out, ← HLI.out]
              exact ⟨fun _ => ⟨_, _, rfl, E.rs, Kd.R_mono E.ri (fun _ _ => trivial), E.b⟩, fun h => absurd OK.out h⟩
            · have E1 : (t.toList != a0.toList) = true := bne_iff_ne.mpr ht
              have E2 : (t.toList == a0.toList) = false := beq_eq_false_iff_ne.mpr ht
              have NO := Lib.hid (show ¬ (e0 = 0 ∧ t.toList = a0.toList) from fun h => ht h.2)
              clear he0 ht
              go_wp2_with fail
              refine gen_body (fun W => DS w W g2 g4 g5 Z7 #[.int .i64 kd, .int .i64 u, .int .i64 q, .string ⟨#[]⟩, .string xt, .slice none 0 0, .slice Ai li.length cpi] [] (.slice none 0 0) [] (.slice Ai li.length cpi) li) ?_ ?_
              · exact (((((((D12.out.put2 0 _).put2 1 _).put2 2 _).put2 3 _).put2 4 _).put2 5 _).put2 6 _)
              intro W' E
              refine bodyPost_ret (results_ct rfl _ _ g2 25 Z7 (0, 0) _ rfl E.h2 Try.underlying25 rfl rfl) rfl ?_
              exact ⟨fun h => absurd h NO.out, fun _ => DecOut.zero E.b⟩
          · have E0 : (e0 != 0) = true := bne_iff_ne.mpr he0
            have NO := Lib.hid (show ¬ (e0 = 0 ∧ t.toList = a0.toList) from fun h => he0 h.1)
            clear he0
            go_wp2_with fail
            refine gen_body (fun W => DS w W g2 g4 g5 Z7 #[.int .i64 kd, .int .i64 u, .int .i64 q, .string ⟨#[]⟩, .string xt, .slice none 0 0, .slice Ai li.length cpi] [] (.slice none 0 0) [] (.slice Ai li.length cpi) li) ?_ ?_
            · exact (((((((D12.out.put2 0 _).put2 1 _).put2 2 _).put2 3 _).put2 4 _).put2 5 _).put2 6 _)
            intro W' E
            refine bodyPost_ret (results_ct rfl _ _ g2 25 Z7 (0, 0) _ rfl E.h2 Try.underlying25 rfl rfl) rfl ?_
            exact ⟨fun h => absurd h NO.out, fun _ => DecOut.zero E.b⟩
        · obtain ⟨m, rfl⟩ : ∃ m, nn = m + 1 := ⟨nn - 1, by omega⟩
          have he : (tx r).toList.isEmpty = false := list_ne (by rw [tx_size]; have := HRl.out; omega)
          go_wp2_with fail
          refine (cut_ds D_.out 16 (by have := HRl.out; omega)).mono ?_
          rintro e w10 ⟨rfl, D10⟩
          clear t4 f4 m0 n0 m1 n1 m2 n2 m3 n3 m4 n4 m5 n5 m6 n6
          obtain ⟨x, X_⟩ : ∃ x, x = tx (r.take 16) := ⟨_, rfl⟩
          have hlx : (r.take 16).length = 16 := by rw [List.length_take]; have := HRl.out; omega
          have hxe : x.toList = r.take 16 := by rw [X_, ByteArray.toList_eq, tx_list]
          have HRr := Lib.hid (show (r.drop 16).length = 16 * m by rw [List.length_drop]; have := HRl.out; omega)
          have D_2 := Lib.hid D10
          have X2 := Lib.hid X_
          rw [← X_]
          obtain ⟨r', hr'⟩ : ∃ r', r' = r.drop 16 := ⟨_, rfl⟩
          rw [← hr'] at D10 D_2 HRr
          have HR' := Lib.hid hr'
          clear X_ hr' D_ he h0
          have t4 : w10.cell? ⟨g4, 0, none⟩ = some (.string (tx r')) := D10.h4.cell 0
          have f4 := D10.h4.frozen 0
          have m0 : w10.cell? ⟨g5, 0, none⟩ = some (.int .i64 kd) := D10.h5.cell 0
          have n0 := D10.h5.frozen 0
          have m1 : w10.cell? ⟨g5, 1, none⟩ = some (.int .i64 u) := D10.h5.cell 1
          have n1 := D10.h5.frozen 1
          have m2 : w10.cell? ⟨g5, 2, none⟩ = some (.int .i64 q) := D10.h5.cell 2
          have n2 := D10.h5.frozen 2
          have m3 : w10.cell? ⟨g5, 3, none⟩ = some (.string ⟨#[]⟩) := D10.h5.cell 3
          have n3 := D10.h5.frozen 3
          have m4 : w10.cell? ⟨g5, 4, none⟩ = some (.string xt) := D10.h5.cell 4
          have n4 := D10.h5.frozen 4
          have m5 : w10.cell? ⟨g5, 5, none⟩ = some (.slice none 0 0) := D10.h5.cell 5
          have n5 := D10.h5.frozen 5
          have m6 : w10.cell? ⟨g5, 6, none⟩ = some (vi) := D10.h5.cell 6
          have n6 := D10.h5.frozen 6
          clear D10
          by_cases hz : r.take 16 = noIdL
          · have z1 : (x.toList == [0, 0, 0, 0, 0, 0, 0, 0, 0, 0, 0, 0, 0, 0, 0, 0]) = true := beq_iff_eq.mpr (hxe.trans hz)
            have HDm := Lib.hid (show dIds m r' li = dIds N r4 [] by rw [← HDl.out, HR'.out]; show _ = dIds m (r.drop 16) (if r.take 16 = noIdL then li else _); rw [if_pos hz])
            clear hz hxe hlx HRl HDl
            go_wp2_with fail
            go_roundg (m + 1)
            case measure => omega
            case rel => exact ⟨m, r', vi, li, rfl, by omega, HRr, HDm, Lib.hid (by have := HLl.out; omega), D_2⟩
          · have z1 : (x.toList == [0, 0, 0, 0, 0, 0, 0, 0, 0, 0, 0, 0, 0, 0, 0, 0]) = false := beq_eq_false_iff_ne.mpr (fun h => hz (hxe.symm.trans h))
            have z2 : x.toList.isEmpty = false := by rw [hxe]; cases h : r.take 16 with | nil => rw [h] at hlx; cases hlx | cons _ _ => rfl
            have HDm := Lib.hid (show dIds m r' (li ++ [x]) = dIds N r4 [] by rw [← HDl.out, HR'.out, X2.out]; show _ = dIds m (r.drop 16) (if r.take 16 = noIdL then li else _); rw [if_neg hz])
            clear hz hxe hlx HRl HDl
            go_wp2_with ((with_reducible refine gate_builtin (b := .append) (xs := #[.tmp 88, .tmp 90]) rfl ?_); at_builtin; refine Kd.R_append Kd.string (w0 := w) w.heap.size rfl (.tmp 88) (.tmp 90) 23 9 (.string ⟨#[]⟩) 16 rfl Try.underlying23 info9 rfl (by decide) (by omega) vi li x [.string x] (fun k => k ≠ g4) (fun _ => False) rfl rfl ?aP (fun _ hk => hk.elim) ?aF D_2.out.ri D_2.out.b D_2.out.b.size ?aL ?_; (case aP => exact rfl); (case aF => exact fun k hk => Nat.ne_of_gt (Nat.lt_of_lt_of_le D_2.out.h4.lt hk)); (case aL => have := HLl.out; have := HN4.out; omega); intro v1 w11 ho hb hg hat; obtain ⟨A1, cp1, e1⟩ := Kd.R_slice ho; rw [List.length_append, List.length_singleton] at e1; subst e1; have D11 := Lib.hid (D_2.out.appI ho hb hg); clear ho hb hg hat D_2 t4 f4 m0 m1 m2 m3 m4 m5 m6 n0 n1 n2 n3 n4 n5 n6; have m6 : w11.cell? ⟨g5, 6, none⟩ = some vi := D11.out.h5.cell 6; have n6 := D11.out.h5.frozen 6)
            go_roundg (m + 1)
            case measure => omega
            case rel => exact ⟨m, r', _, li ++ [x], rfl, by omega, HRr, HDm, Lib.hid (by rw [List.length_append]; have := HLl.out; show li.length + 1 + m ≤ N; omega), Lib.hid (D11.out.put 6 _)⟩
end Go.Proofs.Ytidilhnjfdkmpaa

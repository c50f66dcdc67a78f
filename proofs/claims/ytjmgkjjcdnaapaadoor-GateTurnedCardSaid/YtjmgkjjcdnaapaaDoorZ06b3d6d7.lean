/- mail.Decode: what is no packet. mail.Decode: replies. mail.Decode in the print's own form. There and back, plainly: what Decode gives of what Encode wrote, and of any text. The law GateTurned: what a turned text is as a message, plainly. -/
import Derived.Test.YtjmgkjjcdnaapaaDoorZ21706114
import Derived.Test.YtjmgkjjcdnaapaaDoorZ1d1d9347
namespace Go.Proofs.YtjmgkjjcdnaapaaDoor
open Go.RowKit Go.Proofs.YtjmgkjjcdnaapaaDoor.PMailA Go.Proofs.YtjmgkjjcdnaapaaDoorW.PrintWords Go.Proofs.YtjmgkjjcdnaapaaDoorW.PrintLast
set_option linter.unusedSimpArgs false
set_option linter.unusedVariables false
set_option maxRecDepth 100000
theorem Cb.far {w : World} {g g' : Nat} {l : List UInt8} (h : Cb w g l) (hne : g ≠ g') (i : Nat) (u : Value) : Cb (w.setCell ⟨g', i, none⟩ u) g l :=
  ⟨by simpa using h.1, fun j hj => ⟨by rw [World.cell?_setCell_other _ _ _ _ (by simp [Ne.symm hne])]; exact (h.2 j hj).1, by rw [World.frozen?_setCell]; exact (h.2 j hj).2⟩⟩
theorem sq_snoc (l : List UInt8) (b : UInt8) : sq (l ++ [b]) = sq l * 256 + n8 b := by simp [sq]
theorem take_snoc (l : List UInt8) (k : Nat) (hk : k < l.length) : l.take (k + 1) = l.take k ++ [bd l k] := by
  rw [List.take_add_one, List.getElem?_eq_getElem hk]; simp [bd, List.getElem?_eq_getElem hk]
theorem sq_bd (l : List UInt8) (k : Nat) (hk : k ≤ l.length) : 0 ≤ sq (l.take k) ∧ sq (l.take k) < 256 ^ k := by
  induction k with
  | zero => simp [sq]
  | succ k ih =>
    have := ih (by omega)
    rw [take_snoc l k (by omega), sq_snoc]
    have hb := n8_bd (bd l k)
    rw [Int.pow_succ]
    omega
theorem sq_step (l : List UInt8) (k : Nat) (hl : l.length = 4) (hk : k < 4) : bits .or .i64 (wrap64 (sq (l.take k) * 256)) (wrap64 (n8 (bd l k))) = sq (l.take (k + 1)) := by
  have h1 := sq_bd l k (by omega)
  have hb := n8_bd (bd l k)
  have h2 : (256 : Int) ^ k ≤ 16777216 := by
    rcases (by omega : k = 0 ∨ k = 1 ∨ k = 2 ∨ k = 3) with rfl | rfl | rfl | rfl <;> decide
  have e1 : wrap64 (sq (l.take k) * 256) = sq (l.take k) * 256 := by unfold wrap64; omega
  have e2 : wrap64 (n8 (bd l k)) = n8 (bd l k) := by unfold wrap64; omega
  rw [e1, e2, bits_join .i64 63 (by decide) (fun n h0 h1 => by rw [IntKind.wrap_i64]; omega) 8 _ _ (by omega) (by omega) (by omega) (by omega) (by omega) (by omega), take_snoc l k (by omega), sq_snoc]
def dIds : Nat → List UInt8 → List ByteArray → List ByteArray
  | 0, _, li => li
  | n + 1, r, li => dIds n (r.drop 16) (if r.take 16 = noIdL then li else li ++ [tx (r.take 16)])
def r3L (l : List UInt8) : List UInt8 := ((l.drop 1).drop 1).drop 4
def uL (l : List UInt8) : Int := wrap64 (bt (tx ((l.drop 1).take 1)) 0)
def qL (l : List UInt8) : Int := sq (((l.drop 1).drop 1).take 4)
/-- what Decode gives. -/
def DecOut (w0 : World) (kd u q : Int) (x3 tag : ByteArray) (ls : List S68) (li : List ByteArray) (er : Int) (e : Ending) (w' : World) : Prop :=
  ∃ v5_ v6_ : Value, e = .returned (.tuple #[.agg #[.int .i64 kd, .int .i64 u, .int .i64 q, .string x3, .string tag, v5_, v6_], .int .i64 er]) ∧ Kd.R k68 68 w' w0.heap.size (fun _ => True) v5_ ls ∧ Kd.R Kd.string 9 w' w0.heap.size (fun _ => True) v6_ li ∧ Below w0.heap.size w0 w'
theorem DecOut.zero {w w' : World} (h : Below w.heap.size w w') : DecOut w 0 0 0 ⟨#[]⟩ ⟨#[]⟩ [] [] 110 (.returned (.tuple #[zM, .int .i64 110])) w' := ⟨.slice none 0 0, .slice none 0 0, rfl, Kd.R_nil _ _ _ _ _, Kd.R_nil _ _ _ _ _, h⟩
set_option maxHeartbeats 6400000 in
theorem dec_ids (a0 : ByteArray) (n kd : Int) (w : World) (q : 0 < a0.size) (hk : wrap64 (bt a0 0) = kd) (hn : mail_Long.f kd = some n) (h1 : (a0.size : Int) = n) (k1 : ¬ kd = 1) (h38 : 38 ≤ a0.size) (k3 : ¬ kd = 3) (N kE : Nat) (hN : (r3L a0.data.toList).length = 32 + 16 * N) (hN4 : N ≤ 4) (t : ByteArray) (e0 : Int) (hE : mail_Encode.f kE kd (uL a0.data.toList) (qL a0.data.toList) ⟨#[]⟩ (tx ((r3L a0.data.toList).take 32)) [] (dIds N ((r3L a0.data.toList).drop 32) []) = some (t, e0)) :
    Calls Tryd.prog 24 #[.string a0] w fun e w' => (e0 = 0 ∧ t.toList = a0.toList → DecOut w kd (uL a0.data.toList) (qL a0.data.toList) ⟨#[]⟩ (tx ((r3L a0.data.toList).take 32)) [] (dIds N ((r3L a0.data.toList).drop 32) []) 0 e w') ∧ (¬ (e0 = 0 ∧ t.toList = a0.toList) → DecOut w 0 0 0 ⟨#[]⟩ ⟨#[]⟩ [] [] 110 e w') := by
  have K1 : (kd == 1) = false := beq_eq_false_iff_ne.mpr k1
  clear k1
  have K3 : (kd != 3) = true := bne_iff_ne.mpr k3
  have K3b : (kd == 3) = false := beq_eq_false_iff_ne.mpr k3
  have HNN := Lib.hid hN
  have HN4 := Lib.hid hN4
  have HEE := Lib.hid hE
  clear k3 hN hN4 hE
  have hx := bt_at' a0
  have hl := list_ne q
  have qi : (0 < (a0.size : Int)) = True := eq_true (by omega)
  have q' : (0 < a0.size) = True := eq_true q
  have hc : ((a0.size : Int) != n) = false := bne_eq_false_iff_eq.mpr h1
  have HN := Lib.hid hn
  clear h1 hn
  go_enter Tryd.func24, Tryd.ntmps24
  go_wp2_with fail
  refine (mail_Long.calls kd n _ HN.out).mono ?_
  rintro e w1 ⟨rfl, ⟨nd, hw⟩⟩
  have HZ := Lib.hid (show Blk w1 w.heap.size 25 Z7 by rw [hw]; exact blk_drewN (blk_new w _) nd)
  have HB := Lib.hid (show Below w.heap.size w w1 by rw [hw]; exact pw_below_drewN (below_alloc (Below.refl _ _) _) _)
  have HS := Lib.hid (show w1.heap.size = w.heap.size + 1 by rw [hw]; simp [World.drewN])
  clear hw
  go_wp2_with fail
  refine (cut_any w1.heap.size a0 1 _ (Blk.new w1 _ _) q).mono ?_
  rintro e w2 ⟨rfl, hw⟩
  have B4 := Lib.hid (show Blk w2 w1.heap.size 9 #[.string (tx (a0.data.toList.drop 1))] by rw [hw, ex_drop]; exact (Blk.new w1 9 #[.string a0]).set_ 0 _)
  have B2 := Lib.hid (show Blk w2 w.heap.size 25 Z7 by rw [hw]; exact (HZ.out.alloc _).far (by show w.heap.size ≠ w1.heap.size; rw [HS.out]; omega) _)
  have B0 := Lib.hid (show Below w.heap.size w w2 by rw [hw]; exact ((below_alloc HB.out _).setCell (by show w.heap.size ≤ w1.heap.size; rw [HS.out]; omega) _))
  have S2 := Lib.hid (show w2.heap.size = w1.heap.size + 1 by rw [hw]; simp [World.setCell])
  clear hw
  have hx1 := ex_bt a0 q
  go_upto_region 5 with (first | ((with_reducible refine gate_dst (N := 5) rfl ?_); refine box_event ?hg (N := 5) ?hd (cs := Z7) (t := 25) ?hr ?_; (case hd => rfl); (case hg => rfl); (case hr => first | (go_simp; done) | (go_simp; rfl)); intro g5 hg w3 hbox hb; subst hg; have hz0 : w3.cell? ⟨w2.heap.size, 0, none⟩ = some (.int .i64 0) := blk_cell hbox 0; have fz0 := blk_frozen hbox 0; have hz1 : w3.cell? ⟨w2.heap.size, 1, none⟩ = some (.int .i64 0) := blk_cell hbox 1; have fz1 := blk_frozen hbox 1; have hz2 : w3.cell? ⟨w2.heap.size, 2, none⟩ = some (.int .i64 0) := blk_cell hbox 2; have fz2 := blk_frozen hbox 2; have hz3 : w3.cell? ⟨w2.heap.size, 3, none⟩ = some (.string ⟨#[]⟩) := blk_cell hbox 3; have fz3 := blk_frozen hbox 3; have hz4 : w3.cell? ⟨w2.heap.size, 4, none⟩ = some (.string ⟨#[]⟩) := blk_cell hbox 4; have fz4 := blk_frozen hbox 4; have hz5 : w3.cell? ⟨w2.heap.size, 5, none⟩ = some (.slice none 0 0) := blk_cell hbox 5; have fz5 := blk_frozen hbox 5; have hz6 : w3.cell? ⟨w2.heap.size, 6, none⟩ = some (.slice none 0 0) := blk_cell hbox 6; have fz6 := blk_frozen hbox 6))
  refine gen_world (fun W => DS w W w.heap.size w1.heap.size w2.heap.size Z7 #[.int .i64 kd, .int .i64 0, .int .i64 0, .string ⟨#[]⟩, .string ⟨#[]⟩, .slice none 0 0, .slice none 0 0] (a0.data.toList.drop 1) (.slice none 0 0) [] (.slice none 0 0) []) ?_ ?_
  · exact ((((((((DS.start w w.heap.size w1.heap.size w2.heap.size w3 Z7 Z7 (a0.data.toList.drop 1) (B0.out.trans (hb.mono B0.out.size)) (B2.out.below hb B2.out.lt) (B4.out.below hb B4.out.lt) hbox (Nat.le_refl _) (by rw [HS.out]; omega) (by rw [S2.out, HS.out]; omega) (by rw [HS.out]; omega) (by rw [S2.out, HS.out]; omega) (by rw [S2.out]; omega)).put 0 _).put 1 _).put 2 _).put 3 _).put 4 _).put 5 _).put 6 _)
  obtain ⟨r1, R1_⟩ : ∃ r, r = a0.data.toList.drop 1 := ⟨_, rfl⟩
  obtain ⟨g2, G2⟩ : ∃ g, g = w.heap.size := ⟨_, rfl⟩
  obtain ⟨g4, G4⟩ : ∃ g, g = w1.heap.size := ⟨_, rfl⟩
  obtain ⟨g5, G5⟩ : ∃ g, g = w2.heap.size := ⟨_, rfl⟩
  rw [← G2, ← G4, ← G5, ← R1_]
  have R1 := Lib.hid R1_
  clear R1_ G2 G4 G5 hbox hb hx1 hz0 hz1 hz2 hz3 hz4 hz5 hz6 fz0 fz1 fz2 fz3 fz4 fz5 fz6 HB HZ HS B4 B2 B0 S2 HN hx
  intro w4 D
  have L1 := Lib.hid (show r1.length + 1 = a0.size by rw [R1.out, List.length_drop]; have e_ : a0.data.toList.length = a0.size := Array.length_toList; omega)
  have D_ := Lib.hid D
  have t4 : w4.cell? ⟨g4, 0, none⟩ = some (.string (tx r1)) := D.h4.cell 0
  have f4 := D.h4.frozen 0
  have m0 : w4.cell? ⟨g5, 0, none⟩ = some (.int .i64 kd) := D.h5.cell 0
  have n0 := D.h5.frozen 0
  have m1 : w4.cell? ⟨g5, 1, none⟩ = some (.int .i64 0) := D.h5.cell 1
  have n1 := D.h5.frozen 1
  have m2 : w4.cell? ⟨g5, 2, none⟩ = some (.int .i64 0) := D.h5.cell 2
  have n2 := D.h5.frozen 2
  have m3 : w4.cell? ⟨g5, 3, none⟩ = some (.string ⟨#[]⟩) := D.h5.cell 3
  have n3 := D.h5.frozen 3
  have m4 : w4.cell? ⟨g5, 4, none⟩ = some (.string ⟨#[]⟩) := D.h5.cell 4
  have n4 := D.h5.frozen 4
  have m5 : w4.cell? ⟨g5, 5, none⟩ = some (.slice none 0 0) := D.h5.cell 5
  have n5 := D.h5.frozen 5
  have m6 : w4.cell? ⟨g5, 6, none⟩ = some (.slice none 0 0) := D.h5.cell 6
  have n6 := D.h5.frozen 6
  have d24 := D.d24
  have d25 := D.d25
  have d45 := D.d45
  have d42 := D.d24.symm
  have d52 := D.d25.symm
  have d54 := D.d45.symm
  clear D
  go_wp2_with fail
  refine (cut_ds D_.out 1 (by have := L1.out; omega)).mono ?_
  rintro e w5 ⟨rfl, D5⟩
  clear t4 f4 m0 n0 m1 n1 m2 n2 m3 n3 m4 n4 m5 n5 m6 n6
  clear D_
  obtain ⟨x1, X1_⟩ : ∃ x, x = tx (r1.take 1) := ⟨_, rfl⟩
  obtain ⟨r2, R2_⟩ : ∃ r, r = r1.drop 1 := ⟨_, rfl⟩
  obtain ⟨u, hu⟩ : ∃ u, wrap64 (bt x1 0) = u := ⟨_, rfl⟩
  rw [← R2_] at D5
  rw [← X1_]
  have qx : 0 < x1.size := by rw [X1_, tx_size, List.length_take]; have := L1.out; omega
  have hx1 := bt_at' x1
  have qxi : (0 < (x1.size : Int)) = True := eq_true (by omega)
  have qx' : (0 < x1.size) = True := eq_true qx
  have D_ := Lib.hid D5
  have L2 := Lib.hid (show r2.length + 1 = r1.length by rw [R2_, List.length_drop]; have := L1.out; omega)
  have R2 := Lib.hid R2_
  have X1 := Lib.hid X1_
  clear R2_ X1_
  have t4 : w5.cell? ⟨g4, 0, none⟩ = some (.string (tx r2)) := D5.h4.cell 0
  have f4 := D5.h4.frozen 0
  have m0 : w5.cell? ⟨g5, 0, none⟩ = some (.int .i64 kd) := D5.h5.cell 0
  have n0 := D5.h5.frozen 0
  have m1 : w5.cell? ⟨g5, 1, none⟩ = some (.int .i64 0) := D5.h5.cell 1
  have n1 := D5.h5.frozen 1
  have m2 : w5.cell? ⟨g5, 2, none⟩ = some (.int .i64 0) := D5.h5.cell 2
  have n2 := D5.h5.frozen 2
  have m3 : w5.cell? ⟨g5, 3, none⟩ = some (.string ⟨#[]⟩) := D5.h5.cell 3
  have n3 := D5.h5.frozen 3
  have m4 : w5.cell? ⟨g5, 4, none⟩ = some (.string ⟨#[]⟩) := D5.h5.cell 4
  have n4 := D5.h5.frozen 4
  have m5 : w5.cell? ⟨g5, 5, none⟩ = some (.slice none 0 0) := D5.h5.cell 5
  have n5 := D5.h5.frozen 5
  have m6 : w5.cell? ⟨g5, 6, none⟩ = some (.slice none 0 0) := D5.h5.cell 6
  have n6 := D5.h5.frozen 6
  clear D5
  go_upto_region 9 with fail
  refine gen_world (fun W => DS w W g2 g4 g5 Z7 #[.int .i64 kd, .int .i64 u, .int .i64 0, .string ⟨#[]⟩, .string ⟨#[]⟩, .slice none 0 0, .slice none 0 0] r2 (.slice none 0 0) [] (.slice none 0 0) []) ?_ ?_
  · exact D_.out.put 1 _
  clear t4 f4 m0 n0 m1 n1 m2 n2 m3 n3 m4 n4 m5 n5 m6 n6
  clear D_
  intro w6 D
  have D_ := Lib.hid D
  have t4 : w6.cell? ⟨g4, 0, none⟩ = some (.string (tx r2)) := D.h4.cell 0
  have f4 := D.h4.frozen 0
  have m0 : w6.cell? ⟨g5, 0, none⟩ = some (.int .i64 kd) := D.h5.cell 0
  have n0 := D.h5.frozen 0
  have m1 : w6.cell? ⟨g5, 1, none⟩ = some (.int .i64 u) := D.h5.cell 1
  have n1 := D.h5.frozen 1
  have m2 : w6.cell? ⟨g5, 2, none⟩ = some (.int .i64 0) := D.h5.cell 2
  have n2 := D.h5.frozen 2
  have m3 : w6.cell? ⟨g5, 3, none⟩ = some (.string ⟨#[]⟩) := D.h5.cell 3
  have n3 := D.h5.frozen 3
  have m4 : w6.cell? ⟨g5, 4, none⟩ = some (.string ⟨#[]⟩) := D.h5.cell 4
  have n4 := D.h5.frozen 4
  have m5 : w6.cell? ⟨g5, 5, none⟩ = some (.slice none 0 0) := D.h5.cell 5
  have n5 := D.h5.frozen 5
  have m6 : w6.cell? ⟨g5, 6, none⟩ = some (.slice none 0 0) := D.h5.cell 6
  have n6 := D.h5.frozen 6
  clear D
  go_wp2_with fail
  refine (cut_ds D_.out 4 (by have := L1.out; have := L2.out; omega)).mono ?_
  rintro e w7 ⟨rfl, D7⟩
  clear t4 f4 m0 n0 m1 n1 m2 n2 m3 n3 m4 n4 m5 n5 m6 n6
  clear D_
  obtain ⟨x4, X4_⟩ : ∃ x, x = tx (r2.take 4) := ⟨_, rfl⟩
  obtain ⟨r3, R3_⟩ : ∃ r, r = r2.drop 4 := ⟨_, rfl⟩
  rw [← R3_] at D7
  rw [← X4_]
  have D_ := Lib.hid D7
  have L3 := Lib.hid (show r3.length + 4 = r2.length by rw [R3_, List.length_drop]; have := L1.out; have := L2.out; omega)
  have hl4 : (r2.take 4).length = 4 := by rw [List.length_take]; have := L1.out; have := L2.out; omega
  obtain ⟨cap, w8, hcv0, hC, hB8⟩ := cb_of_string (P := Tryd.prog) w7 9 61 5 (r2.take 4) Tryd.underlying9 Tryd.underlying61 Tryd.underlying5 w7.heap.size (Nat.le_refl _)
  rw [hl4] at hcv0
  obtain ⟨gB, GB⟩ : ∃ g, g = w7.heap.size := ⟨_, rfl⟩
  rw [← GB] at hcv0 hC
  have hbg : g5 < gB := by rw [GB]; exact D7.h5.lt
  have hcv : (convert 9 61 (.string x4)).run Tryd.prog w7 = .ok (.slice (some ⟨gB, 0, none⟩) 4 cap) w8 := by rw [X4_]; exact hcv0
  have D_ := Lib.hid (D7.below hB8)
  have R3 := Lib.hid R3_
  obtain ⟨l4, hL4⟩ : ∃ l, l = r2.take 4 := ⟨_, rfl⟩
  rw [← hL4] at hl4 hC
  have H4 := Lib.hid hl4
  have HL4 := Lib.hid hL4
  have HC := Lib.hid hC
  clear GB D7 hB8 hcv0 hC R3_ hl4 hL4 X4_
  go_wp2_with fail
  go_loopw [43] (fun v wr => ∃ k : Nat, ∃ q : Int, k ≤ 4 ∧ v = .int .i64 k ∧ Hid (q = sq (l4.take k)) ∧ Hid (DS w wr g2 g4 g5 Z7 #[.int .i64 kd, .int .i64 u, .int .i64 q, .string ⟨#[]⟩, .string ⟨#[]⟩, .slice none 0 0, .slice none 0 0] r3 (.slice none 0 0) [] (.slice none 0 0) []) ∧ Hid (Cb wr gB l4)) (fun v _ => 4 - (intOf v).toNat)
  case atStart => exact ⟨0, 0, by omega, rfl, Lib.hid rfl, D_, HC⟩
  case round =>
    clear D_ HC hcv
    obtain ⟨k, q, hk4, rfl, Hq, D_, HC⟩ := hrel
    have DD := D_.out
    have t4 : wr.cell? ⟨g4, 0, none⟩ = some (.string (tx r3)) := DD.h4.cell 0
    have f4 := DD.h4.frozen 0
    have m0 : wr.cell? ⟨g5, 0, none⟩ = some (.int .i64 kd) := DD.h5.cell 0
    have n0 := DD.h5.frozen 0
    have m1 : wr.cell? ⟨g5, 1, none⟩ = some (.int .i64 u) := DD.h5.cell 1
    have n1 := DD.h5.frozen 1
    have m2 : wr.cell? ⟨g5, 2, none⟩ = some (.int .i64 q) := DD.h5.cell 2
    have n2 := DD.h5.frozen 2
    have m3 : wr.cell? ⟨g5, 3, none⟩ = some (.string ⟨#[]⟩) := DD.h5.cell 3
    have n3 := DD.h5.frozen 3
    have m4 : wr.cell? ⟨g5, 4, none⟩ = some (.string ⟨#[]⟩) := DD.h5.cell 4
    have n4 := DD.h5.frozen 4
    have m5 : wr.cell? ⟨g5, 5, none⟩ = some (.slice none 0 0) := DD.h5.cell 5
    have n5 := DD.h5.frozen 5
    have m6 : wr.cell? ⟨g5, 6, none⟩ = some (.slice none 0 0) := DD.h5.cell 6
    have n6 := DD.h5.frozen 6

    clear DD
    by_cases hlt : k < 4
    · have c1 := (HC.out.2 k (by rw [H4.out]; exact hlt)).1
      have e1 : 0 ≤ (k : Int) ∧ (k : Int) < 4 := by omega
      go_wp2_with fail
      go_roundw
      case rel => exact ⟨k + 1, _, by omega, by go_num, Lib.hid (by rw [Hq.out]; exact sq_step l4 k H4.out hlt), Lib.hid (D_.out.put 2 _), Lib.hid (HC.out.far (Nat.ne_of_gt hbg) _ _)⟩
      case measure => simp [intOf]; omega
    · have hk' : k = 4 := by omega
      subst hk'
      rw [List.take_of_length_le (by rw [H4.out]; exact Nat.le_refl _)] at Hq
      clear HC hlt hk4
      go_wp2_with fail
      refine (cut_ds D_.out 32 (by have := L1.out; have := L2.out; have := L3.out; omega)).mono ?_
      rintro e w9 ⟨rfl, D9⟩
      clear t4 f4 m0 n0 m1 n1 m2 n2 m3 n3 m4 n4 m5 n5 m6 n6
      clear D_
      obtain ⟨xt, XT_⟩ : ∃ x, x = tx (r3.take 32) := ⟨_, rfl⟩
      obtain ⟨r4, R4_⟩ : ∃ r, r = r3.drop 32 := ⟨_, rfl⟩
      rw [← R4_] at D9
      rw [← XT_]
      have D_ := Lib.hid D9
      have R4 := Lib.hid R4_
      have XT := Lib.hid XT_
      have HE := Lib.hid (show mail_Encode.f kE kd u q ⟨#[]⟩ xt [] (dIds N r4 []) = some (t, e0) by
        have e1 : r3 = r3L a0.data.toList := by rw [R3.out, R2.out, R1.out]; rfl
        have e2 : uL a0.data.toList = u := by rw [← hu, X1.out, R1.out]; rfl
        have e3 : qL a0.data.toList = q := by rw [Hq.out, HL4.out, R2.out, R1.out]; rfl
        rw [XT.out, R4.out, e1, ← e2, ← e3]; exact HEE.out)
      have HU := Lib.hid (show uL a0.data.toList = u by rw [← hu, X1.out, R1.out]; rfl)
      have HQ := Lib.hid (show qL a0.data.toList = q by rw [Hq.out, HL4.out, R2.out, R1.out]; rfl)
      have HX := Lib.hid (show tx ((r3L a0.data.toList).take 32) = xt by rw [XT.out, R3.out, R2.out, R1.out]; rfl)
      have HR4 := Lib.hid (show r4.length = 16 * N by rw [R4_, List.length_drop, R3.out, R2.out, R1.out]; have := HNN.out; unfold r3L at this; omega)
      have HD := Lib.hid (show dIds N r4 [] = dIds N ((r3L a0.data.toList).drop 32) [] by rw [R4_, R3.out, R2.out, R1.out]; rfl)
      clear R4_ XT_
      have t4 : w9.cell? ⟨g4, 0, none⟩ = some (.string (tx r4)) := D9.h4.cell 0
      have f4 := D9.h4.frozen 0
      have m0 : w9.cell? ⟨g5, 0, none⟩ = some (.int .i64 kd) := D9.h5.cell 0
      have n0 := D9.h5.frozen 0
      have m1 : w9.cell? ⟨g5, 1, none⟩ = some (.int .i64 u) := D9.h5.cell 1
      have n1 := D9.h5.frozen 1
      have m2 : w9.cell? ⟨g5, 2, none⟩ = some (.int .i64 q) := D9.h5.cell 2
      have n2 := D9.h5.frozen 2
      have m3 : w9.cell? ⟨g5, 3, none⟩ = some (.string ⟨#[]⟩) := D9.h5.cell 3
      have n3 := D9.h5.frozen 3
      have m4 : w9.cell? ⟨g5, 4, none⟩ = some (.string ⟨#[]⟩) := D9.h5.cell 4
      have n4 := D9.h5.frozen 4
      have m5 : w9.cell? ⟨g5, 5, none⟩ = some (.slice none 0 0) := D9.h5.cell 5
      have n5 := D9.h5.frozen 5
      have m6 : w9.cell? ⟨g5, 6, none⟩ = some (.slice none 0 0) := D9.h5.cell 6
      have n6 := D9.h5.frozen 6
      clear D9
      go_wp2_with fail
      go_loopg [8] (N + 1) (fun kq v8 wr => ∃ (nn : Nat) (r : List UInt8) (vi : Value) (li : List ByteArray), kq = nn + 1 ∧ nn ≤ N ∧ Hid (r.length = 16 * nn) ∧ Hid (dIds nn r li = dIds N r4 []) ∧ Hid (li.length + nn ≤ N) ∧ Hid (DS w wr g2 g4 g5 Z7 #[.int .i64 kd, .int .i64 u, .int .i64 q, .string ⟨#[]⟩, .string xt, .slice none 0 0, vi] r (.slice none 0 0) [] vi li))
      case atStart => exact ⟨N, r4, .slice none 0 0, [], rfl, Nat.le_refl _, HR4, Lib.hid rfl, Lib.hid (by simp), Lib.hid (D_.out.put 4 _)⟩
      case round =>
        clear t4 f4 m0 n0 m1 n1 m2 n2 m3 n3 m4 n4 m5 n5 m6 n6
        clear D_
        obtain ⟨nn, r, vi, li, rfl, hnn, HRl, HDl, HLl, D_⟩ := hrel
        have DD := D_.out
        have t4 : wr.cell? ⟨g4, 0, none⟩ = some (.string (tx r)) := DD.h4.cell 0
        have f4 := DD.h4.frozen 0
        have m0 : wr.cell? ⟨g5, 0, none⟩ = some (.int .i64 kd) := DD.h5.cell 0
        have n0 := DD.h5.frozen 0
        have m1 : wr.cell? ⟨g5, 1, none⟩ = some (.int .i64 u) := DD.h5.cell 1
        have n1 := DD.h5.frozen 1
        have m2 : wr.cell? ⟨g5, 2, none⟩ = some (.int .i64 q) := DD.h5.cell 2
        have n2 := DD.h5.frozen 2
        have m3 : wr.cell? ⟨g5, 3, none⟩ = some (.string ⟨#[]⟩) := DD.h5.cell 3
        have n3 := DD.h5.frozen 3
        have m4 : wr.cell? ⟨g5, 4, none⟩ = some (.string xt) := DD.h5.cell 4
        have n4 := DD.h5.frozen 4
        have m5 : wr.cell? ⟨g5, 5, none⟩ = some (.slice none 0 0) := DD.h5.cell 5
        have n5 := DD.h5.frozen 5
        have m6 : wr.cell? ⟨g5, 6, none⟩ = some (vi) := DD.h5.cell 6
        have n6 := DD.h5.frozen 6
        clear DD
        by_cases h0 : nn = 0
        · subst h0
          have hr : r = [] := List.eq_nil_of_length_eq_zero (by have := HRl.out; omega)
          subst hr
          have he : (tx ([] : List UInt8)).toList.isEmpty = true := by rw [ByteArray.toList_eq]; rfl
          have HLI : Hid (li = dIds N r4 []) := Lib.hid HDl.out
          have HE2 := Lib.hid (show mail_Encode.f kE kd u q ⟨#[]⟩ xt [] li = some (t, e0) by rw [HLI.out]; exact HE.out)
          have HCs := Lib.hid (Kd.R_reads' D_.out.rs).2.2
          obtain ⟨Ai, cpi, rfl, hci, hCi⟩ := Kd.R_reads D_.out.ri
          have HCi := Lib.hid hCi
          have Hci := Lib.hid hci
          clear hCi hci
          go_wp2_with fail
          refine (mail_Encode.calls kE kd u q ⟨#[]⟩ xt none 0 [] Ai cpi li t e0 _ HCs.out (Nat.le_refl _) HCi.out Hci.out HE2.out).mono ?_
          rintro e w12 ⟨rfl, hb12⟩
          have D12 := Lib.hid (D_.out.below hb12)
          clear t4 f4 m0 n0 m1 n1 m2 n2 m3 n3 m4 n4 m5 n5 m6 n6 hb12 HCs HCi
          have DD := D12.out
          have t4 : w12.cell? ⟨g4, 0, none⟩ = some (.string (tx [])) := DD.h4.cell 0
          have f4 := DD.h4.frozen 0
          have m0 : w12.cell? ⟨g5, 0, none⟩ = some (.int .i64 kd) := DD.h5.cell 0
          have n0 := DD.h5.frozen 0
          have m1 : w12.cell? ⟨g5, 1, none⟩ = some (.int .i64 u) := DD.h5.cell 1
          have n1 := DD.h5.frozen 1
          have m2 : w12.cell? ⟨g5, 2, none⟩ = some (.int .i64 q) := DD.h5.cell 2
          have n2 := DD.h5.frozen 2
          have m3 : w12.cell? ⟨g5, 3, none⟩ = some (.string ⟨#[]⟩) := DD.h5.cell 3
          have n3 := DD.h5.frozen 3
          have m4 : w12.cell? ⟨g5, 4, none⟩ = some (.string xt) := DD.h5.cell 4
          have n4 := DD.h5.frozen 4
          have m5 : w12.cell? ⟨g5, 5, none⟩ = some (.slice none 0 0) := DD.h5.cell 5
          have n5 := DD.h5.frozen 5
          have m6 : w12.cell? ⟨g5, 6, none⟩ = some (.slice Ai li.length cpi) := DD.h5.cell 6
          have n6 := DD.h5.frozen 6
          have k0 : w12.cell? ⟨g2, 0, none⟩ = some (.int .i64 0) := DD.h2.cell 0
          have l0 := DD.h2.frozen 0
          have k1 : w12.cell? ⟨g2, 1, none⟩ = some (.int .i64 0) := DD.h2.cell 1
          have l1 := DD.h2.frozen 1
          have k2 : w12.cell? ⟨g2, 2, none⟩ = some (.int .i64 0) := DD.h2.cell 2
          have l2 := DD.h2.frozen 2
          have k3 : w12.cell? ⟨g2, 3, none⟩ = some (.string ⟨#[]⟩) := DD.h2.cell 3
          have l3 := DD.h2.frozen 3
          have k4 : w12.cell? ⟨g2, 4, none⟩ = some (.string ⟨#[]⟩) := DD.h2.cell 4
          have l4 := DD.h2.frozen 4
          have k5 : w12.cell? ⟨g2, 5, none⟩ = some (.slice none 0 0) := DD.h2.cell 5
          have l5 := DD.h2.frozen 5
          have k6 : w12.cell? ⟨g2, 6, none⟩ = some (.slice none 0 0) := DD.h2.cell 6
          have l6 := DD.h2.frozen 6
          clear DD
          by_cases he0 : e0 = 0
          · have E0 : (e0 != 0) = false := bne_eq_false_iff_eq.mpr he0
            by_cases ht : t.toList = a0.toList
            · have E1 : (t.toList != a0.toList) = false := bne_eq_false_iff_eq.mpr ht
              have E2 : (t.toList == a0.toList) = true := beq_iff_eq.mpr ht
              have OK := Lib.hid (And.intro he0 ht)
              clear he0 ht
              go_wp2_with fail
              refine gen_body (fun W => DS w W g2 g4 g5 #[.int .i64 kd, .int .i64 u, .int .i64 q, .string ⟨#[]⟩, .string xt, .slice none 0 0, .slice Ai li.length cpi] #[.int .i64 kd, .int .i64 u, .int .i64 q, .string ⟨#[]⟩, .string xt, .slice none 0 0, .slice Ai li.length cpi] [] (.slice none 0 0) [] (.slice Ai li.length cpi) li) ?_ ?_
              · exact (((((((D12.out.put2 0 _).put2 1 _).put2 2 _).put2 3 _).put2 4 _).put2 5 _).put2 6 _)
              intro W' E
              refine bodyPost_ret (results_ct rfl _ _ g2 25 #[.int .i64 kd, .int .i64 u, .int .i64 q, .string ⟨#[]⟩, .string xt, .slice none 0 0, .slice Ai li.length cpi] (0, 0) _ rfl E.h2 Tryd.underlying25 rfl rfl) rfl ?_
              rw [HU.out, HQ.out, HX.out, ← HD.out, ← HLI.out]
              exact ⟨fun _ => ⟨_, _, rfl, E.rs, Kd.R_mono E.ri (fun _ _ => trivial), E.b⟩, fun h => absurd OK.out h⟩
            · have E1 : (t.toList != a0.toList) = true := bne_iff_ne.mpr ht
              have E2 : (t.toList == a0.toList) = false := beq_eq_false_iff_ne.mpr ht
              have NO := Lib.hid (show ¬ (e0 = 0 ∧ t.toList = a0.toList) from fun h => ht h.2)
              clear he0 ht
              go_wp2_with fail
              refine gen_body (fun W => DS w W g2 g4 g5 Z7 #[.int .i64 kd, .int .i64 u, .int .i64 q, .string ⟨#[]⟩, .string xt, .slice none 0 0, .slice Ai li.length cpi] [] (.slice none 0 0) [] (.slice Ai li.length cpi) li) ?_ ?_
              · exact (((((((D12.out.put2 0 _).put2 1 _).put2 2 _).put2 3 _).put2 4 _).put2 5 _).put2 6 _)
              intro W' E
              refine bodyPost_ret (results_ct rfl _ _ g2 25 Z7 (0, 0) _ rfl E.h2 Tryd.underlying25 rfl rfl) rfl ?_
              exact ⟨fun h => absurd h NO.out, fun _ => DecOut.zero E.b⟩
          · have E0 : (e0 != 0) = true := bne_iff_ne.mpr he0
            have NO := Lib.hid (show ¬ (e0 = 0 ∧ t.toList = a0.toList) from fun h => he0 h.1)
            clear he0
            go_wp2_with fail
            refine gen_body (fun W => DS w W g2 g4 g5 Z7 #[.int .i64 kd, .int .i64 u, .int .i64 q, .string ⟨#[]⟩, .string xt, .slice none 0 0, .slice Ai li.length cpi] [] (.slice none 0 0) [] (.slice Ai li.length cpi) li) ?_ ?_
            · exact (((((((D12.out.put2 0 _).put2 1 _).put2 2 _).put2 3 _).put2 4 _).put2 5 _).put2 6 _)
            intro W' E
            refine bodyPost_ret (results_ct rfl _ _ g2 25 Z7 (0, 0) _ rfl E.h2 Tryd.underlying25 rfl rfl) rfl ?_
            exact ⟨fun h => absurd h NO.out, fun _ => DecOut.zero E.b⟩
        · obtain ⟨m, rfl⟩ : ∃ m, nn = m + 1 := ⟨nn - 1, by omega⟩
          have he : (tx r).toList.isEmpty = false := list_ne (by rw [tx_size]; have := HRl.out; omega)
          go_wp2_with fail
          refine (cut_ds D_.out 16 (by have := HRl.out; omega)).mono ?_
          rintro e w10 ⟨rfl, D10⟩
          clear t4 f4 m0 n0 m1 n1 m2 n2 m3 n3 m4 n4 m5 n5 m6 n6
          obtain ⟨x, X_⟩ : ∃ x, x = tx (r.take 16) := ⟨_, rfl⟩
          have hlx : (r.take 16).length = 16 := by rw [List.length_take]; have := HRl.out; omega
          have hxe : x.toList = r.take 16 := by rw [X_, ByteArray.toList_eq, tx_list]
          have HRr := Lib.hid (show (r.drop 16).length = 16 * m by rw [List.length_drop]; have := HRl.out; omega)
          have D_2 := Lib.hid D10
          have X2 := Lib.hid X_
          rw [← X_]
          obtain ⟨r', hr'⟩ : ∃ r', r' = r.drop 16 := ⟨_, rfl⟩
          rw [← hr'] at D10 D_2 HRr
          have HR' := Lib.hid hr'
          clear X_ hr' D_ he h0
          have t4 : w10.cell? ⟨g4, 0, none⟩ = some (.string (tx r')) := D10.h4.cell 0
          have f4 := D10.h4.frozen 0
          have m0 : w10.cell? ⟨g5, 0, none⟩ = some (.int .i64 kd) := D10.h5.cell 0
          have n0 := D10.h5.frozen 0
          have m1 : w10.cell? ⟨g5, 1, none⟩ = some (.int .i64 u) := D10.h5.cell 1
          have n1 := D10.h5.frozen 1
          have m2 : w10.cell? ⟨g5, 2, none⟩ = some (.int .i64 q) := D10.h5.cell 2
          have n2 := D10.h5.frozen 2
          have m3 : w10.cell? ⟨g5, 3, none⟩ = some (.string ⟨#[]⟩) := D10.h5.cell 3
          have n3 := D10.h5.frozen 3
          have m4 : w10.cell? ⟨g5, 4, none⟩ = some (.string xt) := D10.h5.cell 4
          have n4 := D10.h5.frozen 4
          have m5 : w10.cell? ⟨g5, 5, none⟩ = some (.slice none 0 0) := D10.h5.cell 5
          have n5 := D10.h5.frozen 5
          have m6 : w10.cell? ⟨g5, 6, none⟩ = some (vi) := D10.h5.cell 6
          have n6 := D10.h5.frozen 6
          clear D10
          by_cases hz : r.take 16 = noIdL
          · have z1 : (x.toList == [0, 0, 0, 0, 0, 0, 0, 0, 0, 0, 0, 0, 0, 0, 0, 0]) = true := beq_iff_eq.mpr (hxe.trans hz)
            have HDm := Lib.hid (show dIds m r' li = dIds N r4 [] by rw [← HDl.out, HR'.out]; show _ = dIds m (r.drop 16) (if r.take 16 = noIdL then li else _); rw [if_pos hz])
            clear hz hxe hlx HRl HDl
            go_wp2_with fail
            go_roundg (m + 1)
            case measure => omega
            case rel => exact ⟨m, r', vi, li, rfl, by omega, HRr, HDm, Lib.hid (by have := HLl.out; omega), D_2⟩
          · have z1 : (x.toList == [0, 0, 0, 0, 0, 0, 0, 0, 0, 0, 0, 0, 0, 0, 0, 0]) = false := beq_eq_false_iff_ne.mpr (fun h => hz (hxe.symm.trans h))
            have z2 : x.toList.isEmpty = false := by rw [hxe]; cases h : r.take 16 with | nil => rw [h] at hlx; cases hlx | cons _ _ => rfl
            have HDm := Lib.hid (show dIds m r' (li ++ [x]) = dIds N r4 [] by rw [← HDl.out, HR'.out, X2.out]; show _ = dIds m (r.drop 16) (if r.take 16 = noIdL then li else _); rw [if_neg hz])
            clear hz hxe hlx HRl HDl
            go_wp2_with ((with_reducible refine gate_builtin (b := .append) (xs := #[.tmp 88, .tmp 90]) rfl ?_); at_builtin; refine Kd.R_append Kd.string (w0 := w) w.heap.size rfl (.tmp 88) (.tmp 90) 23 9 (.string ⟨#[]⟩) 16 rfl Tryd.underlying23 info9 rfl (by decide) (by omega) vi li x [.string x] (fun k => k ≠ g4) (fun _ => False) rfl rfl ?aP (fun _ hk => hk.elim) ?aF D_2.out.ri D_2.out.b D_2.out.b.size ?aL ?_; (case aP => exact rfl); (case aF => exact fun k hk => Nat.ne_of_gt (Nat.lt_of_lt_of_le D_2.out.h4.lt hk)); (case aL => have := HLl.out; have := HN4.out; omega); intro v1 w11 ho hb hg hat; obtain ⟨A1, cp1, e1⟩ := Kd.R_slice ho; rw [List.length_append, List.length_singleton] at e1; subst e1; have D11 := Lib.hid (D_2.out.appI ho hb hg); clear ho hb hg hat D_2 t4 f4 m0 m1 m2 m3 m4 m5 m6 n0 n1 n2 n3 n4 n5 n6; have m6 : w11.cell? ⟨g5, 6, none⟩ = some vi := D11.out.h5.cell 6; have n6 := D11.out.h5.frozen 6)
            go_roundg (m + 1)
            case measure => omega
            case rel => exact ⟨m, r', _, li ++ [x], rfl, by omega, HRr, HDm, Lib.hid (by rw [List.length_append]; have := HLl.out; show li.length + 1 + m ≤ N; omega), Lib.hid (D11.out.put 6 _)⟩
end Go.Proofs.YtjmgkjjcdnaapaaDoor
namespace Go.Proofs.YtjmgkjjcdnaapaaDoor
open Go.RowKit Go.Proofs.YtjmgkjjcdnaapaaDoor.PMailA Go.Proofs.YtjmgkjjcdnaapaaDoorW.PrintWords Go.Proofs.YtjmgkjjcdnaapaaDoorW.PrintLast Go.Proofs.YtjmgkjjcdnaapaaDoorW.PrintMore
attribute [local go_sem] max2_int min2_int max_two min_two
set_option linter.unusedSimpArgs false
set_option linter.unusedVariables false
set_option maxRecDepth 100000
def decS.T : Bool × List (List Nat × List Nat) := (true, [([], []), ([0], [0]), ([], []), ([], []), ([], []), ([4], [4]), ([3, 5], [3, 5]), ([2, 6], [2, 6]), ([7], [7]), ([1, 8], [1, 8]), ([0, 1, 2, 3, 4, 5, 6, 7, 8, 9], []), ([10, 9, 9, 0, 1, 2, 3, 4, 5, 6, 7, 8, 9], [9, 10])])
def decS.B : List Nat := [0, 1, 0, 0, 0, 16, 56, 124, 252, 511, 1023, 2047]
theorem decS.tab : rtab .any (opsOf Tryd.f24 23) = decS.T := by kernel_rfl
theorem decS.bits : waitsOk decS.T.2 decS.B = true := by kernel_rfl
theorem alloc_drew (w : World) (o : Obj) : (w.alloc o).drew = w.drew.alloc o := rfl
def idT (l : List UInt8) : ByteArray := if l = noIdL then ⟨#[]⟩ else tx l
def mnT (l : List UInt8) : Int := if (222 : Int) < wrap64 (bt (tx (l.take 1)) 0) then 222 else wrap64 (bt (tx (l.take 1)) 0)
def slotT (r : List UInt8) : S68 := ⟨idT (r.take 16), (tx (((r.drop 16).drop 1).take 222)).extract 0 (mnT (r.drop 16)).toNat⟩
def dSlots : Nat → List UInt8 → List S68 → List S68
  | 0, _, ls => ls
  | n + 1, r, ls => dSlots n (((r.drop 16).drop 1).drop 222) (ls ++ [slotT r])
theorem wrap_bt (a : ByteArray) : 0 ≤ wrap64 (bt a 0) ∧ wrap64 (bt a 0) < 256 := by
  have h : 0 ≤ bt a 0 ∧ bt a 0 < 256 := by
    unfold bt
    split
    · rename_i h; have := (a[(0 : Int).toNat]'h).toNat_lt; omega
    · omega
  unfold wrap64
  omega
theorem mnT_bd (l : List UInt8) : 0 ≤ mnT l ∧ mnT l ≤ 222 := by
  have := wrap_bt (tx (l.take 1))
  unfold mnT
  split <;> omega
set_option maxHeartbeats 6400000 in
theorem dec_slots (a0 : ByteArray) (n kd : Int) (w : World) (q : 0 < a0.size) (hk : wrap64 (bt a0 0) = kd) (hn : mail_Long.f kd = some n) (h1 : (a0.size : Int) = n) (k1 : ¬ kd = 1) (h38 : 38 ≤ a0.size) (k3 : kd = 3) (N kE : Nat) (hN : (r3L a0.data.toList).length = 239 * N) (hN4 : N ≤ 4) (t : ByteArray) (e0 : Int) (hE : mail_Encode.f kE kd (uL a0.data.toList) (qL a0.data.toList) ⟨#[]⟩ ⟨#[]⟩ (dSlots N (r3L a0.data.toList) []) [] = some (t, e0)) :
    Calls Tryd.prog 24 #[.string a0] w fun e w' => (e0 = 0 ∧ t.toList = a0.toList → DecOut w kd (uL a0.data.toList) (qL a0.data.toList) ⟨#[]⟩ ⟨#[]⟩ (dSlots N (r3L a0.data.toList) []) [] 0 e w') ∧ (¬ (e0 = 0 ∧ t.toList = a0.toList) → DecOut w 0 0 0 ⟨#[]⟩ ⟨#[]⟩ [] [] 110 e w') := by
  have K1 : (kd == 1) = false := beq_eq_false_iff_ne.mpr k1
  clear k1
  have K3 : (kd != 3) = false := bne_eq_false_iff_eq.mpr k3
  have K3b : (kd == 3) = true := beq_iff_eq.mpr k3
  have HNN := Lib.hid hN
  have HN4 := Lib.hid hN4
  have HEE := Lib.hid hE
  clear k3 hN hN4 hE
  have hx := bt_at' a0
  have hl := list_ne q
  have qi : (0 < (a0.size : Int)) = True := eq_true (by omega)
  have q' : (0 < a0.size) = True := eq_true q
  have hc : ((a0.size : Int) != n) = false := bne_eq_false_iff_eq.mpr h1
  have HN := Lib.hid hn
  clear h1 hn
  go_enter Tryd.func24, Tryd.ntmps24
  go_wp2_with fail
  refine (mail_Long.calls kd n _ HN.out).mono ?_
  rintro e w1 ⟨rfl, ⟨nd, hw⟩⟩
  have HZ := Lib.hid (show Blk w1 w.heap.size 25 Z7 by rw [hw]; exact blk_drewN (blk_new w _) nd)
  have HB := Lib.hid (show Below w.heap.size w w1 by rw [hw]; exact pw_below_drewN (below_alloc (Below.refl _ _) _) _)
  have HS := Lib.hid (show w1.heap.size = w.heap.size + 1 by rw [hw]; simp [World.drewN])
  clear hw
  go_wp2_with fail
  refine (cut_any w1.heap.size a0 1 _ (Blk.new w1 _ _) q).mono ?_
  rintro e w2 ⟨rfl, hw⟩
  have B4 := Lib.hid (show Blk w2 w1.heap.size 9 #[.string (tx (a0.data.toList.drop 1))] by rw [hw, ex_drop]; exact (Blk.new w1 9 #[.string a0]).set_ 0 _)
  have B2 := Lib.hid (show Blk w2 w.heap.size 25 Z7 by rw [hw]; exact (HZ.out.alloc _).far (by show w.heap.size ≠ w1.heap.size; rw [HS.out]; omega) _)
  have B0 := Lib.hid (show Below w.heap.size w w2 by rw [hw]; exact ((below_alloc HB.out _).setCell (by show w.heap.size ≤ w1.heap.size; rw [HS.out]; omega) _))
  have S2 := Lib.hid (show w2.heap.size = w1.heap.size + 1 by rw [hw]; simp [World.setCell])
  clear hw
  have hx1 := ex_bt a0 q
  go_upto_region 5 with (first | ((with_reducible refine gate_dst (N := 5) rfl ?_); refine box_event ?hg (N := 5) ?hd (cs := Z7) (t := 25) ?hr ?_; (case hd => rfl); (case hg => rfl); (case hr => first | (go_simp; done) | (go_simp; rfl)); intro g5 hg w3 hbox hb; subst hg; have hz0 : w3.cell? ⟨w2.heap.size, 0, none⟩ = some (.int .i64 0) := blk_cell hbox 0; have fz0 := blk_frozen hbox 0; have hz1 : w3.cell? ⟨w2.heap.size, 1, none⟩ = some (.int .i64 0) := blk_cell hbox 1; have fz1 := blk_frozen hbox 1; have hz2 : w3.cell? ⟨w2.heap.size, 2, none⟩ = some (.int .i64 0) := blk_cell hbox 2; have fz2 := blk_frozen hbox 2; have hz3 : w3.cell? ⟨w2.heap.size, 3, none⟩ = some (.string ⟨#[]⟩) := blk_cell hbox 3; have fz3 := blk_frozen hbox 3; have hz4 : w3.cell? ⟨w2.heap.size, 4, none⟩ = some (.string ⟨#[]⟩) := blk_cell hbox 4; have fz4 := blk_frozen hbox 4; have hz5 : w3.cell? ⟨w2.heap.size, 5, none⟩ = some (.slice none 0 0) := blk_cell hbox 5; have fz5 := blk_frozen hbox 5; have hz6 : w3.cell? ⟨w2.heap.size, 6, none⟩ = some (.slice none 0 0) := blk_cell hbox 6; have fz6 := blk_frozen hbox 6))
  refine gen_world (fun W => DS w W w.heap.size w1.heap.size w2.heap.size Z7 #[.int .i64 kd, .int .i64 0, .int .i64 0, .string ⟨#[]⟩, .string ⟨#[]⟩, .slice none 0 0, .slice none 0 0] (a0.data.toList.drop 1) (.slice none 0 0) [] (.slice none 0 0) []) ?_ ?_
  · exact ((((((((DS.start w w.heap.size w1.heap.size w2.heap.size w3 Z7 Z7 (a0.data.toList.drop 1) (B0.out.trans (hb.mono B0.out.size)) (B2.out.below hb B2.out.lt) (B4.out.below hb B4.out.lt) hbox (Nat.le_refl _) (by rw [HS.out]; omega) (by rw [S2.out, HS.out]; omega) (by rw [HS.out]; omega) (by rw [S2.out, HS.out]; omega) (by rw [S2.out]; omega)).put 0 _).put 1 _).put 2 _).put 3 _).put 4 _).put 5 _).put 6 _)
  obtain ⟨r1, R1_⟩ : ∃ r, r = a0.data.toList.drop 1 := ⟨_, rfl⟩
  obtain ⟨g2, G2⟩ : ∃ g, g = w.heap.size := ⟨_, rfl⟩
  obtain ⟨g4, G4⟩ : ∃ g, g = w1.heap.size := ⟨_, rfl⟩
  obtain ⟨g5, G5⟩ : ∃ g, g = w2.heap.size := ⟨_, rfl⟩
  rw [← G2, ← G4, ← G5, ← R1_]
  have R1 := Lib.hid R1_
  clear R1_ G2 G4 G5 hbox hb hx1 hz0 hz1 hz2 hz3 hz4 hz5 hz6 fz0 fz1 fz2 fz3 fz4 fz5 fz6 HB HZ HS B4 B2 B0 S2 HN hx
  intro w4 D
  have L1 := Lib.hid (show r1.length + 1 = a0.size by rw [R1.out, List.length_drop]; have e_ : a0.data.toList.length = a0.size := Array.length_toList; omega)
  have D_ := Lib.hid D
  have t4 : w4.cell? ⟨g4, 0, none⟩ = some (.string (tx r1)) := D.h4.cell 0
  have f4 := D.h4.frozen 0
  have m0 : w4.cell? ⟨g5, 0, none⟩ = some (.int .i64 kd) := D.h5.cell 0
  have n0 := D.h5.frozen 0
  have m1 : w4.cell? ⟨g5, 1, none⟩ = some (.int .i64 0) := D.h5.cell 1
  have n1 := D.h5.frozen 1
  have m2 : w4.cell? ⟨g5, 2, none⟩ = some (.int .i64 0) := D.h5.cell 2
  have n2 := D.h5.frozen 2
  have m3 : w4.cell? ⟨g5, 3, none⟩ = some (.string ⟨#[]⟩) := D.h5.cell 3
  have n3 := D.h5.frozen 3
  have m4 : w4.cell? ⟨g5, 4, none⟩ = some (.string ⟨#[]⟩) := D.h5.cell 4
  have n4 := D.h5.frozen 4
  have m5 : w4.cell? ⟨g5, 5, none⟩ = some (.slice none 0 0) := D.h5.cell 5
  have n5 := D.h5.frozen 5
  have m6 : w4.cell? ⟨g5, 6, none⟩ = some (.slice none 0 0) := D.h5.cell 6
  have n6 := D.h5.frozen 6
  have d24 := D.d24
  have d25 := D.d25
  have d45 := D.d45
  have d42 := D.d24.symm
  have d52 := D.d25.symm
  have d54 := D.d45.symm
  clear D
  go_wp2_with fail
  refine (cut_ds D_.out 1 (by have := L1.out; omega)).mono ?_
  rintro e w5 ⟨rfl, D5⟩
  clear t4 f4 m0 n0 m1 n1 m2 n2 m3 n3 m4 n4 m5 n5 m6 n6
  clear D_
  obtain ⟨x1, X1_⟩ : ∃ x, x = tx (r1.take 1) := ⟨_, rfl⟩
  obtain ⟨r2, R2_⟩ : ∃ r, r = r1.drop 1 := ⟨_, rfl⟩
  obtain ⟨u, hu⟩ : ∃ u, wrap64 (bt x1 0) = u := ⟨_, rfl⟩
  rw [← R2_] at D5
  rw [← X1_]
  have qx : 0 < x1.size := by rw [X1_, tx_size, List.length_take]; have := L1.out; omega
  have hx1 := bt_at' x1
  have qxi : (0 < (x1.size : Int)) = True := eq_true (by omega)
  have qx' : (0 < x1.size) = True := eq_true qx
  have D_ := Lib.hid D5
  have L2 := Lib.hid (show r2.length + 1 = r1.length by rw [R2_, List.length_drop]; have := L1.out; omega)
  have R2 := Lib.hid R2_
  have X1 := Lib.hid X1_
  clear R2_ X1_
  have t4 : w5.cell? ⟨g4, 0, none⟩ = some (.string (tx r2)) := D5.h4.cell 0
  have f4 := D5.h4.frozen 0
  have m0 : w5.cell? ⟨g5, 0, none⟩ = some (.int .i64 kd) := D5.h5.cell 0
  have n0 := D5.h5.frozen 0
  have m1 : w5.cell? ⟨g5, 1, none⟩ = some (.int .i64 0) := D5.h5.cell 1
  have n1 := D5.h5.frozen 1
  have m2 : w5.cell? ⟨g5, 2, none⟩ = some (.int .i64 0) := D5.h5.cell 2
  have n2 := D5.h5.frozen 2
  have m3 : w5.cell? ⟨g5, 3, none⟩ = some (.string ⟨#[]⟩) := D5.h5.cell 3
  have n3 := D5.h5.frozen 3
  have m4 : w5.cell? ⟨g5, 4, none⟩ = some (.string ⟨#[]⟩) := D5.h5.cell 4
  have n4 := D5.h5.frozen 4
  have m5 : w5.cell? ⟨g5, 5, none⟩ = some (.slice none 0 0) := D5.h5.cell 5
  have n5 := D5.h5.frozen 5
  have m6 : w5.cell? ⟨g5, 6, none⟩ = some (.slice none 0 0) := D5.h5.cell 6
  have n6 := D5.h5.frozen 6
  clear D5
  go_upto_region 9 with fail
  refine gen_world (fun W => DS w W g2 g4 g5 Z7 #[.int .i64 kd, .int .i64 u, .int .i64 0, .string ⟨#[]⟩, .string ⟨#[]⟩, .slice none 0 0, .slice none 0 0] r2 (.slice none 0 0) [] (.slice none 0 0) []) ?_ ?_
  · exact D_.out.put 1 _
  clear t4 f4 m0 n0 m1 n1 m2 n2 m3 n3 m4 n4 m5 n5 m6 n6
  clear D_
  intro w6 D
  have D_ := Lib.hid D
  have t4 : w6.cell? ⟨g4, 0, none⟩ = some (.string (tx r2)) := D.h4.cell 0
  have f4 := D.h4.frozen 0
  have m0 : w6.cell? ⟨g5, 0, none⟩ = some (.int .i64 kd) := D.h5.cell 0
  have n0 := D.h5.frozen 0
  have m1 : w6.cell? ⟨g5, 1, none⟩ = some (.int .i64 u) := D.h5.cell 1
  have n1 := D.h5.frozen 1
  have m2 : w6.cell? ⟨g5, 2, none⟩ = some (.int .i64 0) := D.h5.cell 2
  have n2 := D.h5.frozen 2
  have m3 : w6.cell? ⟨g5, 3, none⟩ = some (.string ⟨#[]⟩) := D.h5.cell 3
  have n3 := D.h5.frozen 3
  have m4 : w6.cell? ⟨g5, 4, none⟩ = some (.string ⟨#[]⟩) := D.h5.cell 4
  have n4 := D.h5.frozen 4
  have m5 : w6.cell? ⟨g5, 5, none⟩ = some (.slice none 0 0) := D.h5.cell 5
  have n5 := D.h5.frozen 5
  have m6 : w6.cell? ⟨g5, 6, none⟩ = some (.slice none 0 0) := D.h5.cell 6
  have n6 := D.h5.frozen 6
  clear D
  go_wp2_with fail
  refine (cut_ds D_.out 4 (by have := L1.out; have := L2.out; omega)).mono ?_
  rintro e w7 ⟨rfl, D7⟩
  clear t4 f4 m0 n0 m1 n1 m2 n2 m3 n3 m4 n4 m5 n5 m6 n6
  clear D_
  obtain ⟨x4, X4_⟩ : ∃ x, x = tx (r2.take 4) := ⟨_, rfl⟩
  obtain ⟨r3, R3_⟩ : ∃ r, r = r2.drop 4 := ⟨_, rfl⟩
  rw [← R3_] at D7
  rw [← X4_]
  have D_ := Lib.hid D7
  have L3 := Lib.hid (show r3.length + 4 = r2.length by rw [R3_, List.length_drop]; have := L1.out; have := L2.out; omega)
  have hl4 : (r2.take 4).length = 4 := by rw [List.length_take]; have := L1.out; have := L2.out; omega
  obtain ⟨cap, w8, hcv0, hC, hB8⟩ := cb_of_string (P := Tryd.prog) w7 9 61 5 (r2.take 4) Tryd.underlying9 Tryd.underlying61 Tryd.underlying5 w7.heap.size (Nat.le_refl _)
  rw [hl4] at hcv0
  obtain ⟨gB, GB⟩ : ∃ g, g = w7.heap.size := ⟨_, rfl⟩
  rw [← GB] at hcv0 hC
  have hbg : g5 < gB := by rw [GB]; exact D7.h5.lt
  have hcv : (convert 9 61 (.string x4)).run Tryd.prog w7 = .ok (.slice (some ⟨gB, 0, none⟩) 4 cap) w8 := by rw [X4_]; exact hcv0
  have D_ := Lib.hid (D7.below hB8)
  have R3 := Lib.hid R3_
  obtain ⟨l4, hL4⟩ : ∃ l, l = r2.take 4 := ⟨_, rfl⟩
  rw [← hL4] at hl4 hC
  have H4 := Lib.hid hl4
  have HL4 := Lib.hid hL4
  have HC := Lib.hid hC
  clear GB D7 hB8 hcv0 hC R3_ hl4 hL4 X4_
  go_wp2_with fail
  go_loopw [43] (fun v wr => ∃ k : Nat, ∃ q : Int, k ≤ 4 ∧ v = .int .i64 k ∧ Hid (q = sq (l4.take k)) ∧ Hid (DS w wr g2 g4 g5 Z7 #[.int .i64 kd, .int .i64 u, .int .i64 q, .string ⟨#[]⟩, .string ⟨#[]⟩, .slice none 0 0, .slice none 0 0] r3 (.slice none 0 0) [] (.slice none 0 0) []) ∧ Hid (Cb wr gB l4)) (fun v _ => 4 - (intOf v).toNat)
  case atStart => exact ⟨0, 0, by omega, rfl, Lib.hid rfl, D_, HC⟩
  case round =>
    clear D_ HC hcv
    obtain ⟨k, q, hk4, rfl, Hq, D_, HC⟩ := hrel
    have DD := D_.out
    have t4 : wr.cell? ⟨g4, 0, none⟩ = some (.string (tx r3)) := DD.h4.cell 0
    have f4 := DD.h4.frozen 0
    have m0 : wr.cell? ⟨g5, 0, none⟩ = some (.int .i64 kd) := DD.h5.cell 0
    have n0 := DD.h5.frozen 0
    have m1 : wr.cell? ⟨g5, 1, none⟩ = some (.int .i64 u) := DD.h5.cell 1
    have n1 := DD.h5.frozen 1
    have m2 : wr.cell? ⟨g5, 2, none⟩ = some (.int .i64 q) := DD.h5.cell 2
    have n2 := DD.h5.frozen 2
    have m3 : wr.cell? ⟨g5, 3, none⟩ = some (.string ⟨#[]⟩) := DD.h5.cell 3
    have n3 := DD.h5.frozen 3
    have m4 : wr.cell? ⟨g5, 4, none⟩ = some (.string ⟨#[]⟩) := DD.h5.cell 4
    have n4 := DD.h5.frozen 4
    have m5 : wr.cell? ⟨g5, 5, none⟩ = some (.slice none 0 0) := DD.h5.cell 5
    have n5 := DD.h5.frozen 5
    have m6 : wr.cell? ⟨g5, 6, none⟩ = some (.slice none 0 0) := DD.h5.cell 6
    have n6 := DD.h5.frozen 6

    clear DD
    by_cases hlt : k < 4
    · have c1 := (HC.out.2 k (by rw [H4.out]; exact hlt)).1
      have e1 : 0 ≤ (k : Int) ∧ (k : Int) < 4 := by omega
      go_wp2_with fail
      go_roundw
      case rel => exact ⟨k + 1, _, by omega, by go_num, Lib.hid (by rw [Hq.out]; exact sq_step l4 k H4.out hlt), Lib.hid (D_.out.put 2 _), Lib.hid (HC.out.far (Nat.ne_of_gt hbg) _ _)⟩
      case measure => simp [intOf]; omega
    · have hk' : k = 4 := by omega
      subst hk'
      rw [List.take_of_length_le (by rw [H4.out]; exact Nat.le_refl _)] at Hq
      clear HC hlt hk4
      have HU := Lib.hid (show uL a0.data.toList = u by rw [← hu, X1.out, R1.out]; rfl)
      have HQ := Lib.hid (show qL a0.data.toList = q by rw [Hq.out, HL4.out, R2.out, R1.out]; rfl)
      have HR3 := Lib.hid (show r3L a0.data.toList = r3 by rw [R3.out, R2.out, R1.out]; rfl)
      have HR4 := Lib.hid (show r3.length = 239 * N by rw [← HR3.out]; exact HNN.out)
      have HE := Lib.hid (show mail_Encode.f kE kd u q ⟨#[]⟩ ⟨#[]⟩ (dSlots N r3 []) [] = some (t, e0) by rw [← HU.out, ← HQ.out, ← HR3.out]; exact HEE.out)
      clear HEE HNN
      go_wp2_with fail
      go_loopg [8] (N + 1) (fun kq v8 wr => ∃ (nn : Nat) (r : List UInt8) (vs : Value) (ls : List S68), kq = nn + 1 ∧ nn ≤ N ∧ Hid (r.length = 239 * nn) ∧ Hid (dSlots nn r ls = dSlots N r3 []) ∧ Hid (ls.length + nn ≤ N) ∧ Hid (DS w wr g2 g4 g5 Z7 #[.int .i64 kd, .int .i64 u, .int .i64 q, .string ⟨#[]⟩, .string ⟨#[]⟩, vs, .slice none 0 0] r vs ls (.slice none 0 0) []))
      case atStart => exact ⟨N, r3, .slice none 0 0, [], rfl, Nat.le_refl _, HR4, Lib.hid rfl, Lib.hid (by simp), D_⟩
      case round =>
        clear t4 f4 m0 n0 m1 n1 m2 n2 m3 n3 m4 n4 m5 n5 m6 n6
        clear D_
        obtain ⟨nn, r, vs, ls, rfl, hnn, HRl, HDl, HLl, D_⟩ := hrel
        have DD := D_.out
        have t4 : wr.cell? ⟨g4, 0, none⟩ = some (.string (tx r)) := DD.h4.cell 0
        have f4 := DD.h4.frozen 0
        have m0 : wr.cell? ⟨g5, 0, none⟩ = some (.int .i64 kd) := DD.h5.cell 0
        have n0 := DD.h5.frozen 0
        have m1 : wr.cell? ⟨g5, 1, none⟩ = some (.int .i64 u) := DD.h5.cell 1
        have n1 := DD.h5.frozen 1
        have m2 : wr.cell? ⟨g5, 2, none⟩ = some (.int .i64 q) := DD.h5.cell 2
        have n2 := DD.h5.frozen 2
        have m3 : wr.cell? ⟨g5, 3, none⟩ = some (.string ⟨#[]⟩) := DD.h5.cell 3
        have n3 := DD.h5.frozen 3
        have m4 : wr.cell? ⟨g5, 4, none⟩ = some (.string ⟨#[]⟩) := DD.h5.cell 4
        have n4 := DD.h5.frozen 4
        have m5 : wr.cell? ⟨g5, 5, none⟩ = some (vs) := DD.h5.cell 5
        have n5 := DD.h5.frozen 5
        have m6 : wr.cell? ⟨g5, 6, none⟩ = some (.slice none 0 0) := DD.h5.cell 6
        have n6 := DD.h5.frozen 6
        clear DD
        by_cases h0 : nn = 0
        · subst h0
          have hr : r = [] := List.eq_nil_of_length_eq_zero (by have := HRl.out; omega)
          subst hr
          have he : (tx ([] : List UInt8)).toList.isEmpty = true := by rw [ByteArray.toList_eq]; rfl
          have HLI : Hid (ls = dSlots N r3 []) := Lib.hid HDl.out
          have HE2 := Lib.hid (show mail_Encode.f kE kd u q ⟨#[]⟩ ⟨#[]⟩ ls [] = some (t, e0) by rw [HLI.out]; exact HE.out)
          have HCi := Lib.hid (Kd.R_reads' D_.out.ri).2.2
          obtain ⟨As, cps, rfl, hcs, hCs⟩ := Kd.R_reads D_.out.rs
          have HCs := Lib.hid hCs
          have Hcs := Lib.hid hcs
          clear hCs hcs
          go_wp2_with fail
          refine (mail_Encode.calls kE kd u q ⟨#[]⟩ ⟨#[]⟩ As cps ls none 0 [] t e0 _ HCs.out Hcs.out HCi.out (Nat.le_refl _) HE2.out).mono ?_
          rintro e w12 ⟨rfl, hb12⟩
          have D12 := Lib.hid (D_.out.below hb12)
          clear t4 f4 m0 n0 m1 n1 m2 n2 m3 n3 m4 n4 m5 n5 m6 n6 hb12 HCs HCi
          have DD := D12.out
          have t4 : w12.cell? ⟨g4, 0, none⟩ = some (.string (tx [])) := DD.h4.cell 0
          have f4 := DD.h4.frozen 0
          have m0 : w12.cell? ⟨g5, 0, none⟩ = some (.int .i64 kd) := DD.h5.cell 0
          have n0 := DD.h5.frozen 0
          have m1 : w12.cell? ⟨g5, 1, none⟩ = some (.int .i64 u) := DD.h5.cell 1
          have n1 := DD.h5.frozen 1
          have m2 : w12.cell? ⟨g5, 2, none⟩ = some (.int .i64 q) := DD.h5.cell 2
          have n2 := DD.h5.frozen 2
          have m3 : w12.cell? ⟨g5, 3, none⟩ = some (.string ⟨#[]⟩) := DD.h5.cell 3
          have n3 := DD.h5.frozen 3
          have m4 : w12.cell? ⟨g5, 4, none⟩ = some (.string ⟨#[]⟩) := DD.h5.cell 4
          have n4 := DD.h5.frozen 4
          have m5 : w12.cell? ⟨g5, 5, none⟩ = some (.slice As ls.length cps) := DD.h5.cell 5
          have n5 := DD.h5.frozen 5
          have m6 : w12.cell? ⟨g5, 6, none⟩ = some (.slice none 0 0) := DD.h5.cell 6
          have n6 := DD.h5.frozen 6
          have k0 : w12.cell? ⟨g2, 0, none⟩ = some (.int .i64 0) := DD.h2.cell 0
          have l0 := DD.h2.frozen 0
          have k1 : w12.cell? ⟨g2, 1, none⟩ = some (.int .i64 0) := DD.h2.cell 1
          have l1 := DD.h2.frozen 1
          have k2 : w12.cell? ⟨g2, 2, none⟩ = some (.int .i64 0) := DD.h2.cell 2
          have l2 := DD.h2.frozen 2
          have k3 : w12.cell? ⟨g2, 3, none⟩ = some (.string ⟨#[]⟩) := DD.h2.cell 3
          have l3 := DD.h2.frozen 3
          have k4 : w12.cell? ⟨g2, 4, none⟩ = some (.string ⟨#[]⟩) := DD.h2.cell 4
          have l4 := DD.h2.frozen 4
          have k5 : w12.cell? ⟨g2, 5, none⟩ = some (.slice none 0 0) := DD.h2.cell 5
          have l5 := DD.h2.frozen 5
          have k6 : w12.cell? ⟨g2, 6, none⟩ = some (.slice none 0 0) := DD.h2.cell 6
          have l6 := DD.h2.frozen 6
          clear DD
          by_cases he0 : e0 = 0
          · have E0 : (e0 != 0) = false := bne_eq_false_iff_eq.mpr he0
            by_cases ht : t.toList = a0.toList
            · have E1 : (t.toList != a0.toList) = false := bne_eq_false_iff_eq.mpr ht
              have E2 : (t.toList == a0.toList) = true := beq_iff_eq.mpr ht
              have OK := Lib.hid (And.intro he0 ht)
              clear he0 ht
              go_wp2_with fail
              refine gen_body (fun W => DS w W g2 g4 g5 #[.int .i64 kd, .int .i64 u, .int .i64 q, .string ⟨#[]⟩, .string ⟨#[]⟩, .slice As ls.length cps, .slice none 0 0] #[.int .i64 kd, .int .i64 u, .int .i64 q, .string ⟨#[]⟩, .string ⟨#[]⟩, .slice As ls.length cps, .slice none 0 0] [] (.slice As ls.length cps) ls (.slice none 0 0) []) ?_ ?_
              · exact (((((((D12.out.put2 0 _).put2 1 _).put2 2 _).put2 3 _).put2 4 _).put2 5 _).put2 6 _)
              intro W' E
              refine bodyPost_ret (results_ct rfl _ _ g2 25 #[.int .i64 kd, .int .i64 u, .int .i64 q, .string ⟨#[]⟩, .string ⟨#[]⟩, .slice As ls.length cps, .slice none 0 0] (0, 0) _ rfl E.h2 Tryd.underlying25 rfl rfl) rfl ?_
              rw [HU.out, HQ.out, HR3.out, ← HLI.out]
              exact ⟨fun _ => ⟨_, _, rfl, E.rs, Kd.R_mono E.ri (fun _ _ => trivial), E.b⟩, fun h => absurd OK.out h⟩
            · have E1 : (t.toList != a0.toList) = true := bne_iff_ne.mpr ht
              have E2 : (t.toList == a0.toList) = false := beq_eq_false_iff_ne.mpr ht
              have NO := Lib.hid (show ¬ (e0 = 0 ∧ t.toList = a0.toList) from fun h => ht h.2)
              clear he0 ht
              go_wp2_with fail
              refine gen_body (fun W => DS w W g2 g4 g5 Z7 #[.int .i64 kd, .int .i64 u, .int .i64 q, .string ⟨#[]⟩, .string ⟨#[]⟩, .slice As ls.length cps, .slice none 0 0] [] (.slice As ls.length cps) ls (.slice none 0 0) []) ?_ ?_
              · exact (((((((D12.out.put2 0 _).put2 1 _).put2 2 _).put2 3 _).put2 4 _).put2 5 _).put2 6 _)
              intro W' E
              refine bodyPost_ret (results_ct rfl _ _ g2 25 Z7 (0, 0) _ rfl E.h2 Tryd.underlying25 rfl rfl) rfl ?_
              exact ⟨fun h => absurd h NO.out, fun _ => DecOut.zero E.b⟩
          · have E0 : (e0 != 0) = true := bne_iff_ne.mpr he0
            have NO := Lib.hid (show ¬ (e0 = 0 ∧ t.toList = a0.toList) from fun h => he0 h.1)
            clear he0
            go_wp2_with fail
            refine gen_body (fun W => DS w W g2 g4 g5 Z7 #[.int .i64 kd, .int .i64 u, .int .i64 q, .string ⟨#[]⟩, .string ⟨#[]⟩, .slice As ls.length cps, .slice none 0 0] [] (.slice As ls.length cps) ls (.slice none 0 0) []) ?_ ?_
            · exact (((((((D12.out.put2 0 _).put2 1 _).put2 2 _).put2 3 _).put2 4 _).put2 5 _).put2 6 _)
            intro W' E
            refine bodyPost_ret (results_ct rfl _ _ g2 25 Z7 (0, 0) _ rfl E.h2 Tryd.underlying25 rfl rfl) rfl ?_
            exact ⟨fun h => absurd h NO.out, fun _ => DecOut.zero E.b⟩
        · obtain ⟨m, rfl⟩ : ∃ m, nn = m + 1 := ⟨nn - 1, by omega⟩
          have he : (tx r).toList.isEmpty = false := list_ne (by rw [tx_size]; have := HRl.out; omega)
          go_wp2_with fail
          refine (cut_ds D_.out 16 (by have := HRl.out; omega)).mono ?_
          rintro e w10 ⟨rfl, D10⟩
          clear t4 f4 m0 n0 m1 n1 m2 n2 m3 n3 m4 n4 m5 n5 m6 n6
          obtain ⟨x, X_⟩ : ∃ x, x = tx (r.take 16) := ⟨_, rfl⟩
          have hlx : (r.take 16).length = 16 := by rw [List.length_take]; have := HRl.out; omega
          have hxe : x.toList = r.take 16 := by rw [X_, ByteArray.toList_eq, tx_list]
          have D_2 := Lib.hid D10
          have X2 := Lib.hid X_
          rw [← X_]
          obtain ⟨ra, hr'⟩ : ∃ r', r' = r.drop 16 := ⟨_, rfl⟩
          have HRa := Lib.hid (show ra.length = 223 + 239 * m by rw [hr', List.length_drop]; have := HRl.out; omega)
          rw [← hr'] at D10 D_2
          have RA := Lib.hid hr'
          clear X_ hr' D_ he h0
          have t4 : w10.cell? ⟨g4, 0, none⟩ = some (.string (tx ra)) := D10.h4.cell 0
          have f4 := D10.h4.frozen 0
          have m0 : w10.cell? ⟨g5, 0, none⟩ = some (.int .i64 kd) := D10.h5.cell 0
          have n0 := D10.h5.frozen 0
          have m1 : w10.cell? ⟨g5, 1, none⟩ = some (.int .i64 u) := D10.h5.cell 1
          have n1 := D10.h5.frozen 1
          have m2 : w10.cell? ⟨g5, 2, none⟩ = some (.int .i64 q) := D10.h5.cell 2
          have n2 := D10.h5.frozen 2
          have m3 : w10.cell? ⟨g5, 3, none⟩ = some (.string ⟨#[]⟩) := D10.h5.cell 3
          have n3 := D10.h5.frozen 3
          have m4 : w10.cell? ⟨g5, 4, none⟩ = some (.string ⟨#[]⟩) := D10.h5.cell 4
          have n4 := D10.h5.frozen 4
          have m5 : w10.cell? ⟨g5, 5, none⟩ = some (vs) := D10.h5.cell 5
          have n5 := D10.h5.frozen 5
          have m6 : w10.cell? ⟨g5, 6, none⟩ = some (.slice none 0 0) := D10.h5.cell 6
          have n6 := D10.h5.frozen 6
          clear D10
          by_cases hz : r.take 16 = noIdL
          · have z1 : (x.toList == [0, 0, 0, 0, 0, 0, 0, 0, 0, 0, 0, 0, 0, 0, 0, 0]) = true := beq_iff_eq.mpr (hxe.trans hz)
            have HID := Lib.hid (show idT (r.take 16) = ⟨#[]⟩ from if_pos hz)
            clear hz hxe hlx
            go_wp2_with fail
            refine (cut_ds D_2.out 1 (by have := HRa.out; omega)).mono ?_
            rintro e w11 ⟨rfl, D11⟩
            clear t4 f4 m0 n0 m1 n1 m2 n2 m3 n3 m4 n4 m5 n5 m6 n6
            obtain ⟨y, Y_⟩ : ∃ y, y = tx (ra.take 1) := ⟨_, rfl⟩
            obtain ⟨rb, RB_⟩ : ∃ r, r = ra.drop 1 := ⟨_, rfl⟩
            obtain ⟨nb, NB_⟩ : ∃ n, wrap64 (bt y 0) = n := ⟨_, rfl⟩
            have qy : 0 < y.size := by rw [Y_, tx_size, List.length_take]; have := HRa.out; omega
            have hy1 := bt_at' y
            have qyi : (0 < (y.size : Int)) = True := eq_true (by omega)
            have qy' : (0 < y.size) = True := eq_true qy
            have HRb := Lib.hid (show rb.length = 222 + 239 * m by rw [RB_, List.length_drop]; have := HRa.out; omega)
            rw [← RB_] at D11
            rw [← Y_]
            have Y := Lib.hid Y_
            have RB := Lib.hid RB_
            have D_3 := Lib.hid D11
            clear Y_ RB_ D_2
            have t4 : w11.cell? ⟨g4, 0, none⟩ = some (.string (tx rb)) := D11.h4.cell 0
            have f4 := D11.h4.frozen 0
            have m0 : w11.cell? ⟨g5, 0, none⟩ = some (.int .i64 kd) := D11.h5.cell 0
            have n0 := D11.h5.frozen 0
            have m1 : w11.cell? ⟨g5, 1, none⟩ = some (.int .i64 u) := D11.h5.cell 1
            have n1 := D11.h5.frozen 1
            have m2 : w11.cell? ⟨g5, 2, none⟩ = some (.int .i64 q) := D11.h5.cell 2
            have n2 := D11.h5.frozen 2
            have m3 : w11.cell? ⟨g5, 3, none⟩ = some (.string ⟨#[]⟩) := D11.h5.cell 3
            have n3 := D11.h5.frozen 3
            have m4 : w11.cell? ⟨g5, 4, none⟩ = some (.string ⟨#[]⟩) := D11.h5.cell 4
            have n4 := D11.h5.frozen 4
            have m5 : w11.cell? ⟨g5, 5, none⟩ = some (vs) := D11.h5.cell 5
            have n5 := D11.h5.frozen 5
            have m6 : w11.cell? ⟨g5, 6, none⟩ = some (.slice none 0 0) := D11.h5.cell 6
            have n6 := D11.h5.frozen 6
            clear D11
            go_wp2_with fail
            refine (cut_ds D_3.out 222 (by have := HRb.out; omega)).mono ?_
            rintro e w12 ⟨rfl, D12⟩
            clear t4 f4 m0 n0 m1 n1 m2 n2 m3 n3 m4 n4 m5 n5 m6 n6
            obtain ⟨z, Z_⟩ : ∃ z, z = tx (rb.take 222) := ⟨_, rfl⟩
            obtain ⟨rc, RC_⟩ : ∃ r, r = rb.drop 222 := ⟨_, rfl⟩
            obtain ⟨mn, MN_⟩ : ∃ n, (if (222 : Int) < nb then 222 else nb) = n := ⟨_, rfl⟩
            have hmT : mnT ra = mn := by rw [← MN_, ← NB_, Y.out]; rfl
            have b1 : 0 ≤ mn := by rw [← hmT]; exact (mnT_bd ra).1
            have hzs : z.size = 222 := by rw [Z_, tx_size, List.length_take]; have := HRb.out; omega
            have b2 : mn ≤ (z.size : Int) := by rw [hzs, ← hmT]; exact (mnT_bd ra).2
            have HRc := Lib.hid (show rc.length = 239 * m by rw [RC_, List.length_drop]; have := HRb.out; omega)
            rw [← RC_] at D12
            rw [← Z_]
            have HSl := Lib.hid (show slotT r = (⟨⟨#[]⟩, z.extract 0 mn.toNat⟩ : S68) by unfold slotT; rw [HID.out, ← RA.out, ← RB.out, ← Z_, hmT])
            have HDm := Lib.hid (show dSlots m rc (ls ++ [(⟨⟨#[]⟩, z.extract 0 mn.toNat⟩ : S68)]) = dSlots N r3 [] by rw [← HSl.out, RC_, RB.out, RA.out]; exact HDl.out)
            have D_4 := Lib.hid D12
            clear Z_ RC_ D_3 hmT hzs HDl HRl
            have m5 : w12.cell? ⟨g5, 5, none⟩ = some vs := D12.h5.cell 5
            have n5 := D12.h5.frozen 5
            clear D12
            go_upto_region 23 with fail
            refine start_ (n := 12) (S := fun w' => w'.cell? ⟨g5, 5, none⟩ = some vs) (ds := [11]) #[false, false, false, false, false, false, false, false, false, false, false, false] (by kernel_rfl) rfl rfl m5 (fun hHeld => ?_)
            refine with_tabW decS.tab decS.bits (fun HT_ HW_ => ?_)
            refine pure_ (i := 0) (N := some 73) (v := ?_) (a' := ?_) #[true, false, false, false, false, false, false, false, false, false, false, false] rfl rfl (any_of HT_.out (by kernel_rfl)) (fun _ _ _ h => h) (Or.inl ⟨by rfl, ?_⟩) ?_ ?_
            rotate_left
            · intro w'
              go_simp
              try with_reducible rfl
            rotate_left
            · simp only [Act.put, List.setIfInBounds_toArray, List.set_cons_zero, List.set_cons_succ]
              rfl
            refine pure_ (i := 2) (N := some 75) (v := ?_) (a' := ?_) #[true, false, true, false, false, false, false, false, false, false, false, false] rfl rfl (any_of HT_.out (by kernel_rfl)) (fun _ _ _ h => h) (Or.inl ⟨by rfl, ?_⟩) ?_ ?_
            rotate_left
            · intro w'
              go_simp
              try with_reducible rfl
            rotate_left
            · simp only [Act.put, List.setIfInBounds_toArray, List.set_cons_zero, List.set_cons_succ]
              rfl
            refine pure_ (i := 3) (N := some 76) (v := ?_) (a' := ?_) #[true, false, true, true, false, false, false, false, false, false, false, false] rfl rfl (any_of HT_.out (by kernel_rfl)) (fun _ _ _ h => h) (Or.inl ⟨by rfl, ?_⟩) ?_ ?_
            rotate_left
            · intro w'
              go_simp
              try with_reducible rfl
            rotate_left
            · simp only [Act.put, List.setIfInBounds_toArray, List.set_cons_zero, List.set_cons_succ]
              rfl
            refine pure_ (i := 4) (N := some 77) (v := ?_) (a' := ?_) #[true, false, true, true, true, false, false, false, false, false, false, false] rfl rfl (any_of HT_.out (by kernel_rfl)) (fun _ _ _ h => h) (Or.inl ⟨by rfl, ?_⟩) ?_ ?_
            rotate_left
            · intro w'
              go_simp
              try with_reducible rfl
            rotate_left
            · simp only [Act.put, List.setIfInBounds_toArray, List.set_cons_zero, List.set_cons_succ]
              rfl
            refine pure_ (i := 5) (N := some 78) (v := ?_) (a' := ?_) #[true, false, true, true, true, true, false, false, false, false, false, false] rfl rfl (any_of HT_.out (by kernel_rfl)) (fun _ _ _ h => h) (Or.inl ⟨by rfl, ?_⟩) ?_ ?_
            rotate_left
            · intro w'
              go_simp
              try with_reducible rfl
            rotate_left
            · simp only [Act.put, List.setIfInBounds_toArray, List.set_cons_zero, List.set_cons_succ]
              rfl
            refine pure_ (i := 6) (N := some 79) (v := ?_) (a' := ?_) #[true, false, true, true, true, true, true, false, false, false, false, false] rfl rfl (any_of HT_.out (by kernel_rfl)) (fun _ _ _ h => h) (Or.inl ⟨by rfl, ?_⟩) ?_ ?_
            rotate_left
            · intro w'
              go_simp
              try with_reducible rfl
            rotate_left
            · simp only [Act.put, List.setIfInBounds_toArray, List.set_cons_zero, List.set_cons_succ]
              rfl
            refine pure_ (i := 7) (N := some 80) (v := ?_) (a' := ?_) #[true, false, true, true, true, true, true, true, false, false, false, false] rfl rfl (any_of HT_.out (by kernel_rfl)) (fun _ _ _ h => h) (Or.inl ⟨by rfl, ?_⟩) ?_ ?_
            rotate_left
            · intro w'
              go_simp
              try with_reducible rfl
            rotate_left
            · simp only [Act.put, List.setIfInBounds_toArray, List.set_cons_zero, List.set_cons_succ]
              rfl
            refine take_ (i := 1) (N := some 74) (v := ?_) (a' := ?_) #[true, true, true, true, true, true, true, true, false, false, false, false] rfl rfl (take_ofW HT_.out HW_.out (by kernel_rfl)) (fun _ _ _ h => h) (Or.inl ⟨by rfl, ?_⟩) hHeld ?_ ?_
            rotate_left
            · rintro w' s0
              go_simp
              try with_reducible rfl
            rotate_left
            · simp only [Act.put, List.setIfInBounds_toArray, List.set_cons_zero, List.set_cons_succ]
              rfl
            refine one_ (i := 8) (N := some 81) #[true, true, true, true, true, true, true, true, true, false, false, false] rfl rfl (one_of HT_.out (by kernel_rfl)) (by decide) (fun K hK => ?_)
            refine value_ (w1 := ?_) (v := ?_) (by rfl) rfl ?_ ?_
            rotate_left 2
            · go_simp
              constructor
              · rfl
              · rfl
            refine hK.out _ _ (((D_4.out.drew.alloc _).h5.cell 5)) (fun hHeld => ?_)
            clear hK K
            refine norm_ (a' := ?_) ?_ ?_
            rotate_left
            · show Act.put _ (some 81) _ = _
              simp only [Act.put, List.setIfInBounds_toArray, List.set_cons_zero, List.set_cons_succ]
              rfl
            refine one_ (i := 9) (N := some 82) #[true, true, true, true, true, true, true, true, true, true, false, false] rfl rfl (one_of HT_.out (by kernel_rfl)) (by decide) (fun K hK => ?_)
            rw [alloc_drew w12]
            refine Kd.R_append_step k68 (w0 := w) w.heap.size (by rfl) (.tmp 74) (.tmp 81) 22 68 (.agg #[(.string ⟨#[]⟩), (.string ⟨#[]⟩)]) 32 rfl Tryd.underlying22 info68 rfl (by decide) (by omega) vs ls (⟨⟨#[]⟩, z.extract 0 mn.toNat⟩ : S68) [.string ⟨#[]⟩, .string (z.extract 0 mn.toNat)] (fun _ => True) (fun _ => False) rfl rfl ?aP5 (fun _ hk => hk.elim) ?aF5 ?aO5 ?aB5 ?aS5 ?aL5 ?_
            (case aP5 => exact k68_mkM _ _ _ _)
            (case aF5 => exact (fun _ _ => trivial))
            (case aO5 => exact D_4.out.drew.rs)
            (case aB5 => exact D_4.out.drew.b)
            (case aS5 => exact D_4.out.drew.b.size)
            (case aL5 => have := HLl.out; have := HN4.out; omega)
            intro v1 w14 ho hb hg hat
            obtain ⟨A1, cp1, e1⟩ := Kd.R_slice ho
            rw [List.length_append, List.length_singleton] at e1
            subst e1
            have D14 := Lib.hid (D_4.out.drew.appS ho hb hg)
            clear ho hb hg hat m5 n5
            have m5 : w14.cell? ⟨g5, 5, none⟩ = some vs := D14.out.h5.cell 5
            have n5 := D14.out.h5.frozen 5
            refine hK.out _ _ (m5) (fun hHeld => ?_)
            clear hK K
            refine norm_ (a' := ?_) ?_ ?_
            rotate_left
            · show Act.put _ (some 82) _ = _
              simp only [Act.put, List.setIfInBounds_toArray, List.set_cons_zero, List.set_cons_succ]
              rfl
            refine pure_ (i := 10) (N := some 83) (v := ?_) (a' := ?_) #[true, true, true, true, true, true, true, true, true, true, true, false] rfl rfl (any_of HT_.out (by kernel_rfl)) (fun _ _ _ h => h) (Or.inl ⟨by rfl, ?_⟩) ?_ ?_
            rotate_left
            · intro w'
              go_simp
              try with_reducible rfl
            rotate_left
            · simp only [Act.put, List.setIfInBounds_toArray, List.set_cons_zero, List.set_cons_succ]
              rfl
            refine last_ (i := 11) (N := none) #[true, true, true, true, true, true, true, true, true, true, true, true] rfl rfl (one_of HT_.out (by kernel_rfl)) (by decide) (fun K hK => ?_)
            refine skip_ (w1 := ?_) (by rfl) rfl ?_ ?_
            rotate_left
            · go_simp
              try rfl
            refine hK.out _ _ ?_
            clear hK K
            refine done_ (done_of HT_.out (by kernel_rfl)) ?_
            clear HT_ HW_
            go_wp2_with fail
            go_roundg (m + 1)
            case measure => omega
            case rel => exact ⟨m, rc, _, ls ++ [(⟨⟨#[]⟩, z.extract 0 mn.toNat⟩ : S68)], rfl, by omega, HRc, HDm, Lib.hid (by rw [List.length_append]; have := HLl.out; show ls.length + 1 + m ≤ N; omega), Lib.hid (D14.out.put 5 _)⟩
          · have z1 : (x.toList == [0, 0, 0, 0, 0, 0, 0, 0, 0, 0, 0, 0, 0, 0, 0, 0]) = false := beq_eq_false_iff_ne.mpr (fun h => hz (hxe.symm.trans h))
            have HID := Lib.hid (show idT (r.take 16) = x from (if_neg hz).trans X2.out.symm)
            clear hz hxe hlx
            go_wp2_with fail
            refine (cut_ds D_2.out 1 (by have := HRa.out; omega)).mono ?_
            rintro e w11 ⟨rfl, D11⟩
            clear t4 f4 m0 n0 m1 n1 m2 n2 m3 n3 m4 n4 m5 n5 m6 n6
            obtain ⟨y, Y_⟩ : ∃ y, y = tx (ra.take 1) := ⟨_, rfl⟩
            obtain ⟨rb, RB_⟩ : ∃ r, r = ra.drop 1 := ⟨_, rfl⟩
            obtain ⟨nb, NB_⟩ : ∃ n, wrap64 (bt y 0) = n := ⟨_, rfl⟩
            have qy : 0 < y.size := by rw [Y_, tx_size, List.length_take]; have := HRa.out; omega
            have hy1 := bt_at' y
            have qyi : (0 < (y.size : Int)) = True := eq_true (by omega)
            have qy' : (0 < y.size) = True := eq_true qy
            have HRb := Lib.hid (show rb.length = 222 + 239 * m by rw [RB_, List.length_drop]; have := HRa.out; omega)
            rw [← RB_] at D11
            rw [← Y_]
            have Y := Lib.hid Y_
            have RB := Lib.hid RB_
            have D_3 := Lib.hid D11
            clear Y_ RB_ D_2
            have t4 : w11.cell? ⟨g4, 0, none⟩ = some (.string (tx rb)) := D11.h4.cell 0
            have f4 := D11.h4.frozen 0
            have m0 : w11.cell? ⟨g5, 0, none⟩ = some (.int .i64 kd) := D11.h5.cell 0
            have n0 := D11.h5.frozen 0
            have m1 : w11.cell? ⟨g5, 1, none⟩ = some (.int .i64 u) := D11.h5.cell 1
            have n1 := D11.h5.frozen 1
            have m2 : w11.cell? ⟨g5, 2, none⟩ = some (.int .i64 q) := D11.h5.cell 2
            have n2 := D11.h5.frozen 2
            have m3 : w11.cell? ⟨g5, 3, none⟩ = some (.string ⟨#[]⟩) := D11.h5.cell 3
            have n3 := D11.h5.frozen 3
            have m4 : w11.cell? ⟨g5, 4, none⟩ = some (.string ⟨#[]⟩) := D11.h5.cell 4
            have n4 := D11.h5.frozen 4
            have m5 : w11.cell? ⟨g5, 5, none⟩ = some (vs) := D11.h5.cell 5
            have n5 := D11.h5.frozen 5
            have m6 : w11.cell? ⟨g5, 6, none⟩ = some (.slice none 0 0) := D11.h5.cell 6
            have n6 := D11.h5.frozen 6
            clear D11
            go_wp2_with fail
            refine (cut_ds D_3.out 222 (by have := HRb.out; omega)).mono ?_
            rintro e w12 ⟨rfl, D12⟩
            clear t4 f4 m0 n0 m1 n1 m2 n2 m3 n3 m4 n4 m5 n5 m6 n6
            obtain ⟨z, Z_⟩ : ∃ z, z = tx (rb.take 222) := ⟨_, rfl⟩
            obtain ⟨rc, RC_⟩ : ∃ r, r = rb.drop 222 := ⟨_, rfl⟩
            obtain ⟨mn, MN_⟩ : ∃ n, (if (222 : Int) < nb then 222 else nb) = n := ⟨_, rfl⟩
            have hmT : mnT ra = mn := by rw [← MN_, ← NB_, Y.out]; rfl
            have b1 : 0 ≤ mn := by rw [← hmT]; exact (mnT_bd ra).1
            have hzs : z.size = 222 := by rw [Z_, tx_size, List.length_take]; have := HRb.out; omega
            have b2 : mn ≤ (z.size : Int) := by rw [hzs, ← hmT]; exact (mnT_bd ra).2
            have HRc := Lib.hid (show rc.length = 239 * m by rw [RC_, List.length_drop]; have := HRb.out; omega)
            rw [← RC_] at D12
            rw [← Z_]
            have HSl := Lib.hid (show slotT r = (⟨x, z.extract 0 mn.toNat⟩ : S68) by unfold slotT; rw [HID.out, ← RA.out, ← RB.out, ← Z_, hmT])
            have HDm := Lib.hid (show dSlots m rc (ls ++ [(⟨x, z.extract 0 mn.toNat⟩ : S68)]) = dSlots N r3 [] by rw [← HSl.out, RC_, RB.out, RA.out]; exact HDl.out)
            have D_4 := Lib.hid D12
            clear Z_ RC_ D_3 hmT hzs HDl HRl
            have m5 : w12.cell? ⟨g5, 5, none⟩ = some vs := D12.h5.cell 5
            have n5 := D12.h5.frozen 5
            clear D12
            go_upto_region 23 with fail
            refine start_ (n := 12) (S := fun w' => w'.cell? ⟨g5, 5, none⟩ = some vs) (ds := [11]) #[false, false, false, false, false, false, false, false, false, false, false, false] (by kernel_rfl) rfl rfl m5 (fun hHeld => ?_)
            refine with_tabW decS.tab decS.bits (fun HT_ HW_ => ?_)
            refine pure_ (i := 0) (N := some 73) (v := ?_) (a' := ?_) #[true, false, false, false, false, false, false, false, false, false, false, false] rfl rfl (any_of HT_.out (by kernel_rfl)) (fun _ _ _ h => h) (Or.inl ⟨by rfl, ?_⟩) ?_ ?_
            rotate_left
            · intro w'
              go_simp
              try with_reducible rfl
            rotate_left
            · simp only [Act.put, List.setIfInBounds_toArray, List.set_cons_zero, List.set_cons_succ]
              rfl
            refine pure_ (i := 2) (N := some 75) (v := ?_) (a' := ?_) #[true, false, true, false, false, false, false, false, false, false, false, false] rfl rfl (any_of HT_.out (by kernel_rfl)) (fun _ _ _ h => h) (Or.inl ⟨by rfl, ?_⟩) ?_ ?_
            rotate_left
            · intro w'
              go_simp
              try with_reducible rfl
            rotate_left
            · simp only [Act.put, List.setIfInBounds_toArray, List.set_cons_zero, List.set_cons_succ]
              rfl
            refine pure_ (i := 3) (N := some 76) (v := ?_) (a' := ?_) #[true, false, true, true, false, false, false, false, false, false, false, false] rfl rfl (any_of HT_.out (by kernel_rfl)) (fun _ _ _ h => h) (Or.inl ⟨by rfl, ?_⟩) ?_ ?_
            rotate_left
            · intro w'
              go_simp
              try with_reducible rfl
            rotate_left
            · simp only [Act.put, List.setIfInBounds_toArray, List.set_cons_zero, List.set_cons_succ]
              rfl
            refine pure_ (i := 4) (N := some 77) (v := ?_) (a' := ?_) #[true, false, true, true, true, false, false, false, false, false, false, false] rfl rfl (any_of HT_.out (by kernel_rfl)) (fun _ _ _ h => h) (Or.inl ⟨by rfl, ?_⟩) ?_ ?_
            rotate_left
            · intro w'
              go_simp
              try with_reducible rfl
            rotate_left
            · simp only [Act.put, List.setIfInBounds_toArray, List.set_cons_zero, List.set_cons_succ]
              rfl
            refine pure_ (i := 5) (N := some 78) (v := ?_) (a' := ?_) #[true, false, true, true, true, true, false, false, false, false, false, false] rfl rfl (any_of HT_.out (by kernel_rfl)) (fun _ _ _ h => h) (Or.inl ⟨by rfl, ?_⟩) ?_ ?_
            rotate_left
            · intro w'
              go_simp
              try with_reducible rfl
            rotate_left
            · simp only [Act.put, List.setIfInBounds_toArray, List.set_cons_zero, List.set_cons_succ]
              rfl
            refine pure_ (i := 6) (N := some 79) (v := ?_) (a' := ?_) #[true, false, true, true, true, true, true, false, false, false, false, false] rfl rfl (any_of HT_.out (by kernel_rfl)) (fun _ _ _ h => h) (Or.inl ⟨by rfl, ?_⟩) ?_ ?_
            rotate_left
            · intro w'
              go_simp
              try with_reducible rfl
            rotate_left
            · simp only [Act.put, List.setIfInBounds_toArray, List.set_cons_zero, List.set_cons_succ]
              rfl
            refine pure_ (i := 7) (N := some 80) (v := ?_) (a' := ?_) #[true, false, true, true, true, true, true, true, false, false, false, false] rfl rfl (any_of HT_.out (by kernel_rfl)) (fun _ _ _ h => h) (Or.inl ⟨by rfl, ?_⟩) ?_ ?_
            rotate_left
            · intro w'
              go_simp
              try with_reducible rfl
            rotate_left
            · simp only [Act.put, List.setIfInBounds_toArray, List.set_cons_zero, List.set_cons_succ]
              rfl
            refine take_ (i := 1) (N := some 74) (v := ?_) (a' := ?_) #[true, true, true, true, true, true, true, true, false, false, false, false] rfl rfl (take_ofW HT_.out HW_.out (by kernel_rfl)) (fun _ _ _ h => h) (Or.inl ⟨by rfl, ?_⟩) hHeld ?_ ?_
            rotate_left
            · rintro w' s0
              go_simp
              try with_reducible rfl
            rotate_left
            · simp only [Act.put, List.setIfInBounds_toArray, List.set_cons_zero, List.set_cons_succ]
              rfl
            refine one_ (i := 8) (N := some 81) #[true, true, true, true, true, true, true, true, true, false, false, false] rfl rfl (one_of HT_.out (by kernel_rfl)) (by decide) (fun K hK => ?_)
            refine value_ (w1 := ?_) (v := ?_) (by rfl) rfl ?_ ?_
            rotate_left 2
            · go_simp
              constructor
              · rfl
              · rfl
            refine hK.out _ _ (((D_4.out.drew.alloc _).h5.cell 5)) (fun hHeld => ?_)
            clear hK K
            refine norm_ (a' := ?_) ?_ ?_
            rotate_left
            · show Act.put _ (some 81) _ = _
              simp only [Act.put, List.setIfInBounds_toArray, List.set_cons_zero, List.set_cons_succ]
              rfl
            refine one_ (i := 9) (N := some 82) #[true, true, true, true, true, true, true, true, true, true, false, false] rfl rfl (one_of HT_.out (by kernel_rfl)) (by decide) (fun K hK => ?_)
            rw [alloc_drew w12]
            refine Kd.R_append_step k68 (w0 := w) w.heap.size (by rfl) (.tmp 74) (.tmp 81) 22 68 (.agg #[(.string ⟨#[]⟩), (.string ⟨#[]⟩)]) 32 rfl Tryd.underlying22 info68 rfl (by decide) (by omega) vs ls (⟨x, z.extract 0 mn.toNat⟩ : S68) [.string x, .string (z.extract 0 mn.toNat)] (fun _ => True) (fun _ => False) rfl rfl ?aP1 (fun _ hk => hk.elim) ?aF1 ?aO1 ?aB1 ?aS1 ?aL1 ?_
            (case aP1 => exact k68_mkM _ _ _ _)
            (case aF1 => exact (fun _ _ => trivial))
            (case aO1 => exact D_4.out.drew.rs)
            (case aB1 => exact D_4.out.drew.b)
            (case aS1 => exact D_4.out.drew.b.size)
            (case aL1 => have := HLl.out; have := HN4.out; omega)
            intro v1 w14 ho hb hg hat
            obtain ⟨A1, cp1, e1⟩ := Kd.R_slice ho
            rw [List.length_append, List.length_singleton] at e1
            subst e1
            have D14 := Lib.hid (D_4.out.drew.appS ho hb hg)
            clear ho hb hg hat m5 n5
            have m5 : w14.cell? ⟨g5, 5, none⟩ = some vs := D14.out.h5.cell 5
            have n5 := D14.out.h5.frozen 5
            refine hK.out _ _ (m5) (fun hHeld => ?_)
            clear hK K
            refine norm_ (a' := ?_) ?_ ?_
            rotate_left
            · show Act.put _ (some 82) _ = _
              simp only [Act.put, List.setIfInBounds_toArray, List.set_cons_zero, List.set_cons_succ]
              rfl
            refine pure_ (i := 10) (N := some 83) (v := ?_) (a' := ?_) #[true, true, true, true, true, true, true, true, true, true, true, false] rfl rfl (any_of HT_.out (by kernel_rfl)) (fun _ _ _ h => h) (Or.inl ⟨by rfl, ?_⟩) ?_ ?_
            rotate_left
            · intro w'
              go_simp
              try with_reducible rfl
            rotate_left
            · simp only [Act.put, List.setIfInBounds_toArray, List.set_cons_zero, List.set_cons_succ]
              rfl
            refine last_ (i := 11) (N := none) #[true, true, true, true, true, true, true, true, true, true, true, true] rfl rfl (one_of HT_.out (by kernel_rfl)) (by decide) (fun K hK => ?_)
            refine skip_ (w1 := ?_) (by rfl) rfl ?_ ?_
            rotate_left
            · go_simp
              try rfl
            refine hK.out _ _ ?_
            clear hK K
            refine done_ (done_of HT_.out (by kernel_rfl)) ?_
            clear HT_ HW_
            go_wp2_with fail
            go_roundg (m + 1)
            case measure => omega
            case rel => exact ⟨m, rc, _, ls ++ [(⟨x, z.extract 0 mn.toNat⟩ : S68)], rfl, by omega, HRc, HDm, Lib.hid (by rw [List.length_append]; have := HLl.out; show ls.length + 1 + m ≤ N; omega), Lib.hid (D14.out.put 5 _)⟩
end Go.Proofs.YtjmgkjjcdnaapaaDoor
namespace Go.Proofs.YtjmgkjjcdnaapaaDoor
open Go.RowKit Go.Proofs.YtjmgkjjcdnaapaaDoor.PMailA Go.Proofs.YtjmgkjjcdnaapaaDoorW.PrintWords Go.Proofs.YtjmgkjjcdnaapaaDoorW.PrintLast
set_option linter.unusedSimpArgs false
set_option linter.unusedVariables false
set_option maxRecDepth 100000
abbrev DecR : Type := Int × Int × Int × ByteArray × ByteArray × (List (S68)) × List ByteArray × Int
def zeroR : DecR := (0, 0, 0, (⟨#[]⟩ : ByteArray), (⟨#[]⟩ : ByteArray), [], [], 110)
def decTail (k : Nat) (a0 : ByteArray) (kd : Int) (tag : ByteArray) (ls : List S68) (li : List ByteArray) : Option DecR :=
  (mail_Encode.f k kd (uL a0.data.toList) (qL a0.data.toList) ⟨#[]⟩ tag ls li).bind fun x =>
    if x.2 = 0 ∧ x.1.toList = a0.toList then some (kd, uL a0.data.toList, qL a0.data.toList, ⟨#[]⟩, tag, ls, li, 0) else some zeroR
def decKind (k : Nat) (a0 : ByteArray) (kd : Int) : Option DecR :=
  if kd = 1 then some (kd, 0, 0, tx (a0.data.toList.drop 1), ⟨#[]⟩, [], [], 0)
  else if kd = 3 then decTail k a0 kd ⟨#[]⟩ (dSlots 4 (r3L a0.data.toList) []) []
  else if kd = 4 then decTail k a0 kd (tx ((r3L a0.data.toList).take 32)) [] (dIds 4 ((r3L a0.data.toList).drop 32) [])
  else decTail k a0 kd (tx ((r3L a0.data.toList).take 32)) [] (dIds 0 ((r3L a0.data.toList).drop 32) [])
def mail_Decode.f (k : Nat) (a0 : ByteArray) : Option (Int × Int × Int × ByteArray × ByteArray × (List (S68)) × List ByteArray × Int) :=
  if a0.size = 0 then some zeroR
  else (mail_Long.f (wrap64 (bt a0 0))).bind fun n => if (a0.size : Int) = n then decKind k a0 (wrap64 (bt a0 0)) else some zeroR
theorem long_cases {kd n : Int} (h : mail_Long.f kd = some n) (hn : 0 < n) : (kd = 1 ∧ n = 505) ∨ (kd = 2 ∧ n = 38) ∨ (kd = 3 ∧ n = 962) ∨ (kd = 4 ∧ n = 102) := by
  unfold mail_Long.f at h
  repeat' split at h
  all_goals (simp only [Option.some.injEq] at h; subst h; simp_all)
theorem decTail_some {k : Nat} {a0 : ByteArray} {kd : Int} {tag : ByteArray} {ls : List S68} {li : List ByteArray} {r : DecR} (h : decTail k a0 kd tag ls li = some r) :
    ∃ t e0, mail_Encode.f k kd (uL a0.data.toList) (qL a0.data.toList) ⟨#[]⟩ tag ls li = some (t, e0) ∧
      ((e0 = 0 ∧ t.toList = a0.toList) ∧ r = (kd, uL a0.data.toList, qL a0.data.toList, ⟨#[]⟩, tag, ls, li, 0) ∨ ¬ (e0 = 0 ∧ t.toList = a0.toList) ∧ r = zeroR) := by
  unfold decTail at h
  obtain ⟨⟨t, e0⟩, hx, h⟩ := Option.bind_eq_some_iff.mp h
  refine ⟨t, e0, hx, ?_⟩
  by_cases hc : e0 = 0 ∧ t.toList = a0.toList
  · rw [if_pos hc] at h; exact Or.inl ⟨hc, (Option.some.inj h).symm⟩
  · rw [if_neg hc] at h; exact Or.inr ⟨hc, (Option.some.inj h).symm⟩
theorem mail_Decode.calls (k : Nat) (a0 : ByteArray) (r1 : Int) (r2 : Int) (r3 : Int) (r4 : ByteArray) (r5 : ByteArray) (r6 : List (S68)) (r7 : List ByteArray) (r8 : Int) (w : World) (h : mail_Decode.f k a0 = some (r1, r2, r3, r4, r5, r6, r7, r8)) :
    Calls Tryd.prog 24 #[.string a0] w fun e w' => ∃ v5_ v6_ : Value, e = .returned (.tuple #[.agg #[.int .i64 r1, .int .i64 r2, .int .i64 r3, .string r4, .string r5, v5_, v6_], .int .i64 r8]) ∧ Kd.R k68 68 w' w.heap.size (fun _ => True) v5_ r6 ∧ Kd.R Kd.string 9 w' w.heap.size (fun _ => True) v6_ r7 ∧ Below w.heap.size w w' := by
  unfold mail_Decode.f at h
  split at h
  · rename_i h0
    simp only [zeroR, Option.some.injEq, Prod.mk.injEq] at h
    obtain ⟨rfl, rfl, rfl, rfl, rfl, rfl, rfl, rfl⟩ := h
    refine (dec_none a0 w (by rw [ByteArray.toList_eq]; exact List.eq_nil_of_length_eq_zero (by rw [Array.length_toList]; exact h0))).mono ?_
    rintro e w' ⟨rfl, hb⟩
    exact DecOut.zero hb
  · rename_i h0
    have q : 0 < a0.size := by omega
    obtain ⟨n, hn, h⟩ := Option.bind_eq_some_iff.mp h
    split at h
    · rename_i h1
      have hlen : a0.data.toList.length = a0.size := Array.length_toList
      have hr3 : (r3L a0.data.toList).length = a0.size - 6 := by unfold r3L; simp only [List.length_drop]; omega
      have fin : ∀ {tag ls li t e0 e w'}, ((e0 = 0 ∧ t.toList = a0.toList → DecOut w (wrap64 (bt a0 0)) (uL a0.data.toList) (qL a0.data.toList) ⟨#[]⟩ tag ls li 0 e w') ∧ (¬ (e0 = 0 ∧ t.toList = a0.toList) → DecOut w 0 0 0 ⟨#[]⟩ ⟨#[]⟩ [] [] 110 e w')) →
          ((e0 = 0 ∧ t.toList = a0.toList) ∧ ((r1, r2, r3, r4, r5, r6, r7, r8) : DecR) = (wrap64 (bt a0 0), uL a0.data.toList, qL a0.data.toList, ⟨#[]⟩, tag, ls, li, 0) ∨ ¬ (e0 = (0 : Int) ∧ ByteArray.toList t = a0.toList) ∧ ((r1, r2, r3, r4, r5, r6, r7, r8) : DecR) = zeroR) → DecOut w r1 r2 r3 r4 r5 r6 r7 r8 e w' := by
        intro tag ls li t e0 e w' hd hc
        rcases hc with ⟨hc, he⟩ | ⟨hc, he⟩
        · simp only [Prod.mk.injEq] at he
          obtain ⟨rfl, rfl, rfl, rfl, rfl, rfl, rfl, rfl⟩ := he
          exact hd.1 hc
        · simp only [zeroR, Prod.mk.injEq] at he
          obtain ⟨rfl, rfl, rfl, rfl, rfl, rfl, rfl, rfl⟩ := he
          exact hd.2 hc
      unfold decKind at h
      rcases long_cases hn (by omega) with ⟨hk, hn2⟩ | ⟨hk, hn2⟩ | ⟨hk, hn2⟩ | ⟨hk, hn2⟩
      · rw [if_pos hk] at h
        simp only [Option.some.injEq, Prod.mk.injEq] at h
        obtain ⟨rfl, rfl, rfl, rfl, rfl, rfl, rfl, rfl⟩ := h
        refine (dec_pac a0 n _ w q rfl hn h1 hk).mono ?_
        rintro e w' ⟨rfl, hb⟩
        exact ⟨_, _, rfl, Kd.R_nil _ _ _ _ _, Kd.R_nil _ _ _ _ _, hb⟩
      · rw [if_neg (by omega), if_neg (by omega), if_neg (by omega)] at h
        obtain ⟨t, e0, hE, hc⟩ := decTail_some h
        exact (dec_ids a0 n _ w q rfl hn h1 (by omega) (by omega) (by omega) 0 k (by omega) (by omega) t e0 hE).mono fun e w' hd => fin hd hc
      · rw [if_neg (by omega), if_pos hk] at h
        obtain ⟨t, e0, hE, hc⟩ := decTail_some h
        exact (dec_slots a0 n _ w q rfl hn h1 (by omega) (by omega) hk 4 k (by omega) (by omega) t e0 hE).mono fun e w' hd => fin hd hc
      · rw [if_neg (by omega), if_neg (by omega), if_pos hk] at h
        obtain ⟨t, e0, hE, hc⟩ := decTail_some h
        exact (dec_ids a0 n _ w q rfl hn h1 (by omega) (by omega) (by omega) 4 k (by omega) (by omega) t e0 hE).mono fun e w' hd => fin hd hc
    · rename_i h1
      simp only [zeroR, Option.some.injEq, Prod.mk.injEq] at h
      obtain ⟨rfl, rfl, rfl, rfl, rfl, rfl, rfl, rfl⟩ := h
      refine (dec_long a0 _ n w q rfl hn h1).mono ?_
      rintro e w' ⟨rfl, hb⟩
      exact DecOut.zero hb
end Go.Proofs.YtjmgkjjcdnaapaaDoor
namespace Go.Proofs.YtjmgkjjcdnaapaaDoor
open Go.RowKit Go.Proofs.YtjmgkjjcdnaapaaDoor.PMailA Go.Proofs.YtjmgkjjcdnaapaaDoorW.PrintWords Go.Proofs.YtjmgkjjcdnaapaaDoorW.PrintLast
set_option linter.unusedSimpArgs false
set_option linter.unusedVariables false
set_option maxRecDepth 100000
theorem chk_pac (t : ByteArray) (h : t.size = 504) : Ev (fun k => mail_Check.f k 1 0 0 t ⟨#[]⟩ [] []) 0 := by
  refine Ev.of (fun k => mail_Check.mono _ _ _ _ _ _ _ k) (k := 2) ?_
  rw [chk_f, chk_j, mail_Check.j1]
  have e : (⟨#[]⟩ : ByteArray).toList = [] := by rw [ByteArray.toList_eq]
  simp [h, e]
theorem tail_ev (a0 : ByteArray) (kd : Int) (tag : ByteArray) (ls : List S68) (li : List ByteArray) :
    ∃ r, Ev (fun k => decTail k a0 kd tag ls li) r ∧ (r = zeroR ∨ (r.2.2.2.2.2.2.2 = 0 ∧ ∃ t, Ev (fun k => mail_Encode.f k r.1 r.2.1 r.2.2.1 r.2.2.2.1 r.2.2.2.2.1 r.2.2.2.2.2.1 r.2.2.2.2.2.2.1) (t, 0) ∧ t.toList = a0.toList)) := by
  have key : ∀ x : ByteArray × Int, Ev (fun k => mail_Encode.f k kd (uL a0.data.toList) (qL a0.data.toList) ⟨#[]⟩ tag ls li) x →
      ∃ r, Ev (fun k => decTail k a0 kd tag ls li) r ∧ (r = zeroR ∨ (r.2.2.2.2.2.2.2 = 0 ∧ ∃ t, Ev (fun k => mail_Encode.f k r.1 r.2.1 r.2.2.1 r.2.2.2.1 r.2.2.2.2.1 r.2.2.2.2.2.1 r.2.2.2.2.2.2.1) (t, 0) ∧ t.toList = a0.toList)) := by
    intro x hx
    by_cases hc : x.2 = 0 ∧ x.1.toList = a0.toList
    · refine ⟨(kd, uL a0.data.toList, qL a0.data.toList, ⟨#[]⟩, tag, ls, li, 0), ?_, Or.inr ⟨rfl, x.1, ?_, hc.2⟩⟩
      · unfold decTail
        exact Ev.bind hx (Ev.congr (f := fun _ => some _) (fun k => if_pos hc) (Ev.now _))
      · have e : x = (x.1, 0) := by rw [← hc.1]
        rw [e] at hx
        exact hx
    · refine ⟨zeroR, ?_, Or.inl rfl⟩
      unfold decTail
      exact Ev.bind hx (Ev.congr (f := fun _ => some _) (fun k => if_neg hc) (Ev.now _))
  rcases enc_any kd (uL a0.data.toList) (qL a0.data.toList) ⟨#[]⟩ tag ls li with ⟨h, _⟩ | h
  · exact key _ h
  · exact key _ h
theorem bt_mk (b : UInt8) (l : List UInt8) : bt (tx (b :: l)) 0 = n8 b := by
  unfold bt
  rw [dif_pos (by rw [tx_size]; simp)]
  rfl
theorem wrap_n8 (b : UInt8) : wrap64 (n8 b) = n8 b := by
  have := n8_bd b
  unfold wrap64
  omega
/-- what Decode gives of any text. -/
theorem dec_any (s : ByteArray) : ∃ r, Ev (fun k => mail_Decode.f k s) r ∧ (r = zeroR ∨ (r.2.2.2.2.2.2.2 = 0 ∧ ∃ t, Ev (fun k => mail_Encode.f k r.1 r.2.1 r.2.2.1 r.2.2.2.1 r.2.2.2.2.1 r.2.2.2.2.2.1 r.2.2.2.2.2.2.1) (t, 0) ∧ t.toList = s.toList)) := by
  by_cases h0 : s.size = 0
  · exact ⟨zeroR, Ev.congr (f := fun _ => some zeroR) (fun k => by unfold mail_Decode.f; rw [if_pos h0]) (Ev.now _), Or.inl rfl⟩
  · obtain ⟨n, hn⟩ : ∃ n, mail_Long.f (wrap64 (bt s 0)) = some n := by
      unfold mail_Long.f
      repeat' split
      all_goals exact ⟨_, rfl⟩
    have hD : ∀ k, mail_Decode.f k s = if (s.size : Int) = n then decKind k s (wrap64 (bt s 0)) else some zeroR := fun k => by
      unfold mail_Decode.f
      rw [if_neg h0, hn]
      rfl
    by_cases h1 : (s.size : Int) = n
    · have hD2 : ∀ k, mail_Decode.f k s = decKind k s (wrap64 (bt s 0)) := fun k => by rw [hD k, if_pos h1]
      have go : ∀ {tag ls li}, (∀ k, decKind k s (wrap64 (bt s 0)) = decTail k s (wrap64 (bt s 0)) tag ls li) → ∃ r, Ev (fun k => mail_Decode.f k s) r ∧ (r = zeroR ∨ (r.2.2.2.2.2.2.2 = 0 ∧ ∃ t, Ev (fun k => mail_Encode.f k r.1 r.2.1 r.2.2.1 r.2.2.2.1 r.2.2.2.2.1 r.2.2.2.2.2.1 r.2.2.2.2.2.2.1) (t, 0) ∧ t.toList = s.toList)) := by
        intro tag ls li e
        obtain ⟨r, hr, hp⟩ := tail_ev s (wrap64 (bt s 0)) tag ls li
        exact ⟨r, Ev.congr (fun k => (hD2 k).trans (e k)) hr, hp⟩
      rcases long_cases hn (by omega) with ⟨hk, hn2⟩ | ⟨hk, hn2⟩ | ⟨hk, hn2⟩ | ⟨hk, hn2⟩
      · refine ⟨(wrap64 (bt s 0), 0, 0, tx (s.data.toList.drop 1), ⟨#[]⟩, [], [], 0), Ev.congr (f := fun _ => some _) (fun k => by rw [hD2 k]; unfold decKind; rw [if_pos hk]) (Ev.now _), Or.inr ⟨rfl, ?_⟩⟩
        have hlen : s.data.toList.length = s.size := Array.length_toList
        have hsz : (tx (s.data.toList.drop 1)).size = 504 := by rw [tx_size, List.length_drop]; omega
        refine ⟨tx (encL 1 0 0 (tx (s.data.toList.drop 1)) ⟨#[]⟩ [] []), ?_, ?_⟩
        · show Ev (fun k => mail_Encode.f k (wrap64 (bt s 0)) 0 0 (tx (s.data.toList.drop 1)) ⟨#[]⟩ [] []) _
          rw [hk]
          exact enc_good (chk_pac _ hsz) (Or.inl ⟨rfl, rfl, rfl, hsz, by rw [ByteArray.toList_eq], rfl, rfl⟩)
        · rw [ByteArray.toList_eq, ByteArray.toList_eq, tx_list, encL, if_pos rfl, tx_list]
          cases hl : s.data.toList with
          | nil => rw [hl] at hlen; simp at hlen; omega
          | cons b l =>
            have e1 : s = tx (b :: l) := tx_ext hl
            have e2 : n8 b = 1 := by
              have := hk
              rw [e1, bt_mk, wrap_n8] at this
              exact this
            have e3 : b = 1 := by
              unfold n8 at e2
              exact UInt8.toNat_inj.1 (by show b.toNat = 1; omega)
            rw [e3]
            rfl
      · exact go (fun k => by unfold decKind; rw [if_neg (by omega), if_neg (by omega), if_neg (by omega)])
      · exact go (fun k => by unfold decKind; rw [if_neg (by omega), if_pos hk])
      · exact go (fun k => by unfold decKind; rw [if_neg (by omega), if_neg (by omega), if_pos hk])
    · exact ⟨zeroR, Ev.congr (f := fun _ => some zeroR) (fun k => by rw [hD k, if_neg h1]) (Ev.now _), Or.inl rfl⟩
/-! ### of what Encode wrote -/
end Go.Proofs.YtjmgkjjcdnaapaaDoor
namespace Go.Proofs.YtjmgkjjcdnaapaaDoor
open Go.RowKit Go.Proofs.YtjmgkjjcdnaapaaDoor.PMailA Go.Proofs.YtjmgkjjcdnaapaaDoorW.PrintWords Go.Proofs.YtjmgkjjcdnaapaaDoorW.PrintLast Go.Proofs.YtjmgkjjcdnaapaaDoorW.PrintMore
set_option linter.unusedSimpArgs false
set_option linter.unusedVariables false
set_option maxRecDepth 20000
theorem empty_of {a : ByteArray} (h : a.toList = []) : a = ⟨#[]⟩ := by
  rw [ByteArray.toList_eq] at h
  exact tx_ext h
theorem Ev_same20 {α : Type} {g : Nat → Option α} {a b : α} (h : Ev g a) (k : Ev g b) : a = b := by
  obtain ⟨K, h⟩ := h
  obtain ⟨L, k⟩ := k
  have h1 := h (max K L) (Nat.le_max_left _ _)
  rw [k (max K L) (Nat.le_max_right _ _)] at h1
  exact (Option.some.inj h1).symm
theorem turned_dec (s : List UInt8) (h : s.length = 38) : (∃ k, mail_Decode.f k (tx s) = some zeroR) ∨
    (∃ k u q tag, mail_Decode.f k (tx s) = some (2, u, q, ⟨#[]⟩, tx tag, [], [], 0) ∧ (0 ≤ u ∧ u < 64) ∧ (1 ≤ q ∧ q ≤ 2147483647) ∧ tag.length = 32 ∧ s.take 6 ++ List.replicate 32 0 = sP u q) := by
  obtain ⟨r, hr, hc⟩ := dec_any (tx s)
  obtain ⟨k, hk⟩ := hr.rounds
  rcases hc with rfl | ⟨h0, t, ht, hts⟩
  · exact .inl ⟨k, hk⟩
  · obtain ⟨kd, u, q, text, tag, ls, li, e⟩ := r
    simp only at h0 ht hts hk
    subst h0
    rcases enc_any kd u q text tag ls li with ⟨he, g⟩ | he
    · have e1 := Ev_same20 ht he
      simp only [Prod.mk.injEq] at e1
      have e2 : s = encL kd u q text tag ls li := by
        have h3 : t.toList = encL kd u q text tag ls li := by rw [e1.1, ByteArray.toList_eq, tx_list]
        rw [ByteArray.toList_eq (tx s), tx_list] at hts
        exact hts.symm.trans h3
      have hl := g.long
      rw [← e2, h] at hl
      have g' := g
      rcases g with ⟨rfl, _⟩ | ⟨⟨b1, b2, b3, b4⟩, htx, g3⟩
      · exact absurd hl (by decide)
      · rcases g3 with ⟨rfl, ht32, rfl, rfl⟩ | ⟨rfl, _⟩ | ⟨rfl, _⟩
        · obtain rfl := empty_of htx
          have htl : tag.data.toList.length = 32 := by
            have : tag.data.toList.length = tag.size := Array.length_toList
            omega
          have e3 : s = b8 2 :: whoL u q ++ tag.data.toList := by
            rw [e2]
            simp [encL, headL, restL, longN, whoL, htl]
          refine .inr ⟨k, u, q, tag.data.toList, by rw [← tx_of]; exact hk, ⟨b1, b2⟩, ⟨b3, b4⟩, htl, ?_⟩
          rw [e3]
          simp [sP, whoL]
        · exact absurd hl (by decide)
        · exact absurd hl (by decide)
    · have := Ev_same20 ht he
      simp only [Prod.mk.injEq] at this
      exact absurd this.2 (by decide)
theorem R_cq {α : Type} {d : Kd α} {e base : Nat} {ok : Nat → Prop} {w : World} {v : Value} {xs : List α} (h : d.R e w base ok v xs) (hf : xs.length * d.sz < 8796093022208) : ∃ A c, v = .slice A xs.length c ∧ Cp d w A c xs := by
  obtain ⟨A, c, e1, hc, hC⟩ := Kd.R_reads h
  refine ⟨A, c, e1, ?_⟩
  cases A with
  | some a => exact .inr ⟨⟨a, rfl⟩, hC, hc, hf⟩
  | none =>
    obtain ⟨inner, ho, _⟩ := h.2
    rcases ho.2 with ⟨h0, _⟩ | ⟨g, cap, cur, h0, _⟩
    · rw [h0] at e1
      injection e1 with _ e2 e3
      exact .inl ⟨rfl, e3.symm, List.eq_nil_of_length_eq_zero e2.symm⟩
    · rw [h0] at e1
      injection e1 with e1
      cases e1
end Go.Proofs.YtjmgkjjcdnaapaaDoor

/- The reference's Decode: what it gives, kind by kind. The reference's Decode: pulls, acks, replies. The reference's Decode: acks. The reference's Decode: replies. -/
import Derived.Test.YtidilhnjfdkmpaaMailF
import Derived.Test.YtidilhnjfdkmpaaPMailAx10
namespace Go.Proofs.Ytidilhnjfdkmpaa
open Go.RowKit Go.Proofs.Ytidilhnjfdkmpaa.PMailA Go.Proofs.YtidilhnjfdkmpaaW.PrintWords Go.Proofs.YtidilhnjfdkmpaaW.PrintLast Go.Proofs.YtidilhnjfdkmpaaW.PrintMore
attribute [local go_sem] max2_int min2_int max_two min_two
set_option linter.unusedSimpArgs false
set_option linter.unusedVariables false
structure RD (w0 w : World) (g2 g4 : Nat) (cs4 : Array Value) (vs : Value) (ls : List S43) (vi : Value) (li : List ByteArray) : Prop where
  b : Below w0.heap.size w0 w
  h2 : Blk w g2 25 Z7
  h4 : Blk w g4 25 cs4
  n2 : w0.heap.size ≤ g2
  n4 : w0.heap.size ≤ g4
  d : g2 ≠ g4
  rs : Kd.R k43 43 w w0.heap.size (fun _ => True) vs ls
  ri : Kd.R Kd.string 9 w w0.heap.size (fun _ => True) vi li
section
variable {w0 w w1 : World} {g2 g4 : Nat} {cs4 : Array Value} {vs vi : Value} {ls : List S43} {li : List ByteArray}
theorem RD.put (h : RD w0 w g2 g4 cs4 vs ls vi li) (i : Nat) (u : Value) : RD w0 (w.setCell ⟨g4, i, none⟩ u) g2 g4 (cs4.setIfInBounds i u) vs ls vi li :=
  ⟨h.b.setCell h.n4 _, h.h2.far h.d _, h.h4.set_ i _, h.n2, h.n4, h.d, Kd.R_set h.rs h.h4 (by decide) i _, Kd.R_set h.ri h.h4 (by decide) i _⟩
theorem RD.below (h : RD w0 w g2 g4 cs4 vs ls vi li) (hb : Below w.heap.size w w1) : RD w0 w1 g2 g4 cs4 vs ls vi li :=
  ⟨h.b.trans (hb.mono h.b.size), h.h2.below hb h.h2.lt, h.h4.below hb h.h4.lt, h.n2, h.n4, h.d, Kd.R_below h.rs hb, Kd.R_below h.ri hb⟩
theorem RD.alloc (h : RD w0 w g2 g4 cs4 vs ls vi li) (o : Obj) : RD w0 (w.alloc o) g2 g4 cs4 vs ls vi li := h.below (below_alloc (Below.refl _ _) o)
theorem RD.drew (h : RD w0 w g2 g4 cs4 vs ls vi li) : RD w0 w.drew g2 g4 cs4 vs ls vi li := h.below (Go.Proofs.YtidilhnjfdkmpaaW.PrintWords.below_drew (Below.refl _ _))
theorem RD.appI (h : RD w0 w g2 g4 cs4 vs ls vi li) {v1 : Value} {l1 : List ByteArray} (hr : Kd.R Kd.string 9 w1 w0.heap.size (fun _ => True) v1 l1) (hb : Below w0.heap.size w0 w1) (hg : w.grownBy w1 vi.ownBlock) : RD w0 w1 g2 g4 cs4 vs ls v1 l1 :=
  ⟨hb, h.h2.grown hg (Kd.R_ne h.ri h.h2 (by decide)), h.h4.grown hg (Kd.R_ne h.ri h.h4 (by decide)), h.n2, h.n4, h.d, Kd.R_over' h.rs (Kd.R_typed h.ri) (by decide) hg, hr⟩
theorem RD.appS (h : RD w0 w g2 g4 cs4 vs ls vi li) {v1 : Value} {l1 : List S43} (hr : Kd.R k43 43 w1 w0.heap.size (fun _ => True) v1 l1) (hb : Below w0.heap.size w0 w1) (hg : w.grownBy w1 vs.ownBlock) : RD w0 w1 g2 g4 cs4 v1 l1 vi li :=
  ⟨hb, h.h2.grown hg (Kd.R_ne h.rs h.h2 (by decide)), h.h4.grown hg (Kd.R_ne h.rs h.h4 (by decide)), h.n2, h.n4, h.d, hr, Kd.R_over' h.ri (Kd.R_typed h.rs) (by decide) hg⟩
end
theorem shown_any (a : ByteArray) (w : World) : Calls Try.prog 28 #[.string a] w fun e w' => e = .returned (.string (if idB a = true then a else ⟨#[]⟩)) ∧ Below w.heap.size w w' := by
  by_cases h : idB a = true
  · rw [if_pos h]
    go_enter Try.func28, Try.ntmps28
    go_wp2_with fail
    refine (refId_any a w).mono ?_
    rintro e w1 ⟨rfl, b⟩
    rw [h]
    go_wp2_with fail
    go_ret
    exact ⟨rfl, b⟩
  · rw [if_neg h]
    go_enter Try.func28, Try.ntmps28
    go_wp2_with fail
    refine (refId_any a w).mono ?_
    rintro e w1 ⟨rfl, b⟩
    rw [show idB a = false by simpa using h]
    go_wp2_with fail
    go_ret
    exact ⟨rfl, b⟩
theorem index_run (l : List UInt8) (i : Nat) (hi : i < l.length) (w : World) : (Instr.index 9 (.string (tx l)) (.int .i64 (i : Nat))).run Try.prog w = .ok (.int .u8 (n8 (bd l i))) w := by
  have hs : (tx l)[i]? = some (bd l i) := by
    rw [getElem?_pos (tx l) i (by rw [tx_size]; exact hi)]
    simp [tx, bd, ByteArray.getElem_eq_getElem_data, List.getElem?_eq_getElem hi]
  have hc : (tx l)[((i : Int)).toNat]? = some (bd l i) := by rw [Int.toNat_natCast]; exact hs
  simp [Instr.index, asIntOf, run_underlying Try.underlying9, hs, n8]
theorem uL_bd (l : List UInt8) (h : 1 < l.length) : uL l = n8 (bd l 1) := by
  unfold uL
  have e : (l.drop 1).take 1 = [bd l 1] := by
    rw [List.drop_eq_getElem_cons h, List.take_succ_cons, List.take_zero, bd, List.getD_eq_getElem?_getD, List.getElem?_eq_getElem h]
    rfl
  rw [e]
  have hb := n8_bd (bd l 1)
  have e2 : bt (tx [bd l 1]) 0 = n8 (bd l 1) := by unfold bt; rw [dif_pos (by simp [tx, ByteArray.size])]; simp [tx, n8, ByteArray.getElem_eq_getElem_data]
  rw [e2]
  unfold wrap64
  omega
theorem qL_bd (l : List UInt8) (h : 6 ≤ l.length) : qL l = ((n8 (bd l 2) * 256 + n8 (bd l 3)) * 256 + n8 (bd l 4)) * 256 + n8 (bd l 5) := by
  have e : ((l.drop 1).drop 1).take 4 = [bd l 2, bd l 3, bd l 4, bd l 5] := by
    rw [List.drop_drop]
    apply List.ext_getElem?
    intro j
    match j with
    | 0 => simp [bd, List.getElem?_eq_getElem (show 2 < l.length by omega)]
    | 1 => simp [bd, List.getElem?_eq_getElem (show 3 < l.length by omega)]
    | 2 => simp [bd, List.getElem?_eq_getElem (show 4 < l.length by omega)]
    | 3 => simp [bd, List.getElem?_eq_getElem (show 5 < l.length by omega)]
    | n + 4 => simp; omega
  unfold qL
  rw [e]
  simp [sq]
set_option maxHeartbeats 400000 in
theorem rdec_none (a0 : ByteArray) (w : World) (h0 : a0.toList = []) :
    Calls Try.prog 17 #[.string a0] w fun e w' => e = .returned (.tuple #[zM, .int .i64 110]) ∧ Below w.heap.size w w' := by
  go_enter Try.func17, Try.ntmps17
  go_upto_region 1 with fail
  refine gen_world (fun W => Blk W w.heap.size 25 Z7 ∧ Below w.heap.size w W) ?_ ?_
  · exact ⟨Blk.new w _ _, below_alloc (Below.refl _ _) _⟩
  rintro w2 ⟨hz, hb⟩
  have HB := Lib.hid hb
  obtain ⟨g2, G2⟩ : ∃ g, Hid (w.heap.size = g) := ⟨_, Lib.hid rfl⟩
  rw [G2.out]
  have HZ := Lib.hid (show Blk w2 g2 25 Z7 by rw [← G2.out]; exact hz)
  clear hz hb
  have hz0 : w2.cell? ⟨g2, 0, none⟩ = some (.int .i64 0) := HZ.out.cell 0
  have fz0 := HZ.out.frozen 0
  have hz1 : w2.cell? ⟨g2, 1, none⟩ = some (.int .i64 0) := HZ.out.cell 1
  have fz1 := HZ.out.frozen 1
  have hz2 : w2.cell? ⟨g2, 2, none⟩ = some (.int .i64 0) := HZ.out.cell 2
  have fz2 := HZ.out.frozen 2
  have hz3 : w2.cell? ⟨g2, 3, none⟩ = some (.string ⟨#[]⟩) := HZ.out.cell 3
  have fz3 := HZ.out.frozen 3
  have hz4 : w2.cell? ⟨g2, 4, none⟩ = some (.string ⟨#[]⟩) := HZ.out.cell 4
  have fz4 := HZ.out.frozen 4
  have hz5 : w2.cell? ⟨g2, 5, none⟩ = some (.slice none 0 0) := HZ.out.cell 5
  have fz5 := HZ.out.frozen 5
  have hz6 : w2.cell? ⟨g2, 6, none⟩ = some (.slice none 0 0) := HZ.out.cell 6
  have fz6 := HZ.out.frozen 6
  go_wp2_with fail
  refine gen_body (fun W => Blk W g2 25 Z7 ∧ Below w.heap.size w W) ⟨?_, ?_⟩ ?_
  · exact ((((((HZ.out.set_ 0 _).set_ 1 _).set_ 2 _).set_ 3 _).set_ 4 _).set_ 5 _).set_ 6 _
  · have hle : w.heap.size ≤ g2 := by rw [G2.out]; exact Nat.le_refl _
    exact (((((((HB.out.setCell (p := ⟨g2, 0, none⟩) hle _).setCell (p := ⟨g2, 1, none⟩) hle _).setCell (p := ⟨g2, 2, none⟩) hle _).setCell (p := ⟨g2, 3, none⟩) hle _).setCell (p := ⟨g2, 4, none⟩) hle _).setCell (p := ⟨g2, 5, none⟩) hle _).setCell (p := ⟨g2, 6, none⟩) hle _)
  rintro W' ⟨hb, hB⟩
  refine bodyPost_ret (results_ct rfl _ _ g2 25 Z7 (0, 0) _ rfl hb Try.underlying25 rfl rfl) rfl ?_
  exact ⟨rfl, hB⟩
set_option maxHeartbeats 800000 in
theorem rdec_long (a0 : ByteArray) (kd n : Int) (w : World) (q : 0 < a0.size) (hk : wrap64 (bt a0 0) = kd) (hn : dovecoteref11_Long.f kd = some n) (h1 : ¬ (a0.size : Int) = n) :
    Calls Try.prog 17 #[.string a0] w fun e w' => e = .returned (.tuple #[zM, .int .i64 110]) ∧ Below w.heap.size w w' := by
  have hx := bt_at' a0
  have hl := list_ne q
  have qi : (0 < (a0.size : Int)) = True := eq_true (by omega)
  have q' : (0 < a0.size) = True := eq_true q
  have hc : ((a0.size : Int) != n) = true := bne_iff_ne.mpr h1
  have HN := Lib.hid hn
  clear h1 hn
  go_enter Try.func17, Try.ntmps17
  go_upto_region 1 with fail
  refine gen_world (fun W => Blk W w.heap.size 25 Z7 ∧ Below w.heap.size w W) ?_ ?_
  · exact ⟨Blk.new w _ _, below_alloc (Below.refl _ _) _⟩
  rintro w1 ⟨hz, hb⟩
  have HZ := Lib.hid hz
  have HB := Lib.hid hb
  obtain ⟨g2, G2⟩ : ∃ g, Hid (w.heap.size = g) := ⟨_, Lib.hid rfl⟩
  rw [G2.out]
  have HZ := Lib.hid (show Blk w1 g2 25 Z7 by rw [← G2.out]; exact hz)
  clear hz hb
  go_wp2_with fail
  refine (dovecoteref11_Long.calls kd n _ HN.out).mono ?_
  rintro e w2 ⟨rfl, hd⟩
  have HZ2 := Lib.hid (show Blk w2 g2 25 Z7 by obtain ⟨nd, rfl⟩ := hd; exact HZ.out)
  have HB2 := Lib.hid (show Below w.heap.size w w2 by obtain ⟨nd, rfl⟩ := hd; exact pw_below_drewN HB.out nd)
  clear hd HZ HB
  have HZ := HZ2
  have HB := HB2
  clear HZ2 HB2
  have hz0 : w2.cell? ⟨g2, 0, none⟩ = some (.int .i64 0) := HZ.out.cell 0
  have fz0 := HZ.out.frozen 0
  have hz1 : w2.cell? ⟨g2, 1, none⟩ = some (.int .i64 0) := HZ.out.cell 1
  have fz1 := HZ.out.frozen 1
  have hz2 : w2.cell? ⟨g2, 2, none⟩ = some (.int .i64 0) := HZ.out.cell 2
  have fz2 := HZ.out.frozen 2
  have hz3 : w2.cell? ⟨g2, 3, none⟩ = some (.string ⟨#[]⟩) := HZ.out.cell 3
  have fz3 := HZ.out.frozen 3
  have hz4 : w2.cell? ⟨g2, 4, none⟩ = some (.string ⟨#[]⟩) := HZ.out.cell 4
  have fz4 := HZ.out.frozen 4
  have hz5 : w2.cell? ⟨g2, 5, none⟩ = some (.slice none 0 0) := HZ.out.cell 5
  have fz5 := HZ.out.frozen 5
  have hz6 : w2.cell? ⟨g2, 6, none⟩ = some (.slice none 0 0) := HZ.out.cell 6
  have fz6 := HZ.out.frozen 6
  go_wp2_with fail
  refine gen_body (fun W => Blk W g2 25 Z7 ∧ Below w.heap.size w W) ⟨?_, ?_⟩ ?_
  · exact ((((((HZ.out.set_ 0 _).set_ 1 _).set_ 2 _).set_ 3 _).set_ 4 _).set_ 5 _).set_ 6 _
  · have hle : w.heap.size ≤ g2 := by rw [G2.out]; exact Nat.le_refl _
    exact (((((((HB.out.setCell (p := ⟨g2, 0, none⟩) hle _).setCell (p := ⟨g2, 1, none⟩) hle _).setCell (p := ⟨g2, 2, none⟩) hle _).setCell (p := ⟨g2, 3, none⟩) hle _).setCell (p := ⟨g2, 4, none⟩) hle _).setCell (p := ⟨g2, 5, none⟩) hle _).setCell (p := ⟨g2, 6, none⟩) hle _)
  rintro W' ⟨hb, hB⟩
  refine bodyPost_ret (results_ct rfl _ _ g2 25 Z7 (0, 0) _ rfl hb Try.underlying25 rfl rfl) rfl ?_
  exact ⟨rfl, hB⟩
set_option maxHeartbeats 1600000 in
theorem rdec_pac (a0 : ByteArray) (n kd : Int) (w : World) (q : 0 < a0.size) (hk : wrap64 (bt a0 0) = kd) (hn : dovecoteref11_Long.f kd = some n) (h1 : (a0.size : Int) = n) (k1 : kd = 1) :
    Calls Try.prog 17 #[.string a0] w fun e w' => e = .returned (.tuple #[.agg #[.int .i64 kd, .int .i64 0, .int .i64 0, .string (tx (a0.data.toList.drop 1)), .string ⟨#[]⟩, .slice none 0 0, .slice none 0 0], .int .i64 0]) ∧ Below w.heap.size w w' := by
  have K1 : (kd == 1) = true := beq_iff_eq.mpr k1
  clear k1
  have hx := bt_at' a0
  have hl := list_ne q
  have qi : (0 < (a0.size : Int)) = True := eq_true (by omega)
  have q' : (0 < a0.size) = True := eq_true q
  have hc : ((a0.size : Int) != n) = false := bne_eq_false_iff_eq.mpr h1
  have HN := Lib.hid hn
  clear h1 hn
  go_enter Try.func17, Try.ntmps17
  go_upto_region 1 with fail
  refine gen_world (fun W => Blk W w.heap.size 25 Z7 ∧ Below w.heap.size w W) ?_ ?_
  · exact ⟨Blk.new w _ _, below_alloc (Below.refl _ _) _⟩
  rintro w1 ⟨hz, hb⟩
  have HZ := Lib.hid hz
  have HB := Lib.hid hb
  obtain ⟨g2, G2⟩ : ∃ g, Hid (w.heap.size = g) := ⟨_, Lib.hid rfl⟩
  rw [G2.out]
  have HZ := Lib.hid (show Blk w1 g2 25 Z7 by rw [← G2.out]; exact hz)
  clear hz hb
  go_wp2_with fail
  refine (dovecoteref11_Long.calls kd n _ HN.out).mono ?_
  rintro e w2 ⟨rfl, hd⟩
  have HZ2 := Lib.hid (show Blk w2 g2 25 Z7 by obtain ⟨nd, rfl⟩ := hd; exact HZ.out)
  have HB2 := Lib.hid (show Below w.heap.size w w2 by obtain ⟨nd, rfl⟩ := hd; exact pw_below_drewN HB.out nd)
  clear hd HZ HB
  have HZ := HZ2
  have HB := HB2
  clear HZ2 HB2
  go_upto_region 4 with (first | ((with_reducible refine gate_dst (N := 4) rfl ?_); refine box_event ?hg (N := 4) ?hd (cs := Z7) (t := 25) ?hr ?_; (case hd => rfl); (case hg => rfl); (case hr => first | (go_simp; done) | (go_simp; rfl)); intro g4 hg w3 hbox hb; subst hg; have hz0 : w3.cell? ⟨w2.heap.size, 0, none⟩ = some (.int .i64 0) := blk_cell hbox 0; have fz0 := blk_frozen hbox 0; have hz1 : w3.cell? ⟨w2.heap.size, 1, none⟩ = some (.int .i64 0) := blk_cell hbox 1; have fz1 := blk_frozen hbox 1; have hz2 : w3.cell? ⟨w2.heap.size, 2, none⟩ = some (.int .i64 0) := blk_cell hbox 2; have fz2 := blk_frozen hbox 2; have hz3 : w3.cell? ⟨w2.heap.size, 3, none⟩ = some (.string ⟨#[]⟩) := blk_cell hbox 3; have fz3 := blk_frozen hbox 3; have hz4 : w3.cell? ⟨w2.heap.size, 4, none⟩ = some (.string ⟨#[]⟩) := blk_cell hbox 4; have fz4 := blk_frozen hbox 4; have hz5 : w3.cell? ⟨w2.heap.size, 5, none⟩ = some (.slice none 0 0) := blk_cell hbox 5; have fz5 := blk_frozen hbox 5; have hz6 : w3.cell? ⟨w2.heap.size, 6, none⟩ = some (.slice none 0 0) := blk_cell hbox 6; have fz6 := blk_frozen hbox 6))
  refine gen_world (fun W => RD w W g2 w2.heap.size #[.int .i64 kd, .int .i64 0, .int .i64 0, .string ⟨#[]⟩, .string ⟨#[]⟩, .slice none 0 0, .slice none 0 0] (.slice none 0 0) [] (.slice none 0 0) []) ?_ ?_
  · exact (RD.put (RD.put (RD.put (RD.put (RD.put (RD.put (RD.put (RD.mk (w0 := w) (w := w3) (HB.out.trans (hb.mono HB.out.size)) (HZ.out.below hb HZ.out.lt) hbox (by rw [G2.out]; exact Nat.le_refl _) HB.out.size (Nat.ne_of_lt HZ.out.lt) (Kd.R_nil _ _ _ _ _) (Kd.R_nil _ _ _ _ _)) 0 _) 1 _) 2 _) 3 _) 4 _) 5 _) 6 _)
  obtain ⟨g4, G4⟩ : ∃ g, g = w2.heap.size := ⟨_, rfl⟩
  rw [← G4]
  clear G4 hbox hb hz0 hz1 hz2 hz3 hz4 hz5 hz6 fz0 fz1 fz2 fz3 fz4 fz5 fz6 HZ HB HN G2
  intro w4 D
  have D4 := Lib.hid D
  clear D
  obtain ⟨r1, R1⟩ : ∃ r, Hid (a0.data.toList.drop 1 = r) := ⟨_, Lib.hid rfl⟩
  have hsl : a0.extract 1 a0.size = tx r1 := by rw [← R1.out]; exact ex_drop a0 1
  have m0 : w4.cell? ⟨g4, 0, none⟩ = some (.int .i64 kd) := D4.out.h4.cell 0
  have n0 := D4.out.h4.frozen 0
  have m1 : w4.cell? ⟨g4, 1, none⟩ = some (.int .i64 0) := D4.out.h4.cell 1
  have n1 := D4.out.h4.frozen 1
  have m2 : w4.cell? ⟨g4, 2, none⟩ = some (.int .i64 0) := D4.out.h4.cell 2
  have n2 := D4.out.h4.frozen 2
  have m3 : w4.cell? ⟨g4, 3, none⟩ = some (.string ⟨#[]⟩) := D4.out.h4.cell 3
  have n3 := D4.out.h4.frozen 3
  have m4 : w4.cell? ⟨g4, 4, none⟩ = some (.string ⟨#[]⟩) := D4.out.h4.cell 4
  have n4 := D4.out.h4.frozen 4
  have m5 : w4.cell? ⟨g4, 5, none⟩ = some (.slice none 0 0) := D4.out.h4.cell 5
  have n5 := D4.out.h4.frozen 5
  have m6 : w4.cell? ⟨g4, 6, none⟩ = some (.slice none 0 0) := D4.out.h4.cell 6
  have n6 := D4.out.h4.frozen 6
  have k0 : w4.cell? ⟨g2, 0, none⟩ = some (.int .i64 0) := D4.out.h2.cell 0
  have l0 := D4.out.h2.frozen 0
  have k1 : w4.cell? ⟨g2, 1, none⟩ = some (.int .i64 0) := D4.out.h2.cell 1
  have l1 := D4.out.h2.frozen 1
  have k2 : w4.cell? ⟨g2, 2, none⟩ = some (.int .i64 0) := D4.out.h2.cell 2
  have l2 := D4.out.h2.frozen 2
  have k3 : w4.cell? ⟨g2, 3, none⟩ = some (.string ⟨#[]⟩) := D4.out.h2.cell 3
  have l3 := D4.out.h2.frozen 3
  have k4 : w4.cell? ⟨g2, 4, none⟩ = some (.string ⟨#[]⟩) := D4.out.h2.cell 4
  have l4 := D4.out.h2.frozen 4
  have k5 : w4.cell? ⟨g2, 5, none⟩ = some (.slice none 0 0) := D4.out.h2.cell 5
  have l5 := D4.out.h2.frozen 5
  have k6 : w4.cell? ⟨g2, 6, none⟩ = some (.slice none 0 0) := D4.out.h2.cell 6
  have l6 := D4.out.h2.frozen 6
  have d24 := D4.out.d
  have d42 := D4.out.d.symm
  have qs : (1 : Int) ≤ (a0.size : Int) := by omega
  go_wp2_with fail
  refine gen_body (fun W => Blk W g2 25 #[.int .i64 kd, .int .i64 0, .int .i64 0, .string (tx r1), .string ⟨#[]⟩, .slice none 0 0, .slice none 0 0] ∧ Below w.heap.size w W) ⟨?_, ?_⟩ ?_
  · exact ((((((((D4.out.put 3 _).h2.set_ 0 _).set_ 1 _).set_ 2 _).set_ 3 _).set_ 4 _).set_ 5 _).set_ 6 _)
  · exact ((((((((D4.out.put 3 _).b.setCell (p := ⟨g2, 0, none⟩) D4.out.n2 _).setCell (p := ⟨g2, 1, none⟩) D4.out.n2 _).setCell (p := ⟨g2, 2, none⟩) D4.out.n2 _).setCell (p := ⟨g2, 3, none⟩) D4.out.n2 _).setCell (p := ⟨g2, 4, none⟩) D4.out.n2 _).setCell (p := ⟨g2, 5, none⟩) D4.out.n2 _).setCell (p := ⟨g2, 6, none⟩) D4.out.n2 _)
  rintro W' ⟨hb, hB⟩
  refine bodyPost_ret (results_ct rfl _ _ g2 25 #[.int .i64 kd, .int .i64 0, .int .i64 0, .string (tx r1), .string ⟨#[]⟩, .slice none 0 0, .slice none 0 0] (0, 0) _ rfl hb Try.underlying25 rfl rfl) rfl ?_
  exact ⟨by rw [R1.out]; rfl, hB⟩
end Go.Proofs.Ytidilhnjfdkmpaa
namespace Go.Proofs.Ytidilhnjfdkmpaa
open Go.RowKit Go.Proofs.Ytidilhnjfdkmpaa.PMailA Go.Proofs.YtidilhnjfdkmpaaW.PrintWords Go.Proofs.YtidilhnjfdkmpaaW.PrintLast Go.Proofs.YtidilhnjfdkmpaaW.PrintMore
attribute [local go_sem] max2_int min2_int max_two min_two
set_option linter.unusedSimpArgs false
set_option linter.unusedVariables false
def rd8.T : Bool × List (List Nat × List Nat) := (true, [([], []), ([0], [0]), ([1], [1]), ([2], [2]), ([], []), ([4], [4]), ([5], [5]), ([6], [6]), ([3, 7], [3, 7]), ([], []), ([9], [9]), ([10], [10]), ([11], [11]), ([8, 12], [8, 12]), ([], []), ([14], [14]), ([15], [15]), ([13, 16], [13, 16]), ([0, 1, 2, 3, 4, 5, 6, 7, 8, 9, 10, 11, 12, 13, 14, 15, 16, 17], []), ([18, 17, 0, 1, 2, 3, 4, 5, 6, 7, 8, 9, 10, 11, 12, 13, 14, 15, 16, 17], [17, 18])])
def rd8.B : List Nat := [0, 1, 3, 7, 0, 16, 48, 112, 255, 0, 512, 1536, 3584, 8191, 0, 16384, 49152, 131071, 262143, 524287]
theorem rd8.tab : rtab .any (opsOf Try.f17 8) = rd8.T := by kernel_rfl
theorem rd8.bits : waitsOk rd8.T.2 rd8.B = true := by kernel_rfl
def rd15.T : Bool × List (List Nat × List Nat) := (true, [([], []), ([0], [0]), ([], []), ([2], [2]), ([3], [3]), ([1, 4], [1, 4]), ([0, 1, 2, 3, 4, 5], []), ([6, 5, 5, 0, 1, 2, 3, 4, 5], [5, 6])])
def rd15.B : List Nat := [0, 1, 0, 4, 12, 31, 63, 127]
theorem rd15.tab : rtab .any (opsOf Try.f17 15) = rd15.T := by kernel_rfl
theorem rd15.bits : waitsOk rd15.T.2 rd15.B = true := by kernel_rfl
def rd19.T : Bool × List (List Nat × List Nat) := (true, [([], []), ([0], [0]), ([], []), ([2], [2]), ([3], [3]), ([], []), ([], []), ([6], [6]), ([5, 7], [5, 7]), ([4, 8], [4, 8]), ([9], [9]), ([1, 10, 4], [1, 10]), ([0, 1, 2, 3, 4, 5, 6, 7, 8, 9, 10, 11], []), ([12, 11, 11, 0, 1, 2, 3, 4, 5, 6, 7, 8, 9, 10, 11], [11, 12])])
def rd19.B : List Nat := [0, 1, 0, 4, 12, 0, 0, 64, 224, 508, 1020, 2047, 4095, 8191]
theorem rd19.tab : rtab .any (opsOf Try.f17 19) = rd19.T := by kernel_rfl
theorem rd19.bits : waitsOk rd19.T.2 rd19.B = true := by kernel_rfl
/-- the result's block, when it is filled. -/
structure RE (w0 w : World) (g2 : Nat) (cs2 : Array Value) (vs : Value) (ls : List S43) (vi : Value) (li : List ByteArray) : Prop where
  b : Below w0.heap.size w0 w
  h2 : Blk w g2 25 cs2
  n2 : w0.heap.size ≤ g2
  rs : Kd.R k43 43 w w0.heap.size (fun _ => True) vs ls
  ri : Kd.R Kd.string 9 w w0.heap.size (fun _ => True) vi li
theorem RE.put {w0 w : World} {g2 : Nat} {cs2 : Array Value} {vs vi : Value} {ls : List S43} {li : List ByteArray} (h : RE w0 w g2 cs2 vs ls vi li) (i : Nat) (u : Value) : RE w0 (w.setCell ⟨g2, i, none⟩ u) g2 (cs2.setIfInBounds i u) vs ls vi li :=
  ⟨h.b.setCell h.n2 _, h.h2.set_ i _, h.n2, Kd.R_set h.rs h.h2 (by decide) i _, Kd.R_set h.ri h.h2 (by decide) i _⟩
theorem RD.re {w0 w : World} {g2 g4 : Nat} {cs4 : Array Value} {vs vi : Value} {ls : List S43} {li : List ByteArray} (h : RD w0 w g2 g4 cs4 vs ls vi li) : RE w0 w g2 Z7 vs ls vi li := ⟨h.b, h.h2, h.n2, h.rs, h.ri⟩
theorem r3L_eq (l : List UInt8) : r3L l = l.drop 6 := by unfold r3L; rw [List.drop_drop, List.drop_drop]
set_option maxHeartbeats 800000 in
theorem rdec_two (a0 : ByteArray) (n kd : Int) (w : World) (q : 0 < a0.size) (hk : wrap64 (bt a0 0) = kd) (hn : dovecoteref11_Long.f kd = some n) (h1 : (a0.size : Int) = n) (k1 : ¬ kd = 1) (h38 : 38 ≤ a0.size) (k2 : kd = 2) (hz : a0.size = 38) (kE : Nat) (c : Int) (t : ByteArray) (mC : dovecoteref11_Check.f kE kd (uL a0.data.toList) (qL a0.data.toList) ⟨#[]⟩ (tx ((r3L a0.data.toList).take 32)) [] [] = some c) (mT : c = 0 → dovecoteref11_Text.f kE kd (uL a0.data.toList) (qL a0.data.toList) ⟨#[]⟩ (tx ((r3L a0.data.toList).take 32)) [] [] = some t) :
    Calls Try.prog 17 #[.string a0] w fun e w' => (c = 0 ∧ t.toList = a0.toList → DecOut w kd (uL a0.data.toList) (qL a0.data.toList) ⟨#[]⟩ (tx ((r3L a0.data.toList).take 32)) [] [] 0 e w') ∧ (¬ (c = 0 ∧ t.toList = a0.toList) → DecOut w 0 0 0 ⟨#[]⟩ ⟨#[]⟩ [] [] 110 e w') := by
  have K1 : (kd == 1) = false := beq_eq_false_iff_ne.mpr k1
  clear k1
  have H38 := Lib.hid h38
  have HZZ := Lib.hid hz
  have HK2 := Lib.hid k2
  clear h38 hz k2
  have MC := Lib.hid mC
  have MT := Lib.hid mT
  clear mC mT
  have hx := bt_at' a0
  have hl := list_ne q
  have qi : (0 < (a0.size : Int)) = True := eq_true (by omega)
  have q' : (0 < a0.size) = True := eq_true q
  have hc : ((a0.size : Int) != n) = false := bne_eq_false_iff_eq.mpr h1
  have HN := Lib.hid hn
  clear h1 hn
  go_enter Try.func17, Try.ntmps17
  go_upto_region 1 with fail
  refine gen_world (fun W => Blk W w.heap.size 25 Z7 ∧ Below w.heap.size w W) ?_ ?_
  · exact ⟨Blk.new w _ _, below_alloc (Below.refl _ _) _⟩
  rintro w1 ⟨hz, hb⟩
  have HZ := Lib.hid hz
  have HB := Lib.hid hb
  obtain ⟨g2, G2⟩ : ∃ g, Hid (w.heap.size = g) := ⟨_, Lib.hid rfl⟩
  rw [G2.out]
  have HZ := Lib.hid (show Blk w1 g2 25 Z7 by rw [← G2.out]; exact hz)
  clear hz hb
  go_wp2_with fail
  refine (dovecoteref11_Long.calls kd n _ HN.out).mono ?_
  rintro e w2 ⟨rfl, hd⟩
  have HZ2 := Lib.hid (show Blk w2 g2 25 Z7 by obtain ⟨nd, rfl⟩ := hd; exact HZ.out)
  have HB2 := Lib.hid (show Below w.heap.size w w2 by obtain ⟨nd, rfl⟩ := hd; exact pw_below_drewN HB.out nd)
  clear hd HZ HB
  have HZ := HZ2
  have HB := HB2
  clear HZ2 HB2
  go_upto_region 4 with (first | ((with_reducible refine gate_dst (N := 4) rfl ?_); refine box_event ?hg (N := 4) ?hd (cs := Z7) (t := 25) ?hr ?_; (case hd => rfl); (case hg => rfl); (case hr => first | (go_simp; done) | (go_simp; rfl)); intro g4 hg w3 hbox hb; subst hg; have hz0 : w3.cell? ⟨w2.heap.size, 0, none⟩ = some (.int .i64 0) := blk_cell hbox 0; have fz0 := blk_frozen hbox 0; have hz1 : w3.cell? ⟨w2.heap.size, 1, none⟩ = some (.int .i64 0) := blk_cell hbox 1; have fz1 := blk_frozen hbox 1; have hz2 : w3.cell? ⟨w2.heap.size, 2, none⟩ = some (.int .i64 0) := blk_cell hbox 2; have fz2 := blk_frozen hbox 2; have hz3 : w3.cell? ⟨w2.heap.size, 3, none⟩ = some (.string ⟨#[]⟩) := blk_cell hbox 3; have fz3 := blk_frozen hbox 3; have hz4 : w3.cell? ⟨w2.heap.size, 4, none⟩ = some (.string ⟨#[]⟩) := blk_cell hbox 4; have fz4 := blk_frozen hbox 4; have hz5 : w3.cell? ⟨w2.heap.size, 5, none⟩ = some (.slice none 0 0) := blk_cell hbox 5; have fz5 := blk_frozen hbox 5; have hz6 : w3.cell? ⟨w2.heap.size, 6, none⟩ = some (.slice none 0 0) := blk_cell hbox 6; have fz6 := blk_frozen hbox 6))
  refine gen_world (fun W => RD w W g2 w2.heap.size #[.int .i64 kd, .int .i64 0, .int .i64 0, .string ⟨#[]⟩, .string ⟨#[]⟩, .slice none 0 0, .slice none 0 0] (.slice none 0 0) [] (.slice none 0 0) []) ?_ ?_
  · exact (RD.put (RD.put (RD.put (RD.put (RD.put (RD.put (RD.put (RD.mk (w0 := w) (w := w3) (HB.out.trans (hb.mono HB.out.size)) (HZ.out.below hb HZ.out.lt) hbox (by rw [G2.out]; exact Nat.le_refl _) HB.out.size (Nat.ne_of_lt HZ.out.lt) (Kd.R_nil _ _ _ _ _) (Kd.R_nil _ _ _ _ _)) 0 _) 1 _) 2 _) 3 _) 4 _) 5 _) 6 _)
  obtain ⟨g4, G4⟩ : ∃ g, g = w2.heap.size := ⟨_, rfl⟩
  rw [← G4]
  clear G4 hbox hb hz0 hz1 hz2 hz3 hz4 hz5 hz6 fz0 fz1 fz2 fz3 fz4 fz5 fz6 HZ HB HN G2
  intro w4 D
  have D4 := Lib.hid D
  clear D
  have hlen : a0.data.toList.length = a0.size := Array.length_toList
  have ha0 := Lib.hid (show a0 = tx a0.data.toList from tx_of a0)
  obtain ⟨b1, hb1⟩ : ∃ b, Hid (n8 (bd a0.data.toList 1) = b) := ⟨_, Lib.hid rfl⟩
  have hB1 : 0 ≤ b1 ∧ b1 < 256 := by rw [← hb1.out]; exact n8_bd _
  have hi1 : ∀ w, (Instr.index 9 (.string a0) (.int .i64 1)).run Try.prog w = .ok (.int .u8 b1) w := fun w => by
    have := index_run a0.data.toList 1 (by rw [hlen]; have := H38.out; omega) w
    rw [← ha0.out, hb1.out] at this
    exact this
  obtain ⟨b2, hb2⟩ : ∃ b, Hid (n8 (bd a0.data.toList 2) = b) := ⟨_, Lib.hid rfl⟩
  have hB2 : 0 ≤ b2 ∧ b2 < 256 := by rw [← hb2.out]; exact n8_bd _
  have hi2 : ∀ w, (Instr.index 9 (.string a0) (.int .i64 2)).run Try.prog w = .ok (.int .u8 b2) w := fun w => by
    have := index_run a0.data.toList 2 (by rw [hlen]; have := H38.out; omega) w
    rw [← ha0.out, hb2.out] at this
    exact this
  obtain ⟨b3, hb3⟩ : ∃ b, Hid (n8 (bd a0.data.toList 3) = b) := ⟨_, Lib.hid rfl⟩
  have hB3 : 0 ≤ b3 ∧ b3 < 256 := by rw [← hb3.out]; exact n8_bd _
  have hi3 : ∀ w, (Instr.index 9 (.string a0) (.int .i64 3)).run Try.prog w = .ok (.int .u8 b3) w := fun w => by
    have := index_run a0.data.toList 3 (by rw [hlen]; have := H38.out; omega) w
    rw [← ha0.out, hb3.out] at this
    exact this
  obtain ⟨b4, hb4⟩ : ∃ b, Hid (n8 (bd a0.data.toList 4) = b) := ⟨_, Lib.hid rfl⟩
  have hB4 : 0 ≤ b4 ∧ b4 < 256 := by rw [← hb4.out]; exact n8_bd _
  have hi4 : ∀ w, (Instr.index 9 (.string a0) (.int .i64 4)).run Try.prog w = .ok (.int .u8 b4) w := fun w => by
    have := index_run a0.data.toList 4 (by rw [hlen]; have := H38.out; omega) w
    rw [← ha0.out, hb4.out] at this
    exact this
  obtain ⟨b5, hb5⟩ : ∃ b, Hid (n8 (bd a0.data.toList 5) = b) := ⟨_, Lib.hid rfl⟩
  have hB5 : 0 ≤ b5 ∧ b5 < 256 := by rw [← hb5.out]; exact n8_bd _
  have hi5 : ∀ w, (Instr.index 9 (.string a0) (.int .i64 5)).run Try.prog w = .ok (.int .u8 b5) w := fun w => by
    have := index_run a0.data.toList 5 (by rw [hlen]; have := H38.out; omega) w
    rw [← ha0.out, hb5.out] at this
    exact this
  have m0 : w4.cell? ⟨g4, 0, none⟩ = some (.int .i64 kd) := D4.out.h4.cell 0
  have n0 := D4.out.h4.frozen 0
  have m1 : w4.cell? ⟨g4, 1, none⟩ = some (.int .i64 0) := D4.out.h4.cell 1
  have n1 := D4.out.h4.frozen 1
  have m2 : w4.cell? ⟨g4, 2, none⟩ = some (.int .i64 0) := D4.out.h4.cell 2
  have n2 := D4.out.h4.frozen 2
  have m3 : w4.cell? ⟨g4, 3, none⟩ = some (.string ⟨#[]⟩) := D4.out.h4.cell 3
  have n3 := D4.out.h4.frozen 3
  have m4 : w4.cell? ⟨g4, 4, none⟩ = some (.string ⟨#[]⟩) := D4.out.h4.cell 4
  have n4 := D4.out.h4.frozen 4
  have m5 : w4.cell? ⟨g4, 5, none⟩ = some (.slice none 0 0) := D4.out.h4.cell 5
  have n5 := D4.out.h4.frozen 5
  have m6 : w4.cell? ⟨g4, 6, none⟩ = some (.slice none 0 0) := D4.out.h4.cell 6
  have n6 := D4.out.h4.frozen 6
  go_upto_region 8 with fail
  refine gen_world (fun W => RD w W g2 g4 #[.int .i64 kd, .int .i64 b1, .int .i64 0, .string ⟨#[]⟩, .string ⟨#[]⟩, .slice none 0 0, .slice none 0 0] (.slice none 0 0) [] (.slice none 0 0) []) ?_ ?_
  · exact D4.out.put 1 _
  clear m0 n0 m1 n1 m2 n2 m3 n3 m4 n4 m5 n5 m6 n6 D4
  intro w5 D
  have D5 := Lib.hid D
  clear D
  have m2 : w5.drew.cell? ⟨g4, 2, none⟩ = some (.int .i64 0) := D5.out.h4.cell 2
  have n2 : w5.drew.frozen? ⟨g4, 2, none⟩ = false := D5.out.h4.frozen 2
  refine start_ (n := 20) (S := fun _ => True) (ds := [19]) #[false, false, false, false, false, false, false, false, false, false, false, false, false, false, false, false, false, false, false, false] (by kernel_rfl) rfl rfl trivial (fun hHeld => ?_)
  refine with_tabW rd8.tab rd8.bits (fun HT_ HW_ => ?_)
  refine pure_ (i := 0) (N := some 34) (v := ?_) (a' := ?_) #[true, false, false, false, false, false, false, false, false, false, false, false, false, false, false, false, false, false, false, false] rfl rfl (any_of HT_.out (by kernel_rfl)) (fun _ _ _ h => h) (Or.inl ⟨by rfl, ?_⟩) ?_ ?_
  rotate_left
  · intro w'
    go_simp
    try with_reducible rfl
  rotate_left
  · simp only [Act.put, List.setIfInBounds_toArray, List.set_cons_zero, List.set_cons_succ]
    rfl
  refine pure_ (i := 1) (N := some 35) (v := ?_) (a' := ?_) #[true, true, false, false, false, false, false, false, false, false, false, false, false, false, false, false, false, false, false, false] rfl rfl (any_of HT_.out (by kernel_rfl)) (fun _ _ _ h => h) (Or.inl ⟨by rfl, ?_⟩) ?_ ?_
  rotate_left
  · intro w'
    go_simp
    try with_reducible rfl
  rotate_left
  · simp only [Act.put, List.setIfInBounds_toArray, List.set_cons_zero, List.set_cons_succ]
    rfl
  refine pure_ (i := 2) (N := some 36) (v := ?_) (a' := ?_) #[true, true, true, false, false, false, false, false, false, false, false, false, false, false, false, false, false, false, false, false] rfl rfl (any_of HT_.out (by kernel_rfl)) (fun _ _ _ h => h) (Or.inl ⟨by rfl, ?_⟩) ?_ ?_
  rotate_left
  · intro w'
    go_simp
    try with_reducible rfl
  rotate_left
  · simp only [Act.put, List.setIfInBounds_toArray, List.set_cons_zero, List.set_cons_succ]
    rfl
  refine pure_ (i := 3) (N := some 37) (v := ?_) (a' := ?_) #[true, true, true, true, false, false, false, false, false, false, false, false, false, false, false, false, false, false, false, false] rfl rfl (any_of HT_.out (by kernel_rfl)) (fun _ _ _ h => h) (Or.inl ⟨by rfl, ?_⟩) ?_ ?_
  rotate_left
  · intro w'
    go_simp
    try with_reducible rfl
  rotate_left
  · simp only [Act.put, List.setIfInBounds_toArray, List.set_cons_zero, List.set_cons_succ]
    rfl
  refine pure_ (i := 4) (N := some 38) (v := ?_) (a' := ?_) #[true, true, true, true, true, false, false, false, false, false, false, false, false, false, false, false, false, false, false, false] rfl rfl (any_of HT_.out (by kernel_rfl)) (fun _ _ _ h => h) (Or.inl ⟨by rfl, ?_⟩) ?_ ?_
  rotate_left
  · intro w'
    go_simp
    try with_reducible rfl
  rotate_left
  · simp only [Act.put, List.setIfInBounds_toArray, List.set_cons_zero, List.set_cons_succ]
    rfl
  refine pure_ (i := 5) (N := some 39) (v := ?_) (a' := ?_) #[true, true, true, true, true, true, false, false, false, false, false, false, false, false, false, false, false, false, false, false] rfl rfl (any_of HT_.out (by kernel_rfl)) (fun _ _ _ h => h) (Or.inl ⟨by rfl, ?_⟩) ?_ ?_
  rotate_left
  · intro w'
    go_simp
    try with_reducible rfl
  rotate_left
  · simp only [Act.put, List.setIfInBounds_toArray, List.set_cons_zero, List.set_cons_succ]
    rfl
  refine pure_ (i := 6) (N := some 40) (v := ?_) (a' := ?_) #[true, true, true, true, true, true, true, false, false, false, false, false, false, false, false, false, false, false, false, false] rfl rfl (any_of HT_.out (by kernel_rfl)) (fun _ _ _ h => h) (Or.inl ⟨by rfl, ?_⟩) ?_ ?_
  rotate_left
  · intro w'
    go_simp
    try with_reducible rfl
  rotate_left
  · simp only [Act.put, List.setIfInBounds_toArray, List.set_cons_zero, List.set_cons_succ]
    rfl
  refine pure_ (i := 7) (N := some 41) (v := ?_) (a' := ?_) #[true, true, true, true, true, true, true, true, false, false, false, false, false, false, false, false, false, false, false, false] rfl rfl (any_of HT_.out (by kernel_rfl)) (fun _ _ _ h => h) (Or.inl ⟨by rfl, ?_⟩) ?_ ?_
  rotate_left
  · intro w'
    go_simp
    try with_reducible rfl
  rotate_left
  · simp only [Act.put, List.setIfInBounds_toArray, List.set_cons_zero, List.set_cons_succ]
    rfl
  refine pure_ (i := 8) (N := some 42) (v := ?_) (a' := ?_) #[true, true, true, true, true, true, true, true, true, false, false, false, false, false, false, false, false, false, false, false] rfl rfl (any_of HT_.out (by kernel_rfl)) (fun _ _ _ h => h) (Or.inl ⟨by rfl, ?_⟩) ?_ ?_
  rotate_left
  · intro w'
    go_simp
    try with_reducible rfl
  rotate_left
  · simp only [Act.put, List.setIfInBounds_toArray, List.set_cons_zero, List.set_cons_succ]
    rfl
  refine pure_ (i := 9) (N := some 43) (v := ?_) (a' := ?_) #[true, true, true, true, true, true, true, true, true, true, false, false, false, false, false, false, false, false, false, false] rfl rfl (any_of HT_.out (by kernel_rfl)) (fun _ _ _ h => h) (Or.inl ⟨by rfl, ?_⟩) ?_ ?_
  rotate_left
  · intro w'
    go_simp
    try with_reducible rfl
  rotate_left
  · simp only [Act.put, List.setIfInBounds_toArray, List.set_cons_zero, List.set_cons_succ]
    rfl
  refine pure_ (i := 10) (N := some 44) (v := ?_) (a' := ?_) #[true, true, true, true, true, true, true, true, true, true, true, false, false, false, false, false, false, false, false, false] rfl rfl (any_of HT_.out (by kernel_rfl)) (fun _ _ _ h => h) (Or.inl ⟨by rfl, ?_⟩) ?_ ?_
  rotate_left
  · intro w'
    go_simp
    try with_reducible rfl
  rotate_left
  · simp only [Act.put, List.setIfInBounds_toArray, List.set_cons_zero, List.set_cons_succ]
    rfl
  refine pure_ (i := 11) (N := some 45) (v := ?_) (a' := ?_) #[true, true, true, true, true, true, true, true, true, true, true, true, false, false, false, false, false, false, false, false] rfl rfl (any_of HT_.out (by kernel_rfl)) (fun _ _ _ h => h) (Or.inl ⟨by rfl, ?_⟩) ?_ ?_
  rotate_left
  · intro w'
    go_simp
    try with_reducible rfl
  rotate_left
  · simp only [Act.put, List.setIfInBounds_toArray, List.set_cons_zero, List.set_cons_succ]
    rfl
  refine pure_ (i := 12) (N := some 46) (v := ?_) (a' := ?_) #[true, true, true, true, true, true, true, true, true, true, true, true, true, false, false, false, false, false, false, false] rfl rfl (any_of HT_.out (by kernel_rfl)) (fun _ _ _ h => h) (Or.inl ⟨by rfl, ?_⟩) ?_ ?_
  rotate_left
  · intro w'
    go_simp
    try with_reducible rfl
  rotate_left
  · simp only [Act.put, List.setIfInBounds_toArray, List.set_cons_zero, List.set_cons_succ]
    rfl
  refine pure_ (i := 13) (N := some 47) (v := ?_) (a' := ?_) #[true, true, true, true, true, true, true, true, true, true, true, true, true, true, false, false, false, false, false, false] rfl rfl (any_of HT_.out (by kernel_rfl)) (fun _ _ _ h => h) (Or.inl ⟨by rfl, ?_⟩) ?_ ?_
  rotate_left
  · intro w'
    go_simp
    try with_reducible rfl
  rotate_left
  · simp only [Act.put, List.setIfInBounds_toArray, List.set_cons_zero, List.set_cons_succ]
    rfl
  refine pure_ (i := 14) (N := some 48) (v := ?_) (a' := ?_) #[true, true, true, true, true, true, true, true, true, true, true, true, true, true, true, false, false, false, false, false] rfl rfl (any_of HT_.out (by kernel_rfl)) (fun _ _ _ h => h) (Or.inl ⟨by rfl, ?_⟩) ?_ ?_
  rotate_left
  · intro w'
    go_simp
    try with_reducible rfl
  rotate_left
  · simp only [Act.put, List.setIfInBounds_toArray, List.set_cons_zero, List.set_cons_succ]
    rfl
  refine pure_ (i := 15) (N := some 49) (v := ?_) (a' := ?_) #[true, true, true, true, true, true, true, true, true, true, true, true, true, true, true, true, false, false, false, false] rfl rfl (any_of HT_.out (by kernel_rfl)) (fun _ _ _ h => h) (Or.inl ⟨by rfl, ?_⟩) ?_ ?_
  rotate_left
  · intro w'
    go_simp
    try with_reducible rfl
  rotate_left
  · simp only [Act.put, List.setIfInBounds_toArray, List.set_cons_zero, List.set_cons_succ]
    rfl
  refine pure_ (i := 16) (N := some 50) (v := ?_) (a' := ?_) #[true, true, true, true, true, true, true, true, true, true, true, true, true, true, true, true, true, false, false, false] rfl rfl (any_of HT_.out (by kernel_rfl)) (fun _ _ _ h => h) (Or.inl ⟨by rfl, ?_⟩) ?_ ?_
  rotate_left
  · intro w'
    go_simp
    try with_reducible rfl
  rotate_left
  · simp only [Act.put, List.setIfInBounds_toArray, List.set_cons_zero, List.set_cons_succ]
    rfl
  refine pure_ (i := 17) (N := some 51) (v := ?_) (a' := ?_) #[true, true, true, true, true, true, true, true, true, true, true, true, true, true, true, true, true, true, false, false] rfl rfl (any_of HT_.out (by kernel_rfl)) (fun _ _ _ h => h) (Or.inl ⟨by rfl, ?_⟩) ?_ ?_
  rotate_left
  · intro w'
    go_simp
    try with_reducible rfl
  rotate_left
  · simp only [Act.put, List.setIfInBounds_toArray, List.set_cons_zero, List.set_cons_succ]
    rfl
  refine pure_ (i := 18) (N := some 52) (v := ?_) (a' := ?_) #[true, true, true, true, true, true, true, true, true, true, true, true, true, true, true, true, true, true, true, false] rfl rfl (any_of HT_.out (by kernel_rfl)) (fun _ _ _ h => h) (Or.inl ⟨by rfl, ?_⟩) ?_ ?_
  rotate_left
  · intro w'
    go_simp
    try with_reducible rfl
  rotate_left
  · simp only [Act.put, List.setIfInBounds_toArray, List.set_cons_zero, List.set_cons_succ]
    rfl
  refine last_ (i := 19) (N := none) #[true, true, true, true, true, true, true, true, true, true, true, true, true, true, true, true, true, true, true, true] rfl rfl (one_of HT_.out (by kernel_rfl)) (by decide) (fun K hK => ?_)
  refine skip_ (w1 := ?_) (by rfl) rfl ?_ ?_
  rotate_left
  · go_simp
    try rfl
  refine hK.out _ _ ?_
  clear hK K
  refine done_ (done_of HT_.out (by kernel_rfl)) ?_
  clear HT_ HW_
  go_upto_region 9 with fail
  refine gen_world (fun W => ∃ e, e = ((b2 * 256 + b3) * 256 + b4) * 256 + b5 ∧ RD w W g2 g4 #[.int .i64 kd, .int .i64 b1, .int .i64 e, .string ⟨#[]⟩, .string ⟨#[]⟩, .slice none 0 0, .slice none 0 0] (.slice none 0 0) [] (.slice none 0 0) []) ⟨_, ?_, D5.out.drew.put 2 _⟩ ?_
  · have f : ∀ x : Int, 0 ≤ x → x < 4611686018427387904 → IntKind.i64.wrap x = x := fun x h1 h2 => by rw [IntKind.wrap_i64]; omega
    rw [f b2 (by omega) (by omega), f b3 (by omega) (by omega), f b4 (by omega) (by omega), f b5 (by omega) (by omega), f (b2 * 16777216) (by omega) (by omega), f (b3 * 65536) (by omega) (by omega), f (b4 * 256) (by omega) (by omega), f (b2 * 16777216 + b3 * 65536) (by omega) (by omega), f (b2 * 16777216 + b3 * 65536 + b4 * 256) (by omega) (by omega), f (b2 * 16777216 + b3 * 65536 + b4 * 256 + b5) (by omega) (by omega)]
    omega
  rintro w6 ⟨e, he, D⟩
  have D6 := Lib.hid D
  have EU := Lib.hid (show uL a0.data.toList = b1 by rw [uL_bd _ (by rw [hlen]; have := H38.out; omega)]; exact hb1.out)
  have EQ := Lib.hid (show qL a0.data.toList = e by rw [qL_bd _ (by rw [hlen]; have := H38.out; omega), hb2.out, hb3.out, hb4.out, hb5.out]; exact he.symm)
  obtain ⟨r6, R6⟩ : ∃ r, Hid (a0.data.toList.drop 6 = r) := ⟨_, Lib.hid rfl⟩
  have hsl6 : a0.extract 6 a0.size = tx r6 := by rw [← R6.out]; exact ex_drop a0 6
  have hb6 : (6 : Int) ≤ (a0.size : Int) := by have := H38.out; omega
  have HL6 := Lib.hid (show r6.length = a0.size - 6 by rw [← R6.out, List.length_drop, hlen])
  clear he D D5 hi1 hi2 hi3 hi4 hi5 hB1 hB2 hB3 hB4 hB5 hb1 hb2 hb3 hb4 hb5 hlen ha0 m2 n2 hx hl qi
  have KK3 : (kd != 3) = true := bne_iff_ne.mpr (by have := HK2.out; omega)
  have KK3b : (kd == 3) = false := beq_eq_false_iff_ne.mpr (by have := HK2.out; omega)
  have KK4 : (kd == 4) = false := beq_eq_false_iff_ne.mpr (by have := HK2.out; omega)
  have m0 : w6.cell? ⟨g4, 0, none⟩ = some (.int .i64 kd) := D6.out.h4.cell 0
  have n0 := D6.out.h4.frozen 0
  have m1 : w6.cell? ⟨g4, 1, none⟩ = some (.int .i64 b1) := D6.out.h4.cell 1
  have n1 := D6.out.h4.frozen 1
  have m2 : w6.cell? ⟨g4, 2, none⟩ = some (.int .i64 e) := D6.out.h4.cell 2
  have n2 := D6.out.h4.frozen 2
  have m3 : w6.cell? ⟨g4, 3, none⟩ = some (.string ⟨#[]⟩) := D6.out.h4.cell 3
  have n3 := D6.out.h4.frozen 3
  have m4 : w6.cell? ⟨g4, 4, none⟩ = some (.string ⟨#[]⟩) := D6.out.h4.cell 4
  have n4 := D6.out.h4.frozen 4
  have m5 : w6.cell? ⟨g4, 5, none⟩ = some (.slice none 0 0) := D6.out.h4.cell 5
  have n5 := D6.out.h4.frozen 5
  have m6 : w6.cell? ⟨g4, 6, none⟩ = some (.slice none 0 0) := D6.out.h4.cell 6
  have n6 := D6.out.h4.frozen 6
  obtain ⟨tg, TG⟩ : ∃ r, Hid (r6.take 32 = r) := ⟨_, Lib.hid rfl⟩
  obtain ⟨r7, R7⟩ : ∃ r, Hid (r6.drop 32 = r) := ⟨_, Lib.hid rfl⟩
  have htk : (tx r6).extract 0 32 = tx tg := by rw [← TG.out]; exact tx_take r6 32
  have hdr : (tx r6).extract 32 (tx r6).size = tx r7 := by rw [← R7.out]; exact tx_drop r6 32
  have hb32 : (32 : Int) ≤ ((tx r6).size : Int) := by rw [tx_size, HL6.out]; have := H38.out; omega
  go_upto_region 13 with fail
  refine gen_world (fun W => ∃ vs vi, RD w W g2 g4 #[.int .i64 kd, .int .i64 b1, .int .i64 e, .string ⟨#[]⟩, .string (tx tg), vs, vi] vs [] vi []) ?_ ?_
  · exact ⟨_, _, D6.out.put 4 _⟩
  rintro w7 ⟨vs, vi, D⟩
  have D7 := Lib.hid D
  clear D m0 n0 m1 n1 m2 n2 m3 n3 m4 n4 m5 n5 m6 n6 hsl6 htk hdr hb6 hb32 D6
  have ETAG := Lib.hid (show (tx ((r3L a0.data.toList).take 32)) = tx tg by rw [r3L_eq, R6.out, TG.out])
  have ELS := Lib.hid (show ([] : List S43) = [] from rfl)
  have ELI := Lib.hid (show ([] : List ByteArray) = [] from rfl)
  have MC2 := Lib.hid (show dovecoteref11_Check.f kE kd b1 e ⟨#[]⟩ (tx tg) [] [] = some c by rw [← EU.out, ← EQ.out, ← ETAG.out]; exact MC.out)
  have MT2 := Lib.hid (show c = 0 → dovecoteref11_Text.f kE kd b1 e ⟨#[]⟩ (tx tg) [] [] = some t by rw [← EU.out, ← EQ.out, ← ETAG.out]; exact MT.out)
  clear MC MT
  go_wp2_with fail
  go_loopg [5] 1 (fun kq v wr => kq = 1 ∧ v = .string (tx r7) ∧ Hid (RD w wr g2 g4 #[.int .i64 kd, .int .i64 b1, .int .i64 e, .string ⟨#[]⟩, .string (tx tg), vs, vi] vs [] vi []))
  case atStart => exact ⟨rfl, rfl, D7⟩
  case round =>
    clear D7
    obtain ⟨rfl, rfl, D8⟩ := hrel
    have m0 : wr.cell? ⟨g4, 0, none⟩ = some (.int .i64 kd) := D8.out.h4.cell 0
    go_wp2_with fail
    go_loopg [5] 1 (fun kq v wr => kq = 1 ∧ v = .string (tx r7) ∧ Hid (RD w wr g2 g4 #[.int .i64 kd, .int .i64 b1, .int .i64 e, .string ⟨#[]⟩, .string (tx tg), vs, vi] vs [] vi []))
    case atStart => exact ⟨rfl, rfl, D8⟩
    case round =>
      clear D8
      obtain ⟨rfl, rfl, D8⟩ := hrel
      have m0 : wr.cell? ⟨g4, 0, none⟩ = some (.int .i64 kd) := D8.out.h4.cell 0
      obtain ⟨B5, d5, e5, hd5, s5⟩ := Kd.R_reads D8.out.rs
      obtain ⟨B6, d6, e6, hd6, s6⟩ := Kd.R_reads D8.out.ri
      subst e5 e6
      have S5 := Lib.hid s5
      have S6 := Lib.hid s6
      have H5 := Lib.hid hd5
      have H6 := Lib.hid hd6
      clear hd5 hd6 s5 s6
      have m0 : wr.cell? ⟨g4, 0, none⟩ = some (.int .i64 kd) := D8.out.h4.cell 0
      have m1 : wr.cell? ⟨g4, 1, none⟩ = some (.int .i64 b1) := D8.out.h4.cell 1
      have m2 : wr.cell? ⟨g4, 2, none⟩ = some (.int .i64 e) := D8.out.h4.cell 2
      have m3 : wr.cell? ⟨g4, 3, none⟩ = some (.string ⟨#[]⟩) := D8.out.h4.cell 3
      have m4 : wr.cell? ⟨g4, 4, none⟩ = some (.string (tx tg)) := D8.out.h4.cell 4
      have m5 : wr.cell? ⟨g4, 5, none⟩ = some (.slice B5 (([] : List S43)).length d5) := D8.out.h4.cell 5
      have m6 : wr.cell? ⟨g4, 6, none⟩ = some (.slice B6 (([] : List ByteArray)).length d6) := D8.out.h4.cell 6
      go_wp2_with fail
      refine (dovecoteref11_Check.calls kE kd b1 e ⟨#[]⟩ (tx tg) B5 d5 (([] : List S43)) B6 d6 (([] : List ByteArray)) c _ S5.out H5.out S6.out H6.out MC2.out).mono ?_
      rintro e' wa ⟨rfl, ba⟩
      have DA := Lib.hid (D8.out.below ba)
      have SA5 := Lib.hid (Kd.C_below S5.out ba)
      have SA6 := Lib.hid (Kd.C_below S6.out ba)
      clear m0 m1 m2 m3 m4 m5 m6
      clear ba D8 S5 S6
      by_cases hc0 : c = 0
      · subst hc0
        have m0 : wa.cell? ⟨g4, 0, none⟩ = some (.int .i64 kd) := DA.out.h4.cell 0
        have m1 : wa.cell? ⟨g4, 1, none⟩ = some (.int .i64 b1) := DA.out.h4.cell 1
        have m2 : wa.cell? ⟨g4, 2, none⟩ = some (.int .i64 e) := DA.out.h4.cell 2
        have m3 : wa.cell? ⟨g4, 3, none⟩ = some (.string ⟨#[]⟩) := DA.out.h4.cell 3
        have m4 : wa.cell? ⟨g4, 4, none⟩ = some (.string (tx tg)) := DA.out.h4.cell 4
        have m5 : wa.cell? ⟨g4, 5, none⟩ = some (.slice B5 (([] : List S43)).length d5) := DA.out.h4.cell 5
        have m6 : wa.cell? ⟨g4, 6, none⟩ = some (.slice B6 (([] : List ByteArray)).length d6) := DA.out.h4.cell 6
        go_wp2_with fail
        refine (dovecoteref11_Text.calls kE kd b1 e ⟨#[]⟩ (tx tg) B5 d5 (([] : List S43)) B6 d6 (([] : List ByteArray)) t _ SA5.out H5.out SA6.out H6.out (by first | exact MT2.out rfl | exact MT2.out trivial)).mono ?_
        rintro e' wb ⟨rfl, bb⟩
        have DB := Lib.hid (DA.out.below bb)
        clear m0 m1 m2 m3 m4 m5 m6
        clear bb DA SA5 SA6
        by_cases ht : t.toList = a0.toList
        · have htb : (t.toList == a0.toList) = true := beq_iff_eq.mpr ht
          have HYES := Lib.hid ht
          clear ht
          have m0 : wb.cell? ⟨g4, 0, none⟩ = some (.int .i64 kd) := DB.out.h4.cell 0
          have m1 : wb.cell? ⟨g4, 1, none⟩ = some (.int .i64 b1) := DB.out.h4.cell 1
          have m2 : wb.cell? ⟨g4, 2, none⟩ = some (.int .i64 e) := DB.out.h4.cell 2
          have m3 : wb.cell? ⟨g4, 3, none⟩ = some (.string ⟨#[]⟩) := DB.out.h4.cell 3
          have m4 : wb.cell? ⟨g4, 4, none⟩ = some (.string (tx tg)) := DB.out.h4.cell 4
          have m5 : wb.cell? ⟨g4, 5, none⟩ = some (.slice B5 (([] : List S43)).length d5) := DB.out.h4.cell 5
          have m6 : wb.cell? ⟨g4, 6, none⟩ = some (.slice B6 (([] : List ByteArray)).length d6) := DB.out.h4.cell 6
          have k0 : wb.cell? ⟨g2, 0, none⟩ = some (.int .i64 0) := DB.out.h2.cell 0
          have l0 := DB.out.h2.frozen 0
          have k1 : wb.cell? ⟨g2, 1, none⟩ = some (.int .i64 0) := DB.out.h2.cell 1
          have l1 := DB.out.h2.frozen 1
          have k2 : wb.cell? ⟨g2, 2, none⟩ = some (.int .i64 0) := DB.out.h2.cell 2
          have l2 := DB.out.h2.frozen 2
          have k3 : wb.cell? ⟨g2, 3, none⟩ = some (.string ⟨#[]⟩) := DB.out.h2.cell 3
          have l3 := DB.out.h2.frozen 3
          have k4 : wb.cell? ⟨g2, 4, none⟩ = some (.string ⟨#[]⟩) := DB.out.h2.cell 4
          have l4 := DB.out.h2.frozen 4
          have k5 : wb.cell? ⟨g2, 5, none⟩ = some (.slice none 0 0) := DB.out.h2.cell 5
          have l5 := DB.out.h2.frozen 5
          have k6 : wb.cell? ⟨g2, 6, none⟩ = some (.slice none 0 0) := DB.out.h2.cell 6
          have l6 := DB.out.h2.frozen 6
          have d24 := DB.out.d
          have d42 := DB.out.d.symm
          go_wp2_with fail
          refine gen_body (fun W => RE w W g2 #[.int .i64 kd, .int .i64 b1, .int .i64 e, .string ⟨#[]⟩, .string (tx tg), .slice B5 (([] : List S43)).length d5, .slice B6 (([] : List ByteArray)).length d6] (.slice B5 (([] : List S43)).length d5) (([] : List S43)) (.slice B6 (([] : List ByteArray)).length d6) (([] : List ByteArray))) ?_ ?_
          · exact (RE.put (RE.put (RE.put (RE.put (RE.put (RE.put (RE.put DB.out.re 0 _) 1 _) 2 _) 3 _) 4 _) 5 _) 6 _)
          intro W' E
          refine bodyPost_ret (results_ct rfl _ _ g2 25 #[.int .i64 kd, .int .i64 b1, .int .i64 e, .string ⟨#[]⟩, .string (tx tg), .slice B5 (([] : List S43)).length d5, .slice B6 (([] : List ByteArray)).length d6] (0, 0) _ rfl E.h2 Try.underlying25 rfl rfl) rfl ?_
          exact ⟨fun _ => ⟨_, _, by rw [EU.out, EQ.out, ETAG.out]; rfl, by first | exact E.rs | (rw [ELS.out]; exact E.rs), by first | exact E.ri | (rw [ELI.out]; exact E.ri), E.b⟩, fun h => absurd (by first | exact HYES.out | exact ⟨rfl, HYES.out⟩ | exact ⟨trivial, HYES.out⟩) h⟩
        · have htb : (t.toList == a0.toList) = false := beq_eq_false_iff_ne.mpr ht
          have HNO := Lib.hid ht
          clear ht
          have k0 : wb.cell? ⟨g2, 0, none⟩ = some (.int .i64 0) := DB.out.h2.cell 0
          have l0 := DB.out.h2.frozen 0
          have k1 : wb.cell? ⟨g2, 1, none⟩ = some (.int .i64 0) := DB.out.h2.cell 1
          have l1 := DB.out.h2.frozen 1
          have k2 : wb.cell? ⟨g2, 2, none⟩ = some (.int .i64 0) := DB.out.h2.cell 2
          have l2 := DB.out.h2.frozen 2
          have k3 : wb.cell? ⟨g2, 3, none⟩ = some (.string ⟨#[]⟩) := DB.out.h2.cell 3
          have l3 := DB.out.h2.frozen 3
          have k4 : wb.cell? ⟨g2, 4, none⟩ = some (.string ⟨#[]⟩) := DB.out.h2.cell 4
          have l4 := DB.out.h2.frozen 4
          have k5 : wb.cell? ⟨g2, 5, none⟩ = some (.slice none 0 0) := DB.out.h2.cell 5
          have l5 := DB.out.h2.frozen 5
          have k6 : wb.cell? ⟨g2, 6, none⟩ = some (.slice none 0 0) := DB.out.h2.cell 6
          have l6 := DB.out.h2.frozen 6
          go_wp2_with fail
          refine gen_body (fun W => RE w W g2 Z7 (.slice B5 (([] : List S43)).length d5) (([] : List S43)) (.slice B6 (([] : List ByteArray)).length d6) (([] : List ByteArray))) ?_ ?_
          · exact (RE.put (RE.put (RE.put (RE.put (RE.put (RE.put (RE.put DB.out.re 0 _) 1 _) 2 _) 3 _) 4 _) 5 _) 6 _)
          intro W' E
          refine bodyPost_ret (results_ct rfl _ _ g2 25 Z7 (0, 0) _ rfl E.h2 Try.underlying25 rfl rfl) rfl ?_
          exact ⟨fun h => absurd (by first | exact h | exact h.1 | exact h.2) HNO.out, fun _ => DecOut.zero E.b⟩
      · have hcb : (c != 0) = true := bne_iff_ne.mpr hc0
        have HNO := Lib.hid hc0
        clear hc0
        have k0 : wa.cell? ⟨g2, 0, none⟩ = some (.int .i64 0) := DA.out.h2.cell 0
        have l0 := DA.out.h2.frozen 0
        have k1 : wa.cell? ⟨g2, 1, none⟩ = some (.int .i64 0) := DA.out.h2.cell 1
        have l1 := DA.out.h2.frozen 1
        have k2 : wa.cell? ⟨g2, 2, none⟩ = some (.int .i64 0) := DA.out.h2.cell 2
        have l2 := DA.out.h2.frozen 2
        have k3 : wa.cell? ⟨g2, 3, none⟩ = some (.string ⟨#[]⟩) := DA.out.h2.cell 3
        have l3 := DA.out.h2.frozen 3
        have k4 : wa.cell? ⟨g2, 4, none⟩ = some (.string ⟨#[]⟩) := DA.out.h2.cell 4
        have l4 := DA.out.h2.frozen 4
        have k5 : wa.cell? ⟨g2, 5, none⟩ = some (.slice none 0 0) := DA.out.h2.cell 5
        have l5 := DA.out.h2.frozen 5
        have k6 : wa.cell? ⟨g2, 6, none⟩ = some (.slice none 0 0) := DA.out.h2.cell 6
        have l6 := DA.out.h2.frozen 6
        go_wp2_with fail
        refine gen_body (fun W => RE w W g2 Z7 (.slice B5 (([] : List S43)).length d5) (([] : List S43)) (.slice B6 (([] : List ByteArray)).length d6) (([] : List ByteArray))) ?_ ?_
        · exact (RE.put (RE.put (RE.put (RE.put (RE.put (RE.put (RE.put DA.out.re 0 _) 1 _) 2 _) 3 _) 4 _) 5 _) 6 _)
        intro W' E
        refine bodyPost_ret (results_ct rfl _ _ g2 25 Z7 (0, 0) _ rfl E.h2 Try.underlying25 rfl rfl) rfl ?_
        exact ⟨fun h => absurd (by first | exact h | exact h.1 | exact h.2) HNO.out, fun _ => DecOut.zero E.b⟩
end Go.Proofs.Ytidilhnjfdkmpaa
namespace Go.Proofs.Ytidilhnjfdkmpaa
open Go.RowKit Go.Proofs.Ytidilhnjfdkmpaa.PMailA Go.Proofs.YtidilhnjfdkmpaaW.PrintWords Go.Proofs.YtidilhnjfdkmpaaW.PrintLast Go.Proofs.YtidilhnjfdkmpaaW.PrintMore
attribute [local go_sem] max2_int min2_int max_two min_two
set_option linter.unusedSimpArgs false
set_option linter.unusedVariables false
set_option maxHeartbeats 800000 in
theorem rdec_four (a0 : ByteArray) (n kd : Int) (w : World) (q : 0 < a0.size) (hk : wrap64 (bt a0 0) = kd) (hn : dovecoteref11_Long.f kd = some n) (h1 : (a0.size : Int) = n) (k1 : ¬ kd = 1) (h38 : 38 ≤ a0.size) (k2 : kd = 4) (hz : a0.size = 102) (kE : Nat) (c : Int) (t : ByteArray) (mC : dovecoteref11_Check.f kE kd (uL a0.data.toList) (qL a0.data.toList) ⟨#[]⟩ (tx ((r3L a0.data.toList).take 32)) [] (dIds 4 ((r3L a0.data.toList).drop 32) []) = some c) (mT : c = 0 → dovecoteref11_Text.f kE kd (uL a0.data.toList) (qL a0.data.toList) ⟨#[]⟩ (tx ((r3L a0.data.toList).take 32)) [] (dIds 4 ((r3L a0.data.toList).drop 32) []) = some t) :
    Calls Try.prog 17 #[.string a0] w fun e w' => (c = 0 ∧ t.toList = a0.toList → DecOut w kd (uL a0.data.toList) (qL a0.data.toList) ⟨#[]⟩ (tx ((r3L a0.data.toList).take 32)) [] (dIds 4 ((r3L a0.data.toList).drop 32) []) 0 e w') ∧ (¬ (c = 0 ∧ t.toList = a0.toList) → DecOut w 0 0 0 ⟨#[]⟩ ⟨#[]⟩ [] [] 110 e w') := by
  have K1 : (kd == 1) = false := beq_eq_false_iff_ne.mpr k1
  clear k1
  have H38 := Lib.hid h38
  have HZZ := Lib.hid hz
  have HK2 := Lib.hid k2
  clear h38 hz k2
  have MC := Lib.hid mC
  have MT := Lib.hid mT
  clear mC mT
  have hx := bt_at' a0
  have hl := list_ne q
  have qi : (0 < (a0.size : Int)) = True := eq_true (by omega)
  have q' : (0 < a0.size) = True := eq_true q
  have hc : ((a0.size : Int) != n) = false := bne_eq_false_iff_eq.mpr h1
  have HN := Lib.hid hn
  clear h1 hn
  go_enter Try.func17, Try.ntmps17
  go_upto_region 1 with fail
  refine gen_world (fun W => Blk W w.heap.size 25 Z7 ∧ Below w.heap.size w W) ?_ ?_
  · exact ⟨Blk.new w _ _, below_alloc (Below.refl _ _) _⟩
  rintro w1 ⟨hz, hb⟩
  have HZ := Lib.hid hz
  have HB := Lib.hid hb
  obtain ⟨g2, G2⟩ : ∃ g, Hid (w.heap.size = g) := ⟨_, Lib.hid rfl⟩
  rw [G2.out]
  have HZ := Lib.hid (show Blk w1 g2 25 Z7 by rw [← G2.out]; exact hz)
  clear hz hb
  go_wp2_with fail
  refine (dovecoteref11_Long.calls kd n _ HN.out).mono ?_
  rintro e w2 ⟨rfl, hd⟩
  have HZ2 := Lib.hid (show Blk w2 g2 25 Z7 by obtain ⟨nd, rfl⟩ := hd; exact HZ.out)
  have HB2 := Lib.hid (show Below w.heap.size w w2 by obtain ⟨nd, rfl⟩ := hd; exact pw_below_drewN HB.out nd)
  clear hd HZ HB
  have HZ := HZ2
  have HB := HB2
  clear HZ2 HB2
  go_upto_region 4 with (first | ((with_reducible refine gate_dst (N := 4) rfl ?_); refine box_event ?hg (N := 4) ?hd (cs := Z7) (t := 25) ?hr ?_; (case hd => rfl); (case hg => rfl); (case hr => first | (go_simp; done) | (go_simp; rfl)); intro g4 hg w3 hbox hb; subst hg; have hz0 : w3.cell? ⟨w2.heap.size, 0, none⟩ = some (.int .i64 0) := blk_cell hbox 0; have fz0 := blk_frozen hbox 0; have hz1 : w3.cell? ⟨w2.heap.size, 1, none⟩ = some (.int .i64 0) := blk_cell hbox 1; have fz1 := blk_frozen hbox 1; have hz2 : w3.cell? ⟨w2.heap.size, 2, none⟩ = some (.int .i64 0) := blk_cell hbox 2; have fz2 := blk_frozen hbox 2; have hz3 : w3.cell? ⟨w2.heap.size, 3, none⟩ = some (.string ⟨#[]⟩) := blk_cell hbox 3; have fz3 := blk_frozen hbox 3; have hz4 : w3.cell? ⟨w2.heap.size, 4, none⟩ = some (.string ⟨#[]⟩) := blk_cell hbox 4; have fz4 := blk_frozen hbox 4; have hz5 : w3.cell? ⟨w2.heap.size, 5, none⟩ = some (.slice none 0 0) := blk_cell hbox 5; have fz5 := blk_frozen hbox 5; have hz6 : w3.cell? ⟨w2.heap.size, 6, none⟩ = some (.slice none 0 0) := blk_cell hbox 6; have fz6 := blk_frozen hbox 6))
  refine gen_world (fun W => RD w W g2 w2.heap.size #[.int .i64 kd, .int .i64 0, .int .i64 0, .string ⟨#[]⟩, .string ⟨#[]⟩, .slice none 0 0, .slice none 0 0] (.slice none 0 0) [] (.slice none 0 0) []) ?_ ?_
  · exact (RD.put (RD.put (RD.put (RD.put (RD.put (RD.put (RD.put (RD.mk (w0 := w) (w := w3) (HB.out.trans (hb.mono HB.out.size)) (HZ.out.below hb HZ.out.lt) hbox (by rw [G2.out]; exact Nat.le_refl _) HB.out.size (Nat.ne_of_lt HZ.out.lt) (Kd.R_nil _ _ _ _ _) (Kd.R_nil _ _ _ _ _)) 0 _) 1 _) 2 _) 3 _) 4 _) 5 _) 6 _)
  obtain ⟨g4, G4⟩ : ∃ g, g = w2.heap.size := ⟨_, rfl⟩
  rw [← G4]
  clear G4 hbox hb hz0 hz1 hz2 hz3 hz4 hz5 hz6 fz0 fz1 fz2 fz3 fz4 fz5 fz6 HZ HB HN G2
  intro w4 D
  have D4 := Lib.hid D
  clear D
  have hlen : a0.data.toList.length = a0.size := Array.length_toList
  have ha0 := Lib.hid (show a0 = tx a0.data.toList from tx_of a0)
  obtain ⟨b1, hb1⟩ : ∃ b, Hid (n8 (bd a0.data.toList 1) = b) := ⟨_, Lib.hid rfl⟩
  have hB1 : 0 ≤ b1 ∧ b1 < 256 := by rw [← hb1.out]; exact n8_bd _
  have hi1 : ∀ w, (Instr.index 9 (.string a0) (.int .i64 1)).run Try.prog w = .ok (.int .u8 b1) w := fun w => by
    have := index_run a0.data.toList 1 (by rw [hlen]; have := H38.out; omega) w
    rw [← ha0.out, hb1.out] at this
    exact this
  obtain ⟨b2, hb2⟩ : ∃ b, Hid (n8 (bd a0.data.toList 2) = b) := ⟨_, Lib.hid rfl⟩
  have hB2 : 0 ≤ b2 ∧ b2 < 256 := by rw [← hb2.out]; exact n8_bd _
  have hi2 : ∀ w, (Instr.index 9 (.string a0) (.int .i64 2)).run Try.prog w = .ok (.int .u8 b2) w := fun w => by
    have := index_run a0.data.toList 2 (by rw [hlen]; have := H38.out; omega) w
    rw [← ha0.out, hb2.out] at this
    exact this
  obtain ⟨b3, hb3⟩ : ∃ b, Hid (n8 (bd a0.data.toList 3) = b) := ⟨_, Lib.hid rfl⟩
  have hB3 : 0 ≤ b3 ∧ b3 < 256 := by rw [← hb3.out]; exact n8_bd _
  have hi3 : ∀ w, (Instr.index 9 (.string a0) (.int .i64 3)).run Try.prog w = .ok (.int .u8 b3) w := fun w => by
    have := index_run a0.data.toList 3 (by rw [hlen]; have := H38.out; omega) w
    rw [← ha0.out, hb3.out] at this
    exact this
  obtain ⟨b4, hb4⟩ : ∃ b, Hid (n8 (bd a0.data.toList 4) = b) := ⟨_, Lib.hid rfl⟩
  have hB4 : 0 ≤ b4 ∧ b4 < 256 := by rw [← hb4.out]; exact n8_bd _
  have hi4 : ∀ w, (Instr.index 9 (.string a0) (.int .i64 4)).run Try.prog w = .ok (.int .u8 b4) w := fun w => by
    have := index_run a0.data.toList 4 (by rw [hlen]; have := H38.out; omega) w
    rw [← ha0.out, hb4.out] at this
    exact this
  obtain ⟨b5, hb5⟩ : ∃ b, Hid (n8 (bd a0.data.toList 5) = b) := ⟨_, Lib.hid rfl⟩
  have hB5 : 0 ≤ b5 ∧ b5 < 256 := by rw [← hb5.out]; exact n8_bd _
  have hi5 : ∀ w, (Instr.index 9 (.string a0) (.int .i64 5)).run Try.prog w = .ok (.int .u8 b5) w := fun w => by
    have := index_run a0.data.toList 5 (by rw [hlen]; have := H38.out; omega) w
    rw [← ha0.out, hb5.out] at this
    exact this
  have m0 : w4.cell? ⟨g4, 0, none⟩ = some (.int .i64 kd) := D4.out.h4.cell 0
  have n0 := D4.out.h4.frozen 0
  have m1 : w4.cell? ⟨g4, 1, none⟩ = some (.int .i64 0) := D4.out.h4.cell 1
  have n1 := D4.out.h4.frozen 1
  have m2 : w4.cell? ⟨g4, 2, none⟩ = some (.int .i64 0) := D4.out.h4.cell 2
  have n2 := D4.out.h4.frozen 2
  have m3 : w4.cell? ⟨g4, 3, none⟩ = some (.string ⟨#[]⟩) := D4.out.h4.cell 3
  have n3 := D4.out.h4.frozen 3
  have m4 : w4.cell? ⟨g4, 4, none⟩ = some (.string ⟨#[]⟩) := D4.out.h4.cell 4
  have n4 := D4.out.h4.frozen 4
  have m5 : w4.cell? ⟨g4, 5, none⟩ = some (.slice none 0 0) := D4.out.h4.cell 5
  have n5 := D4.out.h4.frozen 5
  have m6 : w4.cell? ⟨g4, 6, none⟩ = some (.slice none 0 0) := D4.out.h4.cell 6
  have n6 := D4.out.h4.frozen 6
  go_upto_region 8 with fail
  refine gen_world (fun W => RD w W g2 g4 #[.int .i64 kd, .int .i64 b1, .int .i64 0, .string ⟨#[]⟩, .string ⟨#[]⟩, .slice none 0 0, .slice none 0 0] (.slice none 0 0) [] (.slice none 0 0) []) ?_ ?_
  · exact D4.out.put 1 _
  clear m0 n0 m1 n1 m2 n2 m3 n3 m4 n4 m5 n5 m6 n6 D4
  intro w5 D
  have D5 := Lib.hid D
  clear D
  have m2 : w5.drew.cell? ⟨g4, 2, none⟩ = some (.int .i64 0) := D5.out.h4.cell 2
  have n2 : w5.drew.frozen? ⟨g4, 2, none⟩ = false := D5.out.h4.frozen 2
  refine start_ (n := 20) (S := fun _ => True) (ds := [19]) #[false, false, false, false, false, false, false, false, false, false, false, false, false, false, false, false, false, false, false, false] (by kernel_rfl) rfl rfl trivial (fun hHeld => ?_)
  refine with_tabW rd8.tab rd8.bits (fun HT_ HW_ => ?_)
  refine pure_ (i := 0) (N := some 34) (v := ?_) (a' := ?_) #[true, false, false, false, false, false, false, false, false, false, false, false, false, false, false, false, false, false, false, false] rfl rfl (any_of HT_.out (by kernel_rfl)) (fun _ _ _ h => h) (Or.inl ⟨by rfl, ?_⟩) ?_ ?_
  rotate_left
  · intro w'
    go_simp
    try with_reducible rfl
  rotate_left
  · simp only [Act.put, List.setIfInBounds_toArray, List.set_cons_zero, List.set_cons_succ]
    rfl
  refine pure_ (i := 1) (N := some 35) (v := ?_) (a' := ?_) #[true, true, false, false, false, false, false, false, false, false, false, false, false, false, false, false, false, false, false, false] rfl rfl (any_of HT_.out (by kernel_rfl)) (fun _ _ _ h => h) (Or.inl ⟨by rfl, ?_⟩) ?_ ?_
  rotate_left
  · intro w'
    go_simp
    try with_reducible rfl
  rotate_left
  · simp only [Act.put, List.setIfInBounds_toArray, List.set_cons_zero, List.set_cons_succ]
    rfl
  refine pure_ (i := 2) (N := some 36) (v := ?_) (a' := ?_) #[true, true, true, false, false, false, false, false, false, false, false, false, false, false, false, false, false, false, false, false] rfl rfl (any_of HT_.out (by kernel_rfl)) (fun _ _ _ h => h) (Or.inl ⟨by rfl, ?_⟩) ?_ ?_
  rotate_left
  · intro w'
    go_simp
    try with_reducible rfl
  rotate_left
  · simp only [Act.put, List.setIfInBounds_toArray, List.set_cons_zero, List.set_cons_succ]
    rfl
  refine pure_ (i := 3) (N := some 37) (v := ?_) (a' := ?_) #[true, true, true, true, false, false, false, false, false, false, false, false, false, false, false, false, false, false, false, false] rfl rfl (any_of HT_.out (by kernel_rfl)) (fun _ _ _ h => h) (Or.inl ⟨by rfl, ?_⟩) ?_ ?_
  rotate_left
  · intro w'
    go_simp
    try with_reducible rfl
  rotate_left
  · simp only [Act.put, List.setIfInBounds_toArray, List.set_cons_zero, List.set_cons_succ]
    rfl
  refine pure_ (i := 4) (N := some 38) (v := ?_) (a' := ?_) #[true, true, true, true, true, false, false, false, false, false, false, false, false, false, false, false, false, false, false, false] rfl rfl (any_of HT_.out (by kernel_rfl)) (fun _ _ _ h => h) (Or.inl ⟨by rfl, ?_⟩) ?_ ?_
  rotate_left
  · intro w'
    go_simp
    try with_reducible rfl
  rotate_left
  · simp only [Act.put, List.setIfInBounds_toArray, List.set_cons_zero, List.set_cons_succ]
    rfl
  refine pure_ (i := 5) (N := some 39) (v := ?_) (a' := ?_) #[true, true, true, true, true, true, false, false, false, false, false, false, false, false, false, false, false, false, false, false] rfl rfl (any_of HT_.out (by kernel_rfl)) (fun _ _ _ h => h) (Or.inl ⟨by rfl, ?_⟩) ?_ ?_
  rotate_left
  · intro w'
    go_simp
    try with_reducible rfl
  rotate_left
  · simp only [Act.put, List.setIfInBounds_toArray, List.set_cons_zero, List.set_cons_succ]
    rfl
  refine pure_ (i := 6) (N := some 40) (v := ?_) (a' := ?_) #[true, true, true, true, true, true, true, false, false, false, false, false, false, false, false, false, false, false, false, false] rfl rfl (any_of HT_.out (by kernel_rfl)) (fun _ _ _ h => h) (Or.inl ⟨by rfl, ?_⟩) ?_ ?_
  rotate_left
  · intro w'
    go_simp
    try with_reducible rfl
  rotate_left
  · simp only [Act.put, List.setIfInBounds_toArray, List.set_cons_zero, List.set_cons_succ]
    rfl
  refine pure_ (i := 7) (N := some 41) (v := ?_) (a' := ?_) #[true, true, true, true, true, true, true, true, false, false, false, false, false, false, false, false, false, false, false, false] rfl rfl (any_of HT_.out (by kernel_rfl)) (fun _ _ _ h => h) (Or.inl ⟨by rfl, ?_⟩) ?_ ?_
  rotate_left
  · intro w'
    go_simp
    try with_reducible rfl
  rotate_left
  · simp only [Act.put, List.setIfInBounds_toArray, List.set_cons_zero, List.set_cons_succ]
    rfl
  refine pure_ (i := 8) (N := some 42) (v := ?_) (a' := ?_) #[true, true, true, true, true, true, true, true, true, false, false, false, false, false, false, false, false, false, false, false] rfl rfl (any_of HT_.out (by kernel_rfl)) (fun _ _ _ h => h) (Or.inl ⟨by rfl, ?_⟩) ?_ ?_
  rotate_left
  · intro w'
    go_simp
    try with_reducible rfl
  rotate_left
  · simp only [Act.put, List.setIfInBounds_toArray, List.set_cons_zero, List.set_cons_succ]
    rfl
  refine pure_ (i := 9) (N := some 43) (v := ?_) (a' := ?_) #[true, true, true, true, true, true, true, true, true, true, false, false, false, false, false, false, false, false, false, false] rfl rfl (any_of HT_.out (by kernel_rfl)) (fun _ _ _ h => h) (Or.inl ⟨by rfl, ?_⟩) ?_ ?_
  rotate_left
  · intro w'
    go_simp
    try with_reducible rfl
  rotate_left
  · simp only [Act.put, List.setIfInBounds_toArray, List.set_cons_zero, List.set_cons_succ]
    rfl
  refine pure_ (i := 10) (N := some 44) (v := ?_) (a' := ?_) #[true, true, true, true, true, true, true, true, true, true, true, false, false, false, false, false, false, false, false, false] rfl rfl (any_of HT_.out (by kernel_rfl)) (fun _ _ _ h => h) (Or.inl ⟨by rfl, ?_⟩) ?_ ?_
  rotate_left
  · intro w'
    go_simp
    try with_reducible rfl
  rotate_left
  · simp only [Act.put, List.setIfInBounds_toArray, List.set_cons_zero, List.set_cons_succ]
    rfl
  refine pure_ (i := 11) (N := some 45) (v := ?_) (a' := ?_) #[true, true, true, true, true, true, true, true, true, true, true, true, false, false, false, false, false, false, false, false] rfl rfl (any_of HT_.out (by kernel_rfl)) (fun _ _ _ h => h) (Or.inl ⟨by rfl, ?_⟩) ?_ ?_
  rotate_left
  · intro w'
    go_simp
    try with_reducible rfl
  rotate_left
  · simp only [Act.put, List.setIfInBounds_toArray, List.set_cons_zero, List.set_cons_succ]
    rfl
  refine pure_ (i := 12) (N := some 46) (v := ?_) (a' := ?_) #[true, true, true, true, true, true, true, true, true, true, true, true, true, false, false, false, false, false, false, false] rfl rfl (any_of HT_.out (by kernel_rfl)) (fun _ _ _ h => h) (Or.inl ⟨by rfl, ?_⟩) ?_ ?_
  rotate_left
  · intro w'
    go_simp
    try with_reducible rfl
  rotate_left
  · simp only [Act.put, List.setIfInBounds_toArray, List.set_cons_zero, List.set_cons_succ]
    rfl
  refine pure_ (i := 13) (N := some 47) (v := ?_) (a' := ?_) #[true, true, true, true, true, true, true, true, true, true, true, true, true, true, false, false, false, false, false, false] rfl rfl (any_of HT_.out (by kernel_rfl)) (fun _ _ _ h => h) (Or.inl ⟨by rfl, ?_⟩) ?_ ?_
  rotate_left
  · intro w'
    go_simp
    try with_reducible rfl
  rotate_left
  · simp only [Act.put, List.setIfInBounds_toArray, List.set_cons_zero, List.set_cons_succ]
    rfl
  refine pure_ (i := 14) (N := some 48) (v := ?_) (a' := ?_) #[true, true, true, true, true, true, true, true, true, true, true, true, true, true, true, false, false, false, false, false] rfl rfl (any_of HT_.out (by kernel_rfl)) (fun _ _ _ h => h) (Or.inl ⟨by rfl, ?_⟩) ?_ ?_
  rotate_left
  · intro w'
    go_simp
    try with_reducible rfl
  rotate_left
  · simp only [Act.put, List.setIfInBounds_toArray, List.set_cons_zero, List.set_cons_succ]
    rfl
  refine pure_ (i := 15) (N := some 49) (v := ?_) (a' := ?_) #[true, true, true, true, true, true, true, true, true, true, true, true, true, true, true, true, false, false, false, false] rfl rfl (any_of HT_.out (by kernel_rfl)) (fun _ _ _ h => h) (Or.inl ⟨by rfl, ?_⟩) ?_ ?_
  rotate_left
  · intro w'
    go_simp
    try with_reducible rfl
  rotate_left
  · simp only [Act.put, List.setIfInBounds_toArray, List.set_cons_zero, List.set_cons_succ]
    rfl
  refine pure_ (i := 16) (N := some 50) (v := ?_) (a' := ?_) #[true, true, true, true, true, true, true, true, true, true, true, true, true, true, true, true, true, false, false, false] rfl rfl (any_of HT_.out (by kernel_rfl)) (fun _ _ _ h => h) (Or.inl ⟨by rfl, ?_⟩) ?_ ?_
  rotate_left
  · intro w'
    go_simp
    try with_reducible rfl
  rotate_left
  · simp only [Act.put, List.setIfInBounds_toArray, List.set_cons_zero, List.set_cons_succ]
    rfl
  refine pure_ (i := 17) (N := some 51) (v := ?_) (a' := ?_) #[true, true, true, true, true, true, true, true, true, true, true, true, true, true, true, true, true, true, false, false] rfl rfl (any_of HT_.out (by kernel_rfl)) (fun _ _ _ h => h) (Or.inl ⟨by rfl, ?_⟩) ?_ ?_
  rotate_left
  · intro w'
    go_simp
    try with_reducible rfl
  rotate_left
  · simp only [Act.put, List.setIfInBounds_toArray, List.set_cons_zero, List.set_cons_succ]
    rfl
  refine pure_ (i := 18) (N := some 52) (v := ?_) (a' := ?_) #[true, true, true, true, true, true, true, true, true, true, true, true, true, true, true, true, true, true, true, false] rfl rfl (any_of HT_.out (by kernel_rfl)) (fun _ _ _ h => h) (Or.inl ⟨by rfl, ?_⟩) ?_ ?_
  rotate_left
  · intro w'
    go_simp
    try with_reducible rfl
  rotate_left
  · simp only [Act.put, List.setIfInBounds_toArray, List.set_cons_zero, List.set_cons_succ]
    rfl
  refine last_ (i := 19) (N := none) #[true, true, true, true, true, true, true, true, true, true, true, true, true, true, true, true, true, true, true, true] rfl rfl (one_of HT_.out (by kernel_rfl)) (by decide) (fun K hK => ?_)
  refine skip_ (w1 := ?_) (by rfl) rfl ?_ ?_
  rotate_left
  · go_simp
    try rfl
  refine hK.out _ _ ?_
  clear hK K
  refine done_ (done_of HT_.out (by kernel_rfl)) ?_
  clear HT_ HW_
  go_upto_region 9 with fail
  refine gen_world (fun W => ∃ e, e = ((b2 * 256 + b3) * 256 + b4) * 256 + b5 ∧ RD w W g2 g4 #[.int .i64 kd, .int .i64 b1, .int .i64 e, .string ⟨#[]⟩, .string ⟨#[]⟩, .slice none 0 0, .slice none 0 0] (.slice none 0 0) [] (.slice none 0 0) []) ⟨_, ?_, D5.out.drew.put 2 _⟩ ?_
  · have f : ∀ x : Int, 0 ≤ x → x < 4611686018427387904 → IntKind.i64.wrap x = x := fun x h1 h2 => by rw [IntKind.wrap_i64]; omega
    rw [f b2 (by omega) (by omega), f b3 (by omega) (by omega), f b4 (by omega) (by omega), f b5 (by omega) (by omega), f (b2 * 16777216) (by omega) (by omega), f (b3 * 65536) (by omega) (by omega), f (b4 * 256) (by omega) (by omega), f (b2 * 16777216 + b3 * 65536) (by omega) (by omega), f (b2 * 16777216 + b3 * 65536 + b4 * 256) (by omega) (by omega), f (b2 * 16777216 + b3 * 65536 + b4 * 256 + b5) (by omega) (by omega)]
    omega
  rintro w6 ⟨e, he, D⟩
  have D6 := Lib.hid D
  have EU := Lib.hid (show uL a0.data.toList = b1 by rw [uL_bd _ (by rw [hlen]; have := H38.out; omega)]; exact hb1.out)
  have EQ := Lib.hid (show qL a0.data.toList = e by rw [qL_bd _ (by rw [hlen]; have := H38.out; omega), hb2.out, hb3.out, hb4.out, hb5.out]; exact he.symm)
  obtain ⟨r6, R6⟩ : ∃ r, Hid (a0.data.toList.drop 6 = r) := ⟨_, Lib.hid rfl⟩
  have hsl6 : a0.extract 6 a0.size = tx r6 := by rw [← R6.out]; exact ex_drop a0 6
  have hb6 : (6 : Int) ≤ (a0.size : Int) := by have := H38.out; omega
  have HL6 := Lib.hid (show r6.length = a0.size - 6 by rw [← R6.out, List.length_drop, hlen])
  clear he D D5 hi1 hi2 hi3 hi4 hi5 hB1 hB2 hB3 hB4 hB5 hb1 hb2 hb3 hb4 hb5 hlen ha0 m2 n2 hx hl qi
  have KK3 : (kd != 3) = true := bne_iff_ne.mpr (by have := HK2.out; omega)
  have KK3b : (kd == 3) = false := beq_eq_false_iff_ne.mpr (by have := HK2.out; omega)
  have KK4 : (kd == 4) = true := beq_iff_eq.mpr HK2.out
  have m0 : w6.cell? ⟨g4, 0, none⟩ = some (.int .i64 kd) := D6.out.h4.cell 0
  have n0 := D6.out.h4.frozen 0
  have m1 : w6.cell? ⟨g4, 1, none⟩ = some (.int .i64 b1) := D6.out.h4.cell 1
  have n1 := D6.out.h4.frozen 1
  have m2 : w6.cell? ⟨g4, 2, none⟩ = some (.int .i64 e) := D6.out.h4.cell 2
  have n2 := D6.out.h4.frozen 2
  have m3 : w6.cell? ⟨g4, 3, none⟩ = some (.string ⟨#[]⟩) := D6.out.h4.cell 3
  have n3 := D6.out.h4.frozen 3
  have m4 : w6.cell? ⟨g4, 4, none⟩ = some (.string ⟨#[]⟩) := D6.out.h4.cell 4
  have n4 := D6.out.h4.frozen 4
  have m5 : w6.cell? ⟨g4, 5, none⟩ = some (.slice none 0 0) := D6.out.h4.cell 5
  have n5 := D6.out.h4.frozen 5
  have m6 : w6.cell? ⟨g4, 6, none⟩ = some (.slice none 0 0) := D6.out.h4.cell 6
  have n6 := D6.out.h4.frozen 6
  obtain ⟨tg, TG⟩ : ∃ r, Hid (r6.take 32 = r) := ⟨_, Lib.hid rfl⟩
  obtain ⟨r7, R7⟩ : ∃ r, Hid (r6.drop 32 = r) := ⟨_, Lib.hid rfl⟩
  have htk : (tx r6).extract 0 32 = tx tg := by rw [← TG.out]; exact tx_take r6 32
  have hdr : (tx r6).extract 32 (tx r6).size = tx r7 := by rw [← R7.out]; exact tx_drop r6 32
  have hb32 : (32 : Int) ≤ ((tx r6).size : Int) := by rw [tx_size, HL6.out]; have := H38.out; omega
  go_upto_region 13 with fail
  refine gen_world (fun W => ∃ vs vi, RD w W g2 g4 #[.int .i64 kd, .int .i64 b1, .int .i64 e, .string ⟨#[]⟩, .string (tx tg), vs, vi] vs [] vi []) ?_ ?_
  · exact ⟨_, _, D6.out.put 4 _⟩
  rintro w7 ⟨vs, vi, D⟩
  have D7 := Lib.hid D
  clear D m0 n0 m1 n1 m2 n2 m3 n3 m4 n4 m5 n5 m6 n6 hsl6 htk hdr hb6 hb32 D6
  have ETAG := Lib.hid (show (tx ((r3L a0.data.toList).take 32)) = tx tg by rw [r3L_eq, R6.out, TG.out])
  have ELS := Lib.hid (show ([] : List S43) = [] from rfl)
  obtain ⟨N, HN⟩ : ∃ N : Nat, Hid (4 = N) := ⟨4, Lib.hid rfl⟩
  have HR7 := Lib.hid (show r7.length = 16 * N by rw [← R7.out, List.length_drop, HL6.out, HZZ.out, ← HN.out])
  have EI := Lib.hid (show dIds 4 ((r3L a0.data.toList).drop 32) [] = dIds N r7 [] by rw [r3L_eq, R6.out, R7.out, HN.out])
  have MC1 := Lib.hid (show dovecoteref11_Check.f kE kd b1 e ⟨#[]⟩ (tx tg) [] (dIds N r7 []) = some c by rw [← EU.out, ← EQ.out, ← ETAG.out, ← EI.out]; exact MC.out)
  have MT1 := Lib.hid (show c = 0 → dovecoteref11_Text.f kE kd b1 e ⟨#[]⟩ (tx tg) [] (dIds N r7 []) = some t by rw [← EU.out, ← EQ.out, ← ETAG.out, ← EI.out]; exact MT.out)
  clear MC MT R6 R7 TG HL6
  go_wp2_with fail
  go_loopg [5] (N + 1) (fun kq v wr => ∃ (nn : Nat) (r : List UInt8) (vi : Value) (li : List ByteArray), kq = nn + 1 ∧ nn ≤ N ∧ v = .string (tx r) ∧ Hid (r.length = 16 * nn) ∧ Hid (dIds nn r li = dIds N r7 []) ∧ Hid (li.length + nn ≤ N) ∧ Hid (RD w wr g2 g4 #[.int .i64 kd, .int .i64 b1, .int .i64 e, .string ⟨#[]⟩, .string (tx tg), vs, vi] vs [] vi li))
  case atStart => exact ⟨N, r7, vi, [], rfl, Nat.le_refl _, rfl, HR7, Lib.hid rfl, Lib.hid (by simp), D7⟩
  case round =>
    clear D7 HR7 vi
    obtain ⟨nn, r, vi, li, rfl, hnn, rfl, HRl, HDl, HLl, D8⟩ := hrel
    have m0 : wr.cell? ⟨g4, 0, none⟩ = some (.int .i64 kd) := D8.out.h4.cell 0
    by_cases h0 : nn = 0
    · subst h0
      have q0s : (tx r).size = 0 := by rw [tx_size]; have := HRl.out; omega
      have q0 : (0 < ((tx r).size : Int)) = False := eq_false (by omega)
      have q0' : (0 < (tx r).size) = False := eq_false (by omega)
      clear q0s
      have ELI := Lib.hid (show dIds 4 ((r3L a0.data.toList).drop 32) [] = li by rw [EI.out, ← HDl.out]; rfl)
      have MC2 := Lib.hid (show dovecoteref11_Check.f kE kd b1 e ⟨#[]⟩ (tx tg) [] li = some c by rw [show li = dIds N r7 [] from HDl.out]; exact MC1.out)
      have MT2 := Lib.hid (show c = 0 → dovecoteref11_Text.f kE kd b1 e ⟨#[]⟩ (tx tg) [] li = some t by rw [show li = dIds N r7 [] from HDl.out]; exact MT1.out)
      clear MC1 MT1 HDl HRl hnn
      go_wp2_with fail
      go_loopg [5] 1 (fun kq v wr => kq = 1 ∧ v = .string (tx r) ∧ Hid (RD w wr g2 g4 #[.int .i64 kd, .int .i64 b1, .int .i64 e, .string ⟨#[]⟩, .string (tx tg), vs, vi] vs [] vi li))
      case atStart => exact ⟨rfl, rfl, D8⟩
      case round =>
        clear D8
        obtain ⟨rfl, rfl, D8⟩ := hrel
        have m0 : wr.cell? ⟨g4, 0, none⟩ = some (.int .i64 kd) := D8.out.h4.cell 0
        obtain ⟨B5, d5, e5, hd5, s5⟩ := Kd.R_reads D8.out.rs
        obtain ⟨B6, d6, e6, hd6, s6⟩ := Kd.R_reads D8.out.ri
        subst e5 e6
        have S5 := Lib.hid s5
        have S6 := Lib.hid s6
        have H5 := Lib.hid hd5
        have H6 := Lib.hid hd6
        clear hd5 hd6 s5 s6
        have m0 : wr.cell? ⟨g4, 0, none⟩ = some (.int .i64 kd) := D8.out.h4.cell 0
        have m1 : wr.cell? ⟨g4, 1, none⟩ = some (.int .i64 b1) := D8.out.h4.cell 1
        have m2 : wr.cell? ⟨g4, 2, none⟩ = some (.int .i64 e) := D8.out.h4.cell 2
        have m3 : wr.cell? ⟨g4, 3, none⟩ = some (.string ⟨#[]⟩) := D8.out.h4.cell 3
        have m4 : wr.cell? ⟨g4, 4, none⟩ = some (.string (tx tg)) := D8.out.h4.cell 4
        have m5 : wr.cell? ⟨g4, 5, none⟩ = some (.slice B5 (([] : List S43)).length d5) := D8.out.h4.cell 5
        have m6 : wr.cell? ⟨g4, 6, none⟩ = some (.slice B6 (li).length d6) := D8.out.h4.cell 6
        go_wp2_with fail
        refine (dovecoteref11_Check.calls kE kd b1 e ⟨#[]⟩ (tx tg) B5 d5 (([] : List S43)) B6 d6 (li) c _ S5.out H5.out S6.out H6.out MC2.out).mono ?_
        rintro e' wa ⟨rfl, ba⟩
        have DA := Lib.hid (D8.out.below ba)
        have SA5 := Lib.hid (Kd.C_below S5.out ba)
        have SA6 := Lib.hid (Kd.C_below S6.out ba)
        clear m0 m1 m2 m3 m4 m5 m6
        clear ba D8 S5 S6
        by_cases hc0 : c = 0
        · subst hc0
          have m0 : wa.cell? ⟨g4, 0, none⟩ = some (.int .i64 kd) := DA.out.h4.cell 0
          have m1 : wa.cell? ⟨g4, 1, none⟩ = some (.int .i64 b1) := DA.out.h4.cell 1
          have m2 : wa.cell? ⟨g4, 2, none⟩ = some (.int .i64 e) := DA.out.h4.cell 2
          have m3 : wa.cell? ⟨g4, 3, none⟩ = some (.string ⟨#[]⟩) := DA.out.h4.cell 3
          have m4 : wa.cell? ⟨g4, 4, none⟩ = some (.string (tx tg)) := DA.out.h4.cell 4
          have m5 : wa.cell? ⟨g4, 5, none⟩ = some (.slice B5 (([] : List S43)).length d5) := DA.out.h4.cell 5
          have m6 : wa.cell? ⟨g4, 6, none⟩ = some (.slice B6 (li).length d6) := DA.out.h4.cell 6
          go_wp2_with fail
          refine (dovecoteref11_Text.calls kE kd b1 e ⟨#[]⟩ (tx tg) B5 d5 (([] : List S43)) B6 d6 (li) t _ SA5.out H5.out SA6.out H6.out (by first | exact MT2.out rfl | exact MT2.out trivial)).mono ?_
          rintro e' wb ⟨rfl, bb⟩
          have DB := Lib.hid (DA.out.below bb)
          clear m0 m1 m2 m3 m4 m5 m6
          clear bb DA SA5 SA6
          by_cases ht : t.toList = a0.toList
          · have htb : (t.toList == a0.toList) = true := beq_iff_eq.mpr ht
            have HYES := Lib.hid ht
            clear ht
            have m0 : wb.cell? ⟨g4, 0, none⟩ = some (.int .i64 kd) := DB.out.h4.cell 0
            have m1 : wb.cell? ⟨g4, 1, none⟩ = some (.int .i64 b1) := DB.out.h4.cell 1
            have m2 : wb.cell? ⟨g4, 2, none⟩ = some (.int .i64 e) := DB.out.h4.cell 2
            have m3 : wb.cell? ⟨g4, 3, none⟩ = some (.string ⟨#[]⟩) := DB.out.h4.cell 3
            have m4 : wb.cell? ⟨g4, 4, none⟩ = some (.string (tx tg)) := DB.out.h4.cell 4
            have m5 : wb.cell? ⟨g4, 5, none⟩ = some (.slice B5 (([] : List S43)).length d5) := DB.out.h4.cell 5
            have m6 : wb.cell? ⟨g4, 6, none⟩ = some (.slice B6 (li).length d6) := DB.out.h4.cell 6
            have k0 : wb.cell? ⟨g2, 0, none⟩ = some (.int .i64 0) := DB.out.h2.cell 0
            have l0 := DB.out.h2.frozen 0
            have k1 : wb.cell? ⟨g2, 1, none⟩ = some (.int .i64 0) := DB.out.h2.cell 1
            have l1 := DB.out.h2.frozen 1
            have k2 : wb.cell? ⟨g2, 2, none⟩ = some (.int .i64 0) := DB.out.h2.cell 2
            have l2 := DB.out.h2.frozen 2
            have k3 : wb.cell? ⟨g2, 3, none⟩ = some (.string ⟨#[]⟩) := DB.out.h2.cell 3
            have l3 := DB.out.h2.frozen 3
            have k4 : wb.cell? ⟨g2, 4, none⟩ = some (.string ⟨#[]⟩) := DB.out.h2.cell 4
            have l4 := DB.out.h2.frozen 4
            have k5 : wb.cell? ⟨g2, 5, none⟩ = some (.slice none 0 0) := DB.out.h2.cell 5
            have l5 := DB.out.h2.frozen 5
            have k6 : wb.cell? ⟨g2, 6, none⟩ = some (.slice none 0 0) := DB.out.h2.cell 6
            have l6 := DB.out.h2.frozen 6
            have d24 := DB.out.d
            have d42 := DB.out.d.symm
            go_wp2_with fail
            refine gen_body (fun W => RE w W g2 #[.int .i64 kd, .int .i64 b1, .int .i64 e, .string ⟨#[]⟩, .string (tx tg), .slice B5 (([] : List S43)).length d5, .slice B6 (li).length d6] (.slice B5 (([] : List S43)).length d5) (([] : List S43)) (.slice B6 (li).length d6) (li)) ?_ ?_
            · exact (RE.put (RE.put (RE.put (RE.put (RE.put (RE.put (RE.put DB.out.re 0 _) 1 _) 2 _) 3 _) 4 _) 5 _) 6 _)
            intro W' E
            refine bodyPost_ret (results_ct rfl _ _ g2 25 #[.int .i64 kd, .int .i64 b1, .int .i64 e, .string ⟨#[]⟩, .string (tx tg), .slice B5 (([] : List S43)).length d5, .slice B6 (li).length d6] (0, 0) _ rfl E.h2 Try.underlying25 rfl rfl) rfl ?_
            exact ⟨fun _ => ⟨_, _, by rw [EU.out, EQ.out, ETAG.out]; rfl, by first | exact E.rs | (rw [ELS.out]; exact E.rs), by first | exact E.ri | (rw [ELI.out]; exact E.ri), E.b⟩, fun h => absurd (by first | exact HYES.out | exact ⟨rfl, HYES.out⟩ | exact ⟨trivial, HYES.out⟩) h⟩
          · have htb : (t.toList == a0.toList) = false := beq_eq_false_iff_ne.mpr ht
            have HNO := Lib.hid ht
            clear ht
            have k0 : wb.cell? ⟨g2, 0, none⟩ = some (.int .i64 0) := DB.out.h2.cell 0
            have l0 := DB.out.h2.frozen 0
            have k1 : wb.cell? ⟨g2, 1, none⟩ = some (.int .i64 0) := DB.out.h2.cell 1
            have l1 := DB.out.h2.frozen 1
            have k2 : wb.cell? ⟨g2, 2, none⟩ = some (.int .i64 0) := DB.out.h2.cell 2
            have l2 := DB.out.h2.frozen 2
            have k3 : wb.cell? ⟨g2, 3, none⟩ = some (.string ⟨#[]⟩) := DB.out.h2.cell 3
            have l3 := DB.out.h2.frozen 3
            have k4 : wb.cell? ⟨g2, 4, none⟩ = some (.string ⟨#[]⟩) := DB.out.h2.cell 4
            have l4 := DB.out.h2.frozen 4
            have k5 : wb.cell? ⟨g2, 5, none⟩ = some (.slice none 0 0) := DB.out.h2.cell 5
            have l5 := DB.out.h2.frozen 5
            have k6 : wb.cell? ⟨g2, 6, none⟩ = some (.slice none 0 0) := DB.out.h2.cell 6
            have l6 := DB.out.h2.frozen 6
            go_wp2_with fail
            refine gen_body (fun W => RE w W g2 Z7 (.slice B5 (([] : List S43)).length d5) (([] : List S43)) (.slice B6 (li).length d6) (li)) ?_ ?_
            · exact (RE.put (RE.put (RE.put (RE.put (RE.put (RE.put (RE.put DB.out.re 0 _) 1 _) 2 _) 3 _) 4 _) 5 _) 6 _)
            intro W' E
            refine bodyPost_ret (results_ct rfl _ _ g2 25 Z7 (0, 0) _ rfl E.h2 Try.underlying25 rfl rfl) rfl ?_
            exact ⟨fun h => absurd (by first | exact h | exact h.1 | exact h.2) HNO.out, fun _ => DecOut.zero E.b⟩
        · have hcb : (c != 0) = true := bne_iff_ne.mpr hc0
          have HNO := Lib.hid hc0
          clear hc0
          have k0 : wa.cell? ⟨g2, 0, none⟩ = some (.int .i64 0) := DA.out.h2.cell 0
          have l0 := DA.out.h2.frozen 0
          have k1 : wa.cell? ⟨g2, 1, none⟩ = some (.int .i64 0) := DA.out.h2.cell 1
          have l1 := DA.out.h2.frozen 1
          have k2 : wa.cell? ⟨g2, 2, none⟩ = some (.int .i64 0) := DA.out.h2.cell 2
          have l2 := DA.out.h2.frozen 2
          have k3 : wa.cell? ⟨g2, 3, none⟩ = some (.string ⟨#[]⟩) := DA.out.h2.cell 3
          have l3 := DA.out.h2.frozen 3
          have k4 : wa.cell? ⟨g2, 4, none⟩ = some (.string ⟨#[]⟩) := DA.out.h2.cell 4
          have l4 := DA.out.h2.frozen 4
          have k5 : wa.cell? ⟨g2, 5, none⟩ = some (.slice none 0 0) := DA.out.h2.cell 5
          have l5 := DA.out.h2.frozen 5
          have k6 : wa.cell? ⟨g2, 6, none⟩ = some (.slice none 0 0) := DA.out.h2.cell 6
          have l6 := DA.out.h2.frozen 6
          go_wp2_with fail
          refine gen_body (fun W => RE w W g2 Z7 (.slice B5 (([] : List S43)).length d5) (([] : List S43)) (.slice B6 (li).length d6) (li)) ?_ ?_
          · exact (RE.put (RE.put (RE.put (RE.put (RE.put (RE.put (RE.put DA.out.re 0 _) 1 _) 2 _) 3 _) 4 _) 5 _) 6 _)
          intro W' E
          refine bodyPost_ret (results_ct rfl _ _ g2 25 Z7 (0, 0) _ rfl E.h2 Try.underlying25 rfl rfl) rfl ?_
          exact ⟨fun h => absurd (by first | exact h | exact h.1 | exact h.2) HNO.out, fun _ => DecOut.zero E.b⟩
    · obtain ⟨m, rfl⟩ : ∃ m, nn = m + 1 := ⟨nn - 1, by omega⟩
      have q1s : 16 ≤ (tx r).size := by rw [tx_size]; have := HRl.out; omega
      have q1 : (0 < ((tx r).size : Int)) = True := eq_true (by omega)
      have q1' : (0 < (tx r).size) = True := eq_true (by omega)
      have hb16 : (16 : Int) ≤ ((tx r).size : Int) := by omega
      obtain ⟨x, X_⟩ : ∃ x, Hid (tx (r.take 16) = x) := ⟨_, Lib.hid rfl⟩
      obtain ⟨r', R'_⟩ : ∃ r', Hid (r.drop 16 = r') := ⟨_, Lib.hid rfl⟩
      have htk : (tx r).extract 0 16 = x := by rw [← X_.out]; exact tx_take r 16
      have hdr : (tx r).extract 16 (tx r).size = tx r' := by rw [← R'_.out]; exact tx_drop r 16
      have hlx := Lib.hid (show (r.take 16).length = 16 by rw [List.length_take]; have := HRl.out; omega)
      have hxe := Lib.hid (show x.toList = r.take 16 by rw [← X_.out, ByteArray.toList_eq, tx_list])
      have hxs := Lib.hid (show x.size = 16 by rw [← X_.out, tx_size]; exact hlx.out)
      have HRr := Lib.hid (show r'.length = 16 * m by rw [← R'_.out, List.length_drop]; have := HRl.out; omega)
      clear q1s h0
      go_wp2_with fail
      refine (shown_any x _).mono ?_
      rintro e' w8 ⟨rfl, hb⟩
      have D9 := Lib.hid (D8.out.below hb)
      clear hb D8 m0
      have ms : w8.cell? ⟨g4, 6, none⟩ = some vi := D9.out.h4.cell 6
      have msd : w8.drew.cell? ⟨g4, 6, none⟩ = some vi := D9.out.drew.h4.cell 6
      have ns := D9.out.h4.frozen 6
      by_cases hz : r.take 16 = noIdL
      · have hsh : (if idB x = true then x else (⟨#[]⟩ : ByteArray)) = ⟨#[]⟩ := if_neg (by unfold idB; rw [hxe.out, hz]; simp)
        rw [hsh]
        have z0 : (⟨#[]⟩ : ByteArray).toList.isEmpty = true := by rw [ByteArray.toList_eq]; rfl
        have HDm := Lib.hid (show dIds m r' li = dIds N r7 [] by rw [← HDl.out, ← R'_.out]; show _ = dIds m (r.drop 16) (if r.take 16 = noIdL then li else _); rw [if_pos hz])
        clear hz hxe hlx HRl HDl hsh hxs
        go_wp2_with fail
        go_roundg (m + 1)
        case measure => omega
        case rel => exact ⟨m, r', vi, li, rfl, by omega, rfl, HRr, HDm, Lib.hid (by have := HLl.out; omega), D9⟩
      · have hsh : (if idB x = true then x else (⟨#[]⟩ : ByteArray)) = x := if_pos (by unfold idB; rw [hxe.out, hxs.out]; simpa using hz)
        rw [hsh]
        have z2 : x.toList.isEmpty = false := list_ne (by rw [hxs.out]; decide)
        have HDm := Lib.hid (show dIds m r' (li ++ [x]) = dIds N r7 [] by rw [← HDl.out, ← R'_.out, ← X_.out]; show _ = dIds m (r.drop 16) (if r.take 16 = noIdL then li else _); rw [if_neg hz])
        clear hz hxe hlx HRl HDl hsh hxs X_
        go_upto_region 15 with fail
        refine start_ (n := 8) (S := fun w' => w'.cell? ⟨g4, 6, none⟩ = some vi) (ds := [7]) #[false, false, false, false, false, false, false, false] (by kernel_rfl) rfl rfl msd (fun hHeld => ?_)
        refine with_tabW rd15.tab rd15.bits (fun HT_ HW_ => ?_)
        refine pure_ (i := 0) (N := some 75) (v := ?_) (a' := ?_) #[true, false, false, false, false, false, false, false] rfl rfl (any_of HT_.out (by kernel_rfl)) (fun _ _ _ h => h) (Or.inl ⟨by rfl, ?_⟩) ?_ ?_
        rotate_left
        · intro w'
          go_simp
          try with_reducible rfl
        rotate_left
        · simp only [Act.put, List.setIfInBounds_toArray, List.set_cons_zero, List.set_cons_succ]
          rfl
        refine pure_ (i := 2) (N := some 77) (v := ?_) (a' := ?_) #[true, false, true, false, false, false, false, false] rfl rfl (any_of HT_.out (by kernel_rfl)) (fun _ _ _ h => h) (Or.inl ⟨by rfl, ?_⟩) ?_ ?_
        rotate_left
        · intro w'
          go_simp
          try with_reducible rfl
        rotate_left
        · simp only [Act.put, List.setIfInBounds_toArray, List.set_cons_zero, List.set_cons_succ]
          rfl
        refine pure_ (i := 3) (N := some 78) (v := ?_) (a' := ?_) #[true, false, true, true, false, false, false, false] rfl rfl (any_of HT_.out (by kernel_rfl)) (fun _ _ _ h => h) (Or.inl ⟨by rfl, ?_⟩) ?_ ?_
        rotate_left
        · intro w'
          go_simp
          try with_reducible rfl
        rotate_left
        · simp only [Act.put, List.setIfInBounds_toArray, List.set_cons_zero, List.set_cons_succ]
          rfl
        refine take_ (i := 1) (N := some 76) (v := ?_) (a' := ?_) #[true, true, true, true, false, false, false, false] rfl rfl (take_ofW HT_.out HW_.out (by kernel_rfl)) (fun _ _ _ h => h) (Or.inl ⟨by rfl, ?_⟩) hHeld ?_ ?_
        rotate_left
        · rintro w' s0
          go_simp
          try with_reducible rfl
        rotate_left
        · simp only [Act.put, List.setIfInBounds_toArray, List.set_cons_zero, List.set_cons_succ]
          rfl
        refine one_ (i := 4) (N := some 79) #[true, true, true, true, true, false, false, false] rfl rfl (one_of HT_.out (by kernel_rfl)) (by decide) (fun K hK => ?_)
        refine value_ (w1 := ?_) (v := ?_) (by rfl) rfl ?_ ?_
        rotate_left 2
        · go_simp
          constructor
          · rfl
          · rfl
        refine hK.out _ _ ((D9.out.drew.alloc _).h4.cell 6) (fun hHeld => ?_)
        clear hK K
        refine norm_ (a' := ?_) ?_ ?_
        rotate_left
        · show Act.put _ (some 79) _ = _
          simp only [Act.put, List.setIfInBounds_toArray, List.set_cons_zero, List.set_cons_succ]
          rfl
        refine one_ (i := 5) (N := some 80) #[true, true, true, true, true, true, false, false] rfl rfl (one_of HT_.out (by kernel_rfl)) (by decide) (fun K hK => ?_)
        rw [alloc_drew w8]
        refine Kd.R_append_step Kd.string (w0 := w) w.heap.size (by rfl) (.tmp 76) (.tmp 79) 23 9 (.string ⟨#[]⟩) 16 rfl Try.underlying23 info9 rfl (by decide) (by omega) vi li x [.string x] (fun _ => True) (fun _ => False) rfl rfl ?aP (fun _ hk => hk.elim) ?aF ?aO ?aB ?aS ?aL ?_
        (case aP => rfl)
        (case aF => exact (fun _ _ => trivial))
        (case aO => exact D9.out.drew.ri)
        (case aB => exact D9.out.drew.b)
        (case aS => exact D9.out.drew.b.size)
        (case aL => have := HLl.out; have := HN.out; omega)
        intro v1 w9 ho hb hg hat
        obtain ⟨A1, cp1, e1⟩ := Kd.R_slice ho
        rw [List.length_append, List.length_singleton] at e1
        subst e1
        have D14 := Lib.hid (D9.out.drew.appI ho hb hg)
        clear ho hb hg hat ms ns msd
        have ms : w9.cell? ⟨g4, 6, none⟩ = some vi := D14.out.h4.cell 6
        have ns := D14.out.h4.frozen 6
        refine hK.out _ _ ms (fun hHeld => ?_)
        clear hK K
        refine norm_ (a' := ?_) ?_ ?_
        rotate_left
        · show Act.put _ (some 80) _ = _
          simp only [Act.put, List.setIfInBounds_toArray, List.set_cons_zero, List.set_cons_succ]
          rfl
        refine pure_ (i := 6) (N := some 81) (v := ?_) (a' := ?_) #[true, true, true, true, true, true, true, false] rfl rfl (any_of HT_.out (by kernel_rfl)) (fun _ _ _ h => h) (Or.inl ⟨by rfl, ?_⟩) ?_ ?_
        rotate_left
        · intro w'
          go_simp
          try with_reducible rfl
        rotate_left
        · simp only [Act.put, List.setIfInBounds_toArray, List.set_cons_zero, List.set_cons_succ]
          rfl
        refine last_ (i := 7) (N := none) #[true, true, true, true, true, true, true, true] rfl rfl (one_of HT_.out (by kernel_rfl)) (by decide) (fun K hK => ?_)
        refine skip_ (w1 := ?_) (by rfl) rfl ?_ ?_
        rotate_left
        · go_simp
          try rfl
        refine hK.out _ _ ?_
        clear hK K
        refine done_ (done_of HT_.out (by kernel_rfl)) ?_
        clear HT_ HW_
        go_wp2_with fail
        go_roundg (m + 1)
        case measure => omega
        case rel => exact ⟨m, r', _, li ++ [x], rfl, by omega, rfl, HRr, HDm, Lib.hid (by rw [List.length_append]; have := HLl.out; show li.length + 1 + m ≤ N; omega), Lib.hid (D14.out.put 6 _)⟩
end Go.Proofs.Ytidilhnjfdkmpaa
namespace Go.Proofs.Ytidilhnjfdkmpaa
open Go.RowKit Go.Proofs.Ytidilhnjfdkmpaa.PMailA Go.Proofs.YtidilhnjfdkmpaaW.PrintWords Go.Proofs.YtidilhnjfdkmpaaW.PrintLast Go.Proofs.YtidilhnjfdkmpaaW.PrintMore
attribute [local go_sem] max2_int min2_int max_two min_two
set_option linter.unusedSimpArgs false
set_option linter.unusedVariables false
theorem bt_drop (l : List UInt8) (k : Nat) (h : k < l.length) : wrap64 (bt (tx ((l.drop k).take 1)) 0) = n8 (bd l k) := by
  have e : (l.drop k).take 1 = [bd l k] := by
    rw [List.drop_eq_getElem_cons h, List.take_succ_cons, List.take_zero, bd, List.getD_eq_getElem?_getD, List.getElem?_eq_getElem h]
    rfl
  rw [e]
  have hb := n8_bd (bd l k)
  have e2 : bt (tx [bd l k]) 0 = n8 (bd l k) := by unfold bt; rw [dif_pos (by simp [tx, ByteArray.size])]; simp [tx, n8, ByteArray.getElem_eq_getElem_data]
  rw [e2]
  unfold wrap64
  omega
theorem slotT_ref (r : List UInt8) (h : 239 ≤ r.length) : slotT r = (⟨if idB (tx (r.take 16)) = true then tx (r.take 16) else ⟨#[]⟩, (tx r).extract 17 (17 + (if (222 : Int) < n8 (bd r 16) then 222 else n8 (bd r 16))).toNat⟩ : S43) := by
  unfold slotT
  have e1 : mnT (r.drop 16) = if (222 : Int) < n8 (bd r 16) then 222 else n8 (bd r 16) := by
    unfold mnT
    rw [bt_drop r 16 (by omega)]
  have hb := mnT_bd (r.drop 16)
  have e2 : idT (r.take 16) = if idB (tx (r.take 16)) = true then tx (r.take 16) else ⟨#[]⟩ := by
    unfold idT
    have hs : (tx (r.take 16)).size = 16 := by rw [tx_size, List.length_take]; omega
    have hl : (tx (r.take 16)).toList = r.take 16 := by rw [ByteArray.toList_eq, tx_list]
    by_cases hz : r.take 16 = noIdL
    · rw [if_pos hz, if_neg (by unfold idB; rw [hl, hz]; simp)]
    · rw [if_neg hz, if_pos (by unfold idB; rw [hl, hs]; simpa using hz)]
  rw [e2, ← e1]
  congr 1
  apply ByteArray.ext
  apply Array.ext'
  obtain ⟨m, hm⟩ : ∃ m : Nat, mnT (r.drop 16) = m := ⟨(mnT (r.drop 16)).toNat, by omega⟩
  rw [hm]
  have e3 : (17 + (m : Int)).toNat = 17 + m := by omega
  rw [e3, Int.toNat_natCast]
  simp only [ByteArray.data_extract, Array.toList_extract, List.extract_eq_take_drop, tx_list, List.drop_zero, Nat.sub_zero, Nat.add_sub_cancel_left, List.drop_drop, List.take_take]
  congr 1
  omega
set_option maxHeartbeats 800000 in
theorem rdec_three (a0 : ByteArray) (n kd : Int) (w : World) (q : 0 < a0.size) (hk : wrap64 (bt a0 0) = kd) (hn : dovecoteref11_Long.f kd = some n) (h1 : (a0.size : Int) = n) (k1 : ¬ kd = 1) (h38 : 38 ≤ a0.size) (k2 : kd = 3) (hz : a0.size = 962) (kE : Nat) (c : Int) (t : ByteArray) (mC : dovecoteref11_Check.f kE kd (uL a0.data.toList) (qL a0.data.toList) ⟨#[]⟩ ⟨#[]⟩ (dSlots 4 (r3L a0.data.toList) []) [] = some c) (mT : c = 0 → dovecoteref11_Text.f kE kd (uL a0.data.toList) (qL a0.data.toList) ⟨#[]⟩ ⟨#[]⟩ (dSlots 4 (r3L a0.data.toList) []) [] = some t) :
    Calls Try.prog 17 #[.string a0] w fun e w' => (c = 0 ∧ t.toList = a0.toList → DecOut w kd (uL a0.data.toList) (qL a0.data.toList) ⟨#[]⟩ ⟨#[]⟩ (dSlots 4 (r3L a0.data.toList) []) [] 0 e w') ∧ (¬ (c = 0 ∧ t.toList = a0.toList) → DecOut w 0 0 0 ⟨#[]⟩ ⟨#[]⟩ [] [] 110 e w') := by
  have K1 : (kd == 1) = false := beq_eq_false_iff_ne.mpr k1
  clear k1
  have H38 := Lib.hid h38
  have HZZ := Lib.hid hz
  have HK2 := Lib.hid k2
  clear h38 hz k2
  have MC := Lib.hid mC
  have MT := Lib.hid mT
  clear mC mT
  have hx := bt_at' a0
  have hl := list_ne q
  have qi : (0 < (a0.size : Int)) = True := eq_true (by omega)
  have q' : (0 < a0.size) = True := eq_true q
  have hc : ((a0.size : Int) != n) = false := bne_eq_false_iff_eq.mpr h1
  have HN := Lib.hid hn
  clear h1 hn
  go_enter Try.func17, Try.ntmps17
  go_upto_region 1 with fail
  refine gen_world (fun W => Blk W w.heap.size 25 Z7 ∧ Below w.heap.size w W) ?_ ?_
  · exact ⟨Blk.new w _ _, below_alloc (Below.refl _ _) _⟩
  rintro w1 ⟨hz, hb⟩
  have HZ := Lib.hid hz
  have HB := Lib.hid hb
  obtain ⟨g2, G2⟩ : ∃ g, Hid (w.heap.size = g) := ⟨_, Lib.hid rfl⟩
  rw [G2.out]
  have HZ := Lib.hid (show Blk w1 g2 25 Z7 by rw [← G2.out]; exact hz)
  clear hz hb
  go_wp2_with fail
  refine (dovecoteref11_Long.calls kd n _ HN.out).mono ?_
  rintro e w2 ⟨rfl, hd⟩
  have HZ2 := Lib.hid (show Blk w2 g2 25 Z7 by obtain ⟨nd, rfl⟩ := hd; exact HZ.out)
  have HB2 := Lib.hid (show Below w.heap.size w w2 by obtain ⟨nd, rfl⟩ := hd; exact pw_below_drewN HB.out nd)
  clear hd HZ HB
  have HZ := HZ2
  have HB := HB2
  clear HZ2 HB2
  go_upto_region 4 with (first | ((with_reducible refine gate_dst (N := 4) rfl ?_); refine box_event ?hg (N := 4) ?hd (cs := Z7) (t := 25) ?hr ?_; (case hd => rfl); (case hg => rfl); (case hr => first | (go_simp; done) | (go_simp; rfl)); intro g4 hg w3 hbox hb; subst hg; have hz0 : w3.cell? ⟨w2.heap.size, 0, none⟩ = some (.int .i64 0) := blk_cell hbox 0; have fz0 := blk_frozen hbox 0; have hz1 : w3.cell? ⟨w2.heap.size, 1, none⟩ = some (.int .i64 0) := blk_cell hbox 1; have fz1 := blk_frozen hbox 1; have hz2 : w3.cell? ⟨w2.heap.size, 2, none⟩ = some (.int .i64 0) := blk_cell hbox 2; have fz2 := blk_frozen hbox 2; have hz3 : w3.cell? ⟨w2.heap.size, 3, none⟩ = some (.string ⟨#[]⟩) := blk_cell hbox 3; have fz3 := blk_frozen hbox 3; have hz4 : w3.cell? ⟨w2.heap.size, 4, none⟩ = some (.string ⟨#[]⟩) := blk_cell hbox 4; have fz4 := blk_frozen hbox 4; have hz5 : w3.cell? ⟨w2.heap.size, 5, none⟩ = some (.slice none 0 0) := blk_cell hbox 5; have fz5 := blk_frozen hbox 5; have hz6 : w3.cell? ⟨w2.heap.size, 6, none⟩ = some (.slice none 0 0) := blk_cell hbox 6; have fz6 := blk_frozen hbox 6))
  refine gen_world (fun W => RD w W g2 w2.heap.size #[.int .i64 kd, .int .i64 0, .int .i64 0, .string ⟨#[]⟩, .string ⟨#[]⟩, .slice none 0 0, .slice none 0 0] (.slice none 0 0) [] (.slice none 0 0) []) ?_ ?_
  · exact (RD.put (RD.put (RD.put (RD.put (RD.put (RD.put (RD.put (RD.mk (w0 := w) (w := w3) (HB.out.trans (hb.mono HB.out.size)) (HZ.out.below hb HZ.out.lt) hbox (by rw [G2.out]; exact Nat.le_refl _) HB.out.size (Nat.ne_of_lt HZ.out.lt) (Kd.R_nil _ _ _ _ _) (Kd.R_nil _ _ _ _ _)) 0 _) 1 _) 2 _) 3 _) 4 _) 5 _) 6 _)
  obtain ⟨g4, G4⟩ : ∃ g, g = w2.heap.size := ⟨_, rfl⟩
  rw [← G4]
  clear G4 hbox hb hz0 hz1 hz2 hz3 hz4 hz5 hz6 fz0 fz1 fz2 fz3 fz4 fz5 fz6 HZ HB HN G2
  intro w4 D
  have D4 := Lib.hid D
  clear D
  have hlen : a0.data.toList.length = a0.size := Array.length_toList
  have ha0 := Lib.hid (show a0 = tx a0.data.toList from tx_of a0)
  obtain ⟨b1, hb1⟩ : ∃ b, Hid (n8 (bd a0.data.toList 1) = b) := ⟨_, Lib.hid rfl⟩
  have hB1 : 0 ≤ b1 ∧ b1 < 256 := by rw [← hb1.out]; exact n8_bd _
  have hi1 : ∀ w, (Instr.index 9 (.string a0) (.int .i64 1)).run Try.prog w = .ok (.int .u8 b1) w := fun w => by
    have := index_run a0.data.toList 1 (by rw [hlen]; have := H38.out; omega) w
    rw [← ha0.out, hb1.out] at this
    exact this
  obtain ⟨b2, hb2⟩ : ∃ b, Hid (n8 (bd a0.data.toList 2) = b) := ⟨_, Lib.hid rfl⟩
  have hB2 : 0 ≤ b2 ∧ b2 < 256 := by rw [← hb2.out]; exact n8_bd _
  have hi2 : ∀ w, (Instr.index 9 (.string a0) (.int .i64 2)).run Try.prog w = .ok (.int .u8 b2) w := fun w => by
    have := index_run a0.data.toList 2 (by rw [hlen]; have := H38.out; omega) w
    rw [← ha0.out, hb2.out] at this
    exact this
  obtain ⟨b3, hb3⟩ : ∃ b, Hid (n8 (bd a0.data.toList 3) = b) := ⟨_, Lib.hid rfl⟩
  have hB3 : 0 ≤ b3 ∧ b3 < 256 := by rw [← hb3.out]; exact n8_bd _
  have hi3 : ∀ w, (Instr.index 9 (.string a0) (.int .i64 3)).run Try.prog w = .ok (.int .u8 b3) w := fun w => by
    have := index_run a0.data.toList 3 (by rw [hlen]; have := H38.out; omega) w
    rw [← ha0.out, hb3.out] at this
    exact this
  obtain ⟨b4, hb4⟩ : ∃ b, Hid (n8 (bd a0.data.toList 4) = b) := ⟨_, Lib.hid rfl⟩
  have hB4 : 0 ≤ b4 ∧ b4 < 256 := by rw [← hb4.out]; exact n8_bd _
  have hi4 : ∀ w, (Instr.index 9 (.string a0) (.int .i64 4)).run Try.prog w = .ok (.int .u8 b4) w := fun w => by
    have := index_run a0.data.toList 4 (by rw [hlen]; have := H38.out; omega) w
    rw [← ha0.out, hb4.out] at this
    exact this
  obtain ⟨b5, hb5⟩ : ∃ b, Hid (n8 (bd a0.data.toList 5) = b) := ⟨_, Lib.hid rfl⟩
  have hB5 : 0 ≤ b5 ∧ b5 < 256 := by rw [← hb5.out]; exact n8_bd _
  have hi5 : ∀ w, (Instr.index 9 (.string a0) (.int .i64 5)).run Try.prog w = .ok (.int .u8 b5) w := fun w => by
    have := index_run a0.data.toList 5 (by rw [hlen]; have := H38.out; omega) w
    rw [← ha0.out, hb5.out] at this
    exact this
  have m0 : w4.cell? ⟨g4, 0, none⟩ = some (.int .i64 kd) := D4.out.h4.cell 0
  have n0 := D4.out.h4.frozen 0
  have m1 : w4.cell? ⟨g4, 1, none⟩ = some (.int .i64 0) := D4.out.h4.cell 1
  have n1 := D4.out.h4.frozen 1
  have m2 : w4.cell? ⟨g4, 2, none⟩ = some (.int .i64 0) := D4.out.h4.cell 2
  have n2 := D4.out.h4.frozen 2
  have m3 : w4.cell? ⟨g4, 3, none⟩ = some (.string ⟨#[]⟩) := D4.out.h4.cell 3
  have n3 := D4.out.h4.frozen 3
  have m4 : w4.cell? ⟨g4, 4, none⟩ = some (.string ⟨#[]⟩) := D4.out.h4.cell 4
  have n4 := D4.out.h4.frozen 4
  have m5 : w4.cell? ⟨g4, 5, none⟩ = some (.slice none 0 0) := D4.out.h4.cell 5
  have n5 := D4.out.h4.frozen 5
  have m6 : w4.cell? ⟨g4, 6, none⟩ = some (.slice none 0 0) := D4.out.h4.cell 6
  have n6 := D4.out.h4.frozen 6
  go_upto_region 8 with fail
  refine gen_world (fun W => RD w W g2 g4 #[.int .i64 kd, .int .i64 b1, .int .i64 0, .string ⟨#[]⟩, .string ⟨#[]⟩, .slice none 0 0, .slice none 0 0] (.slice none 0 0) [] (.slice none 0 0) []) ?_ ?_
  · exact D4.out.put 1 _
  clear m0 n0 m1 n1 m2 n2 m3 n3 m4 n4 m5 n5 m6 n6 D4
  intro w5 D
  have D5 := Lib.hid D
  clear D
  have m2 : w5.drew.cell? ⟨g4, 2, none⟩ = some (.int .i64 0) := D5.out.h4.cell 2
  have n2 : w5.drew.frozen? ⟨g4, 2, none⟩ = false := D5.out.h4.frozen 2
  refine start_ (n := 20) (S := fun _ => True) (ds := [19]) #[false, false, false, false, false, false, false, false, false, false, false, false, false, false, false, false, false, false, false, false] (by kernel_rfl) rfl rfl trivial (fun hHeld => ?_)
  refine with_tabW rd8.tab rd8.bits (fun HT_ HW_ => ?_)
  refine pure_ (i := 0) (N := some 34) (v := ?_) (a' := ?_) #[true, false, false, false, false, false, false, false, false, false, false, false, false, false, false, false, false, false, false, false] rfl rfl (any_of HT_.out (by kernel_rfl)) (fun _ _ _ h => h) (Or.inl ⟨by rfl, ?_⟩) ?_ ?_
  rotate_left
  · intro w'
    go_simp
    try with_reducible rfl
  rotate_left
  · simp only [Act.put, List.setIfInBounds_toArray, List.set_cons_zero, List.set_cons_succ]
    rfl
  refine pure_ (i := 1) (N := some 35) (v := ?_) (a' := ?_) #[true, true, false, false, false, false, false, false, false, false, false, false, false, false, false, false, false, false, false, false] rfl rfl (any_of HT_.out (by kernel_rfl)) (fun _ _ _ h => h) (Or.inl ⟨by rfl, ?_⟩) ?_ ?_
  rotate_left
  · intro w'
    go_simp
    try with_reducible rfl
  rotate_left
  · simp only [Act.put, List.setIfInBounds_toArray, List.set_cons_zero, List.set_cons_succ]
    rfl
  refine pure_ (i := 2) (N := some 36) (v := ?_) (a' := ?_) #[true, true, true, false, false, false, false, false, false, false, false, false, false, false, false, false, false, false, false, false] rfl rfl (any_of HT_.out (by kernel_rfl)) (fun _ _ _ h => h) (Or.inl ⟨by rfl, ?_⟩) ?_ ?_
  rotate_left
  · intro w'
    go_simp
    try with_reducible rfl
  rotate_left
  · simp only [Act.put, List.setIfInBounds_toArray, List.set_cons_zero, List.set_cons_succ]
    rfl
  refine pure_ (i := 3) (N := some 37) (v := ?_) (a' := ?_) #[true, true, true, true, false, false, false, false, false, false, false, false, false, false, false, false, false, false, false, false] rfl rfl (any_of HT_.out (by kernel_rfl)) (fun _ _ _ h => h) (Or.inl ⟨by rfl, ?_⟩) ?_ ?_
  rotate_left
  · intro w'
    go_simp
    try with_reducible rfl
  rotate_left
  · simp only [Act.put, List.setIfInBounds_toArray, List.set_cons_zero, List.set_cons_succ]
    rfl
  refine pure_ (i := 4) (N := some 38) (v := ?_) (a' := ?_) #[true, true, true, true, true, false, false, false, false, false, false, false, false, false, false, false, false, false, false, false] rfl rfl (any_of HT_.out (by kernel_rfl)) (fun _ _ _ h => h) (Or.inl ⟨by rfl, ?_⟩) ?_ ?_
  rotate_left
  · intro w'
    go_simp
    try with_reducible rfl
  rotate_left
  · simp only [Act.put, List.setIfInBounds_toArray, List.set_cons_zero, List.set_cons_succ]
    rfl
  refine pure_ (i := 5) (N := some 39) (v := ?_) (a' := ?_) #[true, true, true, true, true, true, false, false, false, false, false, false, false, false, false, false, false, false, false, false] rfl rfl (any_of HT_.out (by kernel_rfl)) (fun _ _ _ h => h) (Or.inl ⟨by rfl, ?_⟩) ?_ ?_
  rotate_left
  · intro w'
    go_simp
    try with_reducible rfl
  rotate_left
  · simp only [Act.put, List.setIfInBounds_toArray, List.set_cons_zero, List.set_cons_succ]
    rfl
  refine pure_ (i := 6) (N := some 40) (v := ?_) (a' := ?_) #[true, true, true, true, true, true, true, false, false, false, false, false, false, false, false, false, false, false, false, false] rfl rfl (any_of HT_.out (by kernel_rfl)) (fun _ _ _ h => h) (Or.inl ⟨by rfl, ?_⟩) ?_ ?_
  rotate_left
  · intro w'
    go_simp
    try with_reducible rfl
  rotate_left
  · simp only [Act.put, List.setIfInBounds_toArray, List.set_cons_zero, List.set_cons_succ]
    rfl
  refine pure_ (i := 7) (N := some 41) (v := ?_) (a' := ?_) #[true, true, true, true, true, true, true, true, false, false, false, false, false, false, false, false, false, false, false, false] rfl rfl (any_of HT_.out (by kernel_rfl)) (fun _ _ _ h => h) (Or.inl ⟨by rfl, ?_⟩) ?_ ?_
  rotate_left
  · intro w'
    go_simp
    try with_reducible rfl
  rotate_left
  · simp only [Act.put, List.setIfInBounds_toArray, List.set_cons_zero, List.set_cons_succ]
    rfl
  refine pure_ (i := 8) (N := some 42) (v := ?_) (a' := ?_) #[true, true, true, true, true, true, true, true, true, false, false, false, false, false, false, false, false, false, false, false] rfl rfl (any_of HT_.out (by kernel_rfl)) (fun _ _ _ h => h) (Or.inl ⟨by rfl, ?_⟩) ?_ ?_
  rotate_left
  · intro w'
    go_simp
    try with_reducible rfl
  rotate_left
  · simp only [Act.put, List.setIfInBounds_toArray, List.set_cons_zero, List.set_cons_succ]
    rfl
  refine pure_ (i := 9) (N := some 43) (v := ?_) (a' := ?_) #[true, true, true, true, true, true, true, true, true, true, false, false, false, false, false, false, false, false, false, false] rfl rfl (any_of HT_.out (by kernel_rfl)) (fun _ _ _ h => h) (Or.inl ⟨by rfl, ?_⟩) ?_ ?_
  rotate_left
  · intro w'
    go_simp
    try with_reducible rfl
  rotate_left
  · simp only [Act.put, List.setIfInBounds_toArray, List.set_cons_zero, List.set_cons_succ]
    rfl
  refine pure_ (i := 10) (N := some 44) (v := ?_) (a' := ?_) #[true, true, true, true, true, true, true, true, true, true, true, false, false, false, false, false, false, false, false, false] rfl rfl (any_of HT_.out (by kernel_rfl)) (fun _ _ _ h => h) (Or.inl ⟨by rfl, ?_⟩) ?_ ?_
  rotate_left
  · intro w'
    go_simp
    try with_reducible rfl
  rotate_left
  · simp only [Act.put, List.setIfInBounds_toArray, List.set_cons_zero, List.set_cons_succ]
    rfl
  refine pure_ (i := 11) (N := some 45) (v := ?_) (a' := ?_) #[true, true, true, true, true, true, true, true, true, true, true, true, false, false, false, false, false, false, false, false] rfl rfl (any_of HT_.out (by kernel_rfl)) (fun _ _ _ h => h) (Or.inl ⟨by rfl, ?_⟩) ?_ ?_
  rotate_left
  · intro w'
    go_simp
    try with_reducible rfl
  rotate_left
  · simp only [Act.put, List.setIfInBounds_toArray, List.set_cons_zero, List.set_cons_succ]
    rfl
  refine pure_ (i := 12) (N := some 46) (v := ?_) (a' := ?_) #[true, true, true, true, true, true, true, true, true, true, true, true, true, false, false, false, false, false, false, false] rfl rfl (any_of HT_.out (by kernel_rfl)) (fun _ _ _ h => h) (Or.inl ⟨by rfl, ?_⟩) ?_ ?_
  rotate_left
  · intro w'
    go_simp
    try with_reducible rfl
  rotate_left
  · simp only [Act.put, List.setIfInBounds_toArray, List.set_cons_zero, List.set_cons_succ]
    rfl
  refine pure_ (i := 13) (N := some 47) (v := ?_) (a' := ?_) #[true, true, true, true, true, true, true, true, true, true, true, true, true, true, false, false, false, false, false, false] rfl rfl (any_of HT_.out (by kernel_rfl)) (fun _ _ _ h => h) (Or.inl ⟨by rfl, ?_⟩) ?_ ?_
  rotate_left
  · intro w'
    go_simp
    try with_reducible rfl
  rotate_left
  · simp only [Act.put, List.setIfInBounds_toArray, List.set_cons_zero, List.set_cons_succ]
    rfl
  refine pure_ (i := 14) (N := some 48) (v := ?_) (a' := ?_) #[true, true, true, true, true, true, true, true, true, true, true, true, true, true, true, false, false, false, false, false] rfl rfl (any_of HT_.out (by kernel_rfl)) (fun _ _ _ h => h) (Or.inl ⟨by rfl, ?_⟩) ?_ ?_
  rotate_left
  · intro w'
    go_simp
    try with_reducible rfl
  rotate_left
  · simp only [Act.put, List.setIfInBounds_toArray, List.set_cons_zero, List.set_cons_succ]
    rfl
  refine pure_ (i := 15) (N := some 49) (v := ?_) (a' := ?_) #[true, true, true, true, true, true, true, true, true, true, true, true, true, true, true, true, false, false, false, false] rfl rfl (any_of HT_.out (by kernel_rfl)) (fun _ _ _ h => h) (Or.inl ⟨by rfl, ?_⟩) ?_ ?_
  rotate_left
  · intro w'
    go_simp
    try with_reducible rfl
  rotate_left
  · simp only [Act.put, List.setIfInBounds_toArray, List.set_cons_zero, List.set_cons_succ]
    rfl
  refine pure_ (i := 16) (N := some 50) (v := ?_) (a' := ?_) #[true, true, true, true, true, true, true, true, true, true, true, true, true, true, true, true, true, false, false, false] rfl rfl (any_of HT_.out (by kernel_rfl)) (fun _ _ _ h => h) (Or.inl ⟨by rfl, ?_⟩) ?_ ?_
  rotate_left
  · intro w'
    go_simp
    try with_reducible rfl
  rotate_left
  · simp only [Act.put, List.setIfInBounds_toArray, List.set_cons_zero, List.set_cons_succ]
    rfl
  refine pure_ (i := 17) (N := some 51) (v := ?_) (a' := ?_) #[true, true, true, true, true, true, true, true, true, true, true, true, true, true, true, true, true, true, false, false] rfl rfl (any_of HT_.out (by kernel_rfl)) (fun _ _ _ h => h) (Or.inl ⟨by rfl, ?_⟩) ?_ ?_
  rotate_left
  · intro w'
    go_simp
    try with_reducible rfl
  rotate_left
  · simp only [Act.put, List.setIfInBounds_toArray, List.set_cons_zero, List.set_cons_succ]
    rfl
  refine pure_ (i := 18) (N := some 52) (v := ?_) (a' := ?_) #[true, true, true, true, true, true, true, true, true, true, true, true, true, true, true, true, true, true, true, false] rfl rfl (any_of HT_.out (by kernel_rfl)) (fun _ _ _ h => h) (Or.inl ⟨by rfl, ?_⟩) ?_ ?_
  rotate_left
  · intro w'
    go_simp
    try with_reducible rfl
  rotate_left
  · simp only [Act.put, List.setIfInBounds_toArray, List.set_cons_zero, List.set_cons_succ]
    rfl
  refine last_ (i := 19) (N := none) #[true, true, true, true, true, true, true, true, true, true, true, true, true, true, true, true, true, true, true, true] rfl rfl (one_of HT_.out (by kernel_rfl)) (by decide) (fun K hK => ?_)
  refine skip_ (w1 := ?_) (by rfl) rfl ?_ ?_
  rotate_left
  · go_simp
    try rfl
  refine hK.out _ _ ?_
  clear hK K
  refine done_ (done_of HT_.out (by kernel_rfl)) ?_
  clear HT_ HW_
  go_upto_region 9 with fail
  refine gen_world (fun W => ∃ e, e = ((b2 * 256 + b3) * 256 + b4) * 256 + b5 ∧ RD w W g2 g4 #[.int .i64 kd, .int .i64 b1, .int .i64 e, .string ⟨#[]⟩, .string ⟨#[]⟩, .slice none 0 0, .slice none 0 0] (.slice none 0 0) [] (.slice none 0 0) []) ⟨_, ?_, D5.out.drew.put 2 _⟩ ?_
  · have f : ∀ x : Int, 0 ≤ x → x < 4611686018427387904 → IntKind.i64.wrap x = x := fun x h1 h2 => by rw [IntKind.wrap_i64]; omega
    rw [f b2 (by omega) (by omega), f b3 (by omega) (by omega), f b4 (by omega) (by omega), f b5 (by omega) (by omega), f (b2 * 16777216) (by omega) (by omega), f (b3 * 65536) (by omega) (by omega), f (b4 * 256) (by omega) (by omega), f (b2 * 16777216 + b3 * 65536) (by omega) (by omega), f (b2 * 16777216 + b3 * 65536 + b4 * 256) (by omega) (by omega), f (b2 * 16777216 + b3 * 65536 + b4 * 256 + b5) (by omega) (by omega)]
    omega
  rintro w6 ⟨e, he, D⟩
  have D6 := Lib.hid D
  have EU := Lib.hid (show uL a0.data.toList = b1 by rw [uL_bd _ (by rw [hlen]; have := H38.out; omega)]; exact hb1.out)
  have EQ := Lib.hid (show qL a0.data.toList = e by rw [qL_bd _ (by rw [hlen]; have := H38.out; omega), hb2.out, hb3.out, hb4.out, hb5.out]; exact he.symm)
  obtain ⟨r6, R6⟩ : ∃ r, Hid (a0.data.toList.drop 6 = r) := ⟨_, Lib.hid rfl⟩
  have hsl6 : a0.extract 6 a0.size = tx r6 := by rw [← R6.out]; exact ex_drop a0 6
  have hb6 : (6 : Int) ≤ (a0.size : Int) := by have := H38.out; omega
  have HL6 := Lib.hid (show r6.length = a0.size - 6 by rw [← R6.out, List.length_drop, hlen])
  clear he D D5 hi1 hi2 hi3 hi4 hi5 hB1 hB2 hB3 hB4 hB5 hb1 hb2 hb3 hb4 hb5 hlen ha0 m2 n2 hx hl qi
  have KK3 : (kd != 3) = false := bne_eq_false_iff_eq.mpr HK2.out
  have KK3b : (kd == 3) = true := beq_iff_eq.mpr HK2.out
  have KK4 : (kd == 4) = false := beq_eq_false_iff_ne.mpr (by have := HK2.out; omega)
  have m0 : w6.cell? ⟨g4, 0, none⟩ = some (.int .i64 kd) := D6.out.h4.cell 0
  have n0 := D6.out.h4.frozen 0
  have m1 : w6.cell? ⟨g4, 1, none⟩ = some (.int .i64 b1) := D6.out.h4.cell 1
  have n1 := D6.out.h4.frozen 1
  have m2 : w6.cell? ⟨g4, 2, none⟩ = some (.int .i64 e) := D6.out.h4.cell 2
  have n2 := D6.out.h4.frozen 2
  have m3 : w6.cell? ⟨g4, 3, none⟩ = some (.string ⟨#[]⟩) := D6.out.h4.cell 3
  have n3 := D6.out.h4.frozen 3
  have m4 : w6.cell? ⟨g4, 4, none⟩ = some (.string ⟨#[]⟩) := D6.out.h4.cell 4
  have n4 := D6.out.h4.frozen 4
  have m5 : w6.cell? ⟨g4, 5, none⟩ = some (.slice none 0 0) := D6.out.h4.cell 5
  have n5 := D6.out.h4.frozen 5
  have m6 : w6.cell? ⟨g4, 6, none⟩ = some (.slice none 0 0) := D6.out.h4.cell 6
  have n6 := D6.out.h4.frozen 6
  go_upto_region 13 with fail
  refine gen_world (fun W => ∃ vs vi, RD w W g2 g4 #[.int .i64 kd, .int .i64 b1, .int .i64 e, .string ⟨#[]⟩, .string ⟨#[]⟩, vs, vi] vs [] vi []) ?_ ?_
  · exact ⟨_, _, D6.out⟩
  rintro w7 ⟨vs, vi, D⟩
  have D7 := Lib.hid D
  clear D m0 n0 m1 n1 m2 n2 m3 n3 m4 n4 m5 n5 m6 n6 hsl6 hb6 D6
  have ETAG := Lib.hid (show (⟨#[]⟩ : ByteArray) = ⟨#[]⟩ from rfl)
  have ELI := Lib.hid (show ([] : List ByteArray) = [] from rfl)
  obtain ⟨N, HN⟩ : ∃ N : Nat, Hid (4 = N) := ⟨4, Lib.hid rfl⟩
  have HR7 := Lib.hid (show r6.length = 239 * N by rw [HL6.out, HZZ.out, ← HN.out])
  have EI := Lib.hid (show dSlots 4 (r3L a0.data.toList) [] = dSlots N r6 [] by rw [r3L_eq, R6.out, HN.out])
  have MC1 := Lib.hid (show dovecoteref11_Check.f kE kd b1 e ⟨#[]⟩ ⟨#[]⟩ (dSlots N r6 []) [] = some c by rw [← EU.out, ← EQ.out, ← EI.out]; exact MC.out)
  have MT1 := Lib.hid (show c = 0 → dovecoteref11_Text.f kE kd b1 e ⟨#[]⟩ ⟨#[]⟩ (dSlots N r6 []) [] = some t by rw [← EU.out, ← EQ.out, ← EI.out]; exact MT.out)
  clear MC MT R6 HL6
  go_wp2_with fail
  go_loopg [5] 1 (fun kq v wr => kq = 1 ∧ v = .string (tx r6) ∧ Hid (RD w wr g2 g4 #[.int .i64 kd, .int .i64 b1, .int .i64 e, .string ⟨#[]⟩, .string ⟨#[]⟩, vs, vi] vs [] vi []))
  case atStart => exact ⟨rfl, rfl, D7⟩
  case round =>
    clear D7
    obtain ⟨rfl, rfl, D8⟩ := hrel
    have m0 : wr.cell? ⟨g4, 0, none⟩ = some (.int .i64 kd) := D8.out.h4.cell 0
    go_wp2_with fail
    clear m0
    go_loopg [5] (N + 1) (fun kq v wr => ∃ (nn : Nat) (r : List UInt8) (vs : Value) (ls : List S43), kq = nn + 1 ∧ nn ≤ N ∧ v = .string (tx r) ∧ Hid (r.length = 239 * nn) ∧ Hid (dSlots nn r ls = dSlots N r6 []) ∧ Hid (ls.length + nn ≤ N) ∧ Hid (RD w wr g2 g4 #[.int .i64 kd, .int .i64 b1, .int .i64 e, .string ⟨#[]⟩, .string ⟨#[]⟩, vs, vi] vs ls vi []))
    case atStart => exact ⟨N, r6, vs, [], rfl, Nat.le_refl _, rfl, HR7, Lib.hid rfl, Lib.hid (by simp), D8⟩
    case round =>
      clear D8 HR7
      obtain ⟨nn, r, vs, ls, rfl, hnn, rfl, HRl, HDl, HLl, D8⟩ := hrel
      have m0 : wr.cell? ⟨g4, 0, none⟩ = some (.int .i64 kd) := D8.out.h4.cell 0
      by_cases h0 : nn = 0
      · subst h0
        have q0s : (tx r).size = 0 := by rw [tx_size]; have := HRl.out; omega
        have q0 : (0 < ((tx r).size : Int)) = False := eq_false (by omega)
        have q0' : (0 < (tx r).size) = False := eq_false (by omega)
        clear q0s
        have ELS := Lib.hid (show dSlots 4 (r3L a0.data.toList) [] = ls by rw [EI.out, ← HDl.out]; rfl)
        have MC2 := Lib.hid (show dovecoteref11_Check.f kE kd b1 e ⟨#[]⟩ ⟨#[]⟩ ls [] = some c by rw [show ls = dSlots N r6 [] from HDl.out]; exact MC1.out)
        have MT2 := Lib.hid (show c = 0 → dovecoteref11_Text.f kE kd b1 e ⟨#[]⟩ ⟨#[]⟩ ls [] = some t by rw [show ls = dSlots N r6 [] from HDl.out]; exact MT1.out)
        clear MC1 MT1 HDl HRl hnn m0
        obtain ⟨B5, d5, e5, hd5, s5⟩ := Kd.R_reads D8.out.rs
        obtain ⟨B6, d6, e6, hd6, s6⟩ := Kd.R_reads D8.out.ri
        subst e5 e6
        have S5 := Lib.hid s5
        have S6 := Lib.hid s6
        have H5 := Lib.hid hd5
        have H6 := Lib.hid hd6
        clear hd5 hd6 s5 s6
        have m0 : wr.cell? ⟨g4, 0, none⟩ = some (.int .i64 kd) := D8.out.h4.cell 0
        have m1 : wr.cell? ⟨g4, 1, none⟩ = some (.int .i64 b1) := D8.out.h4.cell 1
        have m2 : wr.cell? ⟨g4, 2, none⟩ = some (.int .i64 e) := D8.out.h4.cell 2
        have m3 : wr.cell? ⟨g4, 3, none⟩ = some (.string ⟨#[]⟩) := D8.out.h4.cell 3
        have m4 : wr.cell? ⟨g4, 4, none⟩ = some (.string ⟨#[]⟩) := D8.out.h4.cell 4
        have m5 : wr.cell? ⟨g4, 5, none⟩ = some (.slice B5 (ls).length d5) := D8.out.h4.cell 5
        have m6 : wr.cell? ⟨g4, 6, none⟩ = some (.slice B6 (([] : List ByteArray)).length d6) := D8.out.h4.cell 6
        go_wp2_with fail
        refine (dovecoteref11_Check.calls kE kd b1 e ⟨#[]⟩ ⟨#[]⟩ B5 d5 (ls) B6 d6 (([] : List ByteArray)) c _ S5.out H5.out S6.out H6.out MC2.out).mono ?_
        rintro e' wa ⟨rfl, ba⟩
        have DA := Lib.hid (D8.out.below ba)
        have SA5 := Lib.hid (Kd.C_below S5.out ba)
        have SA6 := Lib.hid (Kd.C_below S6.out ba)
        clear m0 m1 m2 m3 m4 m5 m6
        clear ba D8 S5 S6
        by_cases hc0 : c = 0
        · subst hc0
          have m0 : wa.cell? ⟨g4, 0, none⟩ = some (.int .i64 kd) := DA.out.h4.cell 0
          have m1 : wa.cell? ⟨g4, 1, none⟩ = some (.int .i64 b1) := DA.out.h4.cell 1
          have m2 : wa.cell? ⟨g4, 2, none⟩ = some (.int .i64 e) := DA.out.h4.cell 2
          have m3 : wa.cell? ⟨g4, 3, none⟩ = some (.string ⟨#[]⟩) := DA.out.h4.cell 3
          have m4 : wa.cell? ⟨g4, 4, none⟩ = some (.string ⟨#[]⟩) := DA.out.h4.cell 4
          have m5 : wa.cell? ⟨g4, 5, none⟩ = some (.slice B5 (ls).length d5) := DA.out.h4.cell 5
          have m6 : wa.cell? ⟨g4, 6, none⟩ = some (.slice B6 (([] : List ByteArray)).length d6) := DA.out.h4.cell 6
          go_wp2_with fail
          refine (dovecoteref11_Text.calls kE kd b1 e ⟨#[]⟩ ⟨#[]⟩ B5 d5 (ls) B6 d6 (([] : List ByteArray)) t _ SA5.out H5.out SA6.out H6.out (by first | exact MT2.out rfl | exact MT2.out trivial)).mono ?_
          rintro e' wb ⟨rfl, bb⟩
          have DB := Lib.hid (DA.out.below bb)
          clear m0 m1 m2 m3 m4 m5 m6
          clear bb DA SA5 SA6
          by_cases ht : t.toList = a0.toList
          · have htb : (t.toList == a0.toList) = true := beq_iff_eq.mpr ht
            have HYES := Lib.hid ht
            clear ht
            have m0 : wb.cell? ⟨g4, 0, none⟩ = some (.int .i64 kd) := DB.out.h4.cell 0
            have m1 : wb.cell? ⟨g4, 1, none⟩ = some (.int .i64 b1) := DB.out.h4.cell 1
            have m2 : wb.cell? ⟨g4, 2, none⟩ = some (.int .i64 e) := DB.out.h4.cell 2
            have m3 : wb.cell? ⟨g4, 3, none⟩ = some (.string ⟨#[]⟩) := DB.out.h4.cell 3
            have m4 : wb.cell? ⟨g4, 4, none⟩ = some (.string ⟨#[]⟩) := DB.out.h4.cell 4
            have m5 : wb.cell? ⟨g4, 5, none⟩ = some (.slice B5 (ls).length d5) := DB.out.h4.cell 5
            have m6 : wb.cell? ⟨g4, 6, none⟩ = some (.slice B6 (([] : List ByteArray)).length d6) := DB.out.h4.cell 6
            have k0 : wb.cell? ⟨g2, 0, none⟩ = some (.int .i64 0) := DB.out.h2.cell 0
            have l0 := DB.out.h2.frozen 0
            have k1 : wb.cell? ⟨g2, 1, none⟩ = some (.int .i64 0) := DB.out.h2.cell 1
            have l1 := DB.out.h2.frozen 1
            have k2 : wb.cell? ⟨g2, 2, none⟩ = some (.int .i64 0) := DB.out.h2.cell 2
            have l2 := DB.out.h2.frozen 2
            have k3 : wb.cell? ⟨g2, 3, none⟩ = some (.string ⟨#[]⟩) := DB.out.h2.cell 3
            have l3 := DB.out.h2.frozen 3
            have k4 : wb.cell? ⟨g2, 4, none⟩ = some (.string ⟨#[]⟩) := DB.out.h2.cell 4
            have l4 := DB.out.h2.frozen 4
            have k5 : wb.cell? ⟨g2, 5, none⟩ = some (.slice none 0 0) := DB.out.h2.cell 5
            have l5 := DB.out.h2.frozen 5
            have k6 : wb.cell? ⟨g2, 6, none⟩ = some (.slice none 0 0) := DB.out.h2.cell 6
            have l6 := DB.out.h2.frozen 6
            have d24 := DB.out.d
            have d42 := DB.out.d.symm
            go_wp2_with fail
            refine gen_body (fun W => RE w W g2 #[.int .i64 kd, .int .i64 b1, .int .i64 e, .string ⟨#[]⟩, .string ⟨#[]⟩, .slice B5 (ls).length d5, .slice B6 (([] : List ByteArray)).length d6] (.slice B5 (ls).length d5) (ls) (.slice B6 (([] : List ByteArray)).length d6) (([] : List ByteArray))) ?_ ?_
            · exact (RE.put (RE.put (RE.put (RE.put (RE.put (RE.put (RE.put DB.out.re 0 _) 1 _) 2 _) 3 _) 4 _) 5 _) 6 _)
            intro W' E
            refine bodyPost_ret (results_ct rfl _ _ g2 25 #[.int .i64 kd, .int .i64 b1, .int .i64 e, .string ⟨#[]⟩, .string ⟨#[]⟩, .slice B5 (ls).length d5, .slice B6 (([] : List ByteArray)).length d6] (0, 0) _ rfl E.h2 Try.underlying25 rfl rfl) rfl ?_
            exact ⟨fun _ => ⟨_, _, by first | (rw [EU.out, EQ.out, ETAG.out]; rfl) | (rw [EU.out, EQ.out]; rfl), by first | exact E.rs | (rw [ELS.out]; exact E.rs), by first | exact E.ri | (rw [ELI.out]; exact E.ri), E.b⟩, fun h => absurd (by first | exact HYES.out | exact ⟨rfl, HYES.out⟩ | exact ⟨trivial, HYES.out⟩) h⟩
          · have htb : (t.toList == a0.toList) = false := beq_eq_false_iff_ne.mpr ht
            have HNO := Lib.hid ht
            clear ht
            have k0 : wb.cell? ⟨g2, 0, none⟩ = some (.int .i64 0) := DB.out.h2.cell 0
            have l0 := DB.out.h2.frozen 0
            have k1 : wb.cell? ⟨g2, 1, none⟩ = some (.int .i64 0) := DB.out.h2.cell 1
            have l1 := DB.out.h2.frozen 1
            have k2 : wb.cell? ⟨g2, 2, none⟩ = some (.int .i64 0) := DB.out.h2.cell 2
            have l2 := DB.out.h2.frozen 2
            have k3 : wb.cell? ⟨g2, 3, none⟩ = some (.string ⟨#[]⟩) := DB.out.h2.cell 3
            have l3 := DB.out.h2.frozen 3
            have k4 : wb.cell? ⟨g2, 4, none⟩ = some (.string ⟨#[]⟩) := DB.out.h2.cell 4
            have l4 := DB.out.h2.frozen 4
            have k5 : wb.cell? ⟨g2, 5, none⟩ = some (.slice none 0 0) := DB.out.h2.cell 5
            have l5 := DB.out.h2.frozen 5
            have k6 : wb.cell? ⟨g2, 6, none⟩ = some (.slice none 0 0) := DB.out.h2.cell 6
            have l6 := DB.out.h2.frozen 6
            go_wp2_with fail
            refine gen_body (fun W => RE w W g2 Z7 (.slice B5 (ls).length d5) (ls) (.slice B6 (([] : List ByteArray)).length d6) (([] : List ByteArray))) ?_ ?_
            · exact (RE.put (RE.put (RE.put (RE.put (RE.put (RE.put (RE.put DB.out.re 0 _) 1 _) 2 _) 3 _) 4 _) 5 _) 6 _)
            intro W' E
            refine bodyPost_ret (results_ct rfl _ _ g2 25 Z7 (0, 0) _ rfl E.h2 Try.underlying25 rfl rfl) rfl ?_
            exact ⟨fun h => absurd (by first | exact h | exact h.1 | exact h.2) HNO.out, fun _ => DecOut.zero E.b⟩
        · have hcb : (c != 0) = true := bne_iff_ne.mpr hc0
          have HNO := Lib.hid hc0
          clear hc0
          have k0 : wa.cell? ⟨g2, 0, none⟩ = some (.int .i64 0) := DA.out.h2.cell 0
          have l0 := DA.out.h2.frozen 0
          have k1 : wa.cell? ⟨g2, 1, none⟩ = some (.int .i64 0) := DA.out.h2.cell 1
          have l1 := DA.out.h2.frozen 1
          have k2 : wa.cell? ⟨g2, 2, none⟩ = some (.int .i64 0) := DA.out.h2.cell 2
          have l2 := DA.out.h2.frozen 2
          have k3 : wa.cell? ⟨g2, 3, none⟩ = some (.string ⟨#[]⟩) := DA.out.h2.cell 3
          have l3 := DA.out.h2.frozen 3
          have k4 : wa.cell? ⟨g2, 4, none⟩ = some (.string ⟨#[]⟩) := DA.out.h2.cell 4
          have l4 := DA.out.h2.frozen 4
          have k5 : wa.cell? ⟨g2, 5, none⟩ = some (.slice none 0 0) := DA.out.h2.cell 5
          have l5 := DA.out.h2.frozen 5
          have k6 : wa.cell? ⟨g2, 6, none⟩ = some (.slice none 0 0) := DA.out.h2.cell 6
          have l6 := DA.out.h2.frozen 6
          go_wp2_with fail
          refine gen_body (fun W => RE w W g2 Z7 (.slice B5 (ls).length d5) (ls) (.slice B6 (([] : List ByteArray)).length d6) (([] : List ByteArray))) ?_ ?_
          · exact (RE.put (RE.put (RE.put (RE.put (RE.put (RE.put (RE.put DA.out.re 0 _) 1 _) 2 _) 3 _) 4 _) 5 _) 6 _)
          intro W' E
          refine bodyPost_ret (results_ct rfl _ _ g2 25 Z7 (0, 0) _ rfl E.h2 Try.underlying25 rfl rfl) rfl ?_
          exact ⟨fun h => absurd (by first | exact h | exact h.1 | exact h.2) HNO.out, fun _ => DecOut.zero E.b⟩
      · obtain ⟨m, rfl⟩ : ∃ m, nn = m + 1 := ⟨nn - 1, by omega⟩
        have q1s : 239 ≤ (tx r).size := by rw [tx_size]; have := HRl.out; omega
        have q1 : (0 < ((tx r).size : Int)) = True := eq_true (by omega)
        have q1' : (0 < (tx r).size) = True := eq_true (by omega)
        obtain ⟨b6, hb6⟩ : ∃ b, Hid (n8 (bd r 16) = b) := ⟨_, Lib.hid rfl⟩
        have hB6 : 0 ≤ b6 ∧ b6 < 256 := by rw [← hb6.out]; exact n8_bd _
        have hi6 : ∀ w, (Instr.index 9 (.string (tx r)) (.int .i64 16)).run Try.prog w = .ok (.int .u8 b6) w := fun w => by
          have := index_run r 16 (by have := HRl.out; omega) w
          rw [hb6.out] at this
          exact this
        have hbi : (16 : Int) < ((tx r).size : Int) := by omega
        obtain ⟨x, X_⟩ : ∃ x, Hid (tx (r.take 16) = x) := ⟨_, Lib.hid rfl⟩
        obtain ⟨r', R'_⟩ : ∃ r', Hid (r.drop 239 = r') := ⟨_, Lib.hid rfl⟩
        have htk : (tx r).extract 0 16 = x := by rw [← X_.out]; exact tx_take r 16
        have hdr : (tx r).extract 239 (tx r).size = tx r' := by rw [← R'_.out]; exact tx_drop r 239
        have HRr := Lib.hid (show r'.length = 239 * m by rw [← R'_.out, List.length_drop]; have := HRl.out; omega)
        have hb16 : (16 : Int) ≤ ((tx r).size : Int) := by omega
        have hb239 : (239 : Int) ≤ ((tx r).size : Int) := by omega
        obtain ⟨mn, MN_⟩ : ∃ n, (if (222 : Int) < b6 then 222 else b6) = n := ⟨_, rfl⟩
        have b1m : 0 ≤ mn := by rw [← MN_]; split <;> omega
        have b2m : mn ≤ 222 := by rw [← MN_]; split <;> omega
        obtain ⟨z, Z_⟩ : ∃ z, Hid ((tx r).extract 17 (17 + mn).toNat = z) := ⟨_, Lib.hid rfl⟩
        have hzx : (tx r).extract 17 (17 + mn).toNat = z := Z_.out
        obtain ⟨sx, SX⟩ : ∃ s, Hid ((if idB x = true then x else (⟨#[]⟩ : ByteArray)) = s) := ⟨_, Lib.hid rfl⟩
        have hsh : ∀ W : World, Calls Try.prog 28 #[.string x] W fun e w' => e = .returned (.string sx) ∧ Below W.heap.size W w' := fun W => by
          have := shown_any x W
          rw [SX.out] at this
          exact this
        have HSH := Lib.hid hsh
        have hwr : IntKind.i64.wrap (17 + mn) = 17 + mn := by rw [IntKind.wrap_i64]; omega
        have hz17 : (17 : Int) ≤ 17 + mn := by omega
        have hz239 : 17 + mn ≤ ((tx r).size : Int) := by omega
        have HSl := Lib.hid (show slotT r = (⟨sx, z⟩ : S43) by rw [slotT_ref r (by have := HRl.out; omega), X_.out, SX.out, hb6.out, MN_, Z_.out])
        have HDm := Lib.hid (show dSlots m r' (ls ++ [(⟨sx, z⟩ : S43)]) = dSlots N r6 [] by rw [← HDl.out, ← R'_.out, ← HSl.out]; show _ = dSlots m (((r.drop 16).drop 1).drop 222) _; rw [List.drop_drop, List.drop_drop])
        clear q1s h0 hsh HSl HDl HRl Z_
        have ms : wr.cell? ⟨g4, 5, none⟩ = some vs := D8.out.h4.cell 5
        have msd : wr.drew.cell? ⟨g4, 5, none⟩ = some vs := D8.out.drew.h4.cell 5
        have ns := D8.out.h4.frozen 5
        go_upto_region 19 with fail
        refine start_ (n := 14) (S := fun w' => w'.cell? ⟨g4, 5, none⟩ = some vs) (ds := [13]) #[false, false, false, false, false, false, false, false, false, false, false, false, false, false] (by kernel_rfl) rfl rfl msd (fun hHeld => ?_)
        refine with_tabW rd19.tab rd19.bits (fun HT_ HW_ => ?_)
        refine pure_ (i := 0) (N := some 96) (v := ?_) (a' := ?_) #[true, false, false, false, false, false, false, false, false, false, false, false, false, false] rfl rfl (any_of HT_.out (by kernel_rfl)) (fun _ _ _ h => h) (Or.inl ⟨by rfl, ?_⟩) ?_ ?_
        rotate_left
        · intro w'
          go_simp
          try with_reducible rfl
        rotate_left
        · simp only [Act.put, List.setIfInBounds_toArray, List.set_cons_zero, List.set_cons_succ]
          rfl
        refine pure_ (i := 2) (N := some 98) (v := ?_) (a' := ?_) #[true, false, true, false, false, false, false, false, false, false, false, false, false, false] rfl rfl (any_of HT_.out (by kernel_rfl)) (fun _ _ _ h => h) (Or.inl ⟨by rfl, ?_⟩) ?_ ?_
        rotate_left
        · intro w'
          go_simp
          try with_reducible rfl
        rotate_left
        · simp only [Act.put, List.setIfInBounds_toArray, List.set_cons_zero, List.set_cons_succ]
          rfl
        refine pure_ (i := 3) (N := some 99) (v := ?_) (a' := ?_) #[true, false, true, true, false, false, false, false, false, false, false, false, false, false] rfl rfl (any_of HT_.out (by kernel_rfl)) (fun _ _ _ h => h) (Or.inl ⟨by rfl, ?_⟩) ?_ ?_
        rotate_left
        · intro w'
          go_simp
          try with_reducible rfl
        rotate_left
        · simp only [Act.put, List.setIfInBounds_toArray, List.set_cons_zero, List.set_cons_succ]
          rfl
        refine pure_ (i := 5) (N := some 101) (v := ?_) (a' := ?_) #[true, false, true, true, false, true, false, false, false, false, false, false, false, false] rfl rfl (any_of HT_.out (by kernel_rfl)) (fun _ _ _ h => h) (Or.inl ⟨by rfl, ?_⟩) ?_ ?_
        rotate_left
        · intro w'
          go_simp
          try with_reducible rfl
        rotate_left
        · simp only [Act.put, List.setIfInBounds_toArray, List.set_cons_zero, List.set_cons_succ]
          rfl
        refine pure_ (i := 6) (N := some 102) (v := ?_) (a' := ?_) #[true, false, true, true, false, true, true, false, false, false, false, false, false, false] rfl rfl (any_of HT_.out (by kernel_rfl)) (fun _ _ _ h => h) (Or.inl ⟨by rfl, ?_⟩) ?_ ?_
        rotate_left
        · intro w'
          go_simp
          try with_reducible rfl
        rotate_left
        · simp only [Act.put, List.setIfInBounds_toArray, List.set_cons_zero, List.set_cons_succ]
          rfl
        refine pure_ (i := 7) (N := some 103) (v := ?_) (a' := ?_) #[true, false, true, true, false, true, true, true, false, false, false, false, false, false] rfl rfl (any_of HT_.out (by kernel_rfl)) (fun _ _ _ h => h) (Or.inl ⟨by rfl, ?_⟩) ?_ ?_
        rotate_left
        · intro w'
          go_simp
          try with_reducible rfl
        rotate_left
        · simp only [Act.put, List.setIfInBounds_toArray, List.set_cons_zero, List.set_cons_succ]
          rfl
        refine pure_ (i := 8) (N := some 104) (v := ?_) (a' := ?_) #[true, false, true, true, false, true, true, true, true, false, false, false, false, false] rfl rfl (any_of HT_.out (by kernel_rfl)) (fun _ _ _ h => h) (Or.inl ⟨by rfl, ?_⟩) ?_ ?_
        rotate_left
        · intro w'
          go_simp
          try with_reducible rfl
        rotate_left
        · simp only [Act.put, List.setIfInBounds_toArray, List.set_cons_zero, List.set_cons_succ]
          rfl
        refine take_ (i := 1) (N := some 97) (v := ?_) (a' := ?_) #[true, true, true, true, false, true, true, true, true, false, false, false, false, false] rfl rfl (take_ofW HT_.out HW_.out (by kernel_rfl)) (fun _ _ _ h => h) (Or.inl ⟨by rfl, ?_⟩) hHeld ?_ ?_
        rotate_left
        · rintro w' s0
          go_simp
          try with_reducible rfl
        rotate_left
        · simp only [Act.put, List.setIfInBounds_toArray, List.set_cons_zero, List.set_cons_succ]
          rfl
        refine one_ (i := 4) (N := some 100) #[true, true, true, true, true, true, true, true, true, false, false, false, false, false] rfl rfl (one_of HT_.out (by kernel_rfl)) (by decide) (fun K hK => ?_)
        refine goes_ Try.func28 (by kernel_rfl) rfl #[.string x] (by rfl) rfl rfl (by first | done | rfl | (simp only [List.map_toArray, List.map_cons, List.map_nil]; done) | (simp only [List.map_toArray, List.map_cons, List.map_nil]; rfl)) ?_
        refine (HSH.out _).mono ?_
        rintro e' w8 ⟨rfl, hbw⟩
        refine ⟨_, rfl, ?_⟩
        refine hK.out _ _ ((D8.out.drew.below hbw).h4.cell 5) (fun hHeld => ?_)
        clear hK K
        refine norm_ (a' := ?_) ?_ ?_
        rotate_left
        · show Act.put _ (some 100) _ = _
          simp only [Act.put, List.setIfInBounds_toArray, List.set_cons_zero, List.set_cons_succ]
          rfl
        refine pure_ (i := 9) (N := some 105) (v := ?_) (a' := ?_) #[true, true, true, true, true, true, true, true, true, true, false, false, false, false] rfl rfl (any_of HT_.out (by kernel_rfl)) (fun _ _ _ h => h) (Or.inl ⟨by rfl, ?_⟩) ?_ ?_
        rotate_left
        · intro w'
          go_simp
          try with_reducible rfl
        rotate_left
        · simp only [Act.put, List.setIfInBounds_toArray, List.set_cons_zero, List.set_cons_succ]
          rfl
        refine one_ (i := 10) (N := some 106) #[true, true, true, true, true, true, true, true, true, true, true, false, false, false] rfl rfl (one_of HT_.out (by kernel_rfl)) (by decide) (fun K hK => ?_)
        refine value_ (w1 := ?_) (v := ?_) (by rfl) rfl ?_ ?_
        rotate_left 2
        · go_simp
          constructor
          · rfl
          · rfl
        refine hK.out _ _ (((D8.out.drew.below hbw).alloc _).h4.cell 5) (fun hHeld => ?_)
        clear hK K
        refine norm_ (a' := ?_) ?_ ?_
        rotate_left
        · show Act.put _ (some 106) _ = _
          simp only [Act.put, List.setIfInBounds_toArray, List.set_cons_zero, List.set_cons_succ]
          rfl
        refine one_ (i := 11) (N := some 107) #[true, true, true, true, true, true, true, true, true, true, true, true, false, false] rfl rfl (one_of HT_.out (by kernel_rfl)) (by decide) (fun K hK => ?_)
        refine Kd.R_append_step k43 (w0 := w) w.heap.size (by rfl) (.tmp 97) (.tmp 106) 22 43 (.agg #[(.string ⟨#[]⟩), (.string ⟨#[]⟩)]) 32 rfl Try.underlying22 info43 rfl (by decide) (by omega) vs ls (⟨sx, z⟩ : S43) [.string sx, .string z] (fun _ => True) (fun _ => False) rfl rfl ?aP (fun _ hk => hk.elim) ?aF ?aO ?aB ?aS ?aL ?_
        (case aP => exact k43_mkM _ _ _ _)
        (case aF => exact (fun _ _ => trivial))
        (case aO => exact (D8.out.drew.below hbw).rs)
        (case aB => exact (D8.out.drew.below hbw).b)
        (case aS => exact (D8.out.drew.below hbw).b.size)
        (case aL => have := HLl.out; have := HN.out; omega)
        intro v1 w9 ho hb hg hat
        obtain ⟨A1, cp1, e1⟩ := Kd.R_slice ho
        rw [List.length_append, List.length_singleton] at e1
        subst e1
        have D14 := Lib.hid ((D8.out.drew.below hbw).appS ho hb hg)
        clear ho hb hg hat ms ns msd
        have ms : w9.cell? ⟨g4, 5, none⟩ = some vs := D14.out.h4.cell 5
        have ns := D14.out.h4.frozen 5
        refine hK.out _ _ ms (fun hHeld => ?_)
        clear hK K
        refine norm_ (a' := ?_) ?_ ?_
        rotate_left
        · show Act.put _ (some 107) _ = _
          simp only [Act.put, List.setIfInBounds_toArray, List.set_cons_zero, List.set_cons_succ]
          rfl
        refine pure_ (i := 12) (N := some 108) (v := ?_) (a' := ?_) #[true, true, true, true, true, true, true, true, true, true, true, true, true, false] rfl rfl (any_of HT_.out (by kernel_rfl)) (fun _ _ _ h => h) (Or.inl ⟨by rfl, ?_⟩) ?_ ?_
        rotate_left
        · intro w'
          go_simp
          try with_reducible rfl
        rotate_left
        · simp only [Act.put, List.setIfInBounds_toArray, List.set_cons_zero, List.set_cons_succ]
          rfl
        refine last_ (i := 13) (N := none) #[true, true, true, true, true, true, true, true, true, true, true, true, true, true] rfl rfl (one_of HT_.out (by kernel_rfl)) (by decide) (fun K hK => ?_)
        refine skip_ (w1 := ?_) (by rfl) rfl ?_ ?_
        rotate_left
        · go_simp
          try rfl
        refine hK.out _ _ ?_
        clear hK K
        refine done_ (done_of HT_.out (by kernel_rfl)) ?_
        clear HT_ HW_
        go_wp2_with fail
        go_roundg (m + 1)
        case measure => omega
        case rel => exact ⟨m, r', _, ls ++ [(⟨sx, z⟩ : S43)], rfl, by omega, rfl, HRr, HDm, Lib.hid (by rw [List.length_append]; have := HLl.out; show ls.length + 1 + m ≤ N; omega), Lib.hid (D14.out.put 5 _)⟩
end Go.Proofs.Ytidilhnjfdkmpaa

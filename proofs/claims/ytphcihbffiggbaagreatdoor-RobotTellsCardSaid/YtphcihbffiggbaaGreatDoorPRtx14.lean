-- squeezed by a program of this claim's own (wip/tools/fit.py), after the kit's printer
import Derived.Test.YtphcihbffiggbaaGreatDoorPRtx0
import Derived.Test.YtphcihbffiggbaaGreatDoorPRtx11
namespace Go.Proofs.YtphcihbffiggbaaGreatDoor.PRt
open Go.RowKit Go.Proofs.YtphcihbffiggbaaGreatDoorW.PrintWords Go.Proofs.YtphcihbffiggbaaGreatDoorW.PrintLast Go.Proofs.YtphcihbffiggbaaGreatDoorW.PrintMore
attribute [local go_sem] max2_int min2_int max_two min_two max_three min_three max_four min_four   -- for this text's walks alone
set_option linter.unusedVariables false
set_option linter.unusedSimpArgs false
def taquinref22_Hear.l0 : Nat → List Int → Int → Int → Int → Int → List Int → List Int → Int → List Int → Option (Int × List Int × Int)
 | 0, _, _, _, _, _, _, _, _, _ => none
 | k + 1, x2, x8, x372000, x372001, x372002, x372003, x372004, x373000, x373001 => if x8 < (x2.length : Int) then (if 0 ≤ x8 then (if (rd x2 x8) < 0 then (some (x373000, x373001, 1)) else (if (rd x2 x8) ≥ 10 then (some (x373000, x373001, 1)) else (taquinref22_Hear.l0 k x2 (wrap64 (x8 + 1)) x372000 x372001 x372002 x372003 x372004 x373000 x373001))) else (none)) else ((some (([] : List Int) : List Int)).bind fun y376 => (if y376.length + x2.length < 17592186044416 then ((some (y376 ++ x2 : List Int)).bind fun y379 => ((taquinref22_Right.f k x372000 x372001 x372002 x372003 x372004 x373000 y379).bind fun t383 => (if t383 = true then (some (x373000, y379, 0)) else (some (x373000, x373001, 14))))) else (none)))
def taquinref22_Hear.f (k : Nat) (a0_0 : Int) (a0_1 : Int) (a0_2 : Int) (l0_3 : List Int) (l0_4 : List Int) (a1_0 : Int) (l1_1 : List Int) (l2 : List Int) : Option (Int × List Int × Int) := if (l2.length : Int) > 4 then (some (a1_0, l1_1, 6)) else (taquinref22_Hear.l0 k l2 0 a0_0 a0_1 a0_2 l0_3 l0_4 a1_0 l1_1)
def taquinref22_Hear.T8 : Bool × List (List Nat × List Nat) := (true, [([], []), ([0], [0]), ([], []), ([], []), ([2, 3], [2, 3]), ([1, 4], [1, 4]), ([], []), ([6, 5, 4, 0, 1, 2, 3, 4, 5, 6], [5, 6])])
def taquinref22_Hear.B8 : List Nat := [0, 1, 0, 0, 12, 31, 0, 127]
theorem taquinref22_Hear.tab8 : rtab .any (opsOf Tryz.f13 8) = taquinref22_Hear.T8 := by kernel_rfl
theorem taquinref22_Hear.bits8 : waitsOk taquinref22_Hear.T8.2 taquinref22_Hear.B8 = true := by kernel_rfl
set_option maxHeartbeats 8000000 in
set_option maxRecDepth 100000 in
theorem taquinref22_Hear.calls (k : Nat) (a0_0 : Int) (a0_1 : Int) (a0_2 : Int) (A0_3 : Option Addr) (c0_3 : Nat) (l0_3 : List Int) (A0_4 : Option Addr) (c0_4 : Nat) (l0_4 : List Int) (a1_0 : Int) (P1_1_ : Nat → Prop) (A1_1 : Option Addr) (c1_1 : Nat) (l1_1 : List Int) (A2 : Option Addr) (c2 : Nat) (l2 : List Int) (r1 : Int) (r2 : List Int) (r3 : Int) (w : World) (hr0_3 : Kd.C (Kd.int .i64) w A0_3 l0_3.length l0_3) (hc0_3 : l0_3.length ≤ c0_3) (hr0_4 : Kd.C (Kd.int .i64) w A0_4 l0_4.length l0_4) (hc0_4 : l0_4.length ≤ c0_4) (hs1_1 : Kd.V (Kd.int .i64) 3 w w.heap.size (fun k_ => P1_1_ k_) (.slice A1_1 l1_1.length c1_1) l1_1) (hr2 : Kd.C (Kd.int .i64) w A2 l2.length l2) (hc2 : l2.length ≤ c2) (h : taquinref22_Hear.f k a0_0 a0_1 a0_2 l0_3 l0_4 a1_0 l1_1 l2 = some (r1, r2, r3)) :
  Calls Tryz.prog 13 #[.agg #[.int .i64 a0_0, .int .i64 a0_1, .int .i64 a0_2, .slice A0_3 l0_3.length c0_3, .slice A0_4 l0_4.length c0_4], .agg #[.int .i64 a1_0, .slice A1_1 l1_1.length c1_1], .slice A2 l2.length c2] w fun e w' => ∃ v1_ : Value, e = .returned (.tuple #[.agg #[.int .i64 r1, v1_], .int .i64 r3]) ∧ Kd.V (Kd.int .i64) 3 w' w.heap.size (fun k_ => (P1_1_ k_ ∨ w.heap.size ≤ k_)) v1_ r2 ∧ Below w.heap.size w w' := by
 have hu24 := Tryz.underlying24
 have hu26 := Tryz.underlying26
 have HR0_3 := Aside0.mk hr0_3
 have HC0_3 := Aside0.mk hc0_3
 clear hr0_3 hc0_3
 have HR0_4 := Aside0.mk hr0_4
 have HC0_4 := Aside0.mk hc0_4
 clear hr0_4 hc0_4
 have HO1_1 := Aside0.mk (show Kd.V (Kd.int .i64) 3 w w.heap.size (fun k_ => (P1_1_ k_ ∨ w.heap.size ≤ k_)) (.slice A1_1 l1_1.length c1_1) l1_1 from Kd.V_mono hs1_1 (fun k_ hk => .inl hk))
 have HR2 := Aside0.mk hr2
 have HC2 := Aside0.mk hc2
 clear hr2 hc2
 have HB := Aside0.mk (Below.refl w.heap.size w)
 have H : (if (l2.length : Int) > 4 then (some (a1_0, l1_1, 6)) else (taquinref22_Hear.l0 k l2 0 a0_0 a0_1 a0_2 l0_3 l0_4 a1_0 l1_1)) = some (r1, r2, r3) := h
 clear h
 by_cases c4 : (l2.length : Int) > 4
 ·rw [if_pos c4] at H
  have c4b0 : decide (4 < (l2.length : Int)) = true := decide_eq_true c4
  have c4b1 : decide (4 < l2.length) = true := decide_eq_true (by omega)
  clear c4
  simp only [Option.some.injEq, Prod.mk.injEq] at H
  obtain ⟨rfl, rfl, rfl⟩ := H
  go_enter Tryz.func13, Tryz.ntmps13
  go_wp2_with (first | ((with_reducible refine gate_dst (N := 3) rfl ?_); refine box_event ?hg (N := 3) ?hd (cs := #[.int .i64 a0_0, .int .i64 a0_1, .int .i64 a0_2, .slice A0_3 l0_3.length c0_3, .slice A0_4 l0_4.length c0_4]) (t := 24) ?hr ?_; (case hd => rfl); (case hg => rfl); (case hr => first | (go_simp; done) | (go_simp; rfl)); intro gb371 hg w5 hbox hb; replace HO1_1 := Aside0.mk (Kd.V_below (Kd.V_elderB HO1_1.out gb371 (Nat.le_of_eq hg.symm)) hb); have BK371 := Aside0.mk (hbox); have GW371 := Aside0.mk ((by rw [hg]; exact (below_size HB.out) : w.heap.size ≤ gb371)); have GE371 := Aside0.mk ((by rw [hg]; exact (below_size HB.out) : w.heap.size ≤ gb371)); replace HB := Aside0.mk (below_step HB.out hb); clear hb hbox hg) | ((with_reducible refine gate_dst (N := 4) rfl ?_); refine box_event ?hg (N := 4) ?hd (cs := #[.int .i64 a1_0, .slice A1_1 l1_1.length c1_1]) (t := 26) ?hr ?_; (case hd => rfl); (case hg => rfl); (case hr => first | (go_simp; done) | (go_simp; rfl)); intro gb372 hg w6 hbox hb; replace HO1_1 := Aside0.mk (Kd.V_below (Kd.V_elderB HO1_1.out gb372 (Nat.le_of_eq hg.symm)) hb); have BK372 := Aside0.mk (hbox); have GW372 := Aside0.mk ((by rw [hg]; exact (below_size HB.out) : w.heap.size ≤ gb372)); have GE372 := Aside0.mk ((by rw [hg]; exact (below_size HB.out) : w.heap.size ≤ gb372)); replace HB := Aside0.mk (below_step HB.out hb); have NB371_372 := Aside0.mk ((by rw [hg]; exact Nat.ne_of_lt (blk_lt BK371.out) : gb371 ≠ gb372)); have NB372_371 := Aside0.mk ((by rw [hg]; exact Nat.ne_of_gt (blk_lt BK371.out) : gb372 ≠ gb371)); replace BK371 := Aside0.mk (blk_below BK371.out hb); clear hb hbox hg) | ((with_reducible refine gate_dst (N := 6) rfl ?_); refine box_event ?hg (N := 6) ?hd (cs := #[.int .i64 0, .slice none 0 0]) (t := 26) ?hr ?_; (case hd => rfl); (case hg => rfl); (case hr => first | (go_simp; done) | (go_simp; rfl)); intro gb373 hg w7 hbox hb; replace HO1_1 := Aside0.mk (Kd.V_below (Kd.V_elderB HO1_1.out gb373 (Nat.le_of_eq hg.symm)) hb); have BK373 := Aside0.mk (hbox); have GW373 := Aside0.mk ((by rw [hg]; exact (below_size HB.out) : w.heap.size ≤ gb373)); have GE373 := Aside0.mk ((by rw [hg]; exact (below_size HB.out) : w.heap.size ≤ gb373)); replace HB := Aside0.mk (below_step HB.out hb); have NB371_373 := Aside0.mk ((by rw [hg]; exact Nat.ne_of_lt (blk_lt BK371.out) : gb371 ≠ gb373)); have NB373_371 := Aside0.mk ((by rw [hg]; exact Nat.ne_of_gt (blk_lt BK371.out) : gb373 ≠ gb371)); replace BK371 := Aside0.mk (blk_below BK371.out hb); have NB372_373 := Aside0.mk ((by rw [hg]; exact Nat.ne_of_lt (blk_lt BK372.out) : gb372 ≠ gb373)); have NB373_372 := Aside0.mk ((by rw [hg]; exact Nat.ne_of_gt (blk_lt BK372.out) : gb373 ≠ gb372)); replace BK372 := Aside0.mk (blk_below BK372.out hb); clear hb hbox hg; have hnb8 := NB372_371.out; have hnc8 := NB371_372.out; have hnb9 := NB372_373.out; have hnc9 := NB373_372.out; have hcz10_0 : w7.cell? ⟨gb372, 0, none⟩ = some (.int .i64 a1_0) := (blk_cell BK372.out 0).trans rfl; have hcz10_1 : w7.cell? ⟨gb372, 1, none⟩ = some (.slice A1_1 l1_1.length c1_1) := (blk_cell BK372.out 1).trans rfl; have hfz10_0 := blk_frozen BK372.out 0; have hfz10_1 := blk_frozen BK372.out 1; have hnb11 := NB373_371.out; have hnc11 := NB371_373.out; have hcz12_0 : w7.cell? ⟨gb373, 0, none⟩ = some (.int .i64 0) := (blk_cell BK373.out 0).trans rfl; have hcz12_1 : w7.cell? ⟨gb373, 1, none⟩ = some (.slice none 0 0) := (blk_cell BK373.out 1).trans rfl; have hfz12_0 := blk_frozen BK373.out 0; have hfz12_1 := blk_frozen BK373.out 1))
  refine bodyPost_ret (results_ct rfl _ _ gb373 26 #[.int .i64 a1_0, .slice A1_1 l1_1.length c1_1] (0, 0) _ rfl (by (with_reducible repeat (first | refine blk_drewN ?_ _ | refine blk_drew ?_ | refine blk_alloc ?_ _)); refine blk_put (cs := #[.int .i64 a1_0, .slice none 0 0]) ?_ 1 _ rfl; (with_reducible repeat (first | refine blk_drewN ?_ _ | refine blk_drew ?_ | refine blk_alloc ?_ _)); refine blk_put (cs := #[.int .i64 0, .slice none 0 0]) ?_ 0 _ rfl; (with_reducible repeat (first | refine blk_drewN ?_ _ | refine blk_drew ?_ | refine blk_alloc ?_ _)); exact BK373.out) Tryz.underlying26 rfl (by kernel_rfl)) rfl ?_
  exact ⟨_, by first | rfl | (simp [errW_none, errW_some] <;> rfl) | (simp [*, errW_none, errW_some] <;> rfl), by (with_reducible repeat (first | apply Kd.V_alloc | apply Kd.V_drewN | apply Kd.V_drew)); exact Kd.V_mono (Kd.V_far (p := ⟨gb373, 1, none⟩) (Kd.V_far (p := ⟨gb373, 0, none⟩) (Kd.V_mono HO1_1.out (fun k_ hk => (⟨hk, hk.2⟩ : _ ∧ k_ ≠ gb373))) (fun _ hk => hk.2) (.int .i64 a1_0)) (fun _ hk => hk.2) (.slice A1_1 l1_1.length c1_1)) (fun _ hk => hk.1.1.1.1), by repeat (first | (with_reducible first | exact HB.out | apply below_alloc | apply pw_below_drewN | apply below_drew1 | refine below_set ?_ GE371.out | refine below_set ?_ GE372.out | refine below_set ?_ GE373.out) | exact HB.out)⟩
 ·rw [if_neg c4] at H
  have c4b0 : decide (4 < (l2.length : Int)) = false := decide_eq_false c4
  have c4b1 : decide (4 < l2.length) = false := decide_eq_false (by omega)
  clear c4
  have H' := Aside0.mk H
  clear H
  go_enter Tryz.func13, Tryz.ntmps13
  go_wp2_with (first | ((with_reducible refine gate_dst (N := 3) rfl ?_); refine box_event ?hg (N := 3) ?hd (cs := #[.int .i64 a0_0, .int .i64 a0_1, .int .i64 a0_2, .slice A0_3 l0_3.length c0_3, .slice A0_4 l0_4.length c0_4]) (t := 24) ?hr ?_; (case hd => rfl); (case hg => rfl); (case hr => first | (go_simp; done) | (go_simp; rfl)); intro gb371 hg w13 hbox hb; replace HO1_1 := Aside0.mk (Kd.V_below (Kd.V_elderB HO1_1.out gb371 (Nat.le_of_eq hg.symm)) hb); have BK371 := Aside0.mk (hbox); have GW371 := Aside0.mk ((by rw [hg]; exact (below_size HB.out) : w.heap.size ≤ gb371)); have GE371 := Aside0.mk ((by rw [hg]; exact (below_size HB.out) : w.heap.size ≤ gb371)); replace HB := Aside0.mk (below_step HB.out hb); clear hb hbox hg) | ((with_reducible refine gate_dst (N := 4) rfl ?_); refine box_event ?hg (N := 4) ?hd (cs := #[.int .i64 a1_0, .slice A1_1 l1_1.length c1_1]) (t := 26) ?hr ?_; (case hd => rfl); (case hg => rfl); (case hr => first | (go_simp; done) | (go_simp; rfl)); intro gb372 hg w14 hbox hb; replace HO1_1 := Aside0.mk (Kd.V_below (Kd.V_elderB HO1_1.out gb372 (Nat.le_of_eq hg.symm)) hb); have BK372 := Aside0.mk (hbox); have GW372 := Aside0.mk ((by rw [hg]; exact (below_size HB.out) : w.heap.size ≤ gb372)); have GE372 := Aside0.mk ((by rw [hg]; exact (below_size HB.out) : w.heap.size ≤ gb372)); replace HB := Aside0.mk (below_step HB.out hb); have NB371_372 := Aside0.mk ((by rw [hg]; exact Nat.ne_of_lt (blk_lt BK371.out) : gb371 ≠ gb372)); have NB372_371 := Aside0.mk ((by rw [hg]; exact Nat.ne_of_gt (blk_lt BK371.out) : gb372 ≠ gb371)); replace BK371 := Aside0.mk (blk_below BK371.out hb); clear hb hbox hg) | ((with_reducible refine gate_dst (N := 6) rfl ?_); refine box_event ?hg (N := 6) ?hd (cs := #[.int .i64 0, .slice none 0 0]) (t := 26) ?hr ?_; (case hd => rfl); (case hg => rfl); (case hr => first | (go_simp; done) | (go_simp; rfl)); intro gb373 hg w15 hbox hb; replace HO1_1 := Aside0.mk (Kd.V_below (Kd.V_elderB HO1_1.out gb373 (Nat.le_of_eq hg.symm)) hb); have BK373 := Aside0.mk (hbox); have GW373 := Aside0.mk ((by rw [hg]; exact (below_size HB.out) : w.heap.size ≤ gb373)); have GE373 := Aside0.mk ((by rw [hg]; exact (below_size HB.out) : w.heap.size ≤ gb373)); replace HB := Aside0.mk (below_step HB.out hb); have NB371_373 := Aside0.mk ((by rw [hg]; exact Nat.ne_of_lt (blk_lt BK371.out) : gb371 ≠ gb373)); have NB373_371 := Aside0.mk ((by rw [hg]; exact Nat.ne_of_gt (blk_lt BK371.out) : gb373 ≠ gb371)); replace BK371 := Aside0.mk (blk_below BK371.out hb); have NB372_373 := Aside0.mk ((by rw [hg]; exact Nat.ne_of_lt (blk_lt BK372.out) : gb372 ≠ gb373)); have NB373_372 := Aside0.mk ((by rw [hg]; exact Nat.ne_of_gt (blk_lt BK372.out) : gb373 ≠ gb372)); replace BK372 := Aside0.mk (blk_below BK372.out hb); clear hb hbox hg))
  go_loopg [8] k (fun kq v8 w' => ∃ (x8_1 : Int) (x374000_1 : Int), v8 = .int .i64 x8_1 ∧ Aside0 (taquinref22_Hear.l0 kq l2 x8_1 a0_0 a0_1 a0_2 l0_3 l0_4 a1_0 l1_1 = some (r1, r2, r3)) ∧ Aside0 (kq ≤ k) ∧ Aside0 (Kd.V (Kd.int .i64) 3 w' w.heap.size (fun k_ => (P1_1_ k_ ∨ w.heap.size ≤ k_) ∧ k_ ≠ gb371 ∧ k_ ≠ gb372 ∧ k_ ≠ gb373) (.slice A1_1 l1_1.length c1_1) l1_1) ∧ Aside0 (w'.heap[gb371]? = some (.cells #[.int .i64 a0_0, .int .i64 a0_1, .int .i64 a0_2, (.slice A0_3 l0_3.length c0_3), (.slice A0_4 l0_4.length c0_4)] 24 (0, 0))) ∧ Aside0 (w'.heap[gb372]? = some (.cells #[.int .i64 a1_0, (.slice A1_1 l1_1.length c1_1)] 26 (0, 0))) ∧ Aside0 (w'.heap[gb373]? = some (.cells #[.int .i64 x374000_1, (.slice none 0 0)] 26 (0, 0))) ∧ Aside0 (Below w.heap.size w w'))
  case atStart => exact ⟨(0), (0), rfl, H', ⟨Nat.le_refl _⟩, ⟨by (with_reducible repeat (first | apply Kd.V_alloc | apply Kd.V_drewN | apply Kd.V_drew)); exact Kd.V_mono HO1_1.out (fun _ hk => ⟨hk.1.1.1, ⟨hk.1.1.2, ⟨hk.1.2, hk.2⟩⟩⟩)⟩, ⟨BK371.out⟩, ⟨BK372.out⟩, ⟨BK373.out⟩, ⟨HB.out⟩⟩
  case round =>
   clear H'
   try clear c1
   try clear c2
   try clear p2
   try clear c4
   try clear c4b0
   try clear c4b1
   try clear c8
   try clear c9
   try clear c11
   try clear c13
   try clear hcz10_0
   try clear hcz10_1
   try clear hcz12_0
   try clear hcz12_1
   try clear hfz10_0
   try clear hfz10_1
   try clear hfz12_0
   try clear hfz12_1
   obtain ⟨x8_1, x374000_1, rfl, HA, HK1, HO_373001, BK371, BK372, BK373, HB⟩ := hrel
   cases gk with
   | zero => exact absurd HA.out (by simp [taquinref22_Hear.l0])
   | succ k1 =>
    have H := HA.out
    clear HA
    simp only [taquinref22_Hear.l0] at H
    by_cases c16 : x8_1 < (l2.length : Int)
    ·rw [if_pos c16] at H
     have c16b0 : decide (x8_1 < (l2.length : Int)) = true := decide_eq_true c16
     clear c16
     by_cases c17 : 0 ≤ x8_1
     ·rw [if_pos c17] at H
      have c17b0 : decide (0 ≤ x8_1) = true := decide_eq_true c17
      clear c17
      by_cases c18 : (rd l2 x8_1) < 0
      ·rw [if_pos c18] at H
       have c18b0 : decide ((rd l2 x8_1) < 0) = true := decide_eq_true c18
       clear c18
       simp only [Option.some.injEq, Prod.mk.injEq] at H
       obtain ⟨rfl, rfl, rfl⟩ := H
       have p374 : 0 ≤ (x8_1 : Int) := of_decide_eq_true (by first | (with_reducible assumption) | assumption)
       have q374 : x8_1 < (l2.length : Int) := of_decide_eq_true (by first | (with_reducible assumption) | assumption)
       obtain ⟨ad374, e374, hx374_0⟩ := Kd.at_int HR2.out x8_1 p374 q374
       cases e374
       replace hx374_0 := (HB.out.cell (World.block_lt_of_cell? w _ hx374_0)).trans hx374_0
       replace p374 := eq_true p374
       replace q374 := eq_true q374
       have hnb19 := NB372_371.out
       have hnc19 := NB371_372.out
       have hnb20 := NB372_373.out
       have hnc20 := NB373_372.out
       have hcz21_0 : wr.cell? ⟨gb372, 0, none⟩ = some (.int .i64 a1_0) := (blk_cell BK372.out 0).trans rfl
       have hcz21_1 : wr.cell? ⟨gb372, 1, none⟩ = some (.slice A1_1 l1_1.length c1_1) := (blk_cell BK372.out 1).trans rfl
       have hfz21_0 := blk_frozen BK372.out 0
       have hfz21_1 := blk_frozen BK372.out 1
       have hnb22 := NB373_371.out
       have hnc22 := NB371_373.out
       have hcz23_0 : wr.cell? ⟨gb373, 0, none⟩ = some (.int .i64 x374000_1) := (blk_cell BK373.out 0).trans rfl
       have hcz23_1 : wr.cell? ⟨gb373, 1, none⟩ = some (.slice none 0 0) := (blk_cell BK373.out 1).trans rfl
       have hfz23_0 := blk_frozen BK373.out 0
       have hfz23_1 := blk_frozen BK373.out 1
       go_wp2
       refine bodyPost_ret (results_ct rfl _ _ gb373 26 #[.int .i64 a1_0, .slice A1_1 l1_1.length c1_1] (0, 0) _ rfl (by (with_reducible repeat (first | refine blk_drewN ?_ _ | refine blk_drew ?_ | refine blk_alloc ?_ _)); refine blk_put (cs := #[.int .i64 a1_0, .slice none 0 0]) ?_ 1 _ rfl; (with_reducible repeat (first | refine blk_drewN ?_ _ | refine blk_drew ?_ | refine blk_alloc ?_ _)); refine blk_put (cs := #[.int .i64 x374000_1, .slice none 0 0]) ?_ 0 _ rfl; (with_reducible repeat (first | refine blk_drewN ?_ _ | refine blk_drew ?_ | refine blk_alloc ?_ _)); exact BK373.out) Tryz.underlying26 rfl (by kernel_rfl)) rfl ?_
       exact ⟨_, by first | rfl | (simp [errW_none, errW_some] <;> rfl) | (simp [*, errW_none, errW_some] <;> rfl), by (with_reducible repeat (first | apply Kd.V_alloc | apply Kd.V_drewN | apply Kd.V_drew)); exact Kd.V_mono (Kd.V_far (p := ⟨gb373, 1, none⟩) (Kd.V_far (p := ⟨gb373, 0, none⟩) (Kd.V_mono HO_373001.out (fun k_ hk => (⟨hk, hk.2.2.2⟩ : _ ∧ k_ ≠ gb373))) (fun _ hk => hk.2) (.int .i64 a1_0)) (fun _ hk => hk.2) (.slice A1_1 l1_1.length c1_1)) (fun _ hk => hk.1.1), by repeat (first | (with_reducible first | exact HB.out | apply below_alloc | apply pw_below_drewN | apply below_drew1 | refine below_set ?_ GE371.out | refine below_set ?_ GE372.out | refine below_set ?_ GE373.out) | exact HB.out)⟩
      ·rw [if_neg c18] at H
       have c18b0 : decide ((rd l2 x8_1) < 0) = false := decide_eq_false c18
       clear c18
       by_cases c24 : (rd l2 x8_1) ≥ 10
       ·rw [if_pos c24] at H
        have c24b0 : decide (10 ≤ (rd l2 x8_1)) = true := decide_eq_true c24
        clear c24
        simp only [Option.some.injEq, Prod.mk.injEq] at H
        obtain ⟨rfl, rfl, rfl⟩ := H
        have p374 : 0 ≤ (x8_1 : Int) := of_decide_eq_true (by first | (with_reducible assumption) | assumption)
        have q374 : x8_1 < (l2.length : Int) := of_decide_eq_true (by first | (with_reducible assumption) | assumption)
        obtain ⟨ad374, e374, hx374_0⟩ := Kd.at_int HR2.out x8_1 p374 q374
        cases e374
        replace hx374_0 := (HB.out.cell (World.block_lt_of_cell? w _ hx374_0)).trans hx374_0
        replace p374 := eq_true p374
        replace q374 := eq_true q374
        have p375 : 0 ≤ (x8_1 : Int) := of_decide_eq_true (by first | (with_reducible assumption) | assumption)
        have q375 : x8_1 < (l2.length : Int) := of_decide_eq_true (by first | (with_reducible assumption) | assumption)
        obtain ⟨ad375, e375, hx375_0⟩ := Kd.at_int HR2.out x8_1 p375 q375
        obtain rfl : ad374 = ad375 := (by injection e375)
        replace hx375_0 := (HB.out.cell (World.block_lt_of_cell? w _ hx375_0)).trans hx375_0
        replace p375 := eq_true p375
        replace q375 := eq_true q375
        have hnb25 := NB372_371.out
        have hnc25 := NB371_372.out
        have hnb26 := NB372_373.out
        have hnc26 := NB373_372.out
        have hcz27_0 : wr.cell? ⟨gb372, 0, none⟩ = some (.int .i64 a1_0) := (blk_cell BK372.out 0).trans rfl
        have hcz27_1 : wr.cell? ⟨gb372, 1, none⟩ = some (.slice A1_1 l1_1.length c1_1) := (blk_cell BK372.out 1).trans rfl
        have hfz27_0 := blk_frozen BK372.out 0
        have hfz27_1 := blk_frozen BK372.out 1
        have hnb28 := NB373_371.out
        have hnc28 := NB371_373.out
        have hcz29_0 : wr.cell? ⟨gb373, 0, none⟩ = some (.int .i64 x374000_1) := (blk_cell BK373.out 0).trans rfl
        have hcz29_1 : wr.cell? ⟨gb373, 1, none⟩ = some (.slice none 0 0) := (blk_cell BK373.out 1).trans rfl
        have hfz29_0 := blk_frozen BK373.out 0
        have hfz29_1 := blk_frozen BK373.out 1
        go_wp2
        refine bodyPost_ret (results_ct rfl _ _ gb373 26 #[.int .i64 a1_0, .slice A1_1 l1_1.length c1_1] (0, 0) _ rfl (by (with_reducible repeat (first | refine blk_drewN ?_ _ | refine blk_drew ?_ | refine blk_alloc ?_ _)); refine blk_put (cs := #[.int .i64 a1_0, .slice none 0 0]) ?_ 1 _ rfl; (with_reducible repeat (first | refine blk_drewN ?_ _ | refine blk_drew ?_ | refine blk_alloc ?_ _)); refine blk_put (cs := #[.int .i64 x374000_1, .slice none 0 0]) ?_ 0 _ rfl; (with_reducible repeat (first | refine blk_drewN ?_ _ | refine blk_drew ?_ | refine blk_alloc ?_ _)); exact BK373.out) Tryz.underlying26 rfl (by kernel_rfl)) rfl ?_
        exact ⟨_, by first | rfl | (simp [errW_none, errW_some] <;> rfl) | (simp [*, errW_none, errW_some] <;> rfl), by (with_reducible repeat (first | apply Kd.V_alloc | apply Kd.V_drewN | apply Kd.V_drew)); exact Kd.V_mono (Kd.V_far (p := ⟨gb373, 1, none⟩) (Kd.V_far (p := ⟨gb373, 0, none⟩) (Kd.V_mono HO_373001.out (fun k_ hk => (⟨hk, hk.2.2.2⟩ : _ ∧ k_ ≠ gb373))) (fun _ hk => hk.2) (.int .i64 a1_0)) (fun _ hk => hk.2) (.slice A1_1 l1_1.length c1_1)) (fun _ hk => hk.1.1), by repeat (first | (with_reducible first | exact HB.out | apply below_alloc | apply pw_below_drewN | apply below_drew1 | refine below_set ?_ GE371.out | refine below_set ?_ GE372.out | refine below_set ?_ GE373.out) | exact HB.out)⟩
       ·rw [if_neg c24] at H
        have c24b0 : decide (10 ≤ (rd l2 x8_1)) = false := decide_eq_false c24
        clear c24
        have H' := Aside0.mk H
        clear H
        have p374 : 0 ≤ (x8_1 : Int) := of_decide_eq_true (by first | (with_reducible assumption) | assumption)
        have q374 : x8_1 < (l2.length : Int) := of_decide_eq_true (by first | (with_reducible assumption) | assumption)
        obtain ⟨ad374, e374, hx374_0⟩ := Kd.at_int HR2.out x8_1 p374 q374
        cases e374
        replace hx374_0 := (HB.out.cell (World.block_lt_of_cell? w _ hx374_0)).trans hx374_0
        replace p374 := eq_true p374
        replace q374 := eq_true q374
        have p375 : 0 ≤ (x8_1 : Int) := of_decide_eq_true (by first | (with_reducible assumption) | assumption)
        have q375 : x8_1 < (l2.length : Int) := of_decide_eq_true (by first | (with_reducible assumption) | assumption)
        obtain ⟨ad375, e375, hx375_0⟩ := Kd.at_int HR2.out x8_1 p375 q375
        obtain rfl : ad374 = ad375 := (by injection e375)
        replace hx375_0 := (HB.out.cell (World.block_lt_of_cell? w _ hx375_0)).trans hx375_0
        replace p375 := eq_true p375
        replace q375 := eq_true q375
        go_wp2
        go_roundg k1
        case measure => have := HK1.out; omega
        case rel => exact ⟨(wrap64 (x8_1 + 1)), (x374000_1), rfl, H', ⟨by have := HK1.out; omega⟩, ⟨HO_373001.out⟩, ⟨BK371.out⟩, ⟨BK372.out⟩, ⟨BK373.out⟩, ⟨HB.out⟩⟩
     ·rw [if_neg c17] at H
      exact absurd H (by simp)
    ·rw [if_neg c16] at H
     have c16b0 : decide (x8_1 < (l2.length : Int)) = false := decide_eq_false c16
     clear c16
     obtain ⟨y376, hy376⟩ : ∃ y_ : List Int, y_ = (([] : List Int)) := ⟨_, rfl⟩
     replace H : (if y376.length + l2.length < 17592186044416 then ((some (y376 ++ l2 : List Int)).bind fun y379 => ((taquinref22_Right.f k1 a0_0 a0_1 a0_2 l0_3 l0_4 a1_0 y379).bind fun t383 => (if t383 = true then (some (a1_0, y379, 0)) else (some (a1_0, l1_1, 14))))) else (none)) = some (r1, r2, r3) := by first | (rw [hy376]; with_reducible exact H) | (have H2_ := (Option.bind_some _ _).symm.trans H; rw [hy376]; with_reducible exact H2_) | (have H2_ := (Option.bind_some _ _).symm.trans H; with_reducible exact H2_) | with_reducible exact H | (rw [hy376]; exact H) | exact H
     have Ny376 := Aside0.mk hy376
     clear hy376
     by_cases c30 : y376.length + l2.length < 17592186044416
     ·rw [if_pos c30] at H
      have LMc30 := Aside0.mk c30
      clear c30
      obtain ⟨y379, hy379⟩ : ∃ y_ : List Int, y_ = (y376 ++ l2) := ⟨_, rfl⟩
      replace H : ((taquinref22_Right.f k1 a0_0 a0_1 a0_2 l0_3 l0_4 a1_0 y379).bind fun t383 => (if t383 = true then (some (a1_0, y379, 0)) else (some (a1_0, l1_1, 14)))) = some (r1, r2, r3) := by first | (rw [hy379]; with_reducible exact H) | (have H2_ := (Option.bind_some _ _).symm.trans H; rw [hy379]; with_reducible exact H2_) | (have H2_ := (Option.bind_some _ _).symm.trans H; with_reducible exact H2_) | with_reducible exact H | (rw [hy379]; exact H) | exact H
      have Ny379 := Aside0.mk hy379
      clear hy379
      replace H := Option.bind_eq_some_iff.mp H
      obtain ⟨t383, A310, H⟩ := H
      try dsimp only at H
      have A31 := Aside0.mk A310
      clear A310
      by_cases c32 : t383 = true
      ·subst c32
       have H1 : (some (a1_0, y379, 0)) = some (r1, r2, r3) := by rw [if_pos rfl] at H; exact H
       clear H
       have H := H1
       clear H1
       simp only [Option.some.injEq, Prod.mk.injEq] at H
       obtain ⟨rfl, rfl, rfl⟩ := H
       try go_wp2
       replace HO_373001 := Aside0.mk (Kd.V_drew HO_373001.out)
       replace BK371 := Aside0.mk (blk_drew BK371.out)
       replace BK372 := Aside0.mk (blk_drew BK372.out)
       replace BK373 := Aside0.mk (blk_drew BK373.out)
       replace HB := Aside0.mk (below_drew1 HB.out)
       refine start_ (n := 8) (S := fun w' => w'.cell? ⟨gb372, 0, none⟩ = some (.int .i64 a1_0) ∧ w'.cell? ⟨gb372, 1, none⟩ = some (.slice A1_1 l1_1.length c1_1)) (ds := []) #[ff,ff,ff,ff,ff,ff,ff,ff] (by kernel_rfl) rfl rfl ⟨(blk_cell BK372.out 0).trans rfl, (blk_cell BK372.out 1).trans rfl⟩ (fun hHeld => ?_); refine with_tabW taquinref22_Hear.tab8 taquinref22_Hear.bits8 (fun HT_ HW_ => ?_)
       generalize wr.drew = w33 at HO_373001 BK371 BK372 BK373 HB hHeld ⊢
       refine pure_ (i := 0) (N := some 33) (v := ?_) (a' := ?_) #[tt,ff,ff,ff,ff,ff,ff,ff] rfl rfl (any_of HT_.out (by kernel_rfl)) (fun _ _ _ h => h) (Or.inl ⟨by rfl, ?_⟩) ?_ ?_
       rotate_left
       ·intro w'
        go_simp
        with_reducible rfl
       rotate_left
       ·simp only [Act.put, List.setIfInBounds_toArray, List.set_cons_zero, List.set_cons_succ, i64_w, i32_w]
        rfl
       refine pure_ (i := 3) (N := some 36) (v := ?_) (a' := ?_) #[tt,ff,ff,tt,ff,ff,ff,ff] rfl rfl (any_of HT_.out (by kernel_rfl)) (fun _ _ _ h => h) (Or.inl ⟨by rfl, ?_⟩) ?_ ?_
       rotate_left
       ·intro w'
        go_simp
        with_reducible rfl
       rotate_left
       ·simp only [Act.put, List.setIfInBounds_toArray, List.set_cons_zero, List.set_cons_succ, i64_w, i32_w]
        rfl
       refine take_ (i := 1) (N := some 34) (v := ?_) (a' := ?_) #[tt,tt,ff,tt,ff,ff,ff,ff] rfl rfl (take_ofW HT_.out HW_.out (by kernel_rfl)) (fun _ _ _ h => h) (Or.inl ⟨by rfl, ?_⟩) hHeld ?_ ?_
       rotate_left
       ·rintro w' ⟨s0, s1⟩
        go_simp
        with_reducible rfl
       rotate_left
       ·simp only [Act.put, List.setIfInBounds_toArray, List.set_cons_zero, List.set_cons_succ, i64_w, i32_w]
        rfl
       refine join_ (σ := Value × Value × Nat) 1 #[tt,tt,tt,tt,tt,tt,tt,ff] (fun s_ => [(35, s_.1), (37, s_.2.1), (9, .pointer (some ⟨s_.2.2, 0, none⟩)), (38, .agg #[.int .i64 a1_0, s_.2.1])]) (fun s_ w' => (w'.cell? ⟨gb372, 0, none⟩ = some (.int .i64 a1_0) ∧ w'.cell? ⟨gb372, 1, none⟩ = some (.slice A1_1 l1_1.length c1_1)) ∧ (Kd.R (Kd.int .i64) 3 w' w.heap.size (fun k_ => (w.heap.size ≤ k_)) s_.2.1 y379) ∧ (Kd.V (Kd.int .i64) 3 w' w.heap.size (fun k_ => (P1_1_ k_ ∨ w.heap.size ≤ k_) ∧ some k_ ≠ (s_.2.1 : Value).ownBlock ∧ k_ ≠ gb371 ∧ k_ ≠ gb372 ∧ k_ ≠ gb373 ∧ k_ ≠ s_.2.2) (.slice A1_1 l1_1.length c1_1) l1_1) ∧ (w'.heap[gb371]? = some (.cells #[.int .i64 a0_0, .int .i64 a0_1, .int .i64 a0_2, .slice A0_3 l0_3.length c0_3, .slice A0_4 l0_4.length c0_4] 24 (0, 0))) ∧ (w'.heap[gb372]? = some (.cells #[.int .i64 a1_0, .slice A1_1 l1_1.length c1_1] 26 (0, 0))) ∧ (w'.heap[gb373]? = some (.cells #[.int .i64 x374000_1, .slice none 0 0] 26 (0, 0))) ∧ (w'.heap[s_.2.2]? = some (.cells #[.int .i64 0, .slice none 0 0] 26 (0, 0))) ∧ (w.heap.size ≤ s_.2.2) ∧ (w.heap.size ≤ s_.2.2) ∧ (gb371 ≠ s_.2.2) ∧ (s_.2.2 ≠ gb371) ∧ (gb372 ≠ s_.2.2) ∧ (s_.2.2 ≠ gb372) ∧ (gb373 ≠ s_.2.2) ∧ (s_.2.2 ≠ gb373) ∧ (Below w.heap.size w w')) ?_ ?_
       rotate_left
       ·intro hCont
        refine two_ (i := 2) (j := 6) (Ni := some 35) (Nj := some 9) #[tt,tt,tt,tt,ff,ff,ff,ff] #[tt,tt,ff,tt,ff,ff,tt,ff] rfl rfl rfl rfl (two_of HT_.out (by kernel_rfl)) (by decide) (by decide) (fun K hK => ?_) (fun K hK => ?_)
        ·skip
         refine Kd.R_lit_step (Kd.int .i64) _ 3 ?hg (N := 35) ?hd (xs := ([] : List Int)) (inner := []) (ok := fun _ => True) (okp := fun _ => True) ?hr ?hp (fun _ hk => hk) trivial (Below.refl _ _) (Nat.le_refl _) (by simp) ?_; (case hd => rfl); (case hg => rfl); (case hr => first | (go_simp; done) | (go_simp; rfl)); (case hp => exact (Reps.none _ _))
         intro v377 w34 ho35 hb hg_ hnew_
         clear hg_ hnew_
         (first | rw [← Ny376.out] at ho35 | (simp only [Int.reduceToNat] at ho35; rw [← Ny376.out] at ho35))
         replace HO_373001 := Aside0.mk (Kd.V_elder' HO_373001.out (Kd.R_base ho35) hb)
         have HO378 := Aside0.mk (Kd.R_lower (Kd.R_newM (M := fun k_ => (w.heap.size ≤ k_)) ho35 (below_size HB.out) (fun k_ h_ => h_)) (below_size HB.out))
         replace BK371 := Aside0.mk (blk_below BK371.out hb)
         replace BK372 := Aside0.mk (blk_below BK372.out hb)
         replace BK373 := Aside0.mk (blk_below BK373.out hb)
         replace HB := Aside0.mk (below_step HB.out hb)
         clear hb ho35
         refine hK.out _ _ ⟨(blk_cell BK372.out 0).trans rfl, (blk_cell BK372.out 1).trans rfl⟩ (fun hHeld => ?_)
         clear hK K
         refine norm_ (a' := ?_) ?_ ?_
         rotate_left
         ·show Act.put _ (some 35) _ = _
          simp only [Act.put, List.setIfInBounds_toArray, List.set_cons_zero, List.set_cons_succ, i64_w, i32_w]
          rfl
         refine two_ (i := 4) (j := 6) (Ni := some 37) (Nj := some 9) #[tt,tt,tt,tt,tt,ff,ff,ff] #[tt,tt,tt,tt,ff,ff,tt,ff] rfl rfl rfl rfl (two_of HT_.out (by kernel_rfl)) (by decide) (by decide) (fun K hK => ?_) (fun K hK => ?_)
         ·skip
          refine Kd.R_append_rows_step (Kd.int .i64) (w0 := w) w.heap.size (by rfl) (.tmp 35) (.tmp 36) 22 3 (.int .i64 0) 8 rfl Tryz.underlying22 info3 rfl (by decide) (by omega) v377 y376 l2 _ _ _ (fun k_ => (w.heap.size ≤ k_)) (fun _ => False) rfl rfl ?aO ?aR (fun _ _ h => h) (fun _ h => h.elim) ?aF ?aB ?aS ?aL ?_
          (case aR => repeat (first | exact (Kd.C_below HR2.out HB.out) | (with_reducible refine Kd.C_alloc ?_ _) | (with_reducible refine Kd.C_drewN ?_ _) | (with_reducible refine Kd.C_drew ?_)))
          (case aB => exact HB.out)
          (case aF => exact (fun k_ hk => (Nat.le_trans (below_size HB.out) hk)))
          (case aO => exact (by (with_reducible repeat (first | apply Kd.R_alloc | apply Kd.R_drewN | apply Kd.R_drew)); exact Kd.R_mono HO378.out (fun _ hk => hk.1)))
          (case aS => exact (below_size HB.out))
          (case aL => have := LMc30.out; omega)
          intro v380 w36 ho hb hg hat
          rw [← Ny379.out] at ho
          replace HO_373001 := Aside0.mk (Kd.V_afterv (ok := (fun k_ => (P1_1_ k_ ∨ w.heap.size ≤ k_) ∧ k_ ≠ gb371 ∧ k_ ≠ gb372 ∧ k_ ≠ gb373)) HO_373001.out hg hat)
          replace BK371 := Aside0.mk (blk_grown BK371.out hg (Kd.R_ne HO378.out BK371.out (by decide)))
          replace BK372 := Aside0.mk (blk_grown BK372.out hg (Kd.R_ne HO378.out BK372.out (by decide)))
          replace BK373 := Aside0.mk (blk_grown BK373.out hg (Kd.R_ne HO378.out BK373.out (by decide)))
          replace HB := Aside0.mk (hb)
          have HO381 := Aside0.mk (ho)
          clear HO378
          clear ho hb hg hat
          obtain ⟨Ao37, co37, eo37⟩ := Kd.R_slice HO381.out
          (first | subst eo37 | (injection eo37 with f1_ f2_ f3_; have f4_ := f1_.symm; have f5_ := f3_.symm; clear f1_ f2_ f3_; subst f4_; subst f5_))
          refine hK.out _ _ ⟨(blk_cell BK372.out 0).trans rfl, (blk_cell BK372.out 1).trans rfl⟩ (fun hHeld => ?_)
          clear hK K
          refine norm_ (a' := ?_) ?_ ?_
          rotate_left
          ·show Act.put _ (some 37) _ = _
           simp only [Act.put, List.setIfInBounds_toArray, List.set_cons_zero, List.set_cons_succ, i64_w, i32_w]
           rfl
          refine pure_ (i := 5) (N := some 38) (v := ?_) (a' := ?_) #[tt,tt,tt,tt,tt,tt,ff,ff] rfl rfl (any_of HT_.out (by kernel_rfl)) (fun _ _ _ h => h) (Or.inl ⟨by rfl, ?_⟩) ?_ ?_
          rotate_left
          ·intro w'
           go_simp
           with_reducible rfl
          rotate_left
          ·simp only [Act.put, List.setIfInBounds_toArray, List.set_cons_zero, List.set_cons_succ, i64_w, i32_w]
           rfl
          refine one_ (i := 6) (N := some 9) #[tt,tt,tt,tt,tt,tt,tt,ff] rfl rfl (one_of HT_.out (by kernel_rfl)) (by decide) (fun K hK => ?_)
          refine box_step ?hg (N := 9) ?hd (cs := #[.int .i64 0, .slice none 0 0]) (t := 26) ?hr ?_; (case hd => rfl); (case hg => rfl); (case hr => first | (go_simp; done) | (go_simp; rfl))
          intro gb382 hg w38 hbox hb
          replace HO_373001 := Aside0.mk (Kd.V_below (Kd.V_elderB HO_373001.out gb382 (Nat.le_of_eq hg.symm)) hb)
          replace HO381 := Aside0.mk (Kd.R_below HO381.out hb)
          have BK382 := Aside0.mk (hbox)
          have GW382 := Aside0.mk ((by rw [hg]; exact (below_size HB.out) : w.heap.size ≤ gb382))
          have GE382 := Aside0.mk ((by rw [hg]; exact (below_size HB.out) : w.heap.size ≤ gb382))
          replace HB := Aside0.mk (below_step HB.out hb)
          have NB371_382 := Aside0.mk ((by rw [hg]; exact Nat.ne_of_lt (blk_lt BK371.out) : gb371 ≠ gb382))
          have NB382_371 := Aside0.mk ((by rw [hg]; exact Nat.ne_of_gt (blk_lt BK371.out) : gb382 ≠ gb371))
          replace BK371 := Aside0.mk (blk_below BK371.out hb)
          have NB372_382 := Aside0.mk ((by rw [hg]; exact Nat.ne_of_lt (blk_lt BK372.out) : gb372 ≠ gb382))
          have NB382_372 := Aside0.mk ((by rw [hg]; exact Nat.ne_of_gt (blk_lt BK372.out) : gb382 ≠ gb372))
          replace BK372 := Aside0.mk (blk_below BK372.out hb)
          have NB373_382 := Aside0.mk ((by rw [hg]; exact Nat.ne_of_lt (blk_lt BK373.out) : gb373 ≠ gb382))
          have NB382_373 := Aside0.mk ((by rw [hg]; exact Nat.ne_of_gt (blk_lt BK373.out) : gb382 ≠ gb373))
          replace BK373 := Aside0.mk (blk_below BK373.out hb)
          clear hb hbox hg
          refine hK.out _ _ ⟨(blk_cell BK372.out 0).trans rfl, (blk_cell BK372.out 1).trans rfl⟩ (fun hHeld => ?_)
          clear hK K
          refine norm_ (a' := ?_) ?_ ?_
          rotate_left
          ·show Act.put _ (some 9) _ = _
           simp only [Act.put, List.setIfInBounds_toArray, List.set_cons_zero, List.set_cons_succ, i64_w, i32_w]
           rfl
          exact norm_ (by simp only [putAll, Act.put, List.setIfInBounds_toArray, List.set_cons_zero, List.set_cons_succ]) (hCont (v377, .slice Ao37 y379.length co37, gb382) _ ⟨hHeld, HO381.out, (by (with_reducible repeat (first | apply Kd.V_alloc | apply Kd.V_drewN | apply Kd.V_drew)); exact Kd.V_mono HO_373001.out (fun _ hk => ⟨hk.1.1.1, ⟨hk.1.2, ⟨hk.1.1.2.1, ⟨hk.1.1.2.2.1, ⟨hk.1.1.2.2.2, hk.2⟩⟩⟩⟩⟩)), BK371.out, BK372.out, BK373.out, BK382.out, GW382.out, GE382.out, NB371_382.out, NB382_371.out, NB372_382.out, NB382_372.out, NB373_382.out, NB382_373.out, HB.out⟩)
         ·skip
          refine box_step ?hg (N := 9) ?hd (cs := #[.int .i64 0, .slice none 0 0]) (t := 26) ?hr ?_; (case hd => rfl); (case hg => rfl); (case hr => first | (go_simp; done) | (go_simp; rfl))
          intro gb382 hg w36 hbox hb
          replace HO_373001 := Aside0.mk (Kd.V_below (Kd.V_elderB HO_373001.out gb382 (Nat.le_of_eq hg.symm)) hb)
          replace HO378 := Aside0.mk (Kd.R_below HO378.out hb)
          have BK382 := Aside0.mk (hbox)
          have GW382 := Aside0.mk ((by rw [hg]; exact (below_size HB.out) : w.heap.size ≤ gb382))
          have GE382 := Aside0.mk ((by rw [hg]; exact (below_size HB.out) : w.heap.size ≤ gb382))
          replace HB := Aside0.mk (below_step HB.out hb)
          have NB371_382 := Aside0.mk ((by rw [hg]; exact Nat.ne_of_lt (blk_lt BK371.out) : gb371 ≠ gb382))
          have NB382_371 := Aside0.mk ((by rw [hg]; exact Nat.ne_of_gt (blk_lt BK371.out) : gb382 ≠ gb371))
          replace BK371 := Aside0.mk (blk_below BK371.out hb)
          have NB372_382 := Aside0.mk ((by rw [hg]; exact Nat.ne_of_lt (blk_lt BK372.out) : gb372 ≠ gb382))
          have NB382_372 := Aside0.mk ((by rw [hg]; exact Nat.ne_of_gt (blk_lt BK372.out) : gb382 ≠ gb372))
          replace BK372 := Aside0.mk (blk_below BK372.out hb)
          have NB373_382 := Aside0.mk ((by rw [hg]; exact Nat.ne_of_lt (blk_lt BK373.out) : gb373 ≠ gb382))
          have NB382_373 := Aside0.mk ((by rw [hg]; exact Nat.ne_of_gt (blk_lt BK373.out) : gb382 ≠ gb373))
          replace BK373 := Aside0.mk (blk_below BK373.out hb)
          clear hb hbox hg
          refine hK.out _ _ ⟨(blk_cell BK372.out 0).trans rfl, (blk_cell BK372.out 1).trans rfl⟩ (fun hHeld => ?_)
          clear hK K
          refine norm_ (a' := ?_) ?_ ?_
          rotate_left
          ·show Act.put _ (some 9) _ = _
           simp only [Act.put, List.setIfInBounds_toArray, List.set_cons_zero, List.set_cons_succ, i64_w, i32_w]
           rfl
          refine one_ (i := 4) (N := some 37) #[tt,tt,tt,tt,tt,ff,tt,ff] rfl rfl (one_of HT_.out (by kernel_rfl)) (by decide) (fun K hK => ?_)
          refine Kd.R_append_rows_step (Kd.int .i64) (w0 := w) w.heap.size (by rfl) (.tmp 35) (.tmp 36) 22 3 (.int .i64 0) 8 rfl Tryz.underlying22 info3 rfl (by decide) (by omega) v377 y376 l2 _ _ _ (fun k_ => (w.heap.size ≤ k_)) (fun _ => False) rfl rfl ?aO ?aR (fun _ _ h => h) (fun _ h => h.elim) ?aF ?aB ?aS ?aL ?_
          (case aR => repeat (first | exact (Kd.C_below HR2.out HB.out) | (with_reducible refine Kd.C_alloc ?_ _) | (with_reducible refine Kd.C_drewN ?_ _) | (with_reducible refine Kd.C_drew ?_)))
          (case aB => exact HB.out)
          (case aF => exact (fun k_ hk => (Nat.le_trans (below_size HB.out) hk)))
          (case aO => exact (by (with_reducible repeat (first | apply Kd.R_alloc | apply Kd.R_drewN | apply Kd.R_drew)); exact Kd.R_mono HO378.out (fun _ hk => hk.1)))
          (case aS => exact (below_size HB.out))
          (case aL => have := LMc30.out; omega)
          intro v380 w37 ho hb hg hat
          rw [← Ny379.out] at ho
          replace HO_373001 := Aside0.mk (Kd.V_afterv (ok := (fun k_ => (P1_1_ k_ ∨ w.heap.size ≤ k_) ∧ k_ ≠ gb371 ∧ k_ ≠ gb372 ∧ k_ ≠ gb373 ∧ k_ ≠ gb382)) (by (with_reducible repeat (first | apply Kd.V_alloc | apply Kd.V_drewN | apply Kd.V_drew)); exact Kd.V_mono HO_373001.out (fun _ hk => ⟨⟨hk.1.1.1, ⟨hk.1.1.2.1, ⟨hk.1.1.2.2.1, ⟨hk.1.1.2.2.2, hk.2⟩⟩⟩⟩, hk.1.2⟩)) hg hat)
          replace BK371 := Aside0.mk (blk_grown BK371.out hg (Kd.R_ne HO378.out BK371.out (by decide)))
          replace BK372 := Aside0.mk (blk_grown BK372.out hg (Kd.R_ne HO378.out BK372.out (by decide)))
          replace BK373 := Aside0.mk (blk_grown BK373.out hg (Kd.R_ne HO378.out BK373.out (by decide)))
          replace BK382 := Aside0.mk (blk_grown BK382.out hg (Kd.R_ne HO378.out BK382.out (by decide)))
          replace HB := Aside0.mk (hb)
          have HO381 := Aside0.mk (ho)
          clear HO378
          clear ho hb hg hat
          obtain ⟨Ao38, co38, eo38⟩ := Kd.R_slice HO381.out
          (first | subst eo38 | (injection eo38 with f1_ f2_ f3_; have f4_ := f1_.symm; have f5_ := f3_.symm; clear f1_ f2_ f3_; subst f4_; subst f5_))
          refine hK.out _ _ ⟨(blk_cell BK372.out 0).trans rfl, (blk_cell BK372.out 1).trans rfl⟩ (fun hHeld => ?_)
          clear hK K
          refine norm_ (a' := ?_) ?_ ?_
          rotate_left
          ·show Act.put _ (some 37) _ = _
           simp only [Act.put, List.setIfInBounds_toArray, List.set_cons_zero, List.set_cons_succ, i64_w, i32_w]
           rfl
          refine pure_ (i := 5) (N := some 38) (v := ?_) (a' := ?_) #[tt,tt,tt,tt,tt,tt,tt,ff] rfl rfl (any_of HT_.out (by kernel_rfl)) (fun _ _ _ h => h) (Or.inl ⟨by rfl, ?_⟩) ?_ ?_
          rotate_left
          ·intro w'
           go_simp
           with_reducible rfl
          rotate_left
          ·simp only [Act.put, List.setIfInBounds_toArray, List.set_cons_zero, List.set_cons_succ, i64_w, i32_w]
           rfl
          exact norm_ (by simp only [putAll, Act.put, List.setIfInBounds_toArray, List.set_cons_zero, List.set_cons_succ]) (hCont (v377, .slice Ao38 y379.length co38, gb382) _ ⟨hHeld, HO381.out, (by (with_reducible repeat (first | apply Kd.V_alloc | apply Kd.V_drewN | apply Kd.V_drew)); exact Kd.V_mono HO_373001.out (fun _ hk => ⟨hk.1.1, ⟨hk.2, ⟨hk.1.2.1, ⟨hk.1.2.2.1, ⟨hk.1.2.2.2.1, hk.1.2.2.2.2⟩⟩⟩⟩⟩)), BK371.out, BK372.out, BK373.out, BK382.out, GW382.out, GE382.out, NB371_382.out, NB382_371.out, NB372_382.out, NB382_372.out, NB373_382.out, NB382_373.out, HB.out⟩)
        ·skip
         refine box_step ?hg (N := 9) ?hd (cs := #[.int .i64 0, .slice none 0 0]) (t := 26) ?hr ?_; (case hd => rfl); (case hg => rfl); (case hr => first | (go_simp; done) | (go_simp; rfl))
         intro gb382 hg w34 hbox hb
         replace HO_373001 := Aside0.mk (Kd.V_below (Kd.V_elderB HO_373001.out gb382 (Nat.le_of_eq hg.symm)) hb)
         have BK382 := Aside0.mk (hbox)
         have GW382 := Aside0.mk ((by rw [hg]; exact (below_size HB.out) : w.heap.size ≤ gb382))
         have GE382 := Aside0.mk ((by rw [hg]; exact (below_size HB.out) : w.heap.size ≤ gb382))
         replace HB := Aside0.mk (below_step HB.out hb)
         have NB371_382 := Aside0.mk ((by rw [hg]; exact Nat.ne_of_lt (blk_lt BK371.out) : gb371 ≠ gb382))
         have NB382_371 := Aside0.mk ((by rw [hg]; exact Nat.ne_of_gt (blk_lt BK371.out) : gb382 ≠ gb371))
         replace BK371 := Aside0.mk (blk_below BK371.out hb)
         have NB372_382 := Aside0.mk ((by rw [hg]; exact Nat.ne_of_lt (blk_lt BK372.out) : gb372 ≠ gb382))
         have NB382_372 := Aside0.mk ((by rw [hg]; exact Nat.ne_of_gt (blk_lt BK372.out) : gb382 ≠ gb372))
         replace BK372 := Aside0.mk (blk_below BK372.out hb)
         have NB373_382 := Aside0.mk ((by rw [hg]; exact Nat.ne_of_lt (blk_lt BK373.out) : gb373 ≠ gb382))
         have NB382_373 := Aside0.mk ((by rw [hg]; exact Nat.ne_of_gt (blk_lt BK373.out) : gb382 ≠ gb373))
         replace BK373 := Aside0.mk (blk_below BK373.out hb)
         clear hb hbox hg
         refine hK.out _ _ ⟨(blk_cell BK372.out 0).trans rfl, (blk_cell BK372.out 1).trans rfl⟩ (fun hHeld => ?_)
         clear hK K
         refine norm_ (a' := ?_) ?_ ?_
         rotate_left
         ·show Act.put _ (some 9) _ = _
          simp only [Act.put, List.setIfInBounds_toArray, List.set_cons_zero, List.set_cons_succ, i64_w, i32_w]
          rfl
         refine one_ (i := 2) (N := some 35) #[tt,tt,tt,tt,ff,ff,tt,ff] rfl rfl (one_of HT_.out (by kernel_rfl)) (by decide) (fun K hK => ?_)
         refine Kd.R_lit_step (Kd.int .i64) _ 3 ?hg (N := 35) ?hd (xs := ([] : List Int)) (inner := []) (ok := fun _ => True) (okp := fun _ => True) ?hr ?hp (fun _ hk => hk) trivial (Below.refl _ _) (Nat.le_refl _) (by simp) ?_; (case hd => rfl); (case hg => rfl); (case hr => first | (go_simp; done) | (go_simp; rfl)); (case hp => exact (Reps.none _ _))
         intro v377 w35 ho36 hb hg_ hnew_
         clear hg_ hnew_
         (first | rw [← Ny376.out] at ho36 | (simp only [Int.reduceToNat] at ho36; rw [← Ny376.out] at ho36))
         replace HO_373001 := Aside0.mk (Kd.V_elder' HO_373001.out (Kd.R_base ho36) hb)
         have HO378 := Aside0.mk (Kd.R_lower (Kd.R_newM (M := fun k_ => (w.heap.size ≤ k_)) ho36 (below_size HB.out) (fun k_ h_ => h_)) (below_size HB.out))
         replace BK371 := Aside0.mk (blk_below BK371.out hb)
         replace BK372 := Aside0.mk (blk_below BK372.out hb)
         replace BK373 := Aside0.mk (blk_below BK373.out hb)
         replace BK382 := Aside0.mk (blk_below BK382.out hb)
         replace HB := Aside0.mk (below_step HB.out hb)
         clear hb ho36
         refine hK.out _ _ ⟨(blk_cell BK372.out 0).trans rfl, (blk_cell BK372.out 1).trans rfl⟩ (fun hHeld => ?_)
         clear hK K
         refine norm_ (a' := ?_) ?_ ?_
         rotate_left
         ·show Act.put _ (some 35) _ = _
          simp only [Act.put, List.setIfInBounds_toArray, List.set_cons_zero, List.set_cons_succ, i64_w, i32_w]
          rfl
         refine one_ (i := 4) (N := some 37) #[tt,tt,tt,tt,tt,ff,tt,ff] rfl rfl (one_of HT_.out (by kernel_rfl)) (by decide) (fun K hK => ?_)
         refine Kd.R_append_rows_step (Kd.int .i64) (w0 := w) w.heap.size (by rfl) (.tmp 35) (.tmp 36) 22 3 (.int .i64 0) 8 rfl Tryz.underlying22 info3 rfl (by decide) (by omega) v377 y376 l2 _ _ _ (fun k_ => (w.heap.size ≤ k_)) (fun _ => False) rfl rfl ?aO ?aR (fun _ _ h => h) (fun _ h => h.elim) ?aF ?aB ?aS ?aL ?_
         (case aR => repeat (first | exact (Kd.C_below HR2.out HB.out) | (with_reducible refine Kd.C_alloc ?_ _) | (with_reducible refine Kd.C_drewN ?_ _) | (with_reducible refine Kd.C_drew ?_)))
         (case aB => exact HB.out)
         (case aF => exact (fun k_ hk => (Nat.le_trans (below_size HB.out) hk)))
         (case aO => exact (by (with_reducible repeat (first | apply Kd.R_alloc | apply Kd.R_drewN | apply Kd.R_drew)); exact Kd.R_mono HO378.out (fun _ hk => hk.1)))
         (case aS => exact (below_size HB.out))
         (case aL => have := LMc30.out; omega)
         intro v380 w37 ho hb hg hat
         rw [← Ny379.out] at ho
         replace HO_373001 := Aside0.mk (Kd.V_afterv (ok := (fun k_ => (P1_1_ k_ ∨ w.heap.size ≤ k_) ∧ k_ ≠ gb371 ∧ k_ ≠ gb372 ∧ k_ ≠ gb373 ∧ k_ ≠ gb382)) (by (with_reducible repeat (first | apply Kd.V_alloc | apply Kd.V_drewN | apply Kd.V_drew)); exact Kd.V_mono HO_373001.out (fun _ hk => ⟨⟨hk.1.1.1, ⟨hk.1.1.2.1, ⟨hk.1.1.2.2.1, ⟨hk.1.1.2.2.2, hk.1.2⟩⟩⟩⟩, hk.2⟩)) hg hat)
         replace BK371 := Aside0.mk (blk_grown BK371.out hg (Kd.R_ne HO378.out BK371.out (by decide)))
         replace BK372 := Aside0.mk (blk_grown BK372.out hg (Kd.R_ne HO378.out BK372.out (by decide)))
         replace BK373 := Aside0.mk (blk_grown BK373.out hg (Kd.R_ne HO378.out BK373.out (by decide)))
         replace BK382 := Aside0.mk (blk_grown BK382.out hg (Kd.R_ne HO378.out BK382.out (by decide)))
         replace HB := Aside0.mk (hb)
         have HO381 := Aside0.mk (ho)
         clear HO378
         clear ho hb hg hat
         obtain ⟨Ao38, co38, eo38⟩ := Kd.R_slice HO381.out
         (first | subst eo38 | (injection eo38 with f1_ f2_ f3_; have f4_ := f1_.symm; have f5_ := f3_.symm; clear f1_ f2_ f3_; subst f4_; subst f5_))
         refine hK.out _ _ ⟨(blk_cell BK372.out 0).trans rfl, (blk_cell BK372.out 1).trans rfl⟩ (fun hHeld => ?_)
         clear hK K
         refine norm_ (a' := ?_) ?_ ?_
         rotate_left
         ·show Act.put _ (some 37) _ = _
          simp only [Act.put, List.setIfInBounds_toArray, List.set_cons_zero, List.set_cons_succ, i64_w, i32_w]
          rfl
         refine pure_ (i := 5) (N := some 38) (v := ?_) (a' := ?_) #[tt,tt,tt,tt,tt,tt,tt,ff] rfl rfl (any_of HT_.out (by kernel_rfl)) (fun _ _ _ h => h) (Or.inl ⟨by rfl, ?_⟩) ?_ ?_
         rotate_left
         ·intro w'
          go_simp
          with_reducible rfl
         rotate_left
         ·simp only [Act.put, List.setIfInBounds_toArray, List.set_cons_zero, List.set_cons_succ, i64_w, i32_w]
          rfl
         exact norm_ (by simp only [putAll, Act.put, List.setIfInBounds_toArray, List.set_cons_zero, List.set_cons_succ]) (hCont (v377, .slice Ao38 y379.length co38, gb382) _ ⟨hHeld, HO381.out, (by (with_reducible repeat (first | apply Kd.V_alloc | apply Kd.V_drewN | apply Kd.V_drew)); exact Kd.V_mono HO_373001.out (fun _ hk => ⟨hk.1.1, ⟨hk.2, ⟨hk.1.2.1, ⟨hk.1.2.2.1, ⟨hk.1.2.2.2.1, hk.1.2.2.2.2⟩⟩⟩⟩⟩)), BK371.out, BK372.out, BK373.out, BK382.out, GW382.out, GE382.out, NB371_382.out, NB382_371.out, NB372_382.out, NB382_372.out, NB373_382.out, NB382_373.out, HB.out⟩)
       rintro ⟨v377, v380, gb382⟩ w39 ⟨hS_, h0_, h1_, h2_, h3_, h4_, h5_, h6_, h7_, h8_, h9_, h10_, h11_, h12_, h13_, h14_⟩
       have n0_ : Aside0 (Kd.R (Kd.int .i64) 3 w39 w.heap.size (fun k_ => (w.heap.size ≤ k_)) v380 y379) := ⟨h0_⟩
       have n1_ : Aside0 (Kd.V (Kd.int .i64) 3 w39 w.heap.size (fun k_ => (P1_1_ k_ ∨ w.heap.size ≤ k_) ∧ some k_ ≠ (v380 : Value).ownBlock ∧ k_ ≠ gb371 ∧ k_ ≠ gb372 ∧ k_ ≠ gb373 ∧ k_ ≠ gb382) (.slice A1_1 l1_1.length c1_1) l1_1) := ⟨h1_⟩
       have n2_ : Aside0 (w39.heap[gb371]? = some (.cells #[.int .i64 a0_0, .int .i64 a0_1, .int .i64 a0_2, .slice A0_3 l0_3.length c0_3, .slice A0_4 l0_4.length c0_4] 24 (0, 0))) := ⟨h2_⟩
       have n3_ : Aside0 (w39.heap[gb372]? = some (.cells #[.int .i64 a1_0, .slice A1_1 l1_1.length c1_1] 26 (0, 0))) := ⟨h3_⟩
       have n4_ : Aside0 (w39.heap[gb373]? = some (.cells #[.int .i64 x374000_1, .slice none 0 0] 26 (0, 0))) := ⟨h4_⟩
       have n5_ : Aside0 (w39.heap[gb382]? = some (.cells #[.int .i64 0, .slice none 0 0] 26 (0, 0))) := ⟨h5_⟩
       have n6_ : Aside0 (w.heap.size ≤ gb382) := ⟨h6_⟩
       have n7_ : Aside0 (w.heap.size ≤ gb382) := ⟨h7_⟩
       have n8_ : Aside0 (gb371 ≠ gb382) := ⟨h8_⟩
       have n9_ : Aside0 (gb382 ≠ gb371) := ⟨h9_⟩
       have n10_ : Aside0 (gb372 ≠ gb382) := ⟨h10_⟩
       have n11_ : Aside0 (gb382 ≠ gb372) := ⟨h11_⟩
       have n12_ : Aside0 (gb373 ≠ gb382) := ⟨h12_⟩
       have n13_ : Aside0 (gb382 ≠ gb373) := ⟨h13_⟩
       have n14_ : Aside0 (Below w.heap.size w w39) := ⟨h14_⟩
       clear HO_373001
       clear BK371
       clear BK372
       clear BK373
       clear HB
       clear h0_ h1_ h2_ h3_ h4_ h5_ h6_ h7_ h8_ h9_ h10_ h11_ h12_ h13_ h14_
       have HO381 := n0_
       have HO_373001 := n1_
       have BK371 := n2_
       have BK372 := n3_
       have BK373 := n4_
       have BK382 := n5_
       have GW382 := n6_
       have GE382 := n7_
       have NB371_382 := n8_
       have NB382_371 := n9_
       have NB372_382 := n10_
       have NB382_372 := n11_
       have NB373_382 := n12_
       have NB382_373 := n13_
       have HB := n14_
       clear n0_ n1_ n2_ n3_ n4_ n5_ n6_ n7_ n8_ n9_ n10_ n11_ n12_ n13_ n14_
       have hHeld : w39.cell? ⟨gb372, 0, none⟩ = some (.int .i64 a1_0) ∧ w39.cell? ⟨gb372, 1, none⟩ = some (.slice A1_1 l1_1.length c1_1) := hS_
       obtain ⟨Ao40, co40, eo40⟩ := Kd.R_slice HO381.out
       (first | subst eo40 | (injection eo40 with f1_ f2_ f3_; have f4_ := f1_.symm; have f5_ := f3_.symm; clear f1_ f2_ f3_; subst f4_; subst f5_))
       refine norm_ (a' := ?_) ?_ ?_
       rotate_left
       ·simp only [putAll, Act.put, List.setIfInBounds_toArray, List.set_cons_zero, List.set_cons_succ]
        rfl
       refine one_ (i := 7) (N := none) #[tt,tt,tt,tt,tt,tt,tt,tt] rfl rfl (one_of HT_.out (by kernel_rfl)) (by decide) (fun K hK => ?_)
       have hs41 : w39.cell? ⟨gb382, 0, none⟩ = some (.int .i64 0) := (blk_cell BK382.out 0).trans rfl
       have hfs41 := blk_frozen BK382.out 0
       have hns41_0 := NB371_382.out
       have hns41_1 := NB372_382.out
       have hns41_2 := NB373_382.out
       have hms41_0 := NB382_371.out
       have hms41_1 := NB382_372.out
       have hms41_2 := NB382_373.out
       have hs42 : w39.cell? ⟨gb382, 1, none⟩ = some (.slice none 0 0) := (blk_cell BK382.out 1).trans rfl
       have hfs42 := blk_frozen BK382.out 1
       have hns42_0 := NB371_382.out
       have hns42_1 := NB372_382.out
       have hns42_2 := NB373_382.out
       have hms42_0 := NB382_371.out
       have hms42_1 := NB382_372.out
       have hms42_2 := NB382_373.out
       refine skip_ (w1 := ?_) (by rfl) rfl ?_ ?_
       rotate_left
       ·go_simp
        rfl
       refine hK.out _ _ ⟨((cell_far (p := ⟨gb382, _, none⟩) NB372_382.out _).trans (((cell_far (p := ⟨gb382, _, none⟩) NB372_382.out _).trans (hHeld.1)))), ((cell_far (p := ⟨gb382, _, none⟩) NB372_382.out _).trans (((cell_far (p := ⟨gb382, _, none⟩) NB372_382.out _).trans (hHeld.2))))⟩ (fun hHeld => ?_)
       clear hK K
       refine done_ (done_of HT_.out (by kernel_rfl)) ?_
       have hnb43 := NB371_372.out
       have hnc43 := NB372_371.out
       have hnb44 := NB371_373.out
       have hnc44 := NB373_371.out
       have hnb45 := NB371_382.out
       have hnc45 := NB382_371.out
       have hcz46_0 : w39.cell? ⟨gb371, 0, none⟩ = some (.int .i64 a0_0) := (blk_cell BK371.out 0).trans rfl
       have hcz46_1 : w39.cell? ⟨gb371, 1, none⟩ = some (.int .i64 a0_1) := (blk_cell BK371.out 1).trans rfl
       have hcz46_2 : w39.cell? ⟨gb371, 2, none⟩ = some (.int .i64 a0_2) := (blk_cell BK371.out 2).trans rfl
       have hcz46_3 : w39.cell? ⟨gb371, 3, none⟩ = some (.slice A0_3 l0_3.length c0_3) := (blk_cell BK371.out 3).trans rfl
       have hcz46_4 : w39.cell? ⟨gb371, 4, none⟩ = some (.slice A0_4 l0_4.length c0_4) := (blk_cell BK371.out 4).trans rfl
       have hfz46_0 := blk_frozen BK371.out 0
       have hfz46_1 := blk_frozen BK371.out 1
       have hfz46_2 := blk_frozen BK371.out 2
       have hfz46_3 := blk_frozen BK371.out 3
       have hfz46_4 := blk_frozen BK371.out 4
       have hnb47 := NB382_372.out
       have hnc47 := NB372_382.out
       have hnb48 := NB382_373.out
       have hnc48 := NB373_382.out
       have hcz49_0 : w39.cell? ⟨gb382, 0, none⟩ = some (.int .i64 0) := (blk_cell BK382.out 0).trans rfl
       have hcz49_1 : w39.cell? ⟨gb382, 1, none⟩ = some (.slice none 0 0) := (blk_cell BK382.out 1).trans rfl
       have hfz49_0 := blk_frozen BK382.out 0
       have hfz49_1 := blk_frozen BK382.out 1
       try go_wp2_with (first | ((with_reducible refine gate_callee (f := 10) rfl ?_); refine goesL_ (some 41) rfl rfl Tryz.func10 (by kernel_rfl) rfl #[.agg #[.int .i64 a0_0, .int .i64 a0_1, .int .i64 a0_2, .slice A0_3 l0_3.length c0_3, .slice A0_4 l0_4.length c0_4], .agg #[.int .i64 a1_0, .slice Ao40 y379.length co40]] rfl (by (try simp only [List.map_toArray, List.map_cons, List.map_nil]); first | done | rfl | (simp only [List.length_drop, List.length_take]; rfl)) ?_; (with_reducible refine (taquinref22_Right.calls k1 a0_0 a0_1 a0_2 _ _ l0_3 _ _ l0_4 a1_0 _ _ y379 true _ ?side1 ?side2 ?side3 ?side4 ?side5 ?side6 A31.out).mono ?_); (case side1 => exact Kd.C_below HR0_3.out (by repeat (first | (with_reducible first | exact HB.out | apply below_alloc | apply pw_below_drewN | apply below_drew1 | refine below_set ?_ GE371.out | refine below_set ?_ GE372.out | refine below_set ?_ GE373.out | refine below_set ?_ GE382.out) | exact HB.out))); (case side2 => exact HC0_3.out); (case side3 => exact Kd.C_below HR0_4.out (by repeat (first | (with_reducible first | exact HB.out | apply below_alloc | apply pw_below_drewN | apply below_drew1 | refine below_set ?_ GE371.out | refine below_set ?_ GE372.out | refine below_set ?_ GE373.out | refine below_set ?_ GE382.out) | exact HB.out))); (case side4 => exact HC0_4.out); (case side5 => refine (Kd.R_reads' (e := 3) (base := w.heap.size) (ok := fun k_ => (w.heap.size ≤ k_)) (n := y379.length) (c := co40) ?_).2.2; exact (by (with_reducible repeat (first | apply Kd.R_alloc | apply Kd.R_drewN | apply Kd.R_drew)); exact (Kd.R_mono (Kd.R_far (p := ⟨gb382, 1, none⟩) (Kd.R_far (p := ⟨gb382, 0, none⟩) (Kd.R_types HO381.out BK382.out (by decide)) (fun _ hk => hk.2) (.int .i64 a1_0)) (fun _ hk => hk.2) (.slice Ao40 y379.length co40)) (fun _ h_ => h_.1)))); (case side6 => exact (Kd.R_reads' HO381.out).2.1); rintro e w50 ⟨rfl, hb⟩; refine ⟨_, rfl, ?_⟩; have n0_ := Aside0.mk (Kd.V_below (by (with_reducible repeat (first | apply Kd.V_alloc | apply Kd.V_drewN | apply Kd.V_drew)); exact (Kd.V_mono (Kd.V_far (p := ⟨gb382, 1, none⟩) (Kd.V_far (p := ⟨gb382, 0, none⟩) (Kd.V_mono HO_373001.out (fun k_ hk => (⟨hk, hk.2.2.2.2.2⟩ : _ ∧ k_ ≠ gb382))) (fun _ hk => hk.2) (.int .i64 a1_0)) (fun _ hk => hk.2) (.slice Ao40 y379.length co40)) (fun _ h_ => h_.1))) hb); have n1_ := Aside0.mk (Kd.R_below (by (with_reducible repeat (first | apply Kd.R_alloc | apply Kd.R_drewN | apply Kd.R_drew)); exact (Kd.R_mono (Kd.R_far (p := ⟨gb382, 1, none⟩) (Kd.R_far (p := ⟨gb382, 0, none⟩) (Kd.R_types HO381.out BK382.out (by decide)) (fun _ hk => hk.2) (.int .i64 a1_0)) (fun _ hk => hk.2) (.slice Ao40 y379.length co40)) (fun _ h_ => h_.1))) hb); have n2_ := Aside0.mk (blk_below (g := gb371) (o := .cells #[.int .i64 a0_0, .int .i64 a0_1, .int .i64 a0_2, .slice A0_3 l0_3.length c0_3, .slice A0_4 l0_4.length c0_4] 24 (0, 0)) (by (with_reducible repeat (first | refine blk_drewN ?_ _ | refine blk_drew ?_ | refine blk_alloc ?_ _)); refine blk_far ?_ NB371_382.out _; (with_reducible repeat (first | refine blk_drewN ?_ _ | refine blk_drew ?_ | refine blk_alloc ?_ _)); refine blk_far ?_ NB371_382.out _; (with_reducible repeat (first | refine blk_drewN ?_ _ | refine blk_drew ?_ | refine blk_alloc ?_ _)); exact BK371.out) hb); have n3_ := Aside0.mk (blk_below (g := gb372) (o := .cells #[.int .i64 a1_0, .slice A1_1 l1_1.length c1_1] 26 (0, 0)) (by (with_reducible repeat (first | refine blk_drewN ?_ _ | refine blk_drew ?_ | refine blk_alloc ?_ _)); refine blk_far ?_ NB372_382.out _; (with_reducible repeat (first | refine blk_drewN ?_ _ | refine blk_drew ?_ | refine blk_alloc ?_ _)); refine blk_far ?_ NB372_382.out _; (with_reducible repeat (first | refine blk_drewN ?_ _ | refine blk_drew ?_ | refine blk_alloc ?_ _)); exact BK372.out) hb); have n4_ := Aside0.mk (blk_below (g := gb373) (o := .cells #[.int .i64 x374000_1, .slice none 0 0] 26 (0, 0)) (by (with_reducible repeat (first | refine blk_drewN ?_ _ | refine blk_drew ?_ | refine blk_alloc ?_ _)); refine blk_far ?_ NB373_382.out _; (with_reducible repeat (first | refine blk_drewN ?_ _ | refine blk_drew ?_ | refine blk_alloc ?_ _)); refine blk_far ?_ NB373_382.out _; (with_reducible repeat (first | refine blk_drewN ?_ _ | refine blk_drew ?_ | refine blk_alloc ?_ _)); exact BK373.out) hb); have n5_ := Aside0.mk (blk_below (g := gb382) (o := .cells #[.int .i64 a1_0, .slice Ao40 y379.length co40] 26 (0, 0)) (by (with_reducible repeat (first | refine blk_drewN ?_ _ | refine blk_drew ?_ | refine blk_alloc ?_ _)); refine blk_put (cs := #[.int .i64 a1_0, .slice none 0 0]) ?_ 1 _ rfl; (with_reducible repeat (first | refine blk_drewN ?_ _ | refine blk_drew ?_ | refine blk_alloc ?_ _)); refine blk_put (cs := #[.int .i64 0, .slice none 0 0]) ?_ 0 _ rfl; (with_reducible repeat (first | refine blk_drewN ?_ _ | refine blk_drew ?_ | refine blk_alloc ?_ _)); exact BK382.out) hb); have n6_ := Aside0.mk (below_step (by repeat (first | (with_reducible first | exact HB.out | apply below_alloc | apply pw_below_drewN | apply below_drew1 | refine below_set ?_ GE371.out | refine below_set ?_ GE372.out | refine below_set ?_ GE373.out | refine below_set ?_ GE382.out) | exact HB.out)) hb); clear HO_373001; clear HO381; clear BK371; clear BK372; clear BK373; clear BK382; clear HB; have HO_373001 := n0_; have HO381 := n1_; have BK371 := n2_; have BK372 := n3_; have BK373 := n4_; have BK382 := n5_; have HB := n6_; clear n0_ n1_ n2_ n3_ n4_ n5_ n6_; (try clear hb); (try clear hb2); (try clear hk); (try clear hi); have hcz51_0 : w50.cell? ⟨gb382, 0, none⟩ = some (.int .i64 a1_0) := (blk_cell BK382.out 0).trans rfl; have hcz51_1 : w50.cell? ⟨gb382, 1, none⟩ = some (.slice Ao40 y379.length co40) := (blk_cell BK382.out 1).trans rfl; have hfz51_0 := blk_frozen BK382.out 0; have hfz51_1 := blk_frozen BK382.out 1; have hnb52 := NB373_372.out; have hnc52 := NB372_373.out; have hcz53_0 : w50.cell? ⟨gb373, 0, none⟩ = some (.int .i64 x374000_1) := (blk_cell BK373.out 0).trans rfl; have hcz53_1 : w50.cell? ⟨gb373, 1, none⟩ = some (.slice none 0 0) := (blk_cell BK373.out 1).trans rfl; have hfz53_0 := blk_frozen BK373.out 0; have hfz53_1 := blk_frozen BK373.out 1))
       refine bodyPost_ret (results_ct rfl _ _ gb373 26 #[.int .i64 a1_0, .slice Ao40 y379.length co40] (0, 0) _ rfl (by (with_reducible repeat (first | refine blk_drewN ?_ _ | refine blk_drew ?_ | refine blk_alloc ?_ _)); refine blk_put (cs := #[.int .i64 a1_0, .slice none 0 0]) ?_ 1 _ rfl; (with_reducible repeat (first | refine blk_drewN ?_ _ | refine blk_drew ?_ | refine blk_alloc ?_ _)); refine blk_put (cs := #[.int .i64 x374000_1, .slice none 0 0]) ?_ 0 _ rfl; (with_reducible repeat (first | refine blk_drewN ?_ _ | refine blk_drew ?_ | refine blk_alloc ?_ _)); exact BK373.out) Tryz.underlying26 rfl (by kernel_rfl)) rfl ?_
       exact ⟨_, by first | rfl | (simp [errW_none, errW_some] <;> rfl) | (simp [*, errW_none, errW_some] <;> rfl), Kd.V_mono (Kd.R_V (by (with_reducible repeat (first | apply Kd.R_alloc | apply Kd.R_drewN | apply Kd.R_drew)); exact Kd.R_mono (Kd.R_far (p := ⟨gb373, 1, none⟩) (Kd.R_far (p := ⟨gb373, 0, none⟩) (Kd.R_types HO381.out BK373.out (by decide)) (fun _ hk => hk.2) (.int .i64 a1_0)) (fun _ hk => hk.2) (.slice Ao40 y379.length co40)) (fun _ hk => hk.1))) (fun k_ hk => by first | exact ⟨(.inr (hk.1)), hk.2⟩ | exact (.inr (hk))), by repeat (first | (with_reducible first | exact HB.out | apply below_alloc | apply pw_below_drewN | apply below_drew1 | refine below_set ?_ GE371.out | refine below_set ?_ GE372.out | refine below_set ?_ GE373.out | refine below_set ?_ GE382.out) | exact HB.out)⟩
      ·replace c32 := Bool.eq_false_iff.mpr c32
       subst c32
       have H1 : (some (a1_0, l1_1, 14)) = some (r1, r2, r3) := by rw [if_neg (show ¬ (false = true) by decide)] at H; exact H
       clear H
       have H := H1
       clear H1
       simp only [Option.some.injEq, Prod.mk.injEq] at H
       obtain ⟨rfl, rfl, rfl⟩ := H
       try go_wp2
       replace HO_373001 := Aside0.mk (Kd.V_drew HO_373001.out)
       replace BK371 := Aside0.mk (blk_drew BK371.out)
       replace BK372 := Aside0.mk (blk_drew BK372.out)
       replace BK373 := Aside0.mk (blk_drew BK373.out)
       replace HB := Aside0.mk (below_drew1 HB.out)
       refine start_ (n := 8) (S := fun w' => w'.cell? ⟨gb372, 0, none⟩ = some (.int .i64 a1_0) ∧ w'.cell? ⟨gb372, 1, none⟩ = some (.slice A1_1 l1_1.length c1_1)) (ds := []) #[ff,ff,ff,ff,ff,ff,ff,ff] (by kernel_rfl) rfl rfl ⟨(blk_cell BK372.out 0).trans rfl, (blk_cell BK372.out 1).trans rfl⟩ (fun hHeld => ?_); refine with_tabW taquinref22_Hear.tab8 taquinref22_Hear.bits8 (fun HT_ HW_ => ?_)
       generalize wr.drew = w54 at HO_373001 BK371 BK372 BK373 HB hHeld ⊢
       refine pure_ (i := 0) (N := some 33) (v := ?_) (a' := ?_) #[tt,ff,ff,ff,ff,ff,ff,ff] rfl rfl (any_of HT_.out (by kernel_rfl)) (fun _ _ _ h => h) (Or.inl ⟨by rfl, ?_⟩) ?_ ?_
       rotate_left
       ·intro w'
        go_simp
        with_reducible rfl
       rotate_left
       ·simp only [Act.put, List.setIfInBounds_toArray, List.set_cons_zero, List.set_cons_succ, i64_w, i32_w]
        rfl
       refine pure_ (i := 3) (N := some 36) (v := ?_) (a' := ?_) #[tt,ff,ff,tt,ff,ff,ff,ff] rfl rfl (any_of HT_.out (by kernel_rfl)) (fun _ _ _ h => h) (Or.inl ⟨by rfl, ?_⟩) ?_ ?_
       rotate_left
       ·intro w'
        go_simp
        with_reducible rfl
       rotate_left
       ·simp only [Act.put, List.setIfInBounds_toArray, List.set_cons_zero, List.set_cons_succ, i64_w, i32_w]
        rfl
       refine take_ (i := 1) (N := some 34) (v := ?_) (a' := ?_) #[tt,tt,ff,tt,ff,ff,ff,ff] rfl rfl (take_ofW HT_.out HW_.out (by kernel_rfl)) (fun _ _ _ h => h) (Or.inl ⟨by rfl, ?_⟩) hHeld ?_ ?_
       rotate_left
       ·rintro w' ⟨s0, s1⟩
        go_simp
        with_reducible rfl
       rotate_left
       ·simp only [Act.put, List.setIfInBounds_toArray, List.set_cons_zero, List.set_cons_succ, i64_w, i32_w]
        rfl
       refine join_ (σ := Value × Value × Nat) 1 #[tt,tt,tt,tt,tt,tt,tt,ff] (fun s_ => [(35, s_.1), (37, s_.2.1), (9, .pointer (some ⟨s_.2.2, 0, none⟩)), (38, .agg #[.int .i64 a1_0, s_.2.1])]) (fun s_ w' => (w'.cell? ⟨gb372, 0, none⟩ = some (.int .i64 a1_0) ∧ w'.cell? ⟨gb372, 1, none⟩ = some (.slice A1_1 l1_1.length c1_1)) ∧ (Kd.R (Kd.int .i64) 3 w' w.heap.size (fun k_ => (w.heap.size ≤ k_)) s_.2.1 y379) ∧ (Kd.V (Kd.int .i64) 3 w' w.heap.size (fun k_ => (P1_1_ k_ ∨ w.heap.size ≤ k_) ∧ some k_ ≠ (s_.2.1 : Value).ownBlock ∧ k_ ≠ gb371 ∧ k_ ≠ gb372 ∧ k_ ≠ gb373 ∧ k_ ≠ s_.2.2) (.slice A1_1 l1_1.length c1_1) l1_1) ∧ (w'.heap[gb371]? = some (.cells #[.int .i64 a0_0, .int .i64 a0_1, .int .i64 a0_2, .slice A0_3 l0_3.length c0_3, .slice A0_4 l0_4.length c0_4] 24 (0, 0))) ∧ (w'.heap[gb372]? = some (.cells #[.int .i64 a1_0, .slice A1_1 l1_1.length c1_1] 26 (0, 0))) ∧ (w'.heap[gb373]? = some (.cells #[.int .i64 x374000_1, .slice none 0 0] 26 (0, 0))) ∧ (w'.heap[s_.2.2]? = some (.cells #[.int .i64 0, .slice none 0 0] 26 (0, 0))) ∧ (w.heap.size ≤ s_.2.2) ∧ (w.heap.size ≤ s_.2.2) ∧ (gb371 ≠ s_.2.2) ∧ (s_.2.2 ≠ gb371) ∧ (gb372 ≠ s_.2.2) ∧ (s_.2.2 ≠ gb372) ∧ (gb373 ≠ s_.2.2) ∧ (s_.2.2 ≠ gb373) ∧ (Below w.heap.size w w')) ?_ ?_
       rotate_left
       ·intro hCont
        refine two_ (i := 2) (j := 6) (Ni := some 35) (Nj := some 9) #[tt,tt,tt,tt,ff,ff,ff,ff] #[tt,tt,ff,tt,ff,ff,tt,ff] rfl rfl rfl rfl (two_of HT_.out (by kernel_rfl)) (by decide) (by decide) (fun K hK => ?_) (fun K hK => ?_)
        ·skip
         refine Kd.R_lit_step (Kd.int .i64) _ 3 ?hg (N := 35) ?hd (xs := ([] : List Int)) (inner := []) (ok := fun _ => True) (okp := fun _ => True) ?hr ?hp (fun _ hk => hk) trivial (Below.refl _ _) (Nat.le_refl _) (by simp) ?_; (case hd => rfl); (case hg => rfl); (case hr => first | (go_simp; done) | (go_simp; rfl)); (case hp => exact (Reps.none _ _))
         intro v377 w55 ho56 hb hg_ hnew_
         clear hg_ hnew_
         (first | rw [← Ny376.out] at ho56 | (simp only [Int.reduceToNat] at ho56; rw [← Ny376.out] at ho56))
         replace HO_373001 := Aside0.mk (Kd.V_elder' HO_373001.out (Kd.R_base ho56) hb)
         have HO378 := Aside0.mk (Kd.R_lower (Kd.R_newM (M := fun k_ => (w.heap.size ≤ k_)) ho56 (below_size HB.out) (fun k_ h_ => h_)) (below_size HB.out))
         replace BK371 := Aside0.mk (blk_below BK371.out hb)
         replace BK372 := Aside0.mk (blk_below BK372.out hb)
         replace BK373 := Aside0.mk (blk_below BK373.out hb)
         replace HB := Aside0.mk (below_step HB.out hb)
         clear hb ho56
         refine hK.out _ _ ⟨(blk_cell BK372.out 0).trans rfl, (blk_cell BK372.out 1).trans rfl⟩ (fun hHeld => ?_)
         clear hK K
         refine norm_ (a' := ?_) ?_ ?_
         rotate_left
         ·show Act.put _ (some 35) _ = _
          simp only [Act.put, List.setIfInBounds_toArray, List.set_cons_zero, List.set_cons_succ, i64_w, i32_w]
          rfl
         refine two_ (i := 4) (j := 6) (Ni := some 37) (Nj := some 9) #[tt,tt,tt,tt,tt,ff,ff,ff] #[tt,tt,tt,tt,ff,ff,tt,ff] rfl rfl rfl rfl (two_of HT_.out (by kernel_rfl)) (by decide) (by decide) (fun K hK => ?_) (fun K hK => ?_)
         ·skip
          refine Kd.R_append_rows_step (Kd.int .i64) (w0 := w) w.heap.size (by rfl) (.tmp 35) (.tmp 36) 22 3 (.int .i64 0) 8 rfl Tryz.underlying22 info3 rfl (by decide) (by omega) v377 y376 l2 _ _ _ (fun k_ => (w.heap.size ≤ k_)) (fun _ => False) rfl rfl ?aO ?aR (fun _ _ h => h) (fun _ h => h.elim) ?aF ?aB ?aS ?aL ?_
          (case aR => repeat (first | exact (Kd.C_below HR2.out HB.out) | (with_reducible refine Kd.C_alloc ?_ _) | (with_reducible refine Kd.C_drewN ?_ _) | (with_reducible refine Kd.C_drew ?_)))
          (case aB => exact HB.out)
          (case aF => exact (fun k_ hk => (Nat.le_trans (below_size HB.out) hk)))
          (case aO => exact (by (with_reducible repeat (first | apply Kd.R_alloc | apply Kd.R_drewN | apply Kd.R_drew)); exact Kd.R_mono HO378.out (fun _ hk => hk.1)))
          (case aS => exact (below_size HB.out))
          (case aL => have := LMc30.out; omega)
          intro v380 w57 ho hb hg hat
          rw [← Ny379.out] at ho
          replace HO_373001 := Aside0.mk (Kd.V_afterv (ok := (fun k_ => (P1_1_ k_ ∨ w.heap.size ≤ k_) ∧ k_ ≠ gb371 ∧ k_ ≠ gb372 ∧ k_ ≠ gb373)) HO_373001.out hg hat)
          replace BK371 := Aside0.mk (blk_grown BK371.out hg (Kd.R_ne HO378.out BK371.out (by decide)))
          replace BK372 := Aside0.mk (blk_grown BK372.out hg (Kd.R_ne HO378.out BK372.out (by decide)))
          replace BK373 := Aside0.mk (blk_grown BK373.out hg (Kd.R_ne HO378.out BK373.out (by decide)))
          replace HB := Aside0.mk (hb)
          have HO381 := Aside0.mk (ho)
          clear HO378
          clear ho hb hg hat
          obtain ⟨Ao58, co58, eo58⟩ := Kd.R_slice HO381.out
          (first | subst eo58 | (injection eo58 with f1_ f2_ f3_; have f4_ := f1_.symm; have f5_ := f3_.symm; clear f1_ f2_ f3_; subst f4_; subst f5_))
          refine hK.out _ _ ⟨(blk_cell BK372.out 0).trans rfl, (blk_cell BK372.out 1).trans rfl⟩ (fun hHeld => ?_)
          clear hK K
          refine norm_ (a' := ?_) ?_ ?_
          rotate_left
          ·show Act.put _ (some 37) _ = _
           simp only [Act.put, List.setIfInBounds_toArray, List.set_cons_zero, List.set_cons_succ, i64_w, i32_w]
           rfl
          refine pure_ (i := 5) (N := some 38) (v := ?_) (a' := ?_) #[tt,tt,tt,tt,tt,tt,ff,ff] rfl rfl (any_of HT_.out (by kernel_rfl)) (fun _ _ _ h => h) (Or.inl ⟨by rfl, ?_⟩) ?_ ?_
          rotate_left
          ·intro w'
           go_simp
           with_reducible rfl
          rotate_left
          ·simp only [Act.put, List.setIfInBounds_toArray, List.set_cons_zero, List.set_cons_succ, i64_w, i32_w]
           rfl
          refine one_ (i := 6) (N := some 9) #[tt,tt,tt,tt,tt,tt,tt,ff] rfl rfl (one_of HT_.out (by kernel_rfl)) (by decide) (fun K hK => ?_)
          refine box_step ?hg (N := 9) ?hd (cs := #[.int .i64 0, .slice none 0 0]) (t := 26) ?hr ?_; (case hd => rfl); (case hg => rfl); (case hr => first | (go_simp; done) | (go_simp; rfl))
          intro gb382 hg w59 hbox hb
          replace HO_373001 := Aside0.mk (Kd.V_below (Kd.V_elderB HO_373001.out gb382 (Nat.le_of_eq hg.symm)) hb)
          replace HO381 := Aside0.mk (Kd.R_below HO381.out hb)
          have BK382 := Aside0.mk (hbox)
          have GW382 := Aside0.mk ((by rw [hg]; exact (below_size HB.out) : w.heap.size ≤ gb382))
          have GE382 := Aside0.mk ((by rw [hg]; exact (below_size HB.out) : w.heap.size ≤ gb382))
          replace HB := Aside0.mk (below_step HB.out hb)
          have NB371_382 := Aside0.mk ((by rw [hg]; exact Nat.ne_of_lt (blk_lt BK371.out) : gb371 ≠ gb382))
          have NB382_371 := Aside0.mk ((by rw [hg]; exact Nat.ne_of_gt (blk_lt BK371.out) : gb382 ≠ gb371))
          replace BK371 := Aside0.mk (blk_below BK371.out hb)
          have NB372_382 := Aside0.mk ((by rw [hg]; exact Nat.ne_of_lt (blk_lt BK372.out) : gb372 ≠ gb382))
          have NB382_372 := Aside0.mk ((by rw [hg]; exact Nat.ne_of_gt (blk_lt BK372.out) : gb382 ≠ gb372))
          replace BK372 := Aside0.mk (blk_below BK372.out hb)
          have NB373_382 := Aside0.mk ((by rw [hg]; exact Nat.ne_of_lt (blk_lt BK373.out) : gb373 ≠ gb382))
          have NB382_373 := Aside0.mk ((by rw [hg]; exact Nat.ne_of_gt (blk_lt BK373.out) : gb382 ≠ gb373))
          replace BK373 := Aside0.mk (blk_below BK373.out hb)
          clear hb hbox hg
          refine hK.out _ _ ⟨(blk_cell BK372.out 0).trans rfl, (blk_cell BK372.out 1).trans rfl⟩ (fun hHeld => ?_)
          clear hK K
          refine norm_ (a' := ?_) ?_ ?_
          rotate_left
          ·show Act.put _ (some 9) _ = _
           simp only [Act.put, List.setIfInBounds_toArray, List.set_cons_zero, List.set_cons_succ, i64_w, i32_w]
           rfl
          exact norm_ (by simp only [putAll, Act.put, List.setIfInBounds_toArray, List.set_cons_zero, List.set_cons_succ]) (hCont (v377, .slice Ao58 y379.length co58, gb382) _ ⟨hHeld, HO381.out, (by (with_reducible repeat (first | apply Kd.V_alloc | apply Kd.V_drewN | apply Kd.V_drew)); exact Kd.V_mono HO_373001.out (fun _ hk => ⟨hk.1.1.1, ⟨hk.1.2, ⟨hk.1.1.2.1, ⟨hk.1.1.2.2.1, ⟨hk.1.1.2.2.2, hk.2⟩⟩⟩⟩⟩)), BK371.out, BK372.out, BK373.out, BK382.out, GW382.out, GE382.out, NB371_382.out, NB382_371.out, NB372_382.out, NB382_372.out, NB373_382.out, NB382_373.out, HB.out⟩)
         ·skip
          refine box_step ?hg (N := 9) ?hd (cs := #[.int .i64 0, .slice none 0 0]) (t := 26) ?hr ?_; (case hd => rfl); (case hg => rfl); (case hr => first | (go_simp; done) | (go_simp; rfl))
          intro gb382 hg w57 hbox hb
          replace HO_373001 := Aside0.mk (Kd.V_below (Kd.V_elderB HO_373001.out gb382 (Nat.le_of_eq hg.symm)) hb)
          replace HO378 := Aside0.mk (Kd.R_below HO378.out hb)
          have BK382 := Aside0.mk (hbox)
          have GW382 := Aside0.mk ((by rw [hg]; exact (below_size HB.out) : w.heap.size ≤ gb382))
          have GE382 := Aside0.mk ((by rw [hg]; exact (below_size HB.out) : w.heap.size ≤ gb382))
          replace HB := Aside0.mk (below_step HB.out hb)
          have NB371_382 := Aside0.mk ((by rw [hg]; exact Nat.ne_of_lt (blk_lt BK371.out) : gb371 ≠ gb382))
          have NB382_371 := Aside0.mk ((by rw [hg]; exact Nat.ne_of_gt (blk_lt BK371.out) : gb382 ≠ gb371))
          replace BK371 := Aside0.mk (blk_below BK371.out hb)
          have NB372_382 := Aside0.mk ((by rw [hg]; exact Nat.ne_of_lt (blk_lt BK372.out) : gb372 ≠ gb382))
          have NB382_372 := Aside0.mk ((by rw [hg]; exact Nat.ne_of_gt (blk_lt BK372.out) : gb382 ≠ gb372))
          replace BK372 := Aside0.mk (blk_below BK372.out hb)
          have NB373_382 := Aside0.mk ((by rw [hg]; exact Nat.ne_of_lt (blk_lt BK373.out) : gb373 ≠ gb382))
          have NB382_373 := Aside0.mk ((by rw [hg]; exact Nat.ne_of_gt (blk_lt BK373.out) : gb382 ≠ gb373))
          replace BK373 := Aside0.mk (blk_below BK373.out hb)
          clear hb hbox hg
          refine hK.out _ _ ⟨(blk_cell BK372.out 0).trans rfl, (blk_cell BK372.out 1).trans rfl⟩ (fun hHeld => ?_)
          clear hK K
          refine norm_ (a' := ?_) ?_ ?_
          rotate_left
          ·show Act.put _ (some 9) _ = _
           simp only [Act.put, List.setIfInBounds_toArray, List.set_cons_zero, List.set_cons_succ, i64_w, i32_w]
           rfl
          refine one_ (i := 4) (N := some 37) #[tt,tt,tt,tt,tt,ff,tt,ff] rfl rfl (one_of HT_.out (by kernel_rfl)) (by decide) (fun K hK => ?_)
          refine Kd.R_append_rows_step (Kd.int .i64) (w0 := w) w.heap.size (by rfl) (.tmp 35) (.tmp 36) 22 3 (.int .i64 0) 8 rfl Tryz.underlying22 info3 rfl (by decide) (by omega) v377 y376 l2 _ _ _ (fun k_ => (w.heap.size ≤ k_)) (fun _ => False) rfl rfl ?aO ?aR (fun _ _ h => h) (fun _ h => h.elim) ?aF ?aB ?aS ?aL ?_
          (case aR => repeat (first | exact (Kd.C_below HR2.out HB.out) | (with_reducible refine Kd.C_alloc ?_ _) | (with_reducible refine Kd.C_drewN ?_ _) | (with_reducible refine Kd.C_drew ?_)))
          (case aB => exact HB.out)
          (case aF => exact (fun k_ hk => (Nat.le_trans (below_size HB.out) hk)))
          (case aO => exact (by (with_reducible repeat (first | apply Kd.R_alloc | apply Kd.R_drewN | apply Kd.R_drew)); exact Kd.R_mono HO378.out (fun _ hk => hk.1)))
          (case aS => exact (below_size HB.out))
          (case aL => have := LMc30.out; omega)
          intro v380 w58 ho hb hg hat
          rw [← Ny379.out] at ho
          replace HO_373001 := Aside0.mk (Kd.V_afterv (ok := (fun k_ => (P1_1_ k_ ∨ w.heap.size ≤ k_) ∧ k_ ≠ gb371 ∧ k_ ≠ gb372 ∧ k_ ≠ gb373 ∧ k_ ≠ gb382)) (by (with_reducible repeat (first | apply Kd.V_alloc | apply Kd.V_drewN | apply Kd.V_drew)); exact Kd.V_mono HO_373001.out (fun _ hk => ⟨⟨hk.1.1.1, ⟨hk.1.1.2.1, ⟨hk.1.1.2.2.1, ⟨hk.1.1.2.2.2, hk.2⟩⟩⟩⟩, hk.1.2⟩)) hg hat)
          replace BK371 := Aside0.mk (blk_grown BK371.out hg (Kd.R_ne HO378.out BK371.out (by decide)))
          replace BK372 := Aside0.mk (blk_grown BK372.out hg (Kd.R_ne HO378.out BK372.out (by decide)))
          replace BK373 := Aside0.mk (blk_grown BK373.out hg (Kd.R_ne HO378.out BK373.out (by decide)))
          replace BK382 := Aside0.mk (blk_grown BK382.out hg (Kd.R_ne HO378.out BK382.out (by decide)))
          replace HB := Aside0.mk (hb)
          have HO381 := Aside0.mk (ho)
          clear HO378
          clear ho hb hg hat
          obtain ⟨Ao59, co59, eo59⟩ := Kd.R_slice HO381.out
          (first | subst eo59 | (injection eo59 with f1_ f2_ f3_; have f4_ := f1_.symm; have f5_ := f3_.symm; clear f1_ f2_ f3_; subst f4_; subst f5_))
          refine hK.out _ _ ⟨(blk_cell BK372.out 0).trans rfl, (blk_cell BK372.out 1).trans rfl⟩ (fun hHeld => ?_)
          clear hK K
          refine norm_ (a' := ?_) ?_ ?_
          rotate_left
          ·show Act.put _ (some 37) _ = _
           simp only [Act.put, List.setIfInBounds_toArray, List.set_cons_zero, List.set_cons_succ, i64_w, i32_w]
           rfl
          refine pure_ (i := 5) (N := some 38) (v := ?_) (a' := ?_) #[tt,tt,tt,tt,tt,tt,tt,ff] rfl rfl (any_of HT_.out (by kernel_rfl)) (fun _ _ _ h => h) (Or.inl ⟨by rfl, ?_⟩) ?_ ?_
          rotate_left
          ·intro w'
           go_simp
           with_reducible rfl
          rotate_left
          ·simp only [Act.put, List.setIfInBounds_toArray, List.set_cons_zero, List.set_cons_succ, i64_w, i32_w]
           rfl
          exact norm_ (by simp only [putAll, Act.put, List.setIfInBounds_toArray, List.set_cons_zero, List.set_cons_succ]) (hCont (v377, .slice Ao59 y379.length co59, gb382) _ ⟨hHeld, HO381.out, (by (with_reducible repeat (first | apply Kd.V_alloc | apply Kd.V_drewN | apply Kd.V_drew)); exact Kd.V_mono HO_373001.out (fun _ hk => ⟨hk.1.1, ⟨hk.2, ⟨hk.1.2.1, ⟨hk.1.2.2.1, ⟨hk.1.2.2.2.1, hk.1.2.2.2.2⟩⟩⟩⟩⟩)), BK371.out, BK372.out, BK373.out, BK382.out, GW382.out, GE382.out, NB371_382.out, NB382_371.out, NB372_382.out, NB382_372.out, NB373_382.out, NB382_373.out, HB.out⟩)
        ·skip
         refine box_step ?hg (N := 9) ?hd (cs := #[.int .i64 0, .slice none 0 0]) (t := 26) ?hr ?_; (case hd => rfl); (case hg => rfl); (case hr => first | (go_simp; done) | (go_simp; rfl))
         intro gb382 hg w55 hbox hb
         replace HO_373001 := Aside0.mk (Kd.V_below (Kd.V_elderB HO_373001.out gb382 (Nat.le_of_eq hg.symm)) hb)
         have BK382 := Aside0.mk (hbox)
         have GW382 := Aside0.mk ((by rw [hg]; exact (below_size HB.out) : w.heap.size ≤ gb382))
         have GE382 := Aside0.mk ((by rw [hg]; exact (below_size HB.out) : w.heap.size ≤ gb382))
         replace HB := Aside0.mk (below_step HB.out hb)
         have NB371_382 := Aside0.mk ((by rw [hg]; exact Nat.ne_of_lt (blk_lt BK371.out) : gb371 ≠ gb382))
         have NB382_371 := Aside0.mk ((by rw [hg]; exact Nat.ne_of_gt (blk_lt BK371.out) : gb382 ≠ gb371))
         replace BK371 := Aside0.mk (blk_below BK371.out hb)
         have NB372_382 := Aside0.mk ((by rw [hg]; exact Nat.ne_of_lt (blk_lt BK372.out) : gb372 ≠ gb382))
         have NB382_372 := Aside0.mk ((by rw [hg]; exact Nat.ne_of_gt (blk_lt BK372.out) : gb382 ≠ gb372))
         replace BK372 := Aside0.mk (blk_below BK372.out hb)
         have NB373_382 := Aside0.mk ((by rw [hg]; exact Nat.ne_of_lt (blk_lt BK373.out) : gb373 ≠ gb382))
         have NB382_373 := Aside0.mk ((by rw [hg]; exact Nat.ne_of_gt (blk_lt BK373.out) : gb382 ≠ gb373))
         replace BK373 := Aside0.mk (blk_below BK373.out hb)
         clear hb hbox hg
         refine hK.out _ _ ⟨(blk_cell BK372.out 0).trans rfl, (blk_cell BK372.out 1).trans rfl⟩ (fun hHeld => ?_)
         clear hK K
         refine norm_ (a' := ?_) ?_ ?_
         rotate_left
         ·show Act.put _ (some 9) _ = _
          simp only [Act.put, List.setIfInBounds_toArray, List.set_cons_zero, List.set_cons_succ, i64_w, i32_w]
          rfl
         refine one_ (i := 2) (N := some 35) #[tt,tt,tt,tt,ff,ff,tt,ff] rfl rfl (one_of HT_.out (by kernel_rfl)) (by decide) (fun K hK => ?_)
         refine Kd.R_lit_step (Kd.int .i64) _ 3 ?hg (N := 35) ?hd (xs := ([] : List Int)) (inner := []) (ok := fun _ => True) (okp := fun _ => True) ?hr ?hp (fun _ hk => hk) trivial (Below.refl _ _) (Nat.le_refl _) (by simp) ?_; (case hd => rfl); (case hg => rfl); (case hr => first | (go_simp; done) | (go_simp; rfl)); (case hp => exact (Reps.none _ _))
         intro v377 w56 ho57 hb hg_ hnew_
         clear hg_ hnew_
         (first | rw [← Ny376.out] at ho57 | (simp only [Int.reduceToNat] at ho57; rw [← Ny376.out] at ho57))
         replace HO_373001 := Aside0.mk (Kd.V_elder' HO_373001.out (Kd.R_base ho57) hb)
         have HO378 := Aside0.mk (Kd.R_lower (Kd.R_newM (M := fun k_ => (w.heap.size ≤ k_)) ho57 (below_size HB.out) (fun k_ h_ => h_)) (below_size HB.out))
         replace BK371 := Aside0.mk (blk_below BK371.out hb)
         replace BK372 := Aside0.mk (blk_below BK372.out hb)
         replace BK373 := Aside0.mk (blk_below BK373.out hb)
         replace BK382 := Aside0.mk (blk_below BK382.out hb)
         replace HB := Aside0.mk (below_step HB.out hb)
         clear hb ho57
         refine hK.out _ _ ⟨(blk_cell BK372.out 0).trans rfl, (blk_cell BK372.out 1).trans rfl⟩ (fun hHeld => ?_)
         clear hK K
         refine norm_ (a' := ?_) ?_ ?_
         rotate_left
         ·show Act.put _ (some 35) _ = _
          simp only [Act.put, List.setIfInBounds_toArray, List.set_cons_zero, List.set_cons_succ, i64_w, i32_w]
          rfl
         refine one_ (i := 4) (N := some 37) #[tt,tt,tt,tt,tt,ff,tt,ff] rfl rfl (one_of HT_.out (by kernel_rfl)) (by decide) (fun K hK => ?_)
         refine Kd.R_append_rows_step (Kd.int .i64) (w0 := w) w.heap.size (by rfl) (.tmp 35) (.tmp 36) 22 3 (.int .i64 0) 8 rfl Tryz.underlying22 info3 rfl (by decide) (by omega) v377 y376 l2 _ _ _ (fun k_ => (w.heap.size ≤ k_)) (fun _ => False) rfl rfl ?aO ?aR (fun _ _ h => h) (fun _ h => h.elim) ?aF ?aB ?aS ?aL ?_
         (case aR => repeat (first | exact (Kd.C_below HR2.out HB.out) | (with_reducible refine Kd.C_alloc ?_ _) | (with_reducible refine Kd.C_drewN ?_ _) | (with_reducible refine Kd.C_drew ?_)))
         (case aB => exact HB.out)
         (case aF => exact (fun k_ hk => (Nat.le_trans (below_size HB.out) hk)))
         (case aO => exact (by (with_reducible repeat (first | apply Kd.R_alloc | apply Kd.R_drewN | apply Kd.R_drew)); exact Kd.R_mono HO378.out (fun _ hk => hk.1)))
         (case aS => exact (below_size HB.out))
         (case aL => have := LMc30.out; omega)
         intro v380 w58 ho hb hg hat
         rw [← Ny379.out] at ho
         replace HO_373001 := Aside0.mk (Kd.V_afterv (ok := (fun k_ => (P1_1_ k_ ∨ w.heap.size ≤ k_) ∧ k_ ≠ gb371 ∧ k_ ≠ gb372 ∧ k_ ≠ gb373 ∧ k_ ≠ gb382)) (by (with_reducible repeat (first | apply Kd.V_alloc | apply Kd.V_drewN | apply Kd.V_drew)); exact Kd.V_mono HO_373001.out (fun _ hk => ⟨⟨hk.1.1.1, ⟨hk.1.1.2.1, ⟨hk.1.1.2.2.1, ⟨hk.1.1.2.2.2, hk.1.2⟩⟩⟩⟩, hk.2⟩)) hg hat)
         replace BK371 := Aside0.mk (blk_grown BK371.out hg (Kd.R_ne HO378.out BK371.out (by decide)))
         replace BK372 := Aside0.mk (blk_grown BK372.out hg (Kd.R_ne HO378.out BK372.out (by decide)))
         replace BK373 := Aside0.mk (blk_grown BK373.out hg (Kd.R_ne HO378.out BK373.out (by decide)))
         replace BK382 := Aside0.mk (blk_grown BK382.out hg (Kd.R_ne HO378.out BK382.out (by decide)))
         replace HB := Aside0.mk (hb)
         have HO381 := Aside0.mk (ho)
         clear HO378
         clear ho hb hg hat
         obtain ⟨Ao59, co59, eo59⟩ := Kd.R_slice HO381.out
         (first | subst eo59 | (injection eo59 with f1_ f2_ f3_; have f4_ := f1_.symm; have f5_ := f3_.symm; clear f1_ f2_ f3_; subst f4_; subst f5_))
         refine hK.out _ _ ⟨(blk_cell BK372.out 0).trans rfl, (blk_cell BK372.out 1).trans rfl⟩ (fun hHeld => ?_)
         clear hK K
         refine norm_ (a' := ?_) ?_ ?_
         rotate_left
         ·show Act.put _ (some 37) _ = _
          simp only [Act.put, List.setIfInBounds_toArray, List.set_cons_zero, List.set_cons_succ, i64_w, i32_w]
          rfl
         refine pure_ (i := 5) (N := some 38) (v := ?_) (a' := ?_) #[tt,tt,tt,tt,tt,tt,tt,ff] rfl rfl (any_of HT_.out (by kernel_rfl)) (fun _ _ _ h => h) (Or.inl ⟨by rfl, ?_⟩) ?_ ?_
         rotate_left
         ·intro w'
          go_simp
          with_reducible rfl
         rotate_left
         ·simp only [Act.put, List.setIfInBounds_toArray, List.set_cons_zero, List.set_cons_succ, i64_w, i32_w]
          rfl
         exact norm_ (by simp only [putAll, Act.put, List.setIfInBounds_toArray, List.set_cons_zero, List.set_cons_succ]) (hCont (v377, .slice Ao59 y379.length co59, gb382) _ ⟨hHeld, HO381.out, (by (with_reducible repeat (first | apply Kd.V_alloc | apply Kd.V_drewN | apply Kd.V_drew)); exact Kd.V_mono HO_373001.out (fun _ hk => ⟨hk.1.1, ⟨hk.2, ⟨hk.1.2.1, ⟨hk.1.2.2.1, ⟨hk.1.2.2.2.1, hk.1.2.2.2.2⟩⟩⟩⟩⟩)), BK371.out, BK372.out, BK373.out, BK382.out, GW382.out, GE382.out, NB371_382.out, NB382_371.out, NB372_382.out, NB382_372.out, NB373_382.out, NB382_373.out, HB.out⟩)
       rintro ⟨v377, v380, gb382⟩ w60 ⟨hS_, h0_, h1_, h2_, h3_, h4_, h5_, h6_, h7_, h8_, h9_, h10_, h11_, h12_, h13_, h14_⟩
       have n0_ : Aside0 (Kd.R (Kd.int .i64) 3 w60 w.heap.size (fun k_ => (w.heap.size ≤ k_)) v380 y379) := ⟨h0_⟩
       have n1_ : Aside0 (Kd.V (Kd.int .i64) 3 w60 w.heap.size (fun k_ => (P1_1_ k_ ∨ w.heap.size ≤ k_) ∧ some k_ ≠ (v380 : Value).ownBlock ∧ k_ ≠ gb371 ∧ k_ ≠ gb372 ∧ k_ ≠ gb373 ∧ k_ ≠ gb382) (.slice A1_1 l1_1.length c1_1) l1_1) := ⟨h1_⟩
       have n2_ : Aside0 (w60.heap[gb371]? = some (.cells #[.int .i64 a0_0, .int .i64 a0_1, .int .i64 a0_2, .slice A0_3 l0_3.length c0_3, .slice A0_4 l0_4.length c0_4] 24 (0, 0))) := ⟨h2_⟩
       have n3_ : Aside0 (w60.heap[gb372]? = some (.cells #[.int .i64 a1_0, .slice A1_1 l1_1.length c1_1] 26 (0, 0))) := ⟨h3_⟩
       have n4_ : Aside0 (w60.heap[gb373]? = some (.cells #[.int .i64 x374000_1, .slice none 0 0] 26 (0, 0))) := ⟨h4_⟩
       have n5_ : Aside0 (w60.heap[gb382]? = some (.cells #[.int .i64 0, .slice none 0 0] 26 (0, 0))) := ⟨h5_⟩
       have n6_ : Aside0 (w.heap.size ≤ gb382) := ⟨h6_⟩
       have n7_ : Aside0 (w.heap.size ≤ gb382) := ⟨h7_⟩
       have n8_ : Aside0 (gb371 ≠ gb382) := ⟨h8_⟩
       have n9_ : Aside0 (gb382 ≠ gb371) := ⟨h9_⟩
       have n10_ : Aside0 (gb372 ≠ gb382) := ⟨h10_⟩
       have n11_ : Aside0 (gb382 ≠ gb372) := ⟨h11_⟩
       have n12_ : Aside0 (gb373 ≠ gb382) := ⟨h12_⟩
       have n13_ : Aside0 (gb382 ≠ gb373) := ⟨h13_⟩
       have n14_ : Aside0 (Below w.heap.size w w60) := ⟨h14_⟩
       clear HO_373001
       clear BK371
       clear BK372
       clear BK373
       clear HB
       clear h0_ h1_ h2_ h3_ h4_ h5_ h6_ h7_ h8_ h9_ h10_ h11_ h12_ h13_ h14_
       have HO381 := n0_
       have HO_373001 := n1_
       have BK371 := n2_
       have BK372 := n3_
       have BK373 := n4_
       have BK382 := n5_
       have GW382 := n6_
       have GE382 := n7_
       have NB371_382 := n8_
       have NB382_371 := n9_
       have NB372_382 := n10_
       have NB382_372 := n11_
       have NB373_382 := n12_
       have NB382_373 := n13_
       have HB := n14_
       clear n0_ n1_ n2_ n3_ n4_ n5_ n6_ n7_ n8_ n9_ n10_ n11_ n12_ n13_ n14_
       have hHeld : w60.cell? ⟨gb372, 0, none⟩ = some (.int .i64 a1_0) ∧ w60.cell? ⟨gb372, 1, none⟩ = some (.slice A1_1 l1_1.length c1_1) := hS_
       obtain ⟨Ao61, co61, eo61⟩ := Kd.R_slice HO381.out
       (first | subst eo61 | (injection eo61 with f1_ f2_ f3_; have f4_ := f1_.symm; have f5_ := f3_.symm; clear f1_ f2_ f3_; subst f4_; subst f5_))
       refine norm_ (a' := ?_) ?_ ?_
       rotate_left
       ·simp only [putAll, Act.put, List.setIfInBounds_toArray, List.set_cons_zero, List.set_cons_succ]
        rfl
       refine one_ (i := 7) (N := none) #[tt,tt,tt,tt,tt,tt,tt,tt] rfl rfl (one_of HT_.out (by kernel_rfl)) (by decide) (fun K hK => ?_)
       have hs62 : w60.cell? ⟨gb382, 0, none⟩ = some (.int .i64 0) := (blk_cell BK382.out 0).trans rfl
       have hfs62 := blk_frozen BK382.out 0
       have hns62_0 := NB371_382.out
       have hns62_1 := NB372_382.out
       have hns62_2 := NB373_382.out
       have hms62_0 := NB382_371.out
       have hms62_1 := NB382_372.out
       have hms62_2 := NB382_373.out
       have hs63 : w60.cell? ⟨gb382, 1, none⟩ = some (.slice none 0 0) := (blk_cell BK382.out 1).trans rfl
       have hfs63 := blk_frozen BK382.out 1
       have hns63_0 := NB371_382.out
       have hns63_1 := NB372_382.out
       have hns63_2 := NB373_382.out
       have hms63_0 := NB382_371.out
       have hms63_1 := NB382_372.out
       have hms63_2 := NB382_373.out
       refine skip_ (w1 := ?_) (by rfl) rfl ?_ ?_
       rotate_left
       ·go_simp
        rfl
       refine hK.out _ _ ⟨((cell_far (p := ⟨gb382, _, none⟩) NB372_382.out _).trans (((cell_far (p := ⟨gb382, _, none⟩) NB372_382.out _).trans (hHeld.1)))), ((cell_far (p := ⟨gb382, _, none⟩) NB372_382.out _).trans (((cell_far (p := ⟨gb382, _, none⟩) NB372_382.out _).trans (hHeld.2))))⟩ (fun hHeld => ?_)
       clear hK K
       refine done_ (done_of HT_.out (by kernel_rfl)) ?_
       have hnb64 := NB371_372.out
       have hnc64 := NB372_371.out
       have hnb65 := NB371_373.out
       have hnc65 := NB373_371.out
       have hnb66 := NB371_382.out
       have hnc66 := NB382_371.out
       have hcz67_0 : w60.cell? ⟨gb371, 0, none⟩ = some (.int .i64 a0_0) := (blk_cell BK371.out 0).trans rfl
       have hcz67_1 : w60.cell? ⟨gb371, 1, none⟩ = some (.int .i64 a0_1) := (blk_cell BK371.out 1).trans rfl
       have hcz67_2 : w60.cell? ⟨gb371, 2, none⟩ = some (.int .i64 a0_2) := (blk_cell BK371.out 2).trans rfl
       have hcz67_3 : w60.cell? ⟨gb371, 3, none⟩ = some (.slice A0_3 l0_3.length c0_3) := (blk_cell BK371.out 3).trans rfl
       have hcz67_4 : w60.cell? ⟨gb371, 4, none⟩ = some (.slice A0_4 l0_4.length c0_4) := (blk_cell BK371.out 4).trans rfl
       have hfz67_0 := blk_frozen BK371.out 0
       have hfz67_1 := blk_frozen BK371.out 1
       have hfz67_2 := blk_frozen BK371.out 2
       have hfz67_3 := blk_frozen BK371.out 3
       have hfz67_4 := blk_frozen BK371.out 4
       have hnb68 := NB382_372.out
       have hnc68 := NB372_382.out
       have hnb69 := NB382_373.out
       have hnc69 := NB373_382.out
       have hcz70_0 : w60.cell? ⟨gb382, 0, none⟩ = some (.int .i64 0) := (blk_cell BK382.out 0).trans rfl
       have hcz70_1 : w60.cell? ⟨gb382, 1, none⟩ = some (.slice none 0 0) := (blk_cell BK382.out 1).trans rfl
       have hfz70_0 := blk_frozen BK382.out 0
       have hfz70_1 := blk_frozen BK382.out 1
       try go_wp2_with (first | ((with_reducible refine gate_callee (f := 10) rfl ?_); refine goesL_ (some 41) rfl rfl Tryz.func10 (by kernel_rfl) rfl #[.agg #[.int .i64 a0_0, .int .i64 a0_1, .int .i64 a0_2, .slice A0_3 l0_3.length c0_3, .slice A0_4 l0_4.length c0_4], .agg #[.int .i64 a1_0, .slice Ao61 y379.length co61]] rfl (by (try simp only [List.map_toArray, List.map_cons, List.map_nil]); first | done | rfl | (simp only [List.length_drop, List.length_take]; rfl)) ?_; (with_reducible refine (taquinref22_Right.calls k1 a0_0 a0_1 a0_2 _ _ l0_3 _ _ l0_4 a1_0 _ _ y379 false _ ?side1 ?side2 ?side3 ?side4 ?side5 ?side6 A31.out).mono ?_); (case side1 => exact Kd.C_below HR0_3.out (by repeat (first | (with_reducible first | exact HB.out | apply below_alloc | apply pw_below_drewN | apply below_drew1 | refine below_set ?_ GE371.out | refine below_set ?_ GE372.out | refine below_set ?_ GE373.out | refine below_set ?_ GE382.out) | exact HB.out))); (case side2 => exact HC0_3.out); (case side3 => exact Kd.C_below HR0_4.out (by repeat (first | (with_reducible first | exact HB.out | apply below_alloc | apply pw_below_drewN | apply below_drew1 | refine below_set ?_ GE371.out | refine below_set ?_ GE372.out | refine below_set ?_ GE373.out | refine below_set ?_ GE382.out) | exact HB.out))); (case side4 => exact HC0_4.out); (case side5 => refine (Kd.R_reads' (e := 3) (base := w.heap.size) (ok := fun k_ => (w.heap.size ≤ k_)) (n := y379.length) (c := co61) ?_).2.2; exact (by (with_reducible repeat (first | apply Kd.R_alloc | apply Kd.R_drewN | apply Kd.R_drew)); exact (Kd.R_mono (Kd.R_far (p := ⟨gb382, 1, none⟩) (Kd.R_far (p := ⟨gb382, 0, none⟩) (Kd.R_types HO381.out BK382.out (by decide)) (fun _ hk => hk.2) (.int .i64 a1_0)) (fun _ hk => hk.2) (.slice Ao61 y379.length co61)) (fun _ h_ => h_.1)))); (case side6 => exact (Kd.R_reads' HO381.out).2.1); rintro e w71 ⟨rfl, hb⟩; refine ⟨_, rfl, ?_⟩; have n0_ := Aside0.mk (Kd.V_below (by (with_reducible repeat (first | apply Kd.V_alloc | apply Kd.V_drewN | apply Kd.V_drew)); exact (Kd.V_mono (Kd.V_far (p := ⟨gb382, 1, none⟩) (Kd.V_far (p := ⟨gb382, 0, none⟩) (Kd.V_mono HO_373001.out (fun k_ hk => (⟨hk, hk.2.2.2.2.2⟩ : _ ∧ k_ ≠ gb382))) (fun _ hk => hk.2) (.int .i64 a1_0)) (fun _ hk => hk.2) (.slice Ao61 y379.length co61)) (fun _ h_ => h_.1))) hb); have n1_ := Aside0.mk (Kd.R_below (by (with_reducible repeat (first | apply Kd.R_alloc | apply Kd.R_drewN | apply Kd.R_drew)); exact (Kd.R_mono (Kd.R_far (p := ⟨gb382, 1, none⟩) (Kd.R_far (p := ⟨gb382, 0, none⟩) (Kd.R_types HO381.out BK382.out (by decide)) (fun _ hk => hk.2) (.int .i64 a1_0)) (fun _ hk => hk.2) (.slice Ao61 y379.length co61)) (fun _ h_ => h_.1))) hb); have n2_ := Aside0.mk (blk_below (g := gb371) (o := .cells #[.int .i64 a0_0, .int .i64 a0_1, .int .i64 a0_2, .slice A0_3 l0_3.length c0_3, .slice A0_4 l0_4.length c0_4] 24 (0, 0)) (by (with_reducible repeat (first | refine blk_drewN ?_ _ | refine blk_drew ?_ | refine blk_alloc ?_ _)); refine blk_far ?_ NB371_382.out _; (with_reducible repeat (first | refine blk_drewN ?_ _ | refine blk_drew ?_ | refine blk_alloc ?_ _)); refine blk_far ?_ NB371_382.out _; (with_reducible repeat (first | refine blk_drewN ?_ _ | refine blk_drew ?_ | refine blk_alloc ?_ _)); exact BK371.out) hb); have n3_ := Aside0.mk (blk_below (g := gb372) (o := .cells #[.int .i64 a1_0, .slice A1_1 l1_1.length c1_1] 26 (0, 0)) (by (with_reducible repeat (first | refine blk_drewN ?_ _ | refine blk_drew ?_ | refine blk_alloc ?_ _)); refine blk_far ?_ NB372_382.out _; (with_reducible repeat (first | refine blk_drewN ?_ _ | refine blk_drew ?_ | refine blk_alloc ?_ _)); refine blk_far ?_ NB372_382.out _; (with_reducible repeat (first | refine blk_drewN ?_ _ | refine blk_drew ?_ | refine blk_alloc ?_ _)); exact BK372.out) hb); have n4_ := Aside0.mk (blk_below (g := gb373) (o := .cells #[.int .i64 x374000_1, .slice none 0 0] 26 (0, 0)) (by (with_reducible repeat (first | refine blk_drewN ?_ _ | refine blk_drew ?_ | refine blk_alloc ?_ _)); refine blk_far ?_ NB373_382.out _; (with_reducible repeat (first | refine blk_drewN ?_ _ | refine blk_drew ?_ | refine blk_alloc ?_ _)); refine blk_far ?_ NB373_382.out _; (with_reducible repeat (first | refine blk_drewN ?_ _ | refine blk_drew ?_ | refine blk_alloc ?_ _)); exact BK373.out) hb); have n5_ := Aside0.mk (blk_below (g := gb382) (o := .cells #[.int .i64 a1_0, .slice Ao61 y379.length co61] 26 (0, 0)) (by (with_reducible repeat (first | refine blk_drewN ?_ _ | refine blk_drew ?_ | refine blk_alloc ?_ _)); refine blk_put (cs := #[.int .i64 a1_0, .slice none 0 0]) ?_ 1 _ rfl; (with_reducible repeat (first | refine blk_drewN ?_ _ | refine blk_drew ?_ | refine blk_alloc ?_ _)); refine blk_put (cs := #[.int .i64 0, .slice none 0 0]) ?_ 0 _ rfl; (with_reducible repeat (first | refine blk_drewN ?_ _ | refine blk_drew ?_ | refine blk_alloc ?_ _)); exact BK382.out) hb); have n6_ := Aside0.mk (below_step (by repeat (first | (with_reducible first | exact HB.out | apply below_alloc | apply pw_below_drewN | apply below_drew1 | refine below_set ?_ GE371.out | refine below_set ?_ GE372.out | refine below_set ?_ GE373.out | refine below_set ?_ GE382.out) | exact HB.out)) hb); clear HO_373001; clear HO381; clear BK371; clear BK372; clear BK373; clear BK382; clear HB; have HO_373001 := n0_; have HO381 := n1_; have BK371 := n2_; have BK372 := n3_; have BK373 := n4_; have BK382 := n5_; have HB := n6_; clear n0_ n1_ n2_ n3_ n4_ n5_ n6_; (try clear hb); (try clear hb2); (try clear hk); (try clear hi); have hnb72 := NB372_373.out; have hnc72 := NB373_372.out; have hcz73_0 : w71.cell? ⟨gb372, 0, none⟩ = some (.int .i64 a1_0) := (blk_cell BK372.out 0).trans rfl; have hcz73_1 : w71.cell? ⟨gb372, 1, none⟩ = some (.slice A1_1 l1_1.length c1_1) := (blk_cell BK372.out 1).trans rfl; have hfz73_0 := blk_frozen BK372.out 0; have hfz73_1 := blk_frozen BK372.out 1; have hcz74_0 : w71.cell? ⟨gb373, 0, none⟩ = some (.int .i64 x374000_1) := (blk_cell BK373.out 0).trans rfl; have hcz74_1 : w71.cell? ⟨gb373, 1, none⟩ = some (.slice none 0 0) := (blk_cell BK373.out 1).trans rfl; have hfz74_0 := blk_frozen BK373.out 0; have hfz74_1 := blk_frozen BK373.out 1))
       refine bodyPost_ret (results_ct rfl _ _ gb373 26 #[.int .i64 a1_0, .slice A1_1 l1_1.length c1_1] (0, 0) _ rfl (by (with_reducible repeat (first | refine blk_drewN ?_ _ | refine blk_drew ?_ | refine blk_alloc ?_ _)); refine blk_put (cs := #[.int .i64 a1_0, .slice none 0 0]) ?_ 1 _ rfl; (with_reducible repeat (first | refine blk_drewN ?_ _ | refine blk_drew ?_ | refine blk_alloc ?_ _)); refine blk_put (cs := #[.int .i64 x374000_1, .slice none 0 0]) ?_ 0 _ rfl; (with_reducible repeat (first | refine blk_drewN ?_ _ | refine blk_drew ?_ | refine blk_alloc ?_ _)); exact BK373.out) Tryz.underlying26 rfl (by kernel_rfl)) rfl ?_
       exact ⟨_, by first | rfl | (simp [errW_none, errW_some] <;> rfl) | (simp [*, errW_none, errW_some] <;> rfl), by (with_reducible repeat (first | apply Kd.V_alloc | apply Kd.V_drewN | apply Kd.V_drew)); exact Kd.V_mono (Kd.V_far (p := ⟨gb373, 1, none⟩) (Kd.V_far (p := ⟨gb373, 0, none⟩) (Kd.V_mono HO_373001.out (fun k_ hk => (⟨hk, hk.2.2.2.2.1⟩ : _ ∧ k_ ≠ gb373))) (fun _ hk => hk.2) (.int .i64 a1_0)) (fun _ hk => hk.2) (.slice A1_1 l1_1.length c1_1)) (fun _ hk => hk.1.1), by repeat (first | (with_reducible first | exact HB.out | apply below_alloc | apply pw_below_drewN | apply below_drew1 | refine below_set ?_ GE371.out | refine below_set ?_ GE372.out | refine below_set ?_ GE373.out | refine below_set ?_ GE382.out) | exact HB.out)⟩
     ·rw [if_neg c30] at H
      exact absurd H (by simp)
end Go.Proofs.YtphcihbffiggbaaGreatDoor.PRt

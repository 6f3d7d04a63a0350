-- squeezed by a program of this claim's own (wip/tools/fit.py), after the kit's printer
import Derived.Test.YtphcihbffiggbaaGreatDoorPRtx0
import Derived.Test.YtphcihbffiggbaaGreatDoorPRtx10
import Derived.Test.YtphcihbffiggbaaGreatDoorPRtx15
namespace Go.Proofs.YtphcihbffiggbaaGreatDoor.PRt
open Go.RowKit Go.Proofs.YtphcihbffiggbaaGreatDoorW.PrintWords Go.Proofs.YtphcihbffiggbaaGreatDoorW.PrintLast Go.Proofs.YtphcihbffiggbaaGreatDoorW.PrintMore
attribute [local go_sem] max2_int min2_int max_two min_two max_three min_three max_four min_four   -- for this text's walks alone
set_option linter.unusedVariables false
set_option linter.unusedSimpArgs false
def taquinref22_Did.j0 : Nat → Int → Bool → Int → Int → Int → List Int → List Int → Int → List Int → Option (Int × List Int)
 | 0, _, _, _, _, _, _, _, _, _ => none
 | k + 1, x2, x24, x387000, x387001, x387002, x387003, x387004, x388000, x388001 => if x24 = true then (some (x388000, x388001)) else ((some (([] : List Int) : List Int)).bind fun y390 => (if 1 ≤ (x388001.length : Int) then ((some (x388001.drop 1 : List Int)).bind fun y393 => (if y390.length + y393.length < 17592186044416 then ((some (y390 ++ y393 : List Int)).bind fun y398 => (if (wrap64 (x2 - 1)) ≥ 0 then (if (wrap64 (x2 - 1)) ≤ 5 then ((taquinref07_Next.f k x387000 x387001 x387002 x387003 x387004 x388000 (wrap64 (x2 - 1))).bind fun bt402 => (some (bt402.1, y398))) else (some (x388000, y398))) else (some (x388000, y398)))) else (none))) else (none)))
def taquinref22_Did.f (k : Nat) (a0_0 : Int) (a0_1 : Int) (a0_2 : Int) (l0_3 : List Int) (l0_4 : List Int) (a1_0 : Int) (l1_1 : List Int) (a2 : Int) (a3 : Bool) : Option (Int × List Int) := if a3 = true then (if (l1_1.length : Int) = 0 then (taquinref22_Did.j0 k a2 true a0_0 a0_1 a0_2 l0_3 l0_4 a1_0 l1_1) else ((taquinref22_Next.f a1_0 l1_1).bind fun t389 => (taquinref22_Did.j0 k a2 (t389 != a2) a0_0 a0_1 a0_2 l0_3 l0_4 a1_0 l1_1))) else (taquinref22_Did.j0 k a2 true a0_0 a0_1 a0_2 l0_3 l0_4 a1_0 l1_1)
def taquinref22_Did.T3 : Bool × List (List Nat × List Nat) := (true, [([], []), ([0], [0]), ([], []), ([], []), ([3], [3]), ([4], [4]), ([2, 5], [2, 5]), ([1, 6], [1, 6]), ([], []), ([8, 7, 6, 0, 1, 2, 3, 4, 5, 6, 7, 8], [7, 8])])
def taquinref22_Did.B3 : List Nat := [0, 1, 0, 0, 8, 24, 60, 127, 0, 511]
theorem taquinref22_Did.tab3 : rtab .any (opsOf Tryz.f22 3) = taquinref22_Did.T3 := by kernel_rfl
theorem taquinref22_Did.bits3 : waitsOk taquinref22_Did.T3.2 taquinref22_Did.B3 = true := by kernel_rfl
set_option maxHeartbeats 8000000 in
set_option maxRecDepth 100000 in
theorem taquinref22_Did.calls (k : Nat) (a0_0 : Int) (a0_1 : Int) (a0_2 : Int) (A0_3 : Option Addr) (c0_3 : Nat) (l0_3 : List Int) (A0_4 : Option Addr) (c0_4 : Nat) (l0_4 : List Int) (a1_0 : Int) (P1_1_ : Nat → Prop) (A1_1 : Option Addr) (c1_1 : Nat) (l1_1 : List Int) (a2 : Int) (a3 : Bool) (r1 : Int) (r2 : List Int) (w : World) (hr0_3 : Kd.C (Kd.int .i64) w A0_3 l0_3.length l0_3) (hc0_3 : l0_3.length ≤ c0_3) (hr0_4 : Kd.C (Kd.int .i64) w A0_4 l0_4.length l0_4) (hc0_4 : l0_4.length ≤ c0_4) (hs1_1 : Kd.V (Kd.int .i64) 3 w w.heap.size (fun k_ => P1_1_ k_) (.slice A1_1 l1_1.length c1_1) l1_1) (h : taquinref22_Did.f k a0_0 a0_1 a0_2 l0_3 l0_4 a1_0 l1_1 a2 a3 = some (r1, r2)) :
  Calls Tryz.prog 22 #[.agg #[.int .i64 a0_0, .int .i64 a0_1, .int .i64 a0_2, .slice A0_3 l0_3.length c0_3, .slice A0_4 l0_4.length c0_4], .agg #[.int .i64 a1_0, .slice A1_1 l1_1.length c1_1], .int .i64 a2, .bool a3] w fun e w' => ∃ v1_ : Value, e = .returned (.agg #[.int .i64 r1, v1_]) ∧ Kd.V (Kd.int .i64) 3 w' w.heap.size (fun k_ => (P1_1_ k_ ∨ w.heap.size ≤ k_)) v1_ r2 ∧ Below w.heap.size w w' := by
 have hu24 := Tryz.underlying24
 have hu26 := Tryz.underlying26
 have HR0_3 := Aside0.mk hr0_3
 have HC0_3 := Aside0.mk hc0_3
 clear hr0_3 hc0_3
 have HR0_4 := Aside0.mk hr0_4
 have HC0_4 := Aside0.mk hc0_4
 clear hr0_4 hc0_4
 have HO1_1 := Aside0.mk (show Kd.V (Kd.int .i64) 3 w w.heap.size (fun k_ => (P1_1_ k_ ∨ w.heap.size ≤ k_)) (.slice A1_1 l1_1.length c1_1) l1_1 from Kd.V_mono hs1_1 (fun k_ hk => .inl hk))
 have HB := Aside0.mk (Below.refl w.heap.size w)
 have H : (if a3 = true then (if (l1_1.length : Int) = 0 then (taquinref22_Did.j0 k a2 true a0_0 a0_1 a0_2 l0_3 l0_4 a1_0 l1_1) else ((taquinref22_Next.f a1_0 l1_1).bind fun t389 => (taquinref22_Did.j0 k a2 (t389 != a2) a0_0 a0_1 a0_2 l0_3 l0_4 a1_0 l1_1))) else (taquinref22_Did.j0 k a2 true a0_0 a0_1 a0_2 l0_3 l0_4 a1_0 l1_1)) = some (r1, r2) := h
 clear h
 have HC5 := Aside0.mk H
 clear H
 go_enter Tryz.func22, Tryz.ntmps22
 go_upto_region 1 with (first | ((with_reducible refine gate_dst (N := 4) rfl ?_); (try (refine gate_guard (by rfl) ?_; dsimp only)); refine box_event ?hg (N := 4) ?hd (cs := #[.int .i64 a0_0, .int .i64 a0_1, .int .i64 a0_2, .slice A0_3 l0_3.length c0_3, .slice A0_4 l0_4.length c0_4]) (t := 24) ?hr ?_; (case hd => rfl); (case hg => rfl); (case hr => first | (go_simp; done) | (go_simp; rfl)); intro gb386 hg w6 hbox hb; replace HO1_1 := Aside0.mk (Kd.V_below (Kd.V_elderB HO1_1.out gb386 (Nat.le_of_eq hg.symm)) hb); have BK386 := Aside0.mk (hbox); have GW386 := Aside0.mk ((by rw [hg]; exact (below_size HB.out) : w.heap.size ≤ gb386)); have GE386 := Aside0.mk ((by rw [hg]; exact (below_size HB.out) : w.heap.size ≤ gb386)); replace HB := Aside0.mk (below_step HB.out hb); clear hb hbox hg) | ((with_reducible refine gate_dst (N := 5) rfl ?_); (try (refine gate_guard (by rfl) ?_; dsimp only)); refine box_event ?hg (N := 5) ?hd (cs := #[.int .i64 a1_0, .slice A1_1 l1_1.length c1_1]) (t := 26) ?hr ?_; (case hd => rfl); (case hg => rfl); (case hr => first | (go_simp; done) | (go_simp; rfl)); intro gb387 hg w7 hbox hb; replace HO1_1 := Aside0.mk (Kd.V_below (Kd.V_elderB HO1_1.out gb387 (Nat.le_of_eq hg.symm)) hb); have BK387 := Aside0.mk (hbox); have GW387 := Aside0.mk ((by rw [hg]; exact (below_size HB.out) : w.heap.size ≤ gb387)); have GE387 := Aside0.mk ((by rw [hg]; exact (below_size HB.out) : w.heap.size ≤ gb387)); replace HB := Aside0.mk (below_step HB.out hb); have NB386_387 := Aside0.mk ((by rw [hg]; exact Nat.ne_of_lt (blk_lt BK386.out) : gb386 ≠ gb387)); have NB387_386 := Aside0.mk ((by rw [hg]; exact Nat.ne_of_gt (blk_lt BK386.out) : gb387 ≠ gb386)); replace BK386 := Aside0.mk (blk_below BK386.out hb); clear hb hbox hg) | ((with_reducible refine gate_dst (N := 8) rfl ?_); (try (refine gate_guard (by rfl) ?_; dsimp only)); refine box_event ?hg (N := 8) ?hd (cs := #[.int .i64 0, .slice none 0 0]) (t := 26) ?hr ?_; (case hd => rfl); (case hg => rfl); (case hr => first | (go_simp; done) | (go_simp; rfl)); intro gb388 hg w8 hbox hb; replace HO1_1 := Aside0.mk (Kd.V_below (Kd.V_elderB HO1_1.out gb388 (Nat.le_of_eq hg.symm)) hb); have BK388 := Aside0.mk (hbox); have GW388 := Aside0.mk ((by rw [hg]; exact (below_size HB.out) : w.heap.size ≤ gb388)); have GE388 := Aside0.mk ((by rw [hg]; exact (below_size HB.out) : w.heap.size ≤ gb388)); replace HB := Aside0.mk (below_step HB.out hb); have NB386_388 := Aside0.mk ((by rw [hg]; exact Nat.ne_of_lt (blk_lt BK386.out) : gb386 ≠ gb388)); have NB388_386 := Aside0.mk ((by rw [hg]; exact Nat.ne_of_gt (blk_lt BK386.out) : gb388 ≠ gb386)); replace BK386 := Aside0.mk (blk_below BK386.out hb); have NB387_388 := Aside0.mk ((by rw [hg]; exact Nat.ne_of_lt (blk_lt BK387.out) : gb387 ≠ gb388)); have NB388_387 := Aside0.mk ((by rw [hg]; exact Nat.ne_of_gt (blk_lt BK387.out) : gb388 ≠ gb387)); replace BK387 := Aside0.mk (blk_below BK387.out hb); clear hb hbox hg))
 (try simp only [Act.put, List.setIfInBounds_toArray, List.set_cons_zero, List.set_cons_succ])
 go_cut [24] (fun v24 wc => ∃ (kq : Nat) (x24_4 : Bool), v24 = .bool x24_4 ∧ Aside0 (taquinref22_Did.j0 kq a2 x24_4 a0_0 a0_1 a0_2 l0_3 l0_4 a1_0 l1_1 = some (r1, r2)) ∧ Aside0 (kq ≤ k) ∧ Aside0 (Kd.V (Kd.int .i64) 3 wc w.heap.size (fun k_ => (P1_1_ k_ ∨ w.heap.size ≤ k_) ∧ k_ ≠ gb386 ∧ k_ ≠ gb387 ∧ k_ ≠ gb388) (.slice A1_1 l1_1.length c1_1) l1_1) ∧ Aside0 (wc.heap[gb386]? = some (.cells #[.int .i64 a0_0, .int .i64 a0_1, .int .i64 a0_2, (.slice A0_3 l0_3.length c0_3), (.slice A0_4 l0_4.length c0_4)] 24 (0, 0))) ∧ Aside0 (wc.heap[gb387]? = some (.cells #[.int .i64 a1_0, (.slice A1_1 l1_1.length c1_1)] 26 (0, 0))) ∧ Aside0 (wc.heap[gb388]? = some (.cells #[.int .i64 0, (.slice none 0 0)] 26 (0, 0))) ∧ Aside0 (Below w.heap.size w wc))
 case first =>
  have H := HC5.out
  clear HC5
  by_cases c9 : a3 = true
  ·subst c9
   have H1 : (if (l1_1.length : Int) = 0 then (taquinref22_Did.j0 k a2 true a0_0 a0_1 a0_2 l0_3 l0_4 a1_0 l1_1) else ((taquinref22_Next.f a1_0 l1_1).bind fun t389 => (taquinref22_Did.j0 k a2 (t389 != a2) a0_0 a0_1 a0_2 l0_3 l0_4 a1_0 l1_1))) = some (r1, r2) := by rw [if_pos rfl] at H; exact H
   clear H
   have H := H1
   clear H1
   by_cases c10 : (l1_1.length : Int) = 0
   ·rw [if_pos c10] at H
    have c10b0 : ((l1_1.length : Int) == 0) = true := beq_iff_eq.mpr c10
    have c10b1 : ((l1_1.length : Int) != 0) = false := bne_eq_false_iff_eq.mpr c10
    clear c10
    (first | rw [c10b0] | (simp only [i64_w, i32_w]; rw [c10b0]) | skip)
    have H' := Aside0.mk H
    clear H
    have hnb11 := NB387_386.out
    have hnc11 := NB386_387.out
    have hnb12 := NB387_388.out
    have hnc12 := NB388_387.out
    have hcz13_0 : w8.cell? ⟨gb387, 0, none⟩ = some (.int .i64 a1_0) := (blk_cell BK387.out 0).trans rfl
    have hcz13_1 : w8.cell? ⟨gb387, 1, none⟩ = some (.slice A1_1 l1_1.length c1_1) := (blk_cell BK387.out 1).trans rfl
    have hfz13_0 := blk_frozen BK387.out 0
    have hfz13_1 := blk_frozen BK387.out 1
    go_wp2
    go_meet
    case rel => exact ⟨_, (true), rfl, H', ⟨by first | omega | exact Nat.le_refl _⟩, ⟨by (with_reducible repeat (first | apply Kd.V_alloc | apply Kd.V_drewN | apply Kd.V_drew)); exact Kd.V_mono HO1_1.out (fun _ hk => ⟨hk.1.1.1, ⟨hk.1.1.2, ⟨hk.1.2, hk.2⟩⟩⟩)⟩, ⟨BK386.out⟩, ⟨BK387.out⟩, ⟨BK388.out⟩, ⟨HB.out⟩⟩
   ·rw [if_neg c10] at H
    have c10b0 : ((l1_1.length : Int) == 0) = false := beq_eq_false_iff_ne.mpr c10
    have c10b1 : ((l1_1.length : Int) != 0) = true := bne_iff_ne.mpr c10
    have c10b2 : ¬ (l1_1 = []) := fun h_ => c10 (by rw [h_]; rfl)
    (first | rw [c10b0] | (simp only [i64_w, i32_w]; rw [c10b0]) | skip)
    replace H := Option.bind_eq_some_iff.mp H
    obtain ⟨t389, A140, H⟩ := H
    try dsimp only at H
    have A14 := Aside0.mk A140
    clear A140
    have H' := Aside0.mk H
    clear H
    have hnb15 := NB387_386.out
    have hnc15 := NB386_387.out
    have hnb16 := NB387_388.out
    have hnc16 := NB388_387.out
    have hcz17_0 : w8.cell? ⟨gb387, 0, none⟩ = some (.int .i64 a1_0) := (blk_cell BK387.out 0).trans rfl
    have hcz17_1 : w8.cell? ⟨gb387, 1, none⟩ = some (.slice A1_1 l1_1.length c1_1) := (blk_cell BK387.out 1).trans rfl
    have hfz17_0 := blk_frozen BK387.out 0
    have hfz17_1 := blk_frozen BK387.out 1
    go_wp2_with (first | (go_at_call 18; (with_reducible refine (taquinref22_Next.calls a1_0 _ _ l1_1 t389 _ ?side1 ?side2 A14.out).mono ?_); (case side1 => exact (Kd.V_reads' HO1_1.out).2.2); (case side2 => exact (Kd.V_reads' HO1_1.out).2.1); rintro e w18 ⟨rfl, hb⟩; replace HO1_1 := Aside0.mk (Kd.V_below HO1_1.out hb); replace BK386 := Aside0.mk (blk_below BK386.out hb); replace BK387 := Aside0.mk (blk_below BK387.out hb); replace BK388 := Aside0.mk (blk_below BK388.out hb); replace HB := Aside0.mk (below_step HB.out hb); try clear hb; try clear hb2; try clear hk; try clear hi))
    go_meet
    case rel => exact ⟨_, ((t389 != a2)), rfl, H', ⟨by first | omega | exact Nat.le_refl _⟩, ⟨by (with_reducible repeat (first | apply Kd.V_alloc | apply Kd.V_drewN | apply Kd.V_drew)); exact Kd.V_mono HO1_1.out (fun _ hk => ⟨hk.1.1.1, ⟨hk.1.1.2, ⟨hk.1.2, hk.2⟩⟩⟩)⟩, ⟨BK386.out⟩, ⟨BK387.out⟩, ⟨BK388.out⟩, ⟨HB.out⟩⟩
  ·replace c9 := Bool.eq_false_iff.mpr c9
   subst c9
   have H1 : (taquinref22_Did.j0 k a2 true a0_0 a0_1 a0_2 l0_3 l0_4 a1_0 l1_1) = some (r1, r2) := by rw [if_neg (show ¬ (false = true) by decide)] at H; exact H
   clear H
   have H := H1
   clear H1
   have H' := Aside0.mk H
   clear H
   go_wp2
   go_meet
   case rel => exact ⟨_, (true), rfl, H', ⟨by first | omega | exact Nat.le_refl _⟩, ⟨by (with_reducible repeat (first | apply Kd.V_alloc | apply Kd.V_drewN | apply Kd.V_drew)); exact Kd.V_mono HO1_1.out (fun _ hk => ⟨hk.1.1.1, ⟨hk.1.1.2, ⟨hk.1.2, hk.2⟩⟩⟩)⟩, ⟨BK386.out⟩, ⟨BK387.out⟩, ⟨BK388.out⟩, ⟨HB.out⟩⟩
 case rest =>
  clear HC5
  try clear c1
  try clear c2
  try clear p2
  try clear c9
  try clear c10
  try clear c10b0
  try clear c10b1
  try clear c10b2
  try clear c11
  try clear c12
  try clear c15
  try clear c16
  try clear hcz13_0
  try clear hcz13_1
  try clear hcz17_0
  try clear hcz17_1
  try clear hfz13_0
  try clear hfz13_1
  try clear hfz17_0
  try clear hfz17_1
  obtain ⟨kq, x24_4, rfl, HA, HJ4, HO_388001, BK386, BK387, BK388, HB⟩ := hcut
  cases kq with
  | zero => exact absurd HA.out (by simp [taquinref22_Did.j0])
  | succ kj4 =>
   have H := HA.out
   clear HA
   simp only [taquinref22_Did.j0] at H
   by_cases c19 : x24_4 = true
   ·subst c19
    have H1 : (some (a1_0, l1_1)) = some (r1, r2) := by rw [if_pos rfl] at H; exact H
    clear H
    have H := H1
    clear H1
    simp only [Option.some.injEq, Prod.mk.injEq] at H
    obtain ⟨rfl, rfl⟩ := H
    have hnb20 := NB387_386.out
    have hnc20 := NB386_387.out
    have hnb21 := NB387_388.out
    have hnc21 := NB388_387.out
    have hcz22_0 : wc.cell? ⟨gb387, 0, none⟩ = some (.int .i64 a1_0) := (blk_cell BK387.out 0).trans rfl
    have hcz22_1 : wc.cell? ⟨gb387, 1, none⟩ = some (.slice A1_1 l1_1.length c1_1) := (blk_cell BK387.out 1).trans rfl
    have hfz22_0 := blk_frozen BK387.out 0
    have hfz22_1 := blk_frozen BK387.out 1
    have hnb23 := NB388_386.out
    have hnc23 := NB386_388.out
    have hcz24_0 : wc.cell? ⟨gb388, 0, none⟩ = some (.int .i64 0) := (blk_cell BK388.out 0).trans rfl
    have hcz24_1 : wc.cell? ⟨gb388, 1, none⟩ = some (.slice none 0 0) := (blk_cell BK388.out 1).trans rfl
    have hfz24_0 := blk_frozen BK388.out 0
    have hfz24_1 := blk_frozen BK388.out 1
    go_wp2
    refine bodyPost_ret (results_cell_row rfl _ _ gb388 26 #[.int .i64 a1_0, .slice A1_1 l1_1.length c1_1] (0, 0) _ rfl (by (with_reducible repeat (first | refine blk_drewN ?_ _ | refine blk_drew ?_ | refine blk_alloc ?_ _)); refine blk_put (cs := #[.int .i64 a1_0, .slice none 0 0]) ?_ 1 _ rfl; (with_reducible repeat (first | refine blk_drewN ?_ _ | refine blk_drew ?_ | refine blk_alloc ?_ _)); refine blk_put (cs := #[.int .i64 0, .slice none 0 0]) ?_ 0 _ rfl; (with_reducible repeat (first | refine blk_drewN ?_ _ | refine blk_drew ?_ | refine blk_alloc ?_ _)); exact BK388.out) Tryz.underlying26 rfl (by kernel_rfl)) rfl ?_
    exact ⟨_, by first | rfl | (simp [errW_none, errW_some] <;> rfl) | (simp [*, errW_none, errW_some] <;> rfl), by (with_reducible repeat (first | apply Kd.V_alloc | apply Kd.V_drewN | apply Kd.V_drew)); exact Kd.V_mono (Kd.V_far (p := ⟨gb388, 1, none⟩) (Kd.V_far (p := ⟨gb388, 0, none⟩) (Kd.V_mono HO_388001.out (fun k_ hk => (⟨hk, hk.2.2.2⟩ : _ ∧ k_ ≠ gb388))) (fun _ hk => hk.2) (.int .i64 a1_0)) (fun _ hk => hk.2) (.slice A1_1 l1_1.length c1_1)) (fun _ hk => hk.1.1), by repeat (first | (with_reducible first | exact HB.out | apply below_alloc | apply pw_below_drewN | apply below_drew1 | refine below_set ?_ GE386.out | refine below_set ?_ GE387.out | refine below_set ?_ GE388.out) | exact HB.out)⟩
   ·replace c19 := Bool.eq_false_iff.mpr c19
    subst c19
    have H1 : ((some (([] : List Int) : List Int)).bind fun y390 => (if 1 ≤ (l1_1.length : Int) then ((some (l1_1.drop 1 : List Int)).bind fun y393 => (if y390.length + y393.length < 17592186044416 then ((some (y390 ++ y393 : List Int)).bind fun y398 => (if (wrap64 (a2 - 1)) ≥ 0 then (if (wrap64 (a2 - 1)) ≤ 5 then ((taquinref07_Next.f kj4 a0_0 a0_1 a0_2 l0_3 l0_4 a1_0 (wrap64 (a2 - 1))).bind fun bt402 => (some (bt402.1, y398))) else (some (a1_0, y398))) else (some (a1_0, y398)))) else (none))) else (none))) = some (r1, r2) := by rw [if_neg (show ¬ (false = true) by decide)] at H; exact H
    clear H
    have H := H1
    clear H1
    obtain ⟨y390, hy390⟩ : ∃ y_ : List Int, y_ = (([] : List Int)) := ⟨_, rfl⟩
    replace H : (if 1 ≤ (l1_1.length : Int) then ((some (l1_1.drop 1 : List Int)).bind fun y393 => (if y390.length + y393.length < 17592186044416 then ((some (y390 ++ y393 : List Int)).bind fun y398 => (if (wrap64 (a2 - 1)) ≥ 0 then (if (wrap64 (a2 - 1)) ≤ 5 then ((taquinref07_Next.f kj4 a0_0 a0_1 a0_2 l0_3 l0_4 a1_0 (wrap64 (a2 - 1))).bind fun bt402 => (some (bt402.1, y398))) else (some (a1_0, y398))) else (some (a1_0, y398)))) else (none))) else (none)) = some (r1, r2) := by first | (rw [hy390]; with_reducible exact H) | (have H2_ := (Option.bind_some _ _).symm.trans H; rw [hy390]; with_reducible exact H2_) | (have H2_ := (Option.bind_some _ _).symm.trans H; with_reducible exact H2_) | with_reducible exact H | (rw [hy390]; exact H) | exact H
    have Ny390 := Aside0.mk hy390
    clear hy390
    by_cases c25 : 1 ≤ (l1_1.length : Int)
    ·rw [if_pos c25] at H
     have c25b0 := eq_true c25
     have c25b1 : decide (1 ≤ (l1_1.length : Int)) = true := decide_eq_true c25
     clear c25
     obtain ⟨y393, hy393⟩ : ∃ y_ : List Int, y_ = (l1_1.drop 1) := ⟨_, rfl⟩
     replace H : (if y390.length + y393.length < 17592186044416 then ((some (y390 ++ y393 : List Int)).bind fun y398 => (if (wrap64 (a2 - 1)) ≥ 0 then (if (wrap64 (a2 - 1)) ≤ 5 then ((taquinref07_Next.f kj4 a0_0 a0_1 a0_2 l0_3 l0_4 a1_0 (wrap64 (a2 - 1))).bind fun bt402 => (some (bt402.1, y398))) else (some (a1_0, y398))) else (some (a1_0, y398)))) else (none)) = some (r1, r2) := by first | (rw [hy393]; with_reducible exact H) | (have H2_ := (Option.bind_some _ _).symm.trans H; rw [hy393]; with_reducible exact H2_) | (have H2_ := (Option.bind_some _ _).symm.trans H; with_reducible exact H2_) | with_reducible exact H | (rw [hy393]; exact H) | exact H
     have Ny393 := Aside0.mk hy393
     clear hy393
     by_cases c26 : y390.length + y393.length < 17592186044416
     ·rw [if_pos c26] at H
      have LMc26 := Aside0.mk c26
      clear c26
      obtain ⟨y398, hy398⟩ : ∃ y_ : List Int, y_ = (y390 ++ y393) := ⟨_, rfl⟩
      replace H : (if (wrap64 (a2 - 1)) ≥ 0 then (if (wrap64 (a2 - 1)) ≤ 5 then ((taquinref07_Next.f kj4 a0_0 a0_1 a0_2 l0_3 l0_4 a1_0 (wrap64 (a2 - 1))).bind fun bt402 => (some (bt402.1, y398))) else (some (a1_0, y398))) else (some (a1_0, y398))) = some (r1, r2) := by first | (rw [hy398]; with_reducible exact H) | (have H2_ := (Option.bind_some _ _).symm.trans H; rw [hy398]; with_reducible exact H2_) | (have H2_ := (Option.bind_some _ _).symm.trans H; with_reducible exact H2_) | with_reducible exact H | (rw [hy398]; exact H) | exact H
      have Ny398 := Aside0.mk hy398
      clear hy398
      by_cases c27 : (wrap64 (a2 - 1)) ≥ 0
      ·rw [if_pos c27] at H
       have c27b0 : decide (0 ≤ (wrap64 (a2 - 1))) = true := decide_eq_true c27
       clear c27
       by_cases c28 : (wrap64 (a2 - 1)) ≤ 5
       ·rw [if_pos c28] at H
        have c28b0 : decide ((wrap64 (a2 - 1)) ≤ 5) = true := decide_eq_true c28
        clear c28
        replace H := Option.bind_eq_some_iff.mp H
        obtain ⟨⟨t402, t403⟩, A290, H⟩ := H
        try dsimp only at H
        have A29 := Aside0.mk A290
        clear A290
        simp only [Option.some.injEq, Prod.mk.injEq] at H
        obtain ⟨rfl, rfl⟩ := H
        try go_wp2
        replace HO_388001 := Aside0.mk (Kd.V_drew HO_388001.out)
        replace BK386 := Aside0.mk (blk_drew BK386.out)
        replace BK387 := Aside0.mk (blk_drew BK387.out)
        replace BK388 := Aside0.mk (blk_drew BK388.out)
        replace HB := Aside0.mk (below_drew1 HB.out)
        have q31 : (1 : Int) ≤ ((l1_1.length : Int) : Int) := of_decide_eq_true (by first | (with_reducible assumption) | assumption)
        obtain ⟨i031, hi031, _, hsz31, _⟩ := info_parts info3
        have hroom31 : l1_1.length ≤ c1_1 := (Kd.V_reads' HO_388001.out).2.1
        have hC31 : Kd.F (Kd.int .i64) _ _ A1_1 l1_1.length l1_1 := (Kd.V_at (base := w.heap.size) HO_388001.out).2.2
        have hcut31 := cut_from (P := Tryz.prog) 22 3 .i64 Tryz.underlying22 hi031 1 hsz31 A1_1 l1_1.length c1_1 1 (by omega) q31
        have hr31 := Kd.F_cut (m := (1 : Int).toNat) (c := c1_1) hC31 (by omega) hroom31
        obtain ⟨A31, hA31⟩ : ∃ A1, A1 = (if c1_1 = (1 : Int).toNat then A1_1 else (A1_1 : Option Addr).map (·.add ((1 : Int).toNat * 1))) := ⟨_, rfl⟩
        obtain ⟨c31, hc31⟩ : ∃ c1, c1 = c1_1 - (1 : Int).toNat := ⟨_, rfl⟩
        have hy31 : y393.length = l1_1.length - (1 : Int).toNat := (by rw [Ny393.out, List.length_drop] <;> omega)
        rw [show (l1_1).drop (1 : Int).toNat = y393 from Ny393.out.symm] at hr31
        replace hr31 : Kd.F (Kd.int .i64) _ _ A31 y393.length y393 := (by rw [hA31]; exact hr31)
        rw [← hy31, ← hA31, ← hc31] at hcut31
        have HO397 := Aside0.mk (show Kd.V (Kd.int .i64) 3 _ w.heap.size _ (.slice A31 y393.length c31) y393 from Kd.V_mk (by rw [hy31, hc31]; exact Nat.sub_le_sub_right hroom31 _) hr31)
        have HC397 := Aside0.mk (show y393.length ≤ c31 from by rw [hy31, hc31]; exact Nat.sub_le_sub_right hroom31 _)
        clear hr31 hC31 hroom31 hi031 hsz31 hc31
        have KY31 := Aside0.mk hy31
        have KA31 := Aside0.mk hA31
        clear hy31 hA31
        replace q31 := eq_true q31
        refine start_ (n := 10) (S := fun w' => w'.cell? ⟨gb387, 0, none⟩ = some (.int .i64 a1_0) ∧ w'.cell? ⟨gb387, 1, none⟩ = some (.slice A1_1 l1_1.length c1_1)) (ds := []) #[ff,ff,ff,ff,ff,ff,ff,ff,ff,ff] (by kernel_rfl) rfl rfl ⟨(blk_cell BK387.out 0).trans rfl, (blk_cell BK387.out 1).trans rfl⟩ (fun hHeld => ?_); refine with_tabW taquinref22_Did.tab3 taquinref22_Did.bits3 (fun HT_ HW_ => ?_)
        generalize wc.drew = w30 at HO_388001 BK386 BK387 BK388 HB HO397 hHeld ⊢
        refine pure_ (i := 0) (N := some 26) (v := ?_) (a' := ?_) #[tt,ff,ff,ff,ff,ff,ff,ff,ff,ff] rfl rfl (any_of HT_.out (by kernel_rfl)) (fun _ _ _ h => h) (Or.inl ⟨by rfl, ?_⟩) ?_ ?_
        rotate_left
        ·intro w'
         go_simp
         with_reducible rfl
        rotate_left
        ·simp only [Act.put, List.setIfInBounds_toArray, List.set_cons_zero, List.set_cons_succ, i64_w, i32_w]
         rfl
        refine pure_ (i := 3) (N := some 29) (v := ?_) (a' := ?_) #[tt,ff,ff,tt,ff,ff,ff,ff,ff,ff] rfl rfl (any_of HT_.out (by kernel_rfl)) (fun _ _ _ h => h) (Or.inl ⟨by rfl, ?_⟩) ?_ ?_
        rotate_left
        ·intro w'
         go_simp
         with_reducible rfl
        rotate_left
        ·simp only [Act.put, List.setIfInBounds_toArray, List.set_cons_zero, List.set_cons_succ, i64_w, i32_w]
         rfl
        refine take_ (i := 1) (N := some 27) (v := ?_) (a' := ?_) #[tt,tt,ff,tt,ff,ff,ff,ff,ff,ff] rfl rfl (take_ofW HT_.out HW_.out (by kernel_rfl)) (fun _ _ _ h => h) (Or.inl ⟨by rfl, ?_⟩) hHeld ?_ ?_
        rotate_left
        ·rintro w' ⟨s0, s1⟩
         go_simp
         with_reducible rfl
        rotate_left
        ·simp only [Act.put, List.setIfInBounds_toArray, List.set_cons_zero, List.set_cons_succ, i64_w, i32_w]
         rfl
        refine take_ (i := 4) (N := some 30) (v := ?_) (a' := ?_) #[tt,tt,ff,tt,tt,ff,ff,ff,ff,ff] rfl rfl (take_ofW HT_.out HW_.out (by kernel_rfl)) (fun _ _ _ h => h) (Or.inl ⟨by rfl, ?_⟩) hHeld ?_ ?_
        rotate_left
        ·rintro w' ⟨s0, s1⟩
         go_simp
         with_reducible rfl
        rotate_left
        ·simp only [Act.put, List.setIfInBounds_toArray, List.set_cons_zero, List.set_cons_succ, i64_w, i32_w]
         rfl
        refine pure_ (i := 5) (N := some 31) (v := ?_) (a' := ?_) #[tt,tt,ff,tt,tt,tt,ff,ff,ff,ff] rfl rfl (any_of HT_.out (by kernel_rfl)) (fun _ _ _ h => h) (Or.inl ⟨by rfl, ?_⟩) ?_ ?_
        rotate_left
        ·intro w'
         go_simp
         with_reducible rfl
        rotate_left
        ·simp only [Act.put, List.setIfInBounds_toArray, List.set_cons_zero, List.set_cons_succ, i64_w, i32_w]
         rfl
        refine join_ (σ := Value × Value × Nat) 1 #[tt,tt,tt,tt,tt,tt,tt,tt,tt,ff] (fun s_ => [(28, s_.1), (32, s_.2.1), (9, .pointer (some ⟨s_.2.2, 0, none⟩)), (33, .agg #[.int .i64 a1_0, s_.2.1])]) (fun s_ w' => (w'.cell? ⟨gb387, 0, none⟩ = some (.int .i64 a1_0) ∧ w'.cell? ⟨gb387, 1, none⟩ = some (.slice A1_1 l1_1.length c1_1)) ∧ (Kd.V (Kd.int .i64) 3 w' w.heap.size (fun k_ => (P1_1_ k_ ∨ w.heap.size ≤ k_) ∧ some k_ ≠ (s_.2.1 : Value).ownBlock ∧ k_ ≠ gb386 ∧ k_ ≠ gb387 ∧ k_ ≠ gb388 ∧ k_ ≠ s_.2.2) (.slice A31 y393.length c31) y393) ∧ (Kd.R (Kd.int .i64) 3 w' w.heap.size (fun k_ => (w.heap.size ≤ k_)) s_.2.1 y398) ∧ (Kd.V (Kd.int .i64) 3 w' w.heap.size (fun k_ => (P1_1_ k_ ∨ w.heap.size ≤ k_) ∧ some k_ ≠ (s_.2.1 : Value).ownBlock ∧ k_ ≠ gb386 ∧ k_ ≠ gb387 ∧ k_ ≠ gb388 ∧ k_ ≠ s_.2.2) (.slice A1_1 l1_1.length c1_1) l1_1) ∧ (w'.heap[gb386]? = some (.cells #[.int .i64 a0_0, .int .i64 a0_1, .int .i64 a0_2, .slice A0_3 l0_3.length c0_3, .slice A0_4 l0_4.length c0_4] 24 (0, 0))) ∧ (w'.heap[gb387]? = some (.cells #[.int .i64 a1_0, .slice A1_1 l1_1.length c1_1] 26 (0, 0))) ∧ (w'.heap[gb388]? = some (.cells #[.int .i64 0, .slice none 0 0] 26 (0, 0))) ∧ (w'.heap[s_.2.2]? = some (.cells #[.int .i64 0, .slice none 0 0] 26 (0, 0))) ∧ (w.heap.size ≤ s_.2.2) ∧ (w.heap.size ≤ s_.2.2) ∧ (gb386 ≠ s_.2.2) ∧ (s_.2.2 ≠ gb386) ∧ (gb387 ≠ s_.2.2) ∧ (s_.2.2 ≠ gb387) ∧ (gb388 ≠ s_.2.2) ∧ (s_.2.2 ≠ gb388) ∧ (Below w.heap.size w w')) ?_ ?_
        rotate_left
        ·intro hCont
         refine two_ (i := 2) (j := 8) (Ni := some 28) (Nj := some 9) #[tt,tt,tt,tt,tt,tt,ff,ff,ff,ff] #[tt,tt,ff,tt,tt,tt,ff,ff,tt,ff] rfl rfl rfl rfl (two_of HT_.out (by kernel_rfl)) (by decide) (by decide) (fun K hK => ?_) (fun K hK => ?_)
         ·skip
          refine Kd.R_lit_step (Kd.int .i64) _ 3 ?hg (N := 28) ?hd (xs := ([] : List Int)) (inner := []) (ok := fun _ => True) (okp := fun _ => True) ?hr ?hp (fun _ hk => hk) trivial (Below.refl _ _) (Nat.le_refl _) (by simp) ?_; (case hd => rfl); (case hg => rfl); (case hr => first | (go_simp; done) | (go_simp; rfl)); (case hp => exact (Reps.none _ _))
          intro v391 w32 ho33 hb hg_ hnew_
          clear hg_ hnew_
          (first | rw [← Ny390.out] at ho33 | (simp only [Int.reduceToNat] at ho33; rw [← Ny390.out] at ho33))
          replace HO_388001 := Aside0.mk (Kd.V_elder' HO_388001.out (Kd.R_base ho33) hb)
          replace HO397 := Aside0.mk (Kd.V_elder' HO397.out (Kd.R_base ho33) hb)
          have HO392 := Aside0.mk (Kd.R_lower (Kd.R_newM (M := fun k_ => (w.heap.size ≤ k_)) ho33 (below_size HB.out) (fun k_ h_ => h_)) (below_size HB.out))
          replace BK386 := Aside0.mk (blk_below BK386.out hb)
          replace BK387 := Aside0.mk (blk_below BK387.out hb)
          replace BK388 := Aside0.mk (blk_below BK388.out hb)
          replace HB := Aside0.mk (below_step HB.out hb)
          clear hb ho33
          refine hK.out _ _ ⟨(blk_cell BK387.out 0).trans rfl, (blk_cell BK387.out 1).trans rfl⟩ (fun hHeld => ?_)
          clear hK K
          refine norm_ (a' := ?_) ?_ ?_
          rotate_left
          ·show Act.put _ (some 28) _ = _
           simp only [Act.put, List.setIfInBounds_toArray, List.set_cons_zero, List.set_cons_succ, i64_w, i32_w]
           rfl
          refine two_ (i := 6) (j := 8) (Ni := some 32) (Nj := some 9) #[tt,tt,tt,tt,tt,tt,tt,ff,ff,ff] #[tt,tt,tt,tt,tt,tt,ff,ff,tt,ff] rfl rfl rfl rfl (two_of HT_.out (by kernel_rfl)) (by decide) (by decide) (fun K hK => ?_) (fun K hK => ?_)
          ·skip
           refine Kd.R_append_rows_step (Kd.int .i64) (w0 := w) w.heap.size (by rfl) (.tmp 28) (.tmp 31) 22 3 (.int .i64 0) 8 rfl Tryz.underlying22 info3 rfl (by decide) (by omega) v391 y390 y393 _ _ _ (fun k_ => (w.heap.size ≤ k_)) (fun _ => False) rfl rfl ?aO ?aR (fun _ _ h => h) (fun _ h => h.elim) ?aF ?aB ?aS ?aL ?_
           (case aR => repeat (first | exact (Kd.V_reads' HO397.out).2.2 | (with_reducible refine Kd.C_alloc ?_ _) | (with_reducible refine Kd.C_drewN ?_ _) | (with_reducible refine Kd.C_drew ?_)))
           (case aB => exact HB.out)
           (case aF => exact (fun k_ hk => (Nat.le_trans (below_size HB.out) hk)))
           (case aO => exact (by (with_reducible repeat (first | apply Kd.R_alloc | apply Kd.R_drewN | apply Kd.R_drew)); exact Kd.R_mono HO392.out (fun _ hk => hk.1)))
           (case aS => exact (below_size HB.out))
           (case aL => have := LMc26.out; omega)
           intro v399 w34 ho hb hg hat
           rw [← Ny398.out] at ho
           replace HO_388001 := Aside0.mk (Kd.V_afterv (ok := (fun k_ => (P1_1_ k_ ∨ w.heap.size ≤ k_) ∧ k_ ≠ gb386 ∧ k_ ≠ gb387 ∧ k_ ≠ gb388)) HO_388001.out hg hat)
           replace BK386 := Aside0.mk (blk_grown BK386.out hg (Kd.R_ne HO392.out BK386.out (by decide)))
           replace BK387 := Aside0.mk (blk_grown BK387.out hg (Kd.R_ne HO392.out BK387.out (by decide)))
           replace BK388 := Aside0.mk (blk_grown BK388.out hg (Kd.R_ne HO392.out BK388.out (by decide)))
           replace HO397 := Aside0.mk (Kd.V_afterv (ok := (fun k_ => (P1_1_ k_ ∨ w.heap.size ≤ k_) ∧ k_ ≠ gb386 ∧ k_ ≠ gb387 ∧ k_ ≠ gb388)) HO397.out hg hat)
           replace HB := Aside0.mk (hb)
           have HO400 := Aside0.mk (ho)
           clear HO392
           clear ho hb hg hat
           obtain ⟨Ao35, co35, eo35⟩ := Kd.R_slice HO400.out
           (first | subst eo35 | (injection eo35 with f1_ f2_ f3_; have f4_ := f1_.symm; have f5_ := f3_.symm; clear f1_ f2_ f3_; subst f4_; subst f5_))
           refine hK.out _ _ ⟨(blk_cell BK387.out 0).trans rfl, (blk_cell BK387.out 1).trans rfl⟩ (fun hHeld => ?_)
           clear hK K
           refine norm_ (a' := ?_) ?_ ?_
           rotate_left
           ·show Act.put _ (some 32) _ = _
            simp only [Act.put, List.setIfInBounds_toArray, List.set_cons_zero, List.set_cons_succ, i64_w, i32_w]
            rfl
           refine pure_ (i := 7) (N := some 33) (v := ?_) (a' := ?_) #[tt,tt,tt,tt,tt,tt,tt,tt,ff,ff] rfl rfl (any_of HT_.out (by kernel_rfl)) (fun _ _ _ h => h) (Or.inl ⟨by rfl, ?_⟩) ?_ ?_
           rotate_left
           ·intro w'
            go_simp
            with_reducible rfl
           rotate_left
           ·simp only [Act.put, List.setIfInBounds_toArray, List.set_cons_zero, List.set_cons_succ, i64_w, i32_w]
            rfl
           refine one_ (i := 8) (N := some 9) #[tt,tt,tt,tt,tt,tt,tt,tt,tt,ff] rfl rfl (one_of HT_.out (by kernel_rfl)) (by decide) (fun K hK => ?_)
           refine box_step ?hg (N := 9) ?hd (cs := #[.int .i64 0, .slice none 0 0]) (t := 26) ?hr ?_; (case hd => rfl); (case hg => rfl); (case hr => first | (go_simp; done) | (go_simp; rfl))
           intro gb401 hg w36 hbox hb
           replace HO_388001 := Aside0.mk (Kd.V_below (Kd.V_elderB HO_388001.out gb401 (Nat.le_of_eq hg.symm)) hb)
           replace HO397 := Aside0.mk (Kd.V_below (Kd.V_elderB HO397.out gb401 (Nat.le_of_eq hg.symm)) hb)
           replace HO400 := Aside0.mk (Kd.R_below HO400.out hb)
           have BK401 := Aside0.mk (hbox)
           have GW401 := Aside0.mk ((by rw [hg]; exact (below_size HB.out) : w.heap.size ≤ gb401))
           have GE401 := Aside0.mk ((by rw [hg]; exact (below_size HB.out) : w.heap.size ≤ gb401))
           replace HB := Aside0.mk (below_step HB.out hb)
           have NB386_401 := Aside0.mk ((by rw [hg]; exact Nat.ne_of_lt (blk_lt BK386.out) : gb386 ≠ gb401))
           have NB401_386 := Aside0.mk ((by rw [hg]; exact Nat.ne_of_gt (blk_lt BK386.out) : gb401 ≠ gb386))
           replace BK386 := Aside0.mk (blk_below BK386.out hb)
           have NB387_401 := Aside0.mk ((by rw [hg]; exact Nat.ne_of_lt (blk_lt BK387.out) : gb387 ≠ gb401))
           have NB401_387 := Aside0.mk ((by rw [hg]; exact Nat.ne_of_gt (blk_lt BK387.out) : gb401 ≠ gb387))
           replace BK387 := Aside0.mk (blk_below BK387.out hb)
           have NB388_401 := Aside0.mk ((by rw [hg]; exact Nat.ne_of_lt (blk_lt BK388.out) : gb388 ≠ gb401))
           have NB401_388 := Aside0.mk ((by rw [hg]; exact Nat.ne_of_gt (blk_lt BK388.out) : gb401 ≠ gb388))
           replace BK388 := Aside0.mk (blk_below BK388.out hb)
           clear hb hbox hg
           refine hK.out _ _ ⟨(blk_cell BK387.out 0).trans rfl, (blk_cell BK387.out 1).trans rfl⟩ (fun hHeld => ?_)
           clear hK K
           refine norm_ (a' := ?_) ?_ ?_
           rotate_left
           ·show Act.put _ (some 9) _ = _
            simp only [Act.put, List.setIfInBounds_toArray, List.set_cons_zero, List.set_cons_succ, i64_w, i32_w]
            rfl
           exact norm_ (by simp only [putAll, Act.put, List.setIfInBounds_toArray, List.set_cons_zero, List.set_cons_succ]) (hCont (v391, .slice Ao35 y398.length co35, gb401) _ ⟨hHeld, (by (with_reducible repeat (first | apply Kd.V_alloc | apply Kd.V_drewN | apply Kd.V_drew)); exact Kd.V_mono HO397.out (fun _ hk => ⟨hk.1.1.1, ⟨hk.1.2, ⟨hk.1.1.2.1, ⟨hk.1.1.2.2.1, ⟨hk.1.1.2.2.2, hk.2⟩⟩⟩⟩⟩)), HO400.out, (by (with_reducible repeat (first | apply Kd.V_alloc | apply Kd.V_drewN | apply Kd.V_drew)); exact Kd.V_mono HO_388001.out (fun _ hk => ⟨hk.1.1.1, ⟨hk.1.2, ⟨hk.1.1.2.1, ⟨hk.1.1.2.2.1, ⟨hk.1.1.2.2.2, hk.2⟩⟩⟩⟩⟩)), BK386.out, BK387.out, BK388.out, BK401.out, GW401.out, GE401.out, NB386_401.out, NB401_386.out, NB387_401.out, NB401_387.out, NB388_401.out, NB401_388.out, HB.out⟩)
          ·skip
           refine box_step ?hg (N := 9) ?hd (cs := #[.int .i64 0, .slice none 0 0]) (t := 26) ?hr ?_; (case hd => rfl); (case hg => rfl); (case hr => first | (go_simp; done) | (go_simp; rfl))
           intro gb401 hg w34 hbox hb
           replace HO_388001 := Aside0.mk (Kd.V_below (Kd.V_elderB HO_388001.out gb401 (Nat.le_of_eq hg.symm)) hb)
           replace HO397 := Aside0.mk (Kd.V_below (Kd.V_elderB HO397.out gb401 (Nat.le_of_eq hg.symm)) hb)
           replace HO392 := Aside0.mk (Kd.R_below HO392.out hb)
           have BK401 := Aside0.mk (hbox)
           have GW401 := Aside0.mk ((by rw [hg]; exact (below_size HB.out) : w.heap.size ≤ gb401))
           have GE401 := Aside0.mk ((by rw [hg]; exact (below_size HB.out) : w.heap.size ≤ gb401))
           replace HB := Aside0.mk (below_step HB.out hb)
           have NB386_401 := Aside0.mk ((by rw [hg]; exact Nat.ne_of_lt (blk_lt BK386.out) : gb386 ≠ gb401))
           have NB401_386 := Aside0.mk ((by rw [hg]; exact Nat.ne_of_gt (blk_lt BK386.out) : gb401 ≠ gb386))
           replace BK386 := Aside0.mk (blk_below BK386.out hb)
           have NB387_401 := Aside0.mk ((by rw [hg]; exact Nat.ne_of_lt (blk_lt BK387.out) : gb387 ≠ gb401))
           have NB401_387 := Aside0.mk ((by rw [hg]; exact Nat.ne_of_gt (blk_lt BK387.out) : gb401 ≠ gb387))
           replace BK387 := Aside0.mk (blk_below BK387.out hb)
           have NB388_401 := Aside0.mk ((by rw [hg]; exact Nat.ne_of_lt (blk_lt BK388.out) : gb388 ≠ gb401))
           have NB401_388 := Aside0.mk ((by rw [hg]; exact Nat.ne_of_gt (blk_lt BK388.out) : gb401 ≠ gb388))
           replace BK388 := Aside0.mk (blk_below BK388.out hb)
           clear hb hbox hg
           refine hK.out _ _ ⟨(blk_cell BK387.out 0).trans rfl, (blk_cell BK387.out 1).trans rfl⟩ (fun hHeld => ?_)
           clear hK K
           refine norm_ (a' := ?_) ?_ ?_
           rotate_left
           ·show Act.put _ (some 9) _ = _
            simp only [Act.put, List.setIfInBounds_toArray, List.set_cons_zero, List.set_cons_succ, i64_w, i32_w]
            rfl
           refine one_ (i := 6) (N := some 32) #[tt,tt,tt,tt,tt,tt,tt,ff,tt,ff] rfl rfl (one_of HT_.out (by kernel_rfl)) (by decide) (fun K hK => ?_)
           refine Kd.R_append_rows_step (Kd.int .i64) (w0 := w) w.heap.size (by rfl) (.tmp 28) (.tmp 31) 22 3 (.int .i64 0) 8 rfl Tryz.underlying22 info3 rfl (by decide) (by omega) v391 y390 y393 _ _ _ (fun k_ => (w.heap.size ≤ k_)) (fun _ => False) rfl rfl ?aO ?aR (fun _ _ h => h) (fun _ h => h.elim) ?aF ?aB ?aS ?aL ?_
           (case aR => repeat (first | exact (Kd.V_reads' HO397.out).2.2 | (with_reducible refine Kd.C_alloc ?_ _) | (with_reducible refine Kd.C_drewN ?_ _) | (with_reducible refine Kd.C_drew ?_)))
           (case aB => exact HB.out)
           (case aF => exact (fun k_ hk => (Nat.le_trans (below_size HB.out) hk)))
           (case aO => exact (by (with_reducible repeat (first | apply Kd.R_alloc | apply Kd.R_drewN | apply Kd.R_drew)); exact Kd.R_mono HO392.out (fun _ hk => hk.1)))
           (case aS => exact (below_size HB.out))
           (case aL => have := LMc26.out; omega)
           intro v399 w35 ho hb hg hat
           rw [← Ny398.out] at ho
           replace HO_388001 := Aside0.mk (Kd.V_afterv (ok := (fun k_ => (P1_1_ k_ ∨ w.heap.size ≤ k_) ∧ k_ ≠ gb386 ∧ k_ ≠ gb387 ∧ k_ ≠ gb388 ∧ k_ ≠ gb401)) (by (with_reducible repeat (first | apply Kd.V_alloc | apply Kd.V_drewN | apply Kd.V_drew)); exact Kd.V_mono HO_388001.out (fun _ hk => ⟨⟨hk.1.1.1, ⟨hk.1.1.2.1, ⟨hk.1.1.2.2.1, ⟨hk.1.1.2.2.2, hk.2⟩⟩⟩⟩, hk.1.2⟩)) hg hat)
           replace BK386 := Aside0.mk (blk_grown BK386.out hg (Kd.R_ne HO392.out BK386.out (by decide)))
           replace BK387 := Aside0.mk (blk_grown BK387.out hg (Kd.R_ne HO392.out BK387.out (by decide)))
           replace BK388 := Aside0.mk (blk_grown BK388.out hg (Kd.R_ne HO392.out BK388.out (by decide)))
           replace HO397 := Aside0.mk (Kd.V_afterv (ok := (fun k_ => (P1_1_ k_ ∨ w.heap.size ≤ k_) ∧ k_ ≠ gb386 ∧ k_ ≠ gb387 ∧ k_ ≠ gb388 ∧ k_ ≠ gb401)) (by (with_reducible repeat (first | apply Kd.V_alloc | apply Kd.V_drewN | apply Kd.V_drew)); exact Kd.V_mono HO397.out (fun _ hk => ⟨⟨hk.1.1.1, ⟨hk.1.1.2.1, ⟨hk.1.1.2.2.1, ⟨hk.1.1.2.2.2, hk.2⟩⟩⟩⟩, hk.1.2⟩)) hg hat)
           replace BK401 := Aside0.mk (blk_grown BK401.out hg (Kd.R_ne HO392.out BK401.out (by decide)))
           replace HB := Aside0.mk (hb)
           have HO400 := Aside0.mk (ho)
           clear HO392
           clear ho hb hg hat
           obtain ⟨Ao36, co36, eo36⟩ := Kd.R_slice HO400.out
           (first | subst eo36 | (injection eo36 with f1_ f2_ f3_; have f4_ := f1_.symm; have f5_ := f3_.symm; clear f1_ f2_ f3_; subst f4_; subst f5_))
           refine hK.out _ _ ⟨(blk_cell BK387.out 0).trans rfl, (blk_cell BK387.out 1).trans rfl⟩ (fun hHeld => ?_)
           clear hK K
           refine norm_ (a' := ?_) ?_ ?_
           rotate_left
           ·show Act.put _ (some 32) _ = _
            simp only [Act.put, List.setIfInBounds_toArray, List.set_cons_zero, List.set_cons_succ, i64_w, i32_w]
            rfl
           refine pure_ (i := 7) (N := some 33) (v := ?_) (a' := ?_) #[tt,tt,tt,tt,tt,tt,tt,tt,tt,ff] rfl rfl (any_of HT_.out (by kernel_rfl)) (fun _ _ _ h => h) (Or.inl ⟨by rfl, ?_⟩) ?_ ?_
           rotate_left
           ·intro w'
            go_simp
            with_reducible rfl
           rotate_left
           ·simp only [Act.put, List.setIfInBounds_toArray, List.set_cons_zero, List.set_cons_succ, i64_w, i32_w]
            rfl
           exact norm_ (by simp only [putAll, Act.put, List.setIfInBounds_toArray, List.set_cons_zero, List.set_cons_succ]) (hCont (v391, .slice Ao36 y398.length co36, gb401) _ ⟨hHeld, (by (with_reducible repeat (first | apply Kd.V_alloc | apply Kd.V_drewN | apply Kd.V_drew)); exact Kd.V_mono HO397.out (fun _ hk => ⟨hk.1.1, ⟨hk.2, ⟨hk.1.2.1, ⟨hk.1.2.2.1, ⟨hk.1.2.2.2.1, hk.1.2.2.2.2⟩⟩⟩⟩⟩)), HO400.out, (by (with_reducible repeat (first | apply Kd.V_alloc | apply Kd.V_drewN | apply Kd.V_drew)); exact Kd.V_mono HO_388001.out (fun _ hk => ⟨hk.1.1, ⟨hk.2, ⟨hk.1.2.1, ⟨hk.1.2.2.1, ⟨hk.1.2.2.2.1, hk.1.2.2.2.2⟩⟩⟩⟩⟩)), BK386.out, BK387.out, BK388.out, BK401.out, GW401.out, GE401.out, NB386_401.out, NB401_386.out, NB387_401.out, NB401_387.out, NB388_401.out, NB401_388.out, HB.out⟩)
         ·skip
          refine box_step ?hg (N := 9) ?hd (cs := #[.int .i64 0, .slice none 0 0]) (t := 26) ?hr ?_; (case hd => rfl); (case hg => rfl); (case hr => first | (go_simp; done) | (go_simp; rfl))
          intro gb401 hg w32 hbox hb
          replace HO_388001 := Aside0.mk (Kd.V_below (Kd.V_elderB HO_388001.out gb401 (Nat.le_of_eq hg.symm)) hb)
          replace HO397 := Aside0.mk (Kd.V_below (Kd.V_elderB HO397.out gb401 (Nat.le_of_eq hg.symm)) hb)
          have BK401 := Aside0.mk (hbox)
          have GW401 := Aside0.mk ((by rw [hg]; exact (below_size HB.out) : w.heap.size ≤ gb401))
          have GE401 := Aside0.mk ((by rw [hg]; exact (below_size HB.out) : w.heap.size ≤ gb401))
          replace HB := Aside0.mk (below_step HB.out hb)
          have NB386_401 := Aside0.mk ((by rw [hg]; exact Nat.ne_of_lt (blk_lt BK386.out) : gb386 ≠ gb401))
          have NB401_386 := Aside0.mk ((by rw [hg]; exact Nat.ne_of_gt (blk_lt BK386.out) : gb401 ≠ gb386))
          replace BK386 := Aside0.mk (blk_below BK386.out hb)
          have NB387_401 := Aside0.mk ((by rw [hg]; exact Nat.ne_of_lt (blk_lt BK387.out) : gb387 ≠ gb401))
          have NB401_387 := Aside0.mk ((by rw [hg]; exact Nat.ne_of_gt (blk_lt BK387.out) : gb401 ≠ gb387))
          replace BK387 := Aside0.mk (blk_below BK387.out hb)
          have NB388_401 := Aside0.mk ((by rw [hg]; exact Nat.ne_of_lt (blk_lt BK388.out) : gb388 ≠ gb401))
          have NB401_388 := Aside0.mk ((by rw [hg]; exact Nat.ne_of_gt (blk_lt BK388.out) : gb401 ≠ gb388))
          replace BK388 := Aside0.mk (blk_below BK388.out hb)
          clear hb hbox hg
          refine hK.out _ _ ⟨(blk_cell BK387.out 0).trans rfl, (blk_cell BK387.out 1).trans rfl⟩ (fun hHeld => ?_)
          clear hK K
          refine norm_ (a' := ?_) ?_ ?_
          rotate_left
          ·show Act.put _ (some 9) _ = _
           simp only [Act.put, List.setIfInBounds_toArray, List.set_cons_zero, List.set_cons_succ, i64_w, i32_w]
           rfl
          refine one_ (i := 2) (N := some 28) #[tt,tt,tt,tt,tt,tt,ff,ff,tt,ff] rfl rfl (one_of HT_.out (by kernel_rfl)) (by decide) (fun K hK => ?_)
          refine Kd.R_lit_step (Kd.int .i64) _ 3 ?hg (N := 28) ?hd (xs := ([] : List Int)) (inner := []) (ok := fun _ => True) (okp := fun _ => True) ?hr ?hp (fun _ hk => hk) trivial (Below.refl _ _) (Nat.le_refl _) (by simp) ?_; (case hd => rfl); (case hg => rfl); (case hr => first | (go_simp; done) | (go_simp; rfl)); (case hp => exact (Reps.none _ _))
          intro v391 w33 ho34 hb hg_ hnew_
          clear hg_ hnew_
          (first | rw [← Ny390.out] at ho34 | (simp only [Int.reduceToNat] at ho34; rw [← Ny390.out] at ho34))
          replace HO_388001 := Aside0.mk (Kd.V_elder' HO_388001.out (Kd.R_base ho34) hb)
          replace HO397 := Aside0.mk (Kd.V_elder' HO397.out (Kd.R_base ho34) hb)
          have HO392 := Aside0.mk (Kd.R_lower (Kd.R_newM (M := fun k_ => (w.heap.size ≤ k_)) ho34 (below_size HB.out) (fun k_ h_ => h_)) (below_size HB.out))
          replace BK386 := Aside0.mk (blk_below BK386.out hb)
          replace BK387 := Aside0.mk (blk_below BK387.out hb)
          replace BK388 := Aside0.mk (blk_below BK388.out hb)
          replace BK401 := Aside0.mk (blk_below BK401.out hb)
          replace HB := Aside0.mk (below_step HB.out hb)
          clear hb ho34
          refine hK.out _ _ ⟨(blk_cell BK387.out 0).trans rfl, (blk_cell BK387.out 1).trans rfl⟩ (fun hHeld => ?_)
          clear hK K
          refine norm_ (a' := ?_) ?_ ?_
          rotate_left
          ·show Act.put _ (some 28) _ = _
           simp only [Act.put, List.setIfInBounds_toArray, List.set_cons_zero, List.set_cons_succ, i64_w, i32_w]
           rfl
          refine one_ (i := 6) (N := some 32) #[tt,tt,tt,tt,tt,tt,tt,ff,tt,ff] rfl rfl (one_of HT_.out (by kernel_rfl)) (by decide) (fun K hK => ?_)
          refine Kd.R_append_rows_step (Kd.int .i64) (w0 := w) w.heap.size (by rfl) (.tmp 28) (.tmp 31) 22 3 (.int .i64 0) 8 rfl Tryz.underlying22 info3 rfl (by decide) (by omega) v391 y390 y393 _ _ _ (fun k_ => (w.heap.size ≤ k_)) (fun _ => False) rfl rfl ?aO ?aR (fun _ _ h => h) (fun _ h => h.elim) ?aF ?aB ?aS ?aL ?_
          (case aR => repeat (first | exact (Kd.V_reads' HO397.out).2.2 | (with_reducible refine Kd.C_alloc ?_ _) | (with_reducible refine Kd.C_drewN ?_ _) | (with_reducible refine Kd.C_drew ?_)))
          (case aB => exact HB.out)
          (case aF => exact (fun k_ hk => (Nat.le_trans (below_size HB.out) hk)))
          (case aO => exact (by (with_reducible repeat (first | apply Kd.R_alloc | apply Kd.R_drewN | apply Kd.R_drew)); exact Kd.R_mono HO392.out (fun _ hk => hk.1)))
          (case aS => exact (below_size HB.out))
          (case aL => have := LMc26.out; omega)
          intro v399 w35 ho hb hg hat
          rw [← Ny398.out] at ho
          replace HO_388001 := Aside0.mk (Kd.V_afterv (ok := (fun k_ => (P1_1_ k_ ∨ w.heap.size ≤ k_) ∧ k_ ≠ gb386 ∧ k_ ≠ gb387 ∧ k_ ≠ gb388 ∧ k_ ≠ gb401)) (by (with_reducible repeat (first | apply Kd.V_alloc | apply Kd.V_drewN | apply Kd.V_drew)); exact Kd.V_mono HO_388001.out (fun _ hk => ⟨⟨hk.1.1.1, ⟨hk.1.1.2.1, ⟨hk.1.1.2.2.1, ⟨hk.1.1.2.2.2, hk.1.2⟩⟩⟩⟩, hk.2⟩)) hg hat)
          replace BK386 := Aside0.mk (blk_grown BK386.out hg (Kd.R_ne HO392.out BK386.out (by decide)))
          replace BK387 := Aside0.mk (blk_grown BK387.out hg (Kd.R_ne HO392.out BK387.out (by decide)))
          replace BK388 := Aside0.mk (blk_grown BK388.out hg (Kd.R_ne HO392.out BK388.out (by decide)))
          replace HO397 := Aside0.mk (Kd.V_afterv (ok := (fun k_ => (P1_1_ k_ ∨ w.heap.size ≤ k_) ∧ k_ ≠ gb386 ∧ k_ ≠ gb387 ∧ k_ ≠ gb388 ∧ k_ ≠ gb401)) (by (with_reducible repeat (first | apply Kd.V_alloc | apply Kd.V_drewN | apply Kd.V_drew)); exact Kd.V_mono HO397.out (fun _ hk => ⟨⟨hk.1.1.1, ⟨hk.1.1.2.1, ⟨hk.1.1.2.2.1, ⟨hk.1.1.2.2.2, hk.1.2⟩⟩⟩⟩, hk.2⟩)) hg hat)
          replace BK401 := Aside0.mk (blk_grown BK401.out hg (Kd.R_ne HO392.out BK401.out (by decide)))
          replace HB := Aside0.mk (hb)
          have HO400 := Aside0.mk (ho)
          clear HO392
          clear ho hb hg hat
          obtain ⟨Ao36, co36, eo36⟩ := Kd.R_slice HO400.out
          (first | subst eo36 | (injection eo36 with f1_ f2_ f3_; have f4_ := f1_.symm; have f5_ := f3_.symm; clear f1_ f2_ f3_; subst f4_; subst f5_))
          refine hK.out _ _ ⟨(blk_cell BK387.out 0).trans rfl, (blk_cell BK387.out 1).trans rfl⟩ (fun hHeld => ?_)
          clear hK K
          refine norm_ (a' := ?_) ?_ ?_
          rotate_left
          ·show Act.put _ (some 32) _ = _
           simp only [Act.put, List.setIfInBounds_toArray, List.set_cons_zero, List.set_cons_succ, i64_w, i32_w]
           rfl
          refine pure_ (i := 7) (N := some 33) (v := ?_) (a' := ?_) #[tt,tt,tt,tt,tt,tt,tt,tt,tt,ff] rfl rfl (any_of HT_.out (by kernel_rfl)) (fun _ _ _ h => h) (Or.inl ⟨by rfl, ?_⟩) ?_ ?_
          rotate_left
          ·intro w'
           go_simp
           with_reducible rfl
          rotate_left
          ·simp only [Act.put, List.setIfInBounds_toArray, List.set_cons_zero, List.set_cons_succ, i64_w, i32_w]
           rfl
          exact norm_ (by simp only [putAll, Act.put, List.setIfInBounds_toArray, List.set_cons_zero, List.set_cons_succ]) (hCont (v391, .slice Ao36 y398.length co36, gb401) _ ⟨hHeld, (by (with_reducible repeat (first | apply Kd.V_alloc | apply Kd.V_drewN | apply Kd.V_drew)); exact Kd.V_mono HO397.out (fun _ hk => ⟨hk.1.1, ⟨hk.2, ⟨hk.1.2.1, ⟨hk.1.2.2.1, ⟨hk.1.2.2.2.1, hk.1.2.2.2.2⟩⟩⟩⟩⟩)), HO400.out, (by (with_reducible repeat (first | apply Kd.V_alloc | apply Kd.V_drewN | apply Kd.V_drew)); exact Kd.V_mono HO_388001.out (fun _ hk => ⟨hk.1.1, ⟨hk.2, ⟨hk.1.2.1, ⟨hk.1.2.2.1, ⟨hk.1.2.2.2.1, hk.1.2.2.2.2⟩⟩⟩⟩⟩)), BK386.out, BK387.out, BK388.out, BK401.out, GW401.out, GE401.out, NB386_401.out, NB401_386.out, NB387_401.out, NB401_387.out, NB388_401.out, NB401_388.out, HB.out⟩)
        rintro ⟨v391, v399, gb401⟩ w37 ⟨hS_, h0_, h1_, h2_, h3_, h4_, h5_, h6_, h7_, h8_, h9_, h10_, h11_, h12_, h13_, h14_, h15_⟩
        have n0_ : Aside0 (Kd.V (Kd.int .i64) 3 w37 w.heap.size (fun k_ => (P1_1_ k_ ∨ w.heap.size ≤ k_) ∧ some k_ ≠ (v399 : Value).ownBlock ∧ k_ ≠ gb386 ∧ k_ ≠ gb387 ∧ k_ ≠ gb388 ∧ k_ ≠ gb401) (.slice A31 y393.length c31) y393) := ⟨h0_⟩
        have n1_ : Aside0 (Kd.R (Kd.int .i64) 3 w37 w.heap.size (fun k_ => (w.heap.size ≤ k_)) v399 y398) := ⟨h1_⟩
        have n2_ : Aside0 (Kd.V (Kd.int .i64) 3 w37 w.heap.size (fun k_ => (P1_1_ k_ ∨ w.heap.size ≤ k_) ∧ some k_ ≠ (v399 : Value).ownBlock ∧ k_ ≠ gb386 ∧ k_ ≠ gb387 ∧ k_ ≠ gb388 ∧ k_ ≠ gb401) (.slice A1_1 l1_1.length c1_1) l1_1) := ⟨h2_⟩
        have n3_ : Aside0 (w37.heap[gb386]? = some (.cells #[.int .i64 a0_0, .int .i64 a0_1, .int .i64 a0_2, .slice A0_3 l0_3.length c0_3, .slice A0_4 l0_4.length c0_4] 24 (0, 0))) := ⟨h3_⟩
        have n4_ : Aside0 (w37.heap[gb387]? = some (.cells #[.int .i64 a1_0, .slice A1_1 l1_1.length c1_1] 26 (0, 0))) := ⟨h4_⟩
        have n5_ : Aside0 (w37.heap[gb388]? = some (.cells #[.int .i64 0, .slice none 0 0] 26 (0, 0))) := ⟨h5_⟩
        have n6_ : Aside0 (w37.heap[gb401]? = some (.cells #[.int .i64 0, .slice none 0 0] 26 (0, 0))) := ⟨h6_⟩
        have n7_ : Aside0 (w.heap.size ≤ gb401) := ⟨h7_⟩
        have n8_ : Aside0 (w.heap.size ≤ gb401) := ⟨h8_⟩
        have n9_ : Aside0 (gb386 ≠ gb401) := ⟨h9_⟩
        have n10_ : Aside0 (gb401 ≠ gb386) := ⟨h10_⟩
        have n11_ : Aside0 (gb387 ≠ gb401) := ⟨h11_⟩
        have n12_ : Aside0 (gb401 ≠ gb387) := ⟨h12_⟩
        have n13_ : Aside0 (gb388 ≠ gb401) := ⟨h13_⟩
        have n14_ : Aside0 (gb401 ≠ gb388) := ⟨h14_⟩
        have n15_ : Aside0 (Below w.heap.size w w37) := ⟨h15_⟩
        clear HO_388001
        clear BK386
        clear BK387
        clear BK388
        clear HB
        clear h0_ h1_ h2_ h3_ h4_ h5_ h6_ h7_ h8_ h9_ h10_ h11_ h12_ h13_ h14_ h15_
        have HO397 := n0_
        have HO400 := n1_
        have HO_388001 := n2_
        have BK386 := n3_
        have BK387 := n4_
        have BK388 := n5_
        have BK401 := n6_
        have GW401 := n7_
        have GE401 := n8_
        have NB386_401 := n9_
        have NB401_386 := n10_
        have NB387_401 := n11_
        have NB401_387 := n12_
        have NB388_401 := n13_
        have NB401_388 := n14_
        have HB := n15_
        clear n0_ n1_ n2_ n3_ n4_ n5_ n6_ n7_ n8_ n9_ n10_ n11_ n12_ n13_ n14_ n15_
        have hHeld : w37.cell? ⟨gb387, 0, none⟩ = some (.int .i64 a1_0) ∧ w37.cell? ⟨gb387, 1, none⟩ = some (.slice A1_1 l1_1.length c1_1) := hS_
        obtain ⟨Ao38, co38, eo38⟩ := Kd.R_slice HO400.out
        (first | subst eo38 | (injection eo38 with f1_ f2_ f3_; have f4_ := f1_.symm; have f5_ := f3_.symm; clear f1_ f2_ f3_; subst f4_; subst f5_))
        refine norm_ (a' := ?_) ?_ ?_
        rotate_left
        ·simp only [putAll, Act.put, List.setIfInBounds_toArray, List.set_cons_zero, List.set_cons_succ]
         rfl
        refine one_ (i := 9) (N := none) #[tt,tt,tt,tt,tt,tt,tt,tt,tt,tt] rfl rfl (one_of HT_.out (by kernel_rfl)) (by decide) (fun K hK => ?_)
        have hs39 : w37.cell? ⟨gb401, 0, none⟩ = some (.int .i64 0) := (blk_cell BK401.out 0).trans rfl
        have hfs39 := blk_frozen BK401.out 0
        have hns39_0 := NB386_401.out
        have hns39_1 := NB387_401.out
        have hns39_2 := NB388_401.out
        have hms39_0 := NB401_386.out
        have hms39_1 := NB401_387.out
        have hms39_2 := NB401_388.out
        have hs40 : w37.cell? ⟨gb401, 1, none⟩ = some (.slice none 0 0) := (blk_cell BK401.out 1).trans rfl
        have hfs40 := blk_frozen BK401.out 1
        have hns40_0 := NB386_401.out
        have hns40_1 := NB387_401.out
        have hns40_2 := NB388_401.out
        have hms40_0 := NB401_386.out
        have hms40_1 := NB401_387.out
        have hms40_2 := NB401_388.out
        refine skip_ (w1 := ?_) (by rfl) rfl ?_ ?_
        rotate_left
        ·go_simp
         rfl
        refine hK.out _ _ ⟨((cell_far (p := ⟨gb401, _, none⟩) NB387_401.out _).trans (((cell_far (p := ⟨gb401, _, none⟩) NB387_401.out _).trans (hHeld.1)))), ((cell_far (p := ⟨gb401, _, none⟩) NB387_401.out _).trans (((cell_far (p := ⟨gb401, _, none⟩) NB387_401.out _).trans (hHeld.2))))⟩ (fun hHeld => ?_)
        clear hK K
        refine done_ (done_of HT_.out (by kernel_rfl)) ?_
        have hnb41 := NB386_387.out
        have hnc41 := NB387_386.out
        have hnb42 := NB386_388.out
        have hnc42 := NB388_386.out
        have hnb43 := NB386_401.out
        have hnc43 := NB401_386.out
        have hcz44_0 : w37.cell? ⟨gb386, 0, none⟩ = some (.int .i64 a0_0) := (blk_cell BK386.out 0).trans rfl
        have hcz44_1 : w37.cell? ⟨gb386, 1, none⟩ = some (.int .i64 a0_1) := (blk_cell BK386.out 1).trans rfl
        have hcz44_2 : w37.cell? ⟨gb386, 2, none⟩ = some (.int .i64 a0_2) := (blk_cell BK386.out 2).trans rfl
        have hcz44_3 : w37.cell? ⟨gb386, 3, none⟩ = some (.slice A0_3 l0_3.length c0_3) := (blk_cell BK386.out 3).trans rfl
        have hcz44_4 : w37.cell? ⟨gb386, 4, none⟩ = some (.slice A0_4 l0_4.length c0_4) := (blk_cell BK386.out 4).trans rfl
        have hfz44_0 := blk_frozen BK386.out 0
        have hfz44_1 := blk_frozen BK386.out 1
        have hfz44_2 := blk_frozen BK386.out 2
        have hfz44_3 := blk_frozen BK386.out 3
        have hfz44_4 := blk_frozen BK386.out 4
        have hnb45 := NB387_388.out
        have hnc45 := NB388_387.out
        have hnb46 := NB387_401.out
        have hnc46 := NB401_387.out
        have hcz47_0 : w37.cell? ⟨gb387, 0, none⟩ = some (.int .i64 a1_0) := (blk_cell BK387.out 0).trans rfl
        have hcz47_1 : w37.cell? ⟨gb387, 1, none⟩ = some (.slice A1_1 l1_1.length c1_1) := (blk_cell BK387.out 1).trans rfl
        have hfz47_0 := blk_frozen BK387.out 0
        have hfz47_1 := blk_frozen BK387.out 1
        try go_wp2_with (first | ((with_reducible refine gate_callee (f := 38) rfl ?_); refine goesL_ (some 47) rfl rfl Tryz.func38 (by kernel_rfl) rfl #[.agg #[.int .i64 a0_0, .int .i64 a0_1, .int .i64 a0_2, .slice A0_3 l0_3.length c0_3, .slice A0_4 l0_4.length c0_4], .int .i64 a1_0, .int .i64 (wrap64 (a2 - 1))] rfl (by (try simp only [List.map_toArray, List.map_cons, List.map_nil]); first | done | rfl | (simp only [List.length_drop, List.length_take]; rfl)) ?_; (with_reducible refine (taquinref07_Next.calls kj4 a0_0 a0_1 a0_2 _ _ l0_3 _ _ l0_4 a1_0 (wrap64 (a2 - 1)) t402 t403 _ ?side1 ?side2 ?side3 ?side4 A29.out).mono ?_); (case side1 => exact Kd.C_below HR0_3.out (by repeat (first | (with_reducible first | exact HB.out | apply below_alloc | apply pw_below_drewN | apply below_drew1 | refine below_set ?_ GE386.out | refine below_set ?_ GE387.out | refine below_set ?_ GE388.out | refine below_set ?_ GE401.out) | exact HB.out))); (case side2 => exact HC0_3.out); (case side3 => exact Kd.C_below HR0_4.out (by repeat (first | (with_reducible first | exact HB.out | apply below_alloc | apply pw_below_drewN | apply below_drew1 | refine below_set ?_ GE386.out | refine below_set ?_ GE387.out | refine below_set ?_ GE388.out | refine below_set ?_ GE401.out) | exact HB.out))); (case side4 => exact HC0_4.out); rintro e w48 ⟨rfl, hb⟩; refine ⟨_, rfl, ?_⟩; have n0_ := Aside0.mk (Kd.V_below (by (with_reducible repeat (first | apply Kd.V_alloc | apply Kd.V_drewN | apply Kd.V_drew)); exact (Kd.V_mono (Kd.V_far (p := ⟨gb401, 1, none⟩) (Kd.V_far (p := ⟨gb401, 0, none⟩) (Kd.V_mono HO_388001.out (fun k_ hk => (⟨hk, hk.2.2.2.2.2⟩ : _ ∧ k_ ≠ gb401))) (fun _ hk => hk.2) (.int .i64 a1_0)) (fun _ hk => hk.2) (.slice Ao38 y398.length co38)) (fun _ h_ => h_.1))) hb); have n1_ := Aside0.mk (Kd.V_below (by (with_reducible repeat (first | apply Kd.V_alloc | apply Kd.V_drewN | apply Kd.V_drew)); exact (Kd.V_mono (Kd.V_far (p := ⟨gb401, 1, none⟩) (Kd.V_far (p := ⟨gb401, 0, none⟩) (Kd.V_mono HO397.out (fun k_ hk => (⟨hk, hk.2.2.2.2.2⟩ : _ ∧ k_ ≠ gb401))) (fun _ hk => hk.2) (.int .i64 a1_0)) (fun _ hk => hk.2) (.slice Ao38 y398.length co38)) (fun _ h_ => h_.1))) hb); have n2_ := Aside0.mk (Kd.R_below (by (with_reducible repeat (first | apply Kd.R_alloc | apply Kd.R_drewN | apply Kd.R_drew)); exact (Kd.R_mono (Kd.R_far (p := ⟨gb401, 1, none⟩) (Kd.R_far (p := ⟨gb401, 0, none⟩) (Kd.R_types HO400.out BK401.out (by decide)) (fun _ hk => hk.2) (.int .i64 a1_0)) (fun _ hk => hk.2) (.slice Ao38 y398.length co38)) (fun _ h_ => h_.1))) hb); have n3_ := Aside0.mk (blk_below (g := gb386) (o := .cells #[.int .i64 a0_0, .int .i64 a0_1, .int .i64 a0_2, .slice A0_3 l0_3.length c0_3, .slice A0_4 l0_4.length c0_4] 24 (0, 0)) (by (with_reducible repeat (first | refine blk_drewN ?_ _ | refine blk_drew ?_ | refine blk_alloc ?_ _)); refine blk_far ?_ NB386_401.out _; (with_reducible repeat (first | refine blk_drewN ?_ _ | refine blk_drew ?_ | refine blk_alloc ?_ _)); refine blk_far ?_ NB386_401.out _; (with_reducible repeat (first | refine blk_drewN ?_ _ | refine blk_drew ?_ | refine blk_alloc ?_ _)); exact BK386.out) hb); have n4_ := Aside0.mk (blk_below (g := gb387) (o := .cells #[.int .i64 a1_0, .slice A1_1 l1_1.length c1_1] 26 (0, 0)) (by (with_reducible repeat (first | refine blk_drewN ?_ _ | refine blk_drew ?_ | refine blk_alloc ?_ _)); refine blk_far ?_ NB387_401.out _; (with_reducible repeat (first | refine blk_drewN ?_ _ | refine blk_drew ?_ | refine blk_alloc ?_ _)); refine blk_far ?_ NB387_401.out _; (with_reducible repeat (first | refine blk_drewN ?_ _ | refine blk_drew ?_ | refine blk_alloc ?_ _)); exact BK387.out) hb); have n5_ := Aside0.mk (blk_below (g := gb388) (o := .cells #[.int .i64 0, .slice none 0 0] 26 (0, 0)) (by (with_reducible repeat (first | refine blk_drewN ?_ _ | refine blk_drew ?_ | refine blk_alloc ?_ _)); refine blk_far ?_ NB388_401.out _; (with_reducible repeat (first | refine blk_drewN ?_ _ | refine blk_drew ?_ | refine blk_alloc ?_ _)); refine blk_far ?_ NB388_401.out _; (with_reducible repeat (first | refine blk_drewN ?_ _ | refine blk_drew ?_ | refine blk_alloc ?_ _)); exact BK388.out) hb); have n6_ := Aside0.mk (blk_below (g := gb401) (o := .cells #[.int .i64 a1_0, .slice Ao38 y398.length co38] 26 (0, 0)) (by (with_reducible repeat (first | refine blk_drewN ?_ _ | refine blk_drew ?_ | refine blk_alloc ?_ _)); refine blk_put (cs := #[.int .i64 a1_0, .slice none 0 0]) ?_ 1 _ rfl; (with_reducible repeat (first | refine blk_drewN ?_ _ | refine blk_drew ?_ | refine blk_alloc ?_ _)); refine blk_put (cs := #[.int .i64 0, .slice none 0 0]) ?_ 0 _ rfl; (with_reducible repeat (first | refine blk_drewN ?_ _ | refine blk_drew ?_ | refine blk_alloc ?_ _)); exact BK401.out) hb); have n7_ := Aside0.mk (below_step (by repeat (first | (with_reducible first | exact HB.out | apply below_alloc | apply pw_below_drewN | apply below_drew1 | refine below_set ?_ GE386.out | refine below_set ?_ GE387.out | refine below_set ?_ GE388.out | refine below_set ?_ GE401.out) | exact HB.out)) hb); clear HO_388001; clear HO397; clear HO400; clear BK386; clear BK387; clear BK388; clear BK401; clear HB; have HO_388001 := n0_; have HO397 := n1_; have HO400 := n2_; have BK386 := n3_; have BK387 := n4_; have BK388 := n5_; have BK401 := n6_; have HB := n7_; clear n0_ n1_ n2_ n3_ n4_ n5_ n6_ n7_; (try clear hb); (try clear hb2); (try clear hk); (try clear hi); have hnb49 := NB401_388.out; have hnc49 := NB388_401.out; have hcz50_0 : w48.cell? ⟨gb401, 0, none⟩ = some (.int .i64 a1_0) := (blk_cell BK401.out 0).trans rfl; have hcz50_1 : w48.cell? ⟨gb401, 1, none⟩ = some (.slice Ao38 y398.length co38) := (blk_cell BK401.out 1).trans rfl; have hfz50_0 := blk_frozen BK401.out 0; have hfz50_1 := blk_frozen BK401.out 1; have hcz51_0 : w48.cell? ⟨gb388, 0, none⟩ = some (.int .i64 0) := (blk_cell BK388.out 0).trans rfl; have hcz51_1 : w48.cell? ⟨gb388, 1, none⟩ = some (.slice none 0 0) := (blk_cell BK388.out 1).trans rfl; have hfz51_0 := blk_frozen BK388.out 0; have hfz51_1 := blk_frozen BK388.out 1))
        refine bodyPost_ret (results_cell_row rfl _ _ gb388 26 #[.int .i64 t402, .slice Ao38 y398.length co38] (0, 0) _ rfl (by (with_reducible repeat (first | refine blk_drewN ?_ _ | refine blk_drew ?_ | refine blk_alloc ?_ _)); refine blk_put (cs := #[.int .i64 t402, .slice none 0 0]) ?_ 1 _ rfl; (with_reducible repeat (first | refine blk_drewN ?_ _ | refine blk_drew ?_ | refine blk_alloc ?_ _)); refine blk_put (cs := #[.int .i64 0, .slice none 0 0]) ?_ 0 _ rfl; (with_reducible repeat (first | refine blk_drewN ?_ _ | refine blk_drew ?_ | refine blk_alloc ?_ _)); refine blk_far ?_ NB388_401.out _; (with_reducible repeat (first | refine blk_drewN ?_ _ | refine blk_drew ?_ | refine blk_alloc ?_ _)); exact BK388.out) Tryz.underlying26 rfl (by kernel_rfl)) rfl ?_
        exact ⟨_, by first | rfl | (simp [errW_none, errW_some] <;> rfl) | (simp [*, errW_none, errW_some] <;> rfl), Kd.V_mono (Kd.R_V (by (with_reducible repeat (first | apply Kd.R_alloc | apply Kd.R_drewN | apply Kd.R_drew)); exact Kd.R_mono (Kd.R_far (p := ⟨gb388, 1, none⟩) (Kd.R_far (p := ⟨gb388, 0, none⟩) (Kd.R_far (p := ⟨gb401, 0, none⟩) (Kd.R_types (Kd.R_types HO400.out BK401.out (by decide)) BK388.out (by decide)) (fun _ hk => hk.1.2) (.int .i64 t402)) (fun _ hk => hk.2) (.int .i64 t402)) (fun _ hk => hk.2) (.slice Ao38 y398.length co38)) (fun _ hk => hk.1.1))) (fun k_ hk => by first | exact ⟨(.inr (hk.1)), hk.2⟩ | exact (.inr (hk))), by repeat (first | (with_reducible first | exact HB.out | apply below_alloc | apply pw_below_drewN | apply below_drew1 | refine below_set ?_ GE386.out | refine below_set ?_ GE387.out | refine below_set ?_ GE388.out | refine below_set ?_ GE401.out) | exact HB.out)⟩
       ·rw [if_neg c28] at H
        have c28b0 : decide ((wrap64 (a2 - 1)) ≤ 5) = false := decide_eq_false c28
        clear c28
        simp only [Option.some.injEq, Prod.mk.injEq] at H
        obtain ⟨rfl, rfl⟩ := H
        try go_wp2
        replace HO_388001 := Aside0.mk (Kd.V_drew HO_388001.out)
        replace BK386 := Aside0.mk (blk_drew BK386.out)
        replace BK387 := Aside0.mk (blk_drew BK387.out)
        replace BK388 := Aside0.mk (blk_drew BK388.out)
        replace HB := Aside0.mk (below_drew1 HB.out)
        have q53 : (1 : Int) ≤ ((l1_1.length : Int) : Int) := of_decide_eq_true (by first | (with_reducible assumption) | assumption)
        obtain ⟨i053, hi053, _, hsz53, _⟩ := info_parts info3
        have hroom53 : l1_1.length ≤ c1_1 := (Kd.V_reads' HO_388001.out).2.1
        have hC53 : Kd.F (Kd.int .i64) _ _ A1_1 l1_1.length l1_1 := (Kd.V_at (base := w.heap.size) HO_388001.out).2.2
        have hcut53 := cut_from (P := Tryz.prog) 22 3 .i64 Tryz.underlying22 hi053 1 hsz53 A1_1 l1_1.length c1_1 1 (by omega) q53
        have hr53 := Kd.F_cut (m := (1 : Int).toNat) (c := c1_1) hC53 (by omega) hroom53
        obtain ⟨A53, hA53⟩ : ∃ A1, A1 = (if c1_1 = (1 : Int).toNat then A1_1 else (A1_1 : Option Addr).map (·.add ((1 : Int).toNat * 1))) := ⟨_, rfl⟩
        obtain ⟨c53, hc53⟩ : ∃ c1, c1 = c1_1 - (1 : Int).toNat := ⟨_, rfl⟩
        have hy53 : y393.length = l1_1.length - (1 : Int).toNat := (by rw [Ny393.out, List.length_drop] <;> omega)
        rw [show (l1_1).drop (1 : Int).toNat = y393 from Ny393.out.symm] at hr53
        replace hr53 : Kd.F (Kd.int .i64) _ _ A53 y393.length y393 := (by rw [hA53]; exact hr53)
        rw [← hy53, ← hA53, ← hc53] at hcut53
        have HO397 := Aside0.mk (show Kd.V (Kd.int .i64) 3 _ w.heap.size _ (.slice A53 y393.length c53) y393 from Kd.V_mk (by rw [hy53, hc53]; exact Nat.sub_le_sub_right hroom53 _) hr53)
        have HC397 := Aside0.mk (show y393.length ≤ c53 from by rw [hy53, hc53]; exact Nat.sub_le_sub_right hroom53 _)
        clear hr53 hC53 hroom53 hi053 hsz53 hc53
        have KY53 := Aside0.mk hy53
        have KA53 := Aside0.mk hA53
        clear hy53 hA53
        replace q53 := eq_true q53
        refine start_ (n := 10) (S := fun w' => w'.cell? ⟨gb387, 0, none⟩ = some (.int .i64 a1_0) ∧ w'.cell? ⟨gb387, 1, none⟩ = some (.slice A1_1 l1_1.length c1_1)) (ds := []) #[ff,ff,ff,ff,ff,ff,ff,ff,ff,ff] (by kernel_rfl) rfl rfl ⟨(blk_cell BK387.out 0).trans rfl, (blk_cell BK387.out 1).trans rfl⟩ (fun hHeld => ?_); refine with_tabW taquinref22_Did.tab3 taquinref22_Did.bits3 (fun HT_ HW_ => ?_)
        generalize wc.drew = w52 at HO_388001 BK386 BK387 BK388 HB HO397 hHeld ⊢
        refine pure_ (i := 0) (N := some 26) (v := ?_) (a' := ?_) #[tt,ff,ff,ff,ff,ff,ff,ff,ff,ff] rfl rfl (any_of HT_.out (by kernel_rfl)) (fun _ _ _ h => h) (Or.inl ⟨by rfl, ?_⟩) ?_ ?_
        rotate_left
        ·intro w'
         go_simp
         with_reducible rfl
        rotate_left
        ·simp only [Act.put, List.setIfInBounds_toArray, List.set_cons_zero, List.set_cons_succ, i64_w, i32_w]
         rfl
        refine pure_ (i := 3) (N := some 29) (v := ?_) (a' := ?_) #[tt,ff,ff,tt,ff,ff,ff,ff,ff,ff] rfl rfl (any_of HT_.out (by kernel_rfl)) (fun _ _ _ h => h) (Or.inl ⟨by rfl, ?_⟩) ?_ ?_
        rotate_left
        ·intro w'
         go_simp
         with_reducible rfl
        rotate_left
        ·simp only [Act.put, List.setIfInBounds_toArray, List.set_cons_zero, List.set_cons_succ, i64_w, i32_w]
         rfl
        refine take_ (i := 1) (N := some 27) (v := ?_) (a' := ?_) #[tt,tt,ff,tt,ff,ff,ff,ff,ff,ff] rfl rfl (take_ofW HT_.out HW_.out (by kernel_rfl)) (fun _ _ _ h => h) (Or.inl ⟨by rfl, ?_⟩) hHeld ?_ ?_
        rotate_left
        ·rintro w' ⟨s0, s1⟩
         go_simp
         with_reducible rfl
        rotate_left
        ·simp only [Act.put, List.setIfInBounds_toArray, List.set_cons_zero, List.set_cons_succ, i64_w, i32_w]
         rfl
        refine take_ (i := 4) (N := some 30) (v := ?_) (a' := ?_) #[tt,tt,ff,tt,tt,ff,ff,ff,ff,ff] rfl rfl (take_ofW HT_.out HW_.out (by kernel_rfl)) (fun _ _ _ h => h) (Or.inl ⟨by rfl, ?_⟩) hHeld ?_ ?_
        rotate_left
        ·rintro w' ⟨s0, s1⟩
         go_simp
         with_reducible rfl
        rotate_left
        ·simp only [Act.put, List.setIfInBounds_toArray, List.set_cons_zero, List.set_cons_succ, i64_w, i32_w]
         rfl
        refine pure_ (i := 5) (N := some 31) (v := ?_) (a' := ?_) #[tt,tt,ff,tt,tt,tt,ff,ff,ff,ff] rfl rfl (any_of HT_.out (by kernel_rfl)) (fun _ _ _ h => h) (Or.inl ⟨by rfl, ?_⟩) ?_ ?_
        rotate_left
        ·intro w'
         go_simp
         with_reducible rfl
        rotate_left
        ·simp only [Act.put, List.setIfInBounds_toArray, List.set_cons_zero, List.set_cons_succ, i64_w, i32_w]
         rfl
        refine join_ (σ := Value × Value × Nat) 1 #[tt,tt,tt,tt,tt,tt,tt,tt,tt,ff] (fun s_ => [(28, s_.1), (32, s_.2.1), (9, .pointer (some ⟨s_.2.2, 0, none⟩)), (33, .agg #[.int .i64 a1_0, s_.2.1])]) (fun s_ w' => (w'.cell? ⟨gb387, 0, none⟩ = some (.int .i64 a1_0) ∧ w'.cell? ⟨gb387, 1, none⟩ = some (.slice A1_1 l1_1.length c1_1)) ∧ (Kd.V (Kd.int .i64) 3 w' w.heap.size (fun k_ => (P1_1_ k_ ∨ w.heap.size ≤ k_) ∧ some k_ ≠ (s_.2.1 : Value).ownBlock ∧ k_ ≠ gb386 ∧ k_ ≠ gb387 ∧ k_ ≠ gb388 ∧ k_ ≠ s_.2.2) (.slice A53 y393.length c53) y393) ∧ (Kd.R (Kd.int .i64) 3 w' w.heap.size (fun k_ => (w.heap.size ≤ k_)) s_.2.1 y398) ∧ (Kd.V (Kd.int .i64) 3 w' w.heap.size (fun k_ => (P1_1_ k_ ∨ w.heap.size ≤ k_) ∧ some k_ ≠ (s_.2.1 : Value).ownBlock ∧ k_ ≠ gb386 ∧ k_ ≠ gb387 ∧ k_ ≠ gb388 ∧ k_ ≠ s_.2.2) (.slice A1_1 l1_1.length c1_1) l1_1) ∧ (w'.heap[gb386]? = some (.cells #[.int .i64 a0_0, .int .i64 a0_1, .int .i64 a0_2, .slice A0_3 l0_3.length c0_3, .slice A0_4 l0_4.length c0_4] 24 (0, 0))) ∧ (w'.heap[gb387]? = some (.cells #[.int .i64 a1_0, .slice A1_1 l1_1.length c1_1] 26 (0, 0))) ∧ (w'.heap[gb388]? = some (.cells #[.int .i64 0, .slice none 0 0] 26 (0, 0))) ∧ (w'.heap[s_.2.2]? = some (.cells #[.int .i64 0, .slice none 0 0] 26 (0, 0))) ∧ (w.heap.size ≤ s_.2.2) ∧ (w.heap.size ≤ s_.2.2) ∧ (gb386 ≠ s_.2.2) ∧ (s_.2.2 ≠ gb386) ∧ (gb387 ≠ s_.2.2) ∧ (s_.2.2 ≠ gb387) ∧ (gb388 ≠ s_.2.2) ∧ (s_.2.2 ≠ gb388) ∧ (Below w.heap.size w w')) ?_ ?_
        rotate_left
        ·intro hCont
         refine two_ (i := 2) (j := 8) (Ni := some 28) (Nj := some 9) #[tt,tt,tt,tt,tt,tt,ff,ff,ff,ff] #[tt,tt,ff,tt,tt,tt,ff,ff,tt,ff] rfl rfl rfl rfl (two_of HT_.out (by kernel_rfl)) (by decide) (by decide) (fun K hK => ?_) (fun K hK => ?_)
         ·skip
          refine Kd.R_lit_step (Kd.int .i64) _ 3 ?hg (N := 28) ?hd (xs := ([] : List Int)) (inner := []) (ok := fun _ => True) (okp := fun _ => True) ?hr ?hp (fun _ hk => hk) trivial (Below.refl _ _) (Nat.le_refl _) (by simp) ?_; (case hd => rfl); (case hg => rfl); (case hr => first | (go_simp; done) | (go_simp; rfl)); (case hp => exact (Reps.none _ _))
          intro v391 w54 ho55 hb hg_ hnew_
          clear hg_ hnew_
          (first | rw [← Ny390.out] at ho55 | (simp only [Int.reduceToNat] at ho55; rw [← Ny390.out] at ho55))
          replace HO_388001 := Aside0.mk (Kd.V_elder' HO_388001.out (Kd.R_base ho55) hb)
          replace HO397 := Aside0.mk (Kd.V_elder' HO397.out (Kd.R_base ho55) hb)
          have HO392 := Aside0.mk (Kd.R_lower (Kd.R_newM (M := fun k_ => (w.heap.size ≤ k_)) ho55 (below_size HB.out) (fun k_ h_ => h_)) (below_size HB.out))
          replace BK386 := Aside0.mk (blk_below BK386.out hb)
          replace BK387 := Aside0.mk (blk_below BK387.out hb)
          replace BK388 := Aside0.mk (blk_below BK388.out hb)
          replace HB := Aside0.mk (below_step HB.out hb)
          clear hb ho55
          refine hK.out _ _ ⟨(blk_cell BK387.out 0).trans rfl, (blk_cell BK387.out 1).trans rfl⟩ (fun hHeld => ?_)
          clear hK K
          refine norm_ (a' := ?_) ?_ ?_
          rotate_left
          ·show Act.put _ (some 28) _ = _
           simp only [Act.put, List.setIfInBounds_toArray, List.set_cons_zero, List.set_cons_succ, i64_w, i32_w]
           rfl
          refine two_ (i := 6) (j := 8) (Ni := some 32) (Nj := some 9) #[tt,tt,tt,tt,tt,tt,tt,ff,ff,ff] #[tt,tt,tt,tt,tt,tt,ff,ff,tt,ff] rfl rfl rfl rfl (two_of HT_.out (by kernel_rfl)) (by decide) (by decide) (fun K hK => ?_) (fun K hK => ?_)
          ·skip
           refine Kd.R_append_rows_step (Kd.int .i64) (w0 := w) w.heap.size (by rfl) (.tmp 28) (.tmp 31) 22 3 (.int .i64 0) 8 rfl Tryz.underlying22 info3 rfl (by decide) (by omega) v391 y390 y393 _ _ _ (fun k_ => (w.heap.size ≤ k_)) (fun _ => False) rfl rfl ?aO ?aR (fun _ _ h => h) (fun _ h => h.elim) ?aF ?aB ?aS ?aL ?_
           (case aR => repeat (first | exact (Kd.V_reads' HO397.out).2.2 | (with_reducible refine Kd.C_alloc ?_ _) | (with_reducible refine Kd.C_drewN ?_ _) | (with_reducible refine Kd.C_drew ?_)))
           (case aB => exact HB.out)
           (case aF => exact (fun k_ hk => (Nat.le_trans (below_size HB.out) hk)))
           (case aO => exact (by (with_reducible repeat (first | apply Kd.R_alloc | apply Kd.R_drewN | apply Kd.R_drew)); exact Kd.R_mono HO392.out (fun _ hk => hk.1)))
           (case aS => exact (below_size HB.out))
           (case aL => have := LMc26.out; omega)
           intro v399 w56 ho hb hg hat
           rw [← Ny398.out] at ho
           replace HO_388001 := Aside0.mk (Kd.V_afterv (ok := (fun k_ => (P1_1_ k_ ∨ w.heap.size ≤ k_) ∧ k_ ≠ gb386 ∧ k_ ≠ gb387 ∧ k_ ≠ gb388)) HO_388001.out hg hat)
           replace BK386 := Aside0.mk (blk_grown BK386.out hg (Kd.R_ne HO392.out BK386.out (by decide)))
           replace BK387 := Aside0.mk (blk_grown BK387.out hg (Kd.R_ne HO392.out BK387.out (by decide)))
           replace BK388 := Aside0.mk (blk_grown BK388.out hg (Kd.R_ne HO392.out BK388.out (by decide)))
           replace HO397 := Aside0.mk (Kd.V_afterv (ok := (fun k_ => (P1_1_ k_ ∨ w.heap.size ≤ k_) ∧ k_ ≠ gb386 ∧ k_ ≠ gb387 ∧ k_ ≠ gb388)) HO397.out hg hat)
           replace HB := Aside0.mk (hb)
           have HO400 := Aside0.mk (ho)
           clear HO392
           clear ho hb hg hat
           obtain ⟨Ao57, co57, eo57⟩ := Kd.R_slice HO400.out
           (first | subst eo57 | (injection eo57 with f1_ f2_ f3_; have f4_ := f1_.symm; have f5_ := f3_.symm; clear f1_ f2_ f3_; subst f4_; subst f5_))
           refine hK.out _ _ ⟨(blk_cell BK387.out 0).trans rfl, (blk_cell BK387.out 1).trans rfl⟩ (fun hHeld => ?_)
           clear hK K
           refine norm_ (a' := ?_) ?_ ?_
           rotate_left
           ·show Act.put _ (some 32) _ = _
            simp only [Act.put, List.setIfInBounds_toArray, List.set_cons_zero, List.set_cons_succ, i64_w, i32_w]
            rfl
           refine pure_ (i := 7) (N := some 33) (v := ?_) (a' := ?_) #[tt,tt,tt,tt,tt,tt,tt,tt,ff,ff] rfl rfl (any_of HT_.out (by kernel_rfl)) (fun _ _ _ h => h) (Or.inl ⟨by rfl, ?_⟩) ?_ ?_
           rotate_left
           ·intro w'
            go_simp
            with_reducible rfl
           rotate_left
           ·simp only [Act.put, List.setIfInBounds_toArray, List.set_cons_zero, List.set_cons_succ, i64_w, i32_w]
            rfl
           refine one_ (i := 8) (N := some 9) #[tt,tt,tt,tt,tt,tt,tt,tt,tt,ff] rfl rfl (one_of HT_.out (by kernel_rfl)) (by decide) (fun K hK => ?_)
           refine box_step ?hg (N := 9) ?hd (cs := #[.int .i64 0, .slice none 0 0]) (t := 26) ?hr ?_; (case hd => rfl); (case hg => rfl); (case hr => first | (go_simp; done) | (go_simp; rfl))
           intro gb401 hg w58 hbox hb
           replace HO_388001 := Aside0.mk (Kd.V_below (Kd.V_elderB HO_388001.out gb401 (Nat.le_of_eq hg.symm)) hb)
           replace HO397 := Aside0.mk (Kd.V_below (Kd.V_elderB HO397.out gb401 (Nat.le_of_eq hg.symm)) hb)
           replace HO400 := Aside0.mk (Kd.R_below HO400.out hb)
           have BK401 := Aside0.mk (hbox)
           have GW401 := Aside0.mk ((by rw [hg]; exact (below_size HB.out) : w.heap.size ≤ gb401))
           have GE401 := Aside0.mk ((by rw [hg]; exact (below_size HB.out) : w.heap.size ≤ gb401))
           replace HB := Aside0.mk (below_step HB.out hb)
           have NB386_401 := Aside0.mk ((by rw [hg]; exact Nat.ne_of_lt (blk_lt BK386.out) : gb386 ≠ gb401))
           have NB401_386 := Aside0.mk ((by rw [hg]; exact Nat.ne_of_gt (blk_lt BK386.out) : gb401 ≠ gb386))
           replace BK386 := Aside0.mk (blk_below BK386.out hb)
           have NB387_401 := Aside0.mk ((by rw [hg]; exact Nat.ne_of_lt (blk_lt BK387.out) : gb387 ≠ gb401))
           have NB401_387 := Aside0.mk ((by rw [hg]; exact Nat.ne_of_gt (blk_lt BK387.out) : gb401 ≠ gb387))
           replace BK387 := Aside0.mk (blk_below BK387.out hb)
           have NB388_401 := Aside0.mk ((by rw [hg]; exact Nat.ne_of_lt (blk_lt BK388.out) : gb388 ≠ gb401))
           have NB401_388 := Aside0.mk ((by rw [hg]; exact Nat.ne_of_gt (blk_lt BK388.out) : gb401 ≠ gb388))
           replace BK388 := Aside0.mk (blk_below BK388.out hb)
           clear hb hbox hg
           refine hK.out _ _ ⟨(blk_cell BK387.out 0).trans rfl, (blk_cell BK387.out 1).trans rfl⟩ (fun hHeld => ?_)
           clear hK K
           refine norm_ (a' := ?_) ?_ ?_
           rotate_left
           ·show Act.put _ (some 9) _ = _
            simp only [Act.put, List.setIfInBounds_toArray, List.set_cons_zero, List.set_cons_succ, i64_w, i32_w]
            rfl
           exact norm_ (by simp only [putAll, Act.put, List.setIfInBounds_toArray, List.set_cons_zero, List.set_cons_succ]) (hCont (v391, .slice Ao57 y398.length co57, gb401) _ ⟨hHeld, (by (with_reducible repeat (first | apply Kd.V_alloc | apply Kd.V_drewN | apply Kd.V_drew)); exact Kd.V_mono HO397.out (fun _ hk => ⟨hk.1.1.1, ⟨hk.1.2, ⟨hk.1.1.2.1, ⟨hk.1.1.2.2.1, ⟨hk.1.1.2.2.2, hk.2⟩⟩⟩⟩⟩)), HO400.out, (by (with_reducible repeat (first | apply Kd.V_alloc | apply Kd.V_drewN | apply Kd.V_drew)); exact Kd.V_mono HO_388001.out (fun _ hk => ⟨hk.1.1.1, ⟨hk.1.2, ⟨hk.1.1.2.1, ⟨hk.1.1.2.2.1, ⟨hk.1.1.2.2.2, hk.2⟩⟩⟩⟩⟩)), BK386.out, BK387.out, BK388.out, BK401.out, GW401.out, GE401.out, NB386_401.out, NB401_386.out, NB387_401.out, NB401_387.out, NB388_401.out, NB401_388.out, HB.out⟩)
          ·skip
           refine box_step ?hg (N := 9) ?hd (cs := #[.int .i64 0, .slice none 0 0]) (t := 26) ?hr ?_; (case hd => rfl); (case hg => rfl); (case hr => first | (go_simp; done) | (go_simp; rfl))
           intro gb401 hg w56 hbox hb
           replace HO_388001 := Aside0.mk (Kd.V_below (Kd.V_elderB HO_388001.out gb401 (Nat.le_of_eq hg.symm)) hb)
           replace HO397 := Aside0.mk (Kd.V_below (Kd.V_elderB HO397.out gb401 (Nat.le_of_eq hg.symm)) hb)
           replace HO392 := Aside0.mk (Kd.R_below HO392.out hb)
           have BK401 := Aside0.mk (hbox)
           have GW401 := Aside0.mk ((by rw [hg]; exact (below_size HB.out) : w.heap.size ≤ gb401))
           have GE401 := Aside0.mk ((by rw [hg]; exact (below_size HB.out) : w.heap.size ≤ gb401))
           replace HB := Aside0.mk (below_step HB.out hb)
           have NB386_401 := Aside0.mk ((by rw [hg]; exact Nat.ne_of_lt (blk_lt BK386.out) : gb386 ≠ gb401))
           have NB401_386 := Aside0.mk ((by rw [hg]; exact Nat.ne_of_gt (blk_lt BK386.out) : gb401 ≠ gb386))
           replace BK386 := Aside0.mk (blk_below BK386.out hb)
           have NB387_401 := Aside0.mk ((by rw [hg]; exact Nat.ne_of_lt (blk_lt BK387.out) : gb387 ≠ gb401))
           have NB401_387 := Aside0.mk ((by rw [hg]; exact Nat.ne_of_gt (blk_lt BK387.out) : gb401 ≠ gb387))
           replace BK387 := Aside0.mk (blk_below BK387.out hb)
           have NB388_401 := Aside0.mk ((by rw [hg]; exact Nat.ne_of_lt (blk_lt BK388.out) : gb388 ≠ gb401))
           have NB401_388 := Aside0.mk ((by rw [hg]; exact Nat.ne_of_gt (blk_lt BK388.out) : gb401 ≠ gb388))
           replace BK388 := Aside0.mk (blk_below BK388.out hb)
           clear hb hbox hg
           refine hK.out _ _ ⟨(blk_cell BK387.out 0).trans rfl, (blk_cell BK387.out 1).trans rfl⟩ (fun hHeld => ?_)
           clear hK K
           refine norm_ (a' := ?_) ?_ ?_
           rotate_left
           ·show Act.put _ (some 9) _ = _
            simp only [Act.put, List.setIfInBounds_toArray, List.set_cons_zero, List.set_cons_succ, i64_w, i32_w]
            rfl
           refine one_ (i := 6) (N := some 32) #[tt,tt,tt,tt,tt,tt,tt,ff,tt,ff] rfl rfl (one_of HT_.out (by kernel_rfl)) (by decide) (fun K hK => ?_)
           refine Kd.R_append_rows_step (Kd.int .i64) (w0 := w) w.heap.size (by rfl) (.tmp 28) (.tmp 31) 22 3 (.int .i64 0) 8 rfl Tryz.underlying22 info3 rfl (by decide) (by omega) v391 y390 y393 _ _ _ (fun k_ => (w.heap.size ≤ k_)) (fun _ => False) rfl rfl ?aO ?aR (fun _ _ h => h) (fun _ h => h.elim) ?aF ?aB ?aS ?aL ?_
           (case aR => repeat (first | exact (Kd.V_reads' HO397.out).2.2 | (with_reducible refine Kd.C_alloc ?_ _) | (with_reducible refine Kd.C_drewN ?_ _) | (with_reducible refine Kd.C_drew ?_)))
           (case aB => exact HB.out)
           (case aF => exact (fun k_ hk => (Nat.le_trans (below_size HB.out) hk)))
           (case aO => exact (by (with_reducible repeat (first | apply Kd.R_alloc | apply Kd.R_drewN | apply Kd.R_drew)); exact Kd.R_mono HO392.out (fun _ hk => hk.1)))
           (case aS => exact (below_size HB.out))
           (case aL => have := LMc26.out; omega)
           intro v399 w57 ho hb hg hat
           rw [← Ny398.out] at ho
           replace HO_388001 := Aside0.mk (Kd.V_afterv (ok := (fun k_ => (P1_1_ k_ ∨ w.heap.size ≤ k_) ∧ k_ ≠ gb386 ∧ k_ ≠ gb387 ∧ k_ ≠ gb388 ∧ k_ ≠ gb401)) (by (with_reducible repeat (first | apply Kd.V_alloc | apply Kd.V_drewN | apply Kd.V_drew)); exact Kd.V_mono HO_388001.out (fun _ hk => ⟨⟨hk.1.1.1, ⟨hk.1.1.2.1, ⟨hk.1.1.2.2.1, ⟨hk.1.1.2.2.2, hk.2⟩⟩⟩⟩, hk.1.2⟩)) hg hat)
           replace BK386 := Aside0.mk (blk_grown BK386.out hg (Kd.R_ne HO392.out BK386.out (by decide)))
           replace BK387 := Aside0.mk (blk_grown BK387.out hg (Kd.R_ne HO392.out BK387.out (by decide)))
           replace BK388 := Aside0.mk (blk_grown BK388.out hg (Kd.R_ne HO392.out BK388.out (by decide)))
           replace HO397 := Aside0.mk (Kd.V_afterv (ok := (fun k_ => (P1_1_ k_ ∨ w.heap.size ≤ k_) ∧ k_ ≠ gb386 ∧ k_ ≠ gb387 ∧ k_ ≠ gb388 ∧ k_ ≠ gb401)) (by (with_reducible repeat (first | apply Kd.V_alloc | apply Kd.V_drewN | apply Kd.V_drew)); exact Kd.V_mono HO397.out (fun _ hk => ⟨⟨hk.1.1.1, ⟨hk.1.1.2.1, ⟨hk.1.1.2.2.1, ⟨hk.1.1.2.2.2, hk.2⟩⟩⟩⟩, hk.1.2⟩)) hg hat)
           replace BK401 := Aside0.mk (blk_grown BK401.out hg (Kd.R_ne HO392.out BK401.out (by decide)))
           replace HB := Aside0.mk (hb)
           have HO400 := Aside0.mk (ho)
           clear HO392
           clear ho hb hg hat
           obtain ⟨Ao58, co58, eo58⟩ := Kd.R_slice HO400.out
           (first | subst eo58 | (injection eo58 with f1_ f2_ f3_; have f4_ := f1_.symm; have f5_ := f3_.symm; clear f1_ f2_ f3_; subst f4_; subst f5_))
           refine hK.out _ _ ⟨(blk_cell BK387.out 0).trans rfl, (blk_cell BK387.out 1).trans rfl⟩ (fun hHeld => ?_)
           clear hK K
           refine norm_ (a' := ?_) ?_ ?_
           rotate_left
           ·show Act.put _ (some 32) _ = _
            simp only [Act.put, List.setIfInBounds_toArray, List.set_cons_zero, List.set_cons_succ, i64_w, i32_w]
            rfl
           refine pure_ (i := 7) (N := some 33) (v := ?_) (a' := ?_) #[tt,tt,tt,tt,tt,tt,tt,tt,tt,ff] rfl rfl (any_of HT_.out (by kernel_rfl)) (fun _ _ _ h => h) (Or.inl ⟨by rfl, ?_⟩) ?_ ?_
           rotate_left
           ·intro w'
            go_simp
            with_reducible rfl
           rotate_left
           ·simp only [Act.put, List.setIfInBounds_toArray, List.set_cons_zero, List.set_cons_succ, i64_w, i32_w]
            rfl
           exact norm_ (by simp only [putAll, Act.put, List.setIfInBounds_toArray, List.set_cons_zero, List.set_cons_succ]) (hCont (v391, .slice Ao58 y398.length co58, gb401) _ ⟨hHeld, (by (with_reducible repeat (first | apply Kd.V_alloc | apply Kd.V_drewN | apply Kd.V_drew)); exact Kd.V_mono HO397.out (fun _ hk => ⟨hk.1.1, ⟨hk.2, ⟨hk.1.2.1, ⟨hk.1.2.2.1, ⟨hk.1.2.2.2.1, hk.1.2.2.2.2⟩⟩⟩⟩⟩)), HO400.out, (by (with_reducible repeat (first | apply Kd.V_alloc | apply Kd.V_drewN | apply Kd.V_drew)); exact Kd.V_mono HO_388001.out (fun _ hk => ⟨hk.1.1, ⟨hk.2, ⟨hk.1.2.1, ⟨hk.1.2.2.1, ⟨hk.1.2.2.2.1, hk.1.2.2.2.2⟩⟩⟩⟩⟩)), BK386.out, BK387.out, BK388.out, BK401.out, GW401.out, GE401.out, NB386_401.out, NB401_386.out, NB387_401.out, NB401_387.out, NB388_401.out, NB401_388.out, HB.out⟩)
         ·skip
          refine box_step ?hg (N := 9) ?hd (cs := #[.int .i64 0, .slice none 0 0]) (t := 26) ?hr ?_; (case hd => rfl); (case hg => rfl); (case hr => first | (go_simp; done) | (go_simp; rfl))
          intro gb401 hg w54 hbox hb
          replace HO_388001 := Aside0.mk (Kd.V_below (Kd.V_elderB HO_388001.out gb401 (Nat.le_of_eq hg.symm)) hb)
          replace HO397 := Aside0.mk (Kd.V_below (Kd.V_elderB HO397.out gb401 (Nat.le_of_eq hg.symm)) hb)
          have BK401 := Aside0.mk (hbox)
          have GW401 := Aside0.mk ((by rw [hg]; exact (below_size HB.out) : w.heap.size ≤ gb401))
          have GE401 := Aside0.mk ((by rw [hg]; exact (below_size HB.out) : w.heap.size ≤ gb401))
          replace HB := Aside0.mk (below_step HB.out hb)
          have NB386_401 := Aside0.mk ((by rw [hg]; exact Nat.ne_of_lt (blk_lt BK386.out) : gb386 ≠ gb401))
          have NB401_386 := Aside0.mk ((by rw [hg]; exact Nat.ne_of_gt (blk_lt BK386.out) : gb401 ≠ gb386))
          replace BK386 := Aside0.mk (blk_below BK386.out hb)
          have NB387_401 := Aside0.mk ((by rw [hg]; exact Nat.ne_of_lt (blk_lt BK387.out) : gb387 ≠ gb401))
          have NB401_387 := Aside0.mk ((by rw [hg]; exact Nat.ne_of_gt (blk_lt BK387.out) : gb401 ≠ gb387))
          replace BK387 := Aside0.mk (blk_below BK387.out hb)
          have NB388_401 := Aside0.mk ((by rw [hg]; exact Nat.ne_of_lt (blk_lt BK388.out) : gb388 ≠ gb401))
          have NB401_388 := Aside0.mk ((by rw [hg]; exact Nat.ne_of_gt (blk_lt BK388.out) : gb401 ≠ gb388))
          replace BK388 := Aside0.mk (blk_below BK388.out hb)
          clear hb hbox hg
          refine hK.out _ _ ⟨(blk_cell BK387.out 0).trans rfl, (blk_cell BK387.out 1).trans rfl⟩ (fun hHeld => ?_)
          clear hK K
          refine norm_ (a' := ?_) ?_ ?_
          rotate_left
          ·show Act.put _ (some 9) _ = _
           simp only [Act.put, List.setIfInBounds_toArray, List.set_cons_zero, List.set_cons_succ, i64_w, i32_w]
           rfl
          refine one_ (i := 2) (N := some 28) #[tt,tt,tt,tt,tt,tt,ff,ff,tt,ff] rfl rfl (one_of HT_.out (by kernel_rfl)) (by decide) (fun K hK => ?_)
          refine Kd.R_lit_step (Kd.int .i64) _ 3 ?hg (N := 28) ?hd (xs := ([] : List Int)) (inner := []) (ok := fun _ => True) (okp := fun _ => True) ?hr ?hp (fun _ hk => hk) trivial (Below.refl _ _) (Nat.le_refl _) (by simp) ?_; (case hd => rfl); (case hg => rfl); (case hr => first | (go_simp; done) | (go_simp; rfl)); (case hp => exact (Reps.none _ _))
          intro v391 w55 ho56 hb hg_ hnew_
          clear hg_ hnew_
          (first | rw [← Ny390.out] at ho56 | (simp only [Int.reduceToNat] at ho56; rw [← Ny390.out] at ho56))
          replace HO_388001 := Aside0.mk (Kd.V_elder' HO_388001.out (Kd.R_base ho56) hb)
          replace HO397 := Aside0.mk (Kd.V_elder' HO397.out (Kd.R_base ho56) hb)
          have HO392 := Aside0.mk (Kd.R_lower (Kd.R_newM (M := fun k_ => (w.heap.size ≤ k_)) ho56 (below_size HB.out) (fun k_ h_ => h_)) (below_size HB.out))
          replace BK386 := Aside0.mk (blk_below BK386.out hb)
          replace BK387 := Aside0.mk (blk_below BK387.out hb)
          replace BK388 := Aside0.mk (blk_below BK388.out hb)
          replace BK401 := Aside0.mk (blk_below BK401.out hb)
          replace HB := Aside0.mk (below_step HB.out hb)
          clear hb ho56
          refine hK.out _ _ ⟨(blk_cell BK387.out 0).trans rfl, (blk_cell BK387.out 1).trans rfl⟩ (fun hHeld => ?_)
          clear hK K
          refine norm_ (a' := ?_) ?_ ?_
          rotate_left
          ·show Act.put _ (some 28) _ = _
           simp only [Act.put, List.setIfInBounds_toArray, List.set_cons_zero, List.set_cons_succ, i64_w, i32_w]
           rfl
          refine one_ (i := 6) (N := some 32) #[tt,tt,tt,tt,tt,tt,tt,ff,tt,ff] rfl rfl (one_of HT_.out (by kernel_rfl)) (by decide) (fun K hK => ?_)
          refine Kd.R_append_rows_step (Kd.int .i64) (w0 := w) w.heap.size (by rfl) (.tmp 28) (.tmp 31) 22 3 (.int .i64 0) 8 rfl Tryz.underlying22 info3 rfl (by decide) (by omega) v391 y390 y393 _ _ _ (fun k_ => (w.heap.size ≤ k_)) (fun _ => False) rfl rfl ?aO ?aR (fun _ _ h => h) (fun _ h => h.elim) ?aF ?aB ?aS ?aL ?_
          (case aR => repeat (first | exact (Kd.V_reads' HO397.out).2.2 | (with_reducible refine Kd.C_alloc ?_ _) | (with_reducible refine Kd.C_drewN ?_ _) | (with_reducible refine Kd.C_drew ?_)))
          (case aB => exact HB.out)
          (case aF => exact (fun k_ hk => (Nat.le_trans (below_size HB.out) hk)))
          (case aO => exact (by (with_reducible repeat (first | apply Kd.R_alloc | apply Kd.R_drewN | apply Kd.R_drew)); exact Kd.R_mono HO392.out (fun _ hk => hk.1)))
          (case aS => exact (below_size HB.out))
          (case aL => have := LMc26.out; omega)
          intro v399 w57 ho hb hg hat
          rw [← Ny398.out] at ho
          replace HO_388001 := Aside0.mk (Kd.V_afterv (ok := (fun k_ => (P1_1_ k_ ∨ w.heap.size ≤ k_) ∧ k_ ≠ gb386 ∧ k_ ≠ gb387 ∧ k_ ≠ gb388 ∧ k_ ≠ gb401)) (by (with_reducible repeat (first | apply Kd.V_alloc | apply Kd.V_drewN | apply Kd.V_drew)); exact Kd.V_mono HO_388001.out (fun _ hk => ⟨⟨hk.1.1.1, ⟨hk.1.1.2.1, ⟨hk.1.1.2.2.1, ⟨hk.1.1.2.2.2, hk.1.2⟩⟩⟩⟩, hk.2⟩)) hg hat)
          replace BK386 := Aside0.mk (blk_grown BK386.out hg (Kd.R_ne HO392.out BK386.out (by decide)))
          replace BK387 := Aside0.mk (blk_grown BK387.out hg (Kd.R_ne HO392.out BK387.out (by decide)))
          replace BK388 := Aside0.mk (blk_grown BK388.out hg (Kd.R_ne HO392.out BK388.out (by decide)))
          replace HO397 := Aside0.mk (Kd.V_afterv (ok := (fun k_ => (P1_1_ k_ ∨ w.heap.size ≤ k_) ∧ k_ ≠ gb386 ∧ k_ ≠ gb387 ∧ k_ ≠ gb388 ∧ k_ ≠ gb401)) (by (with_reducible repeat (first | apply Kd.V_alloc | apply Kd.V_drewN | apply Kd.V_drew)); exact Kd.V_mono HO397.out (fun _ hk => ⟨⟨hk.1.1.1, ⟨hk.1.1.2.1, ⟨hk.1.1.2.2.1, ⟨hk.1.1.2.2.2, hk.1.2⟩⟩⟩⟩, hk.2⟩)) hg hat)
          replace BK401 := Aside0.mk (blk_grown BK401.out hg (Kd.R_ne HO392.out BK401.out (by decide)))
          replace HB := Aside0.mk (hb)
          have HO400 := Aside0.mk (ho)
          clear HO392
          clear ho hb hg hat
          obtain ⟨Ao58, co58, eo58⟩ := Kd.R_slice HO400.out
          (first | subst eo58 | (injection eo58 with f1_ f2_ f3_; have f4_ := f1_.symm; have f5_ := f3_.symm; clear f1_ f2_ f3_; subst f4_; subst f5_))
          refine hK.out _ _ ⟨(blk_cell BK387.out 0).trans rfl, (blk_cell BK387.out 1).trans rfl⟩ (fun hHeld => ?_)
          clear hK K
          refine norm_ (a' := ?_) ?_ ?_
          rotate_left
          ·show Act.put _ (some 32) _ = _
           simp only [Act.put, List.setIfInBounds_toArray, List.set_cons_zero, List.set_cons_succ, i64_w, i32_w]
           rfl
          refine pure_ (i := 7) (N := some 33) (v := ?_) (a' := ?_) #[tt,tt,tt,tt,tt,tt,tt,tt,tt,ff] rfl rfl (any_of HT_.out (by kernel_rfl)) (fun _ _ _ h => h) (Or.inl ⟨by rfl, ?_⟩) ?_ ?_
          rotate_left
          ·intro w'
           go_simp
           with_reducible rfl
          rotate_left
          ·simp only [Act.put, List.setIfInBounds_toArray, List.set_cons_zero, List.set_cons_succ, i64_w, i32_w]
           rfl
          exact norm_ (by simp only [putAll, Act.put, List.setIfInBounds_toArray, List.set_cons_zero, List.set_cons_succ]) (hCont (v391, .slice Ao58 y398.length co58, gb401) _ ⟨hHeld, (by (with_reducible repeat (first | apply Kd.V_alloc | apply Kd.V_drewN | apply Kd.V_drew)); exact Kd.V_mono HO397.out (fun _ hk => ⟨hk.1.1, ⟨hk.2, ⟨hk.1.2.1, ⟨hk.1.2.2.1, ⟨hk.1.2.2.2.1, hk.1.2.2.2.2⟩⟩⟩⟩⟩)), HO400.out, (by (with_reducible repeat (first | apply Kd.V_alloc | apply Kd.V_drewN | apply Kd.V_drew)); exact Kd.V_mono HO_388001.out (fun _ hk => ⟨hk.1.1, ⟨hk.2, ⟨hk.1.2.1, ⟨hk.1.2.2.1, ⟨hk.1.2.2.2.1, hk.1.2.2.2.2⟩⟩⟩⟩⟩)), BK386.out, BK387.out, BK388.out, BK401.out, GW401.out, GE401.out, NB386_401.out, NB401_386.out, NB387_401.out, NB401_387.out, NB388_401.out, NB401_388.out, HB.out⟩)
        rintro ⟨v391, v399, gb401⟩ w59 ⟨hS_, h0_, h1_, h2_, h3_, h4_, h5_, h6_, h7_, h8_, h9_, h10_, h11_, h12_, h13_, h14_, h15_⟩
        have n0_ : Aside0 (Kd.V (Kd.int .i64) 3 w59 w.heap.size (fun k_ => (P1_1_ k_ ∨ w.heap.size ≤ k_) ∧ some k_ ≠ (v399 : Value).ownBlock ∧ k_ ≠ gb386 ∧ k_ ≠ gb387 ∧ k_ ≠ gb388 ∧ k_ ≠ gb401) (.slice A53 y393.length c53) y393) := ⟨h0_⟩
        have n1_ : Aside0 (Kd.R (Kd.int .i64) 3 w59 w.heap.size (fun k_ => (w.heap.size ≤ k_)) v399 y398) := ⟨h1_⟩
        have n2_ : Aside0 (Kd.V (Kd.int .i64) 3 w59 w.heap.size (fun k_ => (P1_1_ k_ ∨ w.heap.size ≤ k_) ∧ some k_ ≠ (v399 : Value).ownBlock ∧ k_ ≠ gb386 ∧ k_ ≠ gb387 ∧ k_ ≠ gb388 ∧ k_ ≠ gb401) (.slice A1_1 l1_1.length c1_1) l1_1) := ⟨h2_⟩
        have n3_ : Aside0 (w59.heap[gb386]? = some (.cells #[.int .i64 a0_0, .int .i64 a0_1, .int .i64 a0_2, .slice A0_3 l0_3.length c0_3, .slice A0_4 l0_4.length c0_4] 24 (0, 0))) := ⟨h3_⟩
        have n4_ : Aside0 (w59.heap[gb387]? = some (.cells #[.int .i64 a1_0, .slice A1_1 l1_1.length c1_1] 26 (0, 0))) := ⟨h4_⟩
        have n5_ : Aside0 (w59.heap[gb388]? = some (.cells #[.int .i64 0, .slice none 0 0] 26 (0, 0))) := ⟨h5_⟩
        have n6_ : Aside0 (w59.heap[gb401]? = some (.cells #[.int .i64 0, .slice none 0 0] 26 (0, 0))) := ⟨h6_⟩
        have n7_ : Aside0 (w.heap.size ≤ gb401) := ⟨h7_⟩
        have n8_ : Aside0 (w.heap.size ≤ gb401) := ⟨h8_⟩
        have n9_ : Aside0 (gb386 ≠ gb401) := ⟨h9_⟩
        have n10_ : Aside0 (gb401 ≠ gb386) := ⟨h10_⟩
        have n11_ : Aside0 (gb387 ≠ gb401) := ⟨h11_⟩
        have n12_ : Aside0 (gb401 ≠ gb387) := ⟨h12_⟩
        have n13_ : Aside0 (gb388 ≠ gb401) := ⟨h13_⟩
        have n14_ : Aside0 (gb401 ≠ gb388) := ⟨h14_⟩
        have n15_ : Aside0 (Below w.heap.size w w59) := ⟨h15_⟩
        clear HO_388001
        clear BK386
        clear BK387
        clear BK388
        clear HB
        clear h0_ h1_ h2_ h3_ h4_ h5_ h6_ h7_ h8_ h9_ h10_ h11_ h12_ h13_ h14_ h15_
        have HO397 := n0_
        have HO400 := n1_
        have HO_388001 := n2_
        have BK386 := n3_
        have BK387 := n4_
        have BK388 := n5_
        have BK401 := n6_
        have GW401 := n7_
        have GE401 := n8_
        have NB386_401 := n9_
        have NB401_386 := n10_
        have NB387_401 := n11_
        have NB401_387 := n12_
        have NB388_401 := n13_
        have NB401_388 := n14_
        have HB := n15_
        clear n0_ n1_ n2_ n3_ n4_ n5_ n6_ n7_ n8_ n9_ n10_ n11_ n12_ n13_ n14_ n15_
        have hHeld : w59.cell? ⟨gb387, 0, none⟩ = some (.int .i64 a1_0) ∧ w59.cell? ⟨gb387, 1, none⟩ = some (.slice A1_1 l1_1.length c1_1) := hS_
        obtain ⟨Ao60, co60, eo60⟩ := Kd.R_slice HO400.out
        (first | subst eo60 | (injection eo60 with f1_ f2_ f3_; have f4_ := f1_.symm; have f5_ := f3_.symm; clear f1_ f2_ f3_; subst f4_; subst f5_))
        refine norm_ (a' := ?_) ?_ ?_
        rotate_left
        ·simp only [putAll, Act.put, List.setIfInBounds_toArray, List.set_cons_zero, List.set_cons_succ]
         rfl
        refine one_ (i := 9) (N := none) #[tt,tt,tt,tt,tt,tt,tt,tt,tt,tt] rfl rfl (one_of HT_.out (by kernel_rfl)) (by decide) (fun K hK => ?_)
        have hs61 : w59.cell? ⟨gb401, 0, none⟩ = some (.int .i64 0) := (blk_cell BK401.out 0).trans rfl
        have hfs61 := blk_frozen BK401.out 0
        have hns61_0 := NB386_401.out
        have hns61_1 := NB387_401.out
        have hns61_2 := NB388_401.out
        have hms61_0 := NB401_386.out
        have hms61_1 := NB401_387.out
        have hms61_2 := NB401_388.out
        have hs62 : w59.cell? ⟨gb401, 1, none⟩ = some (.slice none 0 0) := (blk_cell BK401.out 1).trans rfl
        have hfs62 := blk_frozen BK401.out 1
        have hns62_0 := NB386_401.out
        have hns62_1 := NB387_401.out
        have hns62_2 := NB388_401.out
        have hms62_0 := NB401_386.out
        have hms62_1 := NB401_387.out
        have hms62_2 := NB401_388.out
        refine skip_ (w1 := ?_) (by rfl) rfl ?_ ?_
        rotate_left
        ·go_simp
         rfl
        refine hK.out _ _ ⟨((cell_far (p := ⟨gb401, _, none⟩) NB387_401.out _).trans (((cell_far (p := ⟨gb401, _, none⟩) NB387_401.out _).trans (hHeld.1)))), ((cell_far (p := ⟨gb401, _, none⟩) NB387_401.out _).trans (((cell_far (p := ⟨gb401, _, none⟩) NB387_401.out _).trans (hHeld.2))))⟩ (fun hHeld => ?_)
        clear hK K
        refine done_ (done_of HT_.out (by kernel_rfl)) ?_
        have hnb63 := NB401_386.out
        have hnc63 := NB386_401.out
        have hnb64 := NB401_387.out
        have hnc64 := NB387_401.out
        have hnb65 := NB401_388.out
        have hnc65 := NB388_401.out
        have hcz66_0 : w59.cell? ⟨gb401, 0, none⟩ = some (.int .i64 0) := (blk_cell BK401.out 0).trans rfl
        have hcz66_1 : w59.cell? ⟨gb401, 1, none⟩ = some (.slice none 0 0) := (blk_cell BK401.out 1).trans rfl
        have hfz66_0 := blk_frozen BK401.out 0
        have hfz66_1 := blk_frozen BK401.out 1
        have hnb67 := NB388_386.out
        have hnc67 := NB386_388.out
        have hnb68 := NB388_387.out
        have hnc68 := NB387_388.out
        have hcz69_0 : w59.cell? ⟨gb388, 0, none⟩ = some (.int .i64 0) := (blk_cell BK388.out 0).trans rfl
        have hcz69_1 : w59.cell? ⟨gb388, 1, none⟩ = some (.slice none 0 0) := (blk_cell BK388.out 1).trans rfl
        have hfz69_0 := blk_frozen BK388.out 0
        have hfz69_1 := blk_frozen BK388.out 1
        try go_wp2
        refine bodyPost_ret (results_cell_row rfl _ _ gb388 26 #[.int .i64 a1_0, .slice Ao60 y398.length co60] (0, 0) _ rfl (by (with_reducible repeat (first | refine blk_drewN ?_ _ | refine blk_drew ?_ | refine blk_alloc ?_ _)); refine blk_put (cs := #[.int .i64 a1_0, .slice none 0 0]) ?_ 1 _ rfl; (with_reducible repeat (first | refine blk_drewN ?_ _ | refine blk_drew ?_ | refine blk_alloc ?_ _)); refine blk_put (cs := #[.int .i64 0, .slice none 0 0]) ?_ 0 _ rfl; (with_reducible repeat (first | refine blk_drewN ?_ _ | refine blk_drew ?_ | refine blk_alloc ?_ _)); refine blk_far ?_ NB388_401.out _; (with_reducible repeat (first | refine blk_drewN ?_ _ | refine blk_drew ?_ | refine blk_alloc ?_ _)); refine blk_far ?_ NB388_401.out _; (with_reducible repeat (first | refine blk_drewN ?_ _ | refine blk_drew ?_ | refine blk_alloc ?_ _)); exact BK388.out) Tryz.underlying26 rfl (by kernel_rfl)) rfl ?_
        exact ⟨_, by first | rfl | (simp [errW_none, errW_some] <;> rfl) | (simp [*, errW_none, errW_some] <;> rfl), Kd.V_mono (Kd.R_V (by (with_reducible repeat (first | apply Kd.R_alloc | apply Kd.R_drewN | apply Kd.R_drew)); exact Kd.R_mono (Kd.R_far (p := ⟨gb388, 1, none⟩) (Kd.R_far (p := ⟨gb388, 0, none⟩) (Kd.R_far (p := ⟨gb401, 1, none⟩) (Kd.R_far (p := ⟨gb401, 0, none⟩) (Kd.R_types (Kd.R_types HO400.out BK401.out (by decide)) BK388.out (by decide)) (fun _ hk => hk.1.2) (.int .i64 a1_0)) (fun _ hk => hk.1.2) (.slice Ao60 y398.length co60)) (fun _ hk => hk.2) (.int .i64 a1_0)) (fun _ hk => hk.2) (.slice Ao60 y398.length co60)) (fun _ hk => hk.1.1))) (fun k_ hk => by first | exact ⟨(.inr (hk.1)), hk.2⟩ | exact (.inr (hk))), by repeat (first | (with_reducible first | exact HB.out | apply below_alloc | apply pw_below_drewN | apply below_drew1 | refine below_set ?_ GE386.out | refine below_set ?_ GE387.out | refine below_set ?_ GE388.out | refine below_set ?_ GE401.out) | exact HB.out)⟩
      ·rw [if_neg c27] at H
       have c27b0 : decide (0 ≤ (wrap64 (a2 - 1))) = false := decide_eq_false c27
       clear c27
       simp only [Option.some.injEq, Prod.mk.injEq] at H
       obtain ⟨rfl, rfl⟩ := H
       try go_wp2
       replace HO_388001 := Aside0.mk (Kd.V_drew HO_388001.out)
       replace BK386 := Aside0.mk (blk_drew BK386.out)
       replace BK387 := Aside0.mk (blk_drew BK387.out)
       replace BK388 := Aside0.mk (blk_drew BK388.out)
       replace HB := Aside0.mk (below_drew1 HB.out)
       have q71 : (1 : Int) ≤ ((l1_1.length : Int) : Int) := of_decide_eq_true (by first | (with_reducible assumption) | assumption)
       obtain ⟨i071, hi071, _, hsz71, _⟩ := info_parts info3
       have hroom71 : l1_1.length ≤ c1_1 := (Kd.V_reads' HO_388001.out).2.1
       have hC71 : Kd.F (Kd.int .i64) _ _ A1_1 l1_1.length l1_1 := (Kd.V_at (base := w.heap.size) HO_388001.out).2.2
       have hcut71 := cut_from (P := Tryz.prog) 22 3 .i64 Tryz.underlying22 hi071 1 hsz71 A1_1 l1_1.length c1_1 1 (by omega) q71
       have hr71 := Kd.F_cut (m := (1 : Int).toNat) (c := c1_1) hC71 (by omega) hroom71
       obtain ⟨A71, hA71⟩ : ∃ A1, A1 = (if c1_1 = (1 : Int).toNat then A1_1 else (A1_1 : Option Addr).map (·.add ((1 : Int).toNat * 1))) := ⟨_, rfl⟩
       obtain ⟨c71, hc71⟩ : ∃ c1, c1 = c1_1 - (1 : Int).toNat := ⟨_, rfl⟩
       have hy71 : y393.length = l1_1.length - (1 : Int).toNat := (by rw [Ny393.out, List.length_drop] <;> omega)
       rw [show (l1_1).drop (1 : Int).toNat = y393 from Ny393.out.symm] at hr71
       replace hr71 : Kd.F (Kd.int .i64) _ _ A71 y393.length y393 := (by rw [hA71]; exact hr71)
       rw [← hy71, ← hA71, ← hc71] at hcut71
       have HO397 := Aside0.mk (show Kd.V (Kd.int .i64) 3 _ w.heap.size _ (.slice A71 y393.length c71) y393 from Kd.V_mk (by rw [hy71, hc71]; exact Nat.sub_le_sub_right hroom71 _) hr71)
       have HC397 := Aside0.mk (show y393.length ≤ c71 from by rw [hy71, hc71]; exact Nat.sub_le_sub_right hroom71 _)
       clear hr71 hC71 hroom71 hi071 hsz71 hc71
       have KY71 := Aside0.mk hy71
       have KA71 := Aside0.mk hA71
       clear hy71 hA71
       replace q71 := eq_true q71
       refine start_ (n := 10) (S := fun w' => w'.cell? ⟨gb387, 0, none⟩ = some (.int .i64 a1_0) ∧ w'.cell? ⟨gb387, 1, none⟩ = some (.slice A1_1 l1_1.length c1_1)) (ds := []) #[ff,ff,ff,ff,ff,ff,ff,ff,ff,ff] (by kernel_rfl) rfl rfl ⟨(blk_cell BK387.out 0).trans rfl, (blk_cell BK387.out 1).trans rfl⟩ (fun hHeld => ?_); refine with_tabW taquinref22_Did.tab3 taquinref22_Did.bits3 (fun HT_ HW_ => ?_)
       generalize wc.drew = w70 at HO_388001 BK386 BK387 BK388 HB HO397 hHeld ⊢
       refine pure_ (i := 0) (N := some 26) (v := ?_) (a' := ?_) #[tt,ff,ff,ff,ff,ff,ff,ff,ff,ff] rfl rfl (any_of HT_.out (by kernel_rfl)) (fun _ _ _ h => h) (Or.inl ⟨by rfl, ?_⟩) ?_ ?_
       rotate_left
       ·intro w'
        go_simp
        with_reducible rfl
       rotate_left
       ·simp only [Act.put, List.setIfInBounds_toArray, List.set_cons_zero, List.set_cons_succ, i64_w, i32_w]
        rfl
       refine pure_ (i := 3) (N := some 29) (v := ?_) (a' := ?_) #[tt,ff,ff,tt,ff,ff,ff,ff,ff,ff] rfl rfl (any_of HT_.out (by kernel_rfl)) (fun _ _ _ h => h) (Or.inl ⟨by rfl, ?_⟩) ?_ ?_
       rotate_left
       ·intro w'
        go_simp
        with_reducible rfl
       rotate_left
       ·simp only [Act.put, List.setIfInBounds_toArray, List.set_cons_zero, List.set_cons_succ, i64_w, i32_w]
        rfl
       refine take_ (i := 1) (N := some 27) (v := ?_) (a' := ?_) #[tt,tt,ff,tt,ff,ff,ff,ff,ff,ff] rfl rfl (take_ofW HT_.out HW_.out (by kernel_rfl)) (fun _ _ _ h => h) (Or.inl ⟨by rfl, ?_⟩) hHeld ?_ ?_
       rotate_left
       ·rintro w' ⟨s0, s1⟩
        go_simp
        with_reducible rfl
       rotate_left
       ·simp only [Act.put, List.setIfInBounds_toArray, List.set_cons_zero, List.set_cons_succ, i64_w, i32_w]
        rfl
       refine take_ (i := 4) (N := some 30) (v := ?_) (a' := ?_) #[tt,tt,ff,tt,tt,ff,ff,ff,ff,ff] rfl rfl (take_ofW HT_.out HW_.out (by kernel_rfl)) (fun _ _ _ h => h) (Or.inl ⟨by rfl, ?_⟩) hHeld ?_ ?_
       rotate_left
       ·rintro w' ⟨s0, s1⟩
        go_simp
        with_reducible rfl
       rotate_left
       ·simp only [Act.put, List.setIfInBounds_toArray, List.set_cons_zero, List.set_cons_succ, i64_w, i32_w]
        rfl
       refine pure_ (i := 5) (N := some 31) (v := ?_) (a' := ?_) #[tt,tt,ff,tt,tt,tt,ff,ff,ff,ff] rfl rfl (any_of HT_.out (by kernel_rfl)) (fun _ _ _ h => h) (Or.inl ⟨by rfl, ?_⟩) ?_ ?_
       rotate_left
       ·intro w'
        go_simp
        with_reducible rfl
       rotate_left
       ·simp only [Act.put, List.setIfInBounds_toArray, List.set_cons_zero, List.set_cons_succ, i64_w, i32_w]
        rfl
       refine join_ (σ := Value × Value × Nat) 1 #[tt,tt,tt,tt,tt,tt,tt,tt,tt,ff] (fun s_ => [(28, s_.1), (32, s_.2.1), (9, .pointer (some ⟨s_.2.2, 0, none⟩)), (33, .agg #[.int .i64 a1_0, s_.2.1])]) (fun s_ w' => (w'.cell? ⟨gb387, 0, none⟩ = some (.int .i64 a1_0) ∧ w'.cell? ⟨gb387, 1, none⟩ = some (.slice A1_1 l1_1.length c1_1)) ∧ (Kd.V (Kd.int .i64) 3 w' w.heap.size (fun k_ => (P1_1_ k_ ∨ w.heap.size ≤ k_) ∧ some k_ ≠ (s_.2.1 : Value).ownBlock ∧ k_ ≠ gb386 ∧ k_ ≠ gb387 ∧ k_ ≠ gb388 ∧ k_ ≠ s_.2.2) (.slice A71 y393.length c71) y393) ∧ (Kd.R (Kd.int .i64) 3 w' w.heap.size (fun k_ => (w.heap.size ≤ k_)) s_.2.1 y398) ∧ (Kd.V (Kd.int .i64) 3 w' w.heap.size (fun k_ => (P1_1_ k_ ∨ w.heap.size ≤ k_) ∧ some k_ ≠ (s_.2.1 : Value).ownBlock ∧ k_ ≠ gb386 ∧ k_ ≠ gb387 ∧ k_ ≠ gb388 ∧ k_ ≠ s_.2.2) (.slice A1_1 l1_1.length c1_1) l1_1) ∧ (w'.heap[gb386]? = some (.cells #[.int .i64 a0_0, .int .i64 a0_1, .int .i64 a0_2, .slice A0_3 l0_3.length c0_3, .slice A0_4 l0_4.length c0_4] 24 (0, 0))) ∧ (w'.heap[gb387]? = some (.cells #[.int .i64 a1_0, .slice A1_1 l1_1.length c1_1] 26 (0, 0))) ∧ (w'.heap[gb388]? = some (.cells #[.int .i64 0, .slice none 0 0] 26 (0, 0))) ∧ (w'.heap[s_.2.2]? = some (.cells #[.int .i64 0, .slice none 0 0] 26 (0, 0))) ∧ (w.heap.size ≤ s_.2.2) ∧ (w.heap.size ≤ s_.2.2) ∧ (gb386 ≠ s_.2.2) ∧ (s_.2.2 ≠ gb386) ∧ (gb387 ≠ s_.2.2) ∧ (s_.2.2 ≠ gb387) ∧ (gb388 ≠ s_.2.2) ∧ (s_.2.2 ≠ gb388) ∧ (Below w.heap.size w w')) ?_ ?_
       rotate_left
       ·intro hCont
        refine two_ (i := 2) (j := 8) (Ni := some 28) (Nj := some 9) #[tt,tt,tt,tt,tt,tt,ff,ff,ff,ff] #[tt,tt,ff,tt,tt,tt,ff,ff,tt,ff] rfl rfl rfl rfl (two_of HT_.out (by kernel_rfl)) (by decide) (by decide) (fun K hK => ?_) (fun K hK => ?_)
        ·skip
         refine Kd.R_lit_step (Kd.int .i64) _ 3 ?hg (N := 28) ?hd (xs := ([] : List Int)) (inner := []) (ok := fun _ => True) (okp := fun _ => True) ?hr ?hp (fun _ hk => hk) trivial (Below.refl _ _) (Nat.le_refl _) (by simp) ?_; (case hd => rfl); (case hg => rfl); (case hr => first | (go_simp; done) | (go_simp; rfl)); (case hp => exact (Reps.none _ _))
         intro v391 w72 ho73 hb hg_ hnew_
         clear hg_ hnew_
         (first | rw [← Ny390.out] at ho73 | (simp only [Int.reduceToNat] at ho73; rw [← Ny390.out] at ho73))
         replace HO_388001 := Aside0.mk (Kd.V_elder' HO_388001.out (Kd.R_base ho73) hb)
         replace HO397 := Aside0.mk (Kd.V_elder' HO397.out (Kd.R_base ho73) hb)
         have HO392 := Aside0.mk (Kd.R_lower (Kd.R_newM (M := fun k_ => (w.heap.size ≤ k_)) ho73 (below_size HB.out) (fun k_ h_ => h_)) (below_size HB.out))
         replace BK386 := Aside0.mk (blk_below BK386.out hb)
         replace BK387 := Aside0.mk (blk_below BK387.out hb)
         replace BK388 := Aside0.mk (blk_below BK388.out hb)
         replace HB := Aside0.mk (below_step HB.out hb)
         clear hb ho73
         refine hK.out _ _ ⟨(blk_cell BK387.out 0).trans rfl, (blk_cell BK387.out 1).trans rfl⟩ (fun hHeld => ?_)
         clear hK K
         refine norm_ (a' := ?_) ?_ ?_
         rotate_left
         ·show Act.put _ (some 28) _ = _
          simp only [Act.put, List.setIfInBounds_toArray, List.set_cons_zero, List.set_cons_succ, i64_w, i32_w]
          rfl
         refine two_ (i := 6) (j := 8) (Ni := some 32) (Nj := some 9) #[tt,tt,tt,tt,tt,tt,tt,ff,ff,ff] #[tt,tt,tt,tt,tt,tt,ff,ff,tt,ff] rfl rfl rfl rfl (two_of HT_.out (by kernel_rfl)) (by decide) (by decide) (fun K hK => ?_) (fun K hK => ?_)
         ·skip
          refine Kd.R_append_rows_step (Kd.int .i64) (w0 := w) w.heap.size (by rfl) (.tmp 28) (.tmp 31) 22 3 (.int .i64 0) 8 rfl Tryz.underlying22 info3 rfl (by decide) (by omega) v391 y390 y393 _ _ _ (fun k_ => (w.heap.size ≤ k_)) (fun _ => False) rfl rfl ?aO ?aR (fun _ _ h => h) (fun _ h => h.elim) ?aF ?aB ?aS ?aL ?_
          (case aR => repeat (first | exact (Kd.V_reads' HO397.out).2.2 | (with_reducible refine Kd.C_alloc ?_ _) | (with_reducible refine Kd.C_drewN ?_ _) | (with_reducible refine Kd.C_drew ?_)))
          (case aB => exact HB.out)
          (case aF => exact (fun k_ hk => (Nat.le_trans (below_size HB.out) hk)))
          (case aO => exact (by (with_reducible repeat (first | apply Kd.R_alloc | apply Kd.R_drewN | apply Kd.R_drew)); exact Kd.R_mono HO392.out (fun _ hk => hk.1)))
          (case aS => exact (below_size HB.out))
          (case aL => have := LMc26.out; omega)
          intro v399 w74 ho hb hg hat
          rw [← Ny398.out] at ho
          replace HO_388001 := Aside0.mk (Kd.V_afterv (ok := (fun k_ => (P1_1_ k_ ∨ w.heap.size ≤ k_) ∧ k_ ≠ gb386 ∧ k_ ≠ gb387 ∧ k_ ≠ gb388)) HO_388001.out hg hat)
          replace BK386 := Aside0.mk (blk_grown BK386.out hg (Kd.R_ne HO392.out BK386.out (by decide)))
          replace BK387 := Aside0.mk (blk_grown BK387.out hg (Kd.R_ne HO392.out BK387.out (by decide)))
          replace BK388 := Aside0.mk (blk_grown BK388.out hg (Kd.R_ne HO392.out BK388.out (by decide)))
          replace HO397 := Aside0.mk (Kd.V_afterv (ok := (fun k_ => (P1_1_ k_ ∨ w.heap.size ≤ k_) ∧ k_ ≠ gb386 ∧ k_ ≠ gb387 ∧ k_ ≠ gb388)) HO397.out hg hat)
          replace HB := Aside0.mk (hb)
          have HO400 := Aside0.mk (ho)
          clear HO392
          clear ho hb hg hat
          obtain ⟨Ao75, co75, eo75⟩ := Kd.R_slice HO400.out
          (first | subst eo75 | (injection eo75 with f1_ f2_ f3_; have f4_ := f1_.symm; have f5_ := f3_.symm; clear f1_ f2_ f3_; subst f4_; subst f5_))
          refine hK.out _ _ ⟨(blk_cell BK387.out 0).trans rfl, (blk_cell BK387.out 1).trans rfl⟩ (fun hHeld => ?_)
          clear hK K
          refine norm_ (a' := ?_) ?_ ?_
          rotate_left
          ·show Act.put _ (some 32) _ = _
           simp only [Act.put, List.setIfInBounds_toArray, List.set_cons_zero, List.set_cons_succ, i64_w, i32_w]
           rfl
          refine pure_ (i := 7) (N := some 33) (v := ?_) (a' := ?_) #[tt,tt,tt,tt,tt,tt,tt,tt,ff,ff] rfl rfl (any_of HT_.out (by kernel_rfl)) (fun _ _ _ h => h) (Or.inl ⟨by rfl, ?_⟩) ?_ ?_
          rotate_left
          ·intro w'
           go_simp
           with_reducible rfl
          rotate_left
          ·simp only [Act.put, List.setIfInBounds_toArray, List.set_cons_zero, List.set_cons_succ, i64_w, i32_w]
           rfl
          refine one_ (i := 8) (N := some 9) #[tt,tt,tt,tt,tt,tt,tt,tt,tt,ff] rfl rfl (one_of HT_.out (by kernel_rfl)) (by decide) (fun K hK => ?_)
          refine box_step ?hg (N := 9) ?hd (cs := #[.int .i64 0, .slice none 0 0]) (t := 26) ?hr ?_; (case hd => rfl); (case hg => rfl); (case hr => first | (go_simp; done) | (go_simp; rfl))
          intro gb401 hg w76 hbox hb
          replace HO_388001 := Aside0.mk (Kd.V_below (Kd.V_elderB HO_388001.out gb401 (Nat.le_of_eq hg.symm)) hb)
          replace HO397 := Aside0.mk (Kd.V_below (Kd.V_elderB HO397.out gb401 (Nat.le_of_eq hg.symm)) hb)
          replace HO400 := Aside0.mk (Kd.R_below HO400.out hb)
          have BK401 := Aside0.mk (hbox)
          have GW401 := Aside0.mk ((by rw [hg]; exact (below_size HB.out) : w.heap.size ≤ gb401))
          have GE401 := Aside0.mk ((by rw [hg]; exact (below_size HB.out) : w.heap.size ≤ gb401))
          replace HB := Aside0.mk (below_step HB.out hb)
          have NB386_401 := Aside0.mk ((by rw [hg]; exact Nat.ne_of_lt (blk_lt BK386.out) : gb386 ≠ gb401))
          have NB401_386 := Aside0.mk ((by rw [hg]; exact Nat.ne_of_gt (blk_lt BK386.out) : gb401 ≠ gb386))
          replace BK386 := Aside0.mk (blk_below BK386.out hb)
          have NB387_401 := Aside0.mk ((by rw [hg]; exact Nat.ne_of_lt (blk_lt BK387.out) : gb387 ≠ gb401))
          have NB401_387 := Aside0.mk ((by rw [hg]; exact Nat.ne_of_gt (blk_lt BK387.out) : gb401 ≠ gb387))
          replace BK387 := Aside0.mk (blk_below BK387.out hb)
          have NB388_401 := Aside0.mk ((by rw [hg]; exact Nat.ne_of_lt (blk_lt BK388.out) : gb388 ≠ gb401))
          have NB401_388 := Aside0.mk ((by rw [hg]; exact Nat.ne_of_gt (blk_lt BK388.out) : gb401 ≠ gb388))
          replace BK388 := Aside0.mk (blk_below BK388.out hb)
          clear hb hbox hg
          refine hK.out _ _ ⟨(blk_cell BK387.out 0).trans rfl, (blk_cell BK387.out 1).trans rfl⟩ (fun hHeld => ?_)
          clear hK K
          refine norm_ (a' := ?_) ?_ ?_
          rotate_left
          ·show Act.put _ (some 9) _ = _
           simp only [Act.put, List.setIfInBounds_toArray, List.set_cons_zero, List.set_cons_succ, i64_w, i32_w]
           rfl
          exact norm_ (by simp only [putAll, Act.put, List.setIfInBounds_toArray, List.set_cons_zero, List.set_cons_succ]) (hCont (v391, .slice Ao75 y398.length co75, gb401) _ ⟨hHeld, (by (with_reducible repeat (first | apply Kd.V_alloc | apply Kd.V_drewN | apply Kd.V_drew)); exact Kd.V_mono HO397.out (fun _ hk => ⟨hk.1.1.1, ⟨hk.1.2, ⟨hk.1.1.2.1, ⟨hk.1.1.2.2.1, ⟨hk.1.1.2.2.2, hk.2⟩⟩⟩⟩⟩)), HO400.out, (by (with_reducible repeat (first | apply Kd.V_alloc | apply Kd.V_drewN | apply Kd.V_drew)); exact Kd.V_mono HO_388001.out (fun _ hk => ⟨hk.1.1.1, ⟨hk.1.2, ⟨hk.1.1.2.1, ⟨hk.1.1.2.2.1, ⟨hk.1.1.2.2.2, hk.2⟩⟩⟩⟩⟩)), BK386.out, BK387.out, BK388.out, BK401.out, GW401.out, GE401.out, NB386_401.out, NB401_386.out, NB387_401.out, NB401_387.out, NB388_401.out, NB401_388.out, HB.out⟩)
         ·skip
          refine box_step ?hg (N := 9) ?hd (cs := #[.int .i64 0, .slice none 0 0]) (t := 26) ?hr ?_; (case hd => rfl); (case hg => rfl); (case hr => first | (go_simp; done) | (go_simp; rfl))
          intro gb401 hg w74 hbox hb
          replace HO_388001 := Aside0.mk (Kd.V_below (Kd.V_elderB HO_388001.out gb401 (Nat.le_of_eq hg.symm)) hb)
          replace HO397 := Aside0.mk (Kd.V_below (Kd.V_elderB HO397.out gb401 (Nat.le_of_eq hg.symm)) hb)
          replace HO392 := Aside0.mk (Kd.R_below HO392.out hb)
          have BK401 := Aside0.mk (hbox)
          have GW401 := Aside0.mk ((by rw [hg]; exact (below_size HB.out) : w.heap.size ≤ gb401))
          have GE401 := Aside0.mk ((by rw [hg]; exact (below_size HB.out) : w.heap.size ≤ gb401))
          replace HB := Aside0.mk (below_step HB.out hb)
          have NB386_401 := Aside0.mk ((by rw [hg]; exact Nat.ne_of_lt (blk_lt BK386.out) : gb386 ≠ gb401))
          have NB401_386 := Aside0.mk ((by rw [hg]; exact Nat.ne_of_gt (blk_lt BK386.out) : gb401 ≠ gb386))
          replace BK386 := Aside0.mk (blk_below BK386.out hb)
          have NB387_401 := Aside0.mk ((by rw [hg]; exact Nat.ne_of_lt (blk_lt BK387.out) : gb387 ≠ gb401))
          have NB401_387 := Aside0.mk ((by rw [hg]; exact Nat.ne_of_gt (blk_lt BK387.out) : gb401 ≠ gb387))
          replace BK387 := Aside0.mk (blk_below BK387.out hb)
          have NB388_401 := Aside0.mk ((by rw [hg]; exact Nat.ne_of_lt (blk_lt BK388.out) : gb388 ≠ gb401))
          have NB401_388 := Aside0.mk ((by rw [hg]; exact Nat.ne_of_gt (blk_lt BK388.out) : gb401 ≠ gb388))
          replace BK388 := Aside0.mk (blk_below BK388.out hb)
          clear hb hbox hg
          refine hK.out _ _ ⟨(blk_cell BK387.out 0).trans rfl, (blk_cell BK387.out 1).trans rfl⟩ (fun hHeld => ?_)
          clear hK K
          refine norm_ (a' := ?_) ?_ ?_
          rotate_left
          ·show Act.put _ (some 9) _ = _
           simp only [Act.put, List.setIfInBounds_toArray, List.set_cons_zero, List.set_cons_succ, i64_w, i32_w]
           rfl
          refine one_ (i := 6) (N := some 32) #[tt,tt,tt,tt,tt,tt,tt,ff,tt,ff] rfl rfl (one_of HT_.out (by kernel_rfl)) (by decide) (fun K hK => ?_)
          refine Kd.R_append_rows_step (Kd.int .i64) (w0 := w) w.heap.size (by rfl) (.tmp 28) (.tmp 31) 22 3 (.int .i64 0) 8 rfl Tryz.underlying22 info3 rfl (by decide) (by omega) v391 y390 y393 _ _ _ (fun k_ => (w.heap.size ≤ k_)) (fun _ => False) rfl rfl ?aO ?aR (fun _ _ h => h) (fun _ h => h.elim) ?aF ?aB ?aS ?aL ?_
          (case aR => repeat (first | exact (Kd.V_reads' HO397.out).2.2 | (with_reducible refine Kd.C_alloc ?_ _) | (with_reducible refine Kd.C_drewN ?_ _) | (with_reducible refine Kd.C_drew ?_)))
          (case aB => exact HB.out)
          (case aF => exact (fun k_ hk => (Nat.le_trans (below_size HB.out) hk)))
          (case aO => exact (by (with_reducible repeat (first | apply Kd.R_alloc | apply Kd.R_drewN | apply Kd.R_drew)); exact Kd.R_mono HO392.out (fun _ hk => hk.1)))
          (case aS => exact (below_size HB.out))
          (case aL => have := LMc26.out; omega)
          intro v399 w75 ho hb hg hat
          rw [← Ny398.out] at ho
          replace HO_388001 := Aside0.mk (Kd.V_afterv (ok := (fun k_ => (P1_1_ k_ ∨ w.heap.size ≤ k_) ∧ k_ ≠ gb386 ∧ k_ ≠ gb387 ∧ k_ ≠ gb388 ∧ k_ ≠ gb401)) (by (with_reducible repeat (first | apply Kd.V_alloc | apply Kd.V_drewN | apply Kd.V_drew)); exact Kd.V_mono HO_388001.out (fun _ hk => ⟨⟨hk.1.1.1, ⟨hk.1.1.2.1, ⟨hk.1.1.2.2.1, ⟨hk.1.1.2.2.2, hk.2⟩⟩⟩⟩, hk.1.2⟩)) hg hat)
          replace BK386 := Aside0.mk (blk_grown BK386.out hg (Kd.R_ne HO392.out BK386.out (by decide)))
          replace BK387 := Aside0.mk (blk_grown BK387.out hg (Kd.R_ne HO392.out BK387.out (by decide)))
          replace BK388 := Aside0.mk (blk_grown BK388.out hg (Kd.R_ne HO392.out BK388.out (by decide)))
          replace HO397 := Aside0.mk (Kd.V_afterv (ok := (fun k_ => (P1_1_ k_ ∨ w.heap.size ≤ k_) ∧ k_ ≠ gb386 ∧ k_ ≠ gb387 ∧ k_ ≠ gb388 ∧ k_ ≠ gb401)) (by (with_reducible repeat (first | apply Kd.V_alloc | apply Kd.V_drewN | apply Kd.V_drew)); exact Kd.V_mono HO397.out (fun _ hk => ⟨⟨hk.1.1.1, ⟨hk.1.1.2.1, ⟨hk.1.1.2.2.1, ⟨hk.1.1.2.2.2, hk.2⟩⟩⟩⟩, hk.1.2⟩)) hg hat)
          replace BK401 := Aside0.mk (blk_grown BK401.out hg (Kd.R_ne HO392.out BK401.out (by decide)))
          replace HB := Aside0.mk (hb)
          have HO400 := Aside0.mk (ho)
          clear HO392
          clear ho hb hg hat
          obtain ⟨Ao76, co76, eo76⟩ := Kd.R_slice HO400.out
          (first | subst eo76 | (injection eo76 with f1_ f2_ f3_; have f4_ := f1_.symm; have f5_ := f3_.symm; clear f1_ f2_ f3_; subst f4_; subst f5_))
          refine hK.out _ _ ⟨(blk_cell BK387.out 0).trans rfl, (blk_cell BK387.out 1).trans rfl⟩ (fun hHeld => ?_)
          clear hK K
          refine norm_ (a' := ?_) ?_ ?_
          rotate_left
          ·show Act.put _ (some 32) _ = _
           simp only [Act.put, List.setIfInBounds_toArray, List.set_cons_zero, List.set_cons_succ, i64_w, i32_w]
           rfl
          refine pure_ (i := 7) (N := some 33) (v := ?_) (a' := ?_) #[tt,tt,tt,tt,tt,tt,tt,tt,tt,ff] rfl rfl (any_of HT_.out (by kernel_rfl)) (fun _ _ _ h => h) (Or.inl ⟨by rfl, ?_⟩) ?_ ?_
          rotate_left
          ·intro w'
           go_simp
           with_reducible rfl
          rotate_left
          ·simp only [Act.put, List.setIfInBounds_toArray, List.set_cons_zero, List.set_cons_succ, i64_w, i32_w]
           rfl
          exact norm_ (by simp only [putAll, Act.put, List.setIfInBounds_toArray, List.set_cons_zero, List.set_cons_succ]) (hCont (v391, .slice Ao76 y398.length co76, gb401) _ ⟨hHeld, (by (with_reducible repeat (first | apply Kd.V_alloc | apply Kd.V_drewN | apply Kd.V_drew)); exact Kd.V_mono HO397.out (fun _ hk => ⟨hk.1.1, ⟨hk.2, ⟨hk.1.2.1, ⟨hk.1.2.2.1, ⟨hk.1.2.2.2.1, hk.1.2.2.2.2⟩⟩⟩⟩⟩)), HO400.out, (by (with_reducible repeat (first | apply Kd.V_alloc | apply Kd.V_drewN | apply Kd.V_drew)); exact Kd.V_mono HO_388001.out (fun _ hk => ⟨hk.1.1, ⟨hk.2, ⟨hk.1.2.1, ⟨hk.1.2.2.1, ⟨hk.1.2.2.2.1, hk.1.2.2.2.2⟩⟩⟩⟩⟩)), BK386.out, BK387.out, BK388.out, BK401.out, GW401.out, GE401.out, NB386_401.out, NB401_386.out, NB387_401.out, NB401_387.out, NB388_401.out, NB401_388.out, HB.out⟩)
        ·skip
         refine box_step ?hg (N := 9) ?hd (cs := #[.int .i64 0, .slice none 0 0]) (t := 26) ?hr ?_; (case hd => rfl); (case hg => rfl); (case hr => first | (go_simp; done) | (go_simp; rfl))
         intro gb401 hg w72 hbox hb
         replace HO_388001 := Aside0.mk (Kd.V_below (Kd.V_elderB HO_388001.out gb401 (Nat.le_of_eq hg.symm)) hb)
         replace HO397 := Aside0.mk (Kd.V_below (Kd.V_elderB HO397.out gb401 (Nat.le_of_eq hg.symm)) hb)
         have BK401 := Aside0.mk (hbox)
         have GW401 := Aside0.mk ((by rw [hg]; exact (below_size HB.out) : w.heap.size ≤ gb401))
         have GE401 := Aside0.mk ((by rw [hg]; exact (below_size HB.out) : w.heap.size ≤ gb401))
         replace HB := Aside0.mk (below_step HB.out hb)
         have NB386_401 := Aside0.mk ((by rw [hg]; exact Nat.ne_of_lt (blk_lt BK386.out) : gb386 ≠ gb401))
         have NB401_386 := Aside0.mk ((by rw [hg]; exact Nat.ne_of_gt (blk_lt BK386.out) : gb401 ≠ gb386))
         replace BK386 := Aside0.mk (blk_below BK386.out hb)
         have NB387_401 := Aside0.mk ((by rw [hg]; exact Nat.ne_of_lt (blk_lt BK387.out) : gb387 ≠ gb401))
         have NB401_387 := Aside0.mk ((by rw [hg]; exact Nat.ne_of_gt (blk_lt BK387.out) : gb401 ≠ gb387))
         replace BK387 := Aside0.mk (blk_below BK387.out hb)
         have NB388_401 := Aside0.mk ((by rw [hg]; exact Nat.ne_of_lt (blk_lt BK388.out) : gb388 ≠ gb401))
         have NB401_388 := Aside0.mk ((by rw [hg]; exact Nat.ne_of_gt (blk_lt BK388.out) : gb401 ≠ gb388))
         replace BK388 := Aside0.mk (blk_below BK388.out hb)
         clear hb hbox hg
         refine hK.out _ _ ⟨(blk_cell BK387.out 0).trans rfl, (blk_cell BK387.out 1).trans rfl⟩ (fun hHeld => ?_)
         clear hK K
         refine norm_ (a' := ?_) ?_ ?_
         rotate_left
         ·show Act.put _ (some 9) _ = _
          simp only [Act.put, List.setIfInBounds_toArray, List.set_cons_zero, List.set_cons_succ, i64_w, i32_w]
          rfl
         refine one_ (i := 2) (N := some 28) #[tt,tt,tt,tt,tt,tt,ff,ff,tt,ff] rfl rfl (one_of HT_.out (by kernel_rfl)) (by decide) (fun K hK => ?_)
         refine Kd.R_lit_step (Kd.int .i64) _ 3 ?hg (N := 28) ?hd (xs := ([] : List Int)) (inner := []) (ok := fun _ => True) (okp := fun _ => True) ?hr ?hp (fun _ hk => hk) trivial (Below.refl _ _) (Nat.le_refl _) (by simp) ?_; (case hd => rfl); (case hg => rfl); (case hr => first | (go_simp; done) | (go_simp; rfl)); (case hp => exact (Reps.none _ _))
         intro v391 w73 ho74 hb hg_ hnew_
         clear hg_ hnew_
         (first | rw [← Ny390.out] at ho74 | (simp only [Int.reduceToNat] at ho74; rw [← Ny390.out] at ho74))
         replace HO_388001 := Aside0.mk (Kd.V_elder' HO_388001.out (Kd.R_base ho74) hb)
         replace HO397 := Aside0.mk (Kd.V_elder' HO397.out (Kd.R_base ho74) hb)
         have HO392 := Aside0.mk (Kd.R_lower (Kd.R_newM (M := fun k_ => (w.heap.size ≤ k_)) ho74 (below_size HB.out) (fun k_ h_ => h_)) (below_size HB.out))
         replace BK386 := Aside0.mk (blk_below BK386.out hb)
         replace BK387 := Aside0.mk (blk_below BK387.out hb)
         replace BK388 := Aside0.mk (blk_below BK388.out hb)
         replace BK401 := Aside0.mk (blk_below BK401.out hb)
         replace HB := Aside0.mk (below_step HB.out hb)
         clear hb ho74
         refine hK.out _ _ ⟨(blk_cell BK387.out 0).trans rfl, (blk_cell BK387.out 1).trans rfl⟩ (fun hHeld => ?_)
         clear hK K
         refine norm_ (a' := ?_) ?_ ?_
         rotate_left
         ·show Act.put _ (some 28) _ = _
          simp only [Act.put, List.setIfInBounds_toArray, List.set_cons_zero, List.set_cons_succ, i64_w, i32_w]
          rfl
         refine one_ (i := 6) (N := some 32) #[tt,tt,tt,tt,tt,tt,tt,ff,tt,ff] rfl rfl (one_of HT_.out (by kernel_rfl)) (by decide) (fun K hK => ?_)
         refine Kd.R_append_rows_step (Kd.int .i64) (w0 := w) w.heap.size (by rfl) (.tmp 28) (.tmp 31) 22 3 (.int .i64 0) 8 rfl Tryz.underlying22 info3 rfl (by decide) (by omega) v391 y390 y393 _ _ _ (fun k_ => (w.heap.size ≤ k_)) (fun _ => False) rfl rfl ?aO ?aR (fun _ _ h => h) (fun _ h => h.elim) ?aF ?aB ?aS ?aL ?_
         (case aR => repeat (first | exact (Kd.V_reads' HO397.out).2.2 | (with_reducible refine Kd.C_alloc ?_ _) | (with_reducible refine Kd.C_drewN ?_ _) | (with_reducible refine Kd.C_drew ?_)))
         (case aB => exact HB.out)
         (case aF => exact (fun k_ hk => (Nat.le_trans (below_size HB.out) hk)))
         (case aO => exact (by (with_reducible repeat (first | apply Kd.R_alloc | apply Kd.R_drewN | apply Kd.R_drew)); exact Kd.R_mono HO392.out (fun _ hk => hk.1)))
         (case aS => exact (below_size HB.out))
         (case aL => have := LMc26.out; omega)
         intro v399 w75 ho hb hg hat
         rw [← Ny398.out] at ho
         replace HO_388001 := Aside0.mk (Kd.V_afterv (ok := (fun k_ => (P1_1_ k_ ∨ w.heap.size ≤ k_) ∧ k_ ≠ gb386 ∧ k_ ≠ gb387 ∧ k_ ≠ gb388 ∧ k_ ≠ gb401)) (by (with_reducible repeat (first | apply Kd.V_alloc | apply Kd.V_drewN | apply Kd.V_drew)); exact Kd.V_mono HO_388001.out (fun _ hk => ⟨⟨hk.1.1.1, ⟨hk.1.1.2.1, ⟨hk.1.1.2.2.1, ⟨hk.1.1.2.2.2, hk.1.2⟩⟩⟩⟩, hk.2⟩)) hg hat)
         replace BK386 := Aside0.mk (blk_grown BK386.out hg (Kd.R_ne HO392.out BK386.out (by decide)))
         replace BK387 := Aside0.mk (blk_grown BK387.out hg (Kd.R_ne HO392.out BK387.out (by decide)))
         replace BK388 := Aside0.mk (blk_grown BK388.out hg (Kd.R_ne HO392.out BK388.out (by decide)))
         replace HO397 := Aside0.mk (Kd.V_afterv (ok := (fun k_ => (P1_1_ k_ ∨ w.heap.size ≤ k_) ∧ k_ ≠ gb386 ∧ k_ ≠ gb387 ∧ k_ ≠ gb388 ∧ k_ ≠ gb401)) (by (with_reducible repeat (first | apply Kd.V_alloc | apply Kd.V_drewN | apply Kd.V_drew)); exact Kd.V_mono HO397.out (fun _ hk => ⟨⟨hk.1.1.1, ⟨hk.1.1.2.1, ⟨hk.1.1.2.2.1, ⟨hk.1.1.2.2.2, hk.1.2⟩⟩⟩⟩, hk.2⟩)) hg hat)
         replace BK401 := Aside0.mk (blk_grown BK401.out hg (Kd.R_ne HO392.out BK401.out (by decide)))
         replace HB := Aside0.mk (hb)
         have HO400 := Aside0.mk (ho)
         clear HO392
         clear ho hb hg hat
         obtain ⟨Ao76, co76, eo76⟩ := Kd.R_slice HO400.out
         (first | subst eo76 | (injection eo76 with f1_ f2_ f3_; have f4_ := f1_.symm; have f5_ := f3_.symm; clear f1_ f2_ f3_; subst f4_; subst f5_))
         refine hK.out _ _ ⟨(blk_cell BK387.out 0).trans rfl, (blk_cell BK387.out 1).trans rfl⟩ (fun hHeld => ?_)
         clear hK K
         refine norm_ (a' := ?_) ?_ ?_
         rotate_left
         ·show Act.put _ (some 32) _ = _
          simp only [Act.put, List.setIfInBounds_toArray, List.set_cons_zero, List.set_cons_succ, i64_w, i32_w]
          rfl
         refine pure_ (i := 7) (N := some 33) (v := ?_) (a' := ?_) #[tt,tt,tt,tt,tt,tt,tt,tt,tt,ff] rfl rfl (any_of HT_.out (by kernel_rfl)) (fun _ _ _ h => h) (Or.inl ⟨by rfl, ?_⟩) ?_ ?_
         rotate_left
         ·intro w'
          go_simp
          with_reducible rfl
         rotate_left
         ·simp only [Act.put, List.setIfInBounds_toArray, List.set_cons_zero, List.set_cons_succ, i64_w, i32_w]
          rfl
         exact norm_ (by simp only [putAll, Act.put, List.setIfInBounds_toArray, List.set_cons_zero, List.set_cons_succ]) (hCont (v391, .slice Ao76 y398.length co76, gb401) _ ⟨hHeld, (by (with_reducible repeat (first | apply Kd.V_alloc | apply Kd.V_drewN | apply Kd.V_drew)); exact Kd.V_mono HO397.out (fun _ hk => ⟨hk.1.1, ⟨hk.2, ⟨hk.1.2.1, ⟨hk.1.2.2.1, ⟨hk.1.2.2.2.1, hk.1.2.2.2.2⟩⟩⟩⟩⟩)), HO400.out, (by (with_reducible repeat (first | apply Kd.V_alloc | apply Kd.V_drewN | apply Kd.V_drew)); exact Kd.V_mono HO_388001.out (fun _ hk => ⟨hk.1.1, ⟨hk.2, ⟨hk.1.2.1, ⟨hk.1.2.2.1, ⟨hk.1.2.2.2.1, hk.1.2.2.2.2⟩⟩⟩⟩⟩)), BK386.out, BK387.out, BK388.out, BK401.out, GW401.out, GE401.out, NB386_401.out, NB401_386.out, NB387_401.out, NB401_387.out, NB388_401.out, NB401_388.out, HB.out⟩)
       rintro ⟨v391, v399, gb401⟩ w77 ⟨hS_, h0_, h1_, h2_, h3_, h4_, h5_, h6_, h7_, h8_, h9_, h10_, h11_, h12_, h13_, h14_, h15_⟩
       have n0_ : Aside0 (Kd.V (Kd.int .i64) 3 w77 w.heap.size (fun k_ => (P1_1_ k_ ∨ w.heap.size ≤ k_) ∧ some k_ ≠ (v399 : Value).ownBlock ∧ k_ ≠ gb386 ∧ k_ ≠ gb387 ∧ k_ ≠ gb388 ∧ k_ ≠ gb401) (.slice A71 y393.length c71) y393) := ⟨h0_⟩
       have n1_ : Aside0 (Kd.R (Kd.int .i64) 3 w77 w.heap.size (fun k_ => (w.heap.size ≤ k_)) v399 y398) := ⟨h1_⟩
       have n2_ : Aside0 (Kd.V (Kd.int .i64) 3 w77 w.heap.size (fun k_ => (P1_1_ k_ ∨ w.heap.size ≤ k_) ∧ some k_ ≠ (v399 : Value).ownBlock ∧ k_ ≠ gb386 ∧ k_ ≠ gb387 ∧ k_ ≠ gb388 ∧ k_ ≠ gb401) (.slice A1_1 l1_1.length c1_1) l1_1) := ⟨h2_⟩
       have n3_ : Aside0 (w77.heap[gb386]? = some (.cells #[.int .i64 a0_0, .int .i64 a0_1, .int .i64 a0_2, .slice A0_3 l0_3.length c0_3, .slice A0_4 l0_4.length c0_4] 24 (0, 0))) := ⟨h3_⟩
       have n4_ : Aside0 (w77.heap[gb387]? = some (.cells #[.int .i64 a1_0, .slice A1_1 l1_1.length c1_1] 26 (0, 0))) := ⟨h4_⟩
       have n5_ : Aside0 (w77.heap[gb388]? = some (.cells #[.int .i64 0, .slice none 0 0] 26 (0, 0))) := ⟨h5_⟩
       have n6_ : Aside0 (w77.heap[gb401]? = some (.cells #[.int .i64 0, .slice none 0 0] 26 (0, 0))) := ⟨h6_⟩
       have n7_ : Aside0 (w.heap.size ≤ gb401) := ⟨h7_⟩
       have n8_ : Aside0 (w.heap.size ≤ gb401) := ⟨h8_⟩
       have n9_ : Aside0 (gb386 ≠ gb401) := ⟨h9_⟩
       have n10_ : Aside0 (gb401 ≠ gb386) := ⟨h10_⟩
       have n11_ : Aside0 (gb387 ≠ gb401) := ⟨h11_⟩
       have n12_ : Aside0 (gb401 ≠ gb387) := ⟨h12_⟩
       have n13_ : Aside0 (gb388 ≠ gb401) := ⟨h13_⟩
       have n14_ : Aside0 (gb401 ≠ gb388) := ⟨h14_⟩
       have n15_ : Aside0 (Below w.heap.size w w77) := ⟨h15_⟩
       clear HO_388001
       clear BK386
       clear BK387
       clear BK388
       clear HB
       clear h0_ h1_ h2_ h3_ h4_ h5_ h6_ h7_ h8_ h9_ h10_ h11_ h12_ h13_ h14_ h15_
       have HO397 := n0_
       have HO400 := n1_
       have HO_388001 := n2_
       have BK386 := n3_
       have BK387 := n4_
       have BK388 := n5_
       have BK401 := n6_
       have GW401 := n7_
       have GE401 := n8_
       have NB386_401 := n9_
       have NB401_386 := n10_
       have NB387_401 := n11_
       have NB401_387 := n12_
       have NB388_401 := n13_
       have NB401_388 := n14_
       have HB := n15_
       clear n0_ n1_ n2_ n3_ n4_ n5_ n6_ n7_ n8_ n9_ n10_ n11_ n12_ n13_ n14_ n15_
       have hHeld : w77.cell? ⟨gb387, 0, none⟩ = some (.int .i64 a1_0) ∧ w77.cell? ⟨gb387, 1, none⟩ = some (.slice A1_1 l1_1.length c1_1) := hS_
       obtain ⟨Ao78, co78, eo78⟩ := Kd.R_slice HO400.out
       (first | subst eo78 | (injection eo78 with f1_ f2_ f3_; have f4_ := f1_.symm; have f5_ := f3_.symm; clear f1_ f2_ f3_; subst f4_; subst f5_))
       refine norm_ (a' := ?_) ?_ ?_
       rotate_left
       ·simp only [putAll, Act.put, List.setIfInBounds_toArray, List.set_cons_zero, List.set_cons_succ]
        rfl
       refine one_ (i := 9) (N := none) #[tt,tt,tt,tt,tt,tt,tt,tt,tt,tt] rfl rfl (one_of HT_.out (by kernel_rfl)) (by decide) (fun K hK => ?_)
       have hs79 : w77.cell? ⟨gb401, 0, none⟩ = some (.int .i64 0) := (blk_cell BK401.out 0).trans rfl
       have hfs79 := blk_frozen BK401.out 0
       have hns79_0 := NB386_401.out
       have hns79_1 := NB387_401.out
       have hns79_2 := NB388_401.out
       have hms79_0 := NB401_386.out
       have hms79_1 := NB401_387.out
       have hms79_2 := NB401_388.out
       have hs80 : w77.cell? ⟨gb401, 1, none⟩ = some (.slice none 0 0) := (blk_cell BK401.out 1).trans rfl
       have hfs80 := blk_frozen BK401.out 1
       have hns80_0 := NB386_401.out
       have hns80_1 := NB387_401.out
       have hns80_2 := NB388_401.out
       have hms80_0 := NB401_386.out
       have hms80_1 := NB401_387.out
       have hms80_2 := NB401_388.out
       refine skip_ (w1 := ?_) (by rfl) rfl ?_ ?_
       rotate_left
       ·go_simp
        rfl
       refine hK.out _ _ ⟨((cell_far (p := ⟨gb401, _, none⟩) NB387_401.out _).trans (((cell_far (p := ⟨gb401, _, none⟩) NB387_401.out _).trans (hHeld.1)))), ((cell_far (p := ⟨gb401, _, none⟩) NB387_401.out _).trans (((cell_far (p := ⟨gb401, _, none⟩) NB387_401.out _).trans (hHeld.2))))⟩ (fun hHeld => ?_)
       clear hK K
       refine done_ (done_of HT_.out (by kernel_rfl)) ?_
       have hnb81 := NB401_386.out
       have hnc81 := NB386_401.out
       have hnb82 := NB401_387.out
       have hnc82 := NB387_401.out
       have hnb83 := NB401_388.out
       have hnc83 := NB388_401.out
       have hcz84_0 : w77.cell? ⟨gb401, 0, none⟩ = some (.int .i64 0) := (blk_cell BK401.out 0).trans rfl
       have hcz84_1 : w77.cell? ⟨gb401, 1, none⟩ = some (.slice none 0 0) := (blk_cell BK401.out 1).trans rfl
       have hfz84_0 := blk_frozen BK401.out 0
       have hfz84_1 := blk_frozen BK401.out 1
       have hnb85 := NB388_386.out
       have hnc85 := NB386_388.out
       have hnb86 := NB388_387.out
       have hnc86 := NB387_388.out
       have hcz87_0 : w77.cell? ⟨gb388, 0, none⟩ = some (.int .i64 0) := (blk_cell BK388.out 0).trans rfl
       have hcz87_1 : w77.cell? ⟨gb388, 1, none⟩ = some (.slice none 0 0) := (blk_cell BK388.out 1).trans rfl
       have hfz87_0 := blk_frozen BK388.out 0
       have hfz87_1 := blk_frozen BK388.out 1
       try go_wp2
       refine bodyPost_ret (results_cell_row rfl _ _ gb388 26 #[.int .i64 a1_0, .slice Ao78 y398.length co78] (0, 0) _ rfl (by (with_reducible repeat (first | refine blk_drewN ?_ _ | refine blk_drew ?_ | refine blk_alloc ?_ _)); refine blk_put (cs := #[.int .i64 a1_0, .slice none 0 0]) ?_ 1 _ rfl; (with_reducible repeat (first | refine blk_drewN ?_ _ | refine blk_drew ?_ | refine blk_alloc ?_ _)); refine blk_put (cs := #[.int .i64 0, .slice none 0 0]) ?_ 0 _ rfl; (with_reducible repeat (first | refine blk_drewN ?_ _ | refine blk_drew ?_ | refine blk_alloc ?_ _)); refine blk_far ?_ NB388_401.out _; (with_reducible repeat (first | refine blk_drewN ?_ _ | refine blk_drew ?_ | refine blk_alloc ?_ _)); refine blk_far ?_ NB388_401.out _; (with_reducible repeat (first | refine blk_drewN ?_ _ | refine blk_drew ?_ | refine blk_alloc ?_ _)); exact BK388.out) Tryz.underlying26 rfl (by kernel_rfl)) rfl ?_
       exact ⟨_, by first | rfl | (simp [errW_none, errW_some] <;> rfl) | (simp [*, errW_none, errW_some] <;> rfl), Kd.V_mono (Kd.R_V (by (with_reducible repeat (first | apply Kd.R_alloc | apply Kd.R_drewN | apply Kd.R_drew)); exact Kd.R_mono (Kd.R_far (p := ⟨gb388, 1, none⟩) (Kd.R_far (p := ⟨gb388, 0, none⟩) (Kd.R_far (p := ⟨gb401, 1, none⟩) (Kd.R_far (p := ⟨gb401, 0, none⟩) (Kd.R_types (Kd.R_types HO400.out BK401.out (by decide)) BK388.out (by decide)) (fun _ hk => hk.1.2) (.int .i64 a1_0)) (fun _ hk => hk.1.2) (.slice Ao78 y398.length co78)) (fun _ hk => hk.2) (.int .i64 a1_0)) (fun _ hk => hk.2) (.slice Ao78 y398.length co78)) (fun _ hk => hk.1.1))) (fun k_ hk => by first | exact ⟨(.inr (hk.1)), hk.2⟩ | exact (.inr (hk))), by repeat (first | (with_reducible first | exact HB.out | apply below_alloc | apply pw_below_drewN | apply below_drew1 | refine below_set ?_ GE386.out | refine below_set ?_ GE387.out | refine below_set ?_ GE388.out | refine below_set ?_ GE401.out) | exact HB.out)⟩
     ·rw [if_neg c26] at H
      exact absurd H (by simp)
    ·rw [if_neg c25] at H
     exact absurd H (by simp)
end Go.Proofs.YtphcihbffiggbaaGreatDoor.PRt

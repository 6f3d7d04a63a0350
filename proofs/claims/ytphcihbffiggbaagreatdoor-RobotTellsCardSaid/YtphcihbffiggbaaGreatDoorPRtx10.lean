-- squeezed by a program of this claim's own (wip/tools/fit.py), after the kit's printer
import Derived.Test.YtphcihbffiggbaaGreatDoorPRtx0
import Derived.Test.YtphcihbffiggbaaGreatDoorPRtx9
namespace Go.Proofs.YtphcihbffiggbaaGreatDoor.PRt
open Go.RowKit Go.Proofs.YtphcihbffiggbaaGreatDoorW.PrintWords Go.Proofs.YtphcihbffiggbaaGreatDoorW.PrintLast Go.Proofs.YtphcihbffiggbaaGreatDoorW.PrintMore
attribute [local go_sem] max2_int min2_int max_two min_two max_three min_three max_four min_four   -- for this text's walks alone
set_option linter.unusedVariables false
set_option linter.unusedSimpArgs false
def taquinref07_Next.j0 : Nat → Int → Int → Int → Bool → Int → Int → Int → List Int → List Int → Option (Int × Bool)
 | 0, _, _, _, _, _, _, _, _, _ => none
 | k + 1, x1, x2, x8, x40, x275000, x275001, x275002, x275003, x275004 => if x40 = true then (some (0, false)) else (if x2 ≥ 4 then (if 0 ≤ x1 then (if x1 < (x275003.length : Int) then (if (rd x275003 x1) = 6 then (if 0 ≤ x8 then (if x8 < (x275003.length : Int) then (if (rd x275003 x8) = 6 then (some (x8, true)) else (some (0, false))) else (none)) else (none)) else (some (0, false))) else (none)) else (none)) else (some (x8, true)))
def taquinref07_Next.f (k : Nat) (a0_0 : Int) (a0_1 : Int) (a0_2 : Int) (l0_3 : List Int) (l0_4 : List Int) (a1 : Int) (a2 : Int) : Option (Int × Bool) := (taquinref07_Beside.f a0_0 a0_1 a0_2 l0_3 l0_4 a1 a2).bind fun t275 => (if t275 < 0 then (some (0, false)) else (if 0 ≤ a1 then (if a1 < (l0_3.length : Int) then (if (rd l0_3 a1) = 0 then (taquinref07_Next.j0 k a1 a2 t275 true a0_0 a0_1 a0_2 l0_3 l0_4) else (if 0 ≤ t275 then (if t275 < (l0_3.length : Int) then (if (rd l0_3 t275) = 0 then (taquinref07_Next.j0 k a1 a2 t275 true a0_0 a0_1 a0_2 l0_3 l0_4) else (if a1 < (l0_4.length : Int) then (if 0 ≤ (IntKind.u64.wrap (a2)) then (taquinref07_Next.j0 k a1 a2 t275 ((Go.bits .and .i64 (shr .i64 (rd l0_4 a1) (IntKind.u64.wrap (a2))) 1) == 0) a0_0 a0_1 a0_2 l0_3 l0_4) else (none)) else (none))) else (none)) else (none))) else (none)) else (none)))
theorem taquinref07_Next.mono_l : ∀ k, (∀ y0 y1 y2 y3 y4 y5 y6 y7 y8, LeO (taquinref07_Next.j0 k y0 y1 y2 y3 y4 y5 y6 y7 y8) (taquinref07_Next.j0 (k + 1) y0 y1 y2 y3 y4 y5 y6 y7 y8))
 | 0 => fun _ _ _ _ _ _ _ _ _ r h => by simp [taquinref07_Next.j0] at h
 | k + 1 => by
  have ih0 := taquinref07_Next.mono_l k
  ·intro y0 y1 y2 y3 y4 y5 y6 y7 y8
   unfold taquinref07_Next.j0
   repeat' first
   | (with_reducible exact ih0 _ _ _ _ _ _ _ _ _)
   | (with_reducible exact LeO.refl _)
   | (with_reducible exact LeO.none _)
   | (with_reducible refine LeO.ite ?_ ?_)
   | (with_reducible refine LeO.bind ?_ (fun _ => ?_))
   | exact ih0 _ _ _ _ _ _ _ _ _
   | exact LeO.none _
   | refine LeO.ite ?_ ?_
   | refine LeO.bind ?_ (fun _ => ?_)
theorem taquinref07_Next.mono : ∀ a0 a1 a2 a3 a4 a5 a6 k, LeO (taquinref07_Next.f k a0 a1 a2 a3 a4 a5 a6) (taquinref07_Next.f (k + 1) a0 a1 a2 a3 a4 a5 a6) := by
 intro a0 a1 a2 a3 a4 a5 a6 k
 have ih0 := taquinref07_Next.mono_l k
 unfold taquinref07_Next.f
 repeat' first
   | (with_reducible exact ih0 _ _ _ _ _ _ _ _ _)
   | (with_reducible exact LeO.refl _)
   | (with_reducible exact LeO.none _)
   | (with_reducible refine LeO.ite ?_ ?_)
   | (with_reducible refine LeO.bind ?_ (fun _ => ?_))
   | exact ih0 _ _ _ _ _ _ _ _ _
   | exact LeO.none _
   | refine LeO.ite ?_ ?_
   | refine LeO.bind ?_ (fun _ => ?_)
set_option maxHeartbeats 8000000 in
set_option maxRecDepth 100000 in
theorem taquinref07_Next.calls (k : Nat) (a0_0 : Int) (a0_1 : Int) (a0_2 : Int) (A0_3 : Option Addr) (c0_3 : Nat) (l0_3 : List Int) (A0_4 : Option Addr) (c0_4 : Nat) (l0_4 : List Int) (a1 : Int) (a2 : Int) (r1 : Int) (r2 : Bool) (w : World) (hr0_3 : Kd.C (Kd.int .i64) w A0_3 l0_3.length l0_3) (hc0_3 : l0_3.length ≤ c0_3) (hr0_4 : Kd.C (Kd.int .i64) w A0_4 l0_4.length l0_4) (hc0_4 : l0_4.length ≤ c0_4) (h : taquinref07_Next.f k a0_0 a0_1 a0_2 l0_3 l0_4 a1 a2 = some (r1, r2)) :
  Calls Tryz.prog 38 #[.agg #[.int .i64 a0_0, .int .i64 a0_1, .int .i64 a0_2, .slice A0_3 l0_3.length c0_3, .slice A0_4 l0_4.length c0_4], .int .i64 a1, .int .i64 a2] w fun e w' => e = .returned (.tuple #[.int .i64 r1, .bool r2]) ∧ Below w.heap.size w w' := by
 have hu24 := Tryz.underlying24
 have HR0_3 := Aside0.mk hr0_3
 have HC0_3 := Aside0.mk hc0_3
 clear hr0_3 hc0_3
 have HR0_4 := Aside0.mk hr0_4
 have HC0_4 := Aside0.mk hc0_4
 clear hr0_4 hc0_4
 have HB := Aside0.mk (Below.refl w.heap.size w)
 have H : ((taquinref07_Beside.f a0_0 a0_1 a0_2 l0_3 l0_4 a1 a2).bind fun t275 => (if t275 < 0 then (some (0, false)) else (if 0 ≤ a1 then (if a1 < (l0_3.length : Int) then (if (rd l0_3 a1) = 0 then (taquinref07_Next.j0 k a1 a2 t275 true a0_0 a0_1 a0_2 l0_3 l0_4) else (if 0 ≤ t275 then (if t275 < (l0_3.length : Int) then (if (rd l0_3 t275) = 0 then (taquinref07_Next.j0 k a1 a2 t275 true a0_0 a0_1 a0_2 l0_3 l0_4) else (if a1 < (l0_4.length : Int) then (if 0 ≤ (IntKind.u64.wrap (a2)) then (taquinref07_Next.j0 k a1 a2 t275 ((Go.bits .and .i64 (shr .i64 (rd l0_4 a1) (IntKind.u64.wrap (a2))) 1) == 0) a0_0 a0_1 a0_2 l0_3 l0_4) else (none)) else (none))) else (none)) else (none))) else (none)) else (none)))) = some (r1, r2) := h
 clear h
 replace H := Option.bind_eq_some_iff.mp H
 obtain ⟨t275, A40, H⟩ := H
 replace H : (if t275 < 0 then (some (0, false)) else (if 0 ≤ a1 then (if a1 < (l0_3.length : Int) then (if (rd l0_3 a1) = 0 then (taquinref07_Next.j0 k a1 a2 t275 true a0_0 a0_1 a0_2 l0_3 l0_4) else (if 0 ≤ t275 then (if t275 < (l0_3.length : Int) then (if (rd l0_3 t275) = 0 then (taquinref07_Next.j0 k a1 a2 t275 true a0_0 a0_1 a0_2 l0_3 l0_4) else (if a1 < (l0_4.length : Int) then (if 0 ≤ (IntKind.u64.wrap (a2)) then (taquinref07_Next.j0 k a1 a2 t275 ((Go.bits .and .i64 (shr .i64 (rd l0_4 a1) (IntKind.u64.wrap (a2))) 1) == 0) a0_0 a0_1 a0_2 l0_3 l0_4) else (none)) else (none))) else (none)) else (none))) else (none)) else (none))) = some (r1, r2) := H
 have A4 := Aside0.mk A40
 clear A40
 by_cases c5 : t275 < 0
 ·rw [if_pos c5] at H
  have c5b0 : decide (t275 < 0) = true := decide_eq_true c5
  clear c5
  simp only [Option.some.injEq, Prod.mk.injEq] at H
  obtain ⟨rfl, rfl⟩ := H
  go_enter Tryz.func38, Tryz.ntmps38
  go_wp2_with (first | ((with_reducible refine gate_dst (N := 3) rfl ?_); refine box_event ?hg (N := 3) ?hd (cs := #[.int .i64 a0_0, .int .i64 a0_1, .int .i64 a0_2, .slice A0_3 l0_3.length c0_3, .slice A0_4 l0_4.length c0_4]) (t := 24) ?hr ?_; (case hd => rfl); (case hg => rfl); (case hr => first | (go_simp; done) | (go_simp; rfl)); intro gb274 hg w6 hbox hb; have n0_ := Aside0.mk (below_step (by repeat (first | (with_reducible first | exact HB.out | apply below_alloc | apply pw_below_drewN | apply below_drew1) | exact HB.out)) hb); have n1_ := Aside0.mk (hbox); have n2_ := Aside0.mk ((by rw [hg]; exact (below_size (by repeat (first | (with_reducible first | exact HB.out | apply below_alloc | apply pw_below_drewN | apply below_drew1) | exact HB.out))) : w.heap.size ≤ gb274)); have n3_ := Aside0.mk ((by rw [hg]; exact (below_size (by repeat (first | (with_reducible first | exact HB.out | apply below_alloc | apply pw_below_drewN | apply below_drew1) | exact HB.out))) : w.heap.size ≤ gb274)); clear HB; have HB := n0_; have BK274 := n1_; have GW274 := n2_; have GE274 := n3_; clear n0_ n1_ n2_ n3_; clear hb hbox hg; have hcz7_0 : w6.cell? ⟨gb274, 0, none⟩ = some (.int .i64 a0_0) := (blk_cell BK274.out 0).trans rfl; have hcz7_1 : w6.cell? ⟨gb274, 1, none⟩ = some (.int .i64 a0_1) := (blk_cell BK274.out 1).trans rfl; have hcz7_2 : w6.cell? ⟨gb274, 2, none⟩ = some (.int .i64 a0_2) := (blk_cell BK274.out 2).trans rfl; have hcz7_3 : w6.cell? ⟨gb274, 3, none⟩ = some (.slice A0_3 l0_3.length c0_3) := (blk_cell BK274.out 3).trans rfl; have hcz7_4 : w6.cell? ⟨gb274, 4, none⟩ = some (.slice A0_4 l0_4.length c0_4) := (blk_cell BK274.out 4).trans rfl; have hfz7_0 := blk_frozen BK274.out 0; have hfz7_1 := blk_frozen BK274.out 1; have hfz7_2 := blk_frozen BK274.out 2; have hfz7_3 := blk_frozen BK274.out 3; have hfz7_4 := blk_frozen BK274.out 4) | ((with_reducible refine gate_callee (f := 53) rfl ?_); refine goesL_ (some 12) rfl rfl Tryz.func53 (by kernel_rfl) rfl #[.agg #[.int .i64 a0_0, .int .i64 a0_1, .int .i64 a0_2, .slice A0_3 l0_3.length c0_3, .slice A0_4 l0_4.length c0_4], .int .i64 a1, .int .i64 a2] rfl (by (try simp only [List.map_toArray, List.map_cons, List.map_nil]); first | done | rfl | (simp only [List.length_drop, List.length_take]; rfl)) ?_; (with_reducible refine (taquinref07_Beside.calls a0_0 a0_1 a0_2 _ _ l0_3 _ _ l0_4 a1 a2 t275 _ ?side1 ?side2 ?side3 ?side4 A4.out).mono ?_); (case side1 => repeat (first | exact (Kd.C_below HR0_3.out HB.out) | (with_reducible refine Kd.C_alloc ?_ _) | (with_reducible refine Kd.C_drewN ?_ _) | (with_reducible refine Kd.C_drew ?_))); (case side2 => exact HC0_3.out); (case side3 => repeat (first | exact (Kd.C_below HR0_4.out HB.out) | (with_reducible refine Kd.C_alloc ?_ _) | (with_reducible refine Kd.C_drewN ?_ _) | (with_reducible refine Kd.C_drew ?_))); (case side4 => exact HC0_4.out); rintro e w8 ⟨rfl, hb⟩; refine ⟨_, rfl, ?_⟩; have n0_ := Aside0.mk (blk_below (g := gb274) (o := .cells #[.int .i64 a0_0, .int .i64 a0_1, .int .i64 a0_2, .slice A0_3 l0_3.length c0_3, .slice A0_4 l0_4.length c0_4] 24 (0, 0)) (by (with_reducible repeat (first | refine blk_drewN ?_ _ | refine blk_drew ?_ | refine blk_alloc ?_ _)); exact BK274.out) hb); have n1_ := Aside0.mk (below_step (by repeat (first | (with_reducible first | exact HB.out | apply below_alloc | apply pw_below_drewN | apply below_drew1 | refine below_set ?_ GE274.out) | exact HB.out)) hb); clear BK274; clear HB; have BK274 := n0_; have HB := n1_; clear n0_ n1_; (try clear hb); (try clear hb2); (try clear hk); (try clear hi)))
  go_ret2
  exact ⟨by first | rfl | (simp [errW_none, errW_some] <;> rfl) | (simp [*, errW_none, errW_some] <;> rfl), by repeat (first | (with_reducible first | exact HB.out | apply below_alloc | apply pw_below_drewN | apply below_drew1 | refine below_set ?_ GE274.out) | exact HB.out)⟩
 ·rw [if_neg c5] at H
  have c5b0 : decide (t275 < 0) = false := decide_eq_false c5
  clear c5
  have HC9 := Aside0.mk H
  clear H
  go_enter Tryz.func38, Tryz.ntmps38
  go_upto_region 4 with (first | ((with_reducible refine gate_dst (N := 3) rfl ?_); refine box_event ?hg (N := 3) ?hd (cs := #[.int .i64 a0_0, .int .i64 a0_1, .int .i64 a0_2, .slice A0_3 l0_3.length c0_3, .slice A0_4 l0_4.length c0_4]) (t := 24) ?hr ?_; (case hd => rfl); (case hg => rfl); (case hr => first | (go_simp; done) | (go_simp; rfl)); intro gb274 hg w10 hbox hb; have n0_ := Aside0.mk (below_step (by repeat (first | (with_reducible first | exact HB.out | apply below_alloc | apply pw_below_drewN | apply below_drew1) | exact HB.out)) hb); have n1_ := Aside0.mk (hbox); have n2_ := Aside0.mk ((by rw [hg]; exact (below_size (by repeat (first | (with_reducible first | exact HB.out | apply below_alloc | apply pw_below_drewN | apply below_drew1) | exact HB.out))) : w.heap.size ≤ gb274)); have n3_ := Aside0.mk ((by rw [hg]; exact (below_size (by repeat (first | (with_reducible first | exact HB.out | apply below_alloc | apply pw_below_drewN | apply below_drew1) | exact HB.out))) : w.heap.size ≤ gb274)); clear HB; have HB := n0_; have BK274 := n1_; have GW274 := n2_; have GE274 := n3_; clear n0_ n1_ n2_ n3_; clear hb hbox hg; have hcz11_0 : w10.cell? ⟨gb274, 0, none⟩ = some (.int .i64 a0_0) := (blk_cell BK274.out 0).trans rfl; have hcz11_1 : w10.cell? ⟨gb274, 1, none⟩ = some (.int .i64 a0_1) := (blk_cell BK274.out 1).trans rfl; have hcz11_2 : w10.cell? ⟨gb274, 2, none⟩ = some (.int .i64 a0_2) := (blk_cell BK274.out 2).trans rfl; have hcz11_3 : w10.cell? ⟨gb274, 3, none⟩ = some (.slice A0_3 l0_3.length c0_3) := (blk_cell BK274.out 3).trans rfl; have hcz11_4 : w10.cell? ⟨gb274, 4, none⟩ = some (.slice A0_4 l0_4.length c0_4) := (blk_cell BK274.out 4).trans rfl; have hfz11_0 := blk_frozen BK274.out 0; have hfz11_1 := blk_frozen BK274.out 1; have hfz11_2 := blk_frozen BK274.out 2; have hfz11_3 := blk_frozen BK274.out 3; have hfz11_4 := blk_frozen BK274.out 4) | ((with_reducible refine gate_callee (f := 53) rfl ?_); refine goesL_ (some 12) rfl rfl Tryz.func53 (by kernel_rfl) rfl #[.agg #[.int .i64 a0_0, .int .i64 a0_1, .int .i64 a0_2, .slice A0_3 l0_3.length c0_3, .slice A0_4 l0_4.length c0_4], .int .i64 a1, .int .i64 a2] rfl (by (try simp only [List.map_toArray, List.map_cons, List.map_nil]); first | done | rfl | (simp only [List.length_drop, List.length_take]; rfl)) ?_; (with_reducible refine (taquinref07_Beside.calls a0_0 a0_1 a0_2 _ _ l0_3 _ _ l0_4 a1 a2 t275 _ ?side1 ?side2 ?side3 ?side4 A4.out).mono ?_); (case side1 => repeat (first | exact (Kd.C_below HR0_3.out HB.out) | (with_reducible refine Kd.C_alloc ?_ _) | (with_reducible refine Kd.C_drewN ?_ _) | (with_reducible refine Kd.C_drew ?_))); (case side2 => exact HC0_3.out); (case side3 => repeat (first | exact (Kd.C_below HR0_4.out HB.out) | (with_reducible refine Kd.C_alloc ?_ _) | (with_reducible refine Kd.C_drewN ?_ _) | (with_reducible refine Kd.C_drew ?_))); (case side4 => exact HC0_4.out); rintro e w12 ⟨rfl, hb⟩; refine ⟨_, rfl, ?_⟩; have n0_ := Aside0.mk (blk_below (g := gb274) (o := .cells #[.int .i64 a0_0, .int .i64 a0_1, .int .i64 a0_2, .slice A0_3 l0_3.length c0_3, .slice A0_4 l0_4.length c0_4] 24 (0, 0)) (by (with_reducible repeat (first | refine blk_drewN ?_ _ | refine blk_drew ?_ | refine blk_alloc ?_ _)); exact BK274.out) hb); have n1_ := Aside0.mk (below_step (by repeat (first | (with_reducible first | exact HB.out | apply below_alloc | apply pw_below_drewN | apply below_drew1 | refine below_set ?_ GE274.out) | exact HB.out)) hb); clear BK274; clear HB; have BK274 := n0_; have HB := n1_; clear n0_ n1_; (try clear hb); (try clear hb2); (try clear hk); (try clear hi)))
  (try simp only [Act.put, List.setIfInBounds_toArray, List.set_cons_zero, List.set_cons_succ])
  go_cut [40] (fun v40 wc => ∃ (kq : Nat) (x40_8 : Bool), v40 = .bool x40_8 ∧ Aside0 (taquinref07_Next.j0 kq a1 a2 t275 x40_8 a0_0 a0_1 a0_2 l0_3 l0_4 = some (r1, r2)) ∧ Aside0 (kq ≤ k) ∧ Aside0 (wc.heap[gb274]? = some (.cells #[.int .i64 a0_0, .int .i64 a0_1, .int .i64 a0_2, (.slice A0_3 l0_3.length c0_3), (.slice A0_4 l0_4.length c0_4)] 24 (0, 0))) ∧ Aside0 (Below w.heap.size w wc))
  case first =>
   have H := HC9.out
   clear HC9
   by_cases c13 : 0 ≤ a1
   ·rw [if_pos c13] at H
    have c13b0 : decide (0 ≤ a1) = true := decide_eq_true c13
    clear c13
    (first | rw [c13b0] | (simp only [i64_w, i32_w]; rw [c13b0]) | skip)
    by_cases c14 : a1 < (l0_3.length : Int)
    ·rw [if_pos c14] at H
     have c14b0 : decide (a1 < (l0_3.length : Int)) = true := decide_eq_true c14
     clear c14
     by_cases c15 : (rd l0_3 a1) = 0
     ·rw [if_pos c15] at H
      have c15b0 : ((rd l0_3 a1) == 0) = true := beq_iff_eq.mpr c15
      have c15b1 : ((rd l0_3 a1) != 0) = false := bne_eq_false_iff_eq.mpr c15
      clear c15
      have H' := Aside0.mk H
      clear H
      have hcz16_0 : w12.cell? ⟨gb274, 0, none⟩ = some (.int .i64 a0_0) := (blk_cell BK274.out 0).trans rfl
      have hcz16_1 : w12.cell? ⟨gb274, 1, none⟩ = some (.int .i64 a0_1) := (blk_cell BK274.out 1).trans rfl
      have hcz16_2 : w12.cell? ⟨gb274, 2, none⟩ = some (.int .i64 a0_2) := (blk_cell BK274.out 2).trans rfl
      have hcz16_3 : w12.cell? ⟨gb274, 3, none⟩ = some (.slice A0_3 l0_3.length c0_3) := (blk_cell BK274.out 3).trans rfl
      have hcz16_4 : w12.cell? ⟨gb274, 4, none⟩ = some (.slice A0_4 l0_4.length c0_4) := (blk_cell BK274.out 4).trans rfl
      have hfz16_0 := blk_frozen BK274.out 0
      have hfz16_1 := blk_frozen BK274.out 1
      have hfz16_2 := blk_frozen BK274.out 2
      have hfz16_3 := blk_frozen BK274.out 3
      have hfz16_4 := blk_frozen BK274.out 4
      have p276 : 0 ≤ (a1 : Int) := of_decide_eq_true (by first | (with_reducible assumption) | assumption)
      have q276 : a1 < (l0_3.length : Int) := of_decide_eq_true (by first | (with_reducible assumption) | assumption)
      obtain ⟨ad276, e276, hx276_0⟩ := Kd.at_int HR0_3.out a1 p276 q276
      cases e276
      replace hx276_0 := (HB.out.cell (World.block_lt_of_cell? w _ hx276_0)).trans hx276_0
      replace p276 := eq_true p276
      replace q276 := eq_true q276
      go_wp2
      go_meet
      case rel => exact ⟨_, (true), (by first | rfl | (simp; done) | (simp [*]; done)), H', ⟨by first | omega | exact Nat.le_refl _⟩, ⟨by (with_reducible repeat (first | refine blk_drewN ?_ _ | refine blk_drew ?_ | refine blk_alloc ?_ _)); exact BK274.out⟩, ⟨by repeat (first | (with_reducible first | exact HB.out | apply below_alloc | apply pw_below_drewN | apply below_drew1 | refine below_set ?_ GE274.out) | exact HB.out)⟩⟩
     ·rw [if_neg c15] at H
      have c15b0 : ((rd l0_3 a1) == 0) = false := beq_eq_false_iff_ne.mpr c15
      have c15b1 : ((rd l0_3 a1) != 0) = true := bne_iff_ne.mpr c15
      by_cases c17 : 0 ≤ t275
      ·rw [if_pos c17] at H
       have c17b0 : decide (0 ≤ t275) = true := decide_eq_true c17
       clear c17
       by_cases c18 : t275 < (l0_3.length : Int)
       ·rw [if_pos c18] at H
        have c18b0 : decide (t275 < (l0_3.length : Int)) = true := decide_eq_true c18
        clear c18
        by_cases c19 : (rd l0_3 t275) = 0
        ·rw [if_pos c19] at H
         have c19b0 : ((rd l0_3 t275) == 0) = true := beq_iff_eq.mpr c19
         have c19b1 : ((rd l0_3 t275) != 0) = false := bne_eq_false_iff_eq.mpr c19
         clear c19
         have H' := Aside0.mk H
         clear H
         have hcz20_0 : w12.cell? ⟨gb274, 0, none⟩ = some (.int .i64 a0_0) := (blk_cell BK274.out 0).trans rfl
         have hcz20_1 : w12.cell? ⟨gb274, 1, none⟩ = some (.int .i64 a0_1) := (blk_cell BK274.out 1).trans rfl
         have hcz20_2 : w12.cell? ⟨gb274, 2, none⟩ = some (.int .i64 a0_2) := (blk_cell BK274.out 2).trans rfl
         have hcz20_3 : w12.cell? ⟨gb274, 3, none⟩ = some (.slice A0_3 l0_3.length c0_3) := (blk_cell BK274.out 3).trans rfl
         have hcz20_4 : w12.cell? ⟨gb274, 4, none⟩ = some (.slice A0_4 l0_4.length c0_4) := (blk_cell BK274.out 4).trans rfl
         have hfz20_0 := blk_frozen BK274.out 0
         have hfz20_1 := blk_frozen BK274.out 1
         have hfz20_2 := blk_frozen BK274.out 2
         have hfz20_3 := blk_frozen BK274.out 3
         have hfz20_4 := blk_frozen BK274.out 4
         have p276 : 0 ≤ (a1 : Int) := of_decide_eq_true (by first | (with_reducible assumption) | assumption)
         have q276 : a1 < (l0_3.length : Int) := of_decide_eq_true (by first | (with_reducible assumption) | assumption)
         obtain ⟨ad276, e276, hx276_0⟩ := Kd.at_int HR0_3.out a1 p276 q276
         cases e276
         replace hx276_0 := (HB.out.cell (World.block_lt_of_cell? w _ hx276_0)).trans hx276_0
         replace p276 := eq_true p276
         replace q276 := eq_true q276
         have p277 : 0 ≤ (t275 : Int) := of_decide_eq_true (by first | (with_reducible assumption) | assumption)
         have q277 : t275 < (l0_3.length : Int) := of_decide_eq_true (by first | (with_reducible assumption) | assumption)
         obtain ⟨ad277, e277, hx277_0⟩ := Kd.at_int HR0_3.out t275 p277 q277
         obtain rfl : ad276 = ad277 := (by injection e277)
         replace hx277_0 := (HB.out.cell (World.block_lt_of_cell? w _ hx277_0)).trans hx277_0
         replace p277 := eq_true p277
         replace q277 := eq_true q277
         go_wp2
         go_meet
         case rel => exact ⟨_, (true), (by first | rfl | (simp; done) | (simp [*]; done)), H', ⟨by first | omega | exact Nat.le_refl _⟩, ⟨by (with_reducible repeat (first | refine blk_drewN ?_ _ | refine blk_drew ?_ | refine blk_alloc ?_ _)); exact BK274.out⟩, ⟨by repeat (first | (with_reducible first | exact HB.out | apply below_alloc | apply pw_below_drewN | apply below_drew1 | refine below_set ?_ GE274.out) | exact HB.out)⟩⟩
        ·rw [if_neg c19] at H
         have c19b0 : ((rd l0_3 t275) == 0) = false := beq_eq_false_iff_ne.mpr c19
         have c19b1 : ((rd l0_3 t275) != 0) = true := bne_iff_ne.mpr c19
         by_cases c21 : a1 < (l0_4.length : Int)
         ·rw [if_pos c21] at H
          have c21b0 : decide (a1 < (l0_4.length : Int)) = true := decide_eq_true c21
          clear c21
          obtain ⟨ji22, hji22⟩ : ∃ j_ : Int, (IntKind.u64.wrap (a2)) = j_ := ⟨_, rfl⟩
          replace H : (if 0 ≤ (ji22) then (taquinref07_Next.j0 k a1 a2 t275 ((Go.bits .and .i64 (shr .i64 (rd l0_4 a1) (ji22)) 1) == 0) a0_0 a0_1 a0_2 l0_3 l0_4) else (none)) = some (r1, r2) := by first | (rw [hji22] at H; exact H) | (simp only [hji22] at H ⊢; exact H)
          by_cases c23 : 0 ≤ (ji22)
          ·rw [if_pos c23] at H
           have c23b0 := eq_true c23
           have c23b1 : decide (0 ≤ (ji22)) = true := decide_eq_true c23
           clear c23
           obtain ⟨ji24, hji24⟩ : ∃ j_ : Int, (shr .i64 (rd l0_4 a1) (ji22)) = j_ := ⟨_, rfl⟩
           replace H : (taquinref07_Next.j0 k a1 a2 t275 ((Go.bits .and .i64 (ji24) 1) == 0) a0_0 a0_1 a0_2 l0_3 l0_4) = some (r1, r2) := by first | (rw [hji24] at H; exact H) | (simp only [hji24] at H ⊢; exact H)
           have hji24_ : ((rd l0_4 a1) / 2 ^ min (ji22).toNat 64) = ji24 := hji24
           have hji24z : (ji22) ≤ 64 → ((rd l0_4 a1) / 2 ^ (ji22).toNat) = ji24 := shr_small hji24
           have H' := Aside0.mk H
           clear H
           have hcz25_0 : w12.cell? ⟨gb274, 0, none⟩ = some (.int .i64 a0_0) := (blk_cell BK274.out 0).trans rfl
           have hcz25_1 : w12.cell? ⟨gb274, 1, none⟩ = some (.int .i64 a0_1) := (blk_cell BK274.out 1).trans rfl
           have hcz25_2 : w12.cell? ⟨gb274, 2, none⟩ = some (.int .i64 a0_2) := (blk_cell BK274.out 2).trans rfl
           have hcz25_3 : w12.cell? ⟨gb274, 3, none⟩ = some (.slice A0_3 l0_3.length c0_3) := (blk_cell BK274.out 3).trans rfl
           have hcz25_4 : w12.cell? ⟨gb274, 4, none⟩ = some (.slice A0_4 l0_4.length c0_4) := (blk_cell BK274.out 4).trans rfl
           have hfz25_0 := blk_frozen BK274.out 0
           have hfz25_1 := blk_frozen BK274.out 1
           have hfz25_2 := blk_frozen BK274.out 2
           have hfz25_3 := blk_frozen BK274.out 3
           have hfz25_4 := blk_frozen BK274.out 4
           have p276 : 0 ≤ (a1 : Int) := of_decide_eq_true (by first | (with_reducible assumption) | assumption)
           have q276 : a1 < (l0_3.length : Int) := of_decide_eq_true (by first | (with_reducible assumption) | assumption)
           obtain ⟨ad276, e276, hx276_0⟩ := Kd.at_int HR0_3.out a1 p276 q276
           cases e276
           replace hx276_0 := (HB.out.cell (World.block_lt_of_cell? w _ hx276_0)).trans hx276_0
           replace p276 := eq_true p276
           replace q276 := eq_true q276
           have p277 : 0 ≤ (t275 : Int) := of_decide_eq_true (by first | (with_reducible assumption) | assumption)
           have q277 : t275 < (l0_3.length : Int) := of_decide_eq_true (by first | (with_reducible assumption) | assumption)
           obtain ⟨ad277, e277, hx277_0⟩ := Kd.at_int HR0_3.out t275 p277 q277
           obtain rfl : ad276 = ad277 := (by injection e277)
           replace hx277_0 := (HB.out.cell (World.block_lt_of_cell? w _ hx277_0)).trans hx277_0
           replace p277 := eq_true p277
           replace q277 := eq_true q277
           have p278 : 0 ≤ (a1 : Int) := of_decide_eq_true (by first | (with_reducible assumption) | assumption)
           have q278 : a1 < (l0_4.length : Int) := of_decide_eq_true (by first | (with_reducible assumption) | assumption)
           obtain ⟨ad278, e278, hx278_0⟩ := Kd.at_int HR0_4.out a1 p278 q278
           cases e278
           replace hx278_0 := (HB.out.cell (World.block_lt_of_cell? w _ hx278_0)).trans hx278_0
           replace p278 := eq_true p278
           replace q278 := eq_true q278
           go_wp2
           go_meet
           case rel => exact ⟨_, (((Go.bits .and .i64 (ji24) 1) == 0)), (by first | rfl | (simp; done) | (simp only [← hji24] <;> (first | rfl | simp)) | (simp [*]; done)), H', ⟨by first | omega | exact Nat.le_refl _⟩, ⟨by (with_reducible repeat (first | refine blk_drewN ?_ _ | refine blk_drew ?_ | refine blk_alloc ?_ _)); exact BK274.out⟩, ⟨by repeat (first | (with_reducible first | exact HB.out | apply below_alloc | apply pw_below_drewN | apply below_drew1 | refine below_set ?_ GE274.out) | exact HB.out)⟩⟩
          ·rw [if_neg c23] at H
           exact absurd H (by simp)
         ·rw [if_neg c21] at H
          exact absurd H (by simp)
       ·rw [if_neg c18] at H
        exact absurd H (by simp)
      ·rw [if_neg c17] at H
       exact absurd H (by simp)
    ·rw [if_neg c14] at H
     exact absurd H (by simp)
   ·rw [if_neg c13] at H
    exact absurd H (by simp)
  case rest =>
   clear HC9
   try clear c1
   try clear c2
   try clear p2
   try clear q2
   try clear hx2
   try clear c3
   try clear c5
   try clear c5b0
   try clear c13
   try clear c13b0
   try clear c14
   try clear c14b0
   try clear c15
   try clear c15b0
   try clear c15b1
   try clear c17
   try clear c17b0
   try clear c18
   try clear c18b0
   try clear c19
   try clear c19b0
   try clear c19b1
   try clear c21
   try clear c21b0
   try clear c23
   try clear c23b0
   try clear c23b1
   try clear hcz11_0
   try clear hcz11_1
   try clear hcz11_2
   try clear hcz11_3
   try clear hcz11_4
   try clear hcz16_0
   try clear hcz16_1
   try clear hcz16_2
   try clear hcz16_3
   try clear hcz16_4
   try clear hcz20_0
   try clear hcz20_1
   try clear hcz20_2
   try clear hcz20_3
   try clear hcz20_4
   try clear hcz25_0
   try clear hcz25_1
   try clear hcz25_2
   try clear hcz25_3
   try clear hcz25_4
   try clear hcz7_0
   try clear hcz7_1
   try clear hcz7_2
   try clear hcz7_3
   try clear hcz7_4
   try clear hfz11_0
   try clear hfz11_1
   try clear hfz11_2
   try clear hfz11_3
   try clear hfz11_4
   try clear hfz16_0
   try clear hfz16_1
   try clear hfz16_2
   try clear hfz16_3
   try clear hfz16_4
   try clear hfz20_0
   try clear hfz20_1
   try clear hfz20_2
   try clear hfz20_3
   try clear hfz20_4
   try clear hfz25_0
   try clear hfz25_1
   try clear hfz25_2
   try clear hfz25_3
   try clear hfz25_4
   try clear hfz7_0
   try clear hfz7_1
   try clear hfz7_2
   try clear hfz7_3
   try clear hfz7_4
   try clear hx276_0
   try clear hx277_0
   try clear hx278_0
   try clear p276
   try clear p277
   try clear p278
   try clear q276
   try clear q277
   try clear q278
   obtain ⟨kq, x40_8, rfl, HA, HJ8, BK274, HB⟩ := hcut
   cases kq with
   | zero => exact absurd HA.out (by simp [taquinref07_Next.j0])
   | succ kj8 =>
    have H := HA.out
    clear HA
    simp only [taquinref07_Next.j0] at H
    by_cases c26 : x40_8 = true
    ·subst c26
     have H1 : (some (0, false)) = some (r1, r2) := by rw [if_pos rfl] at H; exact H
     clear H
     have H := H1
     clear H1
     simp only [Option.some.injEq, Prod.mk.injEq] at H
     obtain ⟨rfl, rfl⟩ := H
     go_wp2
     go_ret2
     exact ⟨by first | rfl | (simp [errW_none, errW_some] <;> rfl) | (simp [*, errW_none, errW_some] <;> rfl), by repeat (first | (with_reducible first | exact HB.out | apply below_alloc | apply pw_below_drewN | apply below_drew1 | refine below_set ?_ GE274.out) | exact HB.out)⟩
    ·replace c26 := Bool.eq_false_iff.mpr c26
     subst c26
     have H1 : (if a2 ≥ 4 then (if 0 ≤ a1 then (if a1 < (l0_3.length : Int) then (if (rd l0_3 a1) = 6 then (if 0 ≤ t275 then (if t275 < (l0_3.length : Int) then (if (rd l0_3 t275) = 6 then (some (t275, true)) else (some (0, false))) else (none)) else (none)) else (some (0, false))) else (none)) else (none)) else (some (t275, true))) = some (r1, r2) := by rw [if_neg (show ¬ (false = true) by decide)] at H; exact H
     clear H
     have H := H1
     clear H1
     by_cases c27 : a2 ≥ 4
     ·rw [if_pos c27] at H
      have c27b0 : decide (4 ≤ a2) = true := decide_eq_true c27
      clear c27
      by_cases c28 : 0 ≤ a1
      ·rw [if_pos c28] at H
       have c28b0 : decide (0 ≤ a1) = true := decide_eq_true c28
       clear c28
       by_cases c29 : a1 < (l0_3.length : Int)
       ·rw [if_pos c29] at H
        have c29b0 : decide (a1 < (l0_3.length : Int)) = true := decide_eq_true c29
        clear c29
        by_cases c30 : (rd l0_3 a1) = 6
        ·rw [if_pos c30] at H
         have c30b0 : ((rd l0_3 a1) == 6) = true := beq_iff_eq.mpr c30
         have c30b1 : ((rd l0_3 a1) != 6) = false := bne_eq_false_iff_eq.mpr c30
         clear c30
         by_cases c31 : 0 ≤ t275
         ·rw [if_pos c31] at H
          have c31b0 : decide (0 ≤ t275) = true := decide_eq_true c31
          clear c31
          by_cases c32 : t275 < (l0_3.length : Int)
          ·rw [if_pos c32] at H
           have c32b0 : decide (t275 < (l0_3.length : Int)) = true := decide_eq_true c32
           clear c32
           by_cases c33 : (rd l0_3 t275) = 6
           ·rw [if_pos c33] at H
            have c33b0 : ((rd l0_3 t275) == 6) = true := beq_iff_eq.mpr c33
            have c33b1 : ((rd l0_3 t275) != 6) = false := bne_eq_false_iff_eq.mpr c33
            clear c33
            simp only [Option.some.injEq, Prod.mk.injEq] at H
            obtain ⟨rfl, rfl⟩ := H
            have hcz34_0 : wc.cell? ⟨gb274, 0, none⟩ = some (.int .i64 a0_0) := (blk_cell BK274.out 0).trans rfl
            have hcz34_1 : wc.cell? ⟨gb274, 1, none⟩ = some (.int .i64 a0_1) := (blk_cell BK274.out 1).trans rfl
            have hcz34_2 : wc.cell? ⟨gb274, 2, none⟩ = some (.int .i64 a0_2) := (blk_cell BK274.out 2).trans rfl
            have hcz34_3 : wc.cell? ⟨gb274, 3, none⟩ = some (.slice A0_3 l0_3.length c0_3) := (blk_cell BK274.out 3).trans rfl
            have hcz34_4 : wc.cell? ⟨gb274, 4, none⟩ = some (.slice A0_4 l0_4.length c0_4) := (blk_cell BK274.out 4).trans rfl
            have hfz34_0 := blk_frozen BK274.out 0
            have hfz34_1 := blk_frozen BK274.out 1
            have hfz34_2 := blk_frozen BK274.out 2
            have hfz34_3 := blk_frozen BK274.out 3
            have hfz34_4 := blk_frozen BK274.out 4
            have p279 : 0 ≤ (a1 : Int) := of_decide_eq_true (by first | (with_reducible assumption) | assumption)
            have q279 : a1 < (l0_3.length : Int) := of_decide_eq_true (by first | (with_reducible assumption) | assumption)
            obtain ⟨ad279, e279, hx279_0⟩ := Kd.at_int HR0_3.out a1 p279 q279
            cases e279
            replace hx279_0 := (HB.out.cell (World.block_lt_of_cell? w _ hx279_0)).trans hx279_0
            replace p279 := eq_true p279
            replace q279 := eq_true q279
            have p280 : 0 ≤ (t275 : Int) := of_decide_eq_true (by first | (with_reducible assumption) | assumption)
            have q280 : t275 < (l0_3.length : Int) := of_decide_eq_true (by first | (with_reducible assumption) | assumption)
            obtain ⟨ad280, e280, hx280_0⟩ := Kd.at_int HR0_3.out t275 p280 q280
            obtain rfl : ad279 = ad280 := (by injection e280)
            replace hx280_0 := (HB.out.cell (World.block_lt_of_cell? w _ hx280_0)).trans hx280_0
            replace p280 := eq_true p280
            replace q280 := eq_true q280
            go_wp2
            go_ret2
            exact ⟨by first | rfl | (simp [errW_none, errW_some] <;> rfl) | (simp [*, errW_none, errW_some] <;> rfl), by repeat (first | (with_reducible first | exact HB.out | apply below_alloc | apply pw_below_drewN | apply below_drew1 | refine below_set ?_ GE274.out) | exact HB.out)⟩
           ·rw [if_neg c33] at H
            have c33b0 : ((rd l0_3 t275) == 6) = false := beq_eq_false_iff_ne.mpr c33
            have c33b1 : ((rd l0_3 t275) != 6) = true := bne_iff_ne.mpr c33
            simp only [Option.some.injEq, Prod.mk.injEq] at H
            obtain ⟨rfl, rfl⟩ := H
            have hcz35_0 : wc.cell? ⟨gb274, 0, none⟩ = some (.int .i64 a0_0) := (blk_cell BK274.out 0).trans rfl
            have hcz35_1 : wc.cell? ⟨gb274, 1, none⟩ = some (.int .i64 a0_1) := (blk_cell BK274.out 1).trans rfl
            have hcz35_2 : wc.cell? ⟨gb274, 2, none⟩ = some (.int .i64 a0_2) := (blk_cell BK274.out 2).trans rfl
            have hcz35_3 : wc.cell? ⟨gb274, 3, none⟩ = some (.slice A0_3 l0_3.length c0_3) := (blk_cell BK274.out 3).trans rfl
            have hcz35_4 : wc.cell? ⟨gb274, 4, none⟩ = some (.slice A0_4 l0_4.length c0_4) := (blk_cell BK274.out 4).trans rfl
            have hfz35_0 := blk_frozen BK274.out 0
            have hfz35_1 := blk_frozen BK274.out 1
            have hfz35_2 := blk_frozen BK274.out 2
            have hfz35_3 := blk_frozen BK274.out 3
            have hfz35_4 := blk_frozen BK274.out 4
            have p279 : 0 ≤ (a1 : Int) := of_decide_eq_true (by first | (with_reducible assumption) | assumption)
            have q279 : a1 < (l0_3.length : Int) := of_decide_eq_true (by first | (with_reducible assumption) | assumption)
            obtain ⟨ad279, e279, hx279_0⟩ := Kd.at_int HR0_3.out a1 p279 q279
            cases e279
            replace hx279_0 := (HB.out.cell (World.block_lt_of_cell? w _ hx279_0)).trans hx279_0
            replace p279 := eq_true p279
            replace q279 := eq_true q279
            have p280 : 0 ≤ (t275 : Int) := of_decide_eq_true (by first | (with_reducible assumption) | assumption)
            have q280 : t275 < (l0_3.length : Int) := of_decide_eq_true (by first | (with_reducible assumption) | assumption)
            obtain ⟨ad280, e280, hx280_0⟩ := Kd.at_int HR0_3.out t275 p280 q280
            obtain rfl : ad279 = ad280 := (by injection e280)
            replace hx280_0 := (HB.out.cell (World.block_lt_of_cell? w _ hx280_0)).trans hx280_0
            replace p280 := eq_true p280
            replace q280 := eq_true q280
            go_wp2
            go_ret2
            exact ⟨by first | rfl | (simp [errW_none, errW_some] <;> rfl) | (simp [*, errW_none, errW_some] <;> rfl), by repeat (first | (with_reducible first | exact HB.out | apply below_alloc | apply pw_below_drewN | apply below_drew1 | refine below_set ?_ GE274.out) | exact HB.out)⟩
          ·rw [if_neg c32] at H
           exact absurd H (by simp)
         ·rw [if_neg c31] at H
          exact absurd H (by simp)
        ·rw [if_neg c30] at H
         have c30b0 : ((rd l0_3 a1) == 6) = false := beq_eq_false_iff_ne.mpr c30
         have c30b1 : ((rd l0_3 a1) != 6) = true := bne_iff_ne.mpr c30
         simp only [Option.some.injEq, Prod.mk.injEq] at H
         obtain ⟨rfl, rfl⟩ := H
         have hcz36_0 : wc.cell? ⟨gb274, 0, none⟩ = some (.int .i64 a0_0) := (blk_cell BK274.out 0).trans rfl
         have hcz36_1 : wc.cell? ⟨gb274, 1, none⟩ = some (.int .i64 a0_1) := (blk_cell BK274.out 1).trans rfl
         have hcz36_2 : wc.cell? ⟨gb274, 2, none⟩ = some (.int .i64 a0_2) := (blk_cell BK274.out 2).trans rfl
         have hcz36_3 : wc.cell? ⟨gb274, 3, none⟩ = some (.slice A0_3 l0_3.length c0_3) := (blk_cell BK274.out 3).trans rfl
         have hcz36_4 : wc.cell? ⟨gb274, 4, none⟩ = some (.slice A0_4 l0_4.length c0_4) := (blk_cell BK274.out 4).trans rfl
         have hfz36_0 := blk_frozen BK274.out 0
         have hfz36_1 := blk_frozen BK274.out 1
         have hfz36_2 := blk_frozen BK274.out 2
         have hfz36_3 := blk_frozen BK274.out 3
         have hfz36_4 := blk_frozen BK274.out 4
         have p279 : 0 ≤ (a1 : Int) := of_decide_eq_true (by first | (with_reducible assumption) | assumption)
         have q279 : a1 < (l0_3.length : Int) := of_decide_eq_true (by first | (with_reducible assumption) | assumption)
         obtain ⟨ad279, e279, hx279_0⟩ := Kd.at_int HR0_3.out a1 p279 q279
         cases e279
         replace hx279_0 := (HB.out.cell (World.block_lt_of_cell? w _ hx279_0)).trans hx279_0
         replace p279 := eq_true p279
         replace q279 := eq_true q279
         go_wp2
         go_ret2
         exact ⟨by first | rfl | (simp [errW_none, errW_some] <;> rfl) | (simp [*, errW_none, errW_some] <;> rfl), by repeat (first | (with_reducible first | exact HB.out | apply below_alloc | apply pw_below_drewN | apply below_drew1 | refine below_set ?_ GE274.out) | exact HB.out)⟩
       ·rw [if_neg c29] at H
        exact absurd H (by simp)
      ·rw [if_neg c28] at H
       exact absurd H (by simp)
     ·rw [if_neg c27] at H
      have c27b0 : decide (4 ≤ a2) = false := decide_eq_false c27
      clear c27
      simp only [Option.some.injEq, Prod.mk.injEq] at H
      obtain ⟨rfl, rfl⟩ := H
      go_wp2
      go_ret2
      exact ⟨by first | rfl | (simp [errW_none, errW_some] <;> rfl) | (simp [*, errW_none, errW_some] <;> rfl), by repeat (first | (with_reducible first | exact HB.out | apply below_alloc | apply pw_below_drewN | apply below_drew1 | refine below_set ?_ GE274.out) | exact HB.out)⟩
mutual
def taquinref22_Way.l0 : Nat → List Int → Int → Int → Int → Int → Int → List Int → List Int → Int → List Int → Option (List Int × Bool)
 | 0, _, _, _, _, _, _, _, _, _, _ => none
 | k + 1, x6, x7, x8, x282000, x282001, x282002, x282003, x282004, x283000, x283001 => if x8 < (x283001.length : Int) then (if 0 ≤ x8 then (if (wrap64 ((rd x283001 x8) - 1)) < 0 then (taquinref22_Way.j1 k x6 x7 x8 (wrap64 ((rd x283001 x8) - 1)) true x282000 x282001 x282002 x282003 x282004 x283000 x283001) else (taquinref22_Way.j1 k x6 x7 x8 (wrap64 ((rd x283001 x8) - 1)) (decide ((wrap64 ((rd x283001 x8) - 1)) > 5)) x282000 x282001 x282002 x282003 x282004 x283000 x283001)) else (none)) else (some (x6, true))
def taquinref22_Way.j1 : Nat → List Int → Int → Int → Int → Bool → Int → Int → Int → List Int → List Int → Int → List Int → Option (List Int × Bool)
 | 0, _, _, _, _, _, _, _, _, _, _, _, _ => none
 | k + 1, x6, x7, x8, x9, x35, x282000, x282001, x282002, x282003, x282004, x283000, x283001 => if x35 = true then (taquinref22_Way.l0 k x6 x7 (wrap64 (x8 + 1)) x282000 x282001 x282002 x282003 x282004 x283000 x283001) else ((taquinref07_Next.f k x282000 x282001 x282002 x282003 x282004 x7 x9).bind fun bt287 => (if bt287.2 = true then (if x6.length < 17592186044416 then (taquinref22_Way.l0 k (x6 ++ [bt287.1]) bt287.1 (wrap64 (x8 + 1)) x282000 x282001 x282002 x282003 x282004 x283000 x283001) else (none)) else (some (([] : List Int), false))))
end
def taquinref22_Way.f (k : Nat) (a0_0 : Int) (a0_1 : Int) (a0_2 : Int) (l0_3 : List Int) (l0_4 : List Int) (a1_0 : Int) (l1_1 : List Int) : Option (List Int × Bool) := taquinref22_Way.l0 k (([a1_0] : List Int)) a1_0 0 a0_0 a0_1 a0_2 l0_3 l0_4 a1_0 l1_1
theorem taquinref22_Way.mono_l : ∀ k, (∀ y0 y1 y2 y3 y4 y5 y6 y7 y8 y9, LeO (taquinref22_Way.l0 k y0 y1 y2 y3 y4 y5 y6 y7 y8 y9) (taquinref22_Way.l0 (k + 1) y0 y1 y2 y3 y4 y5 y6 y7 y8 y9)) ∧ (∀ y0 y1 y2 y3 y4 y5 y6 y7 y8 y9 y10 y11, LeO (taquinref22_Way.j1 k y0 y1 y2 y3 y4 y5 y6 y7 y8 y9 y10 y11) (taquinref22_Way.j1 (k + 1) y0 y1 y2 y3 y4 y5 y6 y7 y8 y9 y10 y11))
 | 0 => ⟨fun _ _ _ _ _ _ _ _ _ _ r h => by simp [taquinref22_Way.l0] at h, fun _ _ _ _ _ _ _ _ _ _ _ _ r h => by simp [taquinref22_Way.j1] at h⟩
 | k + 1 => by
  obtain ⟨ih0, ih1⟩ := taquinref22_Way.mono_l k
  refine ⟨?_, ?_⟩
  ·intro y0 y1 y2 y3 y4 y5 y6 y7 y8 y9
   unfold taquinref22_Way.l0
   repeat' first
   | (with_reducible exact ih0 _ _ _ _ _ _ _ _ _ _)
   | (with_reducible exact ih1 _ _ _ _ _ _ _ _ _ _ _ _)
   | (with_reducible exact taquinref07_Next.mono _ _ _ _ _ _ _ _)
   | (with_reducible exact LeO.refl _)
   | (with_reducible exact LeO.none _)
   | (with_reducible refine LeO.ite ?_ ?_)
   | (with_reducible refine LeO.bind ?_ (fun _ => ?_))
   | exact ih0 _ _ _ _ _ _ _ _ _ _
   | exact ih1 _ _ _ _ _ _ _ _ _ _ _ _
   | exact taquinref07_Next.mono _ _ _ _ _ _ _ _
   | exact LeO.none _
   | refine LeO.ite ?_ ?_
   | refine LeO.bind ?_ (fun _ => ?_)
  ·intro y0 y1 y2 y3 y4 y5 y6 y7 y8 y9 y10 y11
   unfold taquinref22_Way.j1
   repeat' first
   | (with_reducible exact ih0 _ _ _ _ _ _ _ _ _ _)
   | (with_reducible exact ih1 _ _ _ _ _ _ _ _ _ _ _ _)
   | (with_reducible exact taquinref07_Next.mono _ _ _ _ _ _ _ _)
   | (with_reducible exact LeO.refl _)
   | (with_reducible exact LeO.none _)
   | (with_reducible refine LeO.ite ?_ ?_)
   | (with_reducible refine LeO.bind ?_ (fun _ => ?_))
   | exact ih0 _ _ _ _ _ _ _ _ _ _
   | exact ih1 _ _ _ _ _ _ _ _ _ _ _ _
   | exact taquinref07_Next.mono _ _ _ _ _ _ _ _
   | exact LeO.none _
   | refine LeO.ite ?_ ?_
   | refine LeO.bind ?_ (fun _ => ?_)
theorem taquinref22_Way.mono : ∀ a0 a1 a2 a3 a4 a5 a6 k, LeO (taquinref22_Way.f k a0 a1 a2 a3 a4 a5 a6) (taquinref22_Way.f (k + 1) a0 a1 a2 a3 a4 a5 a6) := by
 intro a0 a1 a2 a3 a4 a5 a6 k
 obtain ⟨ih0, ih1⟩ := taquinref22_Way.mono_l k
 unfold taquinref22_Way.f
 repeat' first
   | (with_reducible exact ih0 _ _ _ _ _ _ _ _ _ _)
   | (with_reducible exact ih1 _ _ _ _ _ _ _ _ _ _ _ _)
   | (with_reducible exact taquinref07_Next.mono _ _ _ _ _ _ _ _)
   | (with_reducible exact LeO.refl _)
   | (with_reducible exact LeO.none _)
   | (with_reducible refine LeO.ite ?_ ?_)
   | (with_reducible refine LeO.bind ?_ (fun _ => ?_))
   | exact ih0 _ _ _ _ _ _ _ _ _ _
   | exact ih1 _ _ _ _ _ _ _ _ _ _ _ _
   | exact taquinref07_Next.mono _ _ _ _ _ _ _ _
   | exact LeO.none _
   | refine LeO.ite ?_ ?_
   | refine LeO.bind ?_ (fun _ => ?_)
set_option maxHeartbeats 8000000 in
set_option maxRecDepth 100000 in
theorem taquinref22_Way.calls (k : Nat) (a0_0 : Int) (a0_1 : Int) (a0_2 : Int) (A0_3 : Option Addr) (c0_3 : Nat) (l0_3 : List Int) (A0_4 : Option Addr) (c0_4 : Nat) (l0_4 : List Int) (a1_0 : Int) (A1_1 : Option Addr) (c1_1 : Nat) (l1_1 : List Int) (r1 : List Int) (r2 : Bool) (w : World) (hr0_3 : Kd.C (Kd.int .i64) w A0_3 l0_3.length l0_3) (hc0_3 : l0_3.length ≤ c0_3) (hr0_4 : Kd.C (Kd.int .i64) w A0_4 l0_4.length l0_4) (hc0_4 : l0_4.length ≤ c0_4) (hr1_1 : Kd.C (Kd.int .i64) w A1_1 l1_1.length l1_1) (hc1_1 : l1_1.length ≤ c1_1) (h : taquinref22_Way.f k a0_0 a0_1 a0_2 l0_3 l0_4 a1_0 l1_1 = some (r1, r2)) :
  Calls Tryz.prog 14 #[.agg #[.int .i64 a0_0, .int .i64 a0_1, .int .i64 a0_2, .slice A0_3 l0_3.length c0_3, .slice A0_4 l0_4.length c0_4], .agg #[.int .i64 a1_0, .slice A1_1 l1_1.length c1_1]] w fun e w' => ∃ v0_ : Value, e = .returned (.tuple #[v0_, .bool r2]) ∧ Kd.R (Kd.int .i64) 3 w' w.heap.size (fun _ => True) v0_ r1 ∧ Below w.heap.size w w' := by
 have hu24 := Tryz.underlying24
 have hu26 := Tryz.underlying26
 have HR0_3 := Aside0.mk hr0_3
 have HC0_3 := Aside0.mk hc0_3
 clear hr0_3 hc0_3
 have HR0_4 := Aside0.mk hr0_4
 have HC0_4 := Aside0.mk hc0_4
 clear hr0_4 hc0_4
 have HR1_1 := Aside0.mk hr1_1
 have HC1_1 := Aside0.mk hc1_1
 clear hr1_1 hc1_1
 have HB := Aside0.mk (Below.refl w.heap.size w)
 have H : (taquinref22_Way.l0 k (([a1_0] : List Int)) a1_0 0 a0_0 a0_1 a0_2 l0_3 l0_4 a1_0 l1_1) = some (r1, r2) := h
 clear h
 obtain ⟨y283, hy283⟩ : ∃ y_ : List Int, y_ = (([a1_0] : List Int)) := ⟨_, rfl⟩
 replace H : (taquinref22_Way.l0 k y283 a1_0 0 a0_0 a0_1 a0_2 l0_3 l0_4 a1_0 l1_1) = some (r1, r2) := by first | (rw [hy283]; with_reducible exact H) | (have H2_ := (Option.bind_some _ _).symm.trans H; rw [hy283]; with_reducible exact H2_) | (have H2_ := (Option.bind_some _ _).symm.trans H; with_reducible exact H2_) | with_reducible exact H | (rw [hy283]; exact H) | exact H
 have Ny283 := Aside0.mk hy283
 clear hy283
 have H' := Aside0.mk H
 clear H
 go_enter Tryz.func14, Tryz.ntmps14
 go_wp2_with (first | ((with_reducible refine gate_dst (N := 2) rfl ?_); refine box_event ?hg (N := 2) ?hd (cs := #[.int .i64 a0_0, .int .i64 a0_1, .int .i64 a0_2, .slice A0_3 l0_3.length c0_3, .slice A0_4 l0_4.length c0_4]) (t := 24) ?hr ?_; (case hd => rfl); (case hg => rfl); (case hr => first | (go_simp; done) | (go_simp; rfl)); intro gb281 hg w3 hbox hb; have BK281 := Aside0.mk (hbox); have GW281 := Aside0.mk ((by rw [hg]; exact (below_size HB.out) : w.heap.size ≤ gb281)); have GE281 := Aside0.mk ((by rw [hg]; exact (below_size HB.out) : w.heap.size ≤ gb281)); replace HB := Aside0.mk (below_step HB.out hb); clear hb hbox hg) | ((with_reducible refine gate_dst (N := 3) rfl ?_); refine box_event ?hg (N := 3) ?hd (cs := #[.int .i64 a1_0, .slice A1_1 l1_1.length c1_1]) (t := 26) ?hr ?_; (case hd => rfl); (case hg => rfl); (case hr => first | (go_simp; done) | (go_simp; rfl)); intro gb282 hg w4 hbox hb; have BK282 := Aside0.mk (hbox); have GW282 := Aside0.mk ((by rw [hg]; exact (below_size HB.out) : w.heap.size ≤ gb282)); have GE282 := Aside0.mk ((by rw [hg]; exact (below_size HB.out) : w.heap.size ≤ gb282)); replace HB := Aside0.mk (below_step HB.out hb); have NB281_282 := Aside0.mk ((by rw [hg]; exact Nat.ne_of_lt (blk_lt BK281.out) : gb281 ≠ gb282)); have NB282_281 := Aside0.mk ((by rw [hg]; exact Nat.ne_of_gt (blk_lt BK281.out) : gb282 ≠ gb281)); replace BK281 := Aside0.mk (blk_below BK281.out hb); clear hb hbox hg; have hnb5 := NB282_281.out; have hnc5 := NB281_282.out; have hcz6_0 : w4.cell? ⟨gb282, 0, none⟩ = some (.int .i64 a1_0) := (blk_cell BK282.out 0).trans rfl; have hcz6_1 : w4.cell? ⟨gb282, 1, none⟩ = some (.slice A1_1 l1_1.length c1_1) := (blk_cell BK282.out 1).trans rfl; have hfz6_0 := blk_frozen BK282.out 0; have hfz6_1 := blk_frozen BK282.out 1) | ((with_reducible refine gate_dst (N := 14) rfl ?_); refine Kd.R_lit (Kd.int .i64) _ 3 ?hg (N := 14) ?hd (xs := ([a1_0] : List Int)) (inner := [.int .i64 a1_0]) (ok := fun _ => True) (okp := fun _ => True) ?hr ?hp (fun _ hk => hk) trivial (Below.refl _ _) (Nat.le_refl _) (by simp) ?_; (case hd => rfl); (case hg => rfl); (case hr => first | (go_simp; done) | (go_simp; rfl)); (case hp => exact (Reps.one (show Kd.M (Kd.int .i64) _ _ _ a1_0 [.int .i64 a1_0] from rfl) (Reps.none _ _))); intro v284 w7 ho8 hb hg_ hnew_; clear hg_ hnew_; (first | rw [← Ny283.out] at ho8 | (simp only [Int.reduceToNat] at ho8; rw [← Ny283.out] at ho8)); have HO285 := Aside0.mk (Kd.R_lower ho8 (below_size HB.out)); replace BK281 := Aside0.mk (blk_below BK281.out hb); replace BK282 := Aside0.mk (blk_below BK282.out hb); replace HB := Aside0.mk (below_step HB.out hb); clear hb ho8; have hcz9_0 : w7.cell? ⟨gb282, 0, none⟩ = some (.int .i64 a1_0) := (blk_cell BK282.out 0).trans rfl; have hcz9_1 : w7.cell? ⟨gb282, 1, none⟩ = some (.slice A1_1 l1_1.length c1_1) := (blk_cell BK282.out 1).trans rfl; have hfz9_0 := blk_frozen BK282.out 0; have hfz9_1 := blk_frozen BK282.out 1))
 go_loopg [6, 7, 8] k (fun kq v6 v7 v8 w' => ∃ (x6_1 : List Int) (x7_1 : Int) (x8_1 : Int), v7 = .int .i64 x7_1 ∧ v8 = .int .i64 x8_1 ∧ Aside0 (taquinref22_Way.l0 kq x6_1 x7_1 x8_1 a0_0 a0_1 a0_2 l0_3 l0_4 a1_0 l1_1 = some (r1, r2)) ∧ Aside0 (kq ≤ k) ∧ Aside0 (Kd.R (Kd.int .i64) 3 w' w.heap.size (fun _ => True) v6 x6_1) ∧ Aside0 (w'.heap[gb281]? = some (.cells #[.int .i64 a0_0, .int .i64 a0_1, .int .i64 a0_2, (.slice A0_3 l0_3.length c0_3), (.slice A0_4 l0_4.length c0_4)] 24 (0, 0))) ∧ Aside0 (w'.heap[gb282]? = some (.cells #[.int .i64 a1_0, (.slice A1_1 l1_1.length c1_1)] 26 (0, 0))) ∧ Aside0 (Below w.heap.size w w'))
 case atStart => exact ⟨(y283), (a1_0), (0), rfl, rfl, H', ⟨Nat.le_refl _⟩, ⟨HO285.out⟩, ⟨BK281.out⟩, ⟨BK282.out⟩, ⟨HB.out⟩⟩
 case round =>
  clear H'
  try clear c1
  try clear p2
  try clear c5
  try clear hcz6_0
  try clear hcz6_1
  try clear hcz9_0
  try clear hcz9_1
  try clear hfz6_0
  try clear hfz6_1
  try clear hfz9_0
  try clear hfz9_1
  obtain ⟨x6_1, x7_1, x8_1, rfl, rfl, HA, HK1, HO_6, BK281, BK282, HB⟩ := hrel
  cases gk with
  | zero => exact absurd HA.out (by simp [taquinref22_Way.l0])
  | succ k1 =>
   have H := HA.out
   clear HA
   simp only [taquinref22_Way.l0] at H
   by_cases c10 : x8_1 < (l1_1.length : Int)
   ·rw [if_pos c10] at H
    have c10b0 : decide (x8_1 < (l1_1.length : Int)) = true := decide_eq_true c10
    clear c10
    by_cases c11 : 0 ≤ x8_1
    ·rw [if_pos c11] at H
     have c11b0 : decide (0 ≤ x8_1) = true := decide_eq_true c11
     clear c11
     have HC12 := Aside0.mk H
     clear H
     have hnb13 := NB282_281.out
     have hnc13 := NB281_282.out
     have hcz14_0 : wr.cell? ⟨gb282, 0, none⟩ = some (.int .i64 a1_0) := (blk_cell BK282.out 0).trans rfl
     have hcz14_1 : wr.cell? ⟨gb282, 1, none⟩ = some (.slice A1_1 l1_1.length c1_1) := (blk_cell BK282.out 1).trans rfl
     have hfz14_0 := blk_frozen BK282.out 0
     have hfz14_1 := blk_frozen BK282.out 1
     have p286 : 0 ≤ (x8_1 : Int) := of_decide_eq_true (by first | (with_reducible assumption) | assumption)
     have q286 : x8_1 < (l1_1.length : Int) := of_decide_eq_true (by first | (with_reducible assumption) | assumption)
     obtain ⟨ad286, e286, hx286_0⟩ := Kd.at_int HR1_1.out x8_1 p286 q286
     cases e286
     replace hx286_0 := (HB.out.cell (World.block_lt_of_cell? w _ hx286_0)).trans hx286_0
     replace p286 := eq_true p286
     replace q286 := eq_true q286
     go_upto_region 7 with (fail)
     go_cut [35] (fun v35 wc => ∃ (kq : Nat) (x35_11 : Bool), v35 = .bool x35_11 ∧ Aside0 (taquinref22_Way.j1 kq x6_1 x7_1 x8_1 (wrap64 ((rd l1_1 x8_1) - 1)) x35_11 a0_0 a0_1 a0_2 l0_3 l0_4 a1_0 l1_1 = some (r1, r2)) ∧ Aside0 (kq ≤ k1) ∧ Aside0 (Kd.R (Kd.int .i64) 3 wc w.heap.size (fun _ => True) u6 x6_1) ∧ Aside0 (wc.heap[gb281]? = some (.cells #[.int .i64 a0_0, .int .i64 a0_1, .int .i64 a0_2, (.slice A0_3 l0_3.length c0_3), (.slice A0_4 l0_4.length c0_4)] 24 (0, 0))) ∧ Aside0 (wc.heap[gb282]? = some (.cells #[.int .i64 a1_0, (.slice (some ad286) l1_1.length c1_1)] 26 (0, 0))) ∧ Aside0 (Below w.heap.size w wc))
     case first =>
      have H := HC12.out
      clear HC12
      by_cases c15 : (wrap64 ((rd l1_1 x8_1) - 1)) < 0
      ·rw [if_pos c15] at H
       have c15b0 : decide ((wrap64 ((rd l1_1 x8_1) - 1)) < 0) = true := decide_eq_true c15
       clear c15
       (first | rw [c15b0] | (simp only [i64_w, i32_w]; rw [c15b0]) | skip)
       have H' := Aside0.mk H
       clear H
       go_wp2
       go_meet
       case rel => exact ⟨_, (true), rfl, H', ⟨by have := HK1.out; first | omega | exact Nat.le_refl _⟩, ⟨HO_6.out⟩, ⟨BK281.out⟩, ⟨BK282.out⟩, ⟨HB.out⟩⟩
      ·rw [if_neg c15] at H
       have c15b0 : decide ((wrap64 ((rd l1_1 x8_1) - 1)) < 0) = false := decide_eq_false c15
       clear c15
       (first | rw [c15b0] | (simp only [i64_w, i32_w]; rw [c15b0]) | skip)
       have H' := Aside0.mk H
       clear H
       go_wp2
       go_meet
       case rel => exact ⟨_, (decide ((wrap64 ((rd l1_1 x8_1) - 1)) > 5)), rfl, H', ⟨by have := HK1.out; first | omega | exact Nat.le_refl _⟩, ⟨HO_6.out⟩, ⟨BK281.out⟩, ⟨BK282.out⟩, ⟨HB.out⟩⟩
     case rest =>
      clear HC12
      try clear c1
      try clear p2
      try clear q2
      try clear hx2
      try clear c5
      try clear p6
      try clear c10
      try clear c10b0
      try clear c11
      try clear c11b0
      try clear c13
      try clear c14
      try clear c15
      try clear c15b0
      try clear hcz14_0
      try clear hcz14_1
      try clear hcz6_0
      try clear hcz6_1
      try clear hcz9_0
      try clear hcz9_1
      try clear hfz14_0
      try clear hfz14_1
      try clear hfz6_0
      try clear hfz6_1
      try clear hfz9_0
      try clear hfz9_1
      try clear hx286_0
      try clear p2
      try clear p286
      try clear q286
      obtain ⟨kq, x35_11, rfl, HA, HJ11, HO_6, BK281, BK282, HB⟩ := hcut
      cases kq with
      | zero => exact absurd HA.out (by simp [taquinref22_Way.j1])
      | succ kj11 =>
       have H := HA.out
       clear HA
       simp only [taquinref22_Way.j1] at H
       by_cases c16 : x35_11 = true
       ·subst c16
        have H1 : (taquinref22_Way.l0 kj11 x6_1 x7_1 (wrap64 (x8_1 + 1)) a0_0 a0_1 a0_2 l0_3 l0_4 a1_0 l1_1) = some (r1, r2) := by rw [if_pos rfl] at H; exact H
        clear H
        have H := H1
        clear H1
        have H' := Aside0.mk H
        clear H
        go_wp2
        go_roundg kj11
        case measure => have := HK1.out; have := HJ11.out; omega
        case rel => exact ⟨(x6_1), (x7_1), (wrap64 (x8_1 + 1)), rfl, rfl, H', ⟨by have := HK1.out; have := HJ11.out; omega⟩, ⟨HO_6.out⟩, ⟨BK281.out⟩, ⟨BK282.out⟩, ⟨HB.out⟩⟩
       ·replace c16 := Bool.eq_false_iff.mpr c16
        subst c16
        have H1 : ((taquinref07_Next.f kj11 a0_0 a0_1 a0_2 l0_3 l0_4 x7_1 (wrap64 ((rd l1_1 x8_1) - 1))).bind fun bt287 => (if bt287.2 = true then (if x6_1.length < 17592186044416 then (taquinref22_Way.l0 kj11 (x6_1 ++ [bt287.1]) bt287.1 (wrap64 (x8_1 + 1)) a0_0 a0_1 a0_2 l0_3 l0_4 a1_0 l1_1) else (none)) else (some (([] : List Int), false)))) = some (r1, r2) := by rw [if_neg (show ¬ (false = true) by decide)] at H; exact H
        clear H
        have H := H1
        clear H1
        replace H := Option.bind_eq_some_iff.mp H
        obtain ⟨⟨t287, t288⟩, A170, H⟩ := H
        try dsimp only at H
        have A17 := Aside0.mk A170
        clear A170
        by_cases c18 : t288 = true
        ·subst c18
         have H1 : (if x6_1.length < 17592186044416 then (taquinref22_Way.l0 kj11 (x6_1 ++ [t287]) t287 (wrap64 (x8_1 + 1)) a0_0 a0_1 a0_2 l0_3 l0_4 a1_0 l1_1) else (none)) = some (r1, r2) := by rw [if_pos rfl] at H; exact H
         clear H
         have H := H1
         clear H1
         by_cases c19 : x6_1.length < 17592186044416
         ·rw [if_pos c19] at H
          have LMc19 := Aside0.mk c19
          clear c19
          obtain ⟨y289, hy289⟩ : ∃ y_ : List Int, y_ = (x6_1 ++ [t287]) := ⟨_, rfl⟩
          replace H : (taquinref22_Way.l0 kj11 y289 t287 (wrap64 (x8_1 + 1)) a0_0 a0_1 a0_2 l0_3 l0_4 a1_0 l1_1) = some (r1, r2) := by first | (rw [hy289]; with_reducible exact H) | (have H2_ := (Option.bind_some _ _).symm.trans H; rw [hy289]; with_reducible exact H2_) | (have H2_ := (Option.bind_some _ _).symm.trans H; with_reducible exact H2_) | with_reducible exact H | (rw [hy289]; exact H) | exact H
          have Ny289 := Aside0.mk hy289
          clear hy289
          have H' := Aside0.mk H
          clear H
          have hnb20 := NB281_282.out
          have hnc20 := NB282_281.out
          have hcz21_0 : wc.cell? ⟨gb281, 0, none⟩ = some (.int .i64 a0_0) := (blk_cell BK281.out 0).trans rfl
          have hcz21_1 : wc.cell? ⟨gb281, 1, none⟩ = some (.int .i64 a0_1) := (blk_cell BK281.out 1).trans rfl
          have hcz21_2 : wc.cell? ⟨gb281, 2, none⟩ = some (.int .i64 a0_2) := (blk_cell BK281.out 2).trans rfl
          have hcz21_3 : wc.cell? ⟨gb281, 3, none⟩ = some (.slice A0_3 l0_3.length c0_3) := (blk_cell BK281.out 3).trans rfl
          have hcz21_4 : wc.cell? ⟨gb281, 4, none⟩ = some (.slice A0_4 l0_4.length c0_4) := (blk_cell BK281.out 4).trans rfl
          have hfz21_0 := blk_frozen BK281.out 0
          have hfz21_1 := blk_frozen BK281.out 1
          have hfz21_2 := blk_frozen BK281.out 2
          have hfz21_3 := blk_frozen BK281.out 3
          have hfz21_4 := blk_frozen BK281.out 4
          go_wp2_with (first | ((with_reducible refine gate_callee (f := 38) rfl ?_); refine goesL_ (some 40) rfl rfl Tryz.func38 (by kernel_rfl) rfl #[.agg #[.int .i64 a0_0, .int .i64 a0_1, .int .i64 a0_2, .slice A0_3 l0_3.length c0_3, .slice A0_4 l0_4.length c0_4], .int .i64 x7_1, .int .i64 (wrap64 ((rd l1_1 x8_1) - 1))] rfl (by (try simp only [List.map_toArray, List.map_cons, List.map_nil]); first | done | rfl | (simp only [List.length_drop, List.length_take]; rfl)) ?_; (with_reducible refine (taquinref07_Next.calls kj11 a0_0 a0_1 a0_2 _ _ l0_3 _ _ l0_4 x7_1 (wrap64 ((rd l1_1 x8_1) - 1)) t287 true _ ?side1 ?side2 ?side3 ?side4 A17.out).mono ?_); (case side1 => repeat (first | exact (Kd.C_below HR0_3.out HB.out) | (with_reducible refine Kd.C_alloc ?_ _) | (with_reducible refine Kd.C_drewN ?_ _) | (with_reducible refine Kd.C_drew ?_))); (case side2 => exact HC0_3.out); (case side3 => repeat (first | exact (Kd.C_below HR0_4.out HB.out) | (with_reducible refine Kd.C_alloc ?_ _) | (with_reducible refine Kd.C_drewN ?_ _) | (with_reducible refine Kd.C_drew ?_))); (case side4 => exact HC0_4.out); rintro e w22 ⟨rfl, hb⟩; refine ⟨_, rfl, ?_⟩; have n0_ := Aside0.mk (Kd.R_below (by (with_reducible repeat (first | apply Kd.R_alloc | apply Kd.R_drewN | apply Kd.R_drew)); exact HO_6.out) hb); have n1_ := Aside0.mk (blk_below (g := gb281) (o := .cells #[.int .i64 a0_0, .int .i64 a0_1, .int .i64 a0_2, .slice A0_3 l0_3.length c0_3, .slice A0_4 l0_4.length c0_4] 24 (0, 0)) (by (with_reducible repeat (first | refine blk_drewN ?_ _ | refine blk_drew ?_ | refine blk_alloc ?_ _)); exact BK281.out) hb); have n2_ := Aside0.mk (blk_below (g := gb282) (o := .cells #[.int .i64 a1_0, .slice (some ad286) l1_1.length c1_1] 26 (0, 0)) (by (with_reducible repeat (first | refine blk_drewN ?_ _ | refine blk_drew ?_ | refine blk_alloc ?_ _)); exact BK282.out) hb); have n3_ := Aside0.mk (below_step (by repeat (first | (with_reducible first | exact HB.out | apply below_alloc | apply pw_below_drewN | apply below_drew1 | refine below_set ?_ GE281.out | refine below_set ?_ GE282.out) | exact HB.out)) hb); clear HO_6; clear BK281; clear BK282; clear HB; have HO_6 := n0_; have BK281 := n1_; have BK282 := n2_; have HB := n3_; clear n0_ n1_ n2_ n3_; (try clear hb); (try clear hb2); (try clear hk); (try clear hi)) | ((with_reducible refine gate_builtin (b := .append) (xs := #[.tmp 46, .tmp 48]) rfl ?_); at_builtin; refine Kd.R_append (Kd.int .i64) (w0 := w) w.heap.size rfl (.tmp 46) (.tmp 48) 22 3 (.int .i64 0) 8 rfl Tryz.underlying22 info3 rfl (by decide) (by omega) u6 x6_1 t287 [.int .i64 t287] (fun _ => True) (fun _ => False) rfl rfl ?aP (fun _ hk => hk.elim) ?aF ?aO ?aB ?aS ?aL ?_; (case aP => exact rfl); (case aB => exact (by repeat (first | (with_reducible first | exact HB.out | apply below_alloc | apply pw_below_drewN | apply below_drew1 | refine below_set ?_ GE281.out | refine below_set ?_ GE282.out) | exact HB.out))); (case aF => exact (fun _ _ => trivial)); (case aO => exact (by (with_reducible repeat (first | apply Kd.R_alloc | apply Kd.R_drewN | apply Kd.R_drew)); exact HO_6.out)); (case aS => exact (below_size (by repeat (first | (with_reducible first | exact HB.out | apply below_alloc | apply pw_below_drewN | apply below_drew1 | refine below_set ?_ GE281.out | refine below_set ?_ GE282.out) | exact HB.out)))); (case aL => have := LMc19.out; omega); intro v290 w23 ho hb hg hat; rw [← Ny289.out] at ho; have n0_ := Aside0.mk (blk_grown (g := gb281) (o := .cells #[.int .i64 a0_0, .int .i64 a0_1, .int .i64 a0_2, .slice A0_3 l0_3.length c0_3, .slice A0_4 l0_4.length c0_4] 24 (0, 0)) (by (with_reducible repeat (first | refine blk_drewN ?_ _ | refine blk_drew ?_ | refine blk_alloc ?_ _)); exact BK281.out) hg (Kd.R_ne HO_6.out BK281.out (by decide))); have n1_ := Aside0.mk (blk_grown (g := gb282) (o := .cells #[.int .i64 a1_0, .slice (some ad286) l1_1.length c1_1] 26 (0, 0)) (by (with_reducible repeat (first | refine blk_drewN ?_ _ | refine blk_drew ?_ | refine blk_alloc ?_ _)); exact BK282.out) hg (Kd.R_ne HO_6.out BK282.out (by decide))); have n2_ := Aside0.mk (hb); have n3_ := Aside0.mk (ho); clear BK281; clear BK282; clear HB; clear HO_6; have BK281 := n0_; have BK282 := n1_; have HB := n2_; have HO291 := n3_; clear n0_ n1_ n2_ n3_; clear ho hb hg hat))
          go_roundg kj11
          case measure => have := HK1.out; have := HJ11.out; omega
          case rel => exact ⟨(y289), (t287), (wrap64 (x8_1 + 1)), rfl, rfl, H', ⟨by have := HK1.out; have := HJ11.out; omega⟩, ⟨HO291.out⟩, ⟨BK281.out⟩, ⟨BK282.out⟩, ⟨HB.out⟩⟩
         ·rw [if_neg c19] at H
          exact absurd H (by simp)
        ·replace c18 := Bool.eq_false_iff.mpr c18
         subst c18
         have H1 : (some (([] : List Int), false)) = some (r1, r2) := by rw [if_neg (show ¬ (false = true) by decide)] at H; exact H
         clear H
         have H := H1
         clear H1
         simp only [Option.some.injEq, Prod.mk.injEq] at H
         obtain ⟨rfl, rfl⟩ := H
         have hnb24 := NB281_282.out
         have hnc24 := NB282_281.out
         have hcz25_0 : wc.cell? ⟨gb281, 0, none⟩ = some (.int .i64 a0_0) := (blk_cell BK281.out 0).trans rfl
         have hcz25_1 : wc.cell? ⟨gb281, 1, none⟩ = some (.int .i64 a0_1) := (blk_cell BK281.out 1).trans rfl
         have hcz25_2 : wc.cell? ⟨gb281, 2, none⟩ = some (.int .i64 a0_2) := (blk_cell BK281.out 2).trans rfl
         have hcz25_3 : wc.cell? ⟨gb281, 3, none⟩ = some (.slice A0_3 l0_3.length c0_3) := (blk_cell BK281.out 3).trans rfl
         have hcz25_4 : wc.cell? ⟨gb281, 4, none⟩ = some (.slice A0_4 l0_4.length c0_4) := (blk_cell BK281.out 4).trans rfl
         have hfz25_0 := blk_frozen BK281.out 0
         have hfz25_1 := blk_frozen BK281.out 1
         have hfz25_2 := blk_frozen BK281.out 2
         have hfz25_3 := blk_frozen BK281.out 3
         have hfz25_4 := blk_frozen BK281.out 4
         go_wp2_with (first | ((with_reducible refine gate_callee (f := 38) rfl ?_); refine goesL_ (some 40) rfl rfl Tryz.func38 (by kernel_rfl) rfl #[.agg #[.int .i64 a0_0, .int .i64 a0_1, .int .i64 a0_2, .slice A0_3 l0_3.length c0_3, .slice A0_4 l0_4.length c0_4], .int .i64 x7_1, .int .i64 (wrap64 ((rd l1_1 x8_1) - 1))] rfl (by (try simp only [List.map_toArray, List.map_cons, List.map_nil]); first | done | rfl | (simp only [List.length_drop, List.length_take]; rfl)) ?_; (with_reducible refine (taquinref07_Next.calls kj11 a0_0 a0_1 a0_2 _ _ l0_3 _ _ l0_4 x7_1 (wrap64 ((rd l1_1 x8_1) - 1)) t287 false _ ?side1 ?side2 ?side3 ?side4 A17.out).mono ?_); (case side1 => repeat (first | exact (Kd.C_below HR0_3.out HB.out) | (with_reducible refine Kd.C_alloc ?_ _) | (with_reducible refine Kd.C_drewN ?_ _) | (with_reducible refine Kd.C_drew ?_))); (case side2 => exact HC0_3.out); (case side3 => repeat (first | exact (Kd.C_below HR0_4.out HB.out) | (with_reducible refine Kd.C_alloc ?_ _) | (with_reducible refine Kd.C_drewN ?_ _) | (with_reducible refine Kd.C_drew ?_))); (case side4 => exact HC0_4.out); rintro e w26 ⟨rfl, hb⟩; refine ⟨_, rfl, ?_⟩; have n0_ := Aside0.mk (Kd.R_below (by (with_reducible repeat (first | apply Kd.R_alloc | apply Kd.R_drewN | apply Kd.R_drew)); exact HO_6.out) hb); have n1_ := Aside0.mk (blk_below (g := gb281) (o := .cells #[.int .i64 a0_0, .int .i64 a0_1, .int .i64 a0_2, .slice A0_3 l0_3.length c0_3, .slice A0_4 l0_4.length c0_4] 24 (0, 0)) (by (with_reducible repeat (first | refine blk_drewN ?_ _ | refine blk_drew ?_ | refine blk_alloc ?_ _)); exact BK281.out) hb); have n2_ := Aside0.mk (blk_below (g := gb282) (o := .cells #[.int .i64 a1_0, .slice (some ad286) l1_1.length c1_1] 26 (0, 0)) (by (with_reducible repeat (first | refine blk_drewN ?_ _ | refine blk_drew ?_ | refine blk_alloc ?_ _)); exact BK282.out) hb); have n3_ := Aside0.mk (below_step (by repeat (first | (with_reducible first | exact HB.out | apply below_alloc | apply pw_below_drewN | apply below_drew1 | refine below_set ?_ GE281.out | refine below_set ?_ GE282.out) | exact HB.out)) hb); clear HO_6; clear BK281; clear BK282; clear HB; have HO_6 := n0_; have BK281 := n1_; have BK282 := n2_; have HB := n3_; clear n0_ n1_ n2_ n3_; (try clear hb); (try clear hb2); (try clear hk); (try clear hi)))
         go_ret2
         exact ⟨_, by first | rfl | (simp [errW_none, errW_some] <;> rfl) | (simp [*, errW_none, errW_some] <;> rfl), by first | exact Kd.R_nil _ _ _ _ _ | exact Kd.N_nil _ _ _ _ _ | exact Kd.V_nil _ _ _ _ _ | exact Kd.Q_nil _ _ _ _ _ | exact Kd.S_nil _ _ _ _ _, by repeat (first | (with_reducible first | exact HB.out | apply below_alloc | apply pw_below_drewN | apply below_drew1 | refine below_set ?_ GE281.out | refine below_set ?_ GE282.out) | exact HB.out)⟩
    ·rw [if_neg c11] at H
     exact absurd H (by simp)
   ·rw [if_neg c10] at H
    have c10b0 : decide (x8_1 < (l1_1.length : Int)) = false := decide_eq_false c10
    clear c10
    simp only [Option.some.injEq, Prod.mk.injEq] at H
    obtain ⟨rfl, rfl⟩ := H
    have hnb27 := NB282_281.out
    have hnc27 := NB281_282.out
    have hcz28_0 : wr.cell? ⟨gb282, 0, none⟩ = some (.int .i64 a1_0) := (blk_cell BK282.out 0).trans rfl
    have hcz28_1 : wr.cell? ⟨gb282, 1, none⟩ = some (.slice A1_1 l1_1.length c1_1) := (blk_cell BK282.out 1).trans rfl
    have hfz28_0 := blk_frozen BK282.out 0
    have hfz28_1 := blk_frozen BK282.out 1
    go_wp2
    go_ret2
    exact ⟨_, rfl, HO_6.out, HB.out⟩
end Go.Proofs.YtphcihbffiggbaaGreatDoor.PRt

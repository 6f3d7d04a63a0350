-- squeezed by a program of this claim's own (wip/tools/fit.py), after the kit's printer
import Derived.Test.YtigdjhnpngjhjaaDoorPRbx0
import Derived.Test.YtigdjhnpngjhjaaDoorPRbx8
namespace Go.Proofs.YtigdjhnpngjhjaaDoor.PRb
open Go.RowKit Go.Proofs.YtigdjhnpngjhjaaDoorW.PrintWords Go.Proofs.YtigdjhnpngjhjaaDoorW.PrintLast Go.Proofs.YtigdjhnpngjhjaaDoorW.PrintMore
attribute [local go_sem] max2_int min2_int max_two min_two max_three min_three max_four min_four   -- for this text's walks alone
set_option linter.unusedVariables false
set_option linter.unusedSimpArgs false

/-! ### taquinlaw22_few: function 90 -/
def taquinlaw22_few.f (k : Nat) (a0_0 : Int) (a0_1 : Int) (a0_2 : Int) (l0_3 : List Int) (l0_4 : List Int) (a1_0 : Int) (l1_1 : List Int) : Option (Bool) := if (l0_3.length : Int) ≤ 40 then (if (l0_4.length : Int) ≤ 40 then (if (l1_1.length : Int) ≤ 10 then ((taquinref07_Right.f k a0_0 a0_1 a0_2 l0_3 l0_4).bind fun t276 => (some t276)) else (some false)) else (some false)) else (some false)
theorem taquinlaw22_few.mono : ∀ a0 a1 a2 a3 a4 a5 a6 k, LeO (taquinlaw22_few.f k a0 a1 a2 a3 a4 a5 a6) (taquinlaw22_few.f (k + 1) a0 a1 a2 a3 a4 a5 a6) := by
 intro a0 a1 a2 a3 a4 a5 a6 k
 unfold taquinlaw22_few.f
 repeat' first
   | (with_reducible exact taquinref07_Right.mono _ _ _ _ _ _)
   | (with_reducible exact LeO.refl _)
   | (with_reducible exact LeO.none _)
   | (with_reducible refine LeO.ite ?_ ?_)
   | (with_reducible refine LeO.bind ?_ (fun _ => ?_))
   | exact taquinref07_Right.mono _ _ _ _ _ _
   | exact LeO.none _
   | refine LeO.ite ?_ ?_
   | refine LeO.bind ?_ (fun _ => ?_)
set_option maxHeartbeats 8000000 in
set_option maxRecDepth 100000 in
theorem taquinlaw22_few.calls (k : Nat) (a0_0 : Int) (a0_1 : Int) (a0_2 : Int) (A0_3 : Option Addr) (c0_3 : Nat) (l0_3 : List Int) (A0_4 : Option Addr) (c0_4 : Nat) (l0_4 : List Int) (a1_0 : Int) (A1_1 : Option Addr) (c1_1 : Nat) (l1_1 : List Int) (r : Bool) (w : World) (hr0_3 : Kd.C (Kd.int .i64) w A0_3 l0_3.length l0_3) (hc0_3 : l0_3.length ≤ c0_3) (hr0_4 : Kd.C (Kd.int .i64) w A0_4 l0_4.length l0_4) (hc0_4 : l0_4.length ≤ c0_4) (hr1_1 : Kd.C (Kd.int .i64) w A1_1 l1_1.length l1_1) (hc1_1 : l1_1.length ≤ c1_1) (h : taquinlaw22_few.f k a0_0 a0_1 a0_2 l0_3 l0_4 a1_0 l1_1 = some r) :
  Calls Tryd.prog 90 #[.agg #[.int .i64 a0_0, .int .i64 a0_1, .int .i64 a0_2, .slice A0_3 l0_3.length c0_3, .slice A0_4 l0_4.length c0_4], .agg #[.int .i64 a1_0, .slice A1_1 l1_1.length c1_1]] w fun e w' => e = .returned (.bool r) ∧ Below w.heap.size w w' := by
 have hu91 := Tryd.underlying91
 have hu115 := Tryd.underlying115
 have HR0_3 := Aside0.mk hr0_3
 have HC0_3 := Aside0.mk hc0_3
 clear hr0_3 hc0_3
 have HR0_4 := Aside0.mk hr0_4
 have HC0_4 := Aside0.mk hc0_4
 clear hr0_4 hc0_4
 have HR1_1 := Aside0.mk hr1_1
 have HC1_1 := Aside0.mk hc1_1
 clear hr1_1 hc1_1
 have HB := Aside0.mk (Below.refl w.heap.size w)
 have H : (if (l0_3.length : Int) ≤ 40 then (if (l0_4.length : Int) ≤ 40 then (if (l1_1.length : Int) ≤ 10 then ((taquinref07_Right.f k a0_0 a0_1 a0_2 l0_3 l0_4).bind fun t276 => (some t276)) else (some false)) else (some false)) else (some false)) = some r := h
 clear h
 by_cases c3 : (l0_3.length : Int) ≤ 40
 ·rw [if_pos c3] at H
  have c3b0 : decide ((l0_3.length : Int) ≤ 40) = true := decide_eq_true c3
  have c3b1 : decide (l0_3.length ≤ 40) = true := decide_eq_true (by omega)
  clear c3
  by_cases c4 : (l0_4.length : Int) ≤ 40
  ·rw [if_pos c4] at H
   have c4b0 : decide ((l0_4.length : Int) ≤ 40) = true := decide_eq_true c4
   have c4b1 : decide (l0_4.length ≤ 40) = true := decide_eq_true (by omega)
   clear c4
   by_cases c5 : (l1_1.length : Int) ≤ 10
   ·rw [if_pos c5] at H
    have c5b0 : decide ((l1_1.length : Int) ≤ 10) = true := decide_eq_true c5
    have c5b1 : decide (l1_1.length ≤ 10) = true := decide_eq_true (by omega)
    clear c5
    replace H := Option.bind_eq_some_iff.mp H
    obtain ⟨t276, A60, H⟩ := H
    try dsimp only at H
    have A6 := Aside0.mk A60
    clear A60
    obtain rfl := Option.some.inj H
    go_enter Tryd.func90, Tryd.ntmps90
    go_wp2_with (first | ((with_reducible refine gate_dst (N := 2) rfl ?_); (try (refine gate_guard (by rfl) ?_; dsimp only)); refine box_event ?hg (N := 2) ?hd (cs := #[.int .i64 a0_0, .int .i64 a0_1, .int .i64 a0_2, .slice A0_3 l0_3.length c0_3, .slice A0_4 l0_4.length c0_4]) (t := 91) ?hr ?_; (case hd => rfl); (case hg => rfl); (case hr => first | (go_simp; done) | (go_simp; rfl)); intro gb274 hg w7 hbox hb; have n0_ := Aside0.mk (below_step HB.out hb); have n1_ := Aside0.mk (hbox); have n2_ := Aside0.mk ((by rw [hg]; exact (below_size HB.out) : w.heap.size ≤ gb274)); have n3_ := Aside0.mk ((by rw [hg]; exact (below_size HB.out) : w.heap.size ≤ gb274)); clear HB; have HB := n0_; have BK274 := n1_; have GW274 := n2_; have GE274 := n3_; clear n0_ n1_ n2_ n3_; clear hb hbox hg) | ((with_reducible refine gate_dst (N := 3) rfl ?_); (try (refine gate_guard (by rfl) ?_; dsimp only)); refine box_event ?hg (N := 3) ?hd (cs := #[.int .i64 a1_0, .slice A1_1 l1_1.length c1_1]) (t := 115) ?hr ?_; (case hd => rfl); (case hg => rfl); (case hr => first | (go_simp; done) | (go_simp; rfl)); intro gb275 hg w8 hbox hb; have n0_ := Aside0.mk (blk_below (g := gb274) (o := .cells #[.int .i64 a0_0, .int .i64 a0_1, .int .i64 a0_2, .slice A0_3 l0_3.length c0_3, .slice A0_4 l0_4.length c0_4] 91 (0, 0)) BK274.out hb); have n1_ := Aside0.mk (below_step HB.out hb); have n2_ := Aside0.mk (hbox); have n3_ := Aside0.mk ((by rw [hg]; exact (below_size HB.out) : w.heap.size ≤ gb275)); have n4_ := Aside0.mk ((by rw [hg]; exact (below_size HB.out) : w.heap.size ≤ gb275)); have n5_ := Aside0.mk ((by rw [hg]; exact Nat.ne_of_lt (blk_lt (g := gb274) (o := .cells #[.int .i64 a0_0, .int .i64 a0_1, .int .i64 a0_2, .slice A0_3 l0_3.length c0_3, .slice A0_4 l0_4.length c0_4] 91 (0, 0)) BK274.out) : gb274 ≠ gb275)); have n6_ := Aside0.mk ((by rw [hg]; exact Nat.ne_of_gt (blk_lt (g := gb274) (o := .cells #[.int .i64 a0_0, .int .i64 a0_1, .int .i64 a0_2, .slice A0_3 l0_3.length c0_3, .slice A0_4 l0_4.length c0_4] 91 (0, 0)) BK274.out) : gb275 ≠ gb274)); clear BK274; clear HB; have BK274 := n0_; have HB := n1_; have BK275 := n2_; have GW275 := n3_; have GE275 := n4_; have NB274_275 := n5_; have NB275_274 := n6_; clear n0_ n1_ n2_ n3_ n4_ n5_ n6_; clear hb hbox hg; have hnb9 := NB274_275.out; have hnc9 := NB275_274.out; have hcz10_0 : w8.cell? ⟨gb274, 0, none⟩ = some (.int .i64 a0_0) := (blk_cell BK274.out 0).trans rfl; have hcz10_1 : w8.cell? ⟨gb274, 1, none⟩ = some (.int .i64 a0_1) := (blk_cell BK274.out 1).trans rfl; have hcz10_2 : w8.cell? ⟨gb274, 2, none⟩ = some (.int .i64 a0_2) := (blk_cell BK274.out 2).trans rfl; have hcz10_3 : w8.cell? ⟨gb274, 3, none⟩ = some (.slice A0_3 l0_3.length c0_3) := (blk_cell BK274.out 3).trans rfl; have hcz10_4 : w8.cell? ⟨gb274, 4, none⟩ = some (.slice A0_4 l0_4.length c0_4) := (blk_cell BK274.out 4).trans rfl; have hfz10_0 := blk_frozen BK274.out 0; have hfz10_1 := blk_frozen BK274.out 1; have hfz10_2 := blk_frozen BK274.out 2; have hfz10_3 := blk_frozen BK274.out 3; have hfz10_4 := blk_frozen BK274.out 4; have hcz11_0 : w8.cell? ⟨gb275, 0, none⟩ = some (.int .i64 a1_0) := (blk_cell BK275.out 0).trans rfl; have hcz11_1 : w8.cell? ⟨gb275, 1, none⟩ = some (.slice A1_1 l1_1.length c1_1) := (blk_cell BK275.out 1).trans rfl; have hfz11_0 := blk_frozen BK275.out 0; have hfz11_1 := blk_frozen BK275.out 1) | (go_at_call 192; (with_reducible refine (taquinref07_Right.calls k a0_0 a0_1 a0_2 _ _ l0_3 _ _ l0_4 t276 _ ?side1 ?side2 ?side3 ?side4 A6.out).mono ?_); (case side1 => exact (Kd.C_below HR0_3.out HB.out)); (case side2 => exact HC0_3.out); (case side3 => exact (Kd.C_below HR0_4.out HB.out)); (case side4 => exact HC0_4.out); rintro e w12 ⟨rfl, hb⟩; have n0_ := Aside0.mk (blk_below (g := gb274) (o := .cells #[.int .i64 a0_0, .int .i64 a0_1, .int .i64 a0_2, .slice A0_3 l0_3.length c0_3, .slice A0_4 l0_4.length c0_4] 91 (0, 0)) BK274.out hb); have n1_ := Aside0.mk (blk_below (g := gb275) (o := .cells #[.int .i64 a1_0, .slice A1_1 l1_1.length c1_1] 115 (0, 0)) BK275.out hb); have n2_ := Aside0.mk (below_step HB.out hb); clear BK274; clear BK275; clear HB; have BK274 := n0_; have BK275 := n1_; have HB := n2_; clear n0_ n1_ n2_; (try clear hb); (try clear hb2); (try clear hk); (try clear hi)))
    go_ret
    exact ⟨by first | rfl | (simp [errW_none, errW_some] <;> rfl) | (simp [*, errW_none, errW_some] <;> rfl), HB.out⟩
   ·rw [if_neg c5] at H
    have c5b0 : decide ((l1_1.length : Int) ≤ 10) = false := decide_eq_false c5
    have c5b1 : decide (l1_1.length ≤ 10) = false := decide_eq_false (by omega)
    clear c5
    obtain rfl := Option.some.inj H
    go_enter Tryd.func90, Tryd.ntmps90
    go_wp2_with (first | ((with_reducible refine gate_dst (N := 2) rfl ?_); (try (refine gate_guard (by rfl) ?_; dsimp only)); refine box_event ?hg (N := 2) ?hd (cs := #[.int .i64 a0_0, .int .i64 a0_1, .int .i64 a0_2, .slice A0_3 l0_3.length c0_3, .slice A0_4 l0_4.length c0_4]) (t := 91) ?hr ?_; (case hd => rfl); (case hg => rfl); (case hr => first | (go_simp; done) | (go_simp; rfl)); intro gb274 hg w13 hbox hb; have n0_ := Aside0.mk (below_step HB.out hb); have n1_ := Aside0.mk (hbox); have n2_ := Aside0.mk ((by rw [hg]; exact (below_size HB.out) : w.heap.size ≤ gb274)); have n3_ := Aside0.mk ((by rw [hg]; exact (below_size HB.out) : w.heap.size ≤ gb274)); clear HB; have HB := n0_; have BK274 := n1_; have GW274 := n2_; have GE274 := n3_; clear n0_ n1_ n2_ n3_; clear hb hbox hg) | ((with_reducible refine gate_dst (N := 3) rfl ?_); (try (refine gate_guard (by rfl) ?_; dsimp only)); refine box_event ?hg (N := 3) ?hd (cs := #[.int .i64 a1_0, .slice A1_1 l1_1.length c1_1]) (t := 115) ?hr ?_; (case hd => rfl); (case hg => rfl); (case hr => first | (go_simp; done) | (go_simp; rfl)); intro gb275 hg w14 hbox hb; have n0_ := Aside0.mk (blk_below (g := gb274) (o := .cells #[.int .i64 a0_0, .int .i64 a0_1, .int .i64 a0_2, .slice A0_3 l0_3.length c0_3, .slice A0_4 l0_4.length c0_4] 91 (0, 0)) BK274.out hb); have n1_ := Aside0.mk (below_step HB.out hb); have n2_ := Aside0.mk (hbox); have n3_ := Aside0.mk ((by rw [hg]; exact (below_size HB.out) : w.heap.size ≤ gb275)); have n4_ := Aside0.mk ((by rw [hg]; exact (below_size HB.out) : w.heap.size ≤ gb275)); have n5_ := Aside0.mk ((by rw [hg]; exact Nat.ne_of_lt (blk_lt (g := gb274) (o := .cells #[.int .i64 a0_0, .int .i64 a0_1, .int .i64 a0_2, .slice A0_3 l0_3.length c0_3, .slice A0_4 l0_4.length c0_4] 91 (0, 0)) BK274.out) : gb274 ≠ gb275)); have n6_ := Aside0.mk ((by rw [hg]; exact Nat.ne_of_gt (blk_lt (g := gb274) (o := .cells #[.int .i64 a0_0, .int .i64 a0_1, .int .i64 a0_2, .slice A0_3 l0_3.length c0_3, .slice A0_4 l0_4.length c0_4] 91 (0, 0)) BK274.out) : gb275 ≠ gb274)); clear BK274; clear HB; have BK274 := n0_; have HB := n1_; have BK275 := n2_; have GW275 := n3_; have GE275 := n4_; have NB274_275 := n5_; have NB275_274 := n6_; clear n0_ n1_ n2_ n3_ n4_ n5_ n6_; clear hb hbox hg; have hnb15 := NB274_275.out; have hnc15 := NB275_274.out; have hcz16_0 : w14.cell? ⟨gb274, 0, none⟩ = some (.int .i64 a0_0) := (blk_cell BK274.out 0).trans rfl; have hcz16_1 : w14.cell? ⟨gb274, 1, none⟩ = some (.int .i64 a0_1) := (blk_cell BK274.out 1).trans rfl; have hcz16_2 : w14.cell? ⟨gb274, 2, none⟩ = some (.int .i64 a0_2) := (blk_cell BK274.out 2).trans rfl; have hcz16_3 : w14.cell? ⟨gb274, 3, none⟩ = some (.slice A0_3 l0_3.length c0_3) := (blk_cell BK274.out 3).trans rfl; have hcz16_4 : w14.cell? ⟨gb274, 4, none⟩ = some (.slice A0_4 l0_4.length c0_4) := (blk_cell BK274.out 4).trans rfl; have hfz16_0 := blk_frozen BK274.out 0; have hfz16_1 := blk_frozen BK274.out 1; have hfz16_2 := blk_frozen BK274.out 2; have hfz16_3 := blk_frozen BK274.out 3; have hfz16_4 := blk_frozen BK274.out 4; have hcz17_0 : w14.cell? ⟨gb275, 0, none⟩ = some (.int .i64 a1_0) := (blk_cell BK275.out 0).trans rfl; have hcz17_1 : w14.cell? ⟨gb275, 1, none⟩ = some (.slice A1_1 l1_1.length c1_1) := (blk_cell BK275.out 1).trans rfl; have hfz17_0 := blk_frozen BK275.out 0; have hfz17_1 := blk_frozen BK275.out 1))
    go_ret
    exact ⟨by first | rfl | (simp [errW_none, errW_some] <;> rfl) | (simp [*, errW_none, errW_some] <;> rfl), HB.out⟩
  ·rw [if_neg c4] at H
   have c4b0 : decide ((l0_4.length : Int) ≤ 40) = false := decide_eq_false c4
   have c4b1 : decide (l0_4.length ≤ 40) = false := decide_eq_false (by omega)
   clear c4
   obtain rfl := Option.some.inj H
   go_enter Tryd.func90, Tryd.ntmps90
   go_wp2_with (first | ((with_reducible refine gate_dst (N := 2) rfl ?_); (try (refine gate_guard (by rfl) ?_; dsimp only)); refine box_event ?hg (N := 2) ?hd (cs := #[.int .i64 a0_0, .int .i64 a0_1, .int .i64 a0_2, .slice A0_3 l0_3.length c0_3, .slice A0_4 l0_4.length c0_4]) (t := 91) ?hr ?_; (case hd => rfl); (case hg => rfl); (case hr => first | (go_simp; done) | (go_simp; rfl)); intro gb274 hg w18 hbox hb; have n0_ := Aside0.mk (below_step HB.out hb); have n1_ := Aside0.mk (hbox); have n2_ := Aside0.mk ((by rw [hg]; exact (below_size HB.out) : w.heap.size ≤ gb274)); have n3_ := Aside0.mk ((by rw [hg]; exact (below_size HB.out) : w.heap.size ≤ gb274)); clear HB; have HB := n0_; have BK274 := n1_; have GW274 := n2_; have GE274 := n3_; clear n0_ n1_ n2_ n3_; clear hb hbox hg) | ((with_reducible refine gate_dst (N := 3) rfl ?_); (try (refine gate_guard (by rfl) ?_; dsimp only)); refine box_event ?hg (N := 3) ?hd (cs := #[.int .i64 a1_0, .slice A1_1 l1_1.length c1_1]) (t := 115) ?hr ?_; (case hd => rfl); (case hg => rfl); (case hr => first | (go_simp; done) | (go_simp; rfl)); intro gb275 hg w19 hbox hb; have n0_ := Aside0.mk (blk_below (g := gb274) (o := .cells #[.int .i64 a0_0, .int .i64 a0_1, .int .i64 a0_2, .slice A0_3 l0_3.length c0_3, .slice A0_4 l0_4.length c0_4] 91 (0, 0)) BK274.out hb); have n1_ := Aside0.mk (below_step HB.out hb); have n2_ := Aside0.mk (hbox); have n3_ := Aside0.mk ((by rw [hg]; exact (below_size HB.out) : w.heap.size ≤ gb275)); have n4_ := Aside0.mk ((by rw [hg]; exact (below_size HB.out) : w.heap.size ≤ gb275)); have n5_ := Aside0.mk ((by rw [hg]; exact Nat.ne_of_lt (blk_lt (g := gb274) (o := .cells #[.int .i64 a0_0, .int .i64 a0_1, .int .i64 a0_2, .slice A0_3 l0_3.length c0_3, .slice A0_4 l0_4.length c0_4] 91 (0, 0)) BK274.out) : gb274 ≠ gb275)); have n6_ := Aside0.mk ((by rw [hg]; exact Nat.ne_of_gt (blk_lt (g := gb274) (o := .cells #[.int .i64 a0_0, .int .i64 a0_1, .int .i64 a0_2, .slice A0_3 l0_3.length c0_3, .slice A0_4 l0_4.length c0_4] 91 (0, 0)) BK274.out) : gb275 ≠ gb274)); clear BK274; clear HB; have BK274 := n0_; have HB := n1_; have BK275 := n2_; have GW275 := n3_; have GE275 := n4_; have NB274_275 := n5_; have NB275_274 := n6_; clear n0_ n1_ n2_ n3_ n4_ n5_ n6_; clear hb hbox hg; have hnb20 := NB274_275.out; have hnc20 := NB275_274.out; have hcz21_0 : w19.cell? ⟨gb274, 0, none⟩ = some (.int .i64 a0_0) := (blk_cell BK274.out 0).trans rfl; have hcz21_1 : w19.cell? ⟨gb274, 1, none⟩ = some (.int .i64 a0_1) := (blk_cell BK274.out 1).trans rfl; have hcz21_2 : w19.cell? ⟨gb274, 2, none⟩ = some (.int .i64 a0_2) := (blk_cell BK274.out 2).trans rfl; have hcz21_3 : w19.cell? ⟨gb274, 3, none⟩ = some (.slice A0_3 l0_3.length c0_3) := (blk_cell BK274.out 3).trans rfl; have hcz21_4 : w19.cell? ⟨gb274, 4, none⟩ = some (.slice A0_4 l0_4.length c0_4) := (blk_cell BK274.out 4).trans rfl; have hfz21_0 := blk_frozen BK274.out 0; have hfz21_1 := blk_frozen BK274.out 1; have hfz21_2 := blk_frozen BK274.out 2; have hfz21_3 := blk_frozen BK274.out 3; have hfz21_4 := blk_frozen BK274.out 4))
   go_ret
   exact ⟨by first | rfl | (simp [errW_none, errW_some] <;> rfl) | (simp [*, errW_none, errW_some] <;> rfl), HB.out⟩
 ·rw [if_neg c3] at H
  have c3b0 : decide ((l0_3.length : Int) ≤ 40) = false := decide_eq_false c3
  have c3b1 : decide (l0_3.length ≤ 40) = false := decide_eq_false (by omega)
  clear c3
  obtain rfl := Option.some.inj H
  go_enter Tryd.func90, Tryd.ntmps90
  go_wp2_with (first | ((with_reducible refine gate_dst (N := 2) rfl ?_); (try (refine gate_guard (by rfl) ?_; dsimp only)); refine box_event ?hg (N := 2) ?hd (cs := #[.int .i64 a0_0, .int .i64 a0_1, .int .i64 a0_2, .slice A0_3 l0_3.length c0_3, .slice A0_4 l0_4.length c0_4]) (t := 91) ?hr ?_; (case hd => rfl); (case hg => rfl); (case hr => first | (go_simp; done) | (go_simp; rfl)); intro gb274 hg w22 hbox hb; have n0_ := Aside0.mk (below_step HB.out hb); have n1_ := Aside0.mk (hbox); have n2_ := Aside0.mk ((by rw [hg]; exact (below_size HB.out) : w.heap.size ≤ gb274)); have n3_ := Aside0.mk ((by rw [hg]; exact (below_size HB.out) : w.heap.size ≤ gb274)); clear HB; have HB := n0_; have BK274 := n1_; have GW274 := n2_; have GE274 := n3_; clear n0_ n1_ n2_ n3_; clear hb hbox hg) | ((with_reducible refine gate_dst (N := 3) rfl ?_); (try (refine gate_guard (by rfl) ?_; dsimp only)); refine box_event ?hg (N := 3) ?hd (cs := #[.int .i64 a1_0, .slice A1_1 l1_1.length c1_1]) (t := 115) ?hr ?_; (case hd => rfl); (case hg => rfl); (case hr => first | (go_simp; done) | (go_simp; rfl)); intro gb275 hg w23 hbox hb; have n0_ := Aside0.mk (blk_below (g := gb274) (o := .cells #[.int .i64 a0_0, .int .i64 a0_1, .int .i64 a0_2, .slice A0_3 l0_3.length c0_3, .slice A0_4 l0_4.length c0_4] 91 (0, 0)) BK274.out hb); have n1_ := Aside0.mk (below_step HB.out hb); have n2_ := Aside0.mk (hbox); have n3_ := Aside0.mk ((by rw [hg]; exact (below_size HB.out) : w.heap.size ≤ gb275)); have n4_ := Aside0.mk ((by rw [hg]; exact (below_size HB.out) : w.heap.size ≤ gb275)); have n5_ := Aside0.mk ((by rw [hg]; exact Nat.ne_of_lt (blk_lt (g := gb274) (o := .cells #[.int .i64 a0_0, .int .i64 a0_1, .int .i64 a0_2, .slice A0_3 l0_3.length c0_3, .slice A0_4 l0_4.length c0_4] 91 (0, 0)) BK274.out) : gb274 ≠ gb275)); have n6_ := Aside0.mk ((by rw [hg]; exact Nat.ne_of_gt (blk_lt (g := gb274) (o := .cells #[.int .i64 a0_0, .int .i64 a0_1, .int .i64 a0_2, .slice A0_3 l0_3.length c0_3, .slice A0_4 l0_4.length c0_4] 91 (0, 0)) BK274.out) : gb275 ≠ gb274)); clear BK274; clear HB; have BK274 := n0_; have HB := n1_; have BK275 := n2_; have GW275 := n3_; have GE275 := n4_; have NB274_275 := n5_; have NB275_274 := n6_; clear n0_ n1_ n2_ n3_ n4_ n5_ n6_; clear hb hbox hg; have hnb24 := NB274_275.out; have hnc24 := NB275_274.out; have hcz25_0 : w23.cell? ⟨gb274, 0, none⟩ = some (.int .i64 a0_0) := (blk_cell BK274.out 0).trans rfl; have hcz25_1 : w23.cell? ⟨gb274, 1, none⟩ = some (.int .i64 a0_1) := (blk_cell BK274.out 1).trans rfl; have hcz25_2 : w23.cell? ⟨gb274, 2, none⟩ = some (.int .i64 a0_2) := (blk_cell BK274.out 2).trans rfl; have hcz25_3 : w23.cell? ⟨gb274, 3, none⟩ = some (.slice A0_3 l0_3.length c0_3) := (blk_cell BK274.out 3).trans rfl; have hcz25_4 : w23.cell? ⟨gb274, 4, none⟩ = some (.slice A0_4 l0_4.length c0_4) := (blk_cell BK274.out 4).trans rfl; have hfz25_0 := blk_frozen BK274.out 0; have hfz25_1 := blk_frozen BK274.out 1; have hfz25_2 := blk_frozen BK274.out 2; have hfz25_3 := blk_frozen BK274.out 3; have hfz25_4 := blk_frozen BK274.out 4))
  go_ret
  exact ⟨by first | rfl | (simp [errW_none, errW_some] <;> rfl) | (simp [*, errW_none, errW_some] <;> rfl), HB.out⟩

/-- A state of type 189 at block g of W; what its slices lead to came in by w0. -/
def IsS189 (w0 W : World) (g : Nat) (f0 : ByteArray) (f1 : Bool) : Prop := W.heap[g]? = some (.cells #[.string f0, .bool f1] 189 (0, 0)) ∧ w0.heap.size ≤ g
theorem IsS189.grown {w0 W : World} {g : Nat} {f0 : ByteArray} {f1 : Bool} {W1 : World} {row : Option Nat} (h : IsS189 w0 W g f0 f1) (hw : W.grownBy W1 row) (hne : some g ≠ row) : IsS189 w0 W1 g f0 f1 := by
 obtain ⟨hb, hg⟩ := h
 exact ⟨blk_grown hb hw hne, hg⟩
theorem IsS189.own_neN {w0 W : World} {g : Nat} {f0 : ByteArray} {f1 : Bool} {α : Type} {d : Kd α} {e : Nat} {base : Nat} {ok : Nat → Prop} {v : Value} {xs : List α} (h : IsS189 w0 W g f0 f1) (ho : Kd.N d e W base ok v xs) (ht : e ≠ 189) : some g ≠ v.ownBlock := by
 obtain ⟨hb, hg⟩ := h
 exact Kd.N_ne ho hb ht
theorem IsS189.fresh {w0 W : World} {g : Nat} {f0 : ByteArray} {f1 : Bool} (h : IsS189 w0 W g f0 f1) : ∀ k, W.heap.size ≤ k → k ≠ g := by
 obtain ⟨hb, hg⟩ := h
 exact Kd.freshB hb
theorem IsS189.kept {w0 W : World} {g : Nat} {f0 : ByteArray} {f1 : Bool} {W1 : World} {S : Nat → Prop} (h : IsS189 w0 W g f0 f1) (hk : Kept W W1 S) (hne : ¬ S g) : IsS189 w0 W1 g f0 f1 := by
 obtain ⟨hb, hg⟩ := h
 exact ⟨blk_kept hb hk hne, hg⟩
theorem IsS189.below {w0 W : World} {g : Nat} {f0 : ByteArray} {f1 : Bool} {W1 : World} (h : IsS189 w0 W g f0 f1) (hw : Below W.heap.size W W1) : IsS189 w0 W1 g f0 f1 := h.grown (grown_of_below hw none) (by simp)
theorem IsS189.alloc {w0 W : World} {g : Nat} {f0 : ByteArray} {f1 : Bool} (h : IsS189 w0 W g f0 f1) (o : Obj) : IsS189 w0 (W.alloc o) g f0 f1 := h.below (below_alloc (Below.refl _ _) o)
theorem IsS189.drewN {w0 W : World} {g : Nat} {f0 : ByteArray} {f1 : Bool} (h : IsS189 w0 W g f0 f1) (m : Nat) : IsS189 w0 (W.drewN m) g f0 f1 := h
theorem IsS189.drew {w0 W : World} {g : Nat} {f0 : ByteArray} {f1 : Bool} (h : IsS189 w0 W g f0 f1) : IsS189 w0 W.drew g f0 f1 := h
theorem IsS189.at_ {w0 W : World} {g : Nat} {f0 : ByteArray} {f1 : Bool} {w' : World} {m : Nat} (hq : W.drewN m = w') (h : IsS189 w0 W g f0 f1) : IsS189 w0 w' g f0 f1 := by subst hq; exact IsS189.drewN h m
theorem IsS189.apart {w0 W : World} {g : Nat} {f0 : ByteArray} {f1 : Bool} {α : Type} {d : Kd α} {e : Nat} {base : Nat} {ok : Nat → Prop} {v : Value} {xs : List α} (h : IsS189 w0 W g f0 f1) (ho : d.R e W base ok v xs) (ht : ∀ q, q ∈ e :: d.E → q ≠ 189) : d.R e W base (fun k => ok k ∧ k ≠ g) v xs := by
 obtain ⟨hb, hg⟩ := h
 exact Kd.R_types ho hb ht
theorem IsS189.own_ne {w0 W : World} {g : Nat} {f0 : ByteArray} {f1 : Bool} {α : Type} {d : Kd α} {e : Nat} {base : Nat} {ok : Nat → Prop} {v : Value} {xs : List α} (h : IsS189 w0 W g f0 f1) (ho : d.R e W base ok v xs) (ht : e ≠ 189) : some g ≠ v.ownBlock := by
 obtain ⟨hb, hg⟩ := h
 exact Kd.R_ne ho hb ht
theorem IsS189.apartQ {w0 W : World} {g : Nat} {f0 : ByteArray} {f1 : Bool} {α : Type} {d : Kd α} {e : Nat} {base : Nat} {ok : Nat → Prop} {v : Value} {xs : List α} (h : IsS189 w0 W g f0 f1) (ho : d.Q e W base ok v xs) (ht : ∀ q, q ∈ e :: d.E → q ≠ 189) : d.Q e W base (fun k => ok k ∧ k ≠ g) v xs := by
 obtain ⟨hb, hg⟩ := h
 exact Kd.Q_types ho hb ht
theorem IsS189.own_neQ {w0 W : World} {g : Nat} {f0 : ByteArray} {f1 : Bool} {α : Type} {d : Kd α} {e : Nat} {base : Nat} {ok : Nat → Prop} {v : Value} {xs : List α} (h : IsS189 w0 W g f0 f1) (ho : d.Q e W base ok v xs) (ht : e ≠ 189) : some g ≠ v.ownBlock := by
 obtain ⟨hb, hg⟩ := h
 exact Kd.Q_ne ho hb ht
theorem IsS189.apartS {w0 W : World} {g : Nat} {f0 : ByteArray} {f1 : Bool} {α : Type} {d : Kd α} {e : Nat} {base : Nat} {ok : Nat → Prop} {v : Value} {xs : List α} (h : IsS189 w0 W g f0 f1) (ho : d.S e W base ok v xs) (ht : ∀ q, q ∈ e :: d.E → q ≠ 189) : d.S e W base (fun k => ok k ∧ k ≠ g) v xs := by
 obtain ⟨hb, hg⟩ := h
 exact Kd.S_types ho hb ht
theorem IsS189.own_neS {w0 W : World} {g : Nat} {f0 : ByteArray} {f1 : Bool} {α : Type} {d : Kd α} {e : Nat} {base : Nat} {ok : Nat → Prop} {v : Value} {xs : List α} (h : IsS189 w0 W g f0 f1) (ho : d.S e W base ok v xs) (ht : e ≠ 189) : some g ≠ v.ownBlock := by
 obtain ⟨hb, hg⟩ := h
 exact Kd.S_ne ho hb ht
theorem IsS189.lt {w0 W : World} {g : Nat} {f0 : ByteArray} {f1 : Bool} (h : IsS189 w0 W g f0 f1) : g < W.heap.size := by
 obtain ⟨hb, hg⟩ := h
 exact blk_lt hb
theorem IsS189.ge {w0 W : World} {g : Nat} {f0 : ByteArray} {f1 : Bool} (h : IsS189 w0 W g f0 f1) : w0.heap.size ≤ g := by
 obtain ⟨hb, hg⟩ := h
 exact hg
theorem IsS189.ne_blk {w0 W : World} {g : Nat} {f0 : ByteArray} {f1 : Bool} {a : Nat} {cs : Array Value} {t : TypeId} {fr : Nat × Nat} (h : IsS189 w0 W g f0 f1) (hb2 : W.heap[a]? = some (.cells cs t fr)) (ht : t ≠ 189) : g ≠ a := by
 obtain ⟨hb, hg⟩ := h
 rintro rfl
 rw [hb] at hb2
 injection hb2 with hb2
 injection hb2 with _ ht2
 exact ht ht2.symm
theorem IsS189.far {w0 W : World} {g : Nat} {f0 : ByteArray} {f1 : Bool} {p : Addr} (h : IsS189 w0 W g f0 f1) (hne : g ≠ p.block) (u : Value) : IsS189 w0 (W.setCell p u) g f0 f1 := by
 obtain ⟨hb, hg⟩ := h
 exact ⟨blk_far hb hne u, hg⟩
theorem cellS189_0 {W : World} {g : Nat} {f0 : ByteArray} {f1 : Bool} (h : W.heap[g]? = some (.cells #[.string f0, .bool f1] 189 (0, 0))) : W.cell? ⟨g, 0, none⟩ = some (.string f0) := (blk_cell h 0).trans rfl
theorem IsS189.set_0 {w0 W : World} {g : Nat} {f0 : ByteArray} {f1 : Bool} (h : IsS189 w0 W g f0 f1) (x : ByteArray) : IsS189 w0 (W.setCell ⟨g, 0, none⟩ (.string x)) g x f1 := by
 obtain ⟨hb, hg⟩ := h
 exact ⟨by simpa using blk_set hb 0 (.string x), hg⟩
theorem cellS189_1 {W : World} {g : Nat} {f0 : ByteArray} {f1 : Bool} (h : W.heap[g]? = some (.cells #[.string f0, .bool f1] 189 (0, 0))) : W.cell? ⟨g, 1, none⟩ = some (.bool f1) := (blk_cell h 1).trans rfl
theorem IsS189.set_1 {w0 W : World} {g : Nat} {f0 : ByteArray} {f1 : Bool} (h : IsS189 w0 W g f0 f1) (x : Bool) : IsS189 w0 (W.setCell ⟨g, 1, none⟩ (.bool x)) g f0 x := by
 obtain ⟨hb, hg⟩ := h
 exact ⟨by simpa using blk_set hb 1 (.bool x), hg⟩
theorem IsS189.new (w0 W : World) (f0 : ByteArray) (f1 : Bool) (hB : Below w0.heap.size w0 W) : IsS189 w0 (W.alloc (.cells #[.string f0, .bool f1] 189)) W.heap.size f0 f1 := ⟨by simpa using heap_alloc_new W _, hB.size⟩

/-! ### wire_Open: function 33 -/
def wire_Open.f (a0 : ByteArray) : Option (ByteArray × Bool) := some (a0, false)
set_option maxHeartbeats 8000000 in
set_option maxRecDepth 100000 in
theorem wire_Open.calls (a0 : ByteArray) (r1 : ByteArray) (r2 : Bool) (w0 w : World) (hB : Below w0.heap.size w0 w) (h : wire_Open.f a0 = some (r1, r2)) :
  Calls Tryd.prog 33 #[.string a0] w fun e w' => ∃ g_ : Nat, e = .returned (.pointer (some ⟨g_, 0, none⟩)) ∧ IsS189 w0 w' g_ r1 r2 ∧ Below w0.heap.size w0 w' ∧ Below w.heap.size w w' := by
 have hu189 := Tryd.underlying189
 have HBW := Aside0.mk (Below.refl w.heap.size w)
 have HW0 := Aside0.mk hB.size
 have HB := Aside0.mk hB
 clear hB
 have H : (some (a0, false)) = some (r1, r2) := h
 clear h
 simp only [Option.some.injEq, Prod.mk.injEq] at H
 obtain ⟨rfl, rfl⟩ := H
 go_enter Tryd.func33, Tryd.ntmps33
 go_wp2_with (first | ((with_reducible refine gate_dst (N := 5) rfl ?_); refine box_event ?hg (N := 5) ?hd (cs := #[.string a0, .bool false]) (t := 189) ?hr ?_; (case hd => rfl); (case hg => rfl); (case hr => first | (go_simp; done) | (go_simp; rfl)); intro gb277 hg w2 hbox hb; have n0_ := Aside0.mk (below_step HBW.out hb); have n1_ := Aside0.mk (below_step HB.out hb); have n2_ := Aside0.mk (hbox); have n3_ := Aside0.mk ((by rw [hg]; exact (below_size HBW.out) : w.heap.size ≤ gb277)); have n4_ := Aside0.mk ((Nat.le_trans HW0.out (by rw [hg]; exact (below_size HBW.out) : w.heap.size ≤ gb277) : w0.heap.size ≤ gb277)); clear HBW; clear HB; have HBW := n0_; have HB := n1_; have BK277 := n2_; have GW277 := n3_; have GE277 := n4_; clear n0_ n1_ n2_ n3_ n4_; clear hb hbox hg))
 go_ret
 exact ⟨_, rfl, (show IsS189 w0 _ gb277 a0 false from ⟨by (with_reducible repeat (first | refine blk_drewN ?_ _ | refine blk_drew ?_ | refine blk_alloc ?_ _)); exact BK277.out, GE277.out⟩), HB.out, HBW.out⟩

/-! ### strconv_Itoa: function 141 -/
def strconv_Itoa.f (a0 : Int) : Option ByteArray := if -9223372036854775808 ≤ a0 then if a0 ≤ 9223372036854775807 then some ⟨(Lib.itoa a0).toArray⟩ else none else none
theorem strconv_Itoa.tells {a0 : Int} (h : WireMath.isInt a0) : strconv_Itoa.f a0 = some ⟨(Lib.itoa a0).toArray⟩ := by
 unfold strconv_Itoa.f
 rw [if_pos h.1, if_pos h.2]
theorem strconv_Itoa.calls (a0 : Int) (r : ByteArray) (w : World) (h : strconv_Itoa.f a0 = some r) (hT : Tabs w) :
  Calls Tryd.prog 141 #[.int .i64 a0] w fun e w' => e = .returned (.string r) ∧ Below w.heap.size w w' := by
 unfold strconv_Itoa.f at h
 split at h
 ·rename_i h0
  split at h
  ·rename_i h1
   obtain rfl := Option.some.inj h
   refine (Tryd.strconv_Itoa a0 h0 h1 w hT.1).mono ?_
   rintro e w' ⟨rfl, k, os, rfl⟩
   exact ⟨rfl, Lib.below_grow _ _ (Nat.le_refl _) _ _⟩
  ·cases h
 ·cases h

/-! ### wire_Reader_fail: function 146 -/
def wire_Reader_fail.f (s0_0 : ByteArray) (s0_1 : Bool) : Option (ByteArray × Bool) := some ((⟨#[]⟩ : ByteArray), true)
set_option maxHeartbeats 8000000 in
set_option maxRecDepth 100000 in
theorem wire_Reader_fail.calls (g : Nat) (s0_0 : ByteArray) (s0_1 : Bool) (r1 : ByteArray) (r2 : Bool) (w0 w : World) (hI : IsS189 w0 w g s0_0 s0_1) (hB : Below w0.heap.size w0 w) (h : wire_Reader_fail.f s0_0 s0_1 = some (r1, r2)) :
  Calls Tryd.prog 146 #[.pointer (some ⟨g, 0, none⟩)] w fun e w' => e = .returned (.tuple #[]) ∧ IsS189 w0 w' g r1 r2 ∧ Below w0.heap.size w0 w' ∧ KeepBut w w' g none := by
 have HI0 := Aside0.mk hI
 have HK := Aside0.mk (KeepBut.refl w g none)
 have HL := Aside0.mk hB.size
 clear hI
 have HW0 := Aside0.mk hB.size
 have HB := Aside0.mk hB
 clear hB
 have H : (some ((⟨#[]⟩ : ByteArray), true)) = some (r1, r2) := h
 clear h
 simp only [Option.some.injEq, Prod.mk.injEq] at H
 obtain ⟨rfl, rfl⟩ := H
 obtain ⟨HGz2, hgz2⟩ := HI0.out
 have hcz2_0 := cellS189_0 HGz2
 have hcz2_1 := cellS189_1 HGz2
 have hfz2_0 := blk_frozen HGz2 0
 have hfz2_1 := blk_frozen HGz2 1
 clear HGz2 hgz2
 go_enter Tryd.func146, Tryd.ntmps146
 go_wp2
 first | go_end0 | ((try simp only [Exit.inBlock, Exit.then]); refine bodyPost_ret (results_none rfl _ _ _) rfl ?_)
 exact ⟨by first | rfl | (simp [errW_none, errW_some] <;> rfl) | (simp [*, errW_none, errW_some] <;> rfl), by repeat (first | (with_reducible first | exact HI0.out | apply IsS189.alloc | apply IsS189.drewN | apply IsS189.drew | apply IsS189.set_0 | apply IsS189.set_1) | exact HI0.out), by repeat (first | (with_reducible first | exact HB.out | apply below_alloc | apply pw_below_drewN | apply below_drew1 | refine below_set ?_ (IsS189.ge HI0.out)) | exact HB.out), by repeat (first | (with_reducible first | exact HK.out | apply KeepBut.set_ | apply keep_drewN | apply keep_drew | apply keep_alloc) | exact HK.out)⟩

/-! ### wire_Reader_number: function 145 -/
def wire_Reader_number.rd (s : ByteArray) (b : Bool) : WireMath.Rd := (s.data.toList, b)
def wire_Reader_number.f (s0_0 : ByteArray) (s0_1 : Bool) (a1 : Int) (a2 : Int) : Option (Int × ByteArray × Bool) :=
 if 57 < a1 ∧ a1 ≤ 255 then some ((WireMath.number a1.toNat.toUInt8 a2 (wire_Reader_number.rd s0_0 s0_1)).1, ⟨(WireMath.number a1.toNat.toUInt8 a2 (wire_Reader_number.rd s0_0 s0_1)).2.1.toArray⟩, (WireMath.number a1.toNat.toUInt8 a2 (wire_Reader_number.rd s0_0 s0_1)).2.2) else none
theorem wire_Reader_number.head (s : ByteArray) : ∃ H : ByteArray, H.data.toList = s.data.toList.take 21 ∧ H.size ≤ 21 ∧ (s = H ∧ s.size ≤ 21 ∨ H = s.extract 0 21 ∧ 21 < s.size) := by
 have hl : s.data.toList.length = s.size := by rw [Array.length_toList]; rfl
 rcases Nat.lt_or_ge 21 s.size with h | h
 ·refine ⟨s.extract 0 21, ?_, ?_, .inr ⟨rfl, h⟩⟩
  ·rw [ByteArray.data_extract]; simp
  ·rw [ByteArray.size_extract]; omega
 ·exact ⟨s, by rw [List.take_of_length_le (by omega)], h, .inl ⟨rfl, h⟩⟩
theorem wire_Reader_number.front (s H : ByteArray) (n : Nat) (hl : H.data.toList = s.data.toList.take 21) : (H.extract 0 n).data.toList = (s.data.toList.take 21).take n := by
 rw [← hl, ByteArray.data_extract]; simp
theorem wire_Reader_number.keepd {w W : World} {g n : Nat} (h : KeepBut (w.drewN n) W g none) : KeepBut w W g none := (keep_drewN (KeepBut.refl w g none) n).trans h (.inl rfl)
set_option maxHeartbeats 4000000 in
set_option maxRecDepth 100000 in
theorem wire_Reader_number.none_ (g : Nat) (s : ByteArray) (b : Bool) (a1 a2 : Int) (w0 w : World) (hI : IsS189 w0 w g s b) (hB : Below w0.heap.size w0 w) (hi : Lib.indexByte (s.data.toList.take 21) a1.toNat.toUInt8 = -1) :
  Calls Tryd.prog 145 #[.pointer (some ⟨g, 0, none⟩), .int .u8 a1, .int .i64 a2] w fun e w' => e = .returned (.int .i64 0) ∧ IsS189 w0 w' g ⟨#[]⟩ true ∧ Below w0.heap.size w0 w' ∧ KeepBut w w' g none := by
 obtain ⟨H, hl, hH1, hc⟩ := wire_Reader_number.head s
 rw [← hl] at hi
 have HI := Aside0.mk hI
 have HB := Aside0.mk hB
 have HX := Aside0.mk hi
 obtain ⟨hb, _⟩ := HI.out
 have hc0 := cellS189_0 hb
 clear hI hB hi hb hl
 rcases hc with ⟨rfl, hs⟩ | ⟨rfl, hs⟩
 all_goals
  go_enter Tryd.func145, Tryd.ntmps145
  go_wp2
  go_quiet (fail)
  go_wp2_with fail
  refine (Tryd.strings_IndexByte _ _ _).mono ?_
  rintro e w' ⟨rfl, rfl⟩
  rw [HX.out]
  go_wp2_with (go_at_call 146; refine (wire_Reader_fail.calls g _ _ _ _ w0 _ (IsS189.drewN HI.out _) (pw_below_drewN HB.out _) rfl).mono ?_; rintro e w3 ⟨rfl, hi3, hb3, hk3⟩; have HE := Aside0.mk (And.intro hi3 (And.intro hb3 (wire_Reader_number.keepd hk3))); clear hi3 hb3 hk3)
  go_ret
  exact ⟨rfl, HE.out⟩
set_option maxHeartbeats 4000000 in
set_option maxRecDepth 100000 in
/-- Behind the byte that ends the number: what is before it is no numeral. -/
theorem wire_Reader_number.bad (g : Nat) (s : ByteArray) (b : Bool) (a1 a2 : Int) (w0 w : World) (hI : IsS189 w0 w g s b) (hB : Below w0.heap.size w0 w) (hT : Tabs w0) (n : Nat) (hi : Lib.indexByte (s.data.toList.take 21) a1.toNat.toUInt8 = (n : Int)) (hn : n ≤ 20) (hns : n < s.size)
  (hat : ∀ v, Lib.atoiAll ((s.data.toList.take 21).take n) ≠ .ok v) :
  Calls Tryd.prog 145 #[.pointer (some ⟨g, 0, none⟩), .int .u8 a1, .int .i64 a2] w fun e w' => e = .returned (.int .i64 0) ∧ IsS189 w0 w' g ⟨#[]⟩ true ∧ Below w0.heap.size w0 w' ∧ KeepBut w w' g none := by
 obtain ⟨H, hl, hH1, hc⟩ := wire_Reader_number.head s
 rw [← hl] at hi
 have HF : Aside0 (∀ W : World, Below w0.heap.size w0 W → Calls Tryd.prog 215 #[.string (H.extract 0 n)] W fun e w' => ∃ (z : Int) (T : TypeId) (p : Value), e = .returned (.tuple #[.int .i64 z, .iface T p]) ∧ Below W.heap.size W w') := ⟨fun W hW => by
  have hsz : (H.extract 0 n).size ≤ 281474976710656 := by rw [ByteArray.size_extract]; omega
  have hfr := wire_Reader_number.front s H n hl
  obtain ⟨_, ⟨t2, p2, h2⟩, t3, p3, h3⟩ := hT.below hW
  cases hr : Lib.atoiAll ((s.data.toList.take 21).take n) with
  | ok v => exact absurd hr (hat v)
  | range =>
   refine (Tryd.strconv_Atoi_range_var _ hsz (by rw [hfr]; exact hr) t3 p3 W h3).mono ?_
   rintro e w' ⟨N, rfl, _, _, hb⟩
   exact ⟨_, _, _, rfl, hb⟩
  | _ =>
   refine (Tryd.strconv_Atoi_syntax_var _ hsz (by rw [hfr]; exact hr) t2 p2 W h2).mono ?_
   rintro e w' ⟨N, rfl, _, _, hb⟩
   exact ⟨_, _, _, rfl, hb⟩⟩
 have HI := Aside0.mk hI
 have HB := Aside0.mk hB
 have HX := Aside0.mk hi
 obtain ⟨hb, _⟩ := HI.out
 have hc0 := cellS189_0 hb
 have hnH : n ≤ H.size := by
  rcases hc with ⟨rfl, hs⟩ | ⟨rfl, hs⟩
  ·omega
  ·rw [ByteArray.size_extract]; omega
 clear hI hB hi hb hl hat hT
 rcases hc with ⟨rfl, hs⟩ | ⟨rfl, hs⟩
 all_goals
  go_enter Tryd.func145, Tryd.ntmps145
  go_wp2
  go_quiet (fail)
  go_wp2_with fail
  refine (Tryd.strings_IndexByte _ _ _).mono ?_
  rintro e w' ⟨rfl, rfl⟩
  rw [HX.out]
  go_wp2_with fail
  refine (HF.out _ (pw_below_drewN HB.out _)).mono ?_
  rintro e w2 ⟨z, T, p, rfl, hb2⟩
  have HI2 := Aside0.mk (IsS189.below (IsS189.drewN HI.out _) hb2)
  have HB2 := Aside0.mk (below_step (pw_below_drewN HB.out _) hb2)
  have HK2 := Aside0.mk (KeepBut.trans (keep_drewN (KeepBut.refl w g none) _) (KeepBut.of_below hb2 g none) (.inl rfl))
  clear hb2
  go_wp2
  go_quiet (fail)
  go_wp2_with (go_at_call 146; refine (wire_Reader_fail.calls g _ _ _ _ w0 _ (IsS189.drewN HI2.out _) (pw_below_drewN HB2.out _) rfl).mono ?_; rintro e w3 ⟨rfl, hi3, hb3, hk3⟩; have HE := Aside0.mk (And.intro hi3 (And.intro hb3 (HK2.out.trans (wire_Reader_number.keepd hk3) (.inl rfl)))); clear hi3 hb3 hk3)
  go_ret
  exact ⟨rfl, HE.out⟩
/-- what goes along from world to world -/
def wire_Reader_number.St (w0 w : World) (g : Nat) (s : ByteArray) (b : Bool) (W : World) : Prop := IsS189 w0 W g s b ∧ Below w0.heap.size w0 W ∧ KeepBut w W g none
theorem wire_Reader_number.St.drew {w0 w : World} {g : Nat} {s : ByteArray} {b : Bool} {W : World} (h : wire_Reader_number.St w0 w g s b W) : wire_Reader_number.St w0 w g s b W.drew := ⟨IsS189.drew h.1, below_drew h.2.1, keep_drew h.2.2⟩
theorem wire_Reader_number.St.drewN {w0 w : World} {g : Nat} {s : ByteArray} {b : Bool} {W : World} (h : wire_Reader_number.St w0 w g s b W) (n : Nat) : wire_Reader_number.St w0 w g s b (W.drewN n) := ⟨IsS189.drewN h.1 n, pw_below_drewN h.2.1 n, keep_drewN h.2.2 n⟩
theorem wire_Reader_number.St.on {w0 w : World} {g : Nat} {s : ByteArray} {b : Bool} {W W1 : World} (h : wire_Reader_number.St w0 w g s b W) (hb : Below W.heap.size W W1) : wire_Reader_number.St w0 w g s b W1 := ⟨IsS189.below h.1 hb, below_step h.2.1 hb, h.2.2.trans (KeepBut.of_below hb g none) (.inl rfl)⟩
theorem wire_Reader_number.St.b {w0 w : World} {g : Nat} {s : ByteArray} {b : Bool} {W : World} (h : wire_Reader_number.St w0 w g s b W) : Below w0.heap.size w0 W := h.2.1
set_option maxHeartbeats 4000000 in
set_option maxRecDepth 100000 in
theorem wire_Reader_number.good (g : Nat) (s : ByteArray) (b : Bool) (a1 a2 : Int) (w0 w : World) (hI : IsS189 w0 w g s b) (hB : Below w0.heap.size w0 w) (hT : Tabs w0) (n : Nat) (hi : Lib.indexByte (s.data.toList.take 21) a1.toNat.toUInt8 = (n : Int)) (hn : n ≤ 20) (hns : n < s.size)
  (v : Int) (hv : WireMath.isInt v) (hat : Lib.atoiAll ((s.data.toList.take 21).take n) = .ok v) (c d : Bool) (hc : c = decide (Lib.itoa v = (s.data.toList.take 21).take n)) (hd : d = decide (v < a2)) :
  Calls Tryd.prog 145 #[.pointer (some ⟨g, 0, none⟩), .int .u8 a1, .int .i64 a2] w fun e w' => e = .returned (.int .i64 (if c && !d then v else 0)) ∧ IsS189 w0 w' g (if c && !d then s.extract (n + 1) s.size else ⟨#[]⟩) (if c && !d then b else true) ∧ Below w0.heap.size w0 w' ∧ KeepBut w w' g none := by
 obtain ⟨H, hl, hH1, hcs⟩ := wire_Reader_number.head s
 have hfr := wire_Reader_number.front s H n hl
 rw [← hl] at hi
 obtain ⟨t, ht⟩ : ∃ t : ByteArray, t = ⟨(Lib.itoa v).toArray⟩ := ⟨_, rfl⟩
 have HF : Aside0 (∀ W : World, Calls Tryd.prog 215 #[.string (H.extract 0 n)] W fun e w' => e = .returned (.tuple #[.int .i64 v, .nilIface]) ∧ Below W.heap.size W w') := ⟨fun W => by
  refine (Tryd.strconv_Atoi_ok _ (by rw [ByteArray.size_extract]; omega) v (by rw [hfr]; exact hat) W).mono ?_
  rintro e w' ⟨rfl, hw⟩
  refine ⟨rfl, ?_⟩
  rcases hw with rfl | ⟨t, rfl⟩
  ·exact Below.refl _ _
  ·exact Lib.bytesWorld_below _ _ _⟩
 have HG : Aside0 (strconv_Itoa.f v = some t) := ⟨by rw [ht]; exact strconv_Itoa.tells hv⟩
 have hcmp : (t.toList == (H.extract 0 n).toList) = c := by
  rw [hc, ht, ByteArray.toList_eq, ByteArray.toList_eq, hfr, Bool.eq_iff_iff]; simp
 have hcmp2 : (t.toList != (H.extract 0 n).toList) = !c := by rw [bne, hcmp]
 have hdec : decide (v < a2) = d := hd.symm
 have HI := Aside0.mk (show wire_Reader_number.St w0 w g s b w from ⟨hI, hB, KeepBut.refl w g none⟩)
 have HT := Aside0.mk hT
 have HX := Aside0.mk hi
 obtain ⟨hb, _⟩ := hI
 have hc0 := cellS189_0 hb
 have hfz := blk_frozen hb 0
 have hnH : n ≤ H.size := by
  rcases hcs with ⟨rfl, hs⟩ | ⟨rfl, hs⟩
  ·omega
  ·rw [ByteArray.size_extract]; omega
 clear hB hi hb hl hat hT hfr ht hc hd
 rcases hcs with ⟨rfl, hs⟩ | ⟨he, hs⟩
 ·skip
  cases c
  ·skip
   go_enter Tryd.func145, Tryd.ntmps145
   go_wp2
   go_quiet (fail)
   go_wp2_with fail
   refine (Tryd.strings_IndexByte _ _ _).mono ?_
   rintro e w' ⟨rfl, rfl⟩
   rw [HX.out]
   go_wp2_with fail
   refine (HF.out _).mono ?_
   rintro e w2 ⟨rfl, hb2⟩
   have HI2 := Aside0.mk ((HI.out.drewN _).on hb2)
   clear hb2
   go_wp2
   first | (go_region_with (go_at_call 141; refine (strconv_Itoa.calls v t _ HG.out (HT.out.below HI2.out.drew.2.1)).mono ?_; rintro e w3 ⟨rfl, hb3⟩; have HI3 := Aside0.mk (HI2.out.drew.on hb3); clear hb3)) | fail
   all_goals
    go_wp2_with (go_at_call 146; refine (wire_Reader_fail.calls g _ _ _ _ w0 _ HI3.out.1 HI3.out.2.1 rfl).mono ?_; rintro e w4 ⟨rfl, hi4, hb4, hk4⟩; have HE4 := Aside0.mk (And.intro hi4 (And.intro hb4 (HI3.out.2.2.trans hk4 (.inl rfl)))); clear hi4 hb4 hk4)
    go_ret
    exact ⟨rfl, HE4.out⟩
  ·cases d
   ·skip
    go_enter Tryd.func145, Tryd.ntmps145
    go_wp2
    go_quiet (fail)
    go_wp2_with fail
    refine (Tryd.strings_IndexByte _ _ _).mono ?_
    rintro e w' ⟨rfl, rfl⟩
    rw [HX.out]
    go_wp2_with fail
    refine (HF.out _).mono ?_
    rintro e w2 ⟨rfl, hb2⟩
    have HI2 := Aside0.mk ((HI.out.drewN _).on hb2)
    clear hb2
    go_wp2
    first | (go_region_held3 (wire_Reader_number.St w0 w g s b) (first | exact HI2.out.drew | exact HI3.out | assumption) (first | (go_at_call 141; refine (strconv_Itoa.calls v t _ HG.out (HT.out.below (wire_Reader_number.St.b (w := w) (g := g) (s := s) (b := b) (by assumption)))).mono ?_; rintro e w3 ⟨rfl, hb3⟩; have HI3 := Aside0.mk (wire_Reader_number.St.on (w0 := w0) (w := w) (g := g) (s := s) (b := b) (by assumption) hb3); clear hb3))) | fail
    all_goals
     obtain ⟨hb3, _⟩ := HI3.out.1
     have hc3 := cellS189_0 hb3
     have hf3 := blk_frozen hb3 0
     have hn1 : (0 : Int) ≤ (n : Int) + 1 := by omega
     have hn2 : (n : Int) + 1 ≤ (s.size : Int) := by omega
     clear hb3
     go_wp2
     go_ret
     exact ⟨rfl, IsS189.set_0 HI3.out.1 _, below_set HI3.out.2.1 (IsS189.ge HI3.out.1), KeepBut.set_ HI3.out.2.2 _ _⟩
   ·skip
    go_enter Tryd.func145, Tryd.ntmps145
    go_wp2
    go_quiet (fail)
    go_wp2_with fail
    refine (Tryd.strings_IndexByte _ _ _).mono ?_
    rintro e w' ⟨rfl, rfl⟩
    rw [HX.out]
    go_wp2_with fail
    refine (HF.out _).mono ?_
    rintro e w2 ⟨rfl, hb2⟩
    have HI2 := Aside0.mk ((HI.out.drewN _).on hb2)
    clear hb2
    go_wp2
    first | (go_region_held3 (wire_Reader_number.St w0 w g s b) (first | exact HI2.out.drew | exact HI3.out | assumption) (first | (go_at_call 141; refine (strconv_Itoa.calls v t _ HG.out (HT.out.below (wire_Reader_number.St.b (w := w) (g := g) (s := s) (b := b) (by assumption)))).mono ?_; rintro e w3 ⟨rfl, hb3⟩; have HI3 := Aside0.mk (wire_Reader_number.St.on (w0 := w0) (w := w) (g := g) (s := s) (b := b) (by assumption) hb3); clear hb3))) | fail
    all_goals
     go_wp2_with (go_at_call 146; refine (wire_Reader_fail.calls g _ _ _ _ w0 _ HI3.out.1 HI3.out.2.1 rfl).mono ?_; rintro e w4 ⟨rfl, hi4, hb4, hk4⟩; have HE4 := Aside0.mk (And.intro hi4 (And.intro hb4 (HI3.out.2.2.trans hk4 (.inl rfl)))); clear hi4 hb4 hk4)
     go_ret
     exact ⟨rfl, HE4.out⟩
 ·have HE := Aside0.mk he
  clear he
  cases c
  ·skip
   go_enter Tryd.func145, Tryd.ntmps145
   go_wp2
   go_quiet (fail)
   rw [← HE.out]
   go_wp2_with fail
   refine (Tryd.strings_IndexByte _ _ _).mono ?_
   rintro e w' ⟨rfl, rfl⟩
   rw [HX.out]
   go_wp2_with fail
   refine (HF.out _).mono ?_
   rintro e w2 ⟨rfl, hb2⟩
   have HI2 := Aside0.mk ((HI.out.drewN _).on hb2)
   clear hb2
   go_wp2
   first | (go_region_with (go_at_call 141; refine (strconv_Itoa.calls v t _ HG.out (HT.out.below HI2.out.drew.2.1)).mono ?_; rintro e w3 ⟨rfl, hb3⟩; have HI3 := Aside0.mk (HI2.out.drew.on hb3); clear hb3)) | fail
   all_goals
    go_wp2_with (go_at_call 146; refine (wire_Reader_fail.calls g _ _ _ _ w0 _ HI3.out.1 HI3.out.2.1 rfl).mono ?_; rintro e w4 ⟨rfl, hi4, hb4, hk4⟩; have HE4 := Aside0.mk (And.intro hi4 (And.intro hb4 (HI3.out.2.2.trans hk4 (.inl rfl)))); clear hi4 hb4 hk4)
    go_ret
    exact ⟨rfl, HE4.out⟩
  ·cases d
   ·skip
    go_enter Tryd.func145, Tryd.ntmps145
    go_wp2
    go_quiet (fail)
    rw [← HE.out]
    go_wp2_with fail
    refine (Tryd.strings_IndexByte _ _ _).mono ?_
    rintro e w' ⟨rfl, rfl⟩
    rw [HX.out]
    go_wp2_with fail
    refine (HF.out _).mono ?_
    rintro e w2 ⟨rfl, hb2⟩
    have HI2 := Aside0.mk ((HI.out.drewN _).on hb2)
    clear hb2
    go_wp2
    first | (go_region_held3 (wire_Reader_number.St w0 w g s b) (first | exact HI2.out.drew | exact HI3.out | assumption) (first | (go_at_call 141; refine (strconv_Itoa.calls v t _ HG.out (HT.out.below (wire_Reader_number.St.b (w := w) (g := g) (s := s) (b := b) (by assumption)))).mono ?_; rintro e w3 ⟨rfl, hb3⟩; have HI3 := Aside0.mk (wire_Reader_number.St.on (w0 := w0) (w := w) (g := g) (s := s) (b := b) (by assumption) hb3); clear hb3))) | fail
    all_goals
     obtain ⟨hb3, _⟩ := HI3.out.1
     have hc3 := cellS189_0 hb3
     have hf3 := blk_frozen hb3 0
     have hn1 : (0 : Int) ≤ (n : Int) + 1 := by omega
     have hn2 : (n : Int) + 1 ≤ (s.size : Int) := by omega
     clear hb3
     go_wp2
     go_ret
     exact ⟨rfl, IsS189.set_0 HI3.out.1 _, below_set HI3.out.2.1 (IsS189.ge HI3.out.1), KeepBut.set_ HI3.out.2.2 _ _⟩
   ·skip
    go_enter Tryd.func145, Tryd.ntmps145
    go_wp2
    go_quiet (fail)
    rw [← HE.out]
    go_wp2_with fail
    refine (Tryd.strings_IndexByte _ _ _).mono ?_
    rintro e w' ⟨rfl, rfl⟩
    rw [HX.out]
    go_wp2_with fail
    refine (HF.out _).mono ?_
    rintro e w2 ⟨rfl, hb2⟩
    have HI2 := Aside0.mk ((HI.out.drewN _).on hb2)
    clear hb2
    go_wp2
    first | (go_region_held3 (wire_Reader_number.St w0 w g s b) (first | exact HI2.out.drew | exact HI3.out | assumption) (first | (go_at_call 141; refine (strconv_Itoa.calls v t _ HG.out (HT.out.below (wire_Reader_number.St.b (w := w) (g := g) (s := s) (b := b) (by assumption)))).mono ?_; rintro e w3 ⟨rfl, hb3⟩; have HI3 := Aside0.mk (wire_Reader_number.St.on (w0 := w0) (w := w) (g := g) (s := s) (b := b) (by assumption) hb3); clear hb3))) | fail
    all_goals
     go_wp2_with (go_at_call 146; refine (wire_Reader_fail.calls g _ _ _ _ w0 _ HI3.out.1 HI3.out.2.1 rfl).mono ?_; rintro e w4 ⟨rfl, hi4, hb4, hk4⟩; have HE4 := Aside0.mk (And.intro hi4 (And.intro hb4 (HI3.out.2.2.trans hk4 (.inl rfl)))); clear hi4 hb4 hk4)
     go_ret
     exact ⟨rfl, HE4.out⟩
theorem wire_Reader_number.rest (s : ByteArray) (n : Nat) (t : List UInt8) (h : s.data.toList.drop (n + 1) = t) : (⟨t.toArray⟩ : ByteArray) = s.extract (n + 1) s.size := by
 apply ByteArray.ext
 apply Array.ext'
 rw [ByteArray.data_extract, Array.toList_extract, ← h]
 have hl : s.data.toList.length = s.size := by rw [Array.length_toList]; rfl
 simp only [List.extract_eq_take_drop]
 rw [List.take_of_length_le (by rw [List.length_drop]; omega)]
theorem wire_Reader_number.calls (g : Nat) (s0_0 : ByteArray) (s0_1 : Bool) (a1 : Int) (a2 : Int) (r1 : Int) (r2 : ByteArray) (r3 : Bool) (w0 w : World) (hI : IsS189 w0 w g s0_0 s0_1) (hB : Below w0.heap.size w0 w) (h : wire_Reader_number.f s0_0 s0_1 a1 a2 = some (r1, r2, r3)) (hT : Tabs w0) :
  Calls Tryd.prog 145 #[.pointer (some ⟨g, 0, none⟩), .int .u8 a1, .int .i64 a2] w fun e w' => e = .returned (.int .i64 r1) ∧ IsS189 w0 w' g r2 r3 ∧ Below w0.heap.size w0 w' ∧ KeepBut w w' g none := by
 unfold wire_Reader_number.f at h
 split at h
 ·rename_i hc
  simp only [Option.some.injEq, Prod.mk.injEq] at h
  obtain ⟨rfl, rfl, rfl⟩ := h
  have hsl : s0_0.data.toList.length = s0_0.size := by rw [Array.length_toList]; rfl
  cases hs : WireMath.scan a1.toNat.toUInt8 s0_0.data.toList with
  | none =>
   have hr : WireMath.rdNum a1.toNat.toUInt8 a2 (wire_Reader_number.rd s0_0 s0_1).1 = none := by unfold WireMath.rdNum wire_Reader_number.rd; simp only [hs]
   rw [WireMath.number_none hr]
   exact wire_Reader_number.none_ g s0_0 s0_1 a1 a2 w0 w hI hB (WireMath.scan_none hs)
  | some p =>
   obtain ⟨hd, t⟩ := p
   obtain ⟨h1, h2, h3, h4, h5⟩ := WireMath.scan_index hs
   rw [hsl] at h5
   have hbad : (∀ v, Lib.atoiAll hd ≠ .ok v) → WireMath.rdNum a1.toNat.toUInt8 a2 (wire_Reader_number.rd s0_0 s0_1).1 = none := by
    intro hn
    unfold WireMath.rdNum wire_Reader_number.rd; simp only [hs]
    all_goals
     cases hat : Lib.atoiAll hd with
     | ok v => exact absurd hat (hn v)
     | range => rfl
     | _ => rfl
   cases hat : Lib.atoiAll hd with
   | ok v =>
    have hv := Lib.atoiAll_bounds hat
    refine (wire_Reader_number.good g s0_0 s0_1 a1 a2 w0 w hI hB hT hd.length h1 h4 h5 v hv (by rw [h2]; exact hat) _ _ rfl rfl).mono ?_
    rw [h2]
    have hr : WireMath.rdNum a1.toNat.toUInt8 a2 (wire_Reader_number.rd s0_0 s0_1).1 = if Lib.itoa v = hd ∧ a2 ≤ v then some (v, t) else none := by
     unfold WireMath.rdNum wire_Reader_number.rd; simp only [hs, hat]
    by_cases hg : Lib.itoa v = hd ∧ a2 ≤ v
    ·rw [if_pos hg] at hr
     rw [WireMath.number_some hr, wire_Reader_number.rest _ _ _ h3]
     have e1 : decide (Lib.itoa v = hd) = true := decide_eq_true hg.1
     have e2 : decide (v < a2) = false := decide_eq_false (by omega)
     rw [e1, e2]
     rintro e w' hq
     exact hq
    ·rw [if_neg hg] at hr
     rw [WireMath.number_none hr]
     have e1 : (decide (Lib.itoa v = hd) && !decide (v < a2)) = false := by
      rw [Bool.eq_false_iff]; intro hx; simp at hx; exact hg ⟨hx.1, by omega⟩
     rw [e1]
     rintro e w' hq
     exact hq
   | range =>
    have hn : ∀ v, Lib.atoiAll hd ≠ .ok v := fun v => by rw [hat]; simp
    rw [WireMath.number_none (hbad hn)]
    exact wire_Reader_number.bad g s0_0 s0_1 a1 a2 w0 w hI hB hT hd.length h1 h4 h5 (by rw [h2]; exact hn)
   | _ =>
    have hn : ∀ v, Lib.atoiAll hd ≠ .ok v := fun v => by rw [hat]; simp
    rw [WireMath.number_none (hbad hn)]
    exact wire_Reader_number.bad g s0_0 s0_1 a1 a2 w0 w hI hB hT hd.length h1 h4 h5 (by rw [h2]; exact hn)
 ·cases h

/-! ### wire_Reader_Int: function 36 -/
def wire_Reader_Int.f (s0_0 : ByteArray) (s0_1 : Bool) : Option (Int × ByteArray × Bool) := (wire_Reader_number.f s0_0 s0_1 59 (-9223372036854775808)).bind fun bt278 => (some (bt278.1, bt278.2.1, bt278.2.2))
set_option maxHeartbeats 8000000 in
set_option maxRecDepth 100000 in
theorem wire_Reader_Int.calls (g : Nat) (s0_0 : ByteArray) (s0_1 : Bool) (r1 : Int) (r2 : ByteArray) (r3 : Bool) (w0 w : World) (hI : IsS189 w0 w g s0_0 s0_1) (hB : Below w0.heap.size w0 w) (h : wire_Reader_Int.f s0_0 s0_1 = some (r1, r2, r3)) (hT : Tabs w0) :
  Calls Tryd.prog 36 #[.pointer (some ⟨g, 0, none⟩)] w fun e w' => e = .returned (.int .i64 r1) ∧ IsS189 w0 w' g r2 r3 ∧ Below w0.heap.size w0 w' ∧ KeepBut w w' g none := by
 have HI0 := Aside0.mk hI
 have HK := Aside0.mk (KeepBut.refl w g none)
 have HL := Aside0.mk hB.size
 clear hI
 have HT := Aside0.mk hT
 clear hT
 have HW0 := Aside0.mk hB.size
 have HB := Aside0.mk hB
 clear hB
 have H : ((wire_Reader_number.f s0_0 s0_1 59 (-9223372036854775808)).bind fun bt278 => (some (bt278.1, bt278.2.1, bt278.2.2))) = some (r1, r2, r3) := h
 clear h
 replace H := Option.bind_eq_some_iff.mp H
 obtain ⟨⟨t278, t279, t280⟩, A20, H⟩ := H
 try dsimp only at H
 have A2 := Aside0.mk A20
 clear A20
 simp only [Option.some.injEq, Prod.mk.injEq] at H
 obtain ⟨rfl, rfl, rfl⟩ := H
 go_enter Tryd.func36, Tryd.ntmps36
 go_wp2_with (first | ((with_reducible refine gate_callee (f := 145) rfl ?_); refine goesL_ (some 4) rfl rfl Tryd.func145 (by kernel_rfl) rfl #[.pointer (some ⟨g, 0, none⟩), .int .u8 59, .int .i64 (-9223372036854775808)] rfl (by (try simp only [List.map_toArray, List.map_cons, List.map_nil]); first | done | rfl | (simp only [List.length_drop, List.length_take]; rfl)) ?_; (with_reducible refine (wire_Reader_number.calls g s0_0 s0_1 59 (-9223372036854775808) t278 t279 t280 w0 _ ?side1 ?side2 A2.out HT.out).mono ?_); (case side1 => repeat (first | (with_reducible first | exact HI0.out | apply IsS189.alloc | apply IsS189.drewN | apply IsS189.drew | apply IsS189.set_0 | apply IsS189.set_1) | exact HI0.out)); (case side2 => repeat (first | (with_reducible first | exact HB.out | apply below_alloc | apply pw_below_drewN | apply below_drew1 | refine below_set ?_ (IsS189.ge HI0.out)) | exact HB.out)); rintro e w3 ⟨rfl, hi, hb, hk⟩; refine ⟨_, rfl, ?_⟩; have n0_ := Aside0.mk (KeepBut.trans HK.out hk (.inl rfl)); have n1_ := Aside0.mk (hb); have n2_ := Aside0.mk (hi); clear HK; clear HB; clear HI0; have HK := n0_; have HB := n1_; have HI0 := n2_; clear n0_ n1_ n2_; (try clear hb); (try clear hb2); (try clear hk); (try clear hi)))
 go_ret
 exact ⟨by first | rfl | (simp [errW_none, errW_some] <;> rfl) | (simp [*, errW_none, errW_some] <;> rfl), HI0.out, HB.out, HK.out⟩

/-! ### wire_Reader_close: function 147 -/
def wire_Reader_close.f (s0_0 : ByteArray) (s0_1 : Bool) (a1 : ByteArray) : Option (ByteArray × Bool) :=
 if Lib.hasPrefix s0_0.data.toList a1.data.toList = true then some (⟨(Lib.trimPrefix s0_0.data.toList a1.data.toList).toArray⟩, s0_1) else some (⟨#[]⟩, true)
set_option maxHeartbeats 1000000 in
set_option maxRecDepth 100000 in
theorem wire_Reader_close.calls (g : Nat) (s0_0 : ByteArray) (s0_1 : Bool) (a1 : ByteArray) (r1 : ByteArray) (r2 : Bool) (w0 w : World) (hI : IsS189 w0 w g s0_0 s0_1) (hB : Below w0.heap.size w0 w) (h : wire_Reader_close.f s0_0 s0_1 a1 = some (r1, r2)) :
  Calls Tryd.prog 147 #[.pointer (some ⟨g, 0, none⟩), .string a1] w fun e w' => e = .returned (.tuple #[]) ∧ IsS189 w0 w' g r1 r2 ∧ Below w0.heap.size w0 w' ∧ KeepBut w w' g none := by
 unfold wire_Reader_close.f at h
 have HI := Aside0.mk hI
 have HB := Aside0.mk hB
 obtain ⟨hb, _⟩ := HI.out
 have hc0 := cellS189_0 hb
 have hf0 := blk_frozen hb 0
 clear hb hI hB
 by_cases hp : Lib.hasPrefix s0_0.data.toList a1.data.toList = true
 ·rw [if_pos hp] at h
  simp only [Option.some.injEq, Prod.mk.injEq] at h
  obtain ⟨rfl, rfl⟩ := h
  go_enter Tryd.func147, Tryd.ntmps147
  go_wp2_with (go_at_call 216; refine (Tryd.strings_CutPrefix _ _ _).mono ?_; rintro e w' ⟨rfl, rfl⟩)
  first | go_end0 | ((try simp only [Exit.inBlock, Exit.then]); refine bodyPost_ret (results_none rfl _ _ _) rfl ?_)
  exact ⟨rfl, IsS189.set_0 HI.out _, below_set HB.out (IsS189.ge HI.out), KeepBut.set_ (KeepBut.refl _ _ _) _ _⟩
 ·rw [if_neg hp] at h
  simp only [Option.some.injEq, Prod.mk.injEq] at h
  obtain ⟨rfl, rfl⟩ := h
  replace hp : Lib.hasPrefix s0_0.data.toList a1.data.toList = false := by simpa using hp
  go_enter Tryd.func147, Tryd.ntmps147
  go_wp2_with (first | (go_at_call 216; refine (Tryd.strings_CutPrefix _ _ _).mono ?_; rintro e w' ⟨rfl, rfl⟩) | (go_at_call 146; refine (wire_Reader_fail.calls g _ _ _ _ w0 _ (IsS189.set_0 HI.out _) (below_set HB.out (IsS189.ge HI.out)) rfl).mono ?_; rintro e w2 ⟨rfl, hi2, hb2, hk2⟩; have HE := Aside0.mk (And.intro hi2 (And.intro hb2 ((KeepBut.set_ (KeepBut.refl _ _ _) _ _).trans hk2 (.inl rfl)))); clear hi2 hb2 hk2))
  first | go_end0 | ((try simp only [Exit.inBlock, Exit.then]); refine bodyPost_ret (results_none rfl _ _ _) rfl ?_)
  exact ⟨rfl, HE.out⟩

/-! ### wire_Reader_Nums: function 38 -/
theorem wire_Reader_Nums.ba_size (l : List UInt8) : (⟨l.toArray⟩ : ByteArray).size = l.length := by show l.toArray.size = _; simp
theorem wire_Reader_Nums.ba_eta (s : ByteArray) : (⟨s.data.toList.toArray⟩ : ByteArray) = s := by rw [Array.toArray_toList]
theorem wire_Reader_Nums.close_eq (l : List UInt8) (b : Bool) (c : UInt8) : wire_Reader_close.f ⟨l.toArray⟩ b ⟨#[c]⟩ = some (⟨(WireMath.close c (l, b)).1.toArray⟩, (WireMath.close c (l, b)).2) := by
 unfold wire_Reader_close.f
 have e : (⟨#[c]⟩ : ByteArray).data.toList = [c] := rfl
 rw [e]
 cases l with
 | nil => rfl
 | cons x t =>
  simp only [List.toList_toArray]
  by_cases hx : x = c
  ·subst hx
   rw [if_pos (by simp [Lib.hasPrefix])]
   simp [Lib.trimPrefix, Lib.hasPrefix, WireMath.close]
  ·rw [if_neg (by simp [Lib.hasPrefix, Ne.symm hx])]
   simp [WireMath.close, hx, WireMath.failed]
theorem wire_Reader_Nums.number_eq (e : UInt8) (he : 57 < e.toNat) (least : Int) (l : List UInt8) (b : Bool) : wire_Reader_number.f ⟨l.toArray⟩ b (e.toNat : Int) least = some ((WireMath.number e least (l, b)).1, ⟨(WireMath.number e least (l, b)).2.1.toArray⟩, (WireMath.number e least (l, b)).2.2) := by
 unfold wire_Reader_number.f wire_Reader_number.rd
 have := e.toNat_lt
 rw [if_pos (by omega)]
 have : ((e.toNat : Int)).toNat.toUInt8 = e := by simp
 rw [this]
theorem wire_Reader_Nums.int_eq (l : List UInt8) (b : Bool) : wire_Reader_Int.f ⟨l.toArray⟩ b = some ((WireMath.rInt (l, b)).1, ⟨(WireMath.rInt (l, b)).2.1.toArray⟩, (WireMath.rInt (l, b)).2.2) := by
 unfold wire_Reader_Int.f
 rw [show (59 : Int) = ((59 : UInt8).toNat : Int) from rfl, wire_Reader_Nums.number_eq 59 (by decide)]
 rfl
def wire_Reader_Nums.f (s0_0 : ByteArray) (s0_1 : Bool) : Option (List Int × ByteArray × Bool) :=
 if s0_0.size ≤ 17592186044400 then some ((WireMath.rNums (wire_Reader_number.rd s0_0 s0_1)).1, ⟨(WireMath.rNums (wire_Reader_number.rd s0_0 s0_1)).2.1.toArray⟩, (WireMath.rNums (wire_Reader_number.rd s0_0 s0_1)).2.2) else none
theorem wire_Reader_Nums.grow {w0 w : World} {g : Nat} {s : ByteArray} {b : Bool} {W W1 : World} {row : Option Nat} (h : wire_Reader_number.St w0 w g s b W) (hg : W.grownBy W1 row) (hr : ∀ k, row = some k → w.heap.size ≤ k) (hw : w0.heap.size ≤ w.heap.size) (hgw : g < w.heap.size) : wire_Reader_number.St w0 w g s b W1 := by
 refine ⟨IsS189.grown h.1 hg (fun e => by have := hr g e.symm; omega), pw_below_grown h.2.1 row h.2.1.size hg (fun k e => Nat.le_trans hw (hr k e)), h.2.2.trans (KeepBut.of_grown hg g) ?_⟩
 cases row with
 | none => exact .inl rfl
 | some k => exact .inr ⟨k, rfl, hr k rfl⟩
theorem wire_Reader_Nums.own_ne {W : World} {base : Nat} {e : TypeId} {size n : Nat} {v : Value} {xs : List Value} {g : Nat} (ho : W.ownsRow base e size v n xs) (hg : g < base) : v.ownBlock ≠ some g := fun h => by have := own_base ho g h; omega
theorem wire_Reader_Nums.own_to {W W1 : World} {g base : Nat} {e : TypeId} {size n : Nat} {v : Value} {xs : List Value} (hk : KeepBut W W1 g none) (ho : W.ownsRow base e size v n xs) (hg : g < base) : W1.ownsRow base e size v n xs :=
 hk.own ho (wire_Reader_Nums.own_ne ho hg) (by cases v.ownBlock <;> simp)
set_option maxHeartbeats 4000000 in
set_option maxRecDepth 100000 in
theorem wire_Reader_Nums.items (g : Nat) (l : List UInt8) (b : Bool) (w0 w : World) (hI : IsS189 w0 w g ⟨l.toArray⟩ b) (hB : Below w0.heap.size w0 w) (hT : Tabs w0) (hs : l.length ≤ 17592186044400) :
  Calls Tryd.prog 148 #[.pointer (some ⟨g, 0, none⟩), .func (.func 36) #[.pointer (some ⟨g, 0, none⟩)] #[]] w fun e w' => ∃ v0_ : Value, e = .returned v0_ ∧ Kd.R (Kd.int .i64) 3 w' w.heap.size (fun _ => True) v0_ (WireMath.rNums (l, b)).1 ∧ IsS189 w0 w' g ⟨(WireMath.rNums (l, b)).2.1.toArray⟩ (WireMath.rNums (l, b)).2.2 ∧ Below w0.heap.size w0 w' ∧ KeepBut w w' g none := by
 obtain ⟨i0, hi0, hz0, hz1, hz2⟩ := info_parts info3
 have hgw := IsS189.lt hI
 have hww := hB.size
 have HI := Aside0.mk hI
 have HT := Aside0.mk hT
 have HB := Aside0.mk hB
 have HS := Aside0.mk hs
 have hle := (WireMath.number_le 91 (by decide) 0 (l, b))
 have hnn := WireMath.number_nonneg 91 (l, b)
 have hnx := WireMath.number_max 91 0 (l, b)
 have hnq := wire_Reader_Nums.number_eq 91 (by decide) 0 l b
 have hR : WireMath.rNums (l, b) = (if (WireMath.close 93 (WireMath.rMany WireMath.rInt (WireMath.number 91 0 (l, b)).1.toNat (WireMath.number 91 0 (l, b)).2).2).2 then [] else (WireMath.rMany WireMath.rInt (WireMath.number 91 0 (l, b)).1.toNat (WireMath.number 91 0 (l, b)).2).1, WireMath.close 93 (WireMath.rMany WireMath.rInt (WireMath.number 91 0 (l, b)).1.toNat (WireMath.number 91 0 (l, b)).2).2) := rfl
 generalize hp : WireMath.number 91 0 (l, b) = p at hle hnn hnx hnq hR
 obtain ⟨n, u, d⟩ := p
 simp only at hle hnn hnx hnq hR
 obtain ⟨m, rfl⟩ : ∃ m : Nat, n = m := ⟨n.toNat, by omega⟩
 rw [Int.toNat_natCast] at hR
 have HN := Aside0.mk hnq
 have HR := Aside0.mk hR
 have HL := Aside0.mk hle
 have HX := Aside0.mk (show m ≤ 9223372036854775807 by omega)
 clear hI hB hT hs hp hle hnn hnx hnq hR
 go_enter Tryd.func148, Tryd.ntmps148
 go_wp2_with fail
 refine (wire_Reader_number.calls g _ _ _ _ _ _ _ w0 _ HI.out HB.out HN.out HT.out).mono ?_
 rintro e w1 ⟨rfl, hi1, hb1, hk1⟩
 have HS1 : Aside0 (wire_Reader_number.St w0 w g ⟨u.toArray⟩ d w1) := ⟨⟨hi1, hb1, hk1⟩⟩
 clear hi1 hb1 hk1 HN
 go_wp2
 go_loopw [5, 6] (fun v5 v6 wr => ∃ (m' : Nat) (acc : List Int) (u' : List UInt8) (d' : Bool), v6 = .int .i64 m' ∧ Aside0 (m' ≤ 9223372036854775807) ∧ Aside0 (wr.ownsRow w.heap.size 3 1 v5 acc.length (acc.map (Value.int .i64))) ∧ Aside0 (wire_Reader_number.St w0 w g ⟨u'.toArray⟩ d' wr) ∧ Aside0 ((acc ++ (WireMath.rMany WireMath.rInt m' (u', d')).1, (WireMath.rMany WireMath.rInt m' (u', d')).2) = WireMath.rMany WireMath.rInt m (u, d)) ∧ Aside0 (2 * acc.length ≤ l.length + 2 ∧ (d' = false → 2 * acc.length + u'.length ≤ l.length))) (fun _ v6 _ => (intOf v6).toNat)
 case atStart => exact ⟨m, [], u, d, rfl, HX, ⟨own_nil _ _ _ _⟩, HS1, ⟨by simp⟩, ⟨by simp, fun _ => by have := HL.out.1; simp; omega⟩⟩
 case round =>
  obtain ⟨m', acc, u', d', rfl, hmx, ho, hst, hq, hbd⟩ := hrel
  obtain ⟨hbk, _⟩ := hst.out.1
  have hc1 := cellS189_1 hbk
  have hc0 := cellS189_0 hbk
  clear hbk
  rcases (show m' = 0 ∨ (0 < m' ∧ d' = true) ∨ (0 < m' ∧ d' = false) by cases d' <;> simp <;> omega) with hm | ⟨hm, hd⟩ | ⟨hm, hd⟩
  ·have HE := Aside0.mk (WireMath.rMany_end WireMath.rInt m' (u', d') (.inl hm))
   have hm1 : ¬ (0 : Int) < (m' : Int) := by omega
   have hm2 : decide ((0 : Int) < (m' : Int)) = false := decide_eq_false hm1
   clear hm
   go_wp2_with fail
   obtain ⟨zu, zd, hz⟩ : ∃ zu zd, WireMath.close 93 (u', d') = (zu, zd) := ⟨_, _, rfl⟩
   have hcl := wire_Reader_Nums.close_eq u' d' 93
   rw [hz] at hcl
   have HC := Aside0.mk hcl
   have HF : Aside0 (WireMath.rNums (l, b) = (if zd then [] else acc, (zu, zd))) := ⟨by rw [HR.out, ← hq.out, HE.out]; simp [hz]⟩
   clear hz hcl
   refine (wire_Reader_close.calls g _ _ _ _ _ w0 _ hst.out.1 hst.out.2.1 HC.out).mono ?_
   rintro e w2 ⟨rfl, hi2, hb2, hk2⟩
   have HO2 := Aside0.mk (wire_Reader_Nums.own_to hk2 ho.out hgw)
   have HS2 : Aside0 (wire_Reader_number.St w0 w g ⟨zu.toArray⟩ zd w2) := ⟨⟨hi2, hb2, hst.out.2.2.trans hk2 (.inl rfl)⟩⟩
   obtain ⟨hbk2, _⟩ := hi2
   have hc2 := cellS189_1 hbk2
   clear hbk2 hb2 hk2 ho hst hq hbd hc0 hc1
   cases zd with
   | true =>
    go_wp2
    go_ret
    refine ⟨_, rfl, ?_, ?_, HS2.out.2.1, HS2.out.2.2⟩
    ·rw [HF.out]; exact Kd.R_nil _ _ _ _ _
    ·rw [HF.out]; exact HS2.out.1
   | false =>
    go_wp2
    go_ret
    refine ⟨_, rfl, ?_, ?_, HS2.out.2.1, HS2.out.2.2⟩
    ·rw [HF.out]; exact Kd.R_of_own HO2.out (fun _ _ => trivial)
    ·rw [HF.out]; exact HS2.out.1
  ·subst hd
   have HE := Aside0.mk (WireMath.rMany_end WireMath.rInt m' (u', true) (.inr rfl))
   have hm1 : (0 : Int) < (m' : Int) := by omega
   have hm2 : decide ((0 : Int) < (m' : Int)) = true := decide_eq_true hm1
   go_wp2_with fail
   obtain ⟨zu, zd, hz⟩ : ∃ zu zd, WireMath.close 93 (u', true) = (zu, zd) := ⟨_, _, rfl⟩
   have hcl := wire_Reader_Nums.close_eq u' true 93
   rw [hz] at hcl
   have HC := Aside0.mk hcl
   have HF : Aside0 (WireMath.rNums (l, b) = (if zd then [] else acc, (zu, zd))) := ⟨by rw [HR.out, ← hq.out, HE.out]; simp [hz]⟩
   clear hz hcl
   refine (wire_Reader_close.calls g _ _ _ _ _ w0 _ hst.out.1 hst.out.2.1 HC.out).mono ?_
   rintro e w2 ⟨rfl, hi2, hb2, hk2⟩
   have HO2 := Aside0.mk (wire_Reader_Nums.own_to hk2 ho.out hgw)
   have HS2 : Aside0 (wire_Reader_number.St w0 w g ⟨zu.toArray⟩ zd w2) := ⟨⟨hi2, hb2, hst.out.2.2.trans hk2 (.inl rfl)⟩⟩
   obtain ⟨hbk2, _⟩ := hi2
   have hc2 := cellS189_1 hbk2
   clear hbk2 hb2 hk2 ho hst hq hbd hc0 hc1
   cases zd with
   | true =>
    go_wp2
    go_ret
    refine ⟨_, rfl, ?_, ?_, HS2.out.2.1, HS2.out.2.2⟩
    ·rw [HF.out]; exact Kd.R_nil _ _ _ _ _
    ·rw [HF.out]; exact HS2.out.1
   | false =>
    go_wp2
    go_ret
    refine ⟨_, rfl, ?_, ?_, HS2.out.2.1, HS2.out.2.2⟩
    ·rw [HF.out]; exact Kd.R_of_own HO2.out (fun _ _ => trivial)
    ·rw [HF.out]; exact HS2.out.1
  ·subst hd
   obtain ⟨m'', rfl⟩ : ∃ k, m' = k + 1 := ⟨m' - 1, by omega⟩
   have hm1 : (0 : Int) < ((m'' + 1 : Nat) : Int) := by omega
   have hm2 : decide ((0 : Int) < ((m'' + 1 : Nat) : Int)) = true := decide_eq_true hm1
   have hm3 : (m'' : Int) ≤ 9223372036854775806 := by have := hmx.out; omega
   have hm4 : (0 : Int) ≤ (m'' : Int) := Int.natCast_nonneg _
   have hlr := WireMath.number_le 59 (by decide) (-9223372036854775808) (u', false)
   have hir := wire_Reader_Nums.int_eq u' false
   obtain ⟨x, u2, d2, hx⟩ : ∃ x u2 d2, WireMath.rInt (u', false) = (x, (u2, d2)) := ⟨_, _, _, rfl⟩
   have hms := WireMath.rMany_succ WireMath.rInt m'' u' hx
   rw [hx] at hir
   rw [show WireMath.number 59 (-9223372036854775808) (u', false) = (x, (u2, d2)) from hx] at hlr
   simp only at hir hlr
   have HIr := Aside0.mk hir
   have HQ : Aside0 (((acc ++ [x]) ++ (WireMath.rMany WireMath.rInt m'' (u2, d2)).1, (WireMath.rMany WireMath.rInt m'' (u2, d2)).2) = WireMath.rMany WireMath.rInt m (u, d)) := ⟨by rw [← hq.out, hms]; simp⟩
   have HBD : Aside0 (2 * (acc ++ [x]).length ≤ l.length + 2 ∧ (d2 = false → 2 * (acc ++ [x]).length + u2.length ≤ l.length)) := ⟨by
    have h1 := hbd.out.2 rfl
    refine ⟨by simp; omega, fun h => ?_⟩
    have := (hlr.2 h).2
    simp; omega⟩
   have HSl := Aside0.mk (show acc.length + 1 ≤ 17592186044400 by have := hbd.out.2 rfl; have := HS.out; omega)
   clear hir hlr hx hms hq hbd
   go_wp2_with fail
   refine (wire_Reader_Int.calls g _ _ _ _ _ w0 _ hst.out.1 hst.out.2.1 HIr.out HT.out).mono ?_
   rintro e w2 ⟨rfl, hi2, hb2, hk2⟩
   have HO2 := Aside0.mk (wire_Reader_Nums.own_to hk2 ho.out hgw)
   have HS2 : Aside0 (wire_Reader_number.St w0 w g ⟨u2.toArray⟩ d2 w2) := ⟨⟨hi2, hb2, hst.out.2.2.trans hk2 (.inl rfl)⟩⟩
   clear hi2 hb2 hk2 ho hst HIr
   go_wp2_with (at_builtin; refine wpList_append_own _ rfl _ _ 22 rfl w.heap.size 3 i0 (.int .i64 0) 1 8 Tryd.underlying22 hi0 hz0 hz1 hz2 rfl (by decide) _ _ _ rfl (HO2.out.alloc _) ⟨w2.heap.size, 0, none⟩ 1 1 [.int .i64 x] rfl rfl ?c1 ?c2 ?c3 ?c4 ?c5 ?_)
   case c1 =>
    intro j u hj
    match j, hj with
    | 0, hj => simp at hj; subst hj; simp [Addr.add]
   case c2 => intro u hu; simp at hu; subst hu; rfl
   case c3 => have := HSl.out; unfold maxLen; omega
   case c4 => have := HSl.out; omega
   case c5 => have := HS2.out.2.2.1; simp; omega
   intro v' w3 hown' hgrow _
   have HO3 := Aside0.mk hown'
   have HS3 := Aside0.mk (wire_Reader_Nums.grow (HS2.out.on (below_alloc (Below.refl _ _) _)) hgrow (fun k hk => own_base HO2.out k hk) hww hgw)
   clear hown' hgrow
   go_wp2
   go_roundw
   case rel => exact ⟨m'', acc ++ [x], u2, d2, by go_num, ⟨by omega⟩, ⟨by simpa using HO3.out⟩, HS3, HQ, HBD⟩
   case measure => simp [intOf]
set_option maxHeartbeats 1000000 in
set_option maxRecDepth 100000 in
theorem wire_Reader_Nums.calls (g : Nat) (s0_0 : ByteArray) (s0_1 : Bool) (r1 : List Int) (r2 : ByteArray) (r3 : Bool) (w0 w : World) (hI : IsS189 w0 w g s0_0 s0_1) (hB : Below w0.heap.size w0 w) (h : wire_Reader_Nums.f s0_0 s0_1 = some (r1, r2, r3)) (hT : Tabs w0) :
  Calls Tryd.prog 38 #[.pointer (some ⟨g, 0, none⟩)] w fun e w' => ∃ v0_ : Value, e = .returned (v0_) ∧ Kd.R (Kd.int .i64) 3 w' w.heap.size (fun _ => True) v0_ r1 ∧ IsS189 w0 w' g r2 r3 ∧ Below w0.heap.size w0 w' ∧ KeepBut w w' g none := by
 unfold wire_Reader_Nums.f at h
 split at h
 ·rename_i hs
  simp only [Option.some.injEq, Prod.mk.injEq] at h
  obtain ⟨rfl, rfl, rfl⟩ := h
  have H := Aside0.mk (wire_Reader_Nums.items g s0_0.data.toList s0_1 w0 w (by rw [wire_Reader_Nums.ba_eta]; exact hI) hB hT (by rw [Array.length_toList]; exact hs))
  clear hI hB hT hs
  go_enter Tryd.func38, Tryd.ntmps38
  go_wp2_with (go_at_call 148; refine H.out.mono ?_; rintro e w1 ⟨v0, rfl, hq⟩; have HQ := Aside0.mk hq; clear hq)
  go_ret
  exact ⟨_, rfl, HQ.out⟩
 ·cases h

/-! ### wire_Reader_Done: function 41 -/
def wire_Reader_Done.f (s0_0 : ByteArray) (s0_1 : Bool) : Option (Bool × ByteArray × Bool) := if s0_1 = true then (some (false, s0_0, s0_1)) else (some ((s0_0.toList == ([] : List UInt8)), s0_0, s0_1))
set_option maxHeartbeats 8000000 in
set_option maxRecDepth 100000 in
theorem wire_Reader_Done.calls (g : Nat) (s0_0 : ByteArray) (s0_1 : Bool) (r1 : Bool) (r2 : ByteArray) (r3 : Bool) (w0 w : World) (hI : IsS189 w0 w g s0_0 s0_1) (hB : Below w0.heap.size w0 w) (h : wire_Reader_Done.f s0_0 s0_1 = some (r1, r2, r3)) :
  Calls Tryd.prog 41 #[.pointer (some ⟨g, 0, none⟩)] w fun e w' => e = .returned (.bool r1) ∧ IsS189 w0 w' g r2 r3 ∧ Below w0.heap.size w0 w' ∧ KeepBut w w' g none := by
 have HI0 := Aside0.mk hI
 have HK := Aside0.mk (KeepBut.refl w g none)
 have HL := Aside0.mk hB.size
 clear hI
 have HW0 := Aside0.mk hB.size
 have HB := Aside0.mk hB
 clear hB
 have H : (if s0_1 = true then (some (false, s0_0, s0_1)) else (some ((s0_0.toList == ([] : List UInt8)), s0_0, s0_1))) = some (r1, r2, r3) := h
 clear h
 by_cases c2 : s0_1 = true
 ·subst c2
  have H1 : (some (false, s0_0, true)) = some (r1, r2, r3) := by rw [if_pos rfl] at H; exact H
  clear H
  have H := H1
  clear H1
  simp only [Option.some.injEq, Prod.mk.injEq] at H
  obtain ⟨rfl, rfl, rfl⟩ := H
  obtain ⟨HGz3, hgz3⟩ := HI0.out
  have hcz3_0 := cellS189_0 HGz3
  have hcz3_1 := cellS189_1 HGz3
  have hfz3_0 := blk_frozen HGz3 0
  have hfz3_1 := blk_frozen HGz3 1
  clear HGz3 hgz3
  go_enter Tryd.func41, Tryd.ntmps41
  go_wp2
  go_ret
  exact ⟨by first | rfl | (simp [errW_none, errW_some] <;> rfl) | (simp [*, errW_none, errW_some] <;> rfl), HI0.out, HB.out, HK.out⟩
 ·replace c2 := Bool.eq_false_iff.mpr c2
  subst c2
  have H1 : (some ((s0_0.toList == ([] : List UInt8)), s0_0, false)) = some (r1, r2, r3) := by rw [if_neg (show ¬ (false = true) by decide)] at H; exact H
  clear H
  have H := H1
  clear H1
  simp only [Option.some.injEq, Prod.mk.injEq] at H
  obtain ⟨rfl, rfl, rfl⟩ := H
  obtain ⟨HGz4, hgz4⟩ := HI0.out
  have hcz4_0 := cellS189_0 HGz4
  have hcz4_1 := cellS189_1 HGz4
  have hfz4_0 := blk_frozen HGz4 0
  have hfz4_1 := blk_frozen HGz4 1
  clear HGz4 hgz4
  go_enter Tryd.func41, Tryd.ntmps41
  go_wp2
  go_ret
  exact ⟨by first | rfl | (simp [errW_none, errW_some] <;> rfl) | (simp [*, errW_none, errW_some] <;> rfl), HI0.out, HB.out, HK.out⟩

/-! ### wire_Int: function 25 -/
def wire_Int.f (a0 : Int) : Option (ByteArray) := (strconv_Itoa.f a0).bind fun t281 => (if t281.size + 1 ≤ 9223372036854775807 then (some (t281 ++ (⟨#[59]⟩ : ByteArray))) else (none))
set_option maxHeartbeats 8000000 in
set_option maxRecDepth 100000 in
theorem wire_Int.calls (a0 : Int) (r : ByteArray) (w : World) (h : wire_Int.f a0 = some r) (hT : Tabs w) :
  Calls Tryd.prog 25 #[.int .i64 a0] w fun e w' => e = .returned (.string r) ∧ Below w.heap.size w w' := by
 have HT := Aside0.mk hT
 clear hT
 have HB := Aside0.mk (Below.refl w.heap.size w)
 have H : ((strconv_Itoa.f a0).bind fun t281 => (if t281.size + 1 ≤ 9223372036854775807 then (some (t281 ++ (⟨#[59]⟩ : ByteArray))) else (none))) = some r := h
 clear h
 replace H := Option.bind_eq_some_iff.mp H
 obtain ⟨t281, A20, H⟩ := H
 try dsimp only at H
 have A2 := Aside0.mk A20
 clear A20
 by_cases c3 : t281.size + 1 ≤ 9223372036854775807
 ·rw [if_pos c3] at H
  have c3b0 := eq_true c3
  have c3b1 : decide (t281.size + 1 ≤ 9223372036854775807) = true := decide_eq_true c3
  try have c3b2 : (9223372036854775807 < t281.size + 1) = False := eq_false (Nat.not_lt.2 c3)
  obtain rfl := Option.some.inj H
  go_enter Tryd.func25, Tryd.ntmps25
  go_wp2_with (first | ((with_reducible refine gate_callee (f := 141) rfl ?_); refine goesL_ (some 4) rfl rfl Tryd.func141 (by kernel_rfl) rfl #[.int .i64 a0] rfl (by (try simp only [List.map_toArray, List.map_cons, List.map_nil]); first | done | rfl | (simp only [List.length_drop, List.length_take]; rfl)) ?_; (with_reducible refine (strconv_Itoa.calls a0 t281 _ A2.out (HT.out.below HB.out)).mono ?_); rintro e w4 ⟨rfl, hb⟩; refine ⟨_, rfl, ?_⟩; have n0_ := Aside0.mk (below_step HB.out hb); clear HB; have HB := n0_; clear n0_; (try clear hb); (try clear hb2); (try clear hk); (try clear hi)))
  go_ret
  exact ⟨by first | rfl | (simp [errW_none, errW_some] <;> rfl) | (simp [*, errW_none, errW_some] <;> rfl), HB.out⟩
 ·rw [if_neg c3] at H
  exact absurd H (by simp)

end Go.Proofs.YtigdjhnpngjhjaaDoor.PRb

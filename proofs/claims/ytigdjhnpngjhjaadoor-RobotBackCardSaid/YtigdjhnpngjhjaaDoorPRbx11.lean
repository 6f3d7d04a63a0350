-- squeezed by a program of this claim's own (wip/tools/fit.py), after the kit's printer
import Derived.Test.YtigdjhnpngjhjaaDoorPRbx0
import Derived.Test.YtigdjhnpngjhjaaDoorPRbx3
import Derived.Test.YtigdjhnpngjhjaaDoorPRbx7
import Derived.Test.YtigdjhnpngjhjaaDoorPRbx9
import Derived.Test.YtigdjhnpngjhjaaDoorPRbx10
namespace Go.Proofs.YtigdjhnpngjhjaaDoor.PRb
open Go.RowKit Go.Proofs.YtigdjhnpngjhjaaDoorW.PrintWords Go.Proofs.YtigdjhnpngjhjaaDoorW.PrintLast Go.Proofs.YtigdjhnpngjhjaaDoorW.PrintMore
attribute [local go_sem] max2_int min2_int max_two min_two max_three min_three max_four min_four   -- for this text's walks alone
set_option linter.unusedVariables false
set_option linter.unusedSimpArgs false

/-! ### taquinlaw22_RobotBack: function 12 -/
mutual
def taquinlaw22_RobotBack.j0 : Nat → ByteArray → Bool → Bool → Int → Int → Int → List Int → List Int → Int → List Int → Option (Bool)
 | 0, _, _, _, _, _, _, _, _, _, _ => none
 | k + 1, x2, x7, x21, x308000, x308001, x308002, x308003, x308004, x309000, x309001 => if x21 = true then (some x7) else ((robot_Read.f k x308000 x308001 x308002 x308003 x308004 x2).bind fun bt311 => (if bt311.2.2 = true then ((robot_Bytes.f bt311.1 bt311.2.1).bind fun t317 => (if t317.toList = x2.toList then ((robot_Right.f k x308000 x308001 x308002 x308003 x308004 bt311.1 bt311.2.1).bind fun t318 => (if t318 = true then (taquinlaw22_RobotBack.j1 k x7 false x308000 x308001 x308002 x308003 x308004 x309000 x309001) else (taquinlaw22_RobotBack.j1 k x7 true x308000 x308001 x308002 x308003 x308004 x309000 x309001))) else (taquinlaw22_RobotBack.j1 k x7 true x308000 x308001 x308002 x308003 x308004 x309000 x309001))) else (if bt311.1 = 0 then (taquinlaw22_RobotBack.j1 k x7 ((bt311.2.1.length : Int) != 0) x308000 x308001 x308002 x308003 x308004 x309000 x309001) else (taquinlaw22_RobotBack.j1 k x7 true x308000 x308001 x308002 x308003 x308004 x309000 x309001))))
def taquinlaw22_RobotBack.j1 : Nat → Bool → Bool → Int → Int → Int → List Int → List Int → Int → List Int → Option (Bool)
 | 0, _, _, _, _, _, _, _, _, _ => none
 | k + 1, x7, x56, x308000, x308001, x308002, x308003, x308004, x309000, x309001 => if x56 = true then (none) else ((robot_Right.f k x308000 x308001 x308002 x308003 x308004 x309000 x309001).bind fun t319 => (if t319 = true then ((robot_Bytes.f x309000 x309001).bind fun t320 => ((robot_Read.f k x308000 x308001 x308002 x308003 x308004 t320).bind fun bt321 => (if x7 = true then (if bt321.2.2 = true then ((taquinref22_Same.f k bt321.1 bt321.2.1 x309000 x309001).bind fun t327 => (some t327)) else (none)) else (none)))) else (some x7)))
end
def taquinlaw22_RobotBack.f (k : Nat) (a0_0 : Int) (a0_1 : Int) (a0_2 : Int) (l0_3 : List Int) (l0_4 : List Int) (a1_0 : Int) (l1_1 : List Int) (a2 : ByteArray) : Option (Bool) := (taquinlaw22_small.f k).bind fun t309 => ((taquinlaw22_few.f k a0_0 a0_1 a0_2 l0_3 l0_4 a1_0 l1_1).bind fun t310 => (if t310 = true then (taquinlaw22_RobotBack.j0 k a2 t309 (decide ((a2.size : Int) > 300)) a0_0 a0_1 a0_2 l0_3 l0_4 a1_0 l1_1) else (taquinlaw22_RobotBack.j0 k a2 t309 true a0_0 a0_1 a0_2 l0_3 l0_4 a1_0 l1_1)))
theorem taquinlaw22_RobotBack.mono_l : ∀ k, (∀ y0 y1 y2 y3 y4 y5 y6 y7 y8 y9, LeO (taquinlaw22_RobotBack.j0 k y0 y1 y2 y3 y4 y5 y6 y7 y8 y9) (taquinlaw22_RobotBack.j0 (k + 1) y0 y1 y2 y3 y4 y5 y6 y7 y8 y9)) ∧ (∀ y0 y1 y2 y3 y4 y5 y6 y7 y8, LeO (taquinlaw22_RobotBack.j1 k y0 y1 y2 y3 y4 y5 y6 y7 y8) (taquinlaw22_RobotBack.j1 (k + 1) y0 y1 y2 y3 y4 y5 y6 y7 y8))
 | 0 => ⟨fun _ _ _ _ _ _ _ _ _ _ r h => by simp [taquinlaw22_RobotBack.j0] at h, fun _ _ _ _ _ _ _ _ _ r h => by simp [taquinlaw22_RobotBack.j1] at h⟩
 | k + 1 => by
  obtain ⟨ih0, ih1⟩ := taquinlaw22_RobotBack.mono_l k
  refine ⟨?_, ?_⟩
  ·intro y0 y1 y2 y3 y4 y5 y6 y7 y8 y9
   unfold taquinlaw22_RobotBack.j0
   repeat' first
   | (with_reducible exact ih0 _ _ _ _ _ _ _ _ _ _)
   | (with_reducible exact ih1 _ _ _ _ _ _ _ _ _)
   | (with_reducible exact robot_Read.mono _ _ _ _ _ _ _)
   | (with_reducible exact robot_Right.mono _ _ _ _ _ _ _ _)
   | (with_reducible exact taquinlaw22_few.mono _ _ _ _ _ _ _ _)
   | (with_reducible exact taquinlaw22_small.mono _)
   | (with_reducible exact taquinref22_Same.mono _ _ _ _ _)
   | (with_reducible exact LeO.refl _)
   | (with_reducible exact LeO.none _)
   | (with_reducible refine LeO.ite ?_ ?_)
   | (with_reducible refine LeO.bind ?_ (fun _ => ?_))
   | exact ih0 _ _ _ _ _ _ _ _ _ _
   | exact ih1 _ _ _ _ _ _ _ _ _
   | exact robot_Read.mono _ _ _ _ _ _ _
   | exact robot_Right.mono _ _ _ _ _ _ _ _
   | exact taquinlaw22_few.mono _ _ _ _ _ _ _ _
   | exact taquinlaw22_small.mono _
   | exact taquinref22_Same.mono _ _ _ _ _
   | exact LeO.none _
   | refine LeO.ite ?_ ?_
   | refine LeO.bind ?_ (fun _ => ?_)
  ·intro y0 y1 y2 y3 y4 y5 y6 y7 y8
   unfold taquinlaw22_RobotBack.j1
   repeat' first
   | (with_reducible exact ih0 _ _ _ _ _ _ _ _ _ _)
   | (with_reducible exact ih1 _ _ _ _ _ _ _ _ _)
   | (with_reducible exact robot_Read.mono _ _ _ _ _ _ _)
   | (with_reducible exact robot_Right.mono _ _ _ _ _ _ _ _)
   | (with_reducible exact taquinlaw22_few.mono _ _ _ _ _ _ _ _)
   | (with_reducible exact taquinlaw22_small.mono _)
   | (with_reducible exact taquinref22_Same.mono _ _ _ _ _)
   | (with_reducible exact LeO.refl _)
   | (with_reducible exact LeO.none _)
   | (with_reducible refine LeO.ite ?_ ?_)
   | (with_reducible refine LeO.bind ?_ (fun _ => ?_))
   | exact ih0 _ _ _ _ _ _ _ _ _ _
   | exact ih1 _ _ _ _ _ _ _ _ _
   | exact robot_Read.mono _ _ _ _ _ _ _
   | exact robot_Right.mono _ _ _ _ _ _ _ _
   | exact taquinlaw22_few.mono _ _ _ _ _ _ _ _
   | exact taquinlaw22_small.mono _
   | exact taquinref22_Same.mono _ _ _ _ _
   | exact LeO.none _
   | refine LeO.ite ?_ ?_
   | refine LeO.bind ?_ (fun _ => ?_)
theorem taquinlaw22_RobotBack.mono : ∀ a0 a1 a2 a3 a4 a5 a6 a7 k, LeO (taquinlaw22_RobotBack.f k a0 a1 a2 a3 a4 a5 a6 a7) (taquinlaw22_RobotBack.f (k + 1) a0 a1 a2 a3 a4 a5 a6 a7) := by
 intro a0 a1 a2 a3 a4 a5 a6 a7 k
 obtain ⟨ih0, ih1⟩ := taquinlaw22_RobotBack.mono_l k
 unfold taquinlaw22_RobotBack.f
 repeat' first
   | (with_reducible exact ih0 _ _ _ _ _ _ _ _ _ _)
   | (with_reducible exact ih1 _ _ _ _ _ _ _ _ _)
   | (with_reducible exact robot_Read.mono _ _ _ _ _ _ _)
   | (with_reducible exact robot_Right.mono _ _ _ _ _ _ _ _)
   | (with_reducible exact taquinlaw22_few.mono _ _ _ _ _ _ _ _)
   | (with_reducible exact taquinlaw22_small.mono _)
   | (with_reducible exact taquinref22_Same.mono _ _ _ _ _)
   | (with_reducible exact LeO.refl _)
   | (with_reducible exact LeO.none _)
   | (with_reducible refine LeO.ite ?_ ?_)
   | (with_reducible refine LeO.bind ?_ (fun _ => ?_))
   | exact ih0 _ _ _ _ _ _ _ _ _ _
   | exact ih1 _ _ _ _ _ _ _ _ _
   | exact robot_Read.mono _ _ _ _ _ _ _
   | exact robot_Right.mono _ _ _ _ _ _ _ _
   | exact taquinlaw22_few.mono _ _ _ _ _ _ _ _
   | exact taquinlaw22_small.mono _
   | exact taquinref22_Same.mono _ _ _ _ _
   | exact LeO.none _
   | refine LeO.ite ?_ ?_
   | refine LeO.bind ?_ (fun _ => ?_)
def taquinlaw22_RobotBack.T9 : Bool × List (List Nat × List Nat) := (true, [([], []), ([], []), ([1], [1]), ([0, 2, 2], [0, 2]), ([3], [3]), ([4], [4]), ([4], [4]), ([], []), ([7, 5, 3, 0, 1, 2, 3, 4, 5, 7], [5, 7]), ([6, 8, 0, 1, 2, 3, 4, 5, 6, 7, 8], [6])])
def taquinlaw22_RobotBack.B9 : List Nat := [0, 0, 2, 7, 15, 31, 31, 0, 191, 511]
theorem taquinlaw22_RobotBack.tab9 : rtab .any (opsOf Tryd.f12 9) = taquinlaw22_RobotBack.T9 := by kernel_rfl
theorem taquinlaw22_RobotBack.bits9 : waitsOk taquinlaw22_RobotBack.T9.2 taquinlaw22_RobotBack.B9 = true := by kernel_rfl
set_option maxHeartbeats 8000000 in
set_option maxRecDepth 100000 in
theorem taquinlaw22_RobotBack.calls (k : Nat) (a0_0 : Int) (a0_1 : Int) (a0_2 : Int) (A0_3 : Option Addr) (c0_3 : Nat) (l0_3 : List Int) (A0_4 : Option Addr) (c0_4 : Nat) (l0_4 : List Int) (a1_0 : Int) (A1_1 : Option Addr) (c1_1 : Nat) (l1_1 : List Int) (a2 : ByteArray) (r : Bool) (w : World) (hr0_3 : Kd.C (Kd.int .i64) w A0_3 l0_3.length l0_3) (hc0_3 : l0_3.length ≤ c0_3) (hr0_4 : Kd.C (Kd.int .i64) w A0_4 l0_4.length l0_4) (hc0_4 : l0_4.length ≤ c0_4) (hr1_1 : Kd.C (Kd.int .i64) w A1_1 l1_1.length l1_1) (hc1_1 : l1_1.length ≤ c1_1) (h : taquinlaw22_RobotBack.f k a0_0 a0_1 a0_2 l0_3 l0_4 a1_0 l1_1 a2 = some r) (hT : Tabs w) :
  Calls Tryd.prog 12 #[.agg #[.int .i64 a0_0, .int .i64 a0_1, .int .i64 a0_2, .slice A0_3 l0_3.length c0_3, .slice A0_4 l0_4.length c0_4], .agg #[.int .i64 a1_0, .slice A1_1 l1_1.length c1_1], .string a2] w fun e w' => e = .returned (.bool r) ∧ Below w.heap.size w w' := by
 have hu91 := Tryd.underlying91
 have hu115 := Tryd.underlying115
 have HR0_3 := Aside0.mk hr0_3
 have HC0_3 := Aside0.mk hc0_3
 clear hr0_3 hc0_3
 have HR0_4 := Aside0.mk hr0_4
 have HC0_4 := Aside0.mk hc0_4
 clear hr0_4 hc0_4
 have HR1_1 := Aside0.mk hr1_1
 have HC1_1 := Aside0.mk hc1_1
 clear hr1_1 hc1_1
 have HT := Aside0.mk hT
 clear hT
 have HB := Aside0.mk (Below.refl w.heap.size w)
 have H : ((taquinlaw22_small.f k).bind fun t309 => ((taquinlaw22_few.f k a0_0 a0_1 a0_2 l0_3 l0_4 a1_0 l1_1).bind fun t310 => (if t310 = true then (taquinlaw22_RobotBack.j0 k a2 t309 (decide ((a2.size : Int) > 300)) a0_0 a0_1 a0_2 l0_3 l0_4 a1_0 l1_1) else (taquinlaw22_RobotBack.j0 k a2 t309 true a0_0 a0_1 a0_2 l0_3 l0_4 a1_0 l1_1)))) = some r := h
 clear h
 replace H := Option.bind_eq_some_iff.mp H
 obtain ⟨t309, A40, H⟩ := H
 try dsimp only at H
 have A4 := Aside0.mk A40
 clear A40
 have HC5 := Aside0.mk H
 clear H
 go_enter Tryd.func12, Tryd.ntmps12
 go_upto_region 2 with (first | ((with_reducible refine gate_dst (N := 3) rfl ?_); (try (refine gate_guard (by rfl) ?_; dsimp only)); refine box_event ?hg (N := 3) ?hd (cs := #[.int .i64 a0_0, .int .i64 a0_1, .int .i64 a0_2, .slice A0_3 l0_3.length c0_3, .slice A0_4 l0_4.length c0_4]) (t := 91) ?hr ?_; (case hd => rfl); (case hg => rfl); (case hr => first | (go_simp; done) | (go_simp; rfl)); intro gb307 hg w6 hbox hb; have n0_ := Aside0.mk (below_step HB.out hb); have n1_ := Aside0.mk (hbox); have n2_ := Aside0.mk ((by rw [hg]; exact (below_size HB.out) : w.heap.size ≤ gb307)); have n3_ := Aside0.mk ((by rw [hg]; exact (below_size HB.out) : w.heap.size ≤ gb307)); clear HB; have HB := n0_; have BK307 := n1_; have GW307 := n2_; have GE307 := n3_; clear n0_ n1_ n2_ n3_; clear hb hbox hg) | ((with_reducible refine gate_dst (N := 4) rfl ?_); (try (refine gate_guard (by rfl) ?_; dsimp only)); refine box_event ?hg (N := 4) ?hd (cs := #[.int .i64 a1_0, .slice A1_1 l1_1.length c1_1]) (t := 115) ?hr ?_; (case hd => rfl); (case hg => rfl); (case hr => first | (go_simp; done) | (go_simp; rfl)); intro gb308 hg w7 hbox hb; have n0_ := Aside0.mk (blk_below (g := gb307) (o := .cells #[.int .i64 a0_0, .int .i64 a0_1, .int .i64 a0_2, .slice A0_3 l0_3.length c0_3, .slice A0_4 l0_4.length c0_4] 91 (0, 0)) BK307.out hb); have n1_ := Aside0.mk (below_step HB.out hb); have n2_ := Aside0.mk (hbox); have n3_ := Aside0.mk ((by rw [hg]; exact (below_size HB.out) : w.heap.size ≤ gb308)); have n4_ := Aside0.mk ((by rw [hg]; exact (below_size HB.out) : w.heap.size ≤ gb308)); have n5_ := Aside0.mk ((by rw [hg]; exact Nat.ne_of_lt (blk_lt (g := gb307) (o := .cells #[.int .i64 a0_0, .int .i64 a0_1, .int .i64 a0_2, .slice A0_3 l0_3.length c0_3, .slice A0_4 l0_4.length c0_4] 91 (0, 0)) BK307.out) : gb307 ≠ gb308)); have n6_ := Aside0.mk ((by rw [hg]; exact Nat.ne_of_gt (blk_lt (g := gb307) (o := .cells #[.int .i64 a0_0, .int .i64 a0_1, .int .i64 a0_2, .slice A0_3 l0_3.length c0_3, .slice A0_4 l0_4.length c0_4] 91 (0, 0)) BK307.out) : gb308 ≠ gb307)); clear BK307; clear HB; have BK307 := n0_; have HB := n1_; have BK308 := n2_; have GW308 := n3_; have GE308 := n4_; have NB307_308 := n5_; have NB308_307 := n6_; clear n0_ n1_ n2_ n3_ n4_ n5_ n6_; clear hb hbox hg) | ((with_reducible refine gate_callee (f := 89) rfl ?_); refine goesL_ (some 12) rfl rfl Tryd.func89 (by kernel_rfl) rfl #[] rfl (by (try simp only [List.map_toArray, List.map_cons, List.map_nil]); first | done | rfl | (simp only [List.length_drop, List.length_take]; rfl)) ?_; (with_reducible refine (taquinlaw22_small.calls k  t309 _ A4.out).mono ?_); rintro e w8 ⟨rfl, hb⟩; refine ⟨_, rfl, ?_⟩; have n0_ := Aside0.mk (blk_below (g := gb307) (o := .cells #[.int .i64 a0_0, .int .i64 a0_1, .int .i64 a0_2, .slice A0_3 l0_3.length c0_3, .slice A0_4 l0_4.length c0_4] 91 (0, 0)) BK307.out hb); have n1_ := Aside0.mk (blk_below (g := gb308) (o := .cells #[.int .i64 a1_0, .slice A1_1 l1_1.length c1_1] 115 (0, 0)) BK308.out hb); have n2_ := Aside0.mk (below_step HB.out hb); clear BK307; clear BK308; clear HB; have BK307 := n0_; have BK308 := n1_; have HB := n2_; clear n0_ n1_ n2_; (try clear hb); (try clear hb2); (try clear hk); (try clear hi)))
 (try simp only [Act.put, List.setIfInBounds_toArray, List.set_cons_zero, List.set_cons_succ])
 go_cut [21] (fun v21 wc => ∃ (kq : Nat) (x21_4 : Bool), v21 = .bool x21_4 ∧ Aside0 (taquinlaw22_RobotBack.j0 kq a2 t309 x21_4 a0_0 a0_1 a0_2 l0_3 l0_4 a1_0 l1_1 = some r) ∧ Aside0 (kq ≤ k) ∧ Aside0 (wc.heap[gb307]? = some (.cells #[.int .i64 a0_0, .int .i64 a0_1, .int .i64 a0_2, (.slice A0_3 l0_3.length c0_3), (.slice A0_4 l0_4.length c0_4)] 91 (0, 0))) ∧ Aside0 (wc.heap[gb308]? = some (.cells #[.int .i64 a1_0, (.slice A1_1 l1_1.length c1_1)] 115 (0, 0))) ∧ Aside0 (Below w.heap.size w wc))
 case first =>
  have H := HC5.out
  clear HC5
  replace H := Option.bind_eq_some_iff.mp H
  obtain ⟨t310, A90, H⟩ := H
  try dsimp only at H
  have A9 := Aside0.mk A90
  clear A90
  by_cases c10 : t310 = true
  ·subst c10
   have H1 : (taquinlaw22_RobotBack.j0 k a2 t309 (decide ((a2.size : Int) > 300)) a0_0 a0_1 a0_2 l0_3 l0_4 a1_0 l1_1) = some r := by rw [if_pos rfl] at H; exact H
   clear H
   have H := H1
   clear H1
   have H' := Aside0.mk H
   clear H
   have hnb11 := NB307_308.out
   have hnc11 := NB308_307.out
   have hcz12_0 : w8.cell? ⟨gb307, 0, none⟩ = some (.int .i64 a0_0) := (blk_cell BK307.out 0).trans rfl
   have hcz12_1 : w8.cell? ⟨gb307, 1, none⟩ = some (.int .i64 a0_1) := (blk_cell BK307.out 1).trans rfl
   have hcz12_2 : w8.cell? ⟨gb307, 2, none⟩ = some (.int .i64 a0_2) := (blk_cell BK307.out 2).trans rfl
   have hcz12_3 : w8.cell? ⟨gb307, 3, none⟩ = some (.slice A0_3 l0_3.length c0_3) := (blk_cell BK307.out 3).trans rfl
   have hcz12_4 : w8.cell? ⟨gb307, 4, none⟩ = some (.slice A0_4 l0_4.length c0_4) := (blk_cell BK307.out 4).trans rfl
   have hfz12_0 := blk_frozen BK307.out 0
   have hfz12_1 := blk_frozen BK307.out 1
   have hfz12_2 := blk_frozen BK307.out 2
   have hfz12_3 := blk_frozen BK307.out 3
   have hfz12_4 := blk_frozen BK307.out 4
   have hcz13_0 : w8.cell? ⟨gb308, 0, none⟩ = some (.int .i64 a1_0) := (blk_cell BK308.out 0).trans rfl
   have hcz13_1 : w8.cell? ⟨gb308, 1, none⟩ = some (.slice A1_1 l1_1.length c1_1) := (blk_cell BK308.out 1).trans rfl
   have hfz13_0 := blk_frozen BK308.out 0
   have hfz13_1 := blk_frozen BK308.out 1
   go_wp2_with (first | ((with_reducible refine gate_callee (f := 90) rfl ?_); refine goesL_ (some 15) rfl rfl Tryd.func90 (by kernel_rfl) rfl #[.agg #[.int .i64 a0_0, .int .i64 a0_1, .int .i64 a0_2, .slice A0_3 l0_3.length c0_3, .slice A0_4 l0_4.length c0_4], .agg #[.int .i64 a1_0, .slice A1_1 l1_1.length c1_1]] rfl (by (try simp only [List.map_toArray, List.map_cons, List.map_nil]); first | done | rfl | (simp only [List.length_drop, List.length_take]; rfl)) ?_; (with_reducible refine (taquinlaw22_few.calls k a0_0 a0_1 a0_2 _ _ l0_3 _ _ l0_4 a1_0 _ _ l1_1 true _ ?side1 ?side2 ?side3 ?side4 ?side5 ?side6 A9.out).mono ?_); (case side1 => exact (Kd.C_below HR0_3.out HB.out)); (case side2 => exact HC0_3.out); (case side3 => exact (Kd.C_below HR0_4.out HB.out)); (case side4 => exact HC0_4.out); (case side5 => exact (Kd.C_below HR1_1.out HB.out)); (case side6 => exact HC1_1.out); rintro e w14 ⟨rfl, hb⟩; refine ⟨_, rfl, ?_⟩; have n0_ := Aside0.mk (blk_below (g := gb307) (o := .cells #[.int .i64 a0_0, .int .i64 a0_1, .int .i64 a0_2, .slice A0_3 l0_3.length c0_3, .slice A0_4 l0_4.length c0_4] 91 (0, 0)) BK307.out hb); have n1_ := Aside0.mk (blk_below (g := gb308) (o := .cells #[.int .i64 a1_0, .slice A1_1 l1_1.length c1_1] 115 (0, 0)) BK308.out hb); have n2_ := Aside0.mk (below_step HB.out hb); clear BK307; clear BK308; clear HB; have BK307 := n0_; have BK308 := n1_; have HB := n2_; clear n0_ n1_ n2_; (try clear hb); (try clear hb2); (try clear hk); (try clear hi)))
   go_meet
   case rel => exact ⟨_, (decide ((a2.size : Int) > 300)), (by first | rfl | (simp; done) | (simp [*]; done)), H', ⟨by first | omega | exact Nat.le_refl _⟩, ⟨BK307.out⟩, ⟨BK308.out⟩, ⟨HB.out⟩⟩
  ·replace c10 := Bool.eq_false_iff.mpr c10
   subst c10
   have H1 : (taquinlaw22_RobotBack.j0 k a2 t309 true a0_0 a0_1 a0_2 l0_3 l0_4 a1_0 l1_1) = some r := by rw [if_neg (show ¬ (false = true) by decide)] at H; exact H
   clear H
   have H := H1
   clear H1
   have H' := Aside0.mk H
   clear H
   have hnb15 := NB307_308.out
   have hnc15 := NB308_307.out
   have hcz16_0 : w8.cell? ⟨gb307, 0, none⟩ = some (.int .i64 a0_0) := (blk_cell BK307.out 0).trans rfl
   have hcz16_1 : w8.cell? ⟨gb307, 1, none⟩ = some (.int .i64 a0_1) := (blk_cell BK307.out 1).trans rfl
   have hcz16_2 : w8.cell? ⟨gb307, 2, none⟩ = some (.int .i64 a0_2) := (blk_cell BK307.out 2).trans rfl
   have hcz16_3 : w8.cell? ⟨gb307, 3, none⟩ = some (.slice A0_3 l0_3.length c0_3) := (blk_cell BK307.out 3).trans rfl
   have hcz16_4 : w8.cell? ⟨gb307, 4, none⟩ = some (.slice A0_4 l0_4.length c0_4) := (blk_cell BK307.out 4).trans rfl
   have hfz16_0 := blk_frozen BK307.out 0
   have hfz16_1 := blk_frozen BK307.out 1
   have hfz16_2 := blk_frozen BK307.out 2
   have hfz16_3 := blk_frozen BK307.out 3
   have hfz16_4 := blk_frozen BK307.out 4
   have hcz17_0 : w8.cell? ⟨gb308, 0, none⟩ = some (.int .i64 a1_0) := (blk_cell BK308.out 0).trans rfl
   have hcz17_1 : w8.cell? ⟨gb308, 1, none⟩ = some (.slice A1_1 l1_1.length c1_1) := (blk_cell BK308.out 1).trans rfl
   have hfz17_0 := blk_frozen BK308.out 0
   have hfz17_1 := blk_frozen BK308.out 1
   go_wp2_with (first | ((with_reducible refine gate_callee (f := 90) rfl ?_); refine goesL_ (some 15) rfl rfl Tryd.func90 (by kernel_rfl) rfl #[.agg #[.int .i64 a0_0, .int .i64 a0_1, .int .i64 a0_2, .slice A0_3 l0_3.length c0_3, .slice A0_4 l0_4.length c0_4], .agg #[.int .i64 a1_0, .slice A1_1 l1_1.length c1_1]] rfl (by (try simp only [List.map_toArray, List.map_cons, List.map_nil]); first | done | rfl | (simp only [List.length_drop, List.length_take]; rfl)) ?_; (with_reducible refine (taquinlaw22_few.calls k a0_0 a0_1 a0_2 _ _ l0_3 _ _ l0_4 a1_0 _ _ l1_1 false _ ?side1 ?side2 ?side3 ?side4 ?side5 ?side6 A9.out).mono ?_); (case side1 => exact (Kd.C_below HR0_3.out HB.out)); (case side2 => exact HC0_3.out); (case side3 => exact (Kd.C_below HR0_4.out HB.out)); (case side4 => exact HC0_4.out); (case side5 => exact (Kd.C_below HR1_1.out HB.out)); (case side6 => exact HC1_1.out); rintro e w18 ⟨rfl, hb⟩; refine ⟨_, rfl, ?_⟩; have n0_ := Aside0.mk (blk_below (g := gb307) (o := .cells #[.int .i64 a0_0, .int .i64 a0_1, .int .i64 a0_2, .slice A0_3 l0_3.length c0_3, .slice A0_4 l0_4.length c0_4] 91 (0, 0)) BK307.out hb); have n1_ := Aside0.mk (blk_below (g := gb308) (o := .cells #[.int .i64 a1_0, .slice A1_1 l1_1.length c1_1] 115 (0, 0)) BK308.out hb); have n2_ := Aside0.mk (below_step HB.out hb); clear BK307; clear BK308; clear HB; have BK307 := n0_; have BK308 := n1_; have HB := n2_; clear n0_ n1_ n2_; (try clear hb); (try clear hb2); (try clear hk); (try clear hi)))
   go_meet
   case rel => exact ⟨_, (true), (by first | rfl | (simp; done) | (simp [*]; done)), H', ⟨by first | omega | exact Nat.le_refl _⟩, ⟨BK307.out⟩, ⟨BK308.out⟩, ⟨HB.out⟩⟩
 case rest =>
  clear HC5
  try clear c1
  try clear p2
  try clear c8
  try clear c9
  try clear c10
  try clear c11
  try clear c12
  try clear c15
  try clear hcz12_0
  try clear hcz12_1
  try clear hcz12_2
  try clear hcz12_3
  try clear hcz12_4
  try clear hcz13_0
  try clear hcz13_1
  try clear hcz16_0
  try clear hcz16_1
  try clear hcz16_2
  try clear hcz16_3
  try clear hcz16_4
  try clear hcz17_0
  try clear hcz17_1
  try clear hfz12_0
  try clear hfz12_1
  try clear hfz12_2
  try clear hfz12_3
  try clear hfz12_4
  try clear hfz13_0
  try clear hfz13_1
  try clear hfz16_0
  try clear hfz16_1
  try clear hfz16_2
  try clear hfz16_3
  try clear hfz16_4
  try clear hfz17_0
  try clear hfz17_1
  obtain ⟨kq, x21_4, rfl, HA, HJ4, BK307, BK308, HB⟩ := hcut
  cases kq with
  | zero => exact absurd HA.out (by simp [taquinlaw22_RobotBack.j0])
  | succ kj4 =>
   have H := HA.out
   clear HA
   simp only [taquinlaw22_RobotBack.j0] at H
   by_cases c19 : x21_4 = true
   ·subst c19
    have H1 : (some t309) = some r := by rw [if_pos rfl] at H; exact H
    clear H
    have H := H1
    clear H1
    obtain rfl := Option.some.inj H
    go_wp2
    go_ret
    exact ⟨by first | rfl | (simp [errW_none, errW_some] <;> rfl) | (simp [*, errW_none, errW_some] <;> rfl), HB.out⟩
   ·replace c19 := Bool.eq_false_iff.mpr c19
    subst c19
    have H1 : ((robot_Read.f kj4 a0_0 a0_1 a0_2 l0_3 l0_4 a2).bind fun bt311 => (if bt311.2.2 = true then ((robot_Bytes.f bt311.1 bt311.2.1).bind fun t317 => (if t317.toList = a2.toList then ((robot_Right.f kj4 a0_0 a0_1 a0_2 l0_3 l0_4 bt311.1 bt311.2.1).bind fun t318 => (if t318 = true then (taquinlaw22_RobotBack.j1 kj4 t309 false a0_0 a0_1 a0_2 l0_3 l0_4 a1_0 l1_1) else (taquinlaw22_RobotBack.j1 kj4 t309 true a0_0 a0_1 a0_2 l0_3 l0_4 a1_0 l1_1))) else (taquinlaw22_RobotBack.j1 kj4 t309 true a0_0 a0_1 a0_2 l0_3 l0_4 a1_0 l1_1))) else (if bt311.1 = 0 then (taquinlaw22_RobotBack.j1 kj4 t309 ((bt311.2.1.length : Int) != 0) a0_0 a0_1 a0_2 l0_3 l0_4 a1_0 l1_1) else (taquinlaw22_RobotBack.j1 kj4 t309 true a0_0 a0_1 a0_2 l0_3 l0_4 a1_0 l1_1)))) = some r := by rw [if_neg (show ¬ (false = true) by decide)] at H; exact H
    clear H
    have H := H1
    clear H1
    replace H := Option.bind_eq_some_iff.mp H
    obtain ⟨⟨t311, t312, t315⟩, A200, H⟩ := H
    try dsimp only at H
    have A20 := Aside0.mk A200
    clear A200
    have HC21 := Aside0.mk H
    clear H
    have hnb22 := NB307_308.out
    have hnc22 := NB308_307.out
    have hcz23_0 : wc.cell? ⟨gb307, 0, none⟩ = some (.int .i64 a0_0) := (blk_cell BK307.out 0).trans rfl
    have hcz23_1 : wc.cell? ⟨gb307, 1, none⟩ = some (.int .i64 a0_1) := (blk_cell BK307.out 1).trans rfl
    have hcz23_2 : wc.cell? ⟨gb307, 2, none⟩ = some (.int .i64 a0_2) := (blk_cell BK307.out 2).trans rfl
    have hcz23_3 : wc.cell? ⟨gb307, 3, none⟩ = some (.slice A0_3 l0_3.length c0_3) := (blk_cell BK307.out 3).trans rfl
    have hcz23_4 : wc.cell? ⟨gb307, 4, none⟩ = some (.slice A0_4 l0_4.length c0_4) := (blk_cell BK307.out 4).trans rfl
    have hfz23_0 := blk_frozen BK307.out 0
    have hfz23_1 := blk_frozen BK307.out 1
    have hfz23_2 := blk_frozen BK307.out 2
    have hfz23_3 := blk_frozen BK307.out 3
    have hfz23_4 := blk_frozen BK307.out 4
    go_upto_region 5 with (first | ((with_reducible refine gate_callee (f := 91) rfl ?_); refine goesL_ (some 26) rfl rfl Tryd.func91 (by kernel_rfl) rfl #[.agg #[.int .i64 a0_0, .int .i64 a0_1, .int .i64 a0_2, .slice A0_3 l0_3.length c0_3, .slice A0_4 l0_4.length c0_4], .string a2] rfl (by (try simp only [List.map_toArray, List.map_cons, List.map_nil]); first | done | rfl | (simp only [List.length_drop, List.length_take]; rfl)) ?_; (with_reducible refine (robot_Read.calls kj4 a0_0 a0_1 a0_2 _ _ l0_3 _ _ l0_4 a2 t311 t312 t315 _ ?side1 ?side2 ?side3 ?side4 A20.out (HT.out.below HB.out)).mono ?_); (case side1 => exact (Kd.C_below HR0_3.out HB.out)); (case side2 => exact HC0_3.out); (case side3 => exact (Kd.C_below HR0_4.out HB.out)); (case side4 => exact HC0_4.out); rintro e w24 ⟨v313, rfl, ho0, hb⟩; refine ⟨_, rfl, ?_⟩; have n0_ := Aside0.mk (Kd.R_lower ho0 (below_size HB.out)); have n1_ := Aside0.mk (blk_below (g := gb307) (o := .cells #[.int .i64 a0_0, .int .i64 a0_1, .int .i64 a0_2, .slice A0_3 l0_3.length c0_3, .slice A0_4 l0_4.length c0_4] 91 (0, 0)) BK307.out hb); have n2_ := Aside0.mk (blk_below (g := gb308) (o := .cells #[.int .i64 a1_0, .slice A1_1 l1_1.length c1_1] 115 (0, 0)) BK308.out hb); have n3_ := Aside0.mk (below_step HB.out hb); clear BK307; clear BK308; clear HB; have HO314 := n0_; have BK307 := n1_; have BK308 := n2_; have HB := n3_; clear n0_ n1_ n2_ n3_; (try clear hb); (try clear hb2); (try clear hk); (try clear hi); (try clear ho0)) | ((with_reducible refine gate_dst (N := 8) rfl ?_); (try (refine gate_guard (by rfl) ?_; dsimp only)); refine box_event ?hg (N := 8) ?hd (cs := #[.int .i64 0, .slice none 0 0]) (t := 115) ?hr ?_; (case hd => rfl); (case hg => rfl); (case hr => first | (go_simp; done) | (go_simp; rfl)); intro gb316 hg w25 hbox hb; have n0_ := Aside0.mk (Kd.R_below HO314.out hb); have n1_ := Aside0.mk (blk_below (g := gb307) (o := .cells #[.int .i64 a0_0, .int .i64 a0_1, .int .i64 a0_2, .slice A0_3 l0_3.length c0_3, .slice A0_4 l0_4.length c0_4] 91 (0, 0)) BK307.out hb); have n2_ := Aside0.mk (blk_below (g := gb308) (o := .cells #[.int .i64 a1_0, .slice A1_1 l1_1.length c1_1] 115 (0, 0)) BK308.out hb); have n3_ := Aside0.mk (below_step HB.out hb); have n4_ := Aside0.mk (hbox); have n5_ := Aside0.mk ((by rw [hg]; exact (below_size HB.out) : w.heap.size ≤ gb316)); have n6_ := Aside0.mk ((by rw [hg]; exact (below_size HB.out) : w.heap.size ≤ gb316)); have n7_ := Aside0.mk ((by rw [hg]; exact Nat.ne_of_lt (blk_lt (g := gb307) (o := .cells #[.int .i64 a0_0, .int .i64 a0_1, .int .i64 a0_2, .slice A0_3 l0_3.length c0_3, .slice A0_4 l0_4.length c0_4] 91 (0, 0)) BK307.out) : gb307 ≠ gb316)); have n8_ := Aside0.mk ((by rw [hg]; exact Nat.ne_of_gt (blk_lt (g := gb307) (o := .cells #[.int .i64 a0_0, .int .i64 a0_1, .int .i64 a0_2, .slice A0_3 l0_3.length c0_3, .slice A0_4 l0_4.length c0_4] 91 (0, 0)) BK307.out) : gb316 ≠ gb307)); have n9_ := Aside0.mk ((by rw [hg]; exact Nat.ne_of_lt (blk_lt (g := gb308) (o := .cells #[.int .i64 a1_0, .slice A1_1 l1_1.length c1_1] 115 (0, 0)) BK308.out) : gb308 ≠ gb316)); have n10_ := Aside0.mk ((by rw [hg]; exact Nat.ne_of_gt (blk_lt (g := gb308) (o := .cells #[.int .i64 a1_0, .slice A1_1 l1_1.length c1_1] 115 (0, 0)) BK308.out) : gb316 ≠ gb308)); clear HO314; clear BK307; clear BK308; clear HB; have HO314 := n0_; have BK307 := n1_; have BK308 := n2_; have HB := n3_; have BK316 := n4_; have GW316 := n5_; have GE316 := n6_; have NB307_316 := n7_; have NB316_307 := n8_; have NB308_316 := n9_; have NB316_308 := n10_; clear n0_ n1_ n2_ n3_ n4_ n5_ n6_ n7_ n8_ n9_ n10_; clear hb hbox hg; have hnb26 := NB316_307.out; have hnc26 := NB307_316.out; have hnb27 := NB316_308.out; have hnc27 := NB308_316.out; have hcz28_0 : w25.cell? ⟨gb316, 0, none⟩ = some (.int .i64 0) := (blk_cell BK316.out 0).trans rfl; have hcz28_1 : w25.cell? ⟨gb316, 1, none⟩ = some (.slice none 0 0) := (blk_cell BK316.out 1).trans rfl; have hfz28_0 := blk_frozen BK316.out 0; have hfz28_1 := blk_frozen BK316.out 1; obtain ⟨Ao29, co29, eo29⟩ := Kd.R_slice HO314.out; subst eo29))
    (try simp only [Act.put, List.setIfInBounds_toArray, List.set_cons_zero, List.set_cons_succ])
    go_cut [56] (fun v56 wc => ∃ (kq : Nat) (x56_20 : Bool), v56 = .bool x56_20 ∧ Aside0 (taquinlaw22_RobotBack.j1 kq t309 x56_20 a0_0 a0_1 a0_2 l0_3 l0_4 a1_0 l1_1 = some r) ∧ Aside0 (kq ≤ kj4) ∧ Aside0 (Kd.R (Kd.int .i64) 3 wc w.heap.size (fun _ => True) (.slice Ao29 t312.length co29) t312) ∧ Aside0 (wc.heap[gb307]? = some (.cells #[.int .i64 a0_0, .int .i64 a0_1, .int .i64 a0_2, (.slice A0_3 l0_3.length c0_3), (.slice A0_4 l0_4.length c0_4)] 91 (0, 0))) ∧ Aside0 (wc.heap[gb308]? = some (.cells #[.int .i64 a1_0, (.slice A1_1 l1_1.length c1_1)] 115 (0, 0))) ∧ Aside0 (wc.heap[gb316]? = some (.cells #[.int .i64 t311, (.slice Ao29 t312.length co29)] 115 (0, 0))) ∧ Aside0 (Below w.heap.size w wc))
    case first =>
     have H := HC21.out
     clear HC21
     by_cases c30 : t315 = true
     ·subst c30
      have H1 : ((robot_Bytes.f t311 t312).bind fun t317 => (if t317.toList = a2.toList then ((robot_Right.f kj4 a0_0 a0_1 a0_2 l0_3 l0_4 t311 t312).bind fun t318 => (if t318 = true then (taquinlaw22_RobotBack.j1 kj4 t309 false a0_0 a0_1 a0_2 l0_3 l0_4 a1_0 l1_1) else (taquinlaw22_RobotBack.j1 kj4 t309 true a0_0 a0_1 a0_2 l0_3 l0_4 a1_0 l1_1))) else (taquinlaw22_RobotBack.j1 kj4 t309 true a0_0 a0_1 a0_2 l0_3 l0_4 a1_0 l1_1))) = some r := by rw [if_pos rfl] at H; exact H
      clear H
      have H := H1
      clear H1
      replace H := Option.bind_eq_some_iff.mp H
      obtain ⟨t317, A310, H⟩ := H
      try dsimp only at H
      have A31 := Aside0.mk A310
      clear A310
      by_cases c32 : t317.toList = a2.toList
      ·rw [if_pos c32] at H
       have c32b0 : (t317.toList == a2.toList) = true := beq_iff_eq.mpr c32
       have c32b1 : (t317.toList != a2.toList) = false := bne_eq_false_iff_eq.mpr c32
       clear c32
       (first | rw [c32b0] | (simp only [i64_w, i32_w]; rw [c32b0]) | skip)
       replace H := Option.bind_eq_some_iff.mp H
       obtain ⟨t318, A330, H⟩ := H
       try dsimp only at H
       have A33 := Aside0.mk A330
       clear A330
       by_cases c34 : t318 = true
       ·subst c34
        have H1 : (taquinlaw22_RobotBack.j1 kj4 t309 false a0_0 a0_1 a0_2 l0_3 l0_4 a1_0 l1_1) = some r := by rw [if_pos rfl] at H; exact H
        clear H
        have H := H1
        clear H1
        have H' := Aside0.mk H
        clear H
        have hnb35 := NB316_307.out
        have hnc35 := NB307_316.out
        have hnb36 := NB316_308.out
        have hnc36 := NB308_316.out
        have hcz37_0 : w25.cell? ⟨gb316, 0, none⟩ = some (.int .i64 0) := (blk_cell BK316.out 0).trans rfl
        have hcz37_1 : w25.cell? ⟨gb316, 1, none⟩ = some (.slice none 0 0) := (blk_cell BK316.out 1).trans rfl
        have hfz37_0 := blk_frozen BK316.out 0
        have hfz37_1 := blk_frozen BK316.out 1
        go_wp2_with (first | (go_at_call 92; (with_reducible refine (robot_Bytes.calls t311 _ _ t312 t317 _ ?side1 ?side2 A31.out (HT.out.below (by repeat (first | (with_reducible first | exact HB.out | apply below_alloc | apply pw_below_drewN | apply below_drew1 | refine below_set ?_ GE307.out | refine below_set ?_ GE308.out | refine below_set ?_ GE316.out) | exact HB.out)))).mono ?_); (case side1 => refine (Kd.R_reads' (e := 3) (base := w.heap.size) (ok := fun k_ => True) (n := t312.length) (c := co29) ?_).2.2; exact (by (with_reducible repeat (first | apply Kd.R_alloc | apply Kd.R_drewN | apply Kd.R_drew)); exact (Kd.R_mono (Kd.R_far (p := ⟨gb316, 1, none⟩) (Kd.R_far (p := ⟨gb316, 0, none⟩) (Kd.R_types HO314.out BK316.out (by decide)) (fun _ hk => hk.2) (.int .i64 t311)) (fun _ hk => hk.2) (.slice Ao29 t312.length co29)) (fun _ h_ => h_.1)))); (case side2 => exact (Kd.R_reads' HO314.out).2.1); rintro e w38 ⟨rfl, hb⟩; have n0_ := Aside0.mk (Kd.R_below (by (with_reducible repeat (first | apply Kd.R_alloc | apply Kd.R_drewN | apply Kd.R_drew)); exact (Kd.R_mono (Kd.R_far (p := ⟨gb316, 1, none⟩) (Kd.R_far (p := ⟨gb316, 0, none⟩) (Kd.R_types HO314.out BK316.out (by decide)) (fun _ hk => hk.2) (.int .i64 t311)) (fun _ hk => hk.2) (.slice Ao29 t312.length co29)) (fun _ h_ => h_.1))) hb); have n1_ := Aside0.mk (blk_below (g := gb307) (o := .cells #[.int .i64 a0_0, .int .i64 a0_1, .int .i64 a0_2, .slice A0_3 l0_3.length c0_3, .slice A0_4 l0_4.length c0_4] 91 (0, 0)) (by (with_reducible repeat (first | refine blk_drewN ?_ _ | refine blk_drew ?_ | refine blk_alloc ?_ _)); refine blk_far ?_ NB307_316.out _; (with_reducible repeat (first | refine blk_drewN ?_ _ | refine blk_drew ?_ | refine blk_alloc ?_ _)); refine blk_far ?_ NB307_316.out _; (with_reducible repeat (first | refine blk_drewN ?_ _ | refine blk_drew ?_ | refine blk_alloc ?_ _)); exact BK307.out) hb); have n2_ := Aside0.mk (blk_below (g := gb308) (o := .cells #[.int .i64 a1_0, .slice A1_1 l1_1.length c1_1] 115 (0, 0)) (by (with_reducible repeat (first | refine blk_drewN ?_ _ | refine blk_drew ?_ | refine blk_alloc ?_ _)); refine blk_far ?_ NB308_316.out _; (with_reducible repeat (first | refine blk_drewN ?_ _ | refine blk_drew ?_ | refine blk_alloc ?_ _)); refine blk_far ?_ NB308_316.out _; (with_reducible repeat (first | refine blk_drewN ?_ _ | refine blk_drew ?_ | refine blk_alloc ?_ _)); exact BK308.out) hb); have n3_ := Aside0.mk (blk_below (g := gb316) (o := .cells #[.int .i64 t311, .slice Ao29 t312.length co29] 115 (0, 0)) (by (with_reducible repeat (first | refine blk_drewN ?_ _ | refine blk_drew ?_ | refine blk_alloc ?_ _)); refine blk_put (cs := #[.int .i64 t311, .slice none 0 0]) ?_ 1 _ rfl; (with_reducible repeat (first | refine blk_drewN ?_ _ | refine blk_drew ?_ | refine blk_alloc ?_ _)); refine blk_put (cs := #[.int .i64 0, .slice none 0 0]) ?_ 0 _ rfl; (with_reducible repeat (first | refine blk_drewN ?_ _ | refine blk_drew ?_ | refine blk_alloc ?_ _)); exact BK316.out) hb); have n4_ := Aside0.mk (below_step (by repeat (first | (with_reducible first | exact HB.out | apply below_alloc | apply pw_below_drewN | apply below_drew1 | refine below_set ?_ GE307.out | refine below_set ?_ GE308.out | refine below_set ?_ GE316.out) | exact HB.out)) hb); clear HO314; clear BK307; clear BK308; clear BK316; clear HB; have HO314 := n0_; have BK307 := n1_; have BK308 := n2_; have BK316 := n3_; have HB := n4_; clear n0_ n1_ n2_ n3_ n4_; (try clear hb); (try clear hb2); (try clear hk); (try clear hi); have hnb39 := NB307_308.out; have hnc39 := NB308_307.out; have hcz40_0 : w38.cell? ⟨gb307, 0, none⟩ = some (.int .i64 a0_0) := (blk_cell BK307.out 0).trans rfl; have hcz40_1 : w38.cell? ⟨gb307, 1, none⟩ = some (.int .i64 a0_1) := (blk_cell BK307.out 1).trans rfl; have hcz40_2 : w38.cell? ⟨gb307, 2, none⟩ = some (.int .i64 a0_2) := (blk_cell BK307.out 2).trans rfl; have hcz40_3 : w38.cell? ⟨gb307, 3, none⟩ = some (.slice A0_3 l0_3.length c0_3) := (blk_cell BK307.out 3).trans rfl; have hcz40_4 : w38.cell? ⟨gb307, 4, none⟩ = some (.slice A0_4 l0_4.length c0_4) := (blk_cell BK307.out 4).trans rfl; have hfz40_0 := blk_frozen BK307.out 0; have hfz40_1 := blk_frozen BK307.out 1; have hfz40_2 := blk_frozen BK307.out 2; have hfz40_3 := blk_frozen BK307.out 3; have hfz40_4 := blk_frozen BK307.out 4; have hcz41_0 : w38.cell? ⟨gb316, 0, none⟩ = some (.int .i64 t311) := (blk_cell BK316.out 0).trans rfl; have hcz41_1 : w38.cell? ⟨gb316, 1, none⟩ = some (.slice Ao29 t312.length co29) := (blk_cell BK316.out 1).trans rfl; have hfz41_0 := blk_frozen BK316.out 0; have hfz41_1 := blk_frozen BK316.out 1) | (go_at_call 93; (with_reducible refine (robot_Right.calls kj4 a0_0 a0_1 a0_2 _ _ l0_3 _ _ l0_4 t311 _ _ t312 true _ ?side1 ?side2 ?side3 ?side4 ?side5 ?side6 A33.out).mono ?_); (case side1 => repeat (first | exact (Kd.C_below HR0_3.out HB.out) | (with_reducible refine Kd.C_alloc ?_ _) | (with_reducible refine Kd.C_drewN ?_ _) | (with_reducible refine Kd.C_drew ?_))); (case side2 => exact HC0_3.out); (case side3 => repeat (first | exact (Kd.C_below HR0_4.out HB.out) | (with_reducible refine Kd.C_alloc ?_ _) | (with_reducible refine Kd.C_drewN ?_ _) | (with_reducible refine Kd.C_drew ?_))); (case side4 => exact HC0_4.out); (case side5 => repeat (first | exact (Kd.R_reads' HO314.out).2.2 | (with_reducible refine Kd.C_alloc ?_ _) | (with_reducible refine Kd.C_drewN ?_ _) | (with_reducible refine Kd.C_drew ?_))); (case side6 => exact (Kd.R_reads' HO314.out).2.1); rintro e w42 ⟨rfl, hb⟩; have n0_ := Aside0.mk (Kd.R_below (by (with_reducible repeat (first | apply Kd.R_alloc | apply Kd.R_drewN | apply Kd.R_drew)); exact HO314.out) hb); have n1_ := Aside0.mk (blk_below (g := gb307) (o := .cells #[.int .i64 a0_0, .int .i64 a0_1, .int .i64 a0_2, .slice A0_3 l0_3.length c0_3, .slice A0_4 l0_4.length c0_4] 91 (0, 0)) (by (with_reducible repeat (first | refine blk_drewN ?_ _ | refine blk_drew ?_ | refine blk_alloc ?_ _)); exact BK307.out) hb); have n2_ := Aside0.mk (blk_below (g := gb308) (o := .cells #[.int .i64 a1_0, .slice A1_1 l1_1.length c1_1] 115 (0, 0)) (by (with_reducible repeat (first | refine blk_drewN ?_ _ | refine blk_drew ?_ | refine blk_alloc ?_ _)); exact BK308.out) hb); have n3_ := Aside0.mk (blk_below (g := gb316) (o := .cells #[.int .i64 t311, .slice Ao29 t312.length co29] 115 (0, 0)) (by (with_reducible repeat (first | refine blk_drewN ?_ _ | refine blk_drew ?_ | refine blk_alloc ?_ _)); exact BK316.out) hb); have n4_ := Aside0.mk (below_step (by repeat (first | (with_reducible first | exact HB.out | apply below_alloc | apply pw_below_drewN | apply below_drew1 | refine below_set ?_ GE307.out | refine below_set ?_ GE308.out | refine below_set ?_ GE316.out) | exact HB.out)) hb); clear HO314; clear BK307; clear BK308; clear BK316; clear HB; have HO314 := n0_; have BK307 := n1_; have BK308 := n2_; have BK316 := n3_; have HB := n4_; clear n0_ n1_ n2_ n3_ n4_; (try clear hb); (try clear hb2); (try clear hk); (try clear hi)))
        go_meet
        case rel => exact ⟨_, (false), (by first | rfl | (simp; done) | (simp [*]; done)), H', ⟨by have := HJ4.out; first | omega | exact Nat.le_refl _⟩, ⟨by (with_reducible repeat (first | apply Kd.R_alloc | apply Kd.R_drewN | apply Kd.R_drew)); exact HO314.out⟩, ⟨by (with_reducible repeat (first | refine blk_drewN ?_ _ | refine blk_drew ?_ | refine blk_alloc ?_ _)); exact BK307.out⟩, ⟨by (with_reducible repeat (first | refine blk_drewN ?_ _ | refine blk_drew ?_ | refine blk_alloc ?_ _)); exact BK308.out⟩, ⟨by (with_reducible repeat (first | refine blk_drewN ?_ _ | refine blk_drew ?_ | refine blk_alloc ?_ _)); exact BK316.out⟩, ⟨by repeat (first | (with_reducible first | exact HB.out | apply below_alloc | apply pw_below_drewN | apply below_drew1 | refine below_set ?_ GE307.out | refine below_set ?_ GE308.out | refine below_set ?_ GE316.out) | exact HB.out)⟩⟩
       ·replace c34 := Bool.eq_false_iff.mpr c34
        subst c34
        have H1 : (taquinlaw22_RobotBack.j1 kj4 t309 true a0_0 a0_1 a0_2 l0_3 l0_4 a1_0 l1_1) = some r := by rw [if_neg (show ¬ (false = true) by decide)] at H; exact H
        clear H
        have H := H1
        clear H1
        have H' := Aside0.mk H
        clear H
        have hnb43 := NB316_307.out
        have hnc43 := NB307_316.out
        have hnb44 := NB316_308.out
        have hnc44 := NB308_316.out
        have hcz45_0 : w25.cell? ⟨gb316, 0, none⟩ = some (.int .i64 0) := (blk_cell BK316.out 0).trans rfl
        have hcz45_1 : w25.cell? ⟨gb316, 1, none⟩ = some (.slice none 0 0) := (blk_cell BK316.out 1).trans rfl
        have hfz45_0 := blk_frozen BK316.out 0
        have hfz45_1 := blk_frozen BK316.out 1
        go_wp2_with (first | (go_at_call 92; (with_reducible refine (robot_Bytes.calls t311 _ _ t312 t317 _ ?side1 ?side2 A31.out (HT.out.below (by repeat (first | (with_reducible first | exact HB.out | apply below_alloc | apply pw_below_drewN | apply below_drew1 | refine below_set ?_ GE307.out | refine below_set ?_ GE308.out | refine below_set ?_ GE316.out) | exact HB.out)))).mono ?_); (case side1 => refine (Kd.R_reads' (e := 3) (base := w.heap.size) (ok := fun k_ => True) (n := t312.length) (c := co29) ?_).2.2; exact (by (with_reducible repeat (first | apply Kd.R_alloc | apply Kd.R_drewN | apply Kd.R_drew)); exact (Kd.R_mono (Kd.R_far (p := ⟨gb316, 1, none⟩) (Kd.R_far (p := ⟨gb316, 0, none⟩) (Kd.R_types HO314.out BK316.out (by decide)) (fun _ hk => hk.2) (.int .i64 t311)) (fun _ hk => hk.2) (.slice Ao29 t312.length co29)) (fun _ h_ => h_.1)))); (case side2 => exact (Kd.R_reads' HO314.out).2.1); rintro e w46 ⟨rfl, hb⟩; have n0_ := Aside0.mk (Kd.R_below (by (with_reducible repeat (first | apply Kd.R_alloc | apply Kd.R_drewN | apply Kd.R_drew)); exact (Kd.R_mono (Kd.R_far (p := ⟨gb316, 1, none⟩) (Kd.R_far (p := ⟨gb316, 0, none⟩) (Kd.R_types HO314.out BK316.out (by decide)) (fun _ hk => hk.2) (.int .i64 t311)) (fun _ hk => hk.2) (.slice Ao29 t312.length co29)) (fun _ h_ => h_.1))) hb); have n1_ := Aside0.mk (blk_below (g := gb307) (o := .cells #[.int .i64 a0_0, .int .i64 a0_1, .int .i64 a0_2, .slice A0_3 l0_3.length c0_3, .slice A0_4 l0_4.length c0_4] 91 (0, 0)) (by (with_reducible repeat (first | refine blk_drewN ?_ _ | refine blk_drew ?_ | refine blk_alloc ?_ _)); refine blk_far ?_ NB307_316.out _; (with_reducible repeat (first | refine blk_drewN ?_ _ | refine blk_drew ?_ | refine blk_alloc ?_ _)); refine blk_far ?_ NB307_316.out _; (with_reducible repeat (first | refine blk_drewN ?_ _ | refine blk_drew ?_ | refine blk_alloc ?_ _)); exact BK307.out) hb); have n2_ := Aside0.mk (blk_below (g := gb308) (o := .cells #[.int .i64 a1_0, .slice A1_1 l1_1.length c1_1] 115 (0, 0)) (by (with_reducible repeat (first | refine blk_drewN ?_ _ | refine blk_drew ?_ | refine blk_alloc ?_ _)); refine blk_far ?_ NB308_316.out _; (with_reducible repeat (first | refine blk_drewN ?_ _ | refine blk_drew ?_ | refine blk_alloc ?_ _)); refine blk_far ?_ NB308_316.out _; (with_reducible repeat (first | refine blk_drewN ?_ _ | refine blk_drew ?_ | refine blk_alloc ?_ _)); exact BK308.out) hb); have n3_ := Aside0.mk (blk_below (g := gb316) (o := .cells #[.int .i64 t311, .slice Ao29 t312.length co29] 115 (0, 0)) (by (with_reducible repeat (first | refine blk_drewN ?_ _ | refine blk_drew ?_ | refine blk_alloc ?_ _)); refine blk_put (cs := #[.int .i64 t311, .slice none 0 0]) ?_ 1 _ rfl; (with_reducible repeat (first | refine blk_drewN ?_ _ | refine blk_drew ?_ | refine blk_alloc ?_ _)); refine blk_put (cs := #[.int .i64 0, .slice none 0 0]) ?_ 0 _ rfl; (with_reducible repeat (first | refine blk_drewN ?_ _ | refine blk_drew ?_ | refine blk_alloc ?_ _)); exact BK316.out) hb); have n4_ := Aside0.mk (below_step (by repeat (first | (with_reducible first | exact HB.out | apply below_alloc | apply pw_below_drewN | apply below_drew1 | refine below_set ?_ GE307.out | refine below_set ?_ GE308.out | refine below_set ?_ GE316.out) | exact HB.out)) hb); clear HO314; clear BK307; clear BK308; clear BK316; clear HB; have HO314 := n0_; have BK307 := n1_; have BK308 := n2_; have BK316 := n3_; have HB := n4_; clear n0_ n1_ n2_ n3_ n4_; (try clear hb); (try clear hb2); (try clear hk); (try clear hi); have hnb47 := NB307_308.out; have hnc47 := NB308_307.out; have hcz48_0 : w46.cell? ⟨gb307, 0, none⟩ = some (.int .i64 a0_0) := (blk_cell BK307.out 0).trans rfl; have hcz48_1 : w46.cell? ⟨gb307, 1, none⟩ = some (.int .i64 a0_1) := (blk_cell BK307.out 1).trans rfl; have hcz48_2 : w46.cell? ⟨gb307, 2, none⟩ = some (.int .i64 a0_2) := (blk_cell BK307.out 2).trans rfl; have hcz48_3 : w46.cell? ⟨gb307, 3, none⟩ = some (.slice A0_3 l0_3.length c0_3) := (blk_cell BK307.out 3).trans rfl; have hcz48_4 : w46.cell? ⟨gb307, 4, none⟩ = some (.slice A0_4 l0_4.length c0_4) := (blk_cell BK307.out 4).trans rfl; have hfz48_0 := blk_frozen BK307.out 0; have hfz48_1 := blk_frozen BK307.out 1; have hfz48_2 := blk_frozen BK307.out 2; have hfz48_3 := blk_frozen BK307.out 3; have hfz48_4 := blk_frozen BK307.out 4; have hcz49_0 : w46.cell? ⟨gb316, 0, none⟩ = some (.int .i64 t311) := (blk_cell BK316.out 0).trans rfl; have hcz49_1 : w46.cell? ⟨gb316, 1, none⟩ = some (.slice Ao29 t312.length co29) := (blk_cell BK316.out 1).trans rfl; have hfz49_0 := blk_frozen BK316.out 0; have hfz49_1 := blk_frozen BK316.out 1) | (go_at_call 93; (with_reducible refine (robot_Right.calls kj4 a0_0 a0_1 a0_2 _ _ l0_3 _ _ l0_4 t311 _ _ t312 false _ ?side1 ?side2 ?side3 ?side4 ?side5 ?side6 A33.out).mono ?_); (case side1 => repeat (first | exact (Kd.C_below HR0_3.out HB.out) | (with_reducible refine Kd.C_alloc ?_ _) | (with_reducible refine Kd.C_drewN ?_ _) | (with_reducible refine Kd.C_drew ?_))); (case side2 => exact HC0_3.out); (case side3 => repeat (first | exact (Kd.C_below HR0_4.out HB.out) | (with_reducible refine Kd.C_alloc ?_ _) | (with_reducible refine Kd.C_drewN ?_ _) | (with_reducible refine Kd.C_drew ?_))); (case side4 => exact HC0_4.out); (case side5 => repeat (first | exact (Kd.R_reads' HO314.out).2.2 | (with_reducible refine Kd.C_alloc ?_ _) | (with_reducible refine Kd.C_drewN ?_ _) | (with_reducible refine Kd.C_drew ?_))); (case side6 => exact (Kd.R_reads' HO314.out).2.1); rintro e w50 ⟨rfl, hb⟩; have n0_ := Aside0.mk (Kd.R_below (by (with_reducible repeat (first | apply Kd.R_alloc | apply Kd.R_drewN | apply Kd.R_drew)); exact HO314.out) hb); have n1_ := Aside0.mk (blk_below (g := gb307) (o := .cells #[.int .i64 a0_0, .int .i64 a0_1, .int .i64 a0_2, .slice A0_3 l0_3.length c0_3, .slice A0_4 l0_4.length c0_4] 91 (0, 0)) (by (with_reducible repeat (first | refine blk_drewN ?_ _ | refine blk_drew ?_ | refine blk_alloc ?_ _)); exact BK307.out) hb); have n2_ := Aside0.mk (blk_below (g := gb308) (o := .cells #[.int .i64 a1_0, .slice A1_1 l1_1.length c1_1] 115 (0, 0)) (by (with_reducible repeat (first | refine blk_drewN ?_ _ | refine blk_drew ?_ | refine blk_alloc ?_ _)); exact BK308.out) hb); have n3_ := Aside0.mk (blk_below (g := gb316) (o := .cells #[.int .i64 t311, .slice Ao29 t312.length co29] 115 (0, 0)) (by (with_reducible repeat (first | refine blk_drewN ?_ _ | refine blk_drew ?_ | refine blk_alloc ?_ _)); exact BK316.out) hb); have n4_ := Aside0.mk (below_step (by repeat (first | (with_reducible first | exact HB.out | apply below_alloc | apply pw_below_drewN | apply below_drew1 | refine below_set ?_ GE307.out | refine below_set ?_ GE308.out | refine below_set ?_ GE316.out) | exact HB.out)) hb); clear HO314; clear BK307; clear BK308; clear BK316; clear HB; have HO314 := n0_; have BK307 := n1_; have BK308 := n2_; have BK316 := n3_; have HB := n4_; clear n0_ n1_ n2_ n3_ n4_; (try clear hb); (try clear hb2); (try clear hk); (try clear hi)))
        go_meet
        case rel => exact ⟨_, (true), (by first | rfl | (simp; done) | (simp [*]; done)), H', ⟨by have := HJ4.out; first | omega | exact Nat.le_refl _⟩, ⟨by (with_reducible repeat (first | apply Kd.R_alloc | apply Kd.R_drewN | apply Kd.R_drew)); exact HO314.out⟩, ⟨by (with_reducible repeat (first | refine blk_drewN ?_ _ | refine blk_drew ?_ | refine blk_alloc ?_ _)); exact BK307.out⟩, ⟨by (with_reducible repeat (first | refine blk_drewN ?_ _ | refine blk_drew ?_ | refine blk_alloc ?_ _)); exact BK308.out⟩, ⟨by (with_reducible repeat (first | refine blk_drewN ?_ _ | refine blk_drew ?_ | refine blk_alloc ?_ _)); exact BK316.out⟩, ⟨by repeat (first | (with_reducible first | exact HB.out | apply below_alloc | apply pw_below_drewN | apply below_drew1 | refine below_set ?_ GE307.out | refine below_set ?_ GE308.out | refine below_set ?_ GE316.out) | exact HB.out)⟩⟩
      ·rw [if_neg c32] at H
       have c32b0 : (t317.toList == a2.toList) = false := beq_eq_false_iff_ne.mpr c32
       have c32b1 : (t317.toList != a2.toList) = true := bne_iff_ne.mpr c32
       (first | rw [c32b0] | (simp only [i64_w, i32_w]; rw [c32b0]) | skip)
       have H' := Aside0.mk H
       clear H
       have hnb51 := NB316_307.out
       have hnc51 := NB307_316.out
       have hnb52 := NB316_308.out
       have hnc52 := NB308_316.out
       have hcz53_0 : w25.cell? ⟨gb316, 0, none⟩ = some (.int .i64 0) := (blk_cell BK316.out 0).trans rfl
       have hcz53_1 : w25.cell? ⟨gb316, 1, none⟩ = some (.slice none 0 0) := (blk_cell BK316.out 1).trans rfl
       have hfz53_0 := blk_frozen BK316.out 0
       have hfz53_1 := blk_frozen BK316.out 1
       go_wp2_with (first | (go_at_call 92; (with_reducible refine (robot_Bytes.calls t311 _ _ t312 t317 _ ?side1 ?side2 A31.out (HT.out.below (by repeat (first | (with_reducible first | exact HB.out | apply below_alloc | apply pw_below_drewN | apply below_drew1 | refine below_set ?_ GE307.out | refine below_set ?_ GE308.out | refine below_set ?_ GE316.out) | exact HB.out)))).mono ?_); (case side1 => refine (Kd.R_reads' (e := 3) (base := w.heap.size) (ok := fun k_ => True) (n := t312.length) (c := co29) ?_).2.2; exact (by (with_reducible repeat (first | apply Kd.R_alloc | apply Kd.R_drewN | apply Kd.R_drew)); exact (Kd.R_mono (Kd.R_far (p := ⟨gb316, 1, none⟩) (Kd.R_far (p := ⟨gb316, 0, none⟩) (Kd.R_types HO314.out BK316.out (by decide)) (fun _ hk => hk.2) (.int .i64 t311)) (fun _ hk => hk.2) (.slice Ao29 t312.length co29)) (fun _ h_ => h_.1)))); (case side2 => exact (Kd.R_reads' HO314.out).2.1); rintro e w54 ⟨rfl, hb⟩; have n0_ := Aside0.mk (Kd.R_below (by (with_reducible repeat (first | apply Kd.R_alloc | apply Kd.R_drewN | apply Kd.R_drew)); exact (Kd.R_mono (Kd.R_far (p := ⟨gb316, 1, none⟩) (Kd.R_far (p := ⟨gb316, 0, none⟩) (Kd.R_types HO314.out BK316.out (by decide)) (fun _ hk => hk.2) (.int .i64 t311)) (fun _ hk => hk.2) (.slice Ao29 t312.length co29)) (fun _ h_ => h_.1))) hb); have n1_ := Aside0.mk (blk_below (g := gb307) (o := .cells #[.int .i64 a0_0, .int .i64 a0_1, .int .i64 a0_2, .slice A0_3 l0_3.length c0_3, .slice A0_4 l0_4.length c0_4] 91 (0, 0)) (by (with_reducible repeat (first | refine blk_drewN ?_ _ | refine blk_drew ?_ | refine blk_alloc ?_ _)); refine blk_far ?_ NB307_316.out _; (with_reducible repeat (first | refine blk_drewN ?_ _ | refine blk_drew ?_ | refine blk_alloc ?_ _)); refine blk_far ?_ NB307_316.out _; (with_reducible repeat (first | refine blk_drewN ?_ _ | refine blk_drew ?_ | refine blk_alloc ?_ _)); exact BK307.out) hb); have n2_ := Aside0.mk (blk_below (g := gb308) (o := .cells #[.int .i64 a1_0, .slice A1_1 l1_1.length c1_1] 115 (0, 0)) (by (with_reducible repeat (first | refine blk_drewN ?_ _ | refine blk_drew ?_ | refine blk_alloc ?_ _)); refine blk_far ?_ NB308_316.out _; (with_reducible repeat (first | refine blk_drewN ?_ _ | refine blk_drew ?_ | refine blk_alloc ?_ _)); refine blk_far ?_ NB308_316.out _; (with_reducible repeat (first | refine blk_drewN ?_ _ | refine blk_drew ?_ | refine blk_alloc ?_ _)); exact BK308.out) hb); have n3_ := Aside0.mk (blk_below (g := gb316) (o := .cells #[.int .i64 t311, .slice Ao29 t312.length co29] 115 (0, 0)) (by (with_reducible repeat (first | refine blk_drewN ?_ _ | refine blk_drew ?_ | refine blk_alloc ?_ _)); refine blk_put (cs := #[.int .i64 t311, .slice none 0 0]) ?_ 1 _ rfl; (with_reducible repeat (first | refine blk_drewN ?_ _ | refine blk_drew ?_ | refine blk_alloc ?_ _)); refine blk_put (cs := #[.int .i64 0, .slice none 0 0]) ?_ 0 _ rfl; (with_reducible repeat (first | refine blk_drewN ?_ _ | refine blk_drew ?_ | refine blk_alloc ?_ _)); exact BK316.out) hb); have n4_ := Aside0.mk (below_step (by repeat (first | (with_reducible first | exact HB.out | apply below_alloc | apply pw_below_drewN | apply below_drew1 | refine below_set ?_ GE307.out | refine below_set ?_ GE308.out | refine below_set ?_ GE316.out) | exact HB.out)) hb); clear HO314; clear BK307; clear BK308; clear BK316; clear HB; have HO314 := n0_; have BK307 := n1_; have BK308 := n2_; have BK316 := n3_; have HB := n4_; clear n0_ n1_ n2_ n3_ n4_; (try clear hb); (try clear hb2); (try clear hk); (try clear hi)))
       go_meet
       case rel => exact ⟨_, (true), (by first | rfl | (simp; done) | (simp [*]; done)), H', ⟨by have := HJ4.out; first | omega | exact Nat.le_refl _⟩, ⟨by (with_reducible repeat (first | apply Kd.R_alloc | apply Kd.R_drewN | apply Kd.R_drew)); exact HO314.out⟩, ⟨by (with_reducible repeat (first | refine blk_drewN ?_ _ | refine blk_drew ?_ | refine blk_alloc ?_ _)); exact BK307.out⟩, ⟨by (with_reducible repeat (first | refine blk_drewN ?_ _ | refine blk_drew ?_ | refine blk_alloc ?_ _)); exact BK308.out⟩, ⟨by (with_reducible repeat (first | refine blk_drewN ?_ _ | refine blk_drew ?_ | refine blk_alloc ?_ _)); exact BK316.out⟩, ⟨by repeat (first | (with_reducible first | exact HB.out | apply below_alloc | apply pw_below_drewN | apply below_drew1 | refine below_set ?_ GE307.out | refine below_set ?_ GE308.out | refine below_set ?_ GE316.out) | exact HB.out)⟩⟩
     ·replace c30 := Bool.eq_false_iff.mpr c30
      subst c30
      have H1 : (if t311 = 0 then (taquinlaw22_RobotBack.j1 kj4 t309 ((t312.length : Int) != 0) a0_0 a0_1 a0_2 l0_3 l0_4 a1_0 l1_1) else (taquinlaw22_RobotBack.j1 kj4 t309 true a0_0 a0_1 a0_2 l0_3 l0_4 a1_0 l1_1)) = some r := by rw [if_neg (show ¬ (false = true) by decide)] at H; exact H
      clear H
      have H := H1
      clear H1
      by_cases c55 : t311 = 0
      ·rw [if_pos c55] at H
       have c55b0 : (t311 == 0) = true := beq_iff_eq.mpr c55
       have c55b1 : (t311 != 0) = false := bne_eq_false_iff_eq.mpr c55
       clear c55
       have H' := Aside0.mk H
       clear H
       have hnb56 := NB316_307.out
       have hnc56 := NB307_316.out
       have hnb57 := NB316_308.out
       have hnc57 := NB308_316.out
       have hcz58_0 : w25.cell? ⟨gb316, 0, none⟩ = some (.int .i64 0) := (blk_cell BK316.out 0).trans rfl
       have hcz58_1 : w25.cell? ⟨gb316, 1, none⟩ = some (.slice none 0 0) := (blk_cell BK316.out 1).trans rfl
       have hfz58_0 := blk_frozen BK316.out 0
       have hfz58_1 := blk_frozen BK316.out 1
       go_wp2
       go_meet
       case rel => exact ⟨_, (((t312.length : Int) != 0)), (by first | rfl | (simp; done) | (simp [*]; done)), H', ⟨by have := HJ4.out; first | omega | exact Nat.le_refl _⟩, ⟨by (with_reducible repeat (first | apply Kd.R_alloc | apply Kd.R_drewN | apply Kd.R_drew)); exact Kd.R_mono (Kd.R_far (p := ⟨gb316, 1, none⟩) (Kd.R_far (p := ⟨gb316, 0, none⟩) (Kd.R_types HO314.out BK316.out (by decide)) (fun _ hk => hk.2) (.int .i64 t311)) (fun _ hk => hk.2) (.slice Ao29 t312.length co29)) (fun _ hk => trivial)⟩, ⟨by (with_reducible repeat (first | refine blk_drewN ?_ _ | refine blk_drew ?_ | refine blk_alloc ?_ _)); refine blk_far ?_ NB307_316.out _; (with_reducible repeat (first | refine blk_drewN ?_ _ | refine blk_drew ?_ | refine blk_alloc ?_ _)); refine blk_far ?_ NB307_316.out _; (with_reducible repeat (first | refine blk_drewN ?_ _ | refine blk_drew ?_ | refine blk_alloc ?_ _)); exact BK307.out⟩, ⟨by (with_reducible repeat (first | refine blk_drewN ?_ _ | refine blk_drew ?_ | refine blk_alloc ?_ _)); refine blk_far ?_ NB308_316.out _; (with_reducible repeat (first | refine blk_drewN ?_ _ | refine blk_drew ?_ | refine blk_alloc ?_ _)); refine blk_far ?_ NB308_316.out _; (with_reducible repeat (first | refine blk_drewN ?_ _ | refine blk_drew ?_ | refine blk_alloc ?_ _)); exact BK308.out⟩, ⟨by (with_reducible repeat (first | refine blk_drewN ?_ _ | refine blk_drew ?_ | refine blk_alloc ?_ _)); refine blk_put (cs := #[.int .i64 t311, .slice none 0 0]) ?_ 1 _ rfl; (with_reducible repeat (first | refine blk_drewN ?_ _ | refine blk_drew ?_ | refine blk_alloc ?_ _)); refine blk_put (cs := #[.int .i64 0, .slice none 0 0]) ?_ 0 _ rfl; (with_reducible repeat (first | refine blk_drewN ?_ _ | refine blk_drew ?_ | refine blk_alloc ?_ _)); exact BK316.out⟩, ⟨by repeat (first | (with_reducible first | exact HB.out | apply below_alloc | apply pw_below_drewN | apply below_drew1 | refine below_set ?_ GE307.out | refine below_set ?_ GE308.out | refine below_set ?_ GE316.out) | exact HB.out)⟩⟩
      ·rw [if_neg c55] at H
       have c55b0 : (t311 == 0) = false := beq_eq_false_iff_ne.mpr c55
       have c55b1 : (t311 != 0) = true := bne_iff_ne.mpr c55
       have H' := Aside0.mk H
       clear H
       have hnb59 := NB316_307.out
       have hnc59 := NB307_316.out
       have hnb60 := NB316_308.out
       have hnc60 := NB308_316.out
       have hcz61_0 : w25.cell? ⟨gb316, 0, none⟩ = some (.int .i64 0) := (blk_cell BK316.out 0).trans rfl
       have hcz61_1 : w25.cell? ⟨gb316, 1, none⟩ = some (.slice none 0 0) := (blk_cell BK316.out 1).trans rfl
       have hfz61_0 := blk_frozen BK316.out 0
       have hfz61_1 := blk_frozen BK316.out 1
       go_wp2
       go_meet
       case rel => exact ⟨_, (true), (by first | rfl | (simp; done) | (simp [*]; done)), H', ⟨by have := HJ4.out; first | omega | exact Nat.le_refl _⟩, ⟨by (with_reducible repeat (first | apply Kd.R_alloc | apply Kd.R_drewN | apply Kd.R_drew)); exact Kd.R_mono (Kd.R_far (p := ⟨gb316, 1, none⟩) (Kd.R_far (p := ⟨gb316, 0, none⟩) (Kd.R_types HO314.out BK316.out (by decide)) (fun _ hk => hk.2) (.int .i64 t311)) (fun _ hk => hk.2) (.slice Ao29 t312.length co29)) (fun _ hk => trivial)⟩, ⟨by (with_reducible repeat (first | refine blk_drewN ?_ _ | refine blk_drew ?_ | refine blk_alloc ?_ _)); refine blk_far ?_ NB307_316.out _; (with_reducible repeat (first | refine blk_drewN ?_ _ | refine blk_drew ?_ | refine blk_alloc ?_ _)); refine blk_far ?_ NB307_316.out _; (with_reducible repeat (first | refine blk_drewN ?_ _ | refine blk_drew ?_ | refine blk_alloc ?_ _)); exact BK307.out⟩, ⟨by (with_reducible repeat (first | refine blk_drewN ?_ _ | refine blk_drew ?_ | refine blk_alloc ?_ _)); refine blk_far ?_ NB308_316.out _; (with_reducible repeat (first | refine blk_drewN ?_ _ | refine blk_drew ?_ | refine blk_alloc ?_ _)); refine blk_far ?_ NB308_316.out _; (with_reducible repeat (first | refine blk_drewN ?_ _ | refine blk_drew ?_ | refine blk_alloc ?_ _)); exact BK308.out⟩, ⟨by (with_reducible repeat (first | refine blk_drewN ?_ _ | refine blk_drew ?_ | refine blk_alloc ?_ _)); refine blk_put (cs := #[.int .i64 t311, .slice none 0 0]) ?_ 1 _ rfl; (with_reducible repeat (first | refine blk_drewN ?_ _ | refine blk_drew ?_ | refine blk_alloc ?_ _)); refine blk_put (cs := #[.int .i64 0, .slice none 0 0]) ?_ 0 _ rfl; (with_reducible repeat (first | refine blk_drewN ?_ _ | refine blk_drew ?_ | refine blk_alloc ?_ _)); exact BK316.out⟩, ⟨by repeat (first | (with_reducible first | exact HB.out | apply below_alloc | apply pw_below_drewN | apply below_drew1 | refine below_set ?_ GE307.out | refine below_set ?_ GE308.out | refine below_set ?_ GE316.out) | exact HB.out)⟩⟩
    case rest =>
     clear HC21
     try clear c1
     try clear c2
     try clear p2
     try clear c3
     try clear c4
     try clear c5
     try clear c6
     try clear c8
     try clear c9
     try clear c10
     try clear c11
     try clear c12
     try clear c15
     try clear c19
     try clear c22
     try clear c26
     try clear c27
     try clear c30
     try clear c32
     try clear c32b0
     try clear c32b1
     try clear c34
     try clear c35
     try clear c36
     try clear c39
     try clear c43
     try clear c44
     try clear c47
     try clear c51
     try clear c52
     try clear c55
     try clear c55b0
     try clear c55b1
     try clear c56
     try clear c57
     try clear c59
     try clear c60
     try clear hcz12_0
     try clear hcz12_1
     try clear hcz12_2
     try clear hcz12_3
     try clear hcz12_4
     try clear hcz13_0
     try clear hcz13_1
     try clear hcz16_0
     try clear hcz16_1
     try clear hcz16_2
     try clear hcz16_3
     try clear hcz16_4
     try clear hcz17_0
     try clear hcz17_1
     try clear hcz23_0
     try clear hcz23_1
     try clear hcz23_2
     try clear hcz23_3
     try clear hcz23_4
     try clear hcz28_0
     try clear hcz28_1
     try clear hcz37_0
     try clear hcz37_1
     try clear hcz40_0
     try clear hcz40_1
     try clear hcz40_2
     try clear hcz40_3
     try clear hcz40_4
     try clear hcz41_0
     try clear hcz41_1
     try clear hcz45_0
     try clear hcz45_1
     try clear hcz48_0
     try clear hcz48_1
     try clear hcz48_2
     try clear hcz48_3
     try clear hcz48_4
     try clear hcz49_0
     try clear hcz49_1
     try clear hcz53_0
     try clear hcz53_1
     try clear hcz58_0
     try clear hcz58_1
     try clear hcz61_0
     try clear hcz61_1
     try clear hfz12_0
     try clear hfz12_1
     try clear hfz12_2
     try clear hfz12_3
     try clear hfz12_4
     try clear hfz13_0
     try clear hfz13_1
     try clear hfz16_0
     try clear hfz16_1
     try clear hfz16_2
     try clear hfz16_3
     try clear hfz16_4
     try clear hfz17_0
     try clear hfz17_1
     try clear hfz23_0
     try clear hfz23_1
     try clear hfz23_2
     try clear hfz23_3
     try clear hfz23_4
     try clear hfz28_0
     try clear hfz28_1
     try clear hfz37_0
     try clear hfz37_1
     try clear hfz40_0
     try clear hfz40_1
     try clear hfz40_2
     try clear hfz40_3
     try clear hfz40_4
     try clear hfz41_0
     try clear hfz41_1
     try clear hfz45_0
     try clear hfz45_1
     try clear hfz48_0
     try clear hfz48_1
     try clear hfz48_2
     try clear hfz48_3
     try clear hfz48_4
     try clear hfz49_0
     try clear hfz49_1
     try clear hfz53_0
     try clear hfz53_1
     try clear hfz58_0
     try clear hfz58_1
     try clear hfz61_0
     try clear hfz61_1
     try clear p2
     obtain ⟨kq, x56_20, rfl, HA, HJ20, HO_317001, BK307, BK308, BK316, HB⟩ := hcut
     cases kq with
     | zero => exact absurd HA.out (by simp [taquinlaw22_RobotBack.j1])
     | succ kj20 =>
      have H := HA.out
      clear HA
      simp only [taquinlaw22_RobotBack.j1] at H
      by_cases c62 : x56_20 = true
      ·subst c62
       have H1 : (none) = some r := by rw [if_pos rfl] at H; exact H
       clear H
       have H := H1
       clear H1
       exact absurd H (by simp)
      ·replace c62 := Bool.eq_false_iff.mpr c62
       subst c62
       have H1 : ((robot_Right.f kj20 a0_0 a0_1 a0_2 l0_3 l0_4 a1_0 l1_1).bind fun t319 => (if t319 = true then ((robot_Bytes.f a1_0 l1_1).bind fun t320 => ((robot_Read.f kj20 a0_0 a0_1 a0_2 l0_3 l0_4 t320).bind fun bt321 => (if t309 = true then (if bt321.2.2 = true then ((taquinref22_Same.f kj20 bt321.1 bt321.2.1 a1_0 l1_1).bind fun t327 => (some t327)) else (none)) else (none)))) else (some t309))) = some r := by rw [if_neg (show ¬ (false = true) by decide)] at H; exact H
       clear H
       have H := H1
       clear H1
       replace H := Option.bind_eq_some_iff.mp H
       obtain ⟨t319, A630, H⟩ := H
       try dsimp only at H
       have A63 := Aside0.mk A630
       clear A630
       by_cases c64 : t319 = true
       ·subst c64
        have H1 : ((robot_Bytes.f a1_0 l1_1).bind fun t320 => ((robot_Read.f kj20 a0_0 a0_1 a0_2 l0_3 l0_4 t320).bind fun bt321 => (if t309 = true then (if bt321.2.2 = true then ((taquinref22_Same.f kj20 bt321.1 bt321.2.1 a1_0 l1_1).bind fun t327 => (some t327)) else (none)) else (none)))) = some r := by rw [if_pos rfl] at H; exact H
        clear H
        have H := H1
        clear H1
        replace H := Option.bind_eq_some_iff.mp H
        obtain ⟨t320, A650, H⟩ := H
        try dsimp only at H
        have A65 := Aside0.mk A650
        clear A650
        replace H := Option.bind_eq_some_iff.mp H
        obtain ⟨⟨t321, t322, t325⟩, A660, H⟩ := H
        try dsimp only at H
        have A66 := Aside0.mk A660
        clear A660
        by_cases c67 : t309 = true
        ·subst c67
         have H1 : (if t325 = true then ((taquinref22_Same.f kj20 t321 t322 a1_0 l1_1).bind fun t327 => (some t327)) else (none)) = some r := by rw [if_pos rfl] at H; exact H
         clear H
         have H := H1
         clear H1
         by_cases c68 : t325 = true
         ·subst c68
          have H1 : ((taquinref22_Same.f kj20 t321 t322 a1_0 l1_1).bind fun t327 => (some t327)) = some r := by rw [if_pos rfl] at H; exact H
          clear H
          have H := H1
          clear H1
          replace H := Option.bind_eq_some_iff.mp H
          obtain ⟨t327, A690, H⟩ := H
          try dsimp only at H
          have A69 := Aside0.mk A690
          clear A690
          obtain rfl := Option.some.inj H
          have hnb70 := NB307_308.out
          have hnc70 := NB308_307.out
          have hnb71 := NB307_316.out
          have hnc71 := NB316_307.out
          have hcz72_0 : wc.cell? ⟨gb307, 0, none⟩ = some (.int .i64 a0_0) := (blk_cell BK307.out 0).trans rfl
          have hcz72_1 : wc.cell? ⟨gb307, 1, none⟩ = some (.int .i64 a0_1) := (blk_cell BK307.out 1).trans rfl
          have hcz72_2 : wc.cell? ⟨gb307, 2, none⟩ = some (.int .i64 a0_2) := (blk_cell BK307.out 2).trans rfl
          have hcz72_3 : wc.cell? ⟨gb307, 3, none⟩ = some (.slice A0_3 l0_3.length c0_3) := (blk_cell BK307.out 3).trans rfl
          have hcz72_4 : wc.cell? ⟨gb307, 4, none⟩ = some (.slice A0_4 l0_4.length c0_4) := (blk_cell BK307.out 4).trans rfl
          have hfz72_0 := blk_frozen BK307.out 0
          have hfz72_1 := blk_frozen BK307.out 1
          have hfz72_2 := blk_frozen BK307.out 2
          have hfz72_3 := blk_frozen BK307.out 3
          have hfz72_4 := blk_frozen BK307.out 4
          have hnb73 := NB308_316.out
          have hnc73 := NB316_308.out
          have hcz74_0 : wc.cell? ⟨gb308, 0, none⟩ = some (.int .i64 a1_0) := (blk_cell BK308.out 0).trans rfl
          have hcz74_1 : wc.cell? ⟨gb308, 1, none⟩ = some (.slice A1_1 l1_1.length c1_1) := (blk_cell BK308.out 1).trans rfl
          have hfz74_0 := blk_frozen BK308.out 0
          have hfz74_1 := blk_frozen BK308.out 1
          try go_wp2_with (first | ((with_reducible refine gate_callee (f := 93) rfl ?_); refine goesL_ (some 59) rfl rfl Tryd.func93 (by kernel_rfl) rfl #[.agg #[.int .i64 a0_0, .int .i64 a0_1, .int .i64 a0_2, .slice A0_3 l0_3.length c0_3, .slice A0_4 l0_4.length c0_4], .agg #[.int .i64 a1_0, .slice A1_1 l1_1.length c1_1]] rfl (by (try simp only [List.map_toArray, List.map_cons, List.map_nil]); first | done | rfl | (simp only [List.length_drop, List.length_take]; rfl)) ?_; (with_reducible refine (robot_Right.calls kj20 a0_0 a0_1 a0_2 _ _ l0_3 _ _ l0_4 a1_0 _ _ l1_1 true _ ?side1 ?side2 ?side3 ?side4 ?side5 ?side6 A63.out).mono ?_); (case side1 => exact (Kd.C_below HR0_3.out HB.out)); (case side2 => exact HC0_3.out); (case side3 => exact (Kd.C_below HR0_4.out HB.out)); (case side4 => exact HC0_4.out); (case side5 => exact (Kd.C_below HR1_1.out HB.out)); (case side6 => exact HC1_1.out); rintro e w75 ⟨rfl, hb⟩; refine ⟨_, rfl, ?_⟩; have n0_ := Aside0.mk (Kd.R_below HO_317001.out hb); have n1_ := Aside0.mk (blk_below (g := gb307) (o := .cells #[.int .i64 a0_0, .int .i64 a0_1, .int .i64 a0_2, .slice A0_3 l0_3.length c0_3, .slice A0_4 l0_4.length c0_4] 91 (0, 0)) BK307.out hb); have n2_ := Aside0.mk (blk_below (g := gb308) (o := .cells #[.int .i64 a1_0, .slice A1_1 l1_1.length c1_1] 115 (0, 0)) BK308.out hb); have n3_ := Aside0.mk (blk_below (g := gb316) (o := .cells #[.int .i64 t311, .slice Ao29 t312.length co29] 115 (0, 0)) BK316.out hb); have n4_ := Aside0.mk (below_step HB.out hb); clear HO_317001; clear BK307; clear BK308; clear BK316; clear HB; have HO_317001 := n0_; have BK307 := n1_; have BK308 := n2_; have BK316 := n3_; have HB := n4_; clear n0_ n1_ n2_ n3_ n4_; (try clear hb); (try clear hb2); (try clear hk); (try clear hi)))
          have n0_ := Aside0.mk (Kd.R_drew HO_317001.out)
          have n1_ := Aside0.mk (blk_drew BK307.out)
          have n2_ := Aside0.mk (blk_drew BK308.out)
          have n3_ := Aside0.mk (blk_drew BK316.out)
          have n4_ := Aside0.mk (below_drew1 HB.out)
          clear HO_317001
          clear BK307
          clear BK308
          clear BK316
          clear HB
          have HO_317001 := n0_
          have BK307 := n1_
          have BK308 := n2_
          have BK316 := n3_
          have HB := n4_
          clear n0_ n1_ n2_ n3_ n4_
          refine start_ (n := 10) (S := fun w' => w'.cell? ⟨gb307, 0, none⟩ = some (.int .i64 a0_0) ∧ w'.cell? ⟨gb307, 1, none⟩ = some (.int .i64 a0_1) ∧ w'.cell? ⟨gb307, 2, none⟩ = some (.int .i64 a0_2) ∧ w'.cell? ⟨gb307, 3, none⟩ = some (.slice A0_3 l0_3.length c0_3) ∧ w'.cell? ⟨gb307, 4, none⟩ = some (.slice A0_4 l0_4.length c0_4) ∧ w'.cell? ⟨gb308, 0, none⟩ = some (.int .i64 a1_0) ∧ w'.cell? ⟨gb308, 1, none⟩ = some (.slice A1_1 l1_1.length c1_1)) (ds := []) #[ff,ff,ff,ff,ff,ff,ff,ff,ff,ff] (by kernel_rfl) rfl rfl ⟨(blk_cell BK307.out 0).trans rfl, (blk_cell BK307.out 1).trans rfl, (blk_cell BK307.out 2).trans rfl, (blk_cell BK307.out 3).trans rfl, (blk_cell BK307.out 4).trans rfl, (blk_cell BK308.out 0).trans rfl, (blk_cell BK308.out 1).trans rfl⟩ (fun hHeld => ?_); refine with_tabW taquinlaw22_RobotBack.tab9 taquinlaw22_RobotBack.bits9 (fun HT_ HW_ => ?_)
          generalize w75.drew = w76 at HO_317001 BK307 BK308 BK316 HB hHeld ⊢
          refine take_ (i := 0) (N := some 63) (v := ?_) (a' := ?_) #[tt,ff,ff,ff,ff,ff,ff,ff,ff,ff] rfl rfl (take_ofW HT_.out HW_.out (by kernel_rfl)) (fun _ _ _ h => h) (Or.inl ⟨by rfl, ?_⟩) hHeld ?_ ?_
          rotate_left
          ·rintro w' ⟨s0, s1, s2, s3, s4, s5, s6⟩
           go_simp
           with_reducible rfl
          rotate_left
          ·simp only [Act.put, List.setIfInBounds_toArray, List.set_cons_zero, List.set_cons_succ, i64_w, i32_w]
           rfl
          refine take_ (i := 1) (N := some 64) (v := ?_) (a' := ?_) #[tt,tt,ff,ff,ff,ff,ff,ff,ff,ff] rfl rfl (take_ofW HT_.out HW_.out (by kernel_rfl)) (fun _ _ _ h => h) (Or.inl ⟨by rfl, ?_⟩) hHeld ?_ ?_
          rotate_left
          ·rintro w' ⟨s0, s1, s2, s3, s4, s5, s6⟩
           go_simp
           with_reducible rfl
          rotate_left
          ·simp only [Act.put, List.setIfInBounds_toArray, List.set_cons_zero, List.set_cons_succ, i64_w, i32_w]
           rfl
          refine join_ (σ := Value × Nat) 2 #[tt,tt,tt,tt,tt,tt,tt,tt,ff,ff] (fun s_ => [(65, .string t320), (66, .tuple #[.agg #[.int .i64 t321, s_.1], .bool true]), (10, .pointer (some ⟨s_.2, 0, none⟩)), (62, .tuple #[.agg #[.int .i64 t321, s_.1], .bool true]), (67, .agg #[.int .i64 t321, s_.1]), (68, .bool true)]) (fun s_ w' => (w'.cell? ⟨gb307, 0, none⟩ = some (.int .i64 a0_0) ∧ w'.cell? ⟨gb307, 1, none⟩ = some (.int .i64 a0_1) ∧ w'.cell? ⟨gb307, 2, none⟩ = some (.int .i64 a0_2) ∧ w'.cell? ⟨gb307, 3, none⟩ = some (.slice A0_3 l0_3.length c0_3) ∧ w'.cell? ⟨gb307, 4, none⟩ = some (.slice A0_4 l0_4.length c0_4) ∧ w'.cell? ⟨gb308, 0, none⟩ = some (.int .i64 a1_0) ∧ w'.cell? ⟨gb308, 1, none⟩ = some (.slice A1_1 l1_1.length c1_1)) ∧ (Kd.R (Kd.int .i64) 3 w' w.heap.size (fun k_ => some k_ ≠ (.slice Ao29 t312.length co29 : Value).ownBlock) s_.1 t322) ∧ (Kd.R (Kd.int .i64) 3 w' w.heap.size (fun k_ => some k_ ≠ (s_.1 : Value).ownBlock) (.slice Ao29 t312.length co29) t312) ∧ (w'.heap[gb307]? = some (.cells #[.int .i64 a0_0, .int .i64 a0_1, .int .i64 a0_2, .slice A0_3 l0_3.length c0_3, .slice A0_4 l0_4.length c0_4] 91 (0, 0))) ∧ (w'.heap[gb308]? = some (.cells #[.int .i64 a1_0, .slice A1_1 l1_1.length c1_1] 115 (0, 0))) ∧ (w'.heap[gb316]? = some (.cells #[.int .i64 t311, .slice Ao29 t312.length co29] 115 (0, 0))) ∧ (w'.heap[s_.2]? = some (.cells #[.int .i64 0, .slice none 0 0] 115 (0, 0))) ∧ (w.heap.size ≤ s_.2) ∧ (w.heap.size ≤ s_.2) ∧ (gb307 ≠ s_.2) ∧ (s_.2 ≠ gb307) ∧ (gb308 ≠ s_.2) ∧ (s_.2 ≠ gb308) ∧ (gb316 ≠ s_.2) ∧ (s_.2 ≠ gb316) ∧ (Below w.heap.size w w')) ?_ ?_
          rotate_left
          ·intro hCont
           refine two_ (i := 2) (j := 7) (Ni := some 65) (Nj := some 10) #[tt,tt,tt,ff,ff,ff,ff,ff,ff,ff] #[tt,tt,ff,ff,ff,ff,ff,tt,ff,ff] rfl rfl rfl rfl (two_of HT_.out (by kernel_rfl)) (by decide) (by decide) (fun K hK => ?_) (fun K hK => ?_)
           ·skip
            refine goes_ Tryd.func92 (by kernel_rfl) rfl #[.agg #[.int .i64 a1_0, .slice A1_1 l1_1.length c1_1]] (by rfl) rfl rfl (by (try simp only [List.map_toArray, List.map_cons, List.map_nil]); first | done | rfl | (simp only [List.length_drop, List.length_take]; rfl)) ?_
            with_reducible refine (robot_Bytes.calls a1_0 _ _ l1_1 t320 _ ?side1 ?side2 A65.out (HT.out.below HB.out)).mono ?_
            (case side1 => exact (Kd.C_below HR1_1.out HB.out))
            (case side2 => exact HC1_1.out)
            rintro e w77 ⟨rfl, hb⟩
            refine ⟨_, rfl, ?_⟩
            have n0_ := Aside0.mk (Kd.R_below HO_317001.out hb)
            have n1_ := Aside0.mk (blk_below (g := gb307) (o := .cells #[.int .i64 a0_0, .int .i64 a0_1, .int .i64 a0_2, .slice A0_3 l0_3.length c0_3, .slice A0_4 l0_4.length c0_4] 91 (0, 0)) BK307.out hb)
            have n2_ := Aside0.mk (blk_below (g := gb308) (o := .cells #[.int .i64 a1_0, .slice A1_1 l1_1.length c1_1] 115 (0, 0)) BK308.out hb)
            have n3_ := Aside0.mk (blk_below (g := gb316) (o := .cells #[.int .i64 t311, .slice Ao29 t312.length co29] 115 (0, 0)) BK316.out hb)
            have n4_ := Aside0.mk (below_step HB.out hb)
            clear HO_317001
            clear BK307
            clear BK308
            clear BK316
            clear HB
            have HO_317001 := n0_
            have BK307 := n1_
            have BK308 := n2_
            have BK316 := n3_
            have HB := n4_
            clear n0_ n1_ n2_ n3_ n4_
            (try clear hb)
            (try clear hb2)
            (try clear hk)
            (try clear hi)
            refine hK.out _ _ ⟨(blk_cell BK307.out 0).trans rfl, (blk_cell BK307.out 1).trans rfl, (blk_cell BK307.out 2).trans rfl, (blk_cell BK307.out 3).trans rfl, (blk_cell BK307.out 4).trans rfl, (blk_cell BK308.out 0).trans rfl, (blk_cell BK308.out 1).trans rfl⟩ (fun hHeld => ?_)
            clear hK K
            refine norm_ (a' := ?_) ?_ ?_
            rotate_left
            ·show Act.put _ (some 65) _ = _
             simp only [Act.put, List.setIfInBounds_toArray, List.set_cons_zero, List.set_cons_succ, i64_w, i32_w]
             rfl
            refine two_ (i := 3) (j := 7) (Ni := some 66) (Nj := some 10) #[tt,tt,tt,tt,ff,ff,ff,ff,ff,ff] #[tt,tt,tt,ff,ff,ff,ff,tt,ff,ff] rfl rfl rfl rfl (two_of HT_.out (by kernel_rfl)) (by decide) (by decide) (fun K hK => ?_) (fun K hK => ?_)
            ·skip
             refine goes_ Tryd.func91 (by kernel_rfl) rfl #[.agg #[.int .i64 a0_0, .int .i64 a0_1, .int .i64 a0_2, .slice A0_3 l0_3.length c0_3, .slice A0_4 l0_4.length c0_4], .string t320] (by rfl) rfl rfl (by (try simp only [List.map_toArray, List.map_cons, List.map_nil]); first | done | rfl | (simp only [List.length_drop, List.length_take]; rfl)) ?_
             with_reducible refine (robot_Read.calls kj20 a0_0 a0_1 a0_2 _ _ l0_3 _ _ l0_4 t320 t321 t322 true _ ?side1 ?side2 ?side3 ?side4 A66.out (HT.out.below HB.out)).mono ?_
             (case side1 => exact (Kd.C_below HR0_3.out HB.out))
             (case side2 => exact HC0_3.out)
             (case side3 => exact (Kd.C_below HR0_4.out HB.out))
             (case side4 => exact HC0_4.out)
             rintro e w78 ⟨v323, rfl, ho0, hb⟩
             refine ⟨_, rfl, ?_⟩
             have n0_ := Aside0.mk (Kd.R_elder' HO_317001.out (Kd.R_base ho0) hb)
             have n1_ := Aside0.mk (Kd.R_lower (Kd.R_new' ho0 (Kd.R_lt HO_317001.out)) (below_size HB.out))
             have n2_ := Aside0.mk (blk_below (g := gb307) (o := .cells #[.int .i64 a0_0, .int .i64 a0_1, .int .i64 a0_2, .slice A0_3 l0_3.length c0_3, .slice A0_4 l0_4.length c0_4] 91 (0, 0)) BK307.out hb)
             have n3_ := Aside0.mk (blk_below (g := gb308) (o := .cells #[.int .i64 a1_0, .slice A1_1 l1_1.length c1_1] 115 (0, 0)) BK308.out hb)
             have n4_ := Aside0.mk (blk_below (g := gb316) (o := .cells #[.int .i64 t311, .slice Ao29 t312.length co29] 115 (0, 0)) BK316.out hb)
             have n5_ := Aside0.mk (below_step HB.out hb)
             clear HO_317001
             clear BK307
             clear BK308
             clear BK316
             clear HB
             have HO_317001 := n0_
             have HO324 := n1_
             have BK307 := n2_
             have BK308 := n3_
             have BK316 := n4_
             have HB := n5_
             clear n0_ n1_ n2_ n3_ n4_ n5_
             (try clear hb)
             (try clear hb2)
             (try clear hk)
             (try clear hi)
             (try clear ho0)
             refine hK.out _ _ ⟨(blk_cell BK307.out 0).trans rfl, (blk_cell BK307.out 1).trans rfl, (blk_cell BK307.out 2).trans rfl, (blk_cell BK307.out 3).trans rfl, (blk_cell BK307.out 4).trans rfl, (blk_cell BK308.out 0).trans rfl, (blk_cell BK308.out 1).trans rfl⟩ (fun hHeld => ?_)
             clear hK K
             refine norm_ (a' := ?_) ?_ ?_
             rotate_left
             ·show Act.put _ (some 66) _ = _
              simp only [Act.put, List.setIfInBounds_toArray, List.set_cons_zero, List.set_cons_succ, i64_w, i32_w]
              rfl
             refine pure_ (i := 4) (N := some 62) (v := ?_) (a' := ?_) #[tt,tt,tt,tt,tt,ff,ff,ff,ff,ff] rfl rfl (any_of HT_.out (by kernel_rfl)) (fun _ _ _ h => h) (Or.inl ⟨by rfl, ?_⟩) ?_ ?_
             rotate_left
             ·intro w'
              go_simp
              with_reducible rfl
             rotate_left
             ·simp only [Act.put, List.setIfInBounds_toArray, List.set_cons_zero, List.set_cons_succ, i64_w, i32_w]
              rfl
             refine pure_ (i := 5) (N := some 67) (v := ?_) (a' := ?_) #[tt,tt,tt,tt,tt,tt,ff,ff,ff,ff] rfl rfl (any_of HT_.out (by kernel_rfl)) (fun _ _ _ h => h) (Or.inl ⟨by rfl, ?_⟩) ?_ ?_
             rotate_left
             ·intro w'
              go_simp
              with_reducible rfl
             rotate_left
             ·simp only [Act.put, List.setIfInBounds_toArray, List.set_cons_zero, List.set_cons_succ, i64_w, i32_w]
              rfl
             refine pure_ (i := 6) (N := some 68) (v := ?_) (a' := ?_) #[tt,tt,tt,tt,tt,tt,tt,ff,ff,ff] rfl rfl (any_of HT_.out (by kernel_rfl)) (fun _ _ _ h => h) (Or.inl ⟨by rfl, ?_⟩) ?_ ?_
             rotate_left
             ·intro w'
              go_simp
              with_reducible rfl
             rotate_left
             ·simp only [Act.put, List.setIfInBounds_toArray, List.set_cons_zero, List.set_cons_succ, i64_w, i32_w]
              rfl
             refine one_ (i := 7) (N := some 10) #[tt,tt,tt,tt,tt,tt,tt,tt,ff,ff] rfl rfl (one_of HT_.out (by kernel_rfl)) (by decide) (fun K hK => ?_)
             refine box_step ?hg (N := 10) ?hd (cs := #[.int .i64 0, .slice none 0 0]) (t := 115) ?hr ?_; (case hd => rfl); (case hg => rfl); (case hr => first | (go_simp; done) | (go_simp; rfl))
             intro gb326 hg w79 hbox hb
             have n0_ := Aside0.mk (Kd.R_below HO_317001.out hb)
             have n1_ := Aside0.mk (Kd.R_below HO324.out hb)
             have n2_ := Aside0.mk (blk_below (g := gb307) (o := .cells #[.int .i64 a0_0, .int .i64 a0_1, .int .i64 a0_2, .slice A0_3 l0_3.length c0_3, .slice A0_4 l0_4.length c0_4] 91 (0, 0)) BK307.out hb)
             have n3_ := Aside0.mk (blk_below (g := gb308) (o := .cells #[.int .i64 a1_0, .slice A1_1 l1_1.length c1_1] 115 (0, 0)) BK308.out hb)
             have n4_ := Aside0.mk (blk_below (g := gb316) (o := .cells #[.int .i64 t311, .slice Ao29 t312.length co29] 115 (0, 0)) BK316.out hb)
             have n5_ := Aside0.mk (below_step HB.out hb)
             have n6_ := Aside0.mk (hbox)
             have n7_ := Aside0.mk ((by rw [hg]; exact (below_size HB.out) : w.heap.size ≤ gb326))
             have n8_ := Aside0.mk ((by rw [hg]; exact (below_size HB.out) : w.heap.size ≤ gb326))
             have n9_ := Aside0.mk ((by rw [hg]; exact Nat.ne_of_lt (blk_lt (g := gb307) (o := .cells #[.int .i64 a0_0, .int .i64 a0_1, .int .i64 a0_2, .slice A0_3 l0_3.length c0_3, .slice A0_4 l0_4.length c0_4] 91 (0, 0)) BK307.out) : gb307 ≠ gb326))
             have n10_ := Aside0.mk ((by rw [hg]; exact Nat.ne_of_gt (blk_lt (g := gb307) (o := .cells #[.int .i64 a0_0, .int .i64 a0_1, .int .i64 a0_2, .slice A0_3 l0_3.length c0_3, .slice A0_4 l0_4.length c0_4] 91 (0, 0)) BK307.out) : gb326 ≠ gb307))
             have n11_ := Aside0.mk ((by rw [hg]; exact Nat.ne_of_lt (blk_lt (g := gb308) (o := .cells #[.int .i64 a1_0, .slice A1_1 l1_1.length c1_1] 115 (0, 0)) BK308.out) : gb308 ≠ gb326))
             have n12_ := Aside0.mk ((by rw [hg]; exact Nat.ne_of_gt (blk_lt (g := gb308) (o := .cells #[.int .i64 a1_0, .slice A1_1 l1_1.length c1_1] 115 (0, 0)) BK308.out) : gb326 ≠ gb308))
             have n13_ := Aside0.mk ((by rw [hg]; exact Nat.ne_of_lt (blk_lt (g := gb316) (o := .cells #[.int .i64 t311, .slice Ao29 t312.length co29] 115 (0, 0)) BK316.out) : gb316 ≠ gb326))
             have n14_ := Aside0.mk ((by rw [hg]; exact Nat.ne_of_gt (blk_lt (g := gb316) (o := .cells #[.int .i64 t311, .slice Ao29 t312.length co29] 115 (0, 0)) BK316.out) : gb326 ≠ gb316))
             clear HO_317001
             clear HO324
             clear BK307
             clear BK308
             clear BK316
             clear HB
             have HO_317001 := n0_
             have HO324 := n1_
             have BK307 := n2_
             have BK308 := n3_
             have BK316 := n4_
             have HB := n5_
             have BK326 := n6_
             have GW326 := n7_
             have GE326 := n8_
             have NB307_326 := n9_
             have NB326_307 := n10_
             have NB308_326 := n11_
             have NB326_308 := n12_
             have NB316_326 := n13_
             have NB326_316 := n14_
             clear n0_ n1_ n2_ n3_ n4_ n5_ n6_ n7_ n8_ n9_ n10_ n11_ n12_ n13_ n14_
             clear hb hbox hg
             refine hK.out _ _ ⟨(blk_cell BK307.out 0).trans rfl, (blk_cell BK307.out 1).trans rfl, (blk_cell BK307.out 2).trans rfl, (blk_cell BK307.out 3).trans rfl, (blk_cell BK307.out 4).trans rfl, (blk_cell BK308.out 0).trans rfl, (blk_cell BK308.out 1).trans rfl⟩ (fun hHeld => ?_)
             clear hK K
             refine norm_ (a' := ?_) ?_ ?_
             rotate_left
             ·show Act.put _ (some 10) _ = _
              simp only [Act.put, List.setIfInBounds_toArray, List.set_cons_zero, List.set_cons_succ, i64_w, i32_w]
              rfl
             exact norm_ (by simp only [putAll, Act.put, List.setIfInBounds_toArray, List.set_cons_zero, List.set_cons_succ]) (hCont (v323, gb326) _ ⟨hHeld, (by (with_reducible repeat (first | apply Kd.R_alloc | apply Kd.R_drewN | apply Kd.R_drew)); exact Kd.R_mono HO324.out (fun _ hk => hk.2)), (by (with_reducible repeat (first | apply Kd.R_alloc | apply Kd.R_drewN | apply Kd.R_drew)); exact Kd.R_mono HO_317001.out (fun _ hk => hk.2)), BK307.out, BK308.out, BK316.out, BK326.out, GW326.out, GE326.out, NB307_326.out, NB326_307.out, NB308_326.out, NB326_308.out, NB316_326.out, NB326_316.out, HB.out⟩)
            ·skip
             refine box_step ?hg (N := 10) ?hd (cs := #[.int .i64 0, .slice none 0 0]) (t := 115) ?hr ?_; (case hd => rfl); (case hg => rfl); (case hr => first | (go_simp; done) | (go_simp; rfl))
             intro gb326 hg w78 hbox hb
             have n0_ := Aside0.mk (Kd.R_below HO_317001.out hb)
             have n1_ := Aside0.mk (blk_below (g := gb307) (o := .cells #[.int .i64 a0_0, .int .i64 a0_1, .int .i64 a0_2, .slice A0_3 l0_3.length c0_3, .slice A0_4 l0_4.length c0_4] 91 (0, 0)) BK307.out hb)
             have n2_ := Aside0.mk (blk_below (g := gb308) (o := .cells #[.int .i64 a1_0, .slice A1_1 l1_1.length c1_1] 115 (0, 0)) BK308.out hb)
             have n3_ := Aside0.mk (blk_below (g := gb316) (o := .cells #[.int .i64 t311, .slice Ao29 t312.length co29] 115 (0, 0)) BK316.out hb)
             have n4_ := Aside0.mk (below_step HB.out hb)
             have n5_ := Aside0.mk (hbox)
             have n6_ := Aside0.mk ((by rw [hg]; exact (below_size HB.out) : w.heap.size ≤ gb326))
             have n7_ := Aside0.mk ((by rw [hg]; exact (below_size HB.out) : w.heap.size ≤ gb326))
             have n8_ := Aside0.mk ((by rw [hg]; exact Nat.ne_of_lt (blk_lt (g := gb307) (o := .cells #[.int .i64 a0_0, .int .i64 a0_1, .int .i64 a0_2, .slice A0_3 l0_3.length c0_3, .slice A0_4 l0_4.length c0_4] 91 (0, 0)) BK307.out) : gb307 ≠ gb326))
             have n9_ := Aside0.mk ((by rw [hg]; exact Nat.ne_of_gt (blk_lt (g := gb307) (o := .cells #[.int .i64 a0_0, .int .i64 a0_1, .int .i64 a0_2, .slice A0_3 l0_3.length c0_3, .slice A0_4 l0_4.length c0_4] 91 (0, 0)) BK307.out) : gb326 ≠ gb307))
             have n10_ := Aside0.mk ((by rw [hg]; exact Nat.ne_of_lt (blk_lt (g := gb308) (o := .cells #[.int .i64 a1_0, .slice A1_1 l1_1.length c1_1] 115 (0, 0)) BK308.out) : gb308 ≠ gb326))
             have n11_ := Aside0.mk ((by rw [hg]; exact Nat.ne_of_gt (blk_lt (g := gb308) (o := .cells #[.int .i64 a1_0, .slice A1_1 l1_1.length c1_1] 115 (0, 0)) BK308.out) : gb326 ≠ gb308))
             have n12_ := Aside0.mk ((by rw [hg]; exact Nat.ne_of_lt (blk_lt (g := gb316) (o := .cells #[.int .i64 t311, .slice Ao29 t312.length co29] 115 (0, 0)) BK316.out) : gb316 ≠ gb326))
             have n13_ := Aside0.mk ((by rw [hg]; exact Nat.ne_of_gt (blk_lt (g := gb316) (o := .cells #[.int .i64 t311, .slice Ao29 t312.length co29] 115 (0, 0)) BK316.out) : gb326 ≠ gb316))
             clear HO_317001
             clear BK307
             clear BK308
             clear BK316
             clear HB
             have HO_317001 := n0_
             have BK307 := n1_
             have BK308 := n2_
             have BK316 := n3_
             have HB := n4_
             have BK326 := n5_
             have GW326 := n6_
             have GE326 := n7_
             have NB307_326 := n8_
             have NB326_307 := n9_
             have NB308_326 := n10_
             have NB326_308 := n11_
             have NB316_326 := n12_
             have NB326_316 := n13_
             clear n0_ n1_ n2_ n3_ n4_ n5_ n6_ n7_ n8_ n9_ n10_ n11_ n12_ n13_
             clear hb hbox hg
             refine hK.out _ _ ⟨(blk_cell BK307.out 0).trans rfl, (blk_cell BK307.out 1).trans rfl, (blk_cell BK307.out 2).trans rfl, (blk_cell BK307.out 3).trans rfl, (blk_cell BK307.out 4).trans rfl, (blk_cell BK308.out 0).trans rfl, (blk_cell BK308.out 1).trans rfl⟩ (fun hHeld => ?_)
             clear hK K
             refine norm_ (a' := ?_) ?_ ?_
             rotate_left
             ·show Act.put _ (some 10) _ = _
              simp only [Act.put, List.setIfInBounds_toArray, List.set_cons_zero, List.set_cons_succ, i64_w, i32_w]
              rfl
             refine one_ (i := 3) (N := some 66) #[tt,tt,tt,tt,ff,ff,ff,tt,ff,ff] rfl rfl (one_of HT_.out (by kernel_rfl)) (by decide) (fun K hK => ?_)
             refine goes_ Tryd.func91 (by kernel_rfl) rfl #[.agg #[.int .i64 a0_0, .int .i64 a0_1, .int .i64 a0_2, .slice A0_3 l0_3.length c0_3, .slice A0_4 l0_4.length c0_4], .string t320] (by rfl) rfl rfl (by (try simp only [List.map_toArray, List.map_cons, List.map_nil]); first | done | rfl | (simp only [List.length_drop, List.length_take]; rfl)) ?_
             with_reducible refine (robot_Read.calls kj20 a0_0 a0_1 a0_2 _ _ l0_3 _ _ l0_4 t320 t321 t322 true _ ?side1 ?side2 ?side3 ?side4 A66.out (HT.out.below HB.out)).mono ?_
             (case side1 => exact (Kd.C_below HR0_3.out HB.out))
             (case side2 => exact HC0_3.out)
             (case side3 => exact (Kd.C_below HR0_4.out HB.out))
             (case side4 => exact HC0_4.out)
             rintro e w79 ⟨v323, rfl, ho0, hb⟩
             refine ⟨_, rfl, ?_⟩
             have n0_ := Aside0.mk (Kd.R_elder' HO_317001.out (Kd.R_base ho0) hb)
             have n1_ := Aside0.mk (Kd.R_lower (Kd.R_new' ho0 (Kd.R_lt HO_317001.out)) (below_size HB.out))
             have n2_ := Aside0.mk (blk_below (g := gb307) (o := .cells #[.int .i64 a0_0, .int .i64 a0_1, .int .i64 a0_2, .slice A0_3 l0_3.length c0_3, .slice A0_4 l0_4.length c0_4] 91 (0, 0)) BK307.out hb)
             have n3_ := Aside0.mk (blk_below (g := gb308) (o := .cells #[.int .i64 a1_0, .slice A1_1 l1_1.length c1_1] 115 (0, 0)) BK308.out hb)
             have n4_ := Aside0.mk (blk_below (g := gb316) (o := .cells #[.int .i64 t311, .slice Ao29 t312.length co29] 115 (0, 0)) BK316.out hb)
             have n5_ := Aside0.mk (blk_below (g := gb326) (o := .cells #[.int .i64 0, .slice none 0 0] 115 (0, 0)) BK326.out hb)
             have n6_ := Aside0.mk (below_step HB.out hb)
             clear HO_317001
             clear BK307
             clear BK308
             clear BK316
             clear BK326
             clear HB
             have HO_317001 := n0_
             have HO324 := n1_
             have BK307 := n2_
             have BK308 := n3_
             have BK316 := n4_
             have BK326 := n5_
             have HB := n6_
             clear n0_ n1_ n2_ n3_ n4_ n5_ n6_
             (try clear hb)
             (try clear hb2)
             (try clear hk)
             (try clear hi)
             (try clear ho0)
             refine hK.out _ _ ⟨(blk_cell BK307.out 0).trans rfl, (blk_cell BK307.out 1).trans rfl, (blk_cell BK307.out 2).trans rfl, (blk_cell BK307.out 3).trans rfl, (blk_cell BK307.out 4).trans rfl, (blk_cell BK308.out 0).trans rfl, (blk_cell BK308.out 1).trans rfl⟩ (fun hHeld => ?_)
             clear hK K
             refine norm_ (a' := ?_) ?_ ?_
             rotate_left
             ·show Act.put _ (some 66) _ = _
              simp only [Act.put, List.setIfInBounds_toArray, List.set_cons_zero, List.set_cons_succ, i64_w, i32_w]
              rfl
             refine pure_ (i := 4) (N := some 62) (v := ?_) (a' := ?_) #[tt,tt,tt,tt,tt,ff,ff,tt,ff,ff] rfl rfl (any_of HT_.out (by kernel_rfl)) (fun _ _ _ h => h) (Or.inl ⟨by rfl, ?_⟩) ?_ ?_
             rotate_left
             ·intro w'
              go_simp
              with_reducible rfl
             rotate_left
             ·simp only [Act.put, List.setIfInBounds_toArray, List.set_cons_zero, List.set_cons_succ, i64_w, i32_w]
              rfl
             refine pure_ (i := 5) (N := some 67) (v := ?_) (a' := ?_) #[tt,tt,tt,tt,tt,tt,ff,tt,ff,ff] rfl rfl (any_of HT_.out (by kernel_rfl)) (fun _ _ _ h => h) (Or.inl ⟨by rfl, ?_⟩) ?_ ?_
             rotate_left
             ·intro w'
              go_simp
              with_reducible rfl
             rotate_left
             ·simp only [Act.put, List.setIfInBounds_toArray, List.set_cons_zero, List.set_cons_succ, i64_w, i32_w]
              rfl
             refine pure_ (i := 6) (N := some 68) (v := ?_) (a' := ?_) #[tt,tt,tt,tt,tt,tt,tt,tt,ff,ff] rfl rfl (any_of HT_.out (by kernel_rfl)) (fun _ _ _ h => h) (Or.inl ⟨by rfl, ?_⟩) ?_ ?_
             rotate_left
             ·intro w'
              go_simp
              with_reducible rfl
             rotate_left
             ·simp only [Act.put, List.setIfInBounds_toArray, List.set_cons_zero, List.set_cons_succ, i64_w, i32_w]
              rfl
             exact norm_ (by simp only [putAll, Act.put, List.setIfInBounds_toArray, List.set_cons_zero, List.set_cons_succ]) (hCont (v323, gb326) _ ⟨hHeld, (by (with_reducible repeat (first | apply Kd.R_alloc | apply Kd.R_drewN | apply Kd.R_drew)); exact Kd.R_mono HO324.out (fun _ hk => hk.2)), (by (with_reducible repeat (first | apply Kd.R_alloc | apply Kd.R_drewN | apply Kd.R_drew)); exact Kd.R_mono HO_317001.out (fun _ hk => hk.2)), BK307.out, BK308.out, BK316.out, BK326.out, GW326.out, GE326.out, NB307_326.out, NB326_307.out, NB308_326.out, NB326_308.out, NB316_326.out, NB326_316.out, HB.out⟩)
           ·skip
            refine box_step ?hg (N := 10) ?hd (cs := #[.int .i64 0, .slice none 0 0]) (t := 115) ?hr ?_; (case hd => rfl); (case hg => rfl); (case hr => first | (go_simp; done) | (go_simp; rfl))
            intro gb326 hg w77 hbox hb
            have n0_ := Aside0.mk (Kd.R_below HO_317001.out hb)
            have n1_ := Aside0.mk (blk_below (g := gb307) (o := .cells #[.int .i64 a0_0, .int .i64 a0_1, .int .i64 a0_2, .slice A0_3 l0_3.length c0_3, .slice A0_4 l0_4.length c0_4] 91 (0, 0)) BK307.out hb)
            have n2_ := Aside0.mk (blk_below (g := gb308) (o := .cells #[.int .i64 a1_0, .slice A1_1 l1_1.length c1_1] 115 (0, 0)) BK308.out hb)
            have n3_ := Aside0.mk (blk_below (g := gb316) (o := .cells #[.int .i64 t311, .slice Ao29 t312.length co29] 115 (0, 0)) BK316.out hb)
            have n4_ := Aside0.mk (below_step HB.out hb)
            have n5_ := Aside0.mk (hbox)
            have n6_ := Aside0.mk ((by rw [hg]; exact (below_size HB.out) : w.heap.size ≤ gb326))
            have n7_ := Aside0.mk ((by rw [hg]; exact (below_size HB.out) : w.heap.size ≤ gb326))
            have n8_ := Aside0.mk ((by rw [hg]; exact Nat.ne_of_lt (blk_lt (g := gb307) (o := .cells #[.int .i64 a0_0, .int .i64 a0_1, .int .i64 a0_2, .slice A0_3 l0_3.length c0_3, .slice A0_4 l0_4.length c0_4] 91 (0, 0)) BK307.out) : gb307 ≠ gb326))
            have n9_ := Aside0.mk ((by rw [hg]; exact Nat.ne_of_gt (blk_lt (g := gb307) (o := .cells #[.int .i64 a0_0, .int .i64 a0_1, .int .i64 a0_2, .slice A0_3 l0_3.length c0_3, .slice A0_4 l0_4.length c0_4] 91 (0, 0)) BK307.out) : gb326 ≠ gb307))
            have n10_ := Aside0.mk ((by rw [hg]; exact Nat.ne_of_lt (blk_lt (g := gb308) (o := .cells #[.int .i64 a1_0, .slice A1_1 l1_1.length c1_1] 115 (0, 0)) BK308.out) : gb308 ≠ gb326))
            have n11_ := Aside0.mk ((by rw [hg]; exact Nat.ne_of_gt (blk_lt (g := gb308) (o := .cells #[.int .i64 a1_0, .slice A1_1 l1_1.length c1_1] 115 (0, 0)) BK308.out) : gb326 ≠ gb308))
            have n12_ := Aside0.mk ((by rw [hg]; exact Nat.ne_of_lt (blk_lt (g := gb316) (o := .cells #[.int .i64 t311, .slice Ao29 t312.length co29] 115 (0, 0)) BK316.out) : gb316 ≠ gb326))
            have n13_ := Aside0.mk ((by rw [hg]; exact Nat.ne_of_gt (blk_lt (g := gb316) (o := .cells #[.int .i64 t311, .slice Ao29 t312.length co29] 115 (0, 0)) BK316.out) : gb326 ≠ gb316))
            clear HO_317001
            clear BK307
            clear BK308
            clear BK316
            clear HB
            have HO_317001 := n0_
            have BK307 := n1_
            have BK308 := n2_
            have BK316 := n3_
            have HB := n4_
            have BK326 := n5_
            have GW326 := n6_
            have GE326 := n7_
            have NB307_326 := n8_
            have NB326_307 := n9_
            have NB308_326 := n10_
            have NB326_308 := n11_
            have NB316_326 := n12_
            have NB326_316 := n13_
            clear n0_ n1_ n2_ n3_ n4_ n5_ n6_ n7_ n8_ n9_ n10_ n11_ n12_ n13_
            clear hb hbox hg
            refine hK.out _ _ ⟨(blk_cell BK307.out 0).trans rfl, (blk_cell BK307.out 1).trans rfl, (blk_cell BK307.out 2).trans rfl, (blk_cell BK307.out 3).trans rfl, (blk_cell BK307.out 4).trans rfl, (blk_cell BK308.out 0).trans rfl, (blk_cell BK308.out 1).trans rfl⟩ (fun hHeld => ?_)
            clear hK K
            refine norm_ (a' := ?_) ?_ ?_
            rotate_left
            ·show Act.put _ (some 10) _ = _
             simp only [Act.put, List.setIfInBounds_toArray, List.set_cons_zero, List.set_cons_succ, i64_w, i32_w]
             rfl
            refine one_ (i := 2) (N := some 65) #[tt,tt,tt,ff,ff,ff,ff,tt,ff,ff] rfl rfl (one_of HT_.out (by kernel_rfl)) (by decide) (fun K hK => ?_)
            refine goes_ Tryd.func92 (by kernel_rfl) rfl #[.agg #[.int .i64 a1_0, .slice A1_1 l1_1.length c1_1]] (by rfl) rfl rfl (by (try simp only [List.map_toArray, List.map_cons, List.map_nil]); first | done | rfl | (simp only [List.length_drop, List.length_take]; rfl)) ?_
            with_reducible refine (robot_Bytes.calls a1_0 _ _ l1_1 t320 _ ?side1 ?side2 A65.out (HT.out.below HB.out)).mono ?_
            (case side1 => exact (Kd.C_below HR1_1.out HB.out))
            (case side2 => exact HC1_1.out)
            rintro e w78 ⟨rfl, hb⟩
            refine ⟨_, rfl, ?_⟩
            have n0_ := Aside0.mk (Kd.R_below HO_317001.out hb)
            have n1_ := Aside0.mk (blk_below (g := gb307) (o := .cells #[.int .i64 a0_0, .int .i64 a0_1, .int .i64 a0_2, .slice A0_3 l0_3.length c0_3, .slice A0_4 l0_4.length c0_4] 91 (0, 0)) BK307.out hb)
            have n2_ := Aside0.mk (blk_below (g := gb308) (o := .cells #[.int .i64 a1_0, .slice A1_1 l1_1.length c1_1] 115 (0, 0)) BK308.out hb)
            have n3_ := Aside0.mk (blk_below (g := gb316) (o := .cells #[.int .i64 t311, .slice Ao29 t312.length co29] 115 (0, 0)) BK316.out hb)
            have n4_ := Aside0.mk (blk_below (g := gb326) (o := .cells #[.int .i64 0, .slice none 0 0] 115 (0, 0)) BK326.out hb)
            have n5_ := Aside0.mk (below_step HB.out hb)
            clear HO_317001
            clear BK307
            clear BK308
            clear BK316
            clear BK326
            clear HB
            have HO_317001 := n0_
            have BK307 := n1_
            have BK308 := n2_
            have BK316 := n3_
            have BK326 := n4_
            have HB := n5_
            clear n0_ n1_ n2_ n3_ n4_ n5_
            (try clear hb)
            (try clear hb2)
            (try clear hk)
            (try clear hi)
            refine hK.out _ _ ⟨(blk_cell BK307.out 0).trans rfl, (blk_cell BK307.out 1).trans rfl, (blk_cell BK307.out 2).trans rfl, (blk_cell BK307.out 3).trans rfl, (blk_cell BK307.out 4).trans rfl, (blk_cell BK308.out 0).trans rfl, (blk_cell BK308.out 1).trans rfl⟩ (fun hHeld => ?_)
            clear hK K
            refine norm_ (a' := ?_) ?_ ?_
            rotate_left
            ·show Act.put _ (some 65) _ = _
             simp only [Act.put, List.setIfInBounds_toArray, List.set_cons_zero, List.set_cons_succ, i64_w, i32_w]
             rfl
            refine one_ (i := 3) (N := some 66) #[tt,tt,tt,tt,ff,ff,ff,tt,ff,ff] rfl rfl (one_of HT_.out (by kernel_rfl)) (by decide) (fun K hK => ?_)
            refine goes_ Tryd.func91 (by kernel_rfl) rfl #[.agg #[.int .i64 a0_0, .int .i64 a0_1, .int .i64 a0_2, .slice A0_3 l0_3.length c0_3, .slice A0_4 l0_4.length c0_4], .string t320] (by rfl) rfl rfl (by (try simp only [List.map_toArray, List.map_cons, List.map_nil]); first | done | rfl | (simp only [List.length_drop, List.length_take]; rfl)) ?_
            with_reducible refine (robot_Read.calls kj20 a0_0 a0_1 a0_2 _ _ l0_3 _ _ l0_4 t320 t321 t322 true _ ?side1 ?side2 ?side3 ?side4 A66.out (HT.out.below HB.out)).mono ?_
            (case side1 => exact (Kd.C_below HR0_3.out HB.out))
            (case side2 => exact HC0_3.out)
            (case side3 => exact (Kd.C_below HR0_4.out HB.out))
            (case side4 => exact HC0_4.out)
            rintro e w79 ⟨v323, rfl, ho0, hb⟩
            refine ⟨_, rfl, ?_⟩
            have n0_ := Aside0.mk (Kd.R_elder' HO_317001.out (Kd.R_base ho0) hb)
            have n1_ := Aside0.mk (Kd.R_lower (Kd.R_new' ho0 (Kd.R_lt HO_317001.out)) (below_size HB.out))
            have n2_ := Aside0.mk (blk_below (g := gb307) (o := .cells #[.int .i64 a0_0, .int .i64 a0_1, .int .i64 a0_2, .slice A0_3 l0_3.length c0_3, .slice A0_4 l0_4.length c0_4] 91 (0, 0)) BK307.out hb)
            have n3_ := Aside0.mk (blk_below (g := gb308) (o := .cells #[.int .i64 a1_0, .slice A1_1 l1_1.length c1_1] 115 (0, 0)) BK308.out hb)
            have n4_ := Aside0.mk (blk_below (g := gb316) (o := .cells #[.int .i64 t311, .slice Ao29 t312.length co29] 115 (0, 0)) BK316.out hb)
            have n5_ := Aside0.mk (blk_below (g := gb326) (o := .cells #[.int .i64 0, .slice none 0 0] 115 (0, 0)) BK326.out hb)
            have n6_ := Aside0.mk (below_step HB.out hb)
            clear HO_317001
            clear BK307
            clear BK308
            clear BK316
            clear BK326
            clear HB
            have HO_317001 := n0_
            have HO324 := n1_
            have BK307 := n2_
            have BK308 := n3_
            have BK316 := n4_
            have BK326 := n5_
            have HB := n6_
            clear n0_ n1_ n2_ n3_ n4_ n5_ n6_
            (try clear hb)
            (try clear hb2)
            (try clear hk)
            (try clear hi)
            (try clear ho0)
            refine hK.out _ _ ⟨(blk_cell BK307.out 0).trans rfl, (blk_cell BK307.out 1).trans rfl, (blk_cell BK307.out 2).trans rfl, (blk_cell BK307.out 3).trans rfl, (blk_cell BK307.out 4).trans rfl, (blk_cell BK308.out 0).trans rfl, (blk_cell BK308.out 1).trans rfl⟩ (fun hHeld => ?_)
            clear hK K
            refine norm_ (a' := ?_) ?_ ?_
            rotate_left
            ·show Act.put _ (some 66) _ = _
             simp only [Act.put, List.setIfInBounds_toArray, List.set_cons_zero, List.set_cons_succ, i64_w, i32_w]
             rfl
            refine pure_ (i := 4) (N := some 62) (v := ?_) (a' := ?_) #[tt,tt,tt,tt,tt,ff,ff,tt,ff,ff] rfl rfl (any_of HT_.out (by kernel_rfl)) (fun _ _ _ h => h) (Or.inl ⟨by rfl, ?_⟩) ?_ ?_
            rotate_left
            ·intro w'
             go_simp
             with_reducible rfl
            rotate_left
            ·simp only [Act.put, List.setIfInBounds_toArray, List.set_cons_zero, List.set_cons_succ, i64_w, i32_w]
             rfl
            refine pure_ (i := 5) (N := some 67) (v := ?_) (a' := ?_) #[tt,tt,tt,tt,tt,tt,ff,tt,ff,ff] rfl rfl (any_of HT_.out (by kernel_rfl)) (fun _ _ _ h => h) (Or.inl ⟨by rfl, ?_⟩) ?_ ?_
            rotate_left
            ·intro w'
             go_simp
             with_reducible rfl
            rotate_left
            ·simp only [Act.put, List.setIfInBounds_toArray, List.set_cons_zero, List.set_cons_succ, i64_w, i32_w]
             rfl
            refine pure_ (i := 6) (N := some 68) (v := ?_) (a' := ?_) #[tt,tt,tt,tt,tt,tt,tt,tt,ff,ff] rfl rfl (any_of HT_.out (by kernel_rfl)) (fun _ _ _ h => h) (Or.inl ⟨by rfl, ?_⟩) ?_ ?_
            rotate_left
            ·intro w'
             go_simp
             with_reducible rfl
            rotate_left
            ·simp only [Act.put, List.setIfInBounds_toArray, List.set_cons_zero, List.set_cons_succ, i64_w, i32_w]
             rfl
            exact norm_ (by simp only [putAll, Act.put, List.setIfInBounds_toArray, List.set_cons_zero, List.set_cons_succ]) (hCont (v323, gb326) _ ⟨hHeld, (by (with_reducible repeat (first | apply Kd.R_alloc | apply Kd.R_drewN | apply Kd.R_drew)); exact Kd.R_mono HO324.out (fun _ hk => hk.2)), (by (with_reducible repeat (first | apply Kd.R_alloc | apply Kd.R_drewN | apply Kd.R_drew)); exact Kd.R_mono HO_317001.out (fun _ hk => hk.2)), BK307.out, BK308.out, BK316.out, BK326.out, GW326.out, GE326.out, NB307_326.out, NB326_307.out, NB308_326.out, NB326_308.out, NB316_326.out, NB326_316.out, HB.out⟩)
          rintro ⟨v323, gb326⟩ w80 ⟨hS_, h0_, h1_, h2_, h3_, h4_, h5_, h6_, h7_, h8_, h9_, h10_, h11_, h12_, h13_, h14_⟩
          have n0_ : Aside0 (Kd.R (Kd.int .i64) 3 w80 w.heap.size (fun k_ => some k_ ≠ (.slice Ao29 t312.length co29 : Value).ownBlock) v323 t322) := ⟨h0_⟩
          have n1_ : Aside0 (Kd.R (Kd.int .i64) 3 w80 w.heap.size (fun k_ => some k_ ≠ (v323 : Value).ownBlock) (.slice Ao29 t312.length co29) t312) := ⟨h1_⟩
          have n2_ : Aside0 (w80.heap[gb307]? = some (.cells #[.int .i64 a0_0, .int .i64 a0_1, .int .i64 a0_2, .slice A0_3 l0_3.length c0_3, .slice A0_4 l0_4.length c0_4] 91 (0, 0))) := ⟨h2_⟩
          have n3_ : Aside0 (w80.heap[gb308]? = some (.cells #[.int .i64 a1_0, .slice A1_1 l1_1.length c1_1] 115 (0, 0))) := ⟨h3_⟩
          have n4_ : Aside0 (w80.heap[gb316]? = some (.cells #[.int .i64 t311, .slice Ao29 t312.length co29] 115 (0, 0))) := ⟨h4_⟩
          have n5_ : Aside0 (w80.heap[gb326]? = some (.cells #[.int .i64 0, .slice none 0 0] 115 (0, 0))) := ⟨h5_⟩
          have n6_ : Aside0 (w.heap.size ≤ gb326) := ⟨h6_⟩
          have n7_ : Aside0 (w.heap.size ≤ gb326) := ⟨h7_⟩
          have n8_ : Aside0 (gb307 ≠ gb326) := ⟨h8_⟩
          have n9_ : Aside0 (gb326 ≠ gb307) := ⟨h9_⟩
          have n10_ : Aside0 (gb308 ≠ gb326) := ⟨h10_⟩
          have n11_ : Aside0 (gb326 ≠ gb308) := ⟨h11_⟩
          have n12_ : Aside0 (gb316 ≠ gb326) := ⟨h12_⟩
          have n13_ : Aside0 (gb326 ≠ gb316) := ⟨h13_⟩
          have n14_ : Aside0 (Below w.heap.size w w80) := ⟨h14_⟩
          clear HO_317001
          clear BK307
          clear BK308
          clear BK316
          clear HB
          clear h0_ h1_ h2_ h3_ h4_ h5_ h6_ h7_ h8_ h9_ h10_ h11_ h12_ h13_ h14_
          have HO324 := n0_
          have HO_317001 := n1_
          have BK307 := n2_
          have BK308 := n3_
          have BK316 := n4_
          have BK326 := n5_
          have GW326 := n6_
          have GE326 := n7_
          have NB307_326 := n8_
          have NB326_307 := n9_
          have NB308_326 := n10_
          have NB326_308 := n11_
          have NB316_326 := n12_
          have NB326_316 := n13_
          have HB := n14_
          clear n0_ n1_ n2_ n3_ n4_ n5_ n6_ n7_ n8_ n9_ n10_ n11_ n12_ n13_ n14_
          have hHeld : w80.cell? ⟨gb307, 0, none⟩ = some (.int .i64 a0_0) ∧ w80.cell? ⟨gb307, 1, none⟩ = some (.int .i64 a0_1) ∧ w80.cell? ⟨gb307, 2, none⟩ = some (.int .i64 a0_2) ∧ w80.cell? ⟨gb307, 3, none⟩ = some (.slice A0_3 l0_3.length c0_3) ∧ w80.cell? ⟨gb307, 4, none⟩ = some (.slice A0_4 l0_4.length c0_4) ∧ w80.cell? ⟨gb308, 0, none⟩ = some (.int .i64 a1_0) ∧ w80.cell? ⟨gb308, 1, none⟩ = some (.slice A1_1 l1_1.length c1_1) := hS_
          obtain ⟨Ao82, co82, eo82⟩ := Kd.R_slice HO324.out
          (first | subst eo82 | (injection eo82 with f1_ f2_ f3_; have f4_ := f1_.symm; have f5_ := f3_.symm; clear f1_ f2_ f3_; subst f4_; subst f5_))
          refine norm_ (a' := ?_) ?_ ?_
          rotate_left
          ·simp only [putAll, Act.put, List.setIfInBounds_toArray, List.set_cons_zero, List.set_cons_succ]
           rfl
          refine one_ (i := 8) (N := none) #[tt,tt,tt,tt,tt,tt,tt,tt,tt,ff] rfl rfl (one_of HT_.out (by kernel_rfl)) (by decide) (fun K hK => ?_)
          have hs81 : w80.cell? ⟨gb326, 0, none⟩ = some (.int .i64 0) := (blk_cell BK326.out 0).trans rfl
          have hfs81 := blk_frozen BK326.out 0
          have hns81_0 := NB307_326.out
          have hns81_1 := NB308_326.out
          have hns81_2 := NB316_326.out
          have hms81_0 := NB326_307.out
          have hms81_1 := NB326_308.out
          have hms81_2 := NB326_316.out
          have hs83 : w80.cell? ⟨gb326, 1, none⟩ = some (.slice none 0 0) := (blk_cell BK326.out 1).trans rfl
          have hfs83 := blk_frozen BK326.out 1
          have hns83_0 := NB307_326.out
          have hns83_1 := NB308_326.out
          have hns83_2 := NB316_326.out
          have hms83_0 := NB326_307.out
          have hms83_1 := NB326_308.out
          have hms83_2 := NB326_316.out
          refine skip_ (w1 := ?_) (by rfl) rfl ?_ ?_
          rotate_left
          ·go_simp
           rfl
          refine hK.out _ _ ⟨((cell_far (p := ⟨gb326, _, none⟩) NB307_326.out _).trans (((cell_far (p := ⟨gb326, _, none⟩) NB307_326.out _).trans (hHeld.1)))), ((cell_far (p := ⟨gb326, _, none⟩) NB307_326.out _).trans (((cell_far (p := ⟨gb326, _, none⟩) NB307_326.out _).trans (hHeld.2.1)))), ((cell_far (p := ⟨gb326, _, none⟩) NB307_326.out _).trans (((cell_far (p := ⟨gb326, _, none⟩) NB307_326.out _).trans (hHeld.2.2.1)))), ((cell_far (p := ⟨gb326, _, none⟩) NB307_326.out _).trans (((cell_far (p := ⟨gb326, _, none⟩) NB307_326.out _).trans (hHeld.2.2.2.1)))), ((cell_far (p := ⟨gb326, _, none⟩) NB307_326.out _).trans (((cell_far (p := ⟨gb326, _, none⟩) NB307_326.out _).trans (hHeld.2.2.2.2.1)))), ((cell_far (p := ⟨gb326, _, none⟩) NB308_326.out _).trans (((cell_far (p := ⟨gb326, _, none⟩) NB308_326.out _).trans (hHeld.2.2.2.2.2.1)))), ((cell_far (p := ⟨gb326, _, none⟩) NB308_326.out _).trans (((cell_far (p := ⟨gb326, _, none⟩) NB308_326.out _).trans (hHeld.2.2.2.2.2.2))))⟩ (fun hHeld => ?_)
          clear hK K
          refine pure_ (i := 9) (N := some 11) (v := ?_) (a' := ?_) #[tt,tt,tt,tt,tt,tt,tt,tt,tt,tt] rfl rfl (any_of HT_.out (by kernel_rfl)) (fun _ _ _ h => h) (Or.inl ⟨by rfl, ?_⟩) ?_ ?_
          rotate_left
          ·intro w'
           go_simp
           with_reducible rfl
          rotate_left
          ·simp only [Act.put, List.setIfInBounds_toArray, List.set_cons_zero, List.set_cons_succ, i64_w, i32_w]
           rfl
          refine done_ (done_of HT_.out (by kernel_rfl)) ?_
          have hnb84 := NB326_307.out
          have hnc84 := NB307_326.out
          have hnb85 := NB326_308.out
          have hnc85 := NB308_326.out
          have hnb86 := NB326_316.out
          have hnc86 := NB316_326.out
          have hcz87_0 : w80.cell? ⟨gb326, 0, none⟩ = some (.int .i64 0) := (blk_cell BK326.out 0).trans rfl
          have hcz87_1 : w80.cell? ⟨gb326, 1, none⟩ = some (.slice none 0 0) := (blk_cell BK326.out 1).trans rfl
          have hfz87_0 := blk_frozen BK326.out 0
          have hfz87_1 := blk_frozen BK326.out 1
          have hcz88_0 : w80.cell? ⟨gb308, 0, none⟩ = some (.int .i64 a1_0) := (blk_cell BK308.out 0).trans rfl
          have hcz88_1 : w80.cell? ⟨gb308, 1, none⟩ = some (.slice A1_1 l1_1.length c1_1) := (blk_cell BK308.out 1).trans rfl
          have hfz88_0 := blk_frozen BK308.out 0
          have hfz88_1 := blk_frozen BK308.out 1
          try go_wp2_with (first | (go_at_call 94; (with_reducible refine (taquinref22_Same.calls kj20 t321 _ _ t322 a1_0 _ _ l1_1 t327 _ ?side1 ?side2 ?side3 ?side4 A69.out).mono ?_); (case side1 => refine (Kd.R_reads' (e := 3) (base := w.heap.size) (ok := fun k_ => some k_ ≠ (.slice Ao29 t312.length co29 : Value).ownBlock) (n := t322.length) (c := co82) ?_).2.2; exact (by (with_reducible repeat (first | apply Kd.R_alloc | apply Kd.R_drewN | apply Kd.R_drew)); exact (Kd.R_mono (Kd.R_far (p := ⟨gb326, 1, none⟩) (Kd.R_far (p := ⟨gb326, 0, none⟩) (Kd.R_types HO324.out BK326.out (by decide)) (fun _ hk => hk.2) (.int .i64 t321)) (fun _ hk => hk.2) (.slice Ao82 t322.length co82)) (fun _ h_ => h_.1)))); (case side2 => exact (Kd.R_reads' HO324.out).2.1); (case side3 => exact Kd.C_below HR1_1.out (by repeat (first | (with_reducible first | exact HB.out | apply below_alloc | apply pw_below_drewN | apply below_drew1 | refine below_set ?_ GE307.out | refine below_set ?_ GE308.out | refine below_set ?_ GE316.out | refine below_set ?_ GE326.out) | exact HB.out))); (case side4 => exact HC1_1.out); rintro e w89 ⟨rfl, hb⟩; have n0_ := Aside0.mk (Kd.R_below (by (with_reducible repeat (first | apply Kd.R_alloc | apply Kd.R_drewN | apply Kd.R_drew)); exact (Kd.R_mono (Kd.R_far (p := ⟨gb326, 1, none⟩) (Kd.R_far (p := ⟨gb326, 0, none⟩) (Kd.R_types HO_317001.out BK326.out (by decide)) (fun _ hk => hk.2) (.int .i64 t321)) (fun _ hk => hk.2) (.slice Ao82 t322.length co82)) (fun _ h_ => h_.1))) hb); have n1_ := Aside0.mk (Kd.R_below (by (with_reducible repeat (first | apply Kd.R_alloc | apply Kd.R_drewN | apply Kd.R_drew)); exact (Kd.R_mono (Kd.R_far (p := ⟨gb326, 1, none⟩) (Kd.R_far (p := ⟨gb326, 0, none⟩) (Kd.R_types HO324.out BK326.out (by decide)) (fun _ hk => hk.2) (.int .i64 t321)) (fun _ hk => hk.2) (.slice Ao82 t322.length co82)) (fun _ h_ => h_.1))) hb); have n2_ := Aside0.mk (blk_below (g := gb307) (o := .cells #[.int .i64 a0_0, .int .i64 a0_1, .int .i64 a0_2, .slice A0_3 l0_3.length c0_3, .slice A0_4 l0_4.length c0_4] 91 (0, 0)) (by (with_reducible repeat (first | refine blk_drewN ?_ _ | refine blk_drew ?_ | refine blk_alloc ?_ _)); refine blk_far ?_ NB307_326.out _; (with_reducible repeat (first | refine blk_drewN ?_ _ | refine blk_drew ?_ | refine blk_alloc ?_ _)); refine blk_far ?_ NB307_326.out _; (with_reducible repeat (first | refine blk_drewN ?_ _ | refine blk_drew ?_ | refine blk_alloc ?_ _)); exact BK307.out) hb); have n3_ := Aside0.mk (blk_below (g := gb308) (o := .cells #[.int .i64 a1_0, .slice A1_1 l1_1.length c1_1] 115 (0, 0)) (by (with_reducible repeat (first | refine blk_drewN ?_ _ | refine blk_drew ?_ | refine blk_alloc ?_ _)); refine blk_far ?_ NB308_326.out _; (with_reducible repeat (first | refine blk_drewN ?_ _ | refine blk_drew ?_ | refine blk_alloc ?_ _)); refine blk_far ?_ NB308_326.out _; (with_reducible repeat (first | refine blk_drewN ?_ _ | refine blk_drew ?_ | refine blk_alloc ?_ _)); exact BK308.out) hb); have n4_ := Aside0.mk (blk_below (g := gb316) (o := .cells #[.int .i64 t311, .slice Ao29 t312.length co29] 115 (0, 0)) (by (with_reducible repeat (first | refine blk_drewN ?_ _ | refine blk_drew ?_ | refine blk_alloc ?_ _)); refine blk_far ?_ NB316_326.out _; (with_reducible repeat (first | refine blk_drewN ?_ _ | refine blk_drew ?_ | refine blk_alloc ?_ _)); refine blk_far ?_ NB316_326.out _; (with_reducible repeat (first | refine blk_drewN ?_ _ | refine blk_drew ?_ | refine blk_alloc ?_ _)); exact BK316.out) hb); have n5_ := Aside0.mk (blk_below (g := gb326) (o := .cells #[.int .i64 t321, .slice Ao82 t322.length co82] 115 (0, 0)) (by (with_reducible repeat (first | refine blk_drewN ?_ _ | refine blk_drew ?_ | refine blk_alloc ?_ _)); refine blk_put (cs := #[.int .i64 t321, .slice none 0 0]) ?_ 1 _ rfl; (with_reducible repeat (first | refine blk_drewN ?_ _ | refine blk_drew ?_ | refine blk_alloc ?_ _)); refine blk_put (cs := #[.int .i64 0, .slice none 0 0]) ?_ 0 _ rfl; (with_reducible repeat (first | refine blk_drewN ?_ _ | refine blk_drew ?_ | refine blk_alloc ?_ _)); exact BK326.out) hb); have n6_ := Aside0.mk (below_step (by repeat (first | (with_reducible first | exact HB.out | apply below_alloc | apply pw_below_drewN | apply below_drew1 | refine below_set ?_ GE307.out | refine below_set ?_ GE308.out | refine below_set ?_ GE316.out | refine below_set ?_ GE326.out) | exact HB.out)) hb); clear HO_317001; clear HO324; clear BK307; clear BK308; clear BK316; clear BK326; clear HB; have HO_317001 := n0_; have HO324 := n1_; have BK307 := n2_; have BK308 := n3_; have BK316 := n4_; have BK326 := n5_; have HB := n6_; clear n0_ n1_ n2_ n3_ n4_ n5_ n6_; (try clear hb); (try clear hb2); (try clear hk); (try clear hi)))
          go_ret
          exact ⟨by first | rfl | (simp [errW_none, errW_some] <;> rfl) | (simp [*, errW_none, errW_some] <;> rfl), by repeat (first | (with_reducible first | exact HB.out | apply below_alloc | apply pw_below_drewN | apply below_drew1 | refine below_set ?_ GE307.out | refine below_set ?_ GE308.out | refine below_set ?_ GE316.out | refine below_set ?_ GE326.out) | exact HB.out)⟩
         ·replace c68 := Bool.eq_false_iff.mpr c68
          subst c68
          have H1 : (none) = some r := by rw [if_neg (show ¬ (false = true) by decide)] at H; exact H
          clear H
          have H := H1
          clear H1
          exact absurd H (by simp)
        ·replace c67 := Bool.eq_false_iff.mpr c67
         subst c67
         have H1 : (none) = some r := by rw [if_neg (show ¬ (false = true) by decide)] at H; exact H
         clear H
         have H := H1
         clear H1
         exact absurd H (by simp)
       ·replace c64 := Bool.eq_false_iff.mpr c64
        subst c64
        have H1 : (some t309) = some r := by rw [if_neg (show ¬ (false = true) by decide)] at H; exact H
        clear H
        have H := H1
        clear H1
        obtain rfl := Option.some.inj H
        have hnb90 := NB307_308.out
        have hnc90 := NB308_307.out
        have hnb91 := NB307_316.out
        have hnc91 := NB316_307.out
        have hcz92_0 : wc.cell? ⟨gb307, 0, none⟩ = some (.int .i64 a0_0) := (blk_cell BK307.out 0).trans rfl
        have hcz92_1 : wc.cell? ⟨gb307, 1, none⟩ = some (.int .i64 a0_1) := (blk_cell BK307.out 1).trans rfl
        have hcz92_2 : wc.cell? ⟨gb307, 2, none⟩ = some (.int .i64 a0_2) := (blk_cell BK307.out 2).trans rfl
        have hcz92_3 : wc.cell? ⟨gb307, 3, none⟩ = some (.slice A0_3 l0_3.length c0_3) := (blk_cell BK307.out 3).trans rfl
        have hcz92_4 : wc.cell? ⟨gb307, 4, none⟩ = some (.slice A0_4 l0_4.length c0_4) := (blk_cell BK307.out 4).trans rfl
        have hfz92_0 := blk_frozen BK307.out 0
        have hfz92_1 := blk_frozen BK307.out 1
        have hfz92_2 := blk_frozen BK307.out 2
        have hfz92_3 := blk_frozen BK307.out 3
        have hfz92_4 := blk_frozen BK307.out 4
        have hnb93 := NB308_316.out
        have hnc93 := NB316_308.out
        have hcz94_0 : wc.cell? ⟨gb308, 0, none⟩ = some (.int .i64 a1_0) := (blk_cell BK308.out 0).trans rfl
        have hcz94_1 : wc.cell? ⟨gb308, 1, none⟩ = some (.slice A1_1 l1_1.length c1_1) := (blk_cell BK308.out 1).trans rfl
        have hfz94_0 := blk_frozen BK308.out 0
        have hfz94_1 := blk_frozen BK308.out 1
        go_wp2_with (first | ((with_reducible refine gate_callee (f := 93) rfl ?_); refine goesL_ (some 59) rfl rfl Tryd.func93 (by kernel_rfl) rfl #[.agg #[.int .i64 a0_0, .int .i64 a0_1, .int .i64 a0_2, .slice A0_3 l0_3.length c0_3, .slice A0_4 l0_4.length c0_4], .agg #[.int .i64 a1_0, .slice A1_1 l1_1.length c1_1]] rfl (by (try simp only [List.map_toArray, List.map_cons, List.map_nil]); first | done | rfl | (simp only [List.length_drop, List.length_take]; rfl)) ?_; (with_reducible refine (robot_Right.calls kj20 a0_0 a0_1 a0_2 _ _ l0_3 _ _ l0_4 a1_0 _ _ l1_1 false _ ?side1 ?side2 ?side3 ?side4 ?side5 ?side6 A63.out).mono ?_); (case side1 => exact (Kd.C_below HR0_3.out HB.out)); (case side2 => exact HC0_3.out); (case side3 => exact (Kd.C_below HR0_4.out HB.out)); (case side4 => exact HC0_4.out); (case side5 => exact (Kd.C_below HR1_1.out HB.out)); (case side6 => exact HC1_1.out); rintro e w95 ⟨rfl, hb⟩; refine ⟨_, rfl, ?_⟩; have n0_ := Aside0.mk (Kd.R_below HO_317001.out hb); have n1_ := Aside0.mk (blk_below (g := gb307) (o := .cells #[.int .i64 a0_0, .int .i64 a0_1, .int .i64 a0_2, .slice A0_3 l0_3.length c0_3, .slice A0_4 l0_4.length c0_4] 91 (0, 0)) BK307.out hb); have n2_ := Aside0.mk (blk_below (g := gb308) (o := .cells #[.int .i64 a1_0, .slice A1_1 l1_1.length c1_1] 115 (0, 0)) BK308.out hb); have n3_ := Aside0.mk (blk_below (g := gb316) (o := .cells #[.int .i64 t311, .slice Ao29 t312.length co29] 115 (0, 0)) BK316.out hb); have n4_ := Aside0.mk (below_step HB.out hb); clear HO_317001; clear BK307; clear BK308; clear BK316; clear HB; have HO_317001 := n0_; have BK307 := n1_; have BK308 := n2_; have BK316 := n3_; have HB := n4_; clear n0_ n1_ n2_ n3_ n4_; (try clear hb); (try clear hb2); (try clear hk); (try clear hi)))
        go_ret
        exact ⟨by first | rfl | (simp [errW_none, errW_some] <;> rfl) | (simp [*, errW_none, errW_some] <;> rfl), HB.out⟩

end Go.Proofs.YtigdjhnpngjhjaaDoor.PRb

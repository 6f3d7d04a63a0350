-- written by a program of this claim's own (wip/tools/pp.py), after the kit's printer
import Derived.Test.YtigdjhnpngjhjaaDoorPWrx0
import Derived.Test.YtigdjhnpngjhjaaDoorPWrx1
import Derived.Test.YtigdjhnpngjhjaaDoorPWrx2
import Derived.Test.YtigdjhnpngjhjaaDoorPWrx4
import Derived.Test.YtigdjhnpngjhjaaDoorPWrx6
import Derived.Test.YtigdjhnpngjhjaaDoorPWrx8
namespace Go.Proofs.YtigdjhnpngjhjaaDoor.PWr
open Go.RowKit Go.Proofs.YtigdjhnpngjhjaaDoorW.PrintWords Go.Proofs.YtigdjhnpngjhjaaDoorW.PrintLast Go.Proofs.YtigdjhnpngjhjaaDoorW.PrintMore
attribute [local go_sem] max2_int min2_int max_two min_two max_three min_three max_four min_four   -- for this text's walks alone
set_option linter.unusedVariables false
set_option linter.unusedSimpArgs false

/-! ### taquinlaw01_WireBack: function 8 -/
mutual
def taquinlaw01_WireBack.j0 : Nat → List (S25) → ByteArray → Bool → Bool → Option (Bool)
  | 0, _, _, _, _ => none
  | k + 1, x0, x1, x5, x20 => if x20 = true then (some x5) else (taquinlaw01_WireBack.l0 k x0 x1 x5 (⟨#[]⟩ : ByteArray) 0)
def taquinlaw01_WireBack.l0 : Nat → List (S25) → ByteArray → Bool → ByteArray → Int → Option (Bool)
  | 0, _, _, _, _, _ => none
  | k + 1, x0, x1, x5, x6, x7 => if x7 < (x0.length : Int) then (if 0 ≤ x7 then ((taquinlaw01_write.f ((rd_T25 x0 x7).f0) ((rd_T25 x0 x7).f1) ((rd_T25 x0 x7).f2) ((rd_T25 x0 x7).f3) ((rd_T25 x0 x7).f4)).bind fun t443 => (if x6.size + t443.size ≤ 9223372036854775807 then (taquinlaw01_WireBack.l0 k x0 x1 x5 (x6 ++ t443) (wrap64 (x7 + 1))) else (none))) else (none)) else (if x6.size + x1.size ≤ 9223372036854775807 then ((wire_Open.f (x6 ++ x1)).bind fun bt444 => (taquinlaw01_WireBack.l1 k x0 x1 x5 0 bt444.1 bt444.2)) else (none))
def taquinlaw01_WireBack.l1 : Nat → List (S25) → ByteArray → Bool → Int → ByteArray → Bool → Option (Bool)
  | 0, _, _, _, _, _, _ => none
  | k + 1, x0, x1, x5, x9, x447000, x447001 => if x9 < (x0.length : Int) then (if 0 ≤ x9 then ((taquinlaw01_equal.f k x447000 x447001 ((rd_T25 x0 x9).f0) ((rd_T25 x0 x9).f1) ((rd_T25 x0 x9).f2) ((rd_T25 x0 x9).f3) ((rd_T25 x0 x9).f4)).bind fun bt448 => (if bt448.1 = true then (taquinlaw01_WireBack.l1 k x0 x1 x5 (wrap64 (x9 + 1)) bt448.2.1 bt448.2.2) else (none))) else (none)) else ((wire_Reader_Left.f x447000 x447001).bind fun bt451 => ((wire_Reader_Done.f bt451.2.1 bt451.2.2).bind fun bt454 => (if x5 = true then (if bt451.1 = (x1.size : Int) then (if (bt454.1 == (x1.toList == ([] : List UInt8))) = true then ((wire_Reader_Rest.f bt454.2.1 bt454.2.2).bind fun bt457 => (if bt457.1.toList = x1.toList then ((wire_Reader_Done.f bt457.2.1 bt457.2.2).bind fun bt460 => (if bt460.1 = true then ((wire_Reader_Left.f bt460.2.1 bt460.2.2).bind fun bt463 => (some (bt463.1 == 0))) else (none))) else (none))) else (none)) else (none)) else (none))))
end
def taquinlaw01_WireBack.f (k : Nat) (l0 : List (S25)) (a1 : ByteArray) : Option (Bool) := (taquinlaw01_small.f k).bind fun t440 => ((taquinlaw01_few.f k l0).bind fun t441 => (if t441 = true then (taquinlaw01_WireBack.j0 k l0 a1 t440 (decide ((a1.size : Int) > 400))) else (taquinlaw01_WireBack.j0 k l0 a1 t440 true)))
theorem taquinlaw01_WireBack.mono_l : ∀ k, (∀ y0 y1 y2 y3, LeO (taquinlaw01_WireBack.j0 k y0 y1 y2 y3) (taquinlaw01_WireBack.j0 (k + 1) y0 y1 y2 y3)) ∧ (∀ y0 y1 y2 y3 y4, LeO (taquinlaw01_WireBack.l0 k y0 y1 y2 y3 y4) (taquinlaw01_WireBack.l0 (k + 1) y0 y1 y2 y3 y4)) ∧ (∀ y0 y1 y2 y3 y4 y5, LeO (taquinlaw01_WireBack.l1 k y0 y1 y2 y3 y4 y5) (taquinlaw01_WireBack.l1 (k + 1) y0 y1 y2 y3 y4 y5))
  | 0 => ⟨fun _ _ _ _ r h => by simp [taquinlaw01_WireBack.j0] at h, fun _ _ _ _ _ r h => by simp [taquinlaw01_WireBack.l0] at h, fun _ _ _ _ _ _ r h => by simp [taquinlaw01_WireBack.l1] at h⟩
  | k + 1 => by
    obtain ⟨ih0, ih1, ih2⟩ := taquinlaw01_WireBack.mono_l k
    refine ⟨?_, ?_, ?_⟩
    · intro y0 y1 y2 y3
      unfold taquinlaw01_WireBack.j0
      repeat' first
      | (with_reducible exact ih0 _ _ _ _)
      | (with_reducible exact ih1 _ _ _ _ _)
      | (with_reducible exact ih2 _ _ _ _ _ _)
      | (with_reducible exact taquinlaw01_equal.mono _ _ _ _ _ _ _ _)
      | (with_reducible exact taquinlaw01_few.mono _ _)
      | (with_reducible exact taquinlaw01_small.mono _)
      | (with_reducible exact LeO.refl _)
      | (with_reducible exact LeO.none _)
      | (with_reducible refine LeO.ite ?_ ?_)
      | (with_reducible refine LeO.bind ?_ (fun _ => ?_))
      | exact ih0 _ _ _ _
      | exact ih1 _ _ _ _ _
      | exact ih2 _ _ _ _ _ _
      | exact taquinlaw01_equal.mono _ _ _ _ _ _ _ _
      | exact taquinlaw01_few.mono _ _
      | exact taquinlaw01_small.mono _
      | exact LeO.none _
      | refine LeO.ite ?_ ?_
      | refine LeO.bind ?_ (fun _ => ?_)
    · intro y0 y1 y2 y3 y4
      unfold taquinlaw01_WireBack.l0
      repeat' first
      | (with_reducible exact ih0 _ _ _ _)
      | (with_reducible exact ih1 _ _ _ _ _)
      | (with_reducible exact ih2 _ _ _ _ _ _)
      | (with_reducible exact taquinlaw01_equal.mono _ _ _ _ _ _ _ _)
      | (with_reducible exact taquinlaw01_few.mono _ _)
      | (with_reducible exact taquinlaw01_small.mono _)
      | (with_reducible exact LeO.refl _)
      | (with_reducible exact LeO.none _)
      | (with_reducible refine LeO.ite ?_ ?_)
      | (with_reducible refine LeO.bind ?_ (fun _ => ?_))
      | exact ih0 _ _ _ _
      | exact ih1 _ _ _ _ _
      | exact ih2 _ _ _ _ _ _
      | exact taquinlaw01_equal.mono _ _ _ _ _ _ _ _
      | exact taquinlaw01_few.mono _ _
      | exact taquinlaw01_small.mono _
      | exact LeO.none _
      | refine LeO.ite ?_ ?_
      | refine LeO.bind ?_ (fun _ => ?_)
    · intro y0 y1 y2 y3 y4 y5
      unfold taquinlaw01_WireBack.l1
      repeat' first
      | (with_reducible exact ih0 _ _ _ _)
      | (with_reducible exact ih1 _ _ _ _ _)
      | (with_reducible exact ih2 _ _ _ _ _ _)
      | (with_reducible exact taquinlaw01_equal.mono _ _ _ _ _ _ _ _)
      | (with_reducible exact taquinlaw01_few.mono _ _)
      | (with_reducible exact taquinlaw01_small.mono _)
      | (with_reducible exact LeO.refl _)
      | (with_reducible exact LeO.none _)
      | (with_reducible refine LeO.ite ?_ ?_)
      | (with_reducible refine LeO.bind ?_ (fun _ => ?_))
      | exact ih0 _ _ _ _
      | exact ih1 _ _ _ _ _
      | exact ih2 _ _ _ _ _ _
      | exact taquinlaw01_equal.mono _ _ _ _ _ _ _ _
      | exact taquinlaw01_few.mono _ _
      | exact taquinlaw01_small.mono _
      | exact LeO.none _
      | refine LeO.ite ?_ ?_
      | refine LeO.bind ?_ (fun _ => ?_)
theorem taquinlaw01_WireBack.mono : ∀ a0 a1 k, LeO (taquinlaw01_WireBack.f k a0 a1) (taquinlaw01_WireBack.f (k + 1) a0 a1) := by
  intro a0 a1 k
  obtain ⟨ih0, ih1, ih2⟩ := taquinlaw01_WireBack.mono_l k
  unfold taquinlaw01_WireBack.f
  repeat' first
      | (with_reducible exact ih0 _ _ _ _)
      | (with_reducible exact ih1 _ _ _ _ _)
      | (with_reducible exact ih2 _ _ _ _ _ _)
      | (with_reducible exact taquinlaw01_equal.mono _ _ _ _ _ _ _ _)
      | (with_reducible exact taquinlaw01_few.mono _ _)
      | (with_reducible exact taquinlaw01_small.mono _)
      | (with_reducible exact LeO.refl _)
      | (with_reducible exact LeO.none _)
      | (with_reducible refine LeO.ite ?_ ?_)
      | (with_reducible refine LeO.bind ?_ (fun _ => ?_))
      | exact ih0 _ _ _ _
      | exact ih1 _ _ _ _ _
      | exact ih2 _ _ _ _ _ _
      | exact taquinlaw01_equal.mono _ _ _ _ _ _ _ _
      | exact taquinlaw01_few.mono _ _
      | exact taquinlaw01_small.mono _
      | exact LeO.none _
      | refine LeO.ite ?_ ?_
      | refine LeO.bind ?_ (fun _ => ?_)
set_option maxHeartbeats 8000000 in
set_option maxRecDepth 100000 in
theorem taquinlaw01_WireBack.calls (k : Nat) (A0 : Option Addr) (c0 : Nat) (l0 : List (S25)) (a1 : ByteArray) (r : Bool) (w : World) (hr0 : Kd.C k25 w A0 l0.length l0) (hc0 : l0.length ≤ c0) (h : taquinlaw01_WireBack.f k l0 a1 = some r) (hT : Tabs w) :
    Calls Tryd.prog 8 #[.slice A0 l0.length c0, .string a1] w fun e w' => e = .returned (.bool r) ∧ Below w.heap.size w w' := by
  have hu25 := Tryd.underlying25
  have HR0 := Aside0.mk hr0
  have HC0 := Aside0.mk hc0
  clear hr0 hc0
  have HT := Aside0.mk hT
  clear hT
  have HB := Aside0.mk (Below.refl w.heap.size w)
  have H : ((taquinlaw01_small.f k).bind fun t440 => ((taquinlaw01_few.f k l0).bind fun t441 => (if t441 = true then (taquinlaw01_WireBack.j0 k l0 a1 t440 (decide ((a1.size : Int) > 400))) else (taquinlaw01_WireBack.j0 k l0 a1 t440 true)))) = some r := h
  clear h
  replace H := Option.bind_eq_some_iff.mp H
  obtain ⟨t440, A30, H⟩ := H
  replace H : ((taquinlaw01_few.f k l0).bind fun t441 => (if t441 = true then (taquinlaw01_WireBack.j0 k l0 a1 t440 (decide ((a1.size : Int) > 400))) else (taquinlaw01_WireBack.j0 k l0 a1 t440 true))) = some r := H
  have A3 := Aside0.mk A30
  clear A30
  have HC4 := Aside0.mk H
  clear H
  go_enter Tryd.func8, Tryd.ntmps8
  go_upto_region 2 with (first | ((with_reducible refine gate_callee (f := 21) rfl ?_); refine goesL_ (some 12) rfl rfl Tryd.func21 (by kernel_rfl) rfl #[] rfl (by (try simp only [List.map_toArray, List.map_cons, List.map_nil]); first | done | rfl | (simp only [List.length_drop, List.length_take]; rfl)) ?_; (with_reducible refine (taquinlaw01_small.calls k  t440 _ A3.out (HT.out.below (by repeat (first | (with_reducible first | exact HB.out | apply below_alloc | apply pw_below_drewN | apply below_drew1) | exact HB.out)))).mono ?_); rintro e w5 ⟨rfl, hb⟩; refine ⟨_, rfl, ?_⟩; have n0_ := Aside0.mk (below_step (by repeat (first | (with_reducible first | exact HB.out | apply below_alloc | apply pw_below_drewN | apply below_drew1) | exact HB.out)) hb); clear HB; have HB := n0_; clear n0_; (try clear hb); (try clear hb2); (try clear hk); (try clear hi)))
  (try simp only [Act.put, List.setIfInBounds_toArray, List.set_cons_zero, List.set_cons_succ])
  go_cut [20] (fun v20 wc => ∃ (kq : Nat) (x20_3 : Bool), v20 = .bool x20_3 ∧ Aside0 (taquinlaw01_WireBack.j0 kq l0 a1 t440 x20_3 = some r) ∧ Aside0 (kq ≤ k) ∧ Aside0 (Below w.heap.size w wc))
  case first =>
    have H := HC4.out
    clear HC4
    replace H := Option.bind_eq_some_iff.mp H
    obtain ⟨t441, A60, H⟩ := H
    replace H : (if t441 = true then (taquinlaw01_WireBack.j0 k l0 a1 t440 (decide ((a1.size : Int) > 400))) else (taquinlaw01_WireBack.j0 k l0 a1 t440 true)) = some r := H
    have A6 := Aside0.mk A60
    clear A60
    by_cases c7 : t441 = true
    · subst c7
      have H1 : (taquinlaw01_WireBack.j0 k l0 a1 t440 (decide ((a1.size : Int) > 400))) = some r := by rw [if_pos rfl] at H; exact H
      clear H
      have H := H1
      clear H1
      have H' := Aside0.mk H
      clear H
      go_wp2_with (first | ((with_reducible refine gate_callee (f := 22) rfl ?_); refine goesL_ (some 14) rfl rfl Tryd.func22 (by kernel_rfl) rfl #[.slice A0 l0.length c0] rfl (by (try simp only [List.map_toArray, List.map_cons, List.map_nil]); first | done | rfl | (simp only [List.length_drop, List.length_take]; rfl)) ?_; (with_reducible refine (taquinlaw01_few.calls k _ _ l0 true _ ?side1 ?side2 A6.out).mono ?_); (case side1 => repeat (first | exact (Kd.C_below HR0.out HB.out) | (with_reducible refine Kd.C_alloc ?_ _) | (with_reducible refine Kd.C_drewN ?_ _) | (with_reducible refine Kd.C_drew ?_))); (case side2 => exact HC0.out); rintro e w' ⟨rfl, ⟨nd, rfl⟩⟩; refine ⟨_, rfl, ?_⟩))
      go_meet
      case rel => exact ⟨_, (decide ((a1.size : Int) > 400)), (by first | rfl | (simp; done) | (simp [*]; done)), H', ⟨by first | omega | exact Nat.le_refl _⟩, ⟨by repeat (first | (with_reducible first | exact HB.out | apply below_alloc | apply pw_below_drewN | apply below_drew1) | exact HB.out)⟩⟩
    · replace c7 := Bool.eq_false_iff.mpr c7
      subst c7
      have H1 : (taquinlaw01_WireBack.j0 k l0 a1 t440 true) = some r := by rw [if_neg (show ¬ (false = true) by decide)] at H; exact H
      clear H
      have H := H1
      clear H1
      have H' := Aside0.mk H
      clear H
      go_wp2_with (first | ((with_reducible refine gate_callee (f := 22) rfl ?_); refine goesL_ (some 14) rfl rfl Tryd.func22 (by kernel_rfl) rfl #[.slice A0 l0.length c0] rfl (by (try simp only [List.map_toArray, List.map_cons, List.map_nil]); first | done | rfl | (simp only [List.length_drop, List.length_take]; rfl)) ?_; (with_reducible refine (taquinlaw01_few.calls k _ _ l0 false _ ?side1 ?side2 A6.out).mono ?_); (case side1 => repeat (first | exact (Kd.C_below HR0.out HB.out) | (with_reducible refine Kd.C_alloc ?_ _) | (with_reducible refine Kd.C_drewN ?_ _) | (with_reducible refine Kd.C_drew ?_))); (case side2 => exact HC0.out); rintro e w' ⟨rfl, ⟨nd, rfl⟩⟩; refine ⟨_, rfl, ?_⟩))
      go_meet
      case rel => exact ⟨_, (true), (by first | rfl | (simp; done) | (simp [*]; done)), H', ⟨by first | omega | exact Nat.le_refl _⟩, ⟨by repeat (first | (with_reducible first | exact HB.out | apply below_alloc | apply pw_below_drewN | apply below_drew1) | exact HB.out)⟩⟩
  case rest =>
    clear HC4
    try clear c2
    try clear p2
    try clear c7
    obtain ⟨kq, x20_3, rfl, HA, HJ3, HB⟩ := hcut
    cases kq with
    | zero => exact absurd HA.out (by simp [taquinlaw01_WireBack.j0])
    | succ kj3 =>
      have H := HA.out
      clear HA
      simp only [taquinlaw01_WireBack.j0] at H
      by_cases c8 : x20_3 = true
      · subst c8
        have H1 : (some t440) = some r := by rw [if_pos rfl] at H; exact H
        clear H
        have H := H1
        clear H1
        obtain rfl := Option.some.inj H
        go_wp2
        go_ret
        exact ⟨by first | rfl | (simp [errW_none, errW_some] <;> rfl) | (simp [*, errW_none, errW_some] <;> rfl), by repeat (first | (with_reducible first | exact HB.out | apply below_alloc | apply pw_below_drewN | apply below_drew1) | exact HB.out)⟩
      · replace c8 := Bool.eq_false_iff.mpr c8
        subst c8
        have H1 : (taquinlaw01_WireBack.l0 kj3 l0 a1 t440 (⟨#[]⟩ : ByteArray) 0) = some r := by rw [if_neg (show ¬ (false = true) by decide)] at H; exact H
        clear H
        have H := H1
        clear H1
        have H' := Aside0.mk H
        clear H
        go_wp2
        go_loopg [6, 7] kj3 (fun kq v6 v7 w' => ∃ (x6_2 : ByteArray) (x7_2 : Int), v6 = .string x6_2 ∧ v7 = .int .i64 x7_2 ∧ Aside0 (taquinlaw01_WireBack.l0 kq l0 a1 t440 x6_2 x7_2 = some r) ∧ Aside0 (kq ≤ kj3) ∧ Aside0 (Below w.heap.size w w'))
        case atStart => exact ⟨((⟨#[]⟩ : ByteArray)), (0), (by first | rfl | (simp; done) | (simp [*]; done)), (by first | rfl | (simp; done) | (simp [*]; done)), H', ⟨Nat.le_refl _⟩, ⟨by repeat (first | (with_reducible first | exact HB.out | apply below_alloc | apply pw_below_drewN | apply below_drew1) | exact HB.out)⟩⟩
        case round =>
          clear H'
          try clear c2
          try clear p2
          try clear c7
          try clear c8
          try clear p2
          obtain ⟨x6_2, x7_2, rfl, rfl, HA, HK2, HB⟩ := hrel
          cases gk with
          | zero => exact absurd HA.out (by simp [taquinlaw01_WireBack.l0])
          | succ k2 =>
            have H := HA.out
            clear HA
            simp only [taquinlaw01_WireBack.l0] at H
            by_cases c9 : x7_2 < (l0.length : Int)
            · rw [if_pos c9] at H
              have c9b0 : decide (x7_2 < (l0.length : Int)) = true := decide_eq_true c9
              clear c9
              by_cases c10 : 0 ≤ x7_2
              · rw [if_pos c10] at H
                have c10b0 : decide (0 ≤ x7_2) = true := decide_eq_true c10
                clear c10
                replace H := Option.bind_eq_some_iff.mp H
                obtain ⟨t443, A110, H⟩ := H
                replace H : (if x6_2.size + t443.size ≤ 9223372036854775807 then (taquinlaw01_WireBack.l0 k2 l0 a1 t440 (x6_2 ++ t443) (wrap64 (x7_2 + 1))) else (none)) = some r := H
                have A11 := Aside0.mk A110
                clear A110
                by_cases c12 : x6_2.size + t443.size ≤ 9223372036854775807
                · rw [if_pos c12] at H
                  have c12b0 := eq_true c12
                  have c12b1 : decide (x6_2.size + t443.size ≤ 9223372036854775807) = true := decide_eq_true c12
                  try have c12b2 : (9223372036854775807 < x6_2.size + t443.size) = False := eq_false (Nat.not_lt.2 c12)
                  have H' := Aside0.mk H
                  clear H
                  have p442 : 0 ≤ (x7_2 : Int) := of_decide_eq_true (by first | (with_reducible assumption) | assumption)
                  have q442 : x7_2 < (l0.length : Int) := of_decide_eq_true (by first | (with_reducible assumption) | assumption)
                  obtain ⟨ad442, A442_3, c442_3, A442_4, c442_4, e442, hx442_0, hx442_1, hx442_2, hx442_3, hx442_4, hl442_3, hi442_3, hl442_4, hi442_4⟩ := at_T25 HR0.out x7_2 p442 q442
                  cases e442
                  replace hx442_0 := (HB.out.cell (World.block_lt_of_cell? w _ hx442_0)).trans hx442_0
                  replace hx442_1 := (HB.out.cell (World.block_lt_of_cell? w _ hx442_1)).trans hx442_1
                  replace hx442_2 := (HB.out.cell (World.block_lt_of_cell? w _ hx442_2)).trans hx442_2
                  replace hx442_3 := (HB.out.cell (World.block_lt_of_cell? w _ hx442_3)).trans hx442_3
                  replace hx442_4 := (HB.out.cell (World.block_lt_of_cell? w _ hx442_4)).trans hx442_4
                  have HR442_3 := Aside0.mk hi442_3
                  have HC442_3 := Aside0.mk hl442_3
                  clear hi442_3 hl442_3
                  have HR442_4 := Aside0.mk hi442_4
                  have HC442_4 := Aside0.mk hl442_4
                  clear hi442_4 hl442_4
                  replace p442 := eq_true p442
                  replace q442 := eq_true q442
                  go_wp2_with (first | ((with_reducible refine gate_callee (f := 42) rfl ?_); refine goesL_ (some 33) rfl rfl Tryd.func42 (by kernel_rfl) rfl #[.agg #[.int .i64 ((rd_T25 l0 x7_2).f0), .int .i64 ((rd_T25 l0 x7_2).f1), .string ((rd_T25 l0 x7_2).f2), .slice A442_3 ((rd_T25 l0 x7_2).f3).length c442_3, .slice A442_4 ((rd_T25 l0 x7_2).f4).length c442_4]] rfl (by (try simp only [List.map_toArray, List.map_cons, List.map_nil]); first | done | rfl | (simp only [List.length_drop, List.length_take]; rfl)) ?_; (with_reducible refine (taquinlaw01_write.calls ((rd_T25 l0 x7_2).f0) ((rd_T25 l0 x7_2).f1) ((rd_T25 l0 x7_2).f2) _ _ ((rd_T25 l0 x7_2).f3) _ _ ((rd_T25 l0 x7_2).f4) t443 _ ?side1 ?side2 ?side3 ?side4 A11.out (HT.out.below (by repeat (first | (with_reducible first | exact HB.out | apply below_alloc | apply pw_below_drewN | apply below_drew1) | exact HB.out)))).mono ?_); (case side1 => repeat (first | exact (Kd.C_below HR442_3.out HB.out) | (with_reducible refine Kd.C_alloc ?_ _) | (with_reducible refine Kd.C_drewN ?_ _) | (with_reducible refine Kd.C_drew ?_))); (case side2 => exact HC442_3.out); (case side3 => repeat (first | exact (Kd.C_below HR442_4.out HB.out) | (with_reducible refine Kd.C_alloc ?_ _) | (with_reducible refine Kd.C_drewN ?_ _) | (with_reducible refine Kd.C_drew ?_))); (case side4 => exact HC442_4.out); rintro e w13 ⟨rfl, hb⟩; refine ⟨_, rfl, ?_⟩; have n0_ := Aside0.mk (below_step (by repeat (first | (with_reducible first | exact HB.out | apply below_alloc | apply pw_below_drewN | apply below_drew1) | exact HB.out)) hb); clear HB; have HB := n0_; clear n0_; (try clear hb); (try clear hb2); (try clear hk); (try clear hi)))
                  go_roundg k2
                  case measure => have := HJ3.out; have := HK2.out; omega
                  case rel => exact ⟨(x6_2 ++ t443), (wrap64 (x7_2 + 1)), (by first | rfl | (simp; done) | (simp [*]; done)), (by first | rfl | (simp; done) | (simp [*]; done)), H', ⟨by have := HJ3.out; have := HK2.out; omega⟩, ⟨by repeat (first | (with_reducible first | exact HB.out | apply below_alloc | apply pw_below_drewN | apply below_drew1) | exact HB.out)⟩⟩
                · rw [if_neg c12] at H
                  exact absurd H (by simp)
              · rw [if_neg c10] at H
                exact absurd H (by simp)
            · rw [if_neg c9] at H
              have c9b0 : decide (x7_2 < (l0.length : Int)) = false := decide_eq_false c9
              clear c9
              by_cases c14 : x6_2.size + a1.size ≤ 9223372036854775807
              · rw [if_pos c14] at H
                have c14b0 := eq_true c14
                have c14b1 : decide (x6_2.size + a1.size ≤ 9223372036854775807) = true := decide_eq_true c14
                try have c14b2 : (9223372036854775807 < x6_2.size + a1.size) = False := eq_false (Nat.not_lt.2 c14)
                replace H := Option.bind_eq_some_iff.mp H
                obtain ⟨⟨t444, t445⟩, A150, H⟩ := H
                replace H : (taquinlaw01_WireBack.l1 k2 l0 a1 t440 0 t444 t445) = some r := H
                have A15 := Aside0.mk A150
                clear A150
                have H' := Aside0.mk H
                clear H
                go_wp2_with (first | ((with_reducible refine gate_callee (f := 33) rfl ?_); refine goesL_ (some 38) rfl rfl Tryd.func33 (by kernel_rfl) rfl #[.string (x6_2 ++ a1)] rfl (by (try simp only [List.map_toArray, List.map_cons, List.map_nil]); first | done | rfl | (simp only [List.length_drop, List.length_take]; rfl)) ?_; (with_reducible refine (wire_Open.calls (x6_2 ++ a1) t444 t445 w _ ?side1 A15.out).mono ?_); (case side1 => repeat (first | (with_reducible first | exact HB.out | apply below_alloc | apply pw_below_drewN | apply below_drew1) | exact HB.out)); rintro e w16 ⟨g446, rfl, hi, hb, hb2⟩; refine ⟨_, rfl, ?_⟩; have n0_ := Aside0.mk (hb); have n1_ := Aside0.mk (hi); clear HB; have HB := n0_; have HI446 := n1_; clear n0_ n1_; (try clear hb); (try clear hb2); (try clear hk); (try clear hi)))
                go_loopg [9] k2 (fun kq v9 w' => ∃ (x9_3 : Int) (x447000_3 : ByteArray) (x447001_3 : Bool), v9 = .int .i64 x9_3 ∧ Aside0 (taquinlaw01_WireBack.l1 kq l0 a1 t440 x9_3 x447000_3 x447001_3 = some r) ∧ Aside0 (kq ≤ k2) ∧ Aside0 (IsS189 w w' g446 x447000_3 x447001_3) ∧ Aside0 (Below w.heap.size w w'))
                case atStart => exact ⟨(0), (t444), (t445), (by first | rfl | (simp; done) | (simp [*]; done)), H', ⟨Nat.le_refl _⟩, ⟨by repeat (first | (with_reducible first | exact HI446.out | apply IsS189.alloc | apply IsS189.drewN | apply IsS189.drew | apply IsS189.set_0 | apply IsS189.set_1) | exact HI446.out)⟩, ⟨by repeat (first | (with_reducible first | exact HB.out | apply below_alloc | apply pw_below_drewN | apply below_drew1 | refine below_set ?_ (IsS189.ge HI446.out)) | exact HB.out)⟩⟩
                case round =>
                  clear H'
                  try clear c1
                  try clear c2
                  try clear p2
                  try clear c3
                  try clear c4
                  try clear p4
                  try clear q4
                  try clear hx4
                  try clear p6
                  try clear c7
                  try clear c8
                  try clear c9
                  try clear c9b0
                  try clear c10
                  try clear c10b0
                  try clear c12
                  try clear c12b0
                  try clear c12b1
                  try clear c12b2
                  try clear c14
                  try clear c14b0
                  try clear c14b1
                  try clear c14b2
                  try clear hx442_0
                  try clear hx442_1
                  try clear hx442_2
                  try clear hx442_3
                  try clear hx442_4
                  try clear p2
                  try clear p442
                  try clear q442
                  obtain ⟨x9_3, x447000_3, x447001_3, rfl, HA, HK3, HI446, HB⟩ := hrel
                  cases gk with
                  | zero => exact absurd HA.out (by simp [taquinlaw01_WireBack.l1])
                  | succ k3 =>
                    have H := HA.out
                    clear HA
                    simp only [taquinlaw01_WireBack.l1] at H
                    by_cases c17 : x9_3 < (l0.length : Int)
                    · rw [if_pos c17] at H
                      have c17b0 : decide (x9_3 < (l0.length : Int)) = true := decide_eq_true c17
                      clear c17
                      by_cases c18 : 0 ≤ x9_3
                      · rw [if_pos c18] at H
                        have c18b0 : decide (0 ≤ x9_3) = true := decide_eq_true c18
                        clear c18
                        replace H := Option.bind_eq_some_iff.mp H
                        obtain ⟨⟨t448, t449, t450⟩, A190, H⟩ := H
                        replace H : (if t448 = true then (taquinlaw01_WireBack.l1 k3 l0 a1 t440 (wrap64 (x9_3 + 1)) t449 t450) else (none)) = some r := H
                        have A19 := Aside0.mk A190
                        clear A190
                        by_cases c20 : t448 = true
                        · subst c20
                          have H1 : (taquinlaw01_WireBack.l1 k3 l0 a1 t440 (wrap64 (x9_3 + 1)) t449 t450) = some r := by rw [if_pos rfl] at H; exact H
                          clear H
                          have H := H1
                          clear H1
                          have H' := Aside0.mk H
                          clear H
                          have p447 : 0 ≤ (x9_3 : Int) := of_decide_eq_true (by first | (with_reducible assumption) | assumption)
                          have q447 : x9_3 < (l0.length : Int) := of_decide_eq_true (by first | (with_reducible assumption) | assumption)
                          obtain ⟨ad447, A447_3, c447_3, A447_4, c447_4, e447, hx447_0, hx447_1, hx447_2, hx447_3, hx447_4, hl447_3, hi447_3, hl447_4, hi447_4⟩ := at_T25 HR0.out x9_3 p447 q447
                          cases e447
                          replace hx447_0 := (HB.out.cell (World.block_lt_of_cell? w _ hx447_0)).trans hx447_0
                          replace hx447_1 := (HB.out.cell (World.block_lt_of_cell? w _ hx447_1)).trans hx447_1
                          replace hx447_2 := (HB.out.cell (World.block_lt_of_cell? w _ hx447_2)).trans hx447_2
                          replace hx447_3 := (HB.out.cell (World.block_lt_of_cell? w _ hx447_3)).trans hx447_3
                          replace hx447_4 := (HB.out.cell (World.block_lt_of_cell? w _ hx447_4)).trans hx447_4
                          have HR447_3 := Aside0.mk hi447_3
                          have HC447_3 := Aside0.mk hl447_3
                          clear hi447_3 hl447_3
                          have HR447_4 := Aside0.mk hi447_4
                          have HC447_4 := Aside0.mk hl447_4
                          clear hi447_4 hl447_4
                          replace p447 := eq_true p447
                          replace q447 := eq_true q447
                          go_wp2_with (first | ((with_reducible refine gate_callee (f := 43) rfl ?_); refine goesL_ (some 52) rfl rfl Tryd.func43 (by kernel_rfl) rfl #[.pointer (some ⟨g446, 0, none⟩), .agg #[.int .i64 ((rd_T25 l0 x9_3).f0), .int .i64 ((rd_T25 l0 x9_3).f1), .string ((rd_T25 l0 x9_3).f2), .slice A447_3 ((rd_T25 l0 x9_3).f3).length c447_3, .slice A447_4 ((rd_T25 l0 x9_3).f4).length c447_4]] rfl (by (try simp only [List.map_toArray, List.map_cons, List.map_nil]); first | done | rfl | (simp only [List.length_drop, List.length_take]; rfl)) ?_; (with_reducible refine (taquinlaw01_equal.calls k3 g446 x447000_3 x447001_3 ((rd_T25 l0 x9_3).f0) ((rd_T25 l0 x9_3).f1) ((rd_T25 l0 x9_3).f2) _ _ ((rd_T25 l0 x9_3).f3) _ _ ((rd_T25 l0 x9_3).f4) true t449 t450 w _ ?side1 ?side2 ?side3 ?side4 ?side5 ?side6 ?side7 ?side8 A19.out HT.out).mono ?_); (case side1 => repeat (first | (with_reducible first | exact HI446.out | apply IsS189.alloc | apply IsS189.drewN | apply IsS189.drew | apply IsS189.set_0 | apply IsS189.set_1) | exact HI446.out)); (case side2 => repeat (first | (with_reducible first | exact HB.out | apply below_alloc | apply pw_below_drewN | apply below_drew1 | refine below_set ?_ (IsS189.ge HI446.out)) | exact HB.out)); (case side3 => repeat (first | exact (Kd.C_below HR447_3.out HB.out) | (with_reducible refine Kd.C_alloc ?_ _) | (with_reducible refine Kd.C_drewN ?_ _) | (with_reducible refine Kd.C_drew ?_))); (case side4 => exact HC447_3.out); (case side5 => exact Kd.far_C 0 HR447_3.out (IsS189.ge HI446.out)); (case side6 => repeat (first | exact (Kd.C_below HR447_4.out HB.out) | (with_reducible refine Kd.C_alloc ?_ _) | (with_reducible refine Kd.C_drewN ?_ _) | (with_reducible refine Kd.C_drew ?_))); (case side7 => exact HC447_4.out); (case side8 => exact Kd.far_C (⟨#[]⟩ : ByteArray) HR447_4.out (IsS189.ge HI446.out)); rintro e w21 ⟨rfl, hi, hb, hk⟩; refine ⟨_, rfl, ?_⟩; have n0_ := Aside0.mk (hb); have n1_ := Aside0.mk (hi); clear HB; clear HI446; have HB := n0_; have HI446 := n1_; clear n0_ n1_; (try clear hb); (try clear hb2); (try clear hk); (try clear hi)))
                          go_roundg k3
                          case measure => have := HJ3.out; have := HK2.out; have := HK3.out; omega
                          case rel => exact ⟨(wrap64 (x9_3 + 1)), (t449), (t450), (by first | rfl | (simp; done) | (simp [*]; done)), H', ⟨by have := HJ3.out; have := HK2.out; have := HK3.out; omega⟩, ⟨by repeat (first | (with_reducible first | exact HI446.out | apply IsS189.alloc | apply IsS189.drewN | apply IsS189.drew | apply IsS189.set_0 | apply IsS189.set_1) | exact HI446.out)⟩, ⟨by repeat (first | (with_reducible first | exact HB.out | apply below_alloc | apply pw_below_drewN | apply below_drew1 | refine below_set ?_ (IsS189.ge HI446.out)) | exact HB.out)⟩⟩
                        · replace c20 := Bool.eq_false_iff.mpr c20
                          subst c20
                          have H1 : (none) = some r := by rw [if_neg (show ¬ (false = true) by decide)] at H; exact H
                          clear H
                          have H := H1
                          clear H1
                          exact absurd H (by simp)
                      · rw [if_neg c18] at H
                        exact absurd H (by simp)
                    · rw [if_neg c17] at H
                      have c17b0 : decide (x9_3 < (l0.length : Int)) = false := decide_eq_false c17
                      clear c17
                      replace H := Option.bind_eq_some_iff.mp H
                      obtain ⟨⟨t451, t452, t453⟩, A220, H⟩ := H
                      replace H : ((wire_Reader_Done.f t452 t453).bind fun bt454 => (if t440 = true then (if t451 = (a1.size : Int) then (if (bt454.1 == (a1.toList == ([] : List UInt8))) = true then ((wire_Reader_Rest.f bt454.2.1 bt454.2.2).bind fun bt457 => (if bt457.1.toList = a1.toList then ((wire_Reader_Done.f bt457.2.1 bt457.2.2).bind fun bt460 => (if bt460.1 = true then ((wire_Reader_Left.f bt460.2.1 bt460.2.2).bind fun bt463 => (some (bt463.1 == 0))) else (none))) else (none))) else (none)) else (none)) else (none))) = some r := H
                      have A22 := Aside0.mk A220
                      clear A220
                      replace H := Option.bind_eq_some_iff.mp H
                      obtain ⟨⟨t454, t455, t456⟩, A230, H⟩ := H
                      replace H : (if t440 = true then (if t451 = (a1.size : Int) then (if (t454 == (a1.toList == ([] : List UInt8))) = true then ((wire_Reader_Rest.f t455 t456).bind fun bt457 => (if bt457.1.toList = a1.toList then ((wire_Reader_Done.f bt457.2.1 bt457.2.2).bind fun bt460 => (if bt460.1 = true then ((wire_Reader_Left.f bt460.2.1 bt460.2.2).bind fun bt463 => (some (bt463.1 == 0))) else (none))) else (none))) else (none)) else (none)) else (none)) = some r := H
                      have A23 := Aside0.mk A230
                      clear A230
                      by_cases c24 : t440 = true
                      · subst c24
                        have H1 : (if t451 = (a1.size : Int) then (if (t454 == (a1.toList == ([] : List UInt8))) = true then ((wire_Reader_Rest.f t455 t456).bind fun bt457 => (if bt457.1.toList = a1.toList then ((wire_Reader_Done.f bt457.2.1 bt457.2.2).bind fun bt460 => (if bt460.1 = true then ((wire_Reader_Left.f bt460.2.1 bt460.2.2).bind fun bt463 => (some (bt463.1 == 0))) else (none))) else (none))) else (none)) else (none)) = some r := by rw [if_pos rfl] at H; exact H
                        clear H
                        have H := H1
                        clear H1
                        by_cases c25 : t451 = (a1.size : Int)
                        · rw [if_pos c25] at H
                          have c25b0 : (t451 == (a1.size : Int)) = true := beq_iff_eq.mpr c25
                          have c25b1 : (t451 != (a1.size : Int)) = false := bne_eq_false_iff_eq.mpr c25
                          clear c25
                          by_cases c26 : (t454 == (a1.toList == ([] : List UInt8))) = true
                          · rw [if_pos c26] at H
                            have c26b0 : (t454 == (a1.toList == ([] : List UInt8))) = true := c26
                            (try (have c26b1 : decide (t454 = (a1.toList == ([] : List UInt8))) = true := by simpa using c26))
                            (try (have c26b2 : (t454 == (a1.toList == ([] : List UInt8))) = true := by simpa using c26))
                            have c26b3 : t454 = a1.toList.isEmpty := by simpa using c26
                            clear c26
                            replace H := Option.bind_eq_some_iff.mp H
                            obtain ⟨⟨t457, t458, t459⟩, A270, H⟩ := H
                            replace H : (if t457.toList = a1.toList then ((wire_Reader_Done.f t458 t459).bind fun bt460 => (if bt460.1 = true then ((wire_Reader_Left.f bt460.2.1 bt460.2.2).bind fun bt463 => (some (bt463.1 == 0))) else (none))) else (none)) = some r := H
                            have A27 := Aside0.mk A270
                            clear A270
                            by_cases c28 : t457.toList = a1.toList
                            · rw [if_pos c28] at H
                              have c28b0 : (t457.toList == a1.toList) = true := beq_iff_eq.mpr c28
                              have c28b1 : (t457.toList != a1.toList) = false := bne_eq_false_iff_eq.mpr c28
                              clear c28
                              replace H := Option.bind_eq_some_iff.mp H
                              obtain ⟨⟨t460, t461, t462⟩, A290, H⟩ := H
                              replace H : (if t460 = true then ((wire_Reader_Left.f t461 t462).bind fun bt463 => (some (bt463.1 == 0))) else (none)) = some r := H
                              have A29 := Aside0.mk A290
                              clear A290
                              by_cases c30 : t460 = true
                              · subst c30
                                have H1 : ((wire_Reader_Left.f t461 t462).bind fun bt463 => (some (bt463.1 == 0))) = some r := by rw [if_pos rfl] at H; exact H
                                clear H
                                have H := H1
                                clear H1
                                replace H := Option.bind_eq_some_iff.mp H
                                obtain ⟨⟨t463, t464, t465⟩, A310, H⟩ := H
                                replace H : (some (t463 == 0)) = some r := H
                                have A31 := Aside0.mk A310
                                clear A310
                                obtain rfl := Option.some.inj H
                                go_wp2_with (first | ((with_reducible refine gate_callee (f := 40) rfl ?_); refine goesL_ (some 55) rfl rfl Tryd.func40 (by kernel_rfl) rfl #[.pointer (some ⟨g446, 0, none⟩)] rfl (by (try simp only [List.map_toArray, List.map_cons, List.map_nil]); first | done | rfl | (simp only [List.length_drop, List.length_take]; rfl)) ?_; (with_reducible refine (wire_Reader_Left.calls g446 x447000_3 x447001_3 t451 t452 t453 w _ ?side1 ?side2 A22.out).mono ?_); (case side1 => repeat (first | (with_reducible first | exact HI446.out | apply IsS189.alloc | apply IsS189.drewN | apply IsS189.drew | apply IsS189.set_0 | apply IsS189.set_1) | exact HI446.out)); (case side2 => repeat (first | (with_reducible first | exact HB.out | apply below_alloc | apply pw_below_drewN | apply below_drew1 | refine below_set ?_ (IsS189.ge HI446.out)) | exact HB.out)); rintro e w32 ⟨rfl, hi, hb, hk⟩; refine ⟨_, rfl, ?_⟩; have n0_ := Aside0.mk (hb); have n1_ := Aside0.mk (hi); clear HB; clear HI446; have HB := n0_; have HI446 := n1_; clear n0_ n1_; (try clear hb); (try clear hb2); (try clear hk); (try clear hi)) | ((with_reducible refine gate_callee (f := 41) rfl ?_); refine goesL_ (some 57) rfl rfl Tryd.func41 (by kernel_rfl) rfl #[.pointer (some ⟨g446, 0, none⟩)] rfl (by (try simp only [List.map_toArray, List.map_cons, List.map_nil]); first | done | rfl | (simp only [List.length_drop, List.length_take]; rfl)) ?_; (with_reducible refine (wire_Reader_Done.calls g446 t452 t453 t454 t455 t456 w _ ?side1 ?side2 A23.out).mono ?_); (case side1 => repeat (first | (with_reducible first | exact HI446.out | apply IsS189.alloc | apply IsS189.drewN | apply IsS189.drew | apply IsS189.set_0 | apply IsS189.set_1) | exact HI446.out)); (case side2 => repeat (first | (with_reducible first | exact HB.out | apply below_alloc | apply pw_below_drewN | apply below_drew1 | refine below_set ?_ (IsS189.ge HI446.out)) | exact HB.out)); rintro e w33 ⟨rfl, hi, hb, hk⟩; refine ⟨_, rfl, ?_⟩; have n0_ := Aside0.mk (hb); have n1_ := Aside0.mk (hi); clear HB; clear HI446; have HB := n0_; have HI446 := n1_; clear n0_ n1_; (try clear hb); (try clear hb2); (try clear hk); (try clear hi)) | (go_at_call 54; (with_reducible refine (wire_Reader_Rest.calls g446 t455 t456 t457 t458 t459 w _ ?side1 ?side2 A27.out).mono ?_); (case side1 => repeat (first | (with_reducible first | exact HI446.out | apply IsS189.alloc | apply IsS189.drewN | apply IsS189.drew | apply IsS189.set_0 | apply IsS189.set_1) | exact HI446.out)); (case side2 => repeat (first | (with_reducible first | exact HB.out | apply below_alloc | apply pw_below_drewN | apply below_drew1 | refine below_set ?_ (IsS189.ge HI446.out)) | exact HB.out)); rintro e w34 ⟨rfl, hi, hb, hk⟩; have n0_ := Aside0.mk (hb); have n1_ := Aside0.mk (hi); clear HB; clear HI446; have HB := n0_; have HI446 := n1_; clear n0_ n1_; (try clear hb); (try clear hb2); (try clear hk); (try clear hi)) | (go_at_call 41; (with_reducible refine (wire_Reader_Done.calls g446 t458 t459 true t461 t462 w _ ?side1 ?side2 A29.out).mono ?_); (case side1 => repeat (first | (with_reducible first | exact HI446.out | apply IsS189.alloc | apply IsS189.drewN | apply IsS189.drew | apply IsS189.set_0 | apply IsS189.set_1) | exact HI446.out)); (case side2 => repeat (first | (with_reducible first | exact HB.out | apply below_alloc | apply pw_below_drewN | apply below_drew1 | refine below_set ?_ (IsS189.ge HI446.out)) | exact HB.out)); rintro e w35 ⟨rfl, hi, hb, hk⟩; have n0_ := Aside0.mk (hb); have n1_ := Aside0.mk (hi); clear HB; clear HI446; have HB := n0_; have HI446 := n1_; clear n0_ n1_; (try clear hb); (try clear hb2); (try clear hk); (try clear hi)) | (go_at_call 40; (with_reducible refine (wire_Reader_Left.calls g446 t461 t462 t463 t464 t465 w _ ?side1 ?side2 A31.out).mono ?_); (case side1 => repeat (first | (with_reducible first | exact HI446.out | apply IsS189.alloc | apply IsS189.drewN | apply IsS189.drew | apply IsS189.set_0 | apply IsS189.set_1) | exact HI446.out)); (case side2 => repeat (first | (with_reducible first | exact HB.out | apply below_alloc | apply pw_below_drewN | apply below_drew1 | refine below_set ?_ (IsS189.ge HI446.out)) | exact HB.out)); rintro e w36 ⟨rfl, hi, hb, hk⟩; have n0_ := Aside0.mk (hb); have n1_ := Aside0.mk (hi); clear HB; clear HI446; have HB := n0_; have HI446 := n1_; clear n0_ n1_; (try clear hb); (try clear hb2); (try clear hk); (try clear hi)))
                                go_ret
                                exact ⟨by first | rfl | (simp [errW_none, errW_some] <;> rfl) | (simp [*, errW_none, errW_some] <;> rfl), by repeat (first | (with_reducible first | exact HB.out | apply below_alloc | apply pw_below_drewN | apply below_drew1 | refine below_set ?_ (IsS189.ge HI446.out)) | exact HB.out)⟩
                              · replace c30 := Bool.eq_false_iff.mpr c30
                                subst c30
                                have H1 : (none) = some r := by rw [if_neg (show ¬ (false = true) by decide)] at H; exact H
                                clear H
                                have H := H1
                                clear H1
                                exact absurd H (by simp)
                            · rw [if_neg c28] at H
                              exact absurd H (by simp)
                          · rw [if_neg c26] at H
                            exact absurd H (by simp)
                        · rw [if_neg c25] at H
                          exact absurd H (by simp)
                      · replace c24 := Bool.eq_false_iff.mpr c24
                        subst c24
                        have H1 : (none) = some r := by rw [if_neg (show ¬ (false = true) by decide)] at H; exact H
                        clear H
                        have H := H1
                        clear H1
                        exact absurd H (by simp)
              · rw [if_neg c14] at H
                exact absurd H (by simp)

end Go.Proofs.YtigdjhnpngjhjaaDoor.PWr

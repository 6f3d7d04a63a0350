-- written by a program of this claim's own (wip/tools/pp.py), after the kit's printer
import Derived.Test.YtigdjhnpngjhjaaDoorPWix0
namespace Go.Proofs.YtigdjhnpngjhjaaDoor.PWi
open Go.RowKit Go.Proofs.YtigdjhnpngjhjaaDoorW.PrintWords Go.Proofs.YtigdjhnpngjhjaaDoorW.PrintLast Go.Proofs.YtigdjhnpngjhjaaDoorW.PrintMore
attribute [local go_sem] max2_int min2_int max_two min_two max_three min_three max_four min_four   -- for this text's walks alone
set_option linter.unusedVariables false
set_option linter.unusedSimpArgs false

/-! ### taquinlaw01_few: function 22 -/
mutual
def taquinlaw01_few.l0 : Nat → List (S25) → Int → Int → Option (Bool)
  | 0, _, _, _ => none
  | k + 1, x0, x3, x4 => if x4 < (x0.length : Int) then (if 0 ≤ x4 then (if (((rd_T25 x0 x4).f3).length : Int) > 400 then (taquinlaw01_few.j1 k x0 x3 x4 true) else (if (((rd_T25 x0 x4).f4).length : Int) > 400 then (taquinlaw01_few.j1 k x0 x3 x4 true) else (taquinlaw01_few.j1 k x0 x3 x4 (decide ((((rd_T25 x0 x4).f2).size : Int) > 400))))) else (none)) else (some (decide (x3 ≤ 400)))
def taquinlaw01_few.j1 : Nat → List (S25) → Int → Int → Bool → Option (Bool)
  | 0, _, _, _, _ => none
  | k + 1, x0, x3, x4, x39 => if x39 = true then (some false) else (if 0 ≤ x4 then (if x4 < (x0.length : Int) then (taquinlaw01_few.l1 k x0 (wrap64 ((wrap64 ((wrap64 (x3 + (((rd_T25 x0 x4).f2).size : Int))) + (((rd_T25 x0 x4).f3).length : Int))) + (((rd_T25 x0 x4).f4).length : Int))) x4 0) else (none)) else (none))
def taquinlaw01_few.l1 : Nat → List (S25) → Int → Int → Int → Option (Bool)
  | 0, _, _, _, _ => none
  | k + 1, x0, x3, x4, x5 => if 0 ≤ x4 then (if x4 < (x0.length : Int) then (if x5 < (((rd_T25 x0 x4).f4).length : Int) then (if 0 ≤ x5 then (if ((rdOf ByteArray.empty ((rd_T25 x0 x4).f4) x5).size : Int) > 400 then (some false) else (taquinlaw01_few.l1 k x0 (wrap64 (x3 + ((rdOf ByteArray.empty ((rd_T25 x0 x4).f4) x5).size : Int))) x4 (wrap64 (x5 + 1)))) else (none)) else (taquinlaw01_few.l0 k x0 x3 (wrap64 (x4 + 1)))) else (none)) else (none)
end
def taquinlaw01_few.f (k : Nat) (l0 : List (S25)) : Option (Bool) := if (l0.length : Int) > 20 then (some false) else (taquinlaw01_few.l0 k l0 0 0)
theorem taquinlaw01_few.mono_l : ∀ k, (∀ y0 y1 y2, LeO (taquinlaw01_few.l0 k y0 y1 y2) (taquinlaw01_few.l0 (k + 1) y0 y1 y2)) ∧ (∀ y0 y1 y2 y3, LeO (taquinlaw01_few.j1 k y0 y1 y2 y3) (taquinlaw01_few.j1 (k + 1) y0 y1 y2 y3)) ∧ (∀ y0 y1 y2 y3, LeO (taquinlaw01_few.l1 k y0 y1 y2 y3) (taquinlaw01_few.l1 (k + 1) y0 y1 y2 y3))
  | 0 => ⟨fun _ _ _ r h => by simp [taquinlaw01_few.l0] at h, fun _ _ _ _ r h => by simp [taquinlaw01_few.j1] at h, fun _ _ _ _ r h => by simp [taquinlaw01_few.l1] at h⟩
  | k + 1 => by
    obtain ⟨ih0, ih1, ih2⟩ := taquinlaw01_few.mono_l k
    refine ⟨?_, ?_, ?_⟩
    · intro y0 y1 y2
      unfold taquinlaw01_few.l0
      repeat' first
      | (with_reducible exact ih0 _ _ _)
      | (with_reducible exact ih1 _ _ _ _)
      | (with_reducible exact ih2 _ _ _ _)
      | (with_reducible exact LeO.refl _)
      | (with_reducible exact LeO.none _)
      | (with_reducible refine LeO.ite ?_ ?_)
      | (with_reducible refine LeO.bind ?_ (fun _ => ?_))
      | exact ih0 _ _ _
      | exact ih1 _ _ _ _
      | exact ih2 _ _ _ _
      | exact LeO.none _
      | refine LeO.ite ?_ ?_
      | refine LeO.bind ?_ (fun _ => ?_)
    · intro y0 y1 y2 y3
      unfold taquinlaw01_few.j1
      repeat' first
      | (with_reducible exact ih0 _ _ _)
      | (with_reducible exact ih1 _ _ _ _)
      | (with_reducible exact ih2 _ _ _ _)
      | (with_reducible exact LeO.refl _)
      | (with_reducible exact LeO.none _)
      | (with_reducible refine LeO.ite ?_ ?_)
      | (with_reducible refine LeO.bind ?_ (fun _ => ?_))
      | exact ih0 _ _ _
      | exact ih1 _ _ _ _
      | exact ih2 _ _ _ _
      | exact LeO.none _
      | refine LeO.ite ?_ ?_
      | refine LeO.bind ?_ (fun _ => ?_)
    · intro y0 y1 y2 y3
      unfold taquinlaw01_few.l1
      repeat' first
      | (with_reducible exact ih0 _ _ _)
      | (with_reducible exact ih1 _ _ _ _)
      | (with_reducible exact ih2 _ _ _ _)
      | (with_reducible exact LeO.refl _)
      | (with_reducible exact LeO.none _)
      | (with_reducible refine LeO.ite ?_ ?_)
      | (with_reducible refine LeO.bind ?_ (fun _ => ?_))
      | exact ih0 _ _ _
      | exact ih1 _ _ _ _
      | exact ih2 _ _ _ _
      | exact LeO.none _
      | refine LeO.ite ?_ ?_
      | refine LeO.bind ?_ (fun _ => ?_)
theorem taquinlaw01_few.mono : ∀ a0 k, LeO (taquinlaw01_few.f k a0) (taquinlaw01_few.f (k + 1) a0) := by
  intro a0 k
  obtain ⟨ih0, ih1, ih2⟩ := taquinlaw01_few.mono_l k
  unfold taquinlaw01_few.f
  repeat' first
      | (with_reducible exact ih0 _ _ _)
      | (with_reducible exact ih1 _ _ _ _)
      | (with_reducible exact ih2 _ _ _ _)
      | (with_reducible exact LeO.refl _)
      | (with_reducible exact LeO.none _)
      | (with_reducible refine LeO.ite ?_ ?_)
      | (with_reducible refine LeO.bind ?_ (fun _ => ?_))
      | exact ih0 _ _ _
      | exact ih1 _ _ _ _
      | exact ih2 _ _ _ _
      | exact LeO.none _
      | refine LeO.ite ?_ ?_
      | refine LeO.bind ?_ (fun _ => ?_)
set_option maxHeartbeats 8000000 in
set_option maxRecDepth 100000 in
theorem taquinlaw01_few.calls (k : Nat) (A0 : Option Addr) (c0 : Nat) (l0 : List (S25)) (r : Bool) (w : World) (hr0 : Kd.C k25 w A0 l0.length l0) (hc0 : l0.length ≤ c0) (h : taquinlaw01_few.f k l0 = some r) :
    Calls Tryd.prog 22 #[.slice A0 l0.length c0] w fun e w' => e = .returned (.bool r) ∧ Drawn0 w w' := by
  have HR0 := Aside0.mk hr0
  have HC0 := Aside0.mk hc0
  clear hr0 hc0
  have H : (if (l0.length : Int) > 20 then (some false) else (taquinlaw01_few.l0 k l0 0 0)) = some r := h
  clear h
  by_cases c2 : (l0.length : Int) > 20
  · rw [if_pos c2] at H
    have c2b0 : decide (20 < (l0.length : Int)) = true := decide_eq_true c2
    have c2b1 : decide (20 < l0.length) = true := decide_eq_true (by omega)
    clear c2
    obtain rfl := Option.some.inj H
    go_enter Tryd.func22, Tryd.ntmps22
    go_wp2
    repeat (go_quiet (fail); try go_wp2)
    go_ret
    exact ⟨by first | rfl | (simp; done) | (simp [*]; done), by repeat (first | exact Drawn0.refl _ | apply Drawn0.step)⟩
  · rw [if_neg c2] at H
    have c2b0 : decide (20 < (l0.length : Int)) = false := decide_eq_false c2
    have c2b1 : decide (20 < l0.length) = false := decide_eq_false (by omega)
    clear c2
    have H' := Aside0.mk H
    clear H
    go_enter Tryd.func22, Tryd.ntmps22
    go_wp2
    repeat (go_quiet (fail); try go_wp2)
    go_loopg [3, 4] k (fun kq v3 v4 w' => ∃ (x3_1 : Int) (x4_1 : Int), v3 = .int .i64 x3_1 ∧ v4 = .int .i64 x4_1 ∧ Aside0 (taquinlaw01_few.l0 kq l0 x3_1 x4_1 = some r) ∧ Aside0 (kq ≤ k) ∧ Drawn0 w w')
    case atStart => exact ⟨(0), (0), (by first | rfl | (simp; done) | (simp [*]; done)), (by first | rfl | (simp; done) | (simp [*]; done)), H', ⟨Nat.le_refl _⟩, by repeat (first | exact Drawn0.refl _ | apply Drawn0.step)⟩
    case round =>
      clear H'
      try clear c2
      try clear c2b0
      try clear c2b1
      try clear p2
      obtain ⟨x3_1, x4_1, rfl, rfl, HA, HK1, ⟨m1, rfl⟩⟩ := hrel
      cases gk with
      | zero => exact absurd HA.out (by simp [taquinlaw01_few.l0])
      | succ k1 =>
        have H := HA.out
        clear HA
        simp only [taquinlaw01_few.l0] at H
        by_cases c3 : x4_1 < (l0.length : Int)
        · rw [if_pos c3] at H
          have c3b0 : decide (x4_1 < (l0.length : Int)) = true := decide_eq_true c3
          clear c3
          have HC4 := Aside0.mk H
          clear H
          go_upto_region 7 with (fail)
          repeat (go_quiet (fail); go_upto_region 7 with (fail))
          go_cut [39] (fun v39 wc => ∃ (kq : Nat) (x39_3 : Bool), v39 = .bool x39_3 ∧ Aside0 (taquinlaw01_few.j1 kq l0 x3_1 x4_1 x39_3 = some r) ∧ Aside0 (kq ≤ k1) ∧ Drawn0 w wc)
          case first =>
            have H := HC4.out
            clear HC4
            by_cases c5 : 0 ≤ x4_1
            · rw [if_pos c5] at H
              have c5b0 : decide (0 ≤ x4_1) = true := decide_eq_true c5
              clear c5
              (first | rw [c5b0] | (simp only [i64_w, i32_w]; rw [c5b0]) | skip)
              by_cases c6 : (((rd_T25 l0 x4_1).f3).length : Int) > 400
              · rw [if_pos c6] at H
                have c6b0 : decide (400 < (((rd_T25 l0 x4_1).f3).length : Int)) = true := decide_eq_true c6
                have c6b1 : decide (400 < ((rd_T25 l0 x4_1).f3).length) = true := decide_eq_true (by omega)
                clear c6
                have H' := Aside0.mk H
                clear H
                have p130 : 0 ≤ (x4_1 : Int) := of_decide_eq_true (by first | (with_reducible assumption) | assumption)
                have q130 : x4_1 < (l0.length : Int) := of_decide_eq_true (by first | (with_reducible assumption) | assumption)
                obtain ⟨ad130, A130_3, c130_3, A130_4, c130_4, e130, hx130_0, hx130_1, hx130_2, hx130_3, hx130_4, hl130_3, hi130_3, hl130_4, hi130_4⟩ := at_T25 HR0.out x4_1 p130 q130
                cases e130
                have HR130_3 := Aside0.mk hi130_3
                have HC130_3 := Aside0.mk hl130_3
                clear hi130_3 hl130_3
                have HR130_4 := Aside0.mk hi130_4
                have HC130_4 := Aside0.mk hl130_4
                clear hi130_4 hl130_4
                replace p130 := eq_true p130
                replace q130 := eq_true q130
                go_wp2
                repeat (go_quiet (fail); try go_wp2)
                go_meet
                case rel => exact ⟨_, (true), (by first | rfl | (simp; done) | (simp [*]; done)), H', ⟨by have := HK1.out; first | omega | exact Nat.le_refl _⟩, by repeat (first | exact Drawn0.refl _ | apply Drawn0.step)⟩
              · rw [if_neg c6] at H
                have c6b0 : decide (400 < (((rd_T25 l0 x4_1).f3).length : Int)) = false := decide_eq_false c6
                have c6b1 : decide (400 < ((rd_T25 l0 x4_1).f3).length) = false := decide_eq_false (by omega)
                clear c6
                by_cases c7 : (((rd_T25 l0 x4_1).f4).length : Int) > 400
                · rw [if_pos c7] at H
                  have c7b0 : decide (400 < (((rd_T25 l0 x4_1).f4).length : Int)) = true := decide_eq_true c7
                  have c7b1 : decide (400 < ((rd_T25 l0 x4_1).f4).length) = true := decide_eq_true (by omega)
                  clear c7
                  have H' := Aside0.mk H
                  clear H
                  have p130 : 0 ≤ (x4_1 : Int) := of_decide_eq_true (by first | (with_reducible assumption) | assumption)
                  have q130 : x4_1 < (l0.length : Int) := of_decide_eq_true (by first | (with_reducible assumption) | assumption)
                  obtain ⟨ad130, A130_3, c130_3, A130_4, c130_4, e130, hx130_0, hx130_1, hx130_2, hx130_3, hx130_4, hl130_3, hi130_3, hl130_4, hi130_4⟩ := at_T25 HR0.out x4_1 p130 q130
                  cases e130
                  have HR130_3 := Aside0.mk hi130_3
                  have HC130_3 := Aside0.mk hl130_3
                  clear hi130_3 hl130_3
                  have HR130_4 := Aside0.mk hi130_4
                  have HC130_4 := Aside0.mk hl130_4
                  clear hi130_4 hl130_4
                  replace p130 := eq_true p130
                  replace q130 := eq_true q130
                  have p131 : 0 ≤ (x4_1 : Int) := of_decide_eq_true (by first | (with_reducible assumption) | assumption)
                  have q131 : x4_1 < (l0.length : Int) := of_decide_eq_true (by first | (with_reducible assumption) | assumption)
                  obtain ⟨ad131, A131_3, c131_3, A131_4, c131_4, e131, hx131_0, hx131_1, hx131_2, hx131_3, hx131_4, hl131_3, hi131_3, hl131_4, hi131_4⟩ := at_T25 HR0.out x4_1 p131 q131
                  obtain rfl : ad130 = ad131 := (by injection e131)
                  have HR131_3 := Aside0.mk hi131_3
                  have HC131_3 := Aside0.mk hl131_3
                  clear hi131_3 hl131_3
                  have HR131_4 := Aside0.mk hi131_4
                  have HC131_4 := Aside0.mk hl131_4
                  clear hi131_4 hl131_4
                  replace p131 := eq_true p131
                  replace q131 := eq_true q131
                  have ea_ := Option.some.inj (hx130_3.symm.trans hx131_3)
                  injection ea_ with ea_ en_ ec_
                  subst ea_
                  subst ec_
                  clear en_
                  have ea_ := Option.some.inj (hx130_4.symm.trans hx131_4)
                  injection ea_ with ea_ en_ ec_
                  subst ea_
                  subst ec_
                  clear en_
                  go_wp2
                  repeat (go_quiet (fail); try go_wp2)
                  go_meet
                  case rel => exact ⟨_, (true), (by first | rfl | (simp; done) | (simp [*]; done)), H', ⟨by have := HK1.out; first | omega | exact Nat.le_refl _⟩, by repeat (first | exact Drawn0.refl _ | apply Drawn0.step)⟩
                · rw [if_neg c7] at H
                  have c7b0 : decide (400 < (((rd_T25 l0 x4_1).f4).length : Int)) = false := decide_eq_false c7
                  have c7b1 : decide (400 < ((rd_T25 l0 x4_1).f4).length) = false := decide_eq_false (by omega)
                  clear c7
                  have H' := Aside0.mk H
                  clear H
                  have p130 : 0 ≤ (x4_1 : Int) := of_decide_eq_true (by first | (with_reducible assumption) | assumption)
                  have q130 : x4_1 < (l0.length : Int) := of_decide_eq_true (by first | (with_reducible assumption) | assumption)
                  obtain ⟨ad130, A130_3, c130_3, A130_4, c130_4, e130, hx130_0, hx130_1, hx130_2, hx130_3, hx130_4, hl130_3, hi130_3, hl130_4, hi130_4⟩ := at_T25 HR0.out x4_1 p130 q130
                  cases e130
                  have HR130_3 := Aside0.mk hi130_3
                  have HC130_3 := Aside0.mk hl130_3
                  clear hi130_3 hl130_3
                  have HR130_4 := Aside0.mk hi130_4
                  have HC130_4 := Aside0.mk hl130_4
                  clear hi130_4 hl130_4
                  replace p130 := eq_true p130
                  replace q130 := eq_true q130
                  have p131 : 0 ≤ (x4_1 : Int) := of_decide_eq_true (by first | (with_reducible assumption) | assumption)
                  have q131 : x4_1 < (l0.length : Int) := of_decide_eq_true (by first | (with_reducible assumption) | assumption)
                  obtain ⟨ad131, A131_3, c131_3, A131_4, c131_4, e131, hx131_0, hx131_1, hx131_2, hx131_3, hx131_4, hl131_3, hi131_3, hl131_4, hi131_4⟩ := at_T25 HR0.out x4_1 p131 q131
                  obtain rfl : ad130 = ad131 := (by injection e131)
                  have HR131_3 := Aside0.mk hi131_3
                  have HC131_3 := Aside0.mk hl131_3
                  clear hi131_3 hl131_3
                  have HR131_4 := Aside0.mk hi131_4
                  have HC131_4 := Aside0.mk hl131_4
                  clear hi131_4 hl131_4
                  replace p131 := eq_true p131
                  replace q131 := eq_true q131
                  have ea_ := Option.some.inj (hx130_3.symm.trans hx131_3)
                  injection ea_ with ea_ en_ ec_
                  subst ea_
                  subst ec_
                  clear en_
                  have ea_ := Option.some.inj (hx130_4.symm.trans hx131_4)
                  injection ea_ with ea_ en_ ec_
                  subst ea_
                  subst ec_
                  clear en_
                  have p132 : 0 ≤ (x4_1 : Int) := of_decide_eq_true (by first | (with_reducible assumption) | assumption)
                  have q132 : x4_1 < (l0.length : Int) := of_decide_eq_true (by first | (with_reducible assumption) | assumption)
                  obtain ⟨ad132, A132_3, c132_3, A132_4, c132_4, e132, hx132_0, hx132_1, hx132_2, hx132_3, hx132_4, hl132_3, hi132_3, hl132_4, hi132_4⟩ := at_T25 HR0.out x4_1 p132 q132
                  obtain rfl : ad130 = ad132 := (by injection e132)
                  have HR132_3 := Aside0.mk hi132_3
                  have HC132_3 := Aside0.mk hl132_3
                  clear hi132_3 hl132_3
                  have HR132_4 := Aside0.mk hi132_4
                  have HC132_4 := Aside0.mk hl132_4
                  clear hi132_4 hl132_4
                  replace p132 := eq_true p132
                  replace q132 := eq_true q132
                  have ea_ := Option.some.inj (hx130_3.symm.trans hx132_3)
                  injection ea_ with ea_ en_ ec_
                  subst ea_
                  subst ec_
                  clear en_
                  have ea_ := Option.some.inj (hx130_4.symm.trans hx132_4)
                  injection ea_ with ea_ en_ ec_
                  subst ea_
                  subst ec_
                  clear en_
                  go_wp2
                  repeat (go_quiet (fail); try go_wp2)
                  go_meet
                  case rel => exact ⟨_, (decide ((((rd_T25 l0 x4_1).f2).size : Int) > 400)), (by first | rfl | (simp; done) | (simp [*]; done)), H', ⟨by have := HK1.out; first | omega | exact Nat.le_refl _⟩, by repeat (first | exact Drawn0.refl _ | apply Drawn0.step)⟩
            · rw [if_neg c5] at H
              exact absurd H (by simp)
          case rest =>
            clear HC4
            try clear c1
            try clear p1
            try clear q1
            try clear hx1
            try clear c2
            try clear c2b0
            try clear c2b1
            try clear p2
            try clear c3
            try clear c3b0
            try clear c5
            try clear c5b0
            try clear c6
            try clear c6b0
            try clear c6b1
            try clear c7
            try clear c7b0
            try clear c7b1
            try clear hx130_0
            try clear hx130_1
            try clear hx130_2
            try clear hx130_3
            try clear hx130_4
            try clear hx131_0
            try clear hx131_1
            try clear hx131_2
            try clear hx131_3
            try clear hx131_4
            try clear hx132_0
            try clear hx132_1
            try clear hx132_2
            try clear hx132_3
            try clear hx132_4
            try clear p130
            try clear p131
            try clear p132
            try clear p2
            try clear q130
            try clear q131
            try clear q132
            obtain ⟨kq, x39_3, rfl, HA, HJ3, ⟨mc3, rfl⟩⟩ := hcut
            cases kq with
            | zero => exact absurd HA.out (by simp [taquinlaw01_few.j1])
            | succ kj3 =>
              have H := HA.out
              clear HA
              simp only [taquinlaw01_few.j1] at H
              by_cases c8 : x39_3 = true
              · subst c8
                have H1 : (some false) = some r := by rw [if_pos rfl] at H; exact H
                clear H
                have H := H1
                clear H1
                obtain rfl := Option.some.inj H
                go_wp2
                repeat (go_quiet (fail); try go_wp2)
                go_ret
                exact ⟨by first | rfl | (simp; done) | (simp [*]; done), by repeat (first | exact Drawn0.refl _ | apply Drawn0.step)⟩
              · replace c8 := Bool.eq_false_iff.mpr c8
                subst c8
                have H1 : (if 0 ≤ x4_1 then (if x4_1 < (l0.length : Int) then (taquinlaw01_few.l1 kj3 l0 (wrap64 ((wrap64 ((wrap64 (x3_1 + (((rd_T25 l0 x4_1).f2).size : Int))) + (((rd_T25 l0 x4_1).f3).length : Int))) + (((rd_T25 l0 x4_1).f4).length : Int))) x4_1 0) else (none)) else (none)) = some r := by rw [if_neg (show ¬ (false = true) by decide)] at H; exact H
                clear H
                have H := H1
                clear H1
                by_cases c9 : 0 ≤ x4_1
                · rw [if_pos c9] at H
                  have c9b0 : decide (0 ≤ x4_1) = true := decide_eq_true c9
                  clear c9
                  by_cases c10 : x4_1 < (l0.length : Int)
                  · rw [if_pos c10] at H
                    have c10b0 : decide (x4_1 < (l0.length : Int)) = true := decide_eq_true c10
                    clear c10
                    have H' := Aside0.mk H
                    clear H
                    have p133 : 0 ≤ (x4_1 : Int) := of_decide_eq_true (by first | (with_reducible assumption) | assumption)
                    have q133 : x4_1 < (l0.length : Int) := of_decide_eq_true (by first | (with_reducible assumption) | assumption)
                    obtain ⟨ad133, A133_3, c133_3, A133_4, c133_4, e133, hx133_0, hx133_1, hx133_2, hx133_3, hx133_4, hl133_3, hi133_3, hl133_4, hi133_4⟩ := at_T25 HR0.out x4_1 p133 q133
                    cases e133
                    have HR133_3 := Aside0.mk hi133_3
                    have HC133_3 := Aside0.mk hl133_3
                    clear hi133_3 hl133_3
                    have HR133_4 := Aside0.mk hi133_4
                    have HC133_4 := Aside0.mk hl133_4
                    clear hi133_4 hl133_4
                    replace p133 := eq_true p133
                    replace q133 := eq_true q133
                    have p134 : 0 ≤ (x4_1 : Int) := of_decide_eq_true (by first | (with_reducible assumption) | assumption)
                    have q134 : x4_1 < (l0.length : Int) := of_decide_eq_true (by first | (with_reducible assumption) | assumption)
                    obtain ⟨ad134, A134_3, c134_3, A134_4, c134_4, e134, hx134_0, hx134_1, hx134_2, hx134_3, hx134_4, hl134_3, hi134_3, hl134_4, hi134_4⟩ := at_T25 HR0.out x4_1 p134 q134
                    obtain rfl : ad133 = ad134 := (by injection e134)
                    have HR134_3 := Aside0.mk hi134_3
                    have HC134_3 := Aside0.mk hl134_3
                    clear hi134_3 hl134_3
                    have HR134_4 := Aside0.mk hi134_4
                    have HC134_4 := Aside0.mk hl134_4
                    clear hi134_4 hl134_4
                    replace p134 := eq_true p134
                    replace q134 := eq_true q134
                    have ea_ := Option.some.inj (hx133_3.symm.trans hx134_3)
                    injection ea_ with ea_ en_ ec_
                    subst ea_
                    subst ec_
                    clear en_
                    have ea_ := Option.some.inj (hx133_4.symm.trans hx134_4)
                    injection ea_ with ea_ en_ ec_
                    subst ea_
                    subst ec_
                    clear en_
                    have p135 : 0 ≤ (x4_1 : Int) := of_decide_eq_true (by first | (with_reducible assumption) | assumption)
                    have q135 : x4_1 < (l0.length : Int) := of_decide_eq_true (by first | (with_reducible assumption) | assumption)
                    obtain ⟨ad135, A135_3, c135_3, A135_4, c135_4, e135, hx135_0, hx135_1, hx135_2, hx135_3, hx135_4, hl135_3, hi135_3, hl135_4, hi135_4⟩ := at_T25 HR0.out x4_1 p135 q135
                    obtain rfl : ad133 = ad135 := (by injection e135)
                    have HR135_3 := Aside0.mk hi135_3
                    have HC135_3 := Aside0.mk hl135_3
                    clear hi135_3 hl135_3
                    have HR135_4 := Aside0.mk hi135_4
                    have HC135_4 := Aside0.mk hl135_4
                    clear hi135_4 hl135_4
                    replace p135 := eq_true p135
                    replace q135 := eq_true q135
                    have ea_ := Option.some.inj (hx133_3.symm.trans hx135_3)
                    injection ea_ with ea_ en_ ec_
                    subst ea_
                    subst ec_
                    clear en_
                    have ea_ := Option.some.inj (hx133_4.symm.trans hx135_4)
                    injection ea_ with ea_ en_ ec_
                    subst ea_
                    subst ec_
                    clear en_
                    go_wp2
                    repeat (go_quiet (fail); try go_wp2)
                    go_loopg [3, 5] kj3 (fun kq v3 v5 w' => ∃ (x3_3 : Int) (x5_3 : Int), v3 = .int .i64 x3_3 ∧ v5 = .int .i64 x5_3 ∧ Aside0 (taquinlaw01_few.l1 kq l0 x3_3 x4_1 x5_3 = some r) ∧ Aside0 (kq ≤ kj3) ∧ Drawn0 w w')
                    case atStart => exact ⟨(wrap64 ((wrap64 ((wrap64 (x3_1 + (((rd_T25 l0 x4_1).f2).size : Int))) + (((rd_T25 l0 x4_1).f3).length : Int))) + (((rd_T25 l0 x4_1).f4).length : Int))), (0), (by first | rfl | (simp; done) | (simp [*]; done)), (by first | rfl | (simp; done) | (simp [*]; done)), H', ⟨Nat.le_refl _⟩, by repeat (first | exact Drawn0.refl _ | apply Drawn0.step)⟩
                    case round =>
                      clear H'
                      try clear c1
                      try clear p1
                      try clear q1
                      try clear hx1
                      try clear c2
                      try clear c2b0
                      try clear c2b1
                      try clear p2
                      try clear c3
                      try clear c3b0
                      try clear c5
                      try clear c5b0
                      try clear c6
                      try clear c6b0
                      try clear c6b1
                      try clear p6
                      try clear c7
                      try clear c7b0
                      try clear c7b1
                      try clear c8
                      try clear c9
                      try clear c9b0
                      try clear c10
                      try clear c10b0
                      try clear hx130_0
                      try clear hx130_1
                      try clear hx130_2
                      try clear hx130_3
                      try clear hx130_4
                      try clear hx131_0
                      try clear hx131_1
                      try clear hx131_2
                      try clear hx131_3
                      try clear hx131_4
                      try clear hx132_0
                      try clear hx132_1
                      try clear hx132_2
                      try clear hx132_3
                      try clear hx132_4
                      try clear hx133_0
                      try clear hx133_1
                      try clear hx133_2
                      try clear hx133_3
                      try clear hx133_4
                      try clear hx134_0
                      try clear hx134_1
                      try clear hx134_2
                      try clear hx134_3
                      try clear hx134_4
                      try clear hx135_0
                      try clear hx135_1
                      try clear hx135_2
                      try clear hx135_3
                      try clear hx135_4
                      try clear p1
                      try clear p130
                      try clear p131
                      try clear p132
                      try clear p133
                      try clear p134
                      try clear p135
                      try clear p2
                      try clear q1
                      try clear q130
                      try clear q131
                      try clear q132
                      try clear q133
                      try clear q134
                      try clear q135
                      obtain ⟨x3_3, x5_3, rfl, rfl, HA, HK3, ⟨m3, rfl⟩⟩ := hrel
                      cases gk with
                      | zero => exact absurd HA.out (by simp [taquinlaw01_few.l1])
                      | succ k3 =>
                        have H := HA.out
                        clear HA
                        simp only [taquinlaw01_few.l1] at H
                        by_cases c11 : 0 ≤ x4_1
                        · rw [if_pos c11] at H
                          have c11b0 : decide (0 ≤ x4_1) = true := decide_eq_true c11
                          clear c11
                          by_cases c12 : x4_1 < (l0.length : Int)
                          · rw [if_pos c12] at H
                            have c12b0 : decide (x4_1 < (l0.length : Int)) = true := decide_eq_true c12
                            clear c12
                            by_cases c13 : x5_3 < (((rd_T25 l0 x4_1).f4).length : Int)
                            · rw [if_pos c13] at H
                              have c13b0 : decide (x5_3 < (((rd_T25 l0 x4_1).f4).length : Int)) = true := decide_eq_true c13
                              clear c13
                              by_cases c14 : 0 ≤ x5_3
                              · rw [if_pos c14] at H
                                have c14b0 : decide (0 ≤ x5_3) = true := decide_eq_true c14
                                clear c14
                                by_cases c15 : ((rdOf ByteArray.empty ((rd_T25 l0 x4_1).f4) x5_3).size : Int) > 400
                                · rw [if_pos c15] at H
                                  have c15b0 : decide (400 < ((rdOf ByteArray.empty ((rd_T25 l0 x4_1).f4) x5_3).size : Int)) = true := decide_eq_true c15
                                  have c15b1 : decide (400 < (rdOf ByteArray.empty ((rd_T25 l0 x4_1).f4) x5_3).size) = true := decide_eq_true (by omega)
                                  clear c15
                                  obtain rfl := Option.some.inj H
                                  have p136 : 0 ≤ (x4_1 : Int) := of_decide_eq_true (by first | (with_reducible assumption) | assumption)
                                  have q136 : x4_1 < (l0.length : Int) := of_decide_eq_true (by first | (with_reducible assumption) | assumption)
                                  obtain ⟨ad136, A136_3, c136_3, A136_4, c136_4, e136, hx136_0, hx136_1, hx136_2, hx136_3, hx136_4, hl136_3, hi136_3, hl136_4, hi136_4⟩ := at_T25 HR0.out x4_1 p136 q136
                                  obtain rfl : ad133 = ad136 := (by injection e136)
                                  have HR136_3 := Aside0.mk hi136_3
                                  have HC136_3 := Aside0.mk hl136_3
                                  clear hi136_3 hl136_3
                                  have HR136_4 := Aside0.mk hi136_4
                                  have HC136_4 := Aside0.mk hl136_4
                                  clear hi136_4 hl136_4
                                  replace p136 := eq_true p136
                                  replace q136 := eq_true q136
                                  have p137 : 0 ≤ (x4_1 : Int) := of_decide_eq_true (by first | (with_reducible assumption) | assumption)
                                  have q137 : x4_1 < (l0.length : Int) := of_decide_eq_true (by first | (with_reducible assumption) | assumption)
                                  obtain ⟨ad137, A137_3, c137_3, A137_4, c137_4, e137, hx137_0, hx137_1, hx137_2, hx137_3, hx137_4, hl137_3, hi137_3, hl137_4, hi137_4⟩ := at_T25 HR0.out x4_1 p137 q137
                                  obtain rfl : ad133 = ad137 := (by injection e137)
                                  have HR137_3 := Aside0.mk hi137_3
                                  have HC137_3 := Aside0.mk hl137_3
                                  clear hi137_3 hl137_3
                                  have HR137_4 := Aside0.mk hi137_4
                                  have HC137_4 := Aside0.mk hl137_4
                                  clear hi137_4 hl137_4
                                  replace p137 := eq_true p137
                                  replace q137 := eq_true q137
                                  have ea_ := Option.some.inj (hx136_3.symm.trans hx137_3)
                                  injection ea_ with ea_ en_ ec_
                                  subst ea_
                                  subst ec_
                                  clear en_
                                  have ea_ := Option.some.inj (hx136_4.symm.trans hx137_4)
                                  injection ea_ with ea_ en_ ec_
                                  subst ea_
                                  subst ec_
                                  clear en_
                                  have p138 : 0 ≤ (x5_3 : Int) := of_decide_eq_true (by first | (with_reducible assumption) | assumption)
                                  have q138 : x5_3 < (((rd_T25 l0 x4_1).f4).length : Int) := of_decide_eq_true (by first | (with_reducible assumption) | assumption)
                                  obtain ⟨ad138, e138, hx138_0⟩ := Kd.at_string HR137_4.out x5_3 p138 q138
                                  cases e138
                                  replace p138 := eq_true p138
                                  replace q138 := eq_true q138
                                  go_wp2
                                  repeat (go_quiet (fail); try go_wp2)
                                  go_ret
                                  exact ⟨by first | rfl | (simp; done) | (simp [*]; done), by repeat (first | exact Drawn0.refl _ | apply Drawn0.step)⟩
                                · rw [if_neg c15] at H
                                  have c15b0 : decide (400 < ((rdOf ByteArray.empty ((rd_T25 l0 x4_1).f4) x5_3).size : Int)) = false := decide_eq_false c15
                                  have c15b1 : decide (400 < (rdOf ByteArray.empty ((rd_T25 l0 x4_1).f4) x5_3).size) = false := decide_eq_false (by omega)
                                  clear c15
                                  have H' := Aside0.mk H
                                  clear H
                                  have p136 : 0 ≤ (x4_1 : Int) := of_decide_eq_true (by first | (with_reducible assumption) | assumption)
                                  have q136 : x4_1 < (l0.length : Int) := of_decide_eq_true (by first | (with_reducible assumption) | assumption)
                                  obtain ⟨ad136, A136_3, c136_3, A136_4, c136_4, e136, hx136_0, hx136_1, hx136_2, hx136_3, hx136_4, hl136_3, hi136_3, hl136_4, hi136_4⟩ := at_T25 HR0.out x4_1 p136 q136
                                  obtain rfl : ad133 = ad136 := (by injection e136)
                                  have HR136_3 := Aside0.mk hi136_3
                                  have HC136_3 := Aside0.mk hl136_3
                                  clear hi136_3 hl136_3
                                  have HR136_4 := Aside0.mk hi136_4
                                  have HC136_4 := Aside0.mk hl136_4
                                  clear hi136_4 hl136_4
                                  replace p136 := eq_true p136
                                  replace q136 := eq_true q136
                                  have p137 : 0 ≤ (x4_1 : Int) := of_decide_eq_true (by first | (with_reducible assumption) | assumption)
                                  have q137 : x4_1 < (l0.length : Int) := of_decide_eq_true (by first | (with_reducible assumption) | assumption)
                                  obtain ⟨ad137, A137_3, c137_3, A137_4, c137_4, e137, hx137_0, hx137_1, hx137_2, hx137_3, hx137_4, hl137_3, hi137_3, hl137_4, hi137_4⟩ := at_T25 HR0.out x4_1 p137 q137
                                  obtain rfl : ad133 = ad137 := (by injection e137)
                                  have HR137_3 := Aside0.mk hi137_3
                                  have HC137_3 := Aside0.mk hl137_3
                                  clear hi137_3 hl137_3
                                  have HR137_4 := Aside0.mk hi137_4
                                  have HC137_4 := Aside0.mk hl137_4
                                  clear hi137_4 hl137_4
                                  replace p137 := eq_true p137
                                  replace q137 := eq_true q137
                                  have ea_ := Option.some.inj (hx136_3.symm.trans hx137_3)
                                  injection ea_ with ea_ en_ ec_
                                  subst ea_
                                  subst ec_
                                  clear en_
                                  have ea_ := Option.some.inj (hx136_4.symm.trans hx137_4)
                                  injection ea_ with ea_ en_ ec_
                                  subst ea_
                                  subst ec_
                                  clear en_
                                  have p138 : 0 ≤ (x5_3 : Int) := of_decide_eq_true (by first | (with_reducible assumption) | assumption)
                                  have q138 : x5_3 < (((rd_T25 l0 x4_1).f4).length : Int) := of_decide_eq_true (by first | (with_reducible assumption) | assumption)
                                  obtain ⟨ad138, e138, hx138_0⟩ := Kd.at_string HR137_4.out x5_3 p138 q138
                                  cases e138
                                  replace p138 := eq_true p138
                                  replace q138 := eq_true q138
                                  have p139 : 0 ≤ (x4_1 : Int) := of_decide_eq_true (by first | (with_reducible assumption) | assumption)
                                  have q139 : x4_1 < (l0.length : Int) := of_decide_eq_true (by first | (with_reducible assumption) | assumption)
                                  obtain ⟨ad139, A139_3, c139_3, A139_4, c139_4, e139, hx139_0, hx139_1, hx139_2, hx139_3, hx139_4, hl139_3, hi139_3, hl139_4, hi139_4⟩ := at_T25 HR0.out x4_1 p139 q139
                                  obtain rfl : ad133 = ad139 := (by injection e139)
                                  have HR139_3 := Aside0.mk hi139_3
                                  have HC139_3 := Aside0.mk hl139_3
                                  clear hi139_3 hl139_3
                                  have HR139_4 := Aside0.mk hi139_4
                                  have HC139_4 := Aside0.mk hl139_4
                                  clear hi139_4 hl139_4
                                  replace p139 := eq_true p139
                                  replace q139 := eq_true q139
                                  have ea_ := Option.some.inj (hx136_3.symm.trans hx139_3)
                                  injection ea_ with ea_ en_ ec_
                                  subst ea_
                                  subst ec_
                                  clear en_
                                  have ea_ := Option.some.inj (hx136_4.symm.trans hx139_4)
                                  injection ea_ with ea_ en_ ec_
                                  subst ea_
                                  subst ec_
                                  clear en_
                                  have p140 : 0 ≤ (x5_3 : Int) := of_decide_eq_true (by first | (with_reducible assumption) | assumption)
                                  have q140 : x5_3 < (((rd_T25 l0 x4_1).f4).length : Int) := of_decide_eq_true (by first | (with_reducible assumption) | assumption)
                                  obtain ⟨ad140, e140, hx140_0⟩ := Kd.at_string HR139_4.out x5_3 p140 q140
                                  cases e140
                                  replace p140 := eq_true p140
                                  replace q140 := eq_true q140
                                  go_wp2
                                  repeat (go_quiet (fail); try go_wp2)
                                  go_roundg k3
                                  case measure => have := HK1.out; have := HJ3.out; have := HK3.out; omega
                                  case rel => exact ⟨(wrap64 (x3_3 + ((rdOf ByteArray.empty ((rd_T25 l0 x4_1).f4) x5_3).size : Int))), (wrap64 (x5_3 + 1)), (by first | rfl | (simp; done) | (simp [*]; done)), (by first | rfl | (simp; done) | (simp [*]; done)), H', ⟨by have := HK1.out; have := HJ3.out; have := HK3.out; omega⟩, by repeat (first | exact Drawn0.refl _ | apply Drawn0.step)⟩
                              · rw [if_neg c14] at H
                                exact absurd H (by simp)
                            · rw [if_neg c13] at H
                              have c13b0 : decide (x5_3 < (((rd_T25 l0 x4_1).f4).length : Int)) = false := decide_eq_false c13
                              clear c13
                              have H' := Aside0.mk H
                              clear H
                              have p136 : 0 ≤ (x4_1 : Int) := of_decide_eq_true (by first | (with_reducible assumption) | assumption)
                              have q136 : x4_1 < (l0.length : Int) := of_decide_eq_true (by first | (with_reducible assumption) | assumption)
                              obtain ⟨ad136, A136_3, c136_3, A136_4, c136_4, e136, hx136_0, hx136_1, hx136_2, hx136_3, hx136_4, hl136_3, hi136_3, hl136_4, hi136_4⟩ := at_T25 HR0.out x4_1 p136 q136
                              obtain rfl : ad133 = ad136 := (by injection e136)
                              have HR136_3 := Aside0.mk hi136_3
                              have HC136_3 := Aside0.mk hl136_3
                              clear hi136_3 hl136_3
                              have HR136_4 := Aside0.mk hi136_4
                              have HC136_4 := Aside0.mk hl136_4
                              clear hi136_4 hl136_4
                              replace p136 := eq_true p136
                              replace q136 := eq_true q136
                              go_wp2
                              repeat (go_quiet (fail); try go_wp2)
                              go_roundg k3
                              case measure => have := HK1.out; have := HJ3.out; have := HK3.out; omega
                              case rel => exact ⟨(x3_3), (wrap64 (x4_1 + 1)), (by first | rfl | (simp; done) | (simp [*]; done)), (by first | rfl | (simp; done) | (simp [*]; done)), H', ⟨by have := HK1.out; have := HJ3.out; have := HK3.out; omega⟩, by repeat (first | exact Drawn0.refl _ | apply Drawn0.step)⟩
                          · rw [if_neg c12] at H
                            exact absurd H (by simp)
                        · rw [if_neg c11] at H
                          exact absurd H (by simp)
                  · rw [if_neg c10] at H
                    exact absurd H (by simp)
                · rw [if_neg c9] at H
                  exact absurd H (by simp)
        · rw [if_neg c3] at H
          have c3b0 : decide (x4_1 < (l0.length : Int)) = false := decide_eq_false c3
          clear c3
          obtain rfl := Option.some.inj H
          go_wp2
          repeat (go_quiet (fail); try go_wp2)
          go_ret
          exact ⟨by first | rfl | (simp; done) | (simp [*]; done), by repeat (first | exact Drawn0.refl _ | apply Drawn0.step)⟩

/-! ### taquinref01_digits: function 142 -/
def taquinref01_digits.f : Nat → Int → Option (ByteArray)
  | 0, _ => none
  | k + 1, a0 => (some (([(wrap64 (48 - (Int.tmod a0 10))) % 256] : List Int) : List Int)).bind fun y141 => (if a0 > (-10) then (some (strOfNums y141)) else ((taquinref01_digits.f k (wrap64 (Int.tdiv a0 10))).bind fun t144 => (if t144.size + (strOfNums y141).size ≤ 9223372036854775807 then (some (t144 ++ (strOfNums y141))) else (none))))
theorem taquinref01_digits.mono_l : ∀ k, (∀ y0, LeO (taquinref01_digits.f k y0) (taquinref01_digits.f (k + 1) y0))
  | 0 => fun _ r h => by simp [taquinref01_digits.f] at h
  | k + 1 => by
    have ih0 := taquinref01_digits.mono_l k
    · intro y0
      unfold taquinref01_digits.f
      repeat' first
      | (with_reducible exact ih0 _)
      | (with_reducible exact LeO.refl _)
      | (with_reducible exact LeO.none _)
      | (with_reducible refine LeO.ite ?_ ?_)
      | (with_reducible refine LeO.bind ?_ (fun _ => ?_))
      | exact ih0 _
      | exact LeO.none _
      | refine LeO.ite ?_ ?_
      | refine LeO.bind ?_ (fun _ => ?_)
theorem taquinref01_digits.mono : ∀ a0 k, LeO (taquinref01_digits.f k a0) (taquinref01_digits.f (k + 1) a0) := by
  intro a0 k
  have ih0 := taquinref01_digits.mono_l k
  exact ih0 a0
set_option maxHeartbeats 8000000 in
set_option maxRecDepth 100000 in
theorem taquinref01_digits.calls (k : Nat) : ∀ (a0 : Int) (r : ByteArray) (w : World) (h : taquinref01_digits.f k a0 = some r),
    Calls Tryd.prog 142 #[.int .i64 a0] w fun e w' => e = .returned (.string r) ∧ Below w.heap.size w w' := by
  induction k using Nat.strongRecOn with
  | _ k ih =>
  intro a0 r w h
  cases k with
  | zero => exact absurd h (by simp [taquinref01_digits.f])
  | succ k =>
  simp only [taquinref01_digits.f] at h
  have HB := Aside0.mk (Below.refl w.heap.size w)
  have H : ((some (([(wrap64 (48 - (Int.tmod a0 10))) % 256] : List Int) : List Int)).bind fun y141 => (if a0 > (-10) then (some (strOfNums y141)) else ((taquinref01_digits.f k (wrap64 (Int.tdiv a0 10))).bind fun t144 => (if t144.size + (strOfNums y141).size ≤ 9223372036854775807 then (some (t144 ++ (strOfNums y141))) else (none))))) = some r := h
  clear h
  obtain ⟨y141, hy141⟩ : ∃ y_ : List Int, y_ = (([(wrap64 (48 - (Int.tmod a0 10))) % 256] : List Int)) := ⟨_, rfl⟩
  replace H : (if a0 > (-10) then (some (strOfNums y141)) else ((taquinref01_digits.f k (wrap64 (Int.tdiv a0 10))).bind fun t144 => (if t144.size + (strOfNums y141).size ≤ 9223372036854775807 then (some (t144 ++ (strOfNums y141))) else (none)))) = some r := by first | (rw [hy141]; with_reducible exact H) | (have H2_ := (Option.bind_some _ _).symm.trans H; rw [hy141]; with_reducible exact H2_) | (have H2_ := (Option.bind_some _ _).symm.trans H; with_reducible exact H2_) | with_reducible exact H | (rw [hy141]; exact H) | exact H
  have Ny141 := Aside0.mk hy141
  clear hy141
  by_cases c2 : a0 > (-10)
  · rw [if_pos c2] at H
    have c2b0 : decide ((-10) < a0) = true := decide_eq_true c2
    clear c2
    obtain rfl := Option.some.inj H
    go_enter Tryd.func142, Tryd.ntmps142
    go_wp2_with (first | ((with_reducible refine gate_dst (N := 8) rfl ?_); refine Kd.R_lit (Kd.int .u8) _ 5 ?hg (N := 8) ?hd (xs := ([(wrap64 (48 - (Int.tmod a0 10))) % 256] : List Int)) (inner := [.int .u8 ((wrap64 (48 - (Int.tmod a0 10))) % 256)]) (ok := fun _ => True) (okp := fun _ => True) ?hr ?hp (fun _ hk => hk) trivial (Below.refl _ _) (Nat.le_refl _) (by simp) ?_; (case hd => rfl); (case hg => rfl); (case hr => first | (go_simp; done) | (go_simp; rfl)); (case hp => exact (Reps.one (show Kd.M (Kd.int .u8) _ _ _ ((wrap64 (48 - (Int.tmod a0 10))) % 256) [.int .u8 ((wrap64 (48 - (Int.tmod a0 10))) % 256)] from rfl) (Reps.none _ _))); intro v142 w3 ho4 hb hg_ hnew_; clear hg_ hnew_; (first | rw [← Ny141.out] at ho4 | (simp only [Int.reduceToNat] at ho4; rw [← Ny141.out] at ho4)); have n0_ := Aside0.mk (Kd.R_lower ho4 (below_size (by repeat (first | (with_reducible first | exact HB.out | apply below_alloc | apply pw_below_drewN | apply below_drew1) | exact HB.out)))); have n1_ := Aside0.mk (below_step (by repeat (first | (with_reducible first | exact HB.out | apply below_alloc | apply pw_below_drewN | apply below_drew1) | exact HB.out)) hb); clear HB; have HO143 := n0_; have HB := n1_; clear n0_ n1_; clear hb ho4; have hcv5 := own_string (P := Tryd.prog) Tryd.underlying204 Tryd.underlying5 Tryd.underlying9 (Kd.own_of_R HO143.out)))
    go_ret
    exact ⟨by first | rfl | (simp [errW_none, errW_some] <;> rfl) | (simp [*, errW_none, errW_some] <;> rfl), by repeat (first | (with_reducible first | exact HB.out | apply below_alloc | apply pw_below_drewN | apply below_drew1) | exact HB.out)⟩
  · rw [if_neg c2] at H
    have c2b0 : decide ((-10) < a0) = false := decide_eq_false c2
    clear c2
    replace H := Option.bind_eq_some_iff.mp H
    obtain ⟨t144, A60, H⟩ := H
    replace H : (if t144.size + (strOfNums y141).size ≤ 9223372036854775807 then (some (t144 ++ (strOfNums y141))) else (none)) = some r := H
    have A6 := Aside0.mk A60
    clear A60
    by_cases c7 : t144.size + (strOfNums y141).size ≤ 9223372036854775807
    · rw [if_pos c7] at H
      have c7b0 := eq_true c7
      have c7b1 : decide (t144.size + (strOfNums y141).size ≤ 9223372036854775807) = true := decide_eq_true c7
      try have c7b2 : (9223372036854775807 < t144.size + (strOfNums y141).size) = False := eq_false (Nat.not_lt.2 c7)
      obtain rfl := Option.some.inj H
      go_enter Tryd.func142, Tryd.ntmps142
      go_wp2_with (first | ((with_reducible refine gate_dst (N := 8) rfl ?_); refine Kd.R_lit (Kd.int .u8) _ 5 ?hg (N := 8) ?hd (xs := ([(wrap64 (48 - (Int.tmod a0 10))) % 256] : List Int)) (inner := [.int .u8 ((wrap64 (48 - (Int.tmod a0 10))) % 256)]) (ok := fun _ => True) (okp := fun _ => True) ?hr ?hp (fun _ hk => hk) trivial (Below.refl _ _) (Nat.le_refl _) (by simp) ?_; (case hd => rfl); (case hg => rfl); (case hr => first | (go_simp; done) | (go_simp; rfl)); (case hp => exact (Reps.one (show Kd.M (Kd.int .u8) _ _ _ ((wrap64 (48 - (Int.tmod a0 10))) % 256) [.int .u8 ((wrap64 (48 - (Int.tmod a0 10))) % 256)] from rfl) (Reps.none _ _))); intro v142 w8 ho9 hb hg_ hnew_; clear hg_ hnew_; (first | rw [← Ny141.out] at ho9 | (simp only [Int.reduceToNat] at ho9; rw [← Ny141.out] at ho9)); have n0_ := Aside0.mk (Kd.R_lower ho9 (below_size (by repeat (first | (with_reducible first | exact HB.out | apply below_alloc | apply pw_below_drewN | apply below_drew1) | exact HB.out)))); have n1_ := Aside0.mk (below_step (by repeat (first | (with_reducible first | exact HB.out | apply below_alloc | apply pw_below_drewN | apply below_drew1) | exact HB.out)) hb); clear HB; have HO143 := n0_; have HB := n1_; clear n0_ n1_; clear hb ho9; have hcv10 := own_string (P := Tryd.prog) Tryd.underlying204 Tryd.underlying5 Tryd.underlying9 (Kd.own_of_R HO143.out)) | ((with_reducible refine gate_callee (f := 142) rfl ?_); refine goesL_ (some 15) rfl rfl Tryd.func142 (by kernel_rfl) rfl #[.int .i64 (wrap64 (Int.tdiv a0 10))] rfl (by (try simp only [List.map_toArray, List.map_cons, List.map_nil]); first | done | rfl | (simp only [List.length_drop, List.length_take]; rfl)) ?_; (with_reducible refine (ih k (by omega) (wrap64 (Int.tdiv a0 10)) t144 _ A6.out).mono ?_); rintro e w11 ⟨rfl, hb⟩; refine ⟨_, rfl, ?_⟩; have n0_ := Aside0.mk (Kd.R_below (by (with_reducible repeat (first | apply Kd.R_alloc | apply Kd.R_drewN | apply Kd.R_drew)); exact HO143.out) hb); have n1_ := Aside0.mk (below_step (by repeat (first | (with_reducible first | exact HB.out | apply below_alloc | apply pw_below_drewN | apply below_drew1) | exact HB.out)) hb); clear HO143; clear HB; have HO143 := n0_; have HB := n1_; clear n0_ n1_; (try clear hb); (try clear hb2); (try clear hk); (try clear hi)))
      go_ret
      exact ⟨by first | rfl | (simp [errW_none, errW_some] <;> rfl) | (simp [*, errW_none, errW_some] <;> rfl), by repeat (first | (with_reducible first | exact HB.out | apply below_alloc | apply pw_below_drewN | apply below_drew1) | exact HB.out)⟩
    · rw [if_neg c7] at H
      exact absurd H (by simp)

/-! ### taquinref01_Int: function 26 -/
def taquinref01_Int.f (k : Nat) (a0 : Int) : Option (ByteArray) := if a0 < 0 then ((taquinref01_digits.f k a0).bind fun t145 => (if 1 + t145.size ≤ 9223372036854775807 then (if 1 + t145.size + 1 ≤ 9223372036854775807 then (some (((⟨#[45]⟩ : ByteArray) ++ t145) ++ (⟨#[59]⟩ : ByteArray))) else (none)) else (none))) else ((taquinref01_digits.f k (wrap64 (-a0))).bind fun t146 => (if t146.size + 1 ≤ 9223372036854775807 then (some (t146 ++ (⟨#[59]⟩ : ByteArray))) else (none)))
theorem taquinref01_Int.mono : ∀ a0 k, LeO (taquinref01_Int.f k a0) (taquinref01_Int.f (k + 1) a0) := by
  intro a0 k
  unfold taquinref01_Int.f
  repeat' first
      | (with_reducible exact taquinref01_digits.mono _ _)
      | (with_reducible exact LeO.refl _)
      | (with_reducible exact LeO.none _)
      | (with_reducible refine LeO.ite ?_ ?_)
      | (with_reducible refine LeO.bind ?_ (fun _ => ?_))
      | exact taquinref01_digits.mono _ _
      | exact LeO.none _
      | refine LeO.ite ?_ ?_
      | refine LeO.bind ?_ (fun _ => ?_)
set_option maxHeartbeats 8000000 in
set_option maxRecDepth 100000 in
theorem taquinref01_Int.calls (k : Nat) (a0 : Int) (r : ByteArray) (w : World) (h : taquinref01_Int.f k a0 = some r) :
    Calls Tryd.prog 26 #[.int .i64 a0] w fun e w' => e = .returned (.string r) ∧ Below w.heap.size w w' := by
  have HB := Aside0.mk (Below.refl w.heap.size w)
  have H : (if a0 < 0 then ((taquinref01_digits.f k a0).bind fun t145 => (if 1 + t145.size ≤ 9223372036854775807 then (if 1 + t145.size + 1 ≤ 9223372036854775807 then (some (((⟨#[45]⟩ : ByteArray) ++ t145) ++ (⟨#[59]⟩ : ByteArray))) else (none)) else (none))) else ((taquinref01_digits.f k (wrap64 (-a0))).bind fun t146 => (if t146.size + 1 ≤ 9223372036854775807 then (some (t146 ++ (⟨#[59]⟩ : ByteArray))) else (none)))) = some r := h
  clear h
  by_cases c2 : a0 < 0
  · rw [if_pos c2] at H
    have c2b0 : decide (a0 < 0) = true := decide_eq_true c2
    clear c2
    replace H := Option.bind_eq_some_iff.mp H
    obtain ⟨t145, A30, H⟩ := H
    replace H : (if 1 + t145.size ≤ 9223372036854775807 then (if 1 + t145.size + 1 ≤ 9223372036854775807 then (some (((⟨#[45]⟩ : ByteArray) ++ t145) ++ (⟨#[59]⟩ : ByteArray))) else (none)) else (none)) = some r := H
    have A3 := Aside0.mk A30
    clear A30
    by_cases c4 : 1 + t145.size ≤ 9223372036854775807
    · rw [if_pos c4] at H
      have c4b0 := eq_true c4
      have c4b1 : decide (1 + t145.size ≤ 9223372036854775807) = true := decide_eq_true c4
      try have c4b2 : (9223372036854775807 < 1 + t145.size) = False := eq_false (Nat.not_lt.2 c4)
      by_cases c5 : 1 + t145.size + 1 ≤ 9223372036854775807
      · rw [if_pos c5] at H
        have c5b0 := eq_true c5
        have c5b1 : decide (1 + t145.size + 1 ≤ 9223372036854775807) = true := decide_eq_true c5
        try have c5b2 : (9223372036854775807 < 1 + t145.size + 1) = False := eq_false (Nat.not_lt.2 c5)
        obtain rfl := Option.some.inj H
        go_enter Tryd.func26, Tryd.ntmps26
        go_wp2_with (first | ((with_reducible refine gate_callee (f := 142) rfl ?_); refine goesL_ (some 6) rfl rfl Tryd.func142 (by kernel_rfl) rfl #[.int .i64 a0] rfl (by (try simp only [List.map_toArray, List.map_cons, List.map_nil]); first | done | rfl | (simp only [List.length_drop, List.length_take]; rfl)) ?_; (with_reducible refine (taquinref01_digits.calls k a0 t145 _ A3.out).mono ?_); rintro e w6 ⟨rfl, hb⟩; refine ⟨_, rfl, ?_⟩; have n0_ := Aside0.mk (below_step (by repeat (first | (with_reducible first | exact HB.out | apply below_alloc | apply pw_below_drewN | apply below_drew1) | exact HB.out)) hb); clear HB; have HB := n0_; clear n0_; (try clear hb); (try clear hb2); (try clear hk); (try clear hi)))
        go_ret
        exact ⟨by first | rfl | (simp [errW_none, errW_some] <;> rfl) | (simp [*, errW_none, errW_some] <;> rfl), by repeat (first | (with_reducible first | exact HB.out | apply below_alloc | apply pw_below_drewN | apply below_drew1) | exact HB.out)⟩
      · rw [if_neg c5] at H
        exact absurd H (by simp)
    · rw [if_neg c4] at H
      exact absurd H (by simp)
  · rw [if_neg c2] at H
    have c2b0 : decide (a0 < 0) = false := decide_eq_false c2
    clear c2
    replace H := Option.bind_eq_some_iff.mp H
    obtain ⟨t146, A70, H⟩ := H
    replace H : (if t146.size + 1 ≤ 9223372036854775807 then (some (t146 ++ (⟨#[59]⟩ : ByteArray))) else (none)) = some r := H
    have A7 := Aside0.mk A70
    clear A70
    by_cases c8 : t146.size + 1 ≤ 9223372036854775807
    · rw [if_pos c8] at H
      have c8b0 := eq_true c8
      have c8b1 : decide (t146.size + 1 ≤ 9223372036854775807) = true := decide_eq_true c8
      try have c8b2 : (9223372036854775807 < t146.size + 1) = False := eq_false (Nat.not_lt.2 c8)
      obtain rfl := Option.some.inj H
      go_enter Tryd.func26, Tryd.ntmps26
      go_wp2_with (first | ((with_reducible refine gate_callee (f := 142) rfl ?_); refine goesL_ (some 11) rfl rfl Tryd.func142 (by kernel_rfl) rfl #[.int .i64 (wrap64 (-a0))] rfl (by (try simp only [List.map_toArray, List.map_cons, List.map_nil]); first | done | rfl | (simp only [List.length_drop, List.length_take]; rfl)) ?_; (with_reducible refine (taquinref01_digits.calls k (wrap64 (-a0)) t146 _ A7.out).mono ?_); rintro e w9 ⟨rfl, hb⟩; refine ⟨_, rfl, ?_⟩; have n0_ := Aside0.mk (below_step (by repeat (first | (with_reducible first | exact HB.out | apply below_alloc | apply pw_below_drewN | apply below_drew1) | exact HB.out)) hb); clear HB; have HB := n0_; clear n0_; (try clear hb); (try clear hb2); (try clear hk); (try clear hi)))
      go_ret
      exact ⟨by first | rfl | (simp [errW_none, errW_some] <;> rfl) | (simp [*, errW_none, errW_some] <;> rfl), by repeat (first | (with_reducible first | exact HB.out | apply below_alloc | apply pw_below_drewN | apply below_drew1) | exact HB.out)⟩
    · rw [if_neg c8] at H
      exact absurd H (by simp)

/-! ### taquinref01_Num: function 24 -/
def taquinref01_Num.f (k : Nat) (a0 : Int) : Option (ByteArray) := if a0 < 0 then (some (⟨#[]⟩ : ByteArray)) else ((taquinref01_Int.f k a0).bind fun t147 => (some t147))
theorem taquinref01_Num.mono : ∀ a0 k, LeO (taquinref01_Num.f k a0) (taquinref01_Num.f (k + 1) a0) := by
  intro a0 k
  unfold taquinref01_Num.f
  repeat' first
      | (with_reducible exact taquinref01_Int.mono _ _)
      | (with_reducible exact LeO.refl _)
      | (with_reducible exact LeO.none _)
      | (with_reducible refine LeO.ite ?_ ?_)
      | (with_reducible refine LeO.bind ?_ (fun _ => ?_))
      | exact taquinref01_Int.mono _ _
      | exact LeO.none _
      | refine LeO.ite ?_ ?_
      | refine LeO.bind ?_ (fun _ => ?_)
set_option maxHeartbeats 8000000 in
set_option maxRecDepth 100000 in
theorem taquinref01_Num.calls (k : Nat) (a0 : Int) (r : ByteArray) (w : World) (h : taquinref01_Num.f k a0 = some r) :
    Calls Tryd.prog 24 #[.int .i64 a0] w fun e w' => e = .returned (.string r) ∧ Below w.heap.size w w' := by
  have HB := Aside0.mk (Below.refl w.heap.size w)
  have H : (if a0 < 0 then (some (⟨#[]⟩ : ByteArray)) else ((taquinref01_Int.f k a0).bind fun t147 => (some t147))) = some r := h
  clear h
  by_cases c2 : a0 < 0
  · rw [if_pos c2] at H
    have c2b0 : decide (a0 < 0) = true := decide_eq_true c2
    clear c2
    obtain rfl := Option.some.inj H
    go_enter Tryd.func24, Tryd.ntmps24
    go_wp2
    go_ret
    exact ⟨by first | rfl | (simp [errW_none, errW_some] <;> rfl) | (simp [*, errW_none, errW_some] <;> rfl), by repeat (first | (with_reducible first | exact HB.out | apply below_alloc | apply pw_below_drewN | apply below_drew1) | exact HB.out)⟩
  · rw [if_neg c2] at H
    have c2b0 : decide (a0 < 0) = false := decide_eq_false c2
    clear c2
    replace H := Option.bind_eq_some_iff.mp H
    obtain ⟨t147, A30, H⟩ := H
    replace H : (some t147) = some r := H
    have A3 := Aside0.mk A30
    clear A30
    obtain rfl := Option.some.inj H
    go_enter Tryd.func24, Tryd.ntmps24
    go_wp2_with (first | ((with_reducible refine gate_callee (f := 26) rfl ?_); refine goesL_ (some 6) rfl rfl Tryd.func26 (by kernel_rfl) rfl #[.int .i64 a0] rfl (by (try simp only [List.map_toArray, List.map_cons, List.map_nil]); first | done | rfl | (simp only [List.length_drop, List.length_take]; rfl)) ?_; (with_reducible refine (taquinref01_Int.calls k a0 t147 _ A3.out).mono ?_); rintro e w4 ⟨rfl, hb⟩; refine ⟨_, rfl, ?_⟩; have n0_ := Aside0.mk (below_step (by repeat (first | (with_reducible first | exact HB.out | apply below_alloc | apply pw_below_drewN | apply below_drew1) | exact HB.out)) hb); clear HB; have HB := n0_; clear n0_; (try clear hb); (try clear hb2); (try clear hk); (try clear hi)))
    go_ret
    exact ⟨by first | rfl | (simp [errW_none, errW_some] <;> rfl) | (simp [*, errW_none, errW_some] <;> rfl), by repeat (first | (with_reducible first | exact HB.out | apply below_alloc | apply pw_below_drewN | apply below_drew1) | exact HB.out)⟩

/-! ### taquinref01_Text: function 28 -/
def taquinref01_Text.f (k : Nat) (a0 : ByteArray) : Option ByteArray :=
  if a0.size ≤ 140737488351232 then (taquinref01_digits.f k (-(a0.size : Int))).bind fun t => if t.size ≤ 100 then some (t ++ (⟨#[58]⟩ : ByteArray) ++ a0 ++ (⟨#[44]⟩ : ByteArray)) else none else none
theorem taquinref01_Text.mono : ∀ a0 k, LeO (taquinref01_Text.f k a0) (taquinref01_Text.f (k + 1) a0) := by
  intro a0 k
  unfold taquinref01_Text.f
  refine LeO.ite ?_ (LeO.refl _)
  exact LeO.bind (taquinref01_digits.mono _ _) (fun _ => LeO.refl _)
set_option maxHeartbeats 1000000 in
set_option maxRecDepth 100000 in
theorem taquinref01_Text.calls (k : Nat) (a0 : ByteArray) (r : ByteArray) (w : World) (h : taquinref01_Text.f k a0 = some r) :
    Calls Tryd.prog 28 #[.string a0] w fun e w' => e = .returned (.string r) ∧ Below w.heap.size w w' := by
  unfold taquinref01_Text.f at h
  split at h
  · rename_i hs
    obtain ⟨t, ht, h⟩ := Option.bind_eq_some_iff.1 h
    split at h
    · rename_i hts
      have HE := Aside0.mk (Option.some.inj h)
      have h1 : t.size + 1 ≤ 9223372036854775807 := by omega
      have h2 : t.size + 1 + a0.size ≤ 9223372036854775807 := by omega
      have h3 : t.size + 1 + a0.size + 1 ≤ 9223372036854775807 := by omega
      have HF := Aside0.mk ht
      clear ht h
      go_enter Tryd.func28, Tryd.ntmps28
      go_wp2_with (go_at_call 142; refine (taquinref01_digits.calls k _ _ _ HF.out).mono ?_; rintro e w1 ⟨rfl, hb⟩; have HB1 := Aside0.mk hb; clear hb)
      go_ret
      exact ⟨by rw [← HE.out]; rfl, HB1.out⟩
    · cases h
  · cases h

end Go.Proofs.YtigdjhnpngjhjaaDoor.PWi

-- written by a program of this claim's own (wip/tools/pp.py), after the kit's printer
import Derived.Test.YtigdjhnpngjhjaaPRobSx0
import Derived.Test.YtigdjhnpngjhjaaPRobSx2
import Derived.Test.YtigdjhnpngjhjaaPRobSx3
import Derived.Test.YtigdjhnpngjhjaaPRobSx4
import Derived.Test.YtigdjhnpngjhjaaPRobSx7
import Derived.Test.YtigdjhnpngjhjaaPRobSx9
namespace Go.Proofs.Ytigdjhnpngjhjaa.PRobS
open Go.RowKit Go.Proofs.YtigdjhnpngjhjaaW.PrintWords Go.Proofs.YtigdjhnpngjhjaaW.PrintLast Go.Proofs.YtigdjhnpngjhjaaW.PrintMore
attribute [local go_sem] max2_int min2_int max_two min_two max_three min_three max_four min_four   -- for this text's walks alone
set_option linter.unusedVariables false
set_option linter.unusedSimpArgs false

/-! ### taquinlaw22_RobotStays: function 3 -/
mutual
def taquinlaw22_RobotStays.j0 : Nat → List Bool → Bool → Bool → Int → Int → Int → List Int → List Int → Int → List Int → Option (Bool)
  | 0, _, _, _, _, _, _, _, _, _, _ => none
  | k + 1, x2, x7, x32, x278000, x278001, x278002, x278003, x278004, x279000, x279001 => if x32 = true then (some x7) else ((robot_Way.f k x278000 x278001 x278002 x278003 x278004 x279000 x279001).bind fun t282 => (if (t282.length : Int) = 0 then (none) else (taquinlaw22_RobotStays.l0 k x2 x7 t282 0 0 0 x278000 x278001 x278002 x278003 x278004 x279000 x279001)))
def taquinlaw22_RobotStays.l0 : Nat → List Bool → Bool → List Int → Int → Int → Int → Int → Int → Int → List Int → List Int → Int → List Int → Option (Bool)
  | 0, _, _, _, _, _, _, _, _, _, _, _, _, _ => none
  | k + 1, x2, x7, x8, x9, x10, x11, x278000, x278001, x278002, x278003, x278004, x279000, x279001 => if x11 < (x2.length : Int) then ((robot_Next.f x279000 x279001).bind fun t287 => (if x10 ≥ (x279001.length : Int) then (if (x279001.length : Int) = 0 then (taquinlaw22_RobotStays.j2 k x2 x7 x8 x9 x10 x11 t287 (t287 != 0) x278000 x278001 x278002 x278003 x278004 x279000 x279001) else (taquinlaw22_RobotStays.j2 k x2 x7 x8 x9 x10 x11 t287 false x278000 x278001 x278002 x278003 x278004 x279000 x279001)) else (taquinlaw22_RobotStays.j2 k x2 x7 x8 x9 x10 x11 t287 false x278000 x278001 x278002 x278003 x278004 x279000 x279001))) else (if x7 = true then (if (x279001.length : Int) > 0 then (some true) else (if 0 ≤ (wrap64 ((x8.length : Int) - 1)) then (if (wrap64 ((x8.length : Int) - 1)) < (x8.length : Int) then (if x279000 = (rd x8 (wrap64 ((x8.length : Int) - 1))) then ((robot_Next.f x279000 x279001).bind fun t286 => (some (t286 == 0))) else (none)) else (none)) else (none))) else (none))
def taquinlaw22_RobotStays.j2 : Nat → List Bool → Bool → List Int → Int → Int → Int → Int → Bool → Int → Int → Int → List Int → List Int → Int → List Int → Option (Bool)
  | 0, _, _, _, _, _, _, _, _, _, _, _, _, _, _, _ => none
  | k + 1, x2, x7, x8, x9, x10, x11, x12, x62, x278000, x278001, x278002, x278003, x278004, x279000, x279001 => if x62 = true then (none) else (if 0 ≤ x11 then (if x11 < (x2.length : Int) then ((robot_Did.f k x278000 x278001 x278002 x278003 x278004 x279000 x279001 x12 (rdOf false x2 x11)).bind fun bt289 => ((robot_Right.f k x278000 x278001 x278002 x278003 x278004 bt289.1 bt289.2).bind fun t294 => (if t294 = true then (if rdOf false x2 x11 = true then (taquinlaw22_RobotStays.j3 k x2 x7 x8 x9 x10 x11 x12 (x279001.length : Int) (decide ((x279001.length : Int) > 0)) x278000 x278001 x278002 x278003 x278004 x279000 x279001 bt289.1 bt289.2) else (taquinlaw22_RobotStays.j3 k x2 x7 x8 x9 x10 x11 x12 (x279001.length : Int) false x278000 x278001 x278002 x278003 x278004 x279000 x279001 bt289.1 bt289.2)) else (none)))) else (none)) else (none))
def taquinlaw22_RobotStays.j3 : Nat → List Bool → Bool → List Int → Int → Int → Int → Int → Int → Bool → Int → Int → Int → List Int → List Int → Int → List Int → Int → List Int → Option (Bool)
  | 0, _, _, _, _, _, _, _, _, _, _, _, _, _, _, _, _, _, _ => none
  | k + 1, x2, x7, x8, x9, x10, x11, x12, x13, x85, x278000, x278001, x278002, x278003, x278004, x279000, x279001, x294000, x294001 => if x85 = true then (if x12 ≥ 1 then (if x12 < 7 then ((floor_Next.f k x278000 x278001 x278002 x278003 x278004 x279000 (wrap64 (x12 - 1))).bind fun bt296 => (if bt296.2 = true then (if x294000 = bt296.1 then (if (x294001.length : Int) = (wrap64 (x13 - 1)) then (if (wrap64 (x9 + 1)) ≥ (x8.length : Int) then (none) else (if 0 ≤ (wrap64 (x9 + 1)) then (if (wrap64 (x9 + 1)) < (x8.length : Int) then (if x294000 = (rd x8 (wrap64 (x9 + 1))) then (taquinlaw22_RobotStays.l0 k x2 x7 x8 (wrap64 (x9 + 1)) (wrap64 (x10 + 1)) (wrap64 (x11 + 1)) x278000 x278001 x278002 x278003 x278004 x294000 x294001) else (none)) else (none)) else (none))) else (none)) else (none)) else (none))) else (if (x294001.length : Int) = (wrap64 (x13 - 1)) then (if x9 ≥ (x8.length : Int) then (none) else (if 0 ≤ x9 then (if x9 < (x8.length : Int) then (if x294000 = (rd x8 x9) then (taquinlaw22_RobotStays.l0 k x2 x7 x8 x9 (wrap64 (x10 + 1)) (wrap64 (x11 + 1)) x278000 x278001 x278002 x278003 x278004 x294000 x294001) else (none)) else (none)) else (none))) else (none))) else (if (x294001.length : Int) = (wrap64 (x13 - 1)) then (if x9 ≥ (x8.length : Int) then (none) else (if 0 ≤ x9 then (if x9 < (x8.length : Int) then (if x294000 = (rd x8 x9) then (taquinlaw22_RobotStays.l0 k x2 x7 x8 x9 (wrap64 (x10 + 1)) (wrap64 (x11 + 1)) x278000 x278001 x278002 x278003 x278004 x294000 x294001) else (none)) else (none)) else (none))) else (none))) else (if x294000 = x279000 then (if (x294001.length : Int) = x13 then (if x9 ≥ (x8.length : Int) then (none) else (if 0 ≤ x9 then (if x9 < (x8.length : Int) then (if x294000 = (rd x8 x9) then (taquinlaw22_RobotStays.l0 k x2 x7 x8 x9 x10 (wrap64 (x11 + 1)) x278000 x278001 x278002 x278003 x278004 x294000 x294001) else (none)) else (none)) else (none))) else (none)) else (none))
end
def taquinlaw22_RobotStays.f (k : Nat) (a0_0 : Int) (a0_1 : Int) (a0_2 : Int) (l0_3 : List Int) (l0_4 : List Int) (a1_0 : Int) (l1_1 : List Int) (l2 : List Bool) : Option (Bool) := (taquinlaw22_small.f k).bind fun t279 => ((taquinlaw22_few.f k a0_0 a0_1 a0_2 l0_3 l0_4 a1_0 l1_1).bind fun t280 => (if t280 = true then (if (l2.length : Int) > 60 then (taquinlaw22_RobotStays.j0 k l2 t279 true a0_0 a0_1 a0_2 l0_3 l0_4 a1_0 l1_1) else ((robot_Right.f k a0_0 a0_1 a0_2 l0_3 l0_4 a1_0 l1_1).bind fun t281 => (taquinlaw22_RobotStays.j0 k l2 t279 (!t281) a0_0 a0_1 a0_2 l0_3 l0_4 a1_0 l1_1))) else (taquinlaw22_RobotStays.j0 k l2 t279 true a0_0 a0_1 a0_2 l0_3 l0_4 a1_0 l1_1)))
theorem taquinlaw22_RobotStays.mono_l : ∀ k, (∀ y0 y1 y2 y3 y4 y5 y6 y7 y8 y9, LeO (taquinlaw22_RobotStays.j0 k y0 y1 y2 y3 y4 y5 y6 y7 y8 y9) (taquinlaw22_RobotStays.j0 (k + 1) y0 y1 y2 y3 y4 y5 y6 y7 y8 y9)) ∧ (∀ y0 y1 y2 y3 y4 y5 y6 y7 y8 y9 y10 y11 y12, LeO (taquinlaw22_RobotStays.l0 k y0 y1 y2 y3 y4 y5 y6 y7 y8 y9 y10 y11 y12) (taquinlaw22_RobotStays.l0 (k + 1) y0 y1 y2 y3 y4 y5 y6 y7 y8 y9 y10 y11 y12)) ∧ (∀ y0 y1 y2 y3 y4 y5 y6 y7 y8 y9 y10 y11 y12 y13 y14, LeO (taquinlaw22_RobotStays.j2 k y0 y1 y2 y3 y4 y5 y6 y7 y8 y9 y10 y11 y12 y13 y14) (taquinlaw22_RobotStays.j2 (k + 1) y0 y1 y2 y3 y4 y5 y6 y7 y8 y9 y10 y11 y12 y13 y14)) ∧ (∀ y0 y1 y2 y3 y4 y5 y6 y7 y8 y9 y10 y11 y12 y13 y14 y15 y16 y17, LeO (taquinlaw22_RobotStays.j3 k y0 y1 y2 y3 y4 y5 y6 y7 y8 y9 y10 y11 y12 y13 y14 y15 y16 y17) (taquinlaw22_RobotStays.j3 (k + 1) y0 y1 y2 y3 y4 y5 y6 y7 y8 y9 y10 y11 y12 y13 y14 y15 y16 y17))
  | 0 => ⟨fun _ _ _ _ _ _ _ _ _ _ r h => by simp [taquinlaw22_RobotStays.j0] at h, fun _ _ _ _ _ _ _ _ _ _ _ _ _ r h => by simp [taquinlaw22_RobotStays.l0] at h, fun _ _ _ _ _ _ _ _ _ _ _ _ _ _ _ r h => by simp [taquinlaw22_RobotStays.j2] at h, fun _ _ _ _ _ _ _ _ _ _ _ _ _ _ _ _ _ _ r h => by simp [taquinlaw22_RobotStays.j3] at h⟩
  | k + 1 => by
    obtain ⟨ih0, ih1, ih2, ih3⟩ := taquinlaw22_RobotStays.mono_l k
    refine ⟨?_, ?_, ?_, ?_⟩
    · intro y0 y1 y2 y3 y4 y5 y6 y7 y8 y9
      unfold taquinlaw22_RobotStays.j0
      repeat' first
      | (with_reducible exact ih0 _ _ _ _ _ _ _ _ _ _)
      | (with_reducible exact ih1 _ _ _ _ _ _ _ _ _ _ _ _ _)
      | (with_reducible exact ih2 _ _ _ _ _ _ _ _ _ _ _ _ _ _ _)
      | (with_reducible exact ih3 _ _ _ _ _ _ _ _ _ _ _ _ _ _ _ _ _ _)
      | (with_reducible exact floor_Next.mono _ _ _ _ _ _ _ _)
      | (with_reducible exact robot_Did.mono _ _ _ _ _ _ _ _ _ _)
      | (with_reducible exact robot_Right.mono _ _ _ _ _ _ _ _)
      | (with_reducible exact robot_Way.mono _ _ _ _ _ _ _ _)
      | (with_reducible exact taquinlaw22_few.mono _ _ _ _ _ _ _ _)
      | (with_reducible exact taquinlaw22_small.mono _)
      | (with_reducible exact LeO.refl _)
      | (with_reducible exact LeO.none _)
      | (with_reducible refine LeO.ite ?_ ?_)
      | (with_reducible refine LeO.bind ?_ (fun _ => ?_))
      | exact ih0 _ _ _ _ _ _ _ _ _ _
      | exact ih1 _ _ _ _ _ _ _ _ _ _ _ _ _
      | exact ih2 _ _ _ _ _ _ _ _ _ _ _ _ _ _ _
      | exact ih3 _ _ _ _ _ _ _ _ _ _ _ _ _ _ _ _ _ _
      | exact floor_Next.mono _ _ _ _ _ _ _ _
      | exact robot_Did.mono _ _ _ _ _ _ _ _ _ _
      | exact robot_Right.mono _ _ _ _ _ _ _ _
      | exact robot_Way.mono _ _ _ _ _ _ _ _
      | exact taquinlaw22_few.mono _ _ _ _ _ _ _ _
      | exact taquinlaw22_small.mono _
      | exact LeO.none _
      | refine LeO.ite ?_ ?_
      | refine LeO.bind ?_ (fun _ => ?_)
    · intro y0 y1 y2 y3 y4 y5 y6 y7 y8 y9 y10 y11 y12
      unfold taquinlaw22_RobotStays.l0
      repeat' first
      | (with_reducible exact ih0 _ _ _ _ _ _ _ _ _ _)
      | (with_reducible exact ih1 _ _ _ _ _ _ _ _ _ _ _ _ _)
      | (with_reducible exact ih2 _ _ _ _ _ _ _ _ _ _ _ _ _ _ _)
      | (with_reducible exact ih3 _ _ _ _ _ _ _ _ _ _ _ _ _ _ _ _ _ _)
      | (with_reducible exact floor_Next.mono _ _ _ _ _ _ _ _)
      | (with_reducible exact robot_Did.mono _ _ _ _ _ _ _ _ _ _)
      | (with_reducible exact robot_Right.mono _ _ _ _ _ _ _ _)
      | (with_reducible exact robot_Way.mono _ _ _ _ _ _ _ _)
      | (with_reducible exact taquinlaw22_few.mono _ _ _ _ _ _ _ _)
      | (with_reducible exact taquinlaw22_small.mono _)
      | (with_reducible exact LeO.refl _)
      | (with_reducible exact LeO.none _)
      | (with_reducible refine LeO.ite ?_ ?_)
      | (with_reducible refine LeO.bind ?_ (fun _ => ?_))
      | exact ih0 _ _ _ _ _ _ _ _ _ _
      | exact ih1 _ _ _ _ _ _ _ _ _ _ _ _ _
      | exact ih2 _ _ _ _ _ _ _ _ _ _ _ _ _ _ _
      | exact ih3 _ _ _ _ _ _ _ _ _ _ _ _ _ _ _ _ _ _
      | exact floor_Next.mono _ _ _ _ _ _ _ _
      | exact robot_Did.mono _ _ _ _ _ _ _ _ _ _
      | exact robot_Right.mono _ _ _ _ _ _ _ _
      | exact robot_Way.mono _ _ _ _ _ _ _ _
      | exact taquinlaw22_few.mono _ _ _ _ _ _ _ _
      | exact taquinlaw22_small.mono _
      | exact LeO.none _
      | refine LeO.ite ?_ ?_
      | refine LeO.bind ?_ (fun _ => ?_)
    · intro y0 y1 y2 y3 y4 y5 y6 y7 y8 y9 y10 y11 y12 y13 y14
      unfold taquinlaw22_RobotStays.j2
      repeat' first
      | (with_reducible exact ih0 _ _ _ _ _ _ _ _ _ _)
      | (with_reducible exact ih1 _ _ _ _ _ _ _ _ _ _ _ _ _)
      | (with_reducible exact ih2 _ _ _ _ _ _ _ _ _ _ _ _ _ _ _)
      | (with_reducible exact ih3 _ _ _ _ _ _ _ _ _ _ _ _ _ _ _ _ _ _)
      | (with_reducible exact floor_Next.mono _ _ _ _ _ _ _ _)
      | (with_reducible exact robot_Did.mono _ _ _ _ _ _ _ _ _ _)
      | (with_reducible exact robot_Right.mono _ _ _ _ _ _ _ _)
      | (with_reducible exact robot_Way.mono _ _ _ _ _ _ _ _)
      | (with_reducible exact taquinlaw22_few.mono _ _ _ _ _ _ _ _)
      | (with_reducible exact taquinlaw22_small.mono _)
      | (with_reducible exact LeO.refl _)
      | (with_reducible exact LeO.none _)
      | (with_reducible refine LeO.ite ?_ ?_)
      | (with_reducible refine LeO.bind ?_ (fun _ => ?_))
      | exact ih0 _ _ _ _ _ _ _ _ _ _
      | exact ih1 _ _ _ _ _ _ _ _ _ _ _ _ _
      | exact ih2 _ _ _ _ _ _ _ _ _ _ _ _ _ _ _
      | exact ih3 _ _ _ _ _ _ _ _ _ _ _ _ _ _ _ _ _ _
      | exact floor_Next.mono _ _ _ _ _ _ _ _
      | exact robot_Did.mono _ _ _ _ _ _ _ _ _ _
      | exact robot_Right.mono _ _ _ _ _ _ _ _
      | exact robot_Way.mono _ _ _ _ _ _ _ _
      | exact taquinlaw22_few.mono _ _ _ _ _ _ _ _
      | exact taquinlaw22_small.mono _
      | exact LeO.none _
      | refine LeO.ite ?_ ?_
      | refine LeO.bind ?_ (fun _ => ?_)
    · intro y0 y1 y2 y3 y4 y5 y6 y7 y8 y9 y10 y11 y12 y13 y14 y15 y16 y17
      unfold taquinlaw22_RobotStays.j3
      repeat' first
      | (with_reducible exact ih0 _ _ _ _ _ _ _ _ _ _)
      | (with_reducible exact ih1 _ _ _ _ _ _ _ _ _ _ _ _ _)
      | (with_reducible exact ih2 _ _ _ _ _ _ _ _ _ _ _ _ _ _ _)
      | (with_reducible exact ih3 _ _ _ _ _ _ _ _ _ _ _ _ _ _ _ _ _ _)
      | (with_reducible exact floor_Next.mono _ _ _ _ _ _ _ _)
      | (with_reducible exact robot_Did.mono _ _ _ _ _ _ _ _ _ _)
      | (with_reducible exact robot_Right.mono _ _ _ _ _ _ _ _)
      | (with_reducible exact robot_Way.mono _ _ _ _ _ _ _ _)
      | (with_reducible exact taquinlaw22_few.mono _ _ _ _ _ _ _ _)
      | (with_reducible exact taquinlaw22_small.mono _)
      | (with_reducible exact LeO.refl _)
      | (with_reducible exact LeO.none _)
      | (with_reducible refine LeO.ite ?_ ?_)
      | (with_reducible refine LeO.bind ?_ (fun _ => ?_))
      | exact ih0 _ _ _ _ _ _ _ _ _ _
      | exact ih1 _ _ _ _ _ _ _ _ _ _ _ _ _
      | exact ih2 _ _ _ _ _ _ _ _ _ _ _ _ _ _ _
      | exact ih3 _ _ _ _ _ _ _ _ _ _ _ _ _ _ _ _ _ _
      | exact floor_Next.mono _ _ _ _ _ _ _ _
      | exact robot_Did.mono _ _ _ _ _ _ _ _ _ _
      | exact robot_Right.mono _ _ _ _ _ _ _ _
      | exact robot_Way.mono _ _ _ _ _ _ _ _
      | exact taquinlaw22_few.mono _ _ _ _ _ _ _ _
      | exact taquinlaw22_small.mono _
      | exact LeO.none _
      | refine LeO.ite ?_ ?_
      | refine LeO.bind ?_ (fun _ => ?_)
theorem taquinlaw22_RobotStays.mono : ∀ a0 a1 a2 a3 a4 a5 a6 a7 k, LeO (taquinlaw22_RobotStays.f k a0 a1 a2 a3 a4 a5 a6 a7) (taquinlaw22_RobotStays.f (k + 1) a0 a1 a2 a3 a4 a5 a6 a7) := by
  intro a0 a1 a2 a3 a4 a5 a6 a7 k
  obtain ⟨ih0, ih1, ih2, ih3⟩ := taquinlaw22_RobotStays.mono_l k
  unfold taquinlaw22_RobotStays.f
  repeat' first
      | (with_reducible exact ih0 _ _ _ _ _ _ _ _ _ _)
      | (with_reducible exact ih1 _ _ _ _ _ _ _ _ _ _ _ _ _)
      | (with_reducible exact ih2 _ _ _ _ _ _ _ _ _ _ _ _ _ _ _)
      | (with_reducible exact ih3 _ _ _ _ _ _ _ _ _ _ _ _ _ _ _ _ _ _)
      | (with_reducible exact floor_Next.mono _ _ _ _ _ _ _ _)
      | (with_reducible exact robot_Did.mono _ _ _ _ _ _ _ _ _ _)
      | (with_reducible exact robot_Right.mono _ _ _ _ _ _ _ _)
      | (with_reducible exact robot_Way.mono _ _ _ _ _ _ _ _)
      | (with_reducible exact taquinlaw22_few.mono _ _ _ _ _ _ _ _)
      | (with_reducible exact taquinlaw22_small.mono _)
      | (with_reducible exact LeO.refl _)
      | (with_reducible exact LeO.none _)
      | (with_reducible refine LeO.ite ?_ ?_)
      | (with_reducible refine LeO.bind ?_ (fun _ => ?_))
      | exact ih0 _ _ _ _ _ _ _ _ _ _
      | exact ih1 _ _ _ _ _ _ _ _ _ _ _ _ _
      | exact ih2 _ _ _ _ _ _ _ _ _ _ _ _ _ _ _
      | exact ih3 _ _ _ _ _ _ _ _ _ _ _ _ _ _ _ _ _ _
      | exact floor_Next.mono _ _ _ _ _ _ _ _
      | exact robot_Did.mono _ _ _ _ _ _ _ _ _ _
      | exact robot_Right.mono _ _ _ _ _ _ _ _
      | exact robot_Way.mono _ _ _ _ _ _ _ _
      | exact taquinlaw22_few.mono _ _ _ _ _ _ _ _
      | exact taquinlaw22_small.mono _
      | exact LeO.none _
      | refine LeO.ite ?_ ?_
      | refine LeO.bind ?_ (fun _ => ?_)
def taquinlaw22_RobotStays.T16 : Bool × List (List Nat × List Nat) := (true, [([], []), ([], []), ([], []), ([], []), ([], []), ([3, 4], [3, 4]), ([5], [5]), ([0, 1, 2, 6], [0, 1, 2, 6]), ([], []), ([8, 7, 7, 0, 1, 2, 3, 4, 5, 6, 7, 8], [7, 8])])
def taquinlaw22_RobotStays.B16 : List Nat := [0, 0, 0, 0, 0, 24, 56, 127, 0, 511]
theorem taquinlaw22_RobotStays.tab16 : rtab .any (opsOf Try.f3 16) = taquinlaw22_RobotStays.T16 := by kernel_rfl
theorem taquinlaw22_RobotStays.bits16 : waitsOk taquinlaw22_RobotStays.T16.2 taquinlaw22_RobotStays.B16 = true := by kernel_rfl
def taquinlaw22_RobotStays.T35 : Bool × List (List Nat × List Nat) := (true, [([], []), ([0], [0]), ([1], [1]), ([2, 1], [1, 2]), ([3, 1], [1, 3]), ([4, 1], [1, 4]), ([5, 1, 1], [1, 5]), ([6], [6]), ([7, 6], [6, 7]), ([6], [6]), ([6], [6]), ([10, 6], [6, 10]), ([11, 6], [6, 11]), ([9, 12, 6], [6, 9, 12]), ([13, 6], [6, 13]), ([8, 14, 6], [6, 8, 14]), ([15, 6, 6], [6, 15]), ([16], [16]), ([17, 16, 16], [16, 17]), ([18, 16], [16, 18]), ([16, 19, 6], [6, 16, 19]), ([6, 20, 1], [1, 6, 20]), ([1, 21], [1, 21]), ([22, 18, 0, 1, 2, 3, 4, 5, 6, 7, 8, 9, 10, 11, 12, 13, 14, 15, 16, 17, 18, 19, 20, 21, 22], [22])])
def taquinlaw22_RobotStays.B35 : List Nat := [0, 1, 3, 7, 15, 31, 63, 127, 255, 127, 127, 1151, 3199, 7807, 15999, 32767, 65535, 131071, 262143, 524287, 1048575, 2097151, 4194303, 8388607]
theorem taquinlaw22_RobotStays.tab35 : rtab .any (opsOf Try.f3 35) = taquinlaw22_RobotStays.T35 := by kernel_rfl
theorem taquinlaw22_RobotStays.bits35 : waitsOk taquinlaw22_RobotStays.T35.2 taquinlaw22_RobotStays.B35 = true := by kernel_rfl
set_option maxHeartbeats 8000000 in
set_option maxRecDepth 100000 in
theorem taquinlaw22_RobotStays.calls (k : Nat) (a0_0 : Int) (a0_1 : Int) (a0_2 : Int) (A0_3 : Option Addr) (c0_3 : Nat) (l0_3 : List Int) (A0_4 : Option Addr) (c0_4 : Nat) (l0_4 : List Int) (a1_0 : Int) (P1_1_ : Nat → Prop) (A1_1 : Option Addr) (c1_1 : Nat) (l1_1 : List Int) (A2 : Option Addr) (c2 : Nat) (l2 : List Bool) (r : Bool) (w : World) (hr0_3 : Kd.C (Kd.int .i64) w A0_3 l0_3.length l0_3) (hc0_3 : l0_3.length ≤ c0_3) (hr0_4 : Kd.C (Kd.int .i64) w A0_4 l0_4.length l0_4) (hc0_4 : l0_4.length ≤ c0_4) (hs1_1 : Kd.V (Kd.int .i64) 3 w w.heap.size (fun k_ => P1_1_ k_) (.slice A1_1 l1_1.length c1_1) l1_1) (hr2 : Kd.C Kd.bool w A2 l2.length l2) (hc2 : l2.length ≤ c2) (h : taquinlaw22_RobotStays.f k a0_0 a0_1 a0_2 l0_3 l0_4 a1_0 l1_1 l2 = some r) :
    Calls Try.prog 3 #[.agg #[.int .i64 a0_0, .int .i64 a0_1, .int .i64 a0_2, .slice A0_3 l0_3.length c0_3, .slice A0_4 l0_4.length c0_4], .agg #[.int .i64 a1_0, .slice A1_1 l1_1.length c1_1], .slice A2 l2.length c2] w fun e w' => e = .returned (.bool r) ∧ Below w.heap.size w w' := by
  have hu24 := Try.underlying24
  have hu26 := Try.underlying26
  have HR0_3 := Aside0.mk hr0_3
  have HC0_3 := Aside0.mk hc0_3
  clear hr0_3 hc0_3
  have HR0_4 := Aside0.mk hr0_4
  have HC0_4 := Aside0.mk hc0_4
  clear hr0_4 hc0_4
  have HO1_1 := Aside0.mk (show Kd.V (Kd.int .i64) 3 w w.heap.size (fun k_ => (P1_1_ k_ ∨ w.heap.size ≤ k_)) (.slice A1_1 l1_1.length c1_1) l1_1 from Kd.V_mono hs1_1 (fun k_ hk => .inl hk))
  have HR2 := Aside0.mk hr2
  have HC2 := Aside0.mk hc2
  clear hr2 hc2
  have HB := Aside0.mk (Below.refl w.heap.size w)
  have H : ((taquinlaw22_small.f k).bind fun t279 => ((taquinlaw22_few.f k a0_0 a0_1 a0_2 l0_3 l0_4 a1_0 l1_1).bind fun t280 => (if t280 = true then (if (l2.length : Int) > 60 then (taquinlaw22_RobotStays.j0 k l2 t279 true a0_0 a0_1 a0_2 l0_3 l0_4 a1_0 l1_1) else ((robot_Right.f k a0_0 a0_1 a0_2 l0_3 l0_4 a1_0 l1_1).bind fun t281 => (taquinlaw22_RobotStays.j0 k l2 t279 (!t281) a0_0 a0_1 a0_2 l0_3 l0_4 a1_0 l1_1))) else (taquinlaw22_RobotStays.j0 k l2 t279 true a0_0 a0_1 a0_2 l0_3 l0_4 a1_0 l1_1)))) = some r := h
  clear h
  replace H := Option.bind_eq_some_iff.mp H
  obtain ⟨t279, A40, H⟩ := H
  replace H : ((taquinlaw22_few.f k a0_0 a0_1 a0_2 l0_3 l0_4 a1_0 l1_1).bind fun t280 => (if t280 = true then (if (l2.length : Int) > 60 then (taquinlaw22_RobotStays.j0 k l2 t279 true a0_0 a0_1 a0_2 l0_3 l0_4 a1_0 l1_1) else ((robot_Right.f k a0_0 a0_1 a0_2 l0_3 l0_4 a1_0 l1_1).bind fun t281 => (taquinlaw22_RobotStays.j0 k l2 t279 (!t281) a0_0 a0_1 a0_2 l0_3 l0_4 a1_0 l1_1))) else (taquinlaw22_RobotStays.j0 k l2 t279 true a0_0 a0_1 a0_2 l0_3 l0_4 a1_0 l1_1))) = some r := H
  have A4 := Aside0.mk A40
  clear A40
  have HC5 := Aside0.mk H
  clear H
  go_enter Try.func3, Try.ntmps3
  go_upto_region 2 with (first | ((with_reducible refine gate_dst (N := 3) rfl ?_); (try (refine gate_guard (by rfl) ?_; dsimp only)); refine box_event ?hg (N := 3) ?hd (cs := #[.int .i64 a0_0, .int .i64 a0_1, .int .i64 a0_2, .slice A0_3 l0_3.length c0_3, .slice A0_4 l0_4.length c0_4]) (t := 24) ?hr ?_; (case hd => rfl); (case hg => rfl); (case hr => first | (go_simp; done) | (go_simp; rfl)); intro gb277 hg w6 hbox hb; have n0_ := Aside0.mk (Kd.V_below (Kd.V_elderB (by (with_reducible repeat (first | apply Kd.V_alloc | apply Kd.V_drewN | apply Kd.V_drew)); exact HO1_1.out) gb277 (Nat.le_of_eq hg.symm)) hb); have n1_ := Aside0.mk (below_step (by repeat (first | (with_reducible first | exact HB.out | apply below_alloc | apply pw_below_drewN | apply below_drew1) | exact HB.out)) hb); have n2_ := Aside0.mk (hbox); have n3_ := Aside0.mk ((by rw [hg]; exact (below_size (by repeat (first | (with_reducible first | exact HB.out | apply below_alloc | apply pw_below_drewN | apply below_drew1) | exact HB.out))) : w.heap.size ≤ gb277)); have n4_ := Aside0.mk ((by rw [hg]; exact (below_size (by repeat (first | (with_reducible first | exact HB.out | apply below_alloc | apply pw_below_drewN | apply below_drew1) | exact HB.out))) : w.heap.size ≤ gb277)); clear HO1_1; clear HB; have HO1_1 := n0_; have HB := n1_; have BK277 := n2_; have GW277 := n3_; have GE277 := n4_; clear n0_ n1_ n2_ n3_ n4_; clear hb hbox hg) | ((with_reducible refine gate_dst (N := 4) rfl ?_); (try (refine gate_guard (by rfl) ?_; dsimp only)); refine box_event ?hg (N := 4) ?hd (cs := #[.int .i64 a1_0, .slice A1_1 l1_1.length c1_1]) (t := 26) ?hr ?_; (case hd => rfl); (case hg => rfl); (case hr => first | (go_simp; done) | (go_simp; rfl)); intro gb278 hg w7 hbox hb; have n0_ := Aside0.mk (Kd.V_below (Kd.V_elderB (by (with_reducible repeat (first | apply Kd.V_alloc | apply Kd.V_drewN | apply Kd.V_drew)); exact HO1_1.out) gb278 (Nat.le_of_eq hg.symm)) hb); have n1_ := Aside0.mk (blk_below (g := gb277) (o := .cells #[.int .i64 a0_0, .int .i64 a0_1, .int .i64 a0_2, .slice A0_3 l0_3.length c0_3, .slice A0_4 l0_4.length c0_4] 24 (0, 0)) (by (with_reducible repeat (first | refine blk_drewN ?_ _ | refine blk_drew ?_ | refine blk_alloc ?_ _)); exact BK277.out) hb); have n2_ := Aside0.mk (below_step (by repeat (first | (with_reducible first | exact HB.out | apply below_alloc | apply pw_below_drewN | apply below_drew1 | refine below_set ?_ GE277.out) | exact HB.out)) hb); have n3_ := Aside0.mk (hbox); have n4_ := Aside0.mk ((by rw [hg]; exact (below_size (by repeat (first | (with_reducible first | exact HB.out | apply below_alloc | apply pw_below_drewN | apply below_drew1 | refine below_set ?_ GE277.out) | exact HB.out))) : w.heap.size ≤ gb278)); have n5_ := Aside0.mk ((by rw [hg]; exact (below_size (by repeat (first | (with_reducible first | exact HB.out | apply below_alloc | apply pw_below_drewN | apply below_drew1 | refine below_set ?_ GE277.out) | exact HB.out))) : w.heap.size ≤ gb278)); have n6_ := Aside0.mk ((by rw [hg]; exact Nat.ne_of_lt (blk_lt (g := gb277) (o := .cells #[.int .i64 a0_0, .int .i64 a0_1, .int .i64 a0_2, .slice A0_3 l0_3.length c0_3, .slice A0_4 l0_4.length c0_4] 24 (0, 0)) (by (with_reducible repeat (first | refine blk_drewN ?_ _ | refine blk_drew ?_ | refine blk_alloc ?_ _)); exact BK277.out)) : gb277 ≠ gb278)); have n7_ := Aside0.mk ((by rw [hg]; exact Nat.ne_of_gt (blk_lt (g := gb277) (o := .cells #[.int .i64 a0_0, .int .i64 a0_1, .int .i64 a0_2, .slice A0_3 l0_3.length c0_3, .slice A0_4 l0_4.length c0_4] 24 (0, 0)) (by (with_reducible repeat (first | refine blk_drewN ?_ _ | refine blk_drew ?_ | refine blk_alloc ?_ _)); exact BK277.out)) : gb278 ≠ gb277)); clear HO1_1; clear BK277; clear HB; have HO1_1 := n0_; have BK277 := n1_; have HB := n2_; have BK278 := n3_; have GW278 := n4_; have GE278 := n5_; have NB277_278 := n6_; have NB278_277 := n7_; clear n0_ n1_ n2_ n3_ n4_ n5_ n6_ n7_; clear hb hbox hg) | ((with_reducible refine gate_callee (f := 7) rfl ?_); refine goesL_ (some 17) rfl rfl Try.func7 (by kernel_rfl) rfl #[] rfl (by (try simp only [List.map_toArray, List.map_cons, List.map_nil]); first | done | rfl | (simp only [List.length_drop, List.length_take]; rfl)) ?_; (with_reducible refine (taquinlaw22_small.calls k  t279 _ A4.out).mono ?_); rintro e w8 ⟨rfl, hb⟩; refine ⟨_, rfl, ?_⟩; have n0_ := Aside0.mk (Kd.V_below (by (with_reducible repeat (first | apply Kd.V_alloc | apply Kd.V_drewN | apply Kd.V_drew)); exact HO1_1.out) hb); have n1_ := Aside0.mk (blk_below (g := gb277) (o := .cells #[.int .i64 a0_0, .int .i64 a0_1, .int .i64 a0_2, .slice A0_3 l0_3.length c0_3, .slice A0_4 l0_4.length c0_4] 24 (0, 0)) (by (with_reducible repeat (first | refine blk_drewN ?_ _ | refine blk_drew ?_ | refine blk_alloc ?_ _)); exact BK277.out) hb); have n2_ := Aside0.mk (blk_below (g := gb278) (o := .cells #[.int .i64 a1_0, .slice A1_1 l1_1.length c1_1] 26 (0, 0)) (by (with_reducible repeat (first | refine blk_drewN ?_ _ | refine blk_drew ?_ | refine blk_alloc ?_ _)); exact BK278.out) hb); have n3_ := Aside0.mk (below_step (by repeat (first | (with_reducible first | exact HB.out | apply below_alloc | apply pw_below_drewN | apply below_drew1 | refine below_set ?_ GE277.out | refine below_set ?_ GE278.out) | exact HB.out)) hb); clear HO1_1; clear BK277; clear BK278; clear HB; have HO1_1 := n0_; have BK277 := n1_; have BK278 := n2_; have HB := n3_; clear n0_ n1_ n2_ n3_; (try clear hb); (try clear hb2); (try clear hk); (try clear hi)))
  (try simp only [Act.put, List.setIfInBounds_toArray, List.set_cons_zero, List.set_cons_succ])
  go_cut [32] (fun v32 wc => ∃ (kq : Nat) (x32_4 : Bool), v32 = .bool x32_4 ∧ Aside0 (taquinlaw22_RobotStays.j0 kq l2 t279 x32_4 a0_0 a0_1 a0_2 l0_3 l0_4 a1_0 l1_1 = some r) ∧ Aside0 (kq ≤ k) ∧ Aside0 (Kd.V (Kd.int .i64) 3 wc w.heap.size (fun k_ => (P1_1_ k_ ∨ w.heap.size ≤ k_) ∧ k_ ≠ gb277 ∧ k_ ≠ gb278) (.slice A1_1 l1_1.length c1_1) l1_1) ∧ Aside0 (wc.heap[gb277]? = some (.cells #[.int .i64 a0_0, .int .i64 a0_1, .int .i64 a0_2, (.slice A0_3 l0_3.length c0_3), (.slice A0_4 l0_4.length c0_4)] 24 (0, 0))) ∧ Aside0 (wc.heap[gb278]? = some (.cells #[.int .i64 a1_0, (.slice A1_1 l1_1.length c1_1)] 26 (0, 0))) ∧ Aside0 (Below w.heap.size w wc))
  case first =>
    have H := HC5.out
    clear HC5
    replace H := Option.bind_eq_some_iff.mp H
    obtain ⟨t280, A90, H⟩ := H
    replace H : (if t280 = true then (if (l2.length : Int) > 60 then (taquinlaw22_RobotStays.j0 k l2 t279 true a0_0 a0_1 a0_2 l0_3 l0_4 a1_0 l1_1) else ((robot_Right.f k a0_0 a0_1 a0_2 l0_3 l0_4 a1_0 l1_1).bind fun t281 => (taquinlaw22_RobotStays.j0 k l2 t279 (!t281) a0_0 a0_1 a0_2 l0_3 l0_4 a1_0 l1_1))) else (taquinlaw22_RobotStays.j0 k l2 t279 true a0_0 a0_1 a0_2 l0_3 l0_4 a1_0 l1_1)) = some r := H
    have A9 := Aside0.mk A90
    clear A90
    by_cases c10 : t280 = true
    · subst c10
      have H1 : (if (l2.length : Int) > 60 then (taquinlaw22_RobotStays.j0 k l2 t279 true a0_0 a0_1 a0_2 l0_3 l0_4 a1_0 l1_1) else ((robot_Right.f k a0_0 a0_1 a0_2 l0_3 l0_4 a1_0 l1_1).bind fun t281 => (taquinlaw22_RobotStays.j0 k l2 t279 (!t281) a0_0 a0_1 a0_2 l0_3 l0_4 a1_0 l1_1))) = some r := by rw [if_pos rfl] at H; exact H
      clear H
      have H := H1
      clear H1
      by_cases c11 : (l2.length : Int) > 60
      · rw [if_pos c11] at H
        have c11b0 : decide (60 < (l2.length : Int)) = true := decide_eq_true c11
        have c11b1 : decide (60 < l2.length) = true := decide_eq_true (by omega)
        clear c11
        (first | rw [c11b0] | (simp only [i64_w, i32_w]; rw [c11b0]) | skip)
        have H' := Aside0.mk H
        clear H
        have hnb12 := NB277_278.out
        have hnc12 := NB278_277.out
        have hcz13_0 : w8.cell? ⟨gb277, 0, none⟩ = some (.int .i64 a0_0) := (blk_cell BK277.out 0).trans rfl
        have hcz13_1 : w8.cell? ⟨gb277, 1, none⟩ = some (.int .i64 a0_1) := (blk_cell BK277.out 1).trans rfl
        have hcz13_2 : w8.cell? ⟨gb277, 2, none⟩ = some (.int .i64 a0_2) := (blk_cell BK277.out 2).trans rfl
        have hcz13_3 : w8.cell? ⟨gb277, 3, none⟩ = some (.slice A0_3 l0_3.length c0_3) := (blk_cell BK277.out 3).trans rfl
        have hcz13_4 : w8.cell? ⟨gb277, 4, none⟩ = some (.slice A0_4 l0_4.length c0_4) := (blk_cell BK277.out 4).trans rfl
        have hfz13_0 := blk_frozen BK277.out 0
        have hfz13_1 := blk_frozen BK277.out 1
        have hfz13_2 := blk_frozen BK277.out 2
        have hfz13_3 := blk_frozen BK277.out 3
        have hfz13_4 := blk_frozen BK277.out 4
        have hcz14_0 : w8.cell? ⟨gb278, 0, none⟩ = some (.int .i64 a1_0) := (blk_cell BK278.out 0).trans rfl
        have hcz14_1 : w8.cell? ⟨gb278, 1, none⟩ = some (.slice A1_1 l1_1.length c1_1) := (blk_cell BK278.out 1).trans rfl
        have hfz14_0 := blk_frozen BK278.out 0
        have hfz14_1 := blk_frozen BK278.out 1
        go_wp2_with (first | ((with_reducible refine gate_callee (f := 8) rfl ?_); refine goesL_ (some 20) rfl rfl Try.func8 (by kernel_rfl) rfl #[.agg #[.int .i64 a0_0, .int .i64 a0_1, .int .i64 a0_2, .slice A0_3 l0_3.length c0_3, .slice A0_4 l0_4.length c0_4], .agg #[.int .i64 a1_0, .slice A1_1 l1_1.length c1_1]] rfl (by (try simp only [List.map_toArray, List.map_cons, List.map_nil]); first | done | rfl | (simp only [List.length_drop, List.length_take]; rfl)) ?_; (with_reducible refine (taquinlaw22_few.calls k a0_0 a0_1 a0_2 _ _ l0_3 _ _ l0_4 a1_0 _ _ l1_1 true _ ?side1 ?side2 ?side3 ?side4 ?side5 ?side6 A9.out).mono ?_); (case side1 => repeat (first | exact (Kd.C_below HR0_3.out HB.out) | (with_reducible refine Kd.C_alloc ?_ _) | (with_reducible refine Kd.C_drewN ?_ _) | (with_reducible refine Kd.C_drew ?_))); (case side2 => exact HC0_3.out); (case side3 => repeat (first | exact (Kd.C_below HR0_4.out HB.out) | (with_reducible refine Kd.C_alloc ?_ _) | (with_reducible refine Kd.C_drewN ?_ _) | (with_reducible refine Kd.C_drew ?_))); (case side4 => exact HC0_4.out); (case side5 => repeat (first | exact (Kd.V_reads' HO1_1.out).2.2 | (with_reducible refine Kd.C_alloc ?_ _) | (with_reducible refine Kd.C_drewN ?_ _) | (with_reducible refine Kd.C_drew ?_))); (case side6 => exact (Kd.V_reads' HO1_1.out).2.1); rintro e w15 ⟨rfl, hb⟩; refine ⟨_, rfl, ?_⟩; have n0_ := Aside0.mk (Kd.V_below (by (with_reducible repeat (first | apply Kd.V_alloc | apply Kd.V_drewN | apply Kd.V_drew)); exact HO1_1.out) hb); have n1_ := Aside0.mk (blk_below (g := gb277) (o := .cells #[.int .i64 a0_0, .int .i64 a0_1, .int .i64 a0_2, .slice A0_3 l0_3.length c0_3, .slice A0_4 l0_4.length c0_4] 24 (0, 0)) (by (with_reducible repeat (first | refine blk_drewN ?_ _ | refine blk_drew ?_ | refine blk_alloc ?_ _)); exact BK277.out) hb); have n2_ := Aside0.mk (blk_below (g := gb278) (o := .cells #[.int .i64 a1_0, .slice A1_1 l1_1.length c1_1] 26 (0, 0)) (by (with_reducible repeat (first | refine blk_drewN ?_ _ | refine blk_drew ?_ | refine blk_alloc ?_ _)); exact BK278.out) hb); have n3_ := Aside0.mk (below_step (by repeat (first | (with_reducible first | exact HB.out | apply below_alloc | apply pw_below_drewN | apply below_drew1 | refine below_set ?_ GE277.out | refine below_set ?_ GE278.out) | exact HB.out)) hb); clear HO1_1; clear BK277; clear BK278; clear HB; have HO1_1 := n0_; have BK277 := n1_; have BK278 := n2_; have HB := n3_; clear n0_ n1_ n2_ n3_; (try clear hb); (try clear hb2); (try clear hk); (try clear hi)))
        go_meet
        case rel => exact ⟨_, (true), (by first | rfl | (simp; done) | (simp [*]; done)), H', ⟨by first | omega | exact Nat.le_refl _⟩, ⟨by (with_reducible repeat (first | apply Kd.V_alloc | apply Kd.V_drewN | apply Kd.V_drew)); exact Kd.V_mono HO1_1.out (fun _ hk => ⟨hk.1.1, ⟨hk.1.2, hk.2⟩⟩)⟩, ⟨by (with_reducible repeat (first | refine blk_drewN ?_ _ | refine blk_drew ?_ | refine blk_alloc ?_ _)); exact BK277.out⟩, ⟨by (with_reducible repeat (first | refine blk_drewN ?_ _ | refine blk_drew ?_ | refine blk_alloc ?_ _)); exact BK278.out⟩, ⟨by repeat (first | (with_reducible first | exact HB.out | apply below_alloc | apply pw_below_drewN | apply below_drew1 | refine below_set ?_ GE277.out | refine below_set ?_ GE278.out) | exact HB.out)⟩⟩
      · rw [if_neg c11] at H
        have c11b0 : decide (60 < (l2.length : Int)) = false := decide_eq_false c11
        have c11b1 : decide (60 < l2.length) = false := decide_eq_false (by omega)
        clear c11
        (first | rw [c11b0] | (simp only [i64_w, i32_w]; rw [c11b0]) | skip)
        replace H := Option.bind_eq_some_iff.mp H
        obtain ⟨t281, A160, H⟩ := H
        replace H : (taquinlaw22_RobotStays.j0 k l2 t279 (!t281) a0_0 a0_1 a0_2 l0_3 l0_4 a1_0 l1_1) = some r := H
        have A16 := Aside0.mk A160
        clear A160
        have H' := Aside0.mk H
        clear H
        have hnb17 := NB277_278.out
        have hnc17 := NB278_277.out
        have hcz18_0 : w8.cell? ⟨gb277, 0, none⟩ = some (.int .i64 a0_0) := (blk_cell BK277.out 0).trans rfl
        have hcz18_1 : w8.cell? ⟨gb277, 1, none⟩ = some (.int .i64 a0_1) := (blk_cell BK277.out 1).trans rfl
        have hcz18_2 : w8.cell? ⟨gb277, 2, none⟩ = some (.int .i64 a0_2) := (blk_cell BK277.out 2).trans rfl
        have hcz18_3 : w8.cell? ⟨gb277, 3, none⟩ = some (.slice A0_3 l0_3.length c0_3) := (blk_cell BK277.out 3).trans rfl
        have hcz18_4 : w8.cell? ⟨gb277, 4, none⟩ = some (.slice A0_4 l0_4.length c0_4) := (blk_cell BK277.out 4).trans rfl
        have hfz18_0 := blk_frozen BK277.out 0
        have hfz18_1 := blk_frozen BK277.out 1
        have hfz18_2 := blk_frozen BK277.out 2
        have hfz18_3 := blk_frozen BK277.out 3
        have hfz18_4 := blk_frozen BK277.out 4
        have hcz19_0 : w8.cell? ⟨gb278, 0, none⟩ = some (.int .i64 a1_0) := (blk_cell BK278.out 0).trans rfl
        have hcz19_1 : w8.cell? ⟨gb278, 1, none⟩ = some (.slice A1_1 l1_1.length c1_1) := (blk_cell BK278.out 1).trans rfl
        have hfz19_0 := blk_frozen BK278.out 0
        have hfz19_1 := blk_frozen BK278.out 1
        go_wp2_with (first | ((with_reducible refine gate_callee (f := 8) rfl ?_); refine goesL_ (some 20) rfl rfl Try.func8 (by kernel_rfl) rfl #[.agg #[.int .i64 a0_0, .int .i64 a0_1, .int .i64 a0_2, .slice A0_3 l0_3.length c0_3, .slice A0_4 l0_4.length c0_4], .agg #[.int .i64 a1_0, .slice A1_1 l1_1.length c1_1]] rfl (by (try simp only [List.map_toArray, List.map_cons, List.map_nil]); first | done | rfl | (simp only [List.length_drop, List.length_take]; rfl)) ?_; (with_reducible refine (taquinlaw22_few.calls k a0_0 a0_1 a0_2 _ _ l0_3 _ _ l0_4 a1_0 _ _ l1_1 true _ ?side1 ?side2 ?side3 ?side4 ?side5 ?side6 A9.out).mono ?_); (case side1 => repeat (first | exact (Kd.C_below HR0_3.out HB.out) | (with_reducible refine Kd.C_alloc ?_ _) | (with_reducible refine Kd.C_drewN ?_ _) | (with_reducible refine Kd.C_drew ?_))); (case side2 => exact HC0_3.out); (case side3 => repeat (first | exact (Kd.C_below HR0_4.out HB.out) | (with_reducible refine Kd.C_alloc ?_ _) | (with_reducible refine Kd.C_drewN ?_ _) | (with_reducible refine Kd.C_drew ?_))); (case side4 => exact HC0_4.out); (case side5 => repeat (first | exact (Kd.V_reads' HO1_1.out).2.2 | (with_reducible refine Kd.C_alloc ?_ _) | (with_reducible refine Kd.C_drewN ?_ _) | (with_reducible refine Kd.C_drew ?_))); (case side6 => exact (Kd.V_reads' HO1_1.out).2.1); rintro e w20 ⟨rfl, hb⟩; refine ⟨_, rfl, ?_⟩; have n0_ := Aside0.mk (Kd.V_below (by (with_reducible repeat (first | apply Kd.V_alloc | apply Kd.V_drewN | apply Kd.V_drew)); exact HO1_1.out) hb); have n1_ := Aside0.mk (blk_below (g := gb277) (o := .cells #[.int .i64 a0_0, .int .i64 a0_1, .int .i64 a0_2, .slice A0_3 l0_3.length c0_3, .slice A0_4 l0_4.length c0_4] 24 (0, 0)) (by (with_reducible repeat (first | refine blk_drewN ?_ _ | refine blk_drew ?_ | refine blk_alloc ?_ _)); exact BK277.out) hb); have n2_ := Aside0.mk (blk_below (g := gb278) (o := .cells #[.int .i64 a1_0, .slice A1_1 l1_1.length c1_1] 26 (0, 0)) (by (with_reducible repeat (first | refine blk_drewN ?_ _ | refine blk_drew ?_ | refine blk_alloc ?_ _)); exact BK278.out) hb); have n3_ := Aside0.mk (below_step (by repeat (first | (with_reducible first | exact HB.out | apply below_alloc | apply pw_below_drewN | apply below_drew1 | refine below_set ?_ GE277.out | refine below_set ?_ GE278.out) | exact HB.out)) hb); clear HO1_1; clear BK277; clear BK278; clear HB; have HO1_1 := n0_; have BK277 := n1_; have BK278 := n2_; have HB := n3_; clear n0_ n1_ n2_ n3_; (try clear hb); (try clear hb2); (try clear hk); (try clear hi); have hcz21_0 : w20.cell? ⟨gb277, 0, none⟩ = some (.int .i64 a0_0) := (blk_cell BK277.out 0).trans rfl; have hcz21_1 : w20.cell? ⟨gb277, 1, none⟩ = some (.int .i64 a0_1) := (blk_cell BK277.out 1).trans rfl; have hcz21_2 : w20.cell? ⟨gb277, 2, none⟩ = some (.int .i64 a0_2) := (blk_cell BK277.out 2).trans rfl; have hcz21_3 : w20.cell? ⟨gb277, 3, none⟩ = some (.slice A0_3 l0_3.length c0_3) := (blk_cell BK277.out 3).trans rfl; have hcz21_4 : w20.cell? ⟨gb277, 4, none⟩ = some (.slice A0_4 l0_4.length c0_4) := (blk_cell BK277.out 4).trans rfl; have hfz21_0 := blk_frozen BK277.out 0; have hfz21_1 := blk_frozen BK277.out 1; have hfz21_2 := blk_frozen BK277.out 2; have hfz21_3 := blk_frozen BK277.out 3; have hfz21_4 := blk_frozen BK277.out 4; have hcz22_0 : w20.cell? ⟨gb278, 0, none⟩ = some (.int .i64 a1_0) := (blk_cell BK278.out 0).trans rfl; have hcz22_1 : w20.cell? ⟨gb278, 1, none⟩ = some (.slice A1_1 l1_1.length c1_1) := (blk_cell BK278.out 1).trans rfl; have hfz22_0 := blk_frozen BK278.out 0; have hfz22_1 := blk_frozen BK278.out 1) | (go_at_call 9; (with_reducible refine (robot_Right.calls k a0_0 a0_1 a0_2 _ _ l0_3 _ _ l0_4 a1_0 _ _ l1_1 t281 _ ?side1 ?side2 ?side3 ?side4 ?side5 ?side6 A16.out).mono ?_); (case side1 => repeat (first | exact (Kd.C_below HR0_3.out HB.out) | (with_reducible refine Kd.C_alloc ?_ _) | (with_reducible refine Kd.C_drewN ?_ _) | (with_reducible refine Kd.C_drew ?_))); (case side2 => exact HC0_3.out); (case side3 => repeat (first | exact (Kd.C_below HR0_4.out HB.out) | (with_reducible refine Kd.C_alloc ?_ _) | (with_reducible refine Kd.C_drewN ?_ _) | (with_reducible refine Kd.C_drew ?_))); (case side4 => exact HC0_4.out); (case side5 => repeat (first | exact (Kd.V_reads' HO1_1.out).2.2 | (with_reducible refine Kd.C_alloc ?_ _) | (with_reducible refine Kd.C_drewN ?_ _) | (with_reducible refine Kd.C_drew ?_))); (case side6 => exact (Kd.V_reads' HO1_1.out).2.1); rintro e w23 ⟨rfl, hb⟩; have n0_ := Aside0.mk (Kd.V_below (by (with_reducible repeat (first | apply Kd.V_alloc | apply Kd.V_drewN | apply Kd.V_drew)); exact HO1_1.out) hb); have n1_ := Aside0.mk (blk_below (g := gb277) (o := .cells #[.int .i64 a0_0, .int .i64 a0_1, .int .i64 a0_2, .slice A0_3 l0_3.length c0_3, .slice A0_4 l0_4.length c0_4] 24 (0, 0)) (by (with_reducible repeat (first | refine blk_drewN ?_ _ | refine blk_drew ?_ | refine blk_alloc ?_ _)); exact BK277.out) hb); have n2_ := Aside0.mk (blk_below (g := gb278) (o := .cells #[.int .i64 a1_0, .slice A1_1 l1_1.length c1_1] 26 (0, 0)) (by (with_reducible repeat (first | refine blk_drewN ?_ _ | refine blk_drew ?_ | refine blk_alloc ?_ _)); exact BK278.out) hb); have n3_ := Aside0.mk (below_step (by repeat (first | (with_reducible first | exact HB.out | apply below_alloc | apply pw_below_drewN | apply below_drew1 | refine below_set ?_ GE277.out | refine below_set ?_ GE278.out) | exact HB.out)) hb); clear HO1_1; clear BK277; clear BK278; clear HB; have HO1_1 := n0_; have BK277 := n1_; have BK278 := n2_; have HB := n3_; clear n0_ n1_ n2_ n3_; (try clear hb); (try clear hb2); (try clear hk); (try clear hi)))
        go_meet
        case rel => exact ⟨_, (!t281), (by first | rfl | (simp; done) | (simp [*]; done)), H', ⟨by first | omega | exact Nat.le_refl _⟩, ⟨by (with_reducible repeat (first | apply Kd.V_alloc | apply Kd.V_drewN | apply Kd.V_drew)); exact Kd.V_mono HO1_1.out (fun _ hk => ⟨hk.1.1, ⟨hk.1.2, hk.2⟩⟩)⟩, ⟨by (with_reducible repeat (first | refine blk_drewN ?_ _ | refine blk_drew ?_ | refine blk_alloc ?_ _)); exact BK277.out⟩, ⟨by (with_reducible repeat (first | refine blk_drewN ?_ _ | refine blk_drew ?_ | refine blk_alloc ?_ _)); exact BK278.out⟩, ⟨by repeat (first | (with_reducible first | exact HB.out | apply below_alloc | apply pw_below_drewN | apply below_drew1 | refine below_set ?_ GE277.out | refine below_set ?_ GE278.out) | exact HB.out)⟩⟩
    · replace c10 := Bool.eq_false_iff.mpr c10
      subst c10
      have H1 : (taquinlaw22_RobotStays.j0 k l2 t279 true a0_0 a0_1 a0_2 l0_3 l0_4 a1_0 l1_1) = some r := by rw [if_neg (show ¬ (false = true) by decide)] at H; exact H
      clear H
      have H := H1
      clear H1
      have H' := Aside0.mk H
      clear H
      have hnb24 := NB277_278.out
      have hnc24 := NB278_277.out
      have hcz25_0 : w8.cell? ⟨gb277, 0, none⟩ = some (.int .i64 a0_0) := (blk_cell BK277.out 0).trans rfl
      have hcz25_1 : w8.cell? ⟨gb277, 1, none⟩ = some (.int .i64 a0_1) := (blk_cell BK277.out 1).trans rfl
      have hcz25_2 : w8.cell? ⟨gb277, 2, none⟩ = some (.int .i64 a0_2) := (blk_cell BK277.out 2).trans rfl
      have hcz25_3 : w8.cell? ⟨gb277, 3, none⟩ = some (.slice A0_3 l0_3.length c0_3) := (blk_cell BK277.out 3).trans rfl
      have hcz25_4 : w8.cell? ⟨gb277, 4, none⟩ = some (.slice A0_4 l0_4.length c0_4) := (blk_cell BK277.out 4).trans rfl
      have hfz25_0 := blk_frozen BK277.out 0
      have hfz25_1 := blk_frozen BK277.out 1
      have hfz25_2 := blk_frozen BK277.out 2
      have hfz25_3 := blk_frozen BK277.out 3
      have hfz25_4 := blk_frozen BK277.out 4
      have hcz26_0 : w8.cell? ⟨gb278, 0, none⟩ = some (.int .i64 a1_0) := (blk_cell BK278.out 0).trans rfl
      have hcz26_1 : w8.cell? ⟨gb278, 1, none⟩ = some (.slice A1_1 l1_1.length c1_1) := (blk_cell BK278.out 1).trans rfl
      have hfz26_0 := blk_frozen BK278.out 0
      have hfz26_1 := blk_frozen BK278.out 1
      go_wp2_with (first | ((with_reducible refine gate_callee (f := 8) rfl ?_); refine goesL_ (some 20) rfl rfl Try.func8 (by kernel_rfl) rfl #[.agg #[.int .i64 a0_0, .int .i64 a0_1, .int .i64 a0_2, .slice A0_3 l0_3.length c0_3, .slice A0_4 l0_4.length c0_4], .agg #[.int .i64 a1_0, .slice A1_1 l1_1.length c1_1]] rfl (by (try simp only [List.map_toArray, List.map_cons, List.map_nil]); first | done | rfl | (simp only [List.length_drop, List.length_take]; rfl)) ?_; (with_reducible refine (taquinlaw22_few.calls k a0_0 a0_1 a0_2 _ _ l0_3 _ _ l0_4 a1_0 _ _ l1_1 false _ ?side1 ?side2 ?side3 ?side4 ?side5 ?side6 A9.out).mono ?_); (case side1 => repeat (first | exact (Kd.C_below HR0_3.out HB.out) | (with_reducible refine Kd.C_alloc ?_ _) | (with_reducible refine Kd.C_drewN ?_ _) | (with_reducible refine Kd.C_drew ?_))); (case side2 => exact HC0_3.out); (case side3 => repeat (first | exact (Kd.C_below HR0_4.out HB.out) | (with_reducible refine Kd.C_alloc ?_ _) | (with_reducible refine Kd.C_drewN ?_ _) | (with_reducible refine Kd.C_drew ?_))); (case side4 => exact HC0_4.out); (case side5 => repeat (first | exact (Kd.V_reads' HO1_1.out).2.2 | (with_reducible refine Kd.C_alloc ?_ _) | (with_reducible refine Kd.C_drewN ?_ _) | (with_reducible refine Kd.C_drew ?_))); (case side6 => exact (Kd.V_reads' HO1_1.out).2.1); rintro e w27 ⟨rfl, hb⟩; refine ⟨_, rfl, ?_⟩; have n0_ := Aside0.mk (Kd.V_below (by (with_reducible repeat (first | apply Kd.V_alloc | apply Kd.V_drewN | apply Kd.V_drew)); exact HO1_1.out) hb); have n1_ := Aside0.mk (blk_below (g := gb277) (o := .cells #[.int .i64 a0_0, .int .i64 a0_1, .int .i64 a0_2, .slice A0_3 l0_3.length c0_3, .slice A0_4 l0_4.length c0_4] 24 (0, 0)) (by (with_reducible repeat (first | refine blk_drewN ?_ _ | refine blk_drew ?_ | refine blk_alloc ?_ _)); exact BK277.out) hb); have n2_ := Aside0.mk (blk_below (g := gb278) (o := .cells #[.int .i64 a1_0, .slice A1_1 l1_1.length c1_1] 26 (0, 0)) (by (with_reducible repeat (first | refine blk_drewN ?_ _ | refine blk_drew ?_ | refine blk_alloc ?_ _)); exact BK278.out) hb); have n3_ := Aside0.mk (below_step (by repeat (first | (with_reducible first | exact HB.out | apply below_alloc | apply pw_below_drewN | apply below_drew1 | refine below_set ?_ GE277.out | refine below_set ?_ GE278.out) | exact HB.out)) hb); clear HO1_1; clear BK277; clear BK278; clear HB; have HO1_1 := n0_; have BK277 := n1_; have BK278 := n2_; have HB := n3_; clear n0_ n1_ n2_ n3_; (try clear hb); (try clear hb2); (try clear hk); (try clear hi)))
      go_meet
      case rel => exact ⟨_, (true), (by first | rfl | (simp; done) | (simp [*]; done)), H', ⟨by first | omega | exact Nat.le_refl _⟩, ⟨by (with_reducible repeat (first | apply Kd.V_alloc | apply Kd.V_drewN | apply Kd.V_drew)); exact Kd.V_mono HO1_1.out (fun _ hk => ⟨hk.1.1, ⟨hk.1.2, hk.2⟩⟩)⟩, ⟨by (with_reducible repeat (first | refine blk_drewN ?_ _ | refine blk_drew ?_ | refine blk_alloc ?_ _)); exact BK277.out⟩, ⟨by (with_reducible repeat (first | refine blk_drewN ?_ _ | refine blk_drew ?_ | refine blk_alloc ?_ _)); exact BK278.out⟩, ⟨by repeat (first | (with_reducible first | exact HB.out | apply below_alloc | apply pw_below_drewN | apply below_drew1 | refine below_set ?_ GE277.out | refine below_set ?_ GE278.out) | exact HB.out)⟩⟩
  case rest =>
    clear HC5
    try clear c1
    try clear c2
    try clear p2
    try clear c3
    try clear c7
    try clear c8
    try clear c10
    try clear c11
    try clear c11b0
    try clear c11b1
    try clear c12
    try clear c17
    try clear c24
    try clear hcz13_0
    try clear hcz13_1
    try clear hcz13_2
    try clear hcz13_3
    try clear hcz13_4
    try clear hcz14_0
    try clear hcz14_1
    try clear hcz18_0
    try clear hcz18_1
    try clear hcz18_2
    try clear hcz18_3
    try clear hcz18_4
    try clear hcz19_0
    try clear hcz19_1
    try clear hcz21_0
    try clear hcz21_1
    try clear hcz21_2
    try clear hcz21_3
    try clear hcz21_4
    try clear hcz22_0
    try clear hcz22_1
    try clear hcz25_0
    try clear hcz25_1
    try clear hcz25_2
    try clear hcz25_3
    try clear hcz25_4
    try clear hcz26_0
    try clear hcz26_1
    try clear hfz13_0
    try clear hfz13_1
    try clear hfz13_2
    try clear hfz13_3
    try clear hfz13_4
    try clear hfz14_0
    try clear hfz14_1
    try clear hfz18_0
    try clear hfz18_1
    try clear hfz18_2
    try clear hfz18_3
    try clear hfz18_4
    try clear hfz19_0
    try clear hfz19_1
    try clear hfz21_0
    try clear hfz21_1
    try clear hfz21_2
    try clear hfz21_3
    try clear hfz21_4
    try clear hfz22_0
    try clear hfz22_1
    try clear hfz25_0
    try clear hfz25_1
    try clear hfz25_2
    try clear hfz25_3
    try clear hfz25_4
    try clear hfz26_0
    try clear hfz26_1
    obtain ⟨kq, x32_4, rfl, HA, HJ4, HO_279001, BK277, BK278, HB⟩ := hcut
    cases kq with
    | zero => exact absurd HA.out (by simp [taquinlaw22_RobotStays.j0])
    | succ kj4 =>
      have H := HA.out
      clear HA
      simp only [taquinlaw22_RobotStays.j0] at H
      by_cases c28 : x32_4 = true
      · subst c28
        have H1 : (some t279) = some r := by rw [if_pos rfl] at H; exact H
        clear H
        have H := H1
        clear H1
        obtain rfl := Option.some.inj H
        go_wp2
        go_ret
        exact ⟨by first | rfl | (simp [errW_none, errW_some] <;> rfl) | (simp [*, errW_none, errW_some] <;> rfl), by repeat (first | (with_reducible first | exact HB.out | apply below_alloc | apply pw_below_drewN | apply below_drew1 | refine below_set ?_ GE277.out | refine below_set ?_ GE278.out) | exact HB.out)⟩
      · replace c28 := Bool.eq_false_iff.mpr c28
        subst c28
        have H1 : ((robot_Way.f kj4 a0_0 a0_1 a0_2 l0_3 l0_4 a1_0 l1_1).bind fun t282 => (if (t282.length : Int) = 0 then (none) else (taquinlaw22_RobotStays.l0 kj4 l2 t279 t282 0 0 0 a0_0 a0_1 a0_2 l0_3 l0_4 a1_0 l1_1))) = some r := by rw [if_neg (show ¬ (false = true) by decide)] at H; exact H
        clear H
        have H := H1
        clear H1
        replace H := Option.bind_eq_some_iff.mp H
        obtain ⟨t282, A290, H⟩ := H
        replace H : (if (t282.length : Int) = 0 then (none) else (taquinlaw22_RobotStays.l0 kj4 l2 t279 t282 0 0 0 a0_0 a0_1 a0_2 l0_3 l0_4 a1_0 l1_1)) = some r := H
        have A29 := Aside0.mk A290
        clear A290
        by_cases c30 : (t282.length : Int) = 0
        · rw [if_pos c30] at H
          exact absurd H (by simp)
        · rw [if_neg c30] at H
          have c30b0 : ((t282.length : Int) == 0) = false := beq_eq_false_iff_ne.mpr c30
          have c30b1 : ((t282.length : Int) != 0) = true := bne_iff_ne.mpr c30
          have c30b2 : ¬ (t282 = []) := fun h_ => c30 (by rw [h_]; rfl)
          have H' := Aside0.mk H
          clear H
          have hnb31 := NB277_278.out
          have hnc31 := NB278_277.out
          have hcz32_0 : wc.cell? ⟨gb277, 0, none⟩ = some (.int .i64 a0_0) := (blk_cell BK277.out 0).trans rfl
          have hcz32_1 : wc.cell? ⟨gb277, 1, none⟩ = some (.int .i64 a0_1) := (blk_cell BK277.out 1).trans rfl
          have hcz32_2 : wc.cell? ⟨gb277, 2, none⟩ = some (.int .i64 a0_2) := (blk_cell BK277.out 2).trans rfl
          have hcz32_3 : wc.cell? ⟨gb277, 3, none⟩ = some (.slice A0_3 l0_3.length c0_3) := (blk_cell BK277.out 3).trans rfl
          have hcz32_4 : wc.cell? ⟨gb277, 4, none⟩ = some (.slice A0_4 l0_4.length c0_4) := (blk_cell BK277.out 4).trans rfl
          have hfz32_0 := blk_frozen BK277.out 0
          have hfz32_1 := blk_frozen BK277.out 1
          have hfz32_2 := blk_frozen BK277.out 2
          have hfz32_3 := blk_frozen BK277.out 3
          have hfz32_4 := blk_frozen BK277.out 4
          have hcz33_0 : wc.cell? ⟨gb278, 0, none⟩ = some (.int .i64 a1_0) := (blk_cell BK278.out 0).trans rfl
          have hcz33_1 : wc.cell? ⟨gb278, 1, none⟩ = some (.slice A1_1 l1_1.length c1_1) := (blk_cell BK278.out 1).trans rfl
          have hfz33_0 := blk_frozen BK278.out 0
          have hfz33_1 := blk_frozen BK278.out 1
          go_wp2_with (first | ((with_reducible refine gate_callee (f := 10) rfl ?_); refine goesL_ (some 36) rfl rfl Try.func10 (by kernel_rfl) rfl #[.agg #[.int .i64 a0_0, .int .i64 a0_1, .int .i64 a0_2, .slice A0_3 l0_3.length c0_3, .slice A0_4 l0_4.length c0_4], .agg #[.int .i64 a1_0, .slice A1_1 l1_1.length c1_1]] rfl (by (try simp only [List.map_toArray, List.map_cons, List.map_nil]); first | done | rfl | (simp only [List.length_drop, List.length_take]; rfl)) ?_; (with_reducible refine (robot_Way.calls kj4 a0_0 a0_1 a0_2 _ _ l0_3 _ _ l0_4 a1_0 _ _ l1_1 t282 _ ?side1 ?side2 ?side3 ?side4 ?side5 ?side6 A29.out).mono ?_); (case side1 => repeat (first | exact (Kd.C_below HR0_3.out HB.out) | (with_reducible refine Kd.C_alloc ?_ _) | (with_reducible refine Kd.C_drewN ?_ _) | (with_reducible refine Kd.C_drew ?_))); (case side2 => exact HC0_3.out); (case side3 => repeat (first | exact (Kd.C_below HR0_4.out HB.out) | (with_reducible refine Kd.C_alloc ?_ _) | (with_reducible refine Kd.C_drewN ?_ _) | (with_reducible refine Kd.C_drew ?_))); (case side4 => exact HC0_4.out); (case side5 => repeat (first | exact (Kd.V_reads' HO_279001.out).2.2 | (with_reducible refine Kd.C_alloc ?_ _) | (with_reducible refine Kd.C_drewN ?_ _) | (with_reducible refine Kd.C_drew ?_))); (case side6 => exact (Kd.V_reads' HO_279001.out).2.1); rintro e w34 ⟨v283, rfl, ho0, hb⟩; refine ⟨_, rfl, ?_⟩; have n0_ := Aside0.mk (Kd.V_elder' (by (with_reducible repeat (first | apply Kd.V_alloc | apply Kd.V_drewN | apply Kd.V_drew)); exact HO_279001.out) (Kd.R_base ho0) hb); have n1_ := Aside0.mk (Kd.R_lower (Kd.R_newM (M := fun k_ => (w.heap.size ≤ k_)) ho0 (below_size (by repeat (first | (with_reducible first | exact HB.out | apply below_alloc | apply pw_below_drewN | apply below_drew1 | refine below_set ?_ GE277.out | refine below_set ?_ GE278.out) | exact HB.out))) (fun k_ h_ => h_)) (below_size (by repeat (first | (with_reducible first | exact HB.out | apply below_alloc | apply pw_below_drewN | apply below_drew1 | refine below_set ?_ GE277.out | refine below_set ?_ GE278.out) | exact HB.out)))); have n2_ := Aside0.mk (blk_below (g := gb277) (o := .cells #[.int .i64 a0_0, .int .i64 a0_1, .int .i64 a0_2, .slice A0_3 l0_3.length c0_3, .slice A0_4 l0_4.length c0_4] 24 (0, 0)) (by (with_reducible repeat (first | refine blk_drewN ?_ _ | refine blk_drew ?_ | refine blk_alloc ?_ _)); exact BK277.out) hb); have n3_ := Aside0.mk (blk_below (g := gb278) (o := .cells #[.int .i64 a1_0, .slice A1_1 l1_1.length c1_1] 26 (0, 0)) (by (with_reducible repeat (first | refine blk_drewN ?_ _ | refine blk_drew ?_ | refine blk_alloc ?_ _)); exact BK278.out) hb); have n4_ := Aside0.mk (below_step (by repeat (first | (with_reducible first | exact HB.out | apply below_alloc | apply pw_below_drewN | apply below_drew1 | refine below_set ?_ GE277.out | refine below_set ?_ GE278.out) | exact HB.out)) hb); clear HO_279001; clear BK277; clear BK278; clear HB; have HO_279001 := n0_; have HO284 := n1_; have BK277 := n2_; have BK278 := n3_; have HB := n4_; clear n0_ n1_ n2_ n3_ n4_; (try clear hb); (try clear hb2); (try clear hk); (try clear hi); (try clear ho0); obtain ⟨Ao35, co35, eo35⟩ := Kd.R_slice HO284.out; subst eo35))
          go_loopg [9, 10, 11] kj4 (fun kq v9 v10 v11 w' => ∃ (x9_2 : Int) (x10_2 : Int) (x11_2 : Int) (x279000_2 : Int) (x279001_2 : List Int) (u279001 : Value), v9 = .int .i64 x9_2 ∧ v10 = .int .i64 x10_2 ∧ v11 = .int .i64 x11_2 ∧ Aside0 (taquinlaw22_RobotStays.l0 kq l2 t279 t282 x9_2 x10_2 x11_2 a0_0 a0_1 a0_2 l0_3 l0_4 x279000_2 x279001_2 = some r) ∧ Aside0 (kq ≤ kj4) ∧ Aside0 (Kd.R (Kd.int .i64) 3 w' w.heap.size (fun k_ => (w.heap.size ≤ k_)) (.slice Ao35 t282.length co35) t282) ∧ Aside0 (Kd.V (Kd.int .i64) 3 w' w.heap.size (fun k_ => (P1_1_ k_ ∨ w.heap.size ≤ k_) ∧ some k_ ≠ ((.slice Ao35 t282.length co35) : Value).ownBlock ∧ k_ ≠ gb277 ∧ k_ ≠ gb278) u279001 x279001_2) ∧ Aside0 (w'.heap[gb277]? = some (.cells #[.int .i64 a0_0, .int .i64 a0_1, .int .i64 a0_2, (.slice A0_3 l0_3.length c0_3), (.slice A0_4 l0_4.length c0_4)] 24 (0, 0))) ∧ Aside0 (w'.heap[gb278]? = some (.cells #[.int .i64 x279000_2, u279001] 26 (0, 0))) ∧ Aside0 (Below w.heap.size w w'))
          case atStart => exact ⟨(0), (0), (0), (a1_0), (l1_1), (.slice A1_1 l1_1.length c1_1), (by first | rfl | (simp; done) | (simp [*]; done)), (by first | rfl | (simp; done) | (simp [*]; done)), (by first | rfl | (simp; done) | (simp [*]; done)), H', ⟨Nat.le_refl _⟩, ⟨by (with_reducible repeat (first | apply Kd.R_alloc | apply Kd.R_drewN | apply Kd.R_drew)); exact Kd.R_mono HO284.out (fun _ hk => hk.1)⟩, ⟨by (with_reducible repeat (first | apply Kd.V_alloc | apply Kd.V_drewN | apply Kd.V_drew)); exact Kd.V_mono HO_279001.out (fun _ hk => ⟨hk.1.1, ⟨hk.2, ⟨hk.1.2.1, hk.1.2.2⟩⟩⟩)⟩, ⟨by (with_reducible repeat (first | refine blk_drewN ?_ _ | refine blk_drew ?_ | refine blk_alloc ?_ _)); exact BK277.out⟩, ⟨by (with_reducible repeat (first | refine blk_drewN ?_ _ | refine blk_drew ?_ | refine blk_alloc ?_ _)); exact BK278.out⟩, ⟨by repeat (first | (with_reducible first | exact HB.out | apply below_alloc | apply pw_below_drewN | apply below_drew1 | refine below_set ?_ GE277.out | refine below_set ?_ GE278.out) | exact HB.out)⟩⟩
          case round =>
            clear H'
            try clear c1
            try clear c2
            try clear p2
            try clear c3
            try clear c7
            try clear c8
            try clear c10
            try clear c11
            try clear c11b0
            try clear c11b1
            try clear c12
            try clear c17
            try clear c24
            try clear c28
            try clear c30
            try clear c30b0
            try clear c30b1
            try clear c30b2
            try clear c31
            try clear hcz13_0
            try clear hcz13_1
            try clear hcz13_2
            try clear hcz13_3
            try clear hcz13_4
            try clear hcz14_0
            try clear hcz14_1
            try clear hcz18_0
            try clear hcz18_1
            try clear hcz18_2
            try clear hcz18_3
            try clear hcz18_4
            try clear hcz19_0
            try clear hcz19_1
            try clear hcz21_0
            try clear hcz21_1
            try clear hcz21_2
            try clear hcz21_3
            try clear hcz21_4
            try clear hcz22_0
            try clear hcz22_1
            try clear hcz25_0
            try clear hcz25_1
            try clear hcz25_2
            try clear hcz25_3
            try clear hcz25_4
            try clear hcz26_0
            try clear hcz26_1
            try clear hcz32_0
            try clear hcz32_1
            try clear hcz32_2
            try clear hcz32_3
            try clear hcz32_4
            try clear hcz33_0
            try clear hcz33_1
            try clear hfz13_0
            try clear hfz13_1
            try clear hfz13_2
            try clear hfz13_3
            try clear hfz13_4
            try clear hfz14_0
            try clear hfz14_1
            try clear hfz18_0
            try clear hfz18_1
            try clear hfz18_2
            try clear hfz18_3
            try clear hfz18_4
            try clear hfz19_0
            try clear hfz19_1
            try clear hfz21_0
            try clear hfz21_1
            try clear hfz21_2
            try clear hfz21_3
            try clear hfz21_4
            try clear hfz22_0
            try clear hfz22_1
            try clear hfz25_0
            try clear hfz25_1
            try clear hfz25_2
            try clear hfz25_3
            try clear hfz25_4
            try clear hfz26_0
            try clear hfz26_1
            try clear hfz32_0
            try clear hfz32_1
            try clear hfz32_2
            try clear hfz32_3
            try clear hfz32_4
            try clear hfz33_0
            try clear hfz33_1
            try clear p2
            obtain ⟨x9_2, x10_2, x11_2, x279000_2, x279001_2, u279001, rfl, rfl, rfl, HA, HK2, HO_8, HO_279001, BK277, BK278, HB⟩ := hrel
            cases gk with
            | zero => exact absurd HA.out (by simp [taquinlaw22_RobotStays.l0])
            | succ k2 =>
              have H := HA.out
              clear HA
              simp only [taquinlaw22_RobotStays.l0] at H
              by_cases c36 : x11_2 < (l2.length : Int)
              · rw [if_pos c36] at H
                have c36b0 : decide (x11_2 < (l2.length : Int)) = true := decide_eq_true c36
                clear c36
                replace H := Option.bind_eq_some_iff.mp H
                obtain ⟨t287, A370, H⟩ := H
                replace H : (if x10_2 ≥ (x279001_2.length : Int) then (if (x279001_2.length : Int) = 0 then (taquinlaw22_RobotStays.j2 k2 l2 t279 t282 x9_2 x10_2 x11_2 t287 (t287 != 0) a0_0 a0_1 a0_2 l0_3 l0_4 x279000_2 x279001_2) else (taquinlaw22_RobotStays.j2 k2 l2 t279 t282 x9_2 x10_2 x11_2 t287 false a0_0 a0_1 a0_2 l0_3 l0_4 x279000_2 x279001_2)) else (taquinlaw22_RobotStays.j2 k2 l2 t279 t282 x9_2 x10_2 x11_2 t287 false a0_0 a0_1 a0_2 l0_3 l0_4 x279000_2 x279001_2)) = some r := H
                have A37 := Aside0.mk A370
                clear A370
                have HC38 := Aside0.mk H
                clear H
                have hnb39 := NB278_277.out
                have hnc39 := NB277_278.out
                have hcz40_0 : wr.cell? ⟨gb278, 0, none⟩ = some (.int .i64 x279000_2) := (blk_cell BK278.out 0).trans rfl
                have hcz40_1 : wr.cell? ⟨gb278, 1, none⟩ = some (u279001) := (blk_cell BK278.out 1).trans rfl
                have hfz40_0 := blk_frozen BK278.out 0
                have hfz40_1 := blk_frozen BK278.out 1
                obtain ⟨Ao41, co41, eo41⟩ := Kd.V_slice HO_279001.out
                subst eo41
                go_upto_region 13 with (first | ((with_reducible refine gate_callee (f := 11) rfl ?_); refine goesL_ (some 47) rfl rfl Try.func11 (by kernel_rfl) rfl #[.agg #[.int .i64 x279000_2, .slice Ao41 x279001_2.length co41]] rfl (by (try simp only [List.map_toArray, List.map_cons, List.map_nil]); first | done | rfl | (simp only [List.length_drop, List.length_take]; rfl)) ?_; (with_reducible refine (robot_Next.calls x279000_2 _ _ x279001_2 t287 _ ?side1 ?side2 A37.out).mono ?_); (case side1 => repeat (first | exact (Kd.V_reads' HO_279001.out).2.2 | (with_reducible refine Kd.C_alloc ?_ _) | (with_reducible refine Kd.C_drewN ?_ _) | (with_reducible refine Kd.C_drew ?_))); (case side2 => exact (Kd.V_reads' HO_279001.out).2.1); rintro e w42 ⟨rfl, hb⟩; refine ⟨_, rfl, ?_⟩; have n0_ := Aside0.mk (Kd.R_below (by (with_reducible repeat (first | apply Kd.R_alloc | apply Kd.R_drewN | apply Kd.R_drew)); exact HO_8.out) hb); have n1_ := Aside0.mk (Kd.V_below (by (with_reducible repeat (first | apply Kd.V_alloc | apply Kd.V_drewN | apply Kd.V_drew)); exact HO_279001.out) hb); have n2_ := Aside0.mk (blk_below (g := gb277) (o := .cells #[.int .i64 a0_0, .int .i64 a0_1, .int .i64 a0_2, .slice A0_3 l0_3.length c0_3, .slice A0_4 l0_4.length c0_4] 24 (0, 0)) (by (with_reducible repeat (first | refine blk_drewN ?_ _ | refine blk_drew ?_ | refine blk_alloc ?_ _)); exact BK277.out) hb); have n3_ := Aside0.mk (blk_below (g := gb278) (o := .cells #[.int .i64 x279000_2, .slice Ao41 x279001_2.length co41] 26 (0, 0)) (by (with_reducible repeat (first | refine blk_drewN ?_ _ | refine blk_drew ?_ | refine blk_alloc ?_ _)); exact BK278.out) hb); have n4_ := Aside0.mk (below_step (by repeat (first | (with_reducible first | exact HB.out | apply below_alloc | apply pw_below_drewN | apply below_drew1 | refine below_set ?_ GE277.out | refine below_set ?_ GE278.out) | exact HB.out)) hb); clear HO_8; clear HO_279001; clear BK277; clear BK278; clear HB; have HO_8 := n0_; have HO_279001 := n1_; have BK277 := n2_; have BK278 := n3_; have HB := n4_; clear n0_ n1_ n2_ n3_ n4_; (try clear hb); (try clear hb2); (try clear hk); (try clear hi)))
                (try simp only [Act.put, List.setIfInBounds_toArray, List.set_cons_zero, List.set_cons_succ])
                go_cut [62] (fun v62 wc => ∃ (kq : Nat) (x62_37 : Bool), v62 = .bool x62_37 ∧ Aside0 (taquinlaw22_RobotStays.j2 kq l2 t279 t282 x9_2 x10_2 x11_2 t287 x62_37 a0_0 a0_1 a0_2 l0_3 l0_4 x279000_2 x279001_2 = some r) ∧ Aside0 (kq ≤ k2) ∧ Aside0 (Kd.R (Kd.int .i64) 3 wc w.heap.size (fun k_ => (w.heap.size ≤ k_)) (.slice Ao35 t282.length co35) t282) ∧ Aside0 (Kd.V (Kd.int .i64) 3 wc w.heap.size (fun k_ => (P1_1_ k_ ∨ w.heap.size ≤ k_) ∧ some k_ ≠ ((.slice Ao35 t282.length co35) : Value).ownBlock ∧ k_ ≠ gb277 ∧ k_ ≠ gb278) (.slice Ao41 x279001_2.length co41) x279001_2) ∧ Aside0 (wc.heap[gb277]? = some (.cells #[.int .i64 a0_0, .int .i64 a0_1, .int .i64 a0_2, (.slice A0_3 l0_3.length c0_3), (.slice A0_4 l0_4.length c0_4)] 24 (0, 0))) ∧ Aside0 (wc.heap[gb278]? = some (.cells #[.int .i64 x279000_2, (.slice Ao41 x279001_2.length co41)] 26 (0, 0))) ∧ Aside0 (Below w.heap.size w wc))
                case first =>
                  have H := HC38.out
                  clear HC38
                  by_cases c43 : x10_2 ≥ (x279001_2.length : Int)
                  · rw [if_pos c43] at H
                    have c43b0 : decide ((x279001_2.length : Int) ≤ x10_2) = true := decide_eq_true c43
                    clear c43
                    (first | rw [c43b0] | (simp only [i64_w, i32_w]; rw [c43b0]) | skip)
                    by_cases c44 : (x279001_2.length : Int) = 0
                    · rw [if_pos c44] at H
                      have c44b0 : ((x279001_2.length : Int) == 0) = true := beq_iff_eq.mpr c44
                      have c44b1 : ((x279001_2.length : Int) != 0) = false := bne_eq_false_iff_eq.mpr c44
                      clear c44
                      have H' := Aside0.mk H
                      clear H
                      have hnb45 := NB278_277.out
                      have hnc45 := NB277_278.out
                      have hcz46_0 : w42.cell? ⟨gb278, 0, none⟩ = some (.int .i64 x279000_2) := (blk_cell BK278.out 0).trans rfl
                      have hcz46_1 : w42.cell? ⟨gb278, 1, none⟩ = some (.slice Ao41 x279001_2.length co41) := (blk_cell BK278.out 1).trans rfl
                      have hfz46_0 := blk_frozen BK278.out 0
                      have hfz46_1 := blk_frozen BK278.out 1
                      go_wp2
                      go_meet
                      case rel => exact ⟨_, ((t287 != 0)), (by first | rfl | (simp; done) | (simp [*]; done)), H', ⟨by have := HJ4.out; have := HK2.out; first | omega | exact Nat.le_refl _⟩, ⟨by (with_reducible repeat (first | apply Kd.R_alloc | apply Kd.R_drewN | apply Kd.R_drew)); exact HO_8.out⟩, ⟨by (with_reducible repeat (first | apply Kd.V_alloc | apply Kd.V_drewN | apply Kd.V_drew)); exact HO_279001.out⟩, ⟨by (with_reducible repeat (first | refine blk_drewN ?_ _ | refine blk_drew ?_ | refine blk_alloc ?_ _)); exact BK277.out⟩, ⟨by (with_reducible repeat (first | refine blk_drewN ?_ _ | refine blk_drew ?_ | refine blk_alloc ?_ _)); exact BK278.out⟩, ⟨by repeat (first | (with_reducible first | exact HB.out | apply below_alloc | apply pw_below_drewN | apply below_drew1 | refine below_set ?_ GE277.out | refine below_set ?_ GE278.out) | exact HB.out)⟩⟩
                    · rw [if_neg c44] at H
                      have c44b0 : ((x279001_2.length : Int) == 0) = false := beq_eq_false_iff_ne.mpr c44
                      have c44b1 : ((x279001_2.length : Int) != 0) = true := bne_iff_ne.mpr c44
                      have c44b2 : ¬ (x279001_2 = []) := fun h_ => c44 (by rw [h_]; rfl)
                      have H' := Aside0.mk H
                      clear H
                      have hnb47 := NB278_277.out
                      have hnc47 := NB277_278.out
                      have hcz48_0 : w42.cell? ⟨gb278, 0, none⟩ = some (.int .i64 x279000_2) := (blk_cell BK278.out 0).trans rfl
                      have hcz48_1 : w42.cell? ⟨gb278, 1, none⟩ = some (.slice Ao41 x279001_2.length co41) := (blk_cell BK278.out 1).trans rfl
                      have hfz48_0 := blk_frozen BK278.out 0
                      have hfz48_1 := blk_frozen BK278.out 1
                      go_wp2
                      go_meet
                      case rel => exact ⟨_, (false), (by first | rfl | (simp; done) | (simp [*]; done)), H', ⟨by have := HJ4.out; have := HK2.out; first | omega | exact Nat.le_refl _⟩, ⟨by (with_reducible repeat (first | apply Kd.R_alloc | apply Kd.R_drewN | apply Kd.R_drew)); exact HO_8.out⟩, ⟨by (with_reducible repeat (first | apply Kd.V_alloc | apply Kd.V_drewN | apply Kd.V_drew)); exact HO_279001.out⟩, ⟨by (with_reducible repeat (first | refine blk_drewN ?_ _ | refine blk_drew ?_ | refine blk_alloc ?_ _)); exact BK277.out⟩, ⟨by (with_reducible repeat (first | refine blk_drewN ?_ _ | refine blk_drew ?_ | refine blk_alloc ?_ _)); exact BK278.out⟩, ⟨by repeat (first | (with_reducible first | exact HB.out | apply below_alloc | apply pw_below_drewN | apply below_drew1 | refine below_set ?_ GE277.out | refine below_set ?_ GE278.out) | exact HB.out)⟩⟩
                  · rw [if_neg c43] at H
                    have c43b0 : decide ((x279001_2.length : Int) ≤ x10_2) = false := decide_eq_false c43
                    clear c43
                    (first | rw [c43b0] | (simp only [i64_w, i32_w]; rw [c43b0]) | skip)
                    have H' := Aside0.mk H
                    clear H
                    have hnb49 := NB278_277.out
                    have hnc49 := NB277_278.out
                    have hcz50_0 : w42.cell? ⟨gb278, 0, none⟩ = some (.int .i64 x279000_2) := (blk_cell BK278.out 0).trans rfl
                    have hcz50_1 : w42.cell? ⟨gb278, 1, none⟩ = some (.slice Ao41 x279001_2.length co41) := (blk_cell BK278.out 1).trans rfl
                    have hfz50_0 := blk_frozen BK278.out 0
                    have hfz50_1 := blk_frozen BK278.out 1
                    go_wp2
                    go_meet
                    case rel => exact ⟨_, (false), (by first | rfl | (simp; done) | (simp [*]; done)), H', ⟨by have := HJ4.out; have := HK2.out; first | omega | exact Nat.le_refl _⟩, ⟨by (with_reducible repeat (first | apply Kd.R_alloc | apply Kd.R_drewN | apply Kd.R_drew)); exact HO_8.out⟩, ⟨by (with_reducible repeat (first | apply Kd.V_alloc | apply Kd.V_drewN | apply Kd.V_drew)); exact HO_279001.out⟩, ⟨by (with_reducible repeat (first | refine blk_drewN ?_ _ | refine blk_drew ?_ | refine blk_alloc ?_ _)); exact BK277.out⟩, ⟨by (with_reducible repeat (first | refine blk_drewN ?_ _ | refine blk_drew ?_ | refine blk_alloc ?_ _)); exact BK278.out⟩, ⟨by repeat (first | (with_reducible first | exact HB.out | apply below_alloc | apply pw_below_drewN | apply below_drew1 | refine below_set ?_ GE277.out | refine below_set ?_ GE278.out) | exact HB.out)⟩⟩
                case rest =>
                  clear HC38
                  try clear c1
                  try clear c2
                  try clear p2
                  try clear c3
                  try clear c4
                  try clear c7
                  try clear c8
                  try clear c10
                  try clear c11
                  try clear c11b0
                  try clear c11b1
                  try clear c12
                  try clear c17
                  try clear c24
                  try clear c28
                  try clear c30
                  try clear c30b0
                  try clear c30b1
                  try clear c30b2
                  try clear c31
                  try clear c36
                  try clear c36b0
                  try clear c39
                  try clear c43
                  try clear c43b0
                  try clear c44
                  try clear c44b0
                  try clear c44b1
                  try clear c44b2
                  try clear c45
                  try clear c47
                  try clear c49
                  try clear hcz13_0
                  try clear hcz13_1
                  try clear hcz13_2
                  try clear hcz13_3
                  try clear hcz13_4
                  try clear hcz14_0
                  try clear hcz14_1
                  try clear hcz18_0
                  try clear hcz18_1
                  try clear hcz18_2
                  try clear hcz18_3
                  try clear hcz18_4
                  try clear hcz19_0
                  try clear hcz19_1
                  try clear hcz21_0
                  try clear hcz21_1
                  try clear hcz21_2
                  try clear hcz21_3
                  try clear hcz21_4
                  try clear hcz22_0
                  try clear hcz22_1
                  try clear hcz25_0
                  try clear hcz25_1
                  try clear hcz25_2
                  try clear hcz25_3
                  try clear hcz25_4
                  try clear hcz26_0
                  try clear hcz26_1
                  try clear hcz32_0
                  try clear hcz32_1
                  try clear hcz32_2
                  try clear hcz32_3
                  try clear hcz32_4
                  try clear hcz33_0
                  try clear hcz33_1
                  try clear hcz40_0
                  try clear hcz40_1
                  try clear hcz46_0
                  try clear hcz46_1
                  try clear hcz48_0
                  try clear hcz48_1
                  try clear hcz50_0
                  try clear hcz50_1
                  try clear hfz13_0
                  try clear hfz13_1
                  try clear hfz13_2
                  try clear hfz13_3
                  try clear hfz13_4
                  try clear hfz14_0
                  try clear hfz14_1
                  try clear hfz18_0
                  try clear hfz18_1
                  try clear hfz18_2
                  try clear hfz18_3
                  try clear hfz18_4
                  try clear hfz19_0
                  try clear hfz19_1
                  try clear hfz21_0
                  try clear hfz21_1
                  try clear hfz21_2
                  try clear hfz21_3
                  try clear hfz21_4
                  try clear hfz22_0
                  try clear hfz22_1
                  try clear hfz25_0
                  try clear hfz25_1
                  try clear hfz25_2
                  try clear hfz25_3
                  try clear hfz25_4
                  try clear hfz26_0
                  try clear hfz26_1
                  try clear hfz32_0
                  try clear hfz32_1
                  try clear hfz32_2
                  try clear hfz32_3
                  try clear hfz32_4
                  try clear hfz33_0
                  try clear hfz33_1
                  try clear hfz40_0
                  try clear hfz40_1
                  try clear hfz46_0
                  try clear hfz46_1
                  try clear hfz48_0
                  try clear hfz48_1
                  try clear hfz50_0
                  try clear hfz50_1
                  try clear p2
                  obtain ⟨kq, x62_37, rfl, HA, HJ37, HO_8, HO_279001, BK277, BK278, HB⟩ := hcut
                  cases kq with
                  | zero => exact absurd HA.out (by simp [taquinlaw22_RobotStays.j2])
                  | succ kj37 =>
                    have H := HA.out
                    clear HA
                    simp only [taquinlaw22_RobotStays.j2] at H
                    by_cases c51 : x62_37 = true
                    · subst c51
                      have H1 : (none) = some r := by rw [if_pos rfl] at H; exact H
                      clear H
                      have H := H1
                      clear H1
                      exact absurd H (by simp)
                    · replace c51 := Bool.eq_false_iff.mpr c51
                      subst c51
                      have H1 : (if 0 ≤ x11_2 then (if x11_2 < (l2.length : Int) then ((robot_Did.f kj37 a0_0 a0_1 a0_2 l0_3 l0_4 x279000_2 x279001_2 t287 (rdOf false l2 x11_2)).bind fun bt289 => ((robot_Right.f kj37 a0_0 a0_1 a0_2 l0_3 l0_4 bt289.1 bt289.2).bind fun t294 => (if t294 = true then (if rdOf false l2 x11_2 = true then (taquinlaw22_RobotStays.j3 kj37 l2 t279 t282 x9_2 x10_2 x11_2 t287 (x279001_2.length : Int) (decide ((x279001_2.length : Int) > 0)) a0_0 a0_1 a0_2 l0_3 l0_4 x279000_2 x279001_2 bt289.1 bt289.2) else (taquinlaw22_RobotStays.j3 kj37 l2 t279 t282 x9_2 x10_2 x11_2 t287 (x279001_2.length : Int) false a0_0 a0_1 a0_2 l0_3 l0_4 x279000_2 x279001_2 bt289.1 bt289.2)) else (none)))) else (none)) else (none)) = some r := by rw [if_neg (show ¬ (false = true) by decide)] at H; exact H
                      clear H
                      have H := H1
                      clear H1
                      by_cases c52 : 0 ≤ x11_2
                      · rw [if_pos c52] at H
                        have c52b0 : decide (0 ≤ x11_2) = true := decide_eq_true c52
                        clear c52
                        by_cases c53 : x11_2 < (l2.length : Int)
                        · rw [if_pos c53] at H
                          have c53b0 : decide (x11_2 < (l2.length : Int)) = true := decide_eq_true c53
                          clear c53
                          replace H := Option.bind_eq_some_iff.mp H
                          obtain ⟨⟨t289, t290⟩, A540, H⟩ := H
                          replace H : ((robot_Right.f kj37 a0_0 a0_1 a0_2 l0_3 l0_4 t289 t290).bind fun t294 => (if t294 = true then (if rdOf false l2 x11_2 = true then (taquinlaw22_RobotStays.j3 kj37 l2 t279 t282 x9_2 x10_2 x11_2 t287 (x279001_2.length : Int) (decide ((x279001_2.length : Int) > 0)) a0_0 a0_1 a0_2 l0_3 l0_4 x279000_2 x279001_2 t289 t290) else (taquinlaw22_RobotStays.j3 kj37 l2 t279 t282 x9_2 x10_2 x11_2 t287 (x279001_2.length : Int) false a0_0 a0_1 a0_2 l0_3 l0_4 x279000_2 x279001_2 t289 t290)) else (none))) = some r := H
                          have A54 := Aside0.mk A540
                          clear A540
                          replace H := Option.bind_eq_some_iff.mp H
                          obtain ⟨t294, A550, H⟩ := H
                          replace H : (if t294 = true then (if rdOf false l2 x11_2 = true then (taquinlaw22_RobotStays.j3 kj37 l2 t279 t282 x9_2 x10_2 x11_2 t287 (x279001_2.length : Int) (decide ((x279001_2.length : Int) > 0)) a0_0 a0_1 a0_2 l0_3 l0_4 x279000_2 x279001_2 t289 t290) else (taquinlaw22_RobotStays.j3 kj37 l2 t279 t282 x9_2 x10_2 x11_2 t287 (x279001_2.length : Int) false a0_0 a0_1 a0_2 l0_3 l0_4 x279000_2 x279001_2 t289 t290)) else (none)) = some r := H
                          have A55 := Aside0.mk A550
                          clear A550
                          by_cases c56 : t294 = true
                          · subst c56
                            have H1 : (if rdOf false l2 x11_2 = true then (taquinlaw22_RobotStays.j3 kj37 l2 t279 t282 x9_2 x10_2 x11_2 t287 (x279001_2.length : Int) (decide ((x279001_2.length : Int) > 0)) a0_0 a0_1 a0_2 l0_3 l0_4 x279000_2 x279001_2 t289 t290) else (taquinlaw22_RobotStays.j3 kj37 l2 t279 t282 x9_2 x10_2 x11_2 t287 (x279001_2.length : Int) false a0_0 a0_1 a0_2 l0_3 l0_4 x279000_2 x279001_2 t289 t290)) = some r := by rw [if_pos rfl] at H; exact H
                            clear H
                            have H := H1
                            clear H1
                            have HC57 := Aside0.mk H
                            clear H
                            have hnb58 := NB278_277.out
                            have hnc58 := NB277_278.out
                            have hcz59_0 : wc.cell? ⟨gb278, 0, none⟩ = some (.int .i64 x279000_2) := (blk_cell BK278.out 0).trans rfl
                            have hcz59_1 : wc.cell? ⟨gb278, 1, none⟩ = some (.slice Ao41 x279001_2.length co41) := (blk_cell BK278.out 1).trans rfl
                            have hfz59_0 := blk_frozen BK278.out 0
                            have hfz59_1 := blk_frozen BK278.out 1
                            try go_wp2
                            have n0_ := Aside0.mk (Kd.R_drew HO_8.out)
                            have n1_ := Aside0.mk (Kd.V_drew HO_279001.out)
                            have n2_ := Aside0.mk (blk_drew BK277.out)
                            have n3_ := Aside0.mk (blk_drew BK278.out)
                            have n4_ := Aside0.mk (below_drew1 HB.out)
                            clear HO_8
                            clear HO_279001
                            clear BK277
                            clear BK278
                            clear HB
                            have HO_8 := n0_
                            have HO_279001 := n1_
                            have BK277 := n2_
                            have BK278 := n3_
                            have HB := n4_
                            clear n0_ n1_ n2_ n3_ n4_
                            have p288 : 0 ≤ (x11_2 : Int) := of_decide_eq_true (by first | (with_reducible assumption) | assumption)
                            have q288 : x11_2 < (l2.length : Int) := of_decide_eq_true (by first | (with_reducible assumption) | assumption)
                            obtain ⟨ad288, e288, hx288_0⟩ := Kd.at_bool HR2.out x11_2 p288 q288
                            have hw288_0 := hx288_0
                            cases e288
                            replace hx288_0 := (HB.out.cell (World.block_lt_of_cell? w _ hx288_0)).trans hx288_0
                            replace p288 := eq_true p288
                            replace q288 := eq_true q288
                            refine start_ (n := 10) (S := fun w' => w'.cell? ⟨gb277, 0, none⟩ = some (.int .i64 a0_0) ∧ w'.cell? ⟨gb277, 1, none⟩ = some (.int .i64 a0_1) ∧ w'.cell? ⟨gb277, 2, none⟩ = some (.int .i64 a0_2) ∧ w'.cell? ⟨gb277, 3, none⟩ = some (.slice A0_3 l0_3.length c0_3) ∧ w'.cell? ⟨gb277, 4, none⟩ = some (.slice A0_4 l0_4.length c0_4) ∧ w'.cell? ⟨gb278, 0, none⟩ = some (.int .i64 x279000_2) ∧ w'.cell? ⟨gb278, 1, none⟩ = some (.slice Ao41 x279001_2.length co41) ∧ w'.cell? (ad288.add (x11_2).toNat) = some (.bool (rdOf false l2 x11_2))) (ds := []) #[false, false, false, false, false, false, false, false, false, false] (by kernel_rfl) rfl rfl ⟨(blk_cell BK277.out 0).trans rfl, (blk_cell BK277.out 1).trans rfl, (blk_cell BK277.out 2).trans rfl, (blk_cell BK277.out 3).trans rfl, (blk_cell BK277.out 4).trans rfl, (blk_cell BK278.out 0).trans rfl, (blk_cell BK278.out 1).trans rfl, ((HB.out.cell (World.block_lt_of_cell? w _ hw288_0)).trans hw288_0)⟩ (fun hHeld => ?_); refine with_tabW taquinlaw22_RobotStays.tab16 taquinlaw22_RobotStays.bits16 (fun HT_ HW_ => ?_)
                            generalize wc.drew = w60 at HO_8 HO_279001 BK277 BK278 HB hx288_0 hHeld ⊢
                            refine pure_ (i := 2) (N := some 68) (v := ?_) (a' := ?_) #[false, false, true, false, false, false, false, false, false, false] rfl rfl (any_of HT_.out (by kernel_rfl)) (fun _ _ _ h => h) (Or.inl ⟨by rfl, ?_⟩) ?_ ?_
                            rotate_left
                            · intro w'
                              go_simp
                              with_reducible rfl
                            rotate_left
                            · simp only [Act.put, List.setIfInBounds_toArray, List.set_cons_zero, List.set_cons_succ, i64_w, i32_w]
                              rfl
                            refine pure_ (i := 3) (N := some 69) (v := ?_) (a' := ?_) #[false, false, true, true, false, false, false, false, false, false] rfl rfl (any_of HT_.out (by kernel_rfl)) (fun _ _ _ h => h) (Or.inl ⟨by rfl, ?_⟩) ?_ ?_
                            rotate_left
                            · intro w'
                              go_simp
                              with_reducible rfl
                            rotate_left
                            · simp only [Act.put, List.setIfInBounds_toArray, List.set_cons_zero, List.set_cons_succ, i64_w, i32_w]
                              rfl
                            refine pure_ (i := 4) (N := some 70) (v := ?_) (a' := ?_) #[false, false, true, true, true, false, false, false, false, false] rfl rfl (any_of HT_.out (by kernel_rfl)) (fun _ _ _ h => h) (Or.inl ⟨by rfl, ?_⟩) ?_ ?_
                            rotate_left
                            · intro w'
                              go_simp
                              with_reducible rfl
                            rotate_left
                            · simp only [Act.put, List.setIfInBounds_toArray, List.set_cons_zero, List.set_cons_succ, i64_w, i32_w]
                              rfl
                            refine pure_ (i := 5) (N := some 71) (v := ?_) (a' := ?_) #[false, false, true, true, true, true, false, false, false, false] rfl rfl (any_of HT_.out (by kernel_rfl)) (fun _ _ _ h => h) (Or.inl ⟨by rfl, ?_⟩) ?_ ?_
                            rotate_left
                            · intro w'
                              go_simp
                              with_reducible rfl
                            rotate_left
                            · simp only [Act.put, List.setIfInBounds_toArray, List.set_cons_zero, List.set_cons_succ, i64_w, i32_w]
                              rfl
                            refine take_ (i := 0) (N := some 66) (v := ?_) (a' := ?_) #[true, false, true, true, true, true, false, false, false, false] rfl rfl (take_ofW HT_.out HW_.out (by kernel_rfl)) (fun _ _ _ h => h) (Or.inl ⟨by rfl, ?_⟩) hHeld ?_ ?_
                            rotate_left
                            · rintro w' ⟨s0, s1, s2, s3, s4, s5, s6, s7⟩
                              go_simp
                              with_reducible rfl
                            rotate_left
                            · simp only [Act.put, List.setIfInBounds_toArray, List.set_cons_zero, List.set_cons_succ, i64_w, i32_w]
                              rfl
                            refine take_ (i := 1) (N := some 67) (v := ?_) (a' := ?_) #[true, true, true, true, true, true, false, false, false, false] rfl rfl (take_ofW HT_.out HW_.out (by kernel_rfl)) (fun _ _ _ h => h) (Or.inl ⟨by rfl, ?_⟩) hHeld ?_ ?_
                            rotate_left
                            · rintro w' ⟨s0, s1, s2, s3, s4, s5, s6, s7⟩
                              go_simp
                              with_reducible rfl
                            rotate_left
                            · simp only [Act.put, List.setIfInBounds_toArray, List.set_cons_zero, List.set_cons_succ, i64_w, i32_w]
                              rfl
                            refine take_ (i := 6) (N := some 72) (v := ?_) (a' := ?_) #[true, true, true, true, true, true, true, false, false, false] rfl rfl (take_ofW HT_.out HW_.out (by kernel_rfl)) (fun _ _ _ h => h) (Or.inl ⟨by rfl, ?_⟩) hHeld ?_ ?_
                            rotate_left
                            · rintro w' ⟨s0, s1, s2, s3, s4, s5, s6, s7⟩
                              go_simp
                              with_reducible rfl
                            rotate_left
                            · simp only [Act.put, List.setIfInBounds_toArray, List.set_cons_zero, List.set_cons_succ, i64_w, i32_w]
                              rfl
                            refine join_ (σ := Value × Nat) 1 #[true, true, true, true, true, true, true, true, true, false] (fun s_ => [(73, .agg #[.int .i64 t289, s_.1]), (14, .pointer (some ⟨s_.2, 0, none⟩))]) (fun s_ w' => (w'.cell? ⟨gb277, 0, none⟩ = some (.int .i64 a0_0) ∧ w'.cell? ⟨gb277, 1, none⟩ = some (.int .i64 a0_1) ∧ w'.cell? ⟨gb277, 2, none⟩ = some (.int .i64 a0_2) ∧ w'.cell? ⟨gb277, 3, none⟩ = some (.slice A0_3 l0_3.length c0_3) ∧ w'.cell? ⟨gb277, 4, none⟩ = some (.slice A0_4 l0_4.length c0_4) ∧ w'.cell? ⟨gb278, 0, none⟩ = some (.int .i64 x279000_2) ∧ w'.cell? ⟨gb278, 1, none⟩ = some (.slice Ao41 x279001_2.length co41) ∧ w'.cell? (ad288.add (x11_2).toNat) = some (.bool (rdOf false l2 x11_2))) ∧ (Kd.Q (Kd.int .i64) 3 w' w.heap.size (fun k_ => (w.heap.size ≤ k_) ∧ some k_ ≠ (.slice Ao35 t282.length co35 : Value).ownBlock) s_.1 t290) ∧ (Kd.V (Kd.int .i64) 3 w' w.heap.size (fun k_ => (P1_1_ k_ ∨ w.heap.size ≤ k_) ∧ some k_ ≠ (s_.1 : Value).ownBlock ∧ some k_ ≠ (.slice Ao35 t282.length co35 : Value).ownBlock ∧ k_ ≠ gb277 ∧ k_ ≠ gb278 ∧ k_ ≠ s_.2) (.slice Ao41 x279001_2.length co41) x279001_2) ∧ (Kd.R (Kd.int .i64) 3 w' w.heap.size (fun k_ => (w.heap.size ≤ k_) ∧ some k_ ≠ (s_.1 : Value).ownBlock) (.slice Ao35 t282.length co35) t282) ∧ (w'.heap[gb277]? = some (.cells #[.int .i64 a0_0, .int .i64 a0_1, .int .i64 a0_2, .slice A0_3 l0_3.length c0_3, .slice A0_4 l0_4.length c0_4] 24 (0, 0))) ∧ (w'.heap[gb278]? = some (.cells #[.int .i64 x279000_2, .slice Ao41 x279001_2.length co41] 26 (0, 0))) ∧ (w'.heap[s_.2]? = some (.cells #[.int .i64 0, .slice none 0 0] 26 (0, 0))) ∧ (w.heap.size ≤ s_.2) ∧ (w.heap.size ≤ s_.2) ∧ (gb277 ≠ s_.2) ∧ (s_.2 ≠ gb277) ∧ (gb278 ≠ s_.2) ∧ (s_.2 ≠ gb278) ∧ (Below w.heap.size w w')) ?_ ?_
                            rotate_left
                            · intro hCont
                              refine two_ (i := 7) (j := 8) (Ni := some 73) (Nj := some 14) #[true, true, true, true, true, true, true, true, false, false] #[true, true, true, true, true, true, true, false, true, false] rfl rfl rfl rfl (two_of HT_.out (by kernel_rfl)) (by decide) (by decide) (fun K hK => ?_) (fun K hK => ?_)
                              · skip
                                refine goes_ Try.func12 (by kernel_rfl) rfl #[.agg #[.int .i64 a0_0, .int .i64 a0_1, .int .i64 a0_2, .slice A0_3 l0_3.length c0_3, .slice A0_4 l0_4.length c0_4], .agg #[.int .i64 x279000_2, .slice Ao41 x279001_2.length co41], .int .i64 t287, .bool (rdOf false l2 x11_2)] (by rfl) rfl rfl (by (try simp only [List.map_toArray, List.map_cons, List.map_nil]); first | done | rfl | (simp only [List.length_drop, List.length_take]; rfl)) ?_
                                with_reducible refine (robot_Did.calls kj37 a0_0 a0_1 a0_2 _ _ l0_3 _ _ l0_4 x279000_2 _ _ x279001_2 t287 (rdOf false l2 x11_2) t289 t290 _ ?side1 ?side2 ?side3 ?side4 ?side5 ?side6 A54.out).mono ?_
                                (case side1 => repeat (first | exact (Kd.C_below HR0_3.out HB.out) | (with_reducible refine Kd.C_alloc ?_ _) | (with_reducible refine Kd.C_drewN ?_ _) | (with_reducible refine Kd.C_drew ?_)))
                                (case side2 => exact HC0_3.out)
                                (case side3 => repeat (first | exact (Kd.C_below HR0_4.out HB.out) | (with_reducible refine Kd.C_alloc ?_ _) | (with_reducible refine Kd.C_drewN ?_ _) | (with_reducible refine Kd.C_drew ?_)))
                                (case side4 => exact HC0_4.out)
                                (case side5 => repeat (first | exact (Kd.V_reads' HO_279001.out).2.2 | (with_reducible refine Kd.C_alloc ?_ _) | (with_reducible refine Kd.C_drewN ?_ _) | (with_reducible refine Kd.C_drew ?_)))
                                (case side6 => exact (Kd.V_reads' HO_279001.out).2.1)
                                rintro e w61 ⟨v291, rfl, ho0, hb⟩
                                refine ⟨_, rfl, ?_⟩
                                have n0_ := Aside0.mk (Kd.R_elder' (by (with_reducible repeat (first | apply Kd.R_alloc | apply Kd.R_drewN | apply Kd.R_drew)); exact HO_8.out) (Kd.Q_base ho0) hb)
                                have n1_ := Aside0.mk (Kd.V_elder' (by (with_reducible repeat (first | apply Kd.V_alloc | apply Kd.V_drewN | apply Kd.V_drew)); exact HO_279001.out) (Kd.Q_base ho0) hb)
                                have n2_ := Aside0.mk (Kd.Q_lower (Kd.Q_new' (Kd.Q_newM (M := fun k_ => (w.heap.size ≤ k_)) ho0 (below_size (by repeat (first | (with_reducible first | exact HB.out | apply below_alloc | apply pw_below_drewN | apply below_drew1 | refine below_set ?_ GE277.out | refine below_set ?_ GE278.out) | exact HB.out))) (fun k_ h_ => h_)) (Kd.R_lt (by (with_reducible repeat (first | apply Kd.R_alloc | apply Kd.R_drewN | apply Kd.R_drew)); exact HO_8.out))) (below_size (by repeat (first | (with_reducible first | exact HB.out | apply below_alloc | apply pw_below_drewN | apply below_drew1 | refine below_set ?_ GE277.out | refine below_set ?_ GE278.out) | exact HB.out))))
                                have n3_ := Aside0.mk (blk_below (g := gb277) (o := .cells #[.int .i64 a0_0, .int .i64 a0_1, .int .i64 a0_2, .slice A0_3 l0_3.length c0_3, .slice A0_4 l0_4.length c0_4] 24 (0, 0)) (by (with_reducible repeat (first | refine blk_drewN ?_ _ | refine blk_drew ?_ | refine blk_alloc ?_ _)); exact BK277.out) hb)
                                have n4_ := Aside0.mk (blk_below (g := gb278) (o := .cells #[.int .i64 x279000_2, .slice Ao41 x279001_2.length co41] 26 (0, 0)) (by (with_reducible repeat (first | refine blk_drewN ?_ _ | refine blk_drew ?_ | refine blk_alloc ?_ _)); exact BK278.out) hb)
                                have n5_ := Aside0.mk (below_step (by repeat (first | (with_reducible first | exact HB.out | apply below_alloc | apply pw_below_drewN | apply below_drew1 | refine below_set ?_ GE277.out | refine below_set ?_ GE278.out) | exact HB.out)) hb)
                                clear HO_8
                                clear HO_279001
                                clear BK277
                                clear BK278
                                clear HB
                                have HO_8 := n0_
                                have HO_279001 := n1_
                                have HO292 := n2_
                                have BK277 := n3_
                                have BK278 := n4_
                                have HB := n5_
                                clear n0_ n1_ n2_ n3_ n4_ n5_
                                (try clear hb)
                                (try clear hb2)
                                (try clear hk)
                                (try clear hi)
                                (try clear ho0)
                                refine hK.out _ _ ⟨(blk_cell BK277.out 0).trans rfl, (blk_cell BK277.out 1).trans rfl, (blk_cell BK277.out 2).trans rfl, (blk_cell BK277.out 3).trans rfl, (blk_cell BK277.out 4).trans rfl, (blk_cell BK278.out 0).trans rfl, (blk_cell BK278.out 1).trans rfl, ((HB.out.cell (World.block_lt_of_cell? w _ hw288_0)).trans hw288_0)⟩ (fun hHeld => ?_)
                                clear hK K
                                refine norm_ (a' := ?_) ?_ ?_
                                rotate_left
                                · show Act.put _ (some 73) _ = _
                                  simp only [Act.put, List.setIfInBounds_toArray, List.set_cons_zero, List.set_cons_succ, i64_w, i32_w]
                                  rfl
                                refine one_ (i := 8) (N := some 14) #[true, true, true, true, true, true, true, true, true, false] rfl rfl (one_of HT_.out (by kernel_rfl)) (by decide) (fun K hK => ?_)
                                refine box_step ?hg (N := 14) ?hd (cs := #[.int .i64 0, .slice none 0 0]) (t := 26) ?hr ?_; (case hd => rfl); (case hg => rfl); (case hr => first | (go_simp; done) | (go_simp; rfl))
                                intro gb293 hg w62 hbox hb
                                have n0_ := Aside0.mk (Kd.R_below (by (with_reducible repeat (first | apply Kd.R_alloc | apply Kd.R_drewN | apply Kd.R_drew)); exact HO_8.out) hb)
                                have n1_ := Aside0.mk (Kd.V_below (Kd.V_elderB (by (with_reducible repeat (first | apply Kd.V_alloc | apply Kd.V_drewN | apply Kd.V_drew)); exact HO_279001.out) gb293 (Nat.le_of_eq hg.symm)) hb)
                                have n2_ := Aside0.mk (Kd.Q_below (by (with_reducible repeat (first | apply Kd.Q_alloc | apply Kd.Q_drewN | apply Kd.Q_drew)); exact HO292.out) hb)
                                have n3_ := Aside0.mk (blk_below (g := gb277) (o := .cells #[.int .i64 a0_0, .int .i64 a0_1, .int .i64 a0_2, .slice A0_3 l0_3.length c0_3, .slice A0_4 l0_4.length c0_4] 24 (0, 0)) (by (with_reducible repeat (first | refine blk_drewN ?_ _ | refine blk_drew ?_ | refine blk_alloc ?_ _)); exact BK277.out) hb)
                                have n4_ := Aside0.mk (blk_below (g := gb278) (o := .cells #[.int .i64 x279000_2, .slice Ao41 x279001_2.length co41] 26 (0, 0)) (by (with_reducible repeat (first | refine blk_drewN ?_ _ | refine blk_drew ?_ | refine blk_alloc ?_ _)); exact BK278.out) hb)
                                have n5_ := Aside0.mk (below_step (by repeat (first | (with_reducible first | exact HB.out | apply below_alloc | apply pw_below_drewN | apply below_drew1 | refine below_set ?_ GE277.out | refine below_set ?_ GE278.out) | exact HB.out)) hb)
                                have n6_ := Aside0.mk (hbox)
                                have n7_ := Aside0.mk ((by rw [hg]; exact (below_size (by repeat (first | (with_reducible first | exact HB.out | apply below_alloc | apply pw_below_drewN | apply below_drew1 | refine below_set ?_ GE277.out | refine below_set ?_ GE278.out) | exact HB.out))) : w.heap.size ≤ gb293))
                                have n8_ := Aside0.mk ((by rw [hg]; exact (below_size (by repeat (first | (with_reducible first | exact HB.out | apply below_alloc | apply pw_below_drewN | apply below_drew1 | refine below_set ?_ GE277.out | refine below_set ?_ GE278.out) | exact HB.out))) : w.heap.size ≤ gb293))
                                have n9_ := Aside0.mk ((by rw [hg]; exact Nat.ne_of_lt (blk_lt (g := gb277) (o := .cells #[.int .i64 a0_0, .int .i64 a0_1, .int .i64 a0_2, .slice A0_3 l0_3.length c0_3, .slice A0_4 l0_4.length c0_4] 24 (0, 0)) (by (with_reducible repeat (first | refine blk_drewN ?_ _ | refine blk_drew ?_ | refine blk_alloc ?_ _)); exact BK277.out)) : gb277 ≠ gb293))
                                have n10_ := Aside0.mk ((by rw [hg]; exact Nat.ne_of_gt (blk_lt (g := gb277) (o := .cells #[.int .i64 a0_0, .int .i64 a0_1, .int .i64 a0_2, .slice A0_3 l0_3.length c0_3, .slice A0_4 l0_4.length c0_4] 24 (0, 0)) (by (with_reducible repeat (first | refine blk_drewN ?_ _ | refine blk_drew ?_ | refine blk_alloc ?_ _)); exact BK277.out)) : gb293 ≠ gb277))
                                have n11_ := Aside0.mk ((by rw [hg]; exact Nat.ne_of_lt (blk_lt (g := gb278) (o := .cells #[.int .i64 x279000_2, .slice Ao41 x279001_2.length co41] 26 (0, 0)) (by (with_reducible repeat (first | refine blk_drewN ?_ _ | refine blk_drew ?_ | refine blk_alloc ?_ _)); exact BK278.out)) : gb278 ≠ gb293))
                                have n12_ := Aside0.mk ((by rw [hg]; exact Nat.ne_of_gt (blk_lt (g := gb278) (o := .cells #[.int .i64 x279000_2, .slice Ao41 x279001_2.length co41] 26 (0, 0)) (by (with_reducible repeat (first | refine blk_drewN ?_ _ | refine blk_drew ?_ | refine blk_alloc ?_ _)); exact BK278.out)) : gb293 ≠ gb278))
                                clear HO_8
                                clear HO_279001
                                clear HO292
                                clear BK277
                                clear BK278
                                clear HB
                                have HO_8 := n0_
                                have HO_279001 := n1_
                                have HO292 := n2_
                                have BK277 := n3_
                                have BK278 := n4_
                                have HB := n5_
                                have BK293 := n6_
                                have GW293 := n7_
                                have GE293 := n8_
                                have NB277_293 := n9_
                                have NB293_277 := n10_
                                have NB278_293 := n11_
                                have NB293_278 := n12_
                                clear n0_ n1_ n2_ n3_ n4_ n5_ n6_ n7_ n8_ n9_ n10_ n11_ n12_
                                clear hb hbox hg
                                refine hK.out _ _ ⟨(blk_cell BK277.out 0).trans rfl, (blk_cell BK277.out 1).trans rfl, (blk_cell BK277.out 2).trans rfl, (blk_cell BK277.out 3).trans rfl, (blk_cell BK277.out 4).trans rfl, (blk_cell BK278.out 0).trans rfl, (blk_cell BK278.out 1).trans rfl, ((HB.out.cell (World.block_lt_of_cell? w _ hw288_0)).trans hw288_0)⟩ (fun hHeld => ?_)
                                clear hK K
                                refine norm_ (a' := ?_) ?_ ?_
                                rotate_left
                                · show Act.put _ (some 14) _ = _
                                  simp only [Act.put, List.setIfInBounds_toArray, List.set_cons_zero, List.set_cons_succ, i64_w, i32_w]
                                  rfl
                                exact norm_ (by simp only [putAll, Act.put, List.setIfInBounds_toArray, List.set_cons_zero, List.set_cons_succ]) (hCont (v291, gb293) _ ⟨hHeld, (by (with_reducible repeat (first | apply Kd.Q_alloc | apply Kd.Q_drewN | apply Kd.Q_drew)); exact Kd.Q_mono HO292.out (fun _ hk => ⟨hk.1.1, hk.2⟩)), (by (with_reducible repeat (first | apply Kd.V_alloc | apply Kd.V_drewN | apply Kd.V_drew)); exact Kd.V_mono HO_279001.out (fun _ hk => ⟨hk.1.1.1, ⟨hk.1.2, ⟨hk.1.1.2.1, ⟨hk.1.1.2.2.1, ⟨hk.1.1.2.2.2, hk.2⟩⟩⟩⟩⟩)), (by (with_reducible repeat (first | apply Kd.R_alloc | apply Kd.R_drewN | apply Kd.R_drew)); exact HO_8.out), (by (with_reducible repeat (first | refine blk_drewN ?_ _ | refine blk_drew ?_ | refine blk_alloc ?_ _)); exact BK277.out), (by (with_reducible repeat (first | refine blk_drewN ?_ _ | refine blk_drew ?_ | refine blk_alloc ?_ _)); exact BK278.out), (by (with_reducible repeat (first | refine blk_drewN ?_ _ | refine blk_drew ?_ | refine blk_alloc ?_ _)); exact BK293.out), GW293.out, GE293.out, NB277_293.out, NB293_277.out, NB278_293.out, NB293_278.out, (by repeat (first | (with_reducible first | exact HB.out | apply below_alloc | apply pw_below_drewN | apply below_drew1 | refine below_set ?_ GE277.out | refine below_set ?_ GE278.out | refine below_set ?_ GE293.out) | exact HB.out))⟩)
                              · skip
                                refine box_step ?hg (N := 14) ?hd (cs := #[.int .i64 0, .slice none 0 0]) (t := 26) ?hr ?_; (case hd => rfl); (case hg => rfl); (case hr => first | (go_simp; done) | (go_simp; rfl))
                                intro gb293 hg w61 hbox hb
                                have n0_ := Aside0.mk (Kd.R_below (by (with_reducible repeat (first | apply Kd.R_alloc | apply Kd.R_drewN | apply Kd.R_drew)); exact HO_8.out) hb)
                                have n1_ := Aside0.mk (Kd.V_below (Kd.V_elderB (by (with_reducible repeat (first | apply Kd.V_alloc | apply Kd.V_drewN | apply Kd.V_drew)); exact HO_279001.out) gb293 (Nat.le_of_eq hg.symm)) hb)
                                have n2_ := Aside0.mk (blk_below (g := gb277) (o := .cells #[.int .i64 a0_0, .int .i64 a0_1, .int .i64 a0_2, .slice A0_3 l0_3.length c0_3, .slice A0_4 l0_4.length c0_4] 24 (0, 0)) (by (with_reducible repeat (first | refine blk_drewN ?_ _ | refine blk_drew ?_ | refine blk_alloc ?_ _)); exact BK277.out) hb)
                                have n3_ := Aside0.mk (blk_below (g := gb278) (o := .cells #[.int .i64 x279000_2, .slice Ao41 x279001_2.length co41] 26 (0, 0)) (by (with_reducible repeat (first | refine blk_drewN ?_ _ | refine blk_drew ?_ | refine blk_alloc ?_ _)); exact BK278.out) hb)
                                have n4_ := Aside0.mk (below_step (by repeat (first | (with_reducible first | exact HB.out | apply below_alloc | apply pw_below_drewN | apply below_drew1 | refine below_set ?_ GE277.out | refine below_set ?_ GE278.out) | exact HB.out)) hb)
                                have n5_ := Aside0.mk (hbox)
                                have n6_ := Aside0.mk ((by rw [hg]; exact (below_size (by repeat (first | (with_reducible first | exact HB.out | apply below_alloc | apply pw_below_drewN | apply below_drew1 | refine below_set ?_ GE277.out | refine below_set ?_ GE278.out) | exact HB.out))) : w.heap.size ≤ gb293))
                                have n7_ := Aside0.mk ((by rw [hg]; exact (below_size (by repeat (first | (with_reducible first | exact HB.out | apply below_alloc | apply pw_below_drewN | apply below_drew1 | refine below_set ?_ GE277.out | refine below_set ?_ GE278.out) | exact HB.out))) : w.heap.size ≤ gb293))
                                have n8_ := Aside0.mk ((by rw [hg]; exact Nat.ne_of_lt (blk_lt (g := gb277) (o := .cells #[.int .i64 a0_0, .int .i64 a0_1, .int .i64 a0_2, .slice A0_3 l0_3.length c0_3, .slice A0_4 l0_4.length c0_4] 24 (0, 0)) (by (with_reducible repeat (first | refine blk_drewN ?_ _ | refine blk_drew ?_ | refine blk_alloc ?_ _)); exact BK277.out)) : gb277 ≠ gb293))
                                have n9_ := Aside0.mk ((by rw [hg]; exact Nat.ne_of_gt (blk_lt (g := gb277) (o := .cells #[.int .i64 a0_0, .int .i64 a0_1, .int .i64 a0_2, .slice A0_3 l0_3.length c0_3, .slice A0_4 l0_4.length c0_4] 24 (0, 0)) (by (with_reducible repeat (first | refine blk_drewN ?_ _ | refine blk_drew ?_ | refine blk_alloc ?_ _)); exact BK277.out)) : gb293 ≠ gb277))
                                have n10_ := Aside0.mk ((by rw [hg]; exact Nat.ne_of_lt (blk_lt (g := gb278) (o := .cells #[.int .i64 x279000_2, .slice Ao41 x279001_2.length co41] 26 (0, 0)) (by (with_reducible repeat (first | refine blk_drewN ?_ _ | refine blk_drew ?_ | refine blk_alloc ?_ _)); exact BK278.out)) : gb278 ≠ gb293))
                                have n11_ := Aside0.mk ((by rw [hg]; exact Nat.ne_of_gt (blk_lt (g := gb278) (o := .cells #[.int .i64 x279000_2, .slice Ao41 x279001_2.length co41] 26 (0, 0)) (by (with_reducible repeat (first | refine blk_drewN ?_ _ | refine blk_drew ?_ | refine blk_alloc ?_ _)); exact BK278.out)) : gb293 ≠ gb278))
                                clear HO_8
                                clear HO_279001
                                clear BK277
                                clear BK278
                                clear HB
                                have HO_8 := n0_
                                have HO_279001 := n1_
                                have BK277 := n2_
                                have BK278 := n3_
                                have HB := n4_
                                have BK293 := n5_
                                have GW293 := n6_
                                have GE293 := n7_
                                have NB277_293 := n8_
                                have NB293_277 := n9_
                                have NB278_293 := n10_
                                have NB293_278 := n11_
                                clear n0_ n1_ n2_ n3_ n4_ n5_ n6_ n7_ n8_ n9_ n10_ n11_
                                clear hb hbox hg
                                refine hK.out _ _ ⟨(blk_cell BK277.out 0).trans rfl, (blk_cell BK277.out 1).trans rfl, (blk_cell BK277.out 2).trans rfl, (blk_cell BK277.out 3).trans rfl, (blk_cell BK277.out 4).trans rfl, (blk_cell BK278.out 0).trans rfl, (blk_cell BK278.out 1).trans rfl, ((HB.out.cell (World.block_lt_of_cell? w _ hw288_0)).trans hw288_0)⟩ (fun hHeld => ?_)
                                clear hK K
                                refine norm_ (a' := ?_) ?_ ?_
                                rotate_left
                                · show Act.put _ (some 14) _ = _
                                  simp only [Act.put, List.setIfInBounds_toArray, List.set_cons_zero, List.set_cons_succ, i64_w, i32_w]
                                  rfl
                                refine one_ (i := 7) (N := some 73) #[true, true, true, true, true, true, true, true, true, false] rfl rfl (one_of HT_.out (by kernel_rfl)) (by decide) (fun K hK => ?_)
                                refine goes_ Try.func12 (by kernel_rfl) rfl #[.agg #[.int .i64 a0_0, .int .i64 a0_1, .int .i64 a0_2, .slice A0_3 l0_3.length c0_3, .slice A0_4 l0_4.length c0_4], .agg #[.int .i64 x279000_2, .slice Ao41 x279001_2.length co41], .int .i64 t287, .bool (rdOf false l2 x11_2)] (by rfl) rfl rfl (by (try simp only [List.map_toArray, List.map_cons, List.map_nil]); first | done | rfl | (simp only [List.length_drop, List.length_take]; rfl)) ?_
                                with_reducible refine (robot_Did.calls kj37 a0_0 a0_1 a0_2 _ _ l0_3 _ _ l0_4 x279000_2 _ _ x279001_2 t287 (rdOf false l2 x11_2) t289 t290 _ ?side1 ?side2 ?side3 ?side4 ?side5 ?side6 A54.out).mono ?_
                                (case side1 => repeat (first | exact (Kd.C_below HR0_3.out HB.out) | (with_reducible refine Kd.C_alloc ?_ _) | (with_reducible refine Kd.C_drewN ?_ _) | (with_reducible refine Kd.C_drew ?_)))
                                (case side2 => exact HC0_3.out)
                                (case side3 => repeat (first | exact (Kd.C_below HR0_4.out HB.out) | (with_reducible refine Kd.C_alloc ?_ _) | (with_reducible refine Kd.C_drewN ?_ _) | (with_reducible refine Kd.C_drew ?_)))
                                (case side4 => exact HC0_4.out)
                                (case side5 => repeat (first | exact (Kd.V_reads' HO_279001.out).2.2 | (with_reducible refine Kd.C_alloc ?_ _) | (with_reducible refine Kd.C_drewN ?_ _) | (with_reducible refine Kd.C_drew ?_)))
                                (case side6 => exact (Kd.V_reads' HO_279001.out).2.1)
                                rintro e w62 ⟨v291, rfl, ho0, hb⟩
                                refine ⟨_, rfl, ?_⟩
                                have n0_ := Aside0.mk (Kd.R_elder' (by (with_reducible repeat (first | apply Kd.R_alloc | apply Kd.R_drewN | apply Kd.R_drew)); exact HO_8.out) (Kd.Q_base ho0) hb)
                                have n1_ := Aside0.mk (Kd.V_elder' (by (with_reducible repeat (first | apply Kd.V_alloc | apply Kd.V_drewN | apply Kd.V_drew)); exact HO_279001.out) (Kd.Q_base ho0) hb)
                                have n2_ := Aside0.mk (Kd.Q_lower (Kd.Q_new' (Kd.Q_newM (M := fun k_ => (w.heap.size ≤ k_)) ho0 (below_size (by repeat (first | (with_reducible first | exact HB.out | apply below_alloc | apply pw_below_drewN | apply below_drew1 | refine below_set ?_ GE277.out | refine below_set ?_ GE278.out | refine below_set ?_ GE293.out) | exact HB.out))) (fun k_ h_ => h_)) (Kd.R_lt (by (with_reducible repeat (first | apply Kd.R_alloc | apply Kd.R_drewN | apply Kd.R_drew)); exact HO_8.out))) (below_size (by repeat (first | (with_reducible first | exact HB.out | apply below_alloc | apply pw_below_drewN | apply below_drew1 | refine below_set ?_ GE277.out | refine below_set ?_ GE278.out | refine below_set ?_ GE293.out) | exact HB.out))))
                                have n3_ := Aside0.mk (blk_below (g := gb277) (o := .cells #[.int .i64 a0_0, .int .i64 a0_1, .int .i64 a0_2, .slice A0_3 l0_3.length c0_3, .slice A0_4 l0_4.length c0_4] 24 (0, 0)) (by (with_reducible repeat (first | refine blk_drewN ?_ _ | refine blk_drew ?_ | refine blk_alloc ?_ _)); exact BK277.out) hb)
                                have n4_ := Aside0.mk (blk_below (g := gb278) (o := .cells #[.int .i64 x279000_2, .slice Ao41 x279001_2.length co41] 26 (0, 0)) (by (with_reducible repeat (first | refine blk_drewN ?_ _ | refine blk_drew ?_ | refine blk_alloc ?_ _)); exact BK278.out) hb)
                                have n5_ := Aside0.mk (blk_below (g := gb293) (o := .cells #[.int .i64 0, .slice none 0 0] 26 (0, 0)) (by (with_reducible repeat (first | refine blk_drewN ?_ _ | refine blk_drew ?_ | refine blk_alloc ?_ _)); exact BK293.out) hb)
                                have n6_ := Aside0.mk (below_step (by repeat (first | (with_reducible first | exact HB.out | apply below_alloc | apply pw_below_drewN | apply below_drew1 | refine below_set ?_ GE277.out | refine below_set ?_ GE278.out | refine below_set ?_ GE293.out) | exact HB.out)) hb)
                                clear HO_8
                                clear HO_279001
                                clear BK277
                                clear BK278
                                clear BK293
                                clear HB
                                have HO_8 := n0_
                                have HO_279001 := n1_
                                have HO292 := n2_
                                have BK277 := n3_
                                have BK278 := n4_
                                have BK293 := n5_
                                have HB := n6_
                                clear n0_ n1_ n2_ n3_ n4_ n5_ n6_
                                (try clear hb)
                                (try clear hb2)
                                (try clear hk)
                                (try clear hi)
                                (try clear ho0)
                                refine hK.out _ _ ⟨(blk_cell BK277.out 0).trans rfl, (blk_cell BK277.out 1).trans rfl, (blk_cell BK277.out 2).trans rfl, (blk_cell BK277.out 3).trans rfl, (blk_cell BK277.out 4).trans rfl, (blk_cell BK278.out 0).trans rfl, (blk_cell BK278.out 1).trans rfl, ((HB.out.cell (World.block_lt_of_cell? w _ hw288_0)).trans hw288_0)⟩ (fun hHeld => ?_)
                                clear hK K
                                refine norm_ (a' := ?_) ?_ ?_
                                rotate_left
                                · show Act.put _ (some 73) _ = _
                                  simp only [Act.put, List.setIfInBounds_toArray, List.set_cons_zero, List.set_cons_succ, i64_w, i32_w]
                                  rfl
                                exact norm_ (by simp only [putAll, Act.put, List.setIfInBounds_toArray, List.set_cons_zero, List.set_cons_succ]) (hCont (v291, gb293) _ ⟨hHeld, (by (with_reducible repeat (first | apply Kd.Q_alloc | apply Kd.Q_drewN | apply Kd.Q_drew)); exact Kd.Q_mono HO292.out (fun _ hk => ⟨hk.1.1, hk.2⟩)), (by (with_reducible repeat (first | apply Kd.V_alloc | apply Kd.V_drewN | apply Kd.V_drew)); exact Kd.V_mono HO_279001.out (fun _ hk => ⟨hk.1.1.1, ⟨hk.2, ⟨hk.1.1.2.1, ⟨hk.1.1.2.2.1, ⟨hk.1.1.2.2.2, hk.1.2⟩⟩⟩⟩⟩)), (by (with_reducible repeat (first | apply Kd.R_alloc | apply Kd.R_drewN | apply Kd.R_drew)); exact HO_8.out), (by (with_reducible repeat (first | refine blk_drewN ?_ _ | refine blk_drew ?_ | refine blk_alloc ?_ _)); exact BK277.out), (by (with_reducible repeat (first | refine blk_drewN ?_ _ | refine blk_drew ?_ | refine blk_alloc ?_ _)); exact BK278.out), (by (with_reducible repeat (first | refine blk_drewN ?_ _ | refine blk_drew ?_ | refine blk_alloc ?_ _)); exact BK293.out), GW293.out, GE293.out, NB277_293.out, NB293_277.out, NB278_293.out, NB293_278.out, (by repeat (first | (with_reducible first | exact HB.out | apply below_alloc | apply pw_below_drewN | apply below_drew1 | refine below_set ?_ GE277.out | refine below_set ?_ GE278.out | refine below_set ?_ GE293.out) | exact HB.out))⟩)
                            rintro ⟨v291, gb293⟩ w63 ⟨hS_, h0_, h1_, h2_, h3_, h4_, h5_, h6_, h7_, h8_, h9_, h10_, h11_, h12_⟩
                            have n0_ : Aside0 (Kd.Q (Kd.int .i64) 3 w63 w.heap.size (fun k_ => (w.heap.size ≤ k_) ∧ some k_ ≠ (.slice Ao35 t282.length co35 : Value).ownBlock) v291 t290) := ⟨h0_⟩
                            have n1_ : Aside0 (Kd.V (Kd.int .i64) 3 w63 w.heap.size (fun k_ => (P1_1_ k_ ∨ w.heap.size ≤ k_) ∧ some k_ ≠ (v291 : Value).ownBlock ∧ some k_ ≠ (.slice Ao35 t282.length co35 : Value).ownBlock ∧ k_ ≠ gb277 ∧ k_ ≠ gb278 ∧ k_ ≠ gb293) (.slice Ao41 x279001_2.length co41) x279001_2) := ⟨h1_⟩
                            have n2_ : Aside0 (Kd.R (Kd.int .i64) 3 w63 w.heap.size (fun k_ => (w.heap.size ≤ k_) ∧ some k_ ≠ (v291 : Value).ownBlock) (.slice Ao35 t282.length co35) t282) := ⟨h2_⟩
                            have n3_ : Aside0 (w63.heap[gb277]? = some (.cells #[.int .i64 a0_0, .int .i64 a0_1, .int .i64 a0_2, .slice A0_3 l0_3.length c0_3, .slice A0_4 l0_4.length c0_4] 24 (0, 0))) := ⟨h3_⟩
                            have n4_ : Aside0 (w63.heap[gb278]? = some (.cells #[.int .i64 x279000_2, .slice Ao41 x279001_2.length co41] 26 (0, 0))) := ⟨h4_⟩
                            have n5_ : Aside0 (w63.heap[gb293]? = some (.cells #[.int .i64 0, .slice none 0 0] 26 (0, 0))) := ⟨h5_⟩
                            have n6_ : Aside0 (w.heap.size ≤ gb293) := ⟨h6_⟩
                            have n7_ : Aside0 (w.heap.size ≤ gb293) := ⟨h7_⟩
                            have n8_ : Aside0 (gb277 ≠ gb293) := ⟨h8_⟩
                            have n9_ : Aside0 (gb293 ≠ gb277) := ⟨h9_⟩
                            have n10_ : Aside0 (gb278 ≠ gb293) := ⟨h10_⟩
                            have n11_ : Aside0 (gb293 ≠ gb278) := ⟨h11_⟩
                            have n12_ : Aside0 (Below w.heap.size w w63) := ⟨h12_⟩
                            clear HO_8
                            clear HO_279001
                            clear BK277
                            clear BK278
                            clear HB
                            clear h0_ h1_ h2_ h3_ h4_ h5_ h6_ h7_ h8_ h9_ h10_ h11_ h12_
                            have HO292 := n0_
                            have HO_279001 := n1_
                            have HO_8 := n2_
                            have BK277 := n3_
                            have BK278 := n4_
                            have BK293 := n5_
                            have GW293 := n6_
                            have GE293 := n7_
                            have NB277_293 := n8_
                            have NB293_277 := n9_
                            have NB278_293 := n10_
                            have NB293_278 := n11_
                            have HB := n12_
                            clear n0_ n1_ n2_ n3_ n4_ n5_ n6_ n7_ n8_ n9_ n10_ n11_ n12_
                            have hHeld : w63.cell? ⟨gb277, 0, none⟩ = some (.int .i64 a0_0) ∧ w63.cell? ⟨gb277, 1, none⟩ = some (.int .i64 a0_1) ∧ w63.cell? ⟨gb277, 2, none⟩ = some (.int .i64 a0_2) ∧ w63.cell? ⟨gb277, 3, none⟩ = some (.slice A0_3 l0_3.length c0_3) ∧ w63.cell? ⟨gb277, 4, none⟩ = some (.slice A0_4 l0_4.length c0_4) ∧ w63.cell? ⟨gb278, 0, none⟩ = some (.int .i64 x279000_2) ∧ w63.cell? ⟨gb278, 1, none⟩ = some (.slice Ao41 x279001_2.length co41) ∧ w63.cell? (ad288.add (x11_2).toNat) = some (.bool (rdOf false l2 x11_2)) := hS_
                            obtain ⟨Ao65, co65, eo65, _⟩ := Kd.Q_slice HO292.out
                            (first | subst eo65 | (injection eo65 with f1_ f2_ f3_; have f4_ := f1_.symm; have f5_ := f3_.symm; clear f1_ f2_ f3_; subst f4_; subst f5_))
                            refine norm_ (a' := ?_) ?_ ?_
                            rotate_left
                            · simp only [putAll, Act.put, List.setIfInBounds_toArray, List.set_cons_zero, List.set_cons_succ]
                              rfl
                            refine one_ (i := 9) (N := none) #[true, true, true, true, true, true, true, true, true, true] rfl rfl (one_of HT_.out (by kernel_rfl)) (by decide) (fun K hK => ?_)
                            have hs64 : w63.cell? ⟨gb293, 0, none⟩ = some (.int .i64 0) := (blk_cell BK293.out 0).trans rfl
                            have hfs64 := blk_frozen BK293.out 0
                            have hns64_0 := NB277_293.out
                            have hns64_1 := NB278_293.out
                            have hms64_0 := NB293_277.out
                            have hms64_1 := NB293_278.out
                            have hs66 : w63.cell? ⟨gb293, 1, none⟩ = some (.slice none 0 0) := (blk_cell BK293.out 1).trans rfl
                            have hfs66 := blk_frozen BK293.out 1
                            have hns66_0 := NB277_293.out
                            have hns66_1 := NB278_293.out
                            have hms66_0 := NB293_277.out
                            have hms66_1 := NB293_278.out
                            refine skip_ (w1 := ?_) (by rfl) rfl ?_ ?_
                            rotate_left
                            · go_simp
                              rfl
                            refine hK.out _ _ ⟨((cell_far (p := ⟨gb293, _, none⟩) NB277_293.out _).trans (((cell_far (p := ⟨gb293, _, none⟩) NB277_293.out _).trans (hHeld.1)))), ((cell_far (p := ⟨gb293, _, none⟩) NB277_293.out _).trans (((cell_far (p := ⟨gb293, _, none⟩) NB277_293.out _).trans (hHeld.2.1)))), ((cell_far (p := ⟨gb293, _, none⟩) NB277_293.out _).trans (((cell_far (p := ⟨gb293, _, none⟩) NB277_293.out _).trans (hHeld.2.2.1)))), ((cell_far (p := ⟨gb293, _, none⟩) NB277_293.out _).trans (((cell_far (p := ⟨gb293, _, none⟩) NB277_293.out _).trans (hHeld.2.2.2.1)))), ((cell_far (p := ⟨gb293, _, none⟩) NB277_293.out _).trans (((cell_far (p := ⟨gb293, _, none⟩) NB277_293.out _).trans (hHeld.2.2.2.2.1)))), ((cell_far (p := ⟨gb293, _, none⟩) NB278_293.out _).trans (((cell_far (p := ⟨gb293, _, none⟩) NB278_293.out _).trans (hHeld.2.2.2.2.2.1)))), ((cell_far (p := ⟨gb293, _, none⟩) NB278_293.out _).trans (((cell_far (p := ⟨gb293, _, none⟩) NB278_293.out _).trans (hHeld.2.2.2.2.2.2.1)))), ((cell_far (p := ⟨gb293, _, none⟩) (by first | exact Nat.ne_of_lt (Nat.lt_of_lt_of_le (by have := World.block_lt_of_cell? _ _ hw288_0; first | rwa [add_block] at this | exact this) GW293.out) | (rw [add_block]; exact Nat.ne_of_lt (Nat.lt_of_lt_of_le (by have := World.block_lt_of_cell? _ _ hw288_0; first | rwa [add_block] at this | exact this) GW293.out)) | (show (Addr.add _ _).block ≠ _; rw [add_block]; exact Nat.ne_of_lt (Nat.lt_of_lt_of_le (by have := World.block_lt_of_cell? _ _ hw288_0; first | rwa [add_block] at this | exact this) GW293.out)) | (dsimp only; exact Nat.ne_of_lt (Nat.lt_of_lt_of_le (by have := World.block_lt_of_cell? _ _ hw288_0; first | rwa [add_block] at this | exact this) GW293.out))) _).trans (((cell_far (p := ⟨gb293, _, none⟩) (by first | exact Nat.ne_of_lt (Nat.lt_of_lt_of_le (by have := World.block_lt_of_cell? _ _ hw288_0; first | rwa [add_block] at this | exact this) GW293.out) | (rw [add_block]; exact Nat.ne_of_lt (Nat.lt_of_lt_of_le (by have := World.block_lt_of_cell? _ _ hw288_0; first | rwa [add_block] at this | exact this) GW293.out)) | (show (Addr.add _ _).block ≠ _; rw [add_block]; exact Nat.ne_of_lt (Nat.lt_of_lt_of_le (by have := World.block_lt_of_cell? _ _ hw288_0; first | rwa [add_block] at this | exact this) GW293.out)) | (dsimp only; exact Nat.ne_of_lt (Nat.lt_of_lt_of_le (by have := World.block_lt_of_cell? _ _ hw288_0; first | rwa [add_block] at this | exact this) GW293.out))) _).trans (hHeld.2.2.2.2.2.2.2))))⟩ (fun hHeld => ?_)
                            clear hK K
                            refine done_ (done_of HT_.out (by kernel_rfl)) ?_
                            have hnb67 := NB277_293.out
                            have hnc67 := NB293_277.out
                            have hcz68_0 : w63.cell? ⟨gb277, 0, none⟩ = some (.int .i64 a0_0) := (blk_cell BK277.out 0).trans rfl
                            have hcz68_1 : w63.cell? ⟨gb277, 1, none⟩ = some (.int .i64 a0_1) := (blk_cell BK277.out 1).trans rfl
                            have hcz68_2 : w63.cell? ⟨gb277, 2, none⟩ = some (.int .i64 a0_2) := (blk_cell BK277.out 2).trans rfl
                            have hcz68_3 : w63.cell? ⟨gb277, 3, none⟩ = some (.slice A0_3 l0_3.length c0_3) := (blk_cell BK277.out 3).trans rfl
                            have hcz68_4 : w63.cell? ⟨gb277, 4, none⟩ = some (.slice A0_4 l0_4.length c0_4) := (blk_cell BK277.out 4).trans rfl
                            have hfz68_0 := blk_frozen BK277.out 0
                            have hfz68_1 := blk_frozen BK277.out 1
                            have hfz68_2 := blk_frozen BK277.out 2
                            have hfz68_3 := blk_frozen BK277.out 3
                            have hfz68_4 := blk_frozen BK277.out 4
                            have hnb69 := NB293_278.out
                            have hnc69 := NB278_293.out
                            have hcz70_0 : w63.cell? ⟨gb293, 0, none⟩ = some (.int .i64 0) := (blk_cell BK293.out 0).trans rfl
                            have hcz70_1 : w63.cell? ⟨gb293, 1, none⟩ = some (.slice none 0 0) := (blk_cell BK293.out 1).trans rfl
                            have hfz70_0 := blk_frozen BK293.out 0
                            have hfz70_1 := blk_frozen BK293.out 1
                            go_upto_region 19 with (first | ((with_reducible refine gate_callee (f := 9) rfl ?_); refine goesL_ (some 76) rfl rfl Try.func9 (by kernel_rfl) rfl #[.agg #[.int .i64 a0_0, .int .i64 a0_1, .int .i64 a0_2, .slice A0_3 l0_3.length c0_3, .slice A0_4 l0_4.length c0_4], .agg #[.int .i64 t289, .slice Ao65 t290.length co65]] rfl (by (try simp only [List.map_toArray, List.map_cons, List.map_nil]); first | done | rfl | (simp only [List.length_drop, List.length_take]; rfl)) ?_; (with_reducible refine (robot_Right.calls kj37 a0_0 a0_1 a0_2 _ _ l0_3 _ _ l0_4 t289 _ _ t290 true _ ?side1 ?side2 ?side3 ?side4 ?side5 ?side6 A55.out).mono ?_); (case side1 => exact Kd.C_below HR0_3.out (by repeat (first | (with_reducible first | exact HB.out | apply below_alloc | apply pw_below_drewN | apply below_drew1 | refine below_set ?_ GE277.out | refine below_set ?_ GE278.out | refine below_set ?_ GE293.out) | exact HB.out))); (case side2 => exact HC0_3.out); (case side3 => exact Kd.C_below HR0_4.out (by repeat (first | (with_reducible first | exact HB.out | apply below_alloc | apply pw_below_drewN | apply below_drew1 | refine below_set ?_ GE277.out | refine below_set ?_ GE278.out | refine below_set ?_ GE293.out) | exact HB.out))); (case side4 => exact HC0_4.out); (case side5 => refine (Kd.Q_reads' (e := 3) (base := w.heap.size) (ok := fun k_ => ((w.heap.size ≤ k_) ∧ some k_ ≠ (.slice Ao35 t282.length co35 : Value).ownBlock)) (n := t290.length) (c := co65) ?_).2.2; exact (by (with_reducible repeat (first | apply Kd.Q_alloc | apply Kd.Q_drewN | apply Kd.Q_drew)); exact (Kd.Q_mono (Kd.Q_far (p := ⟨gb293, 1, none⟩) (Kd.Q_far (p := ⟨gb293, 0, none⟩) (Kd.Q_types HO292.out BK293.out (by decide)) (fun _ hk => hk.2) (.int .i64 t289)) (fun _ hk => hk.2) (.slice Ao65 t290.length co65)) (fun _ h_ => h_.1)))); (case side6 => exact (Kd.Q_reads' HO292.out).2.1); rintro e w71 ⟨rfl, hb⟩; refine ⟨_, rfl, ?_⟩; have n0_ := Aside0.mk (Kd.R_below (by (with_reducible repeat (first | apply Kd.R_alloc | apply Kd.R_drewN | apply Kd.R_drew)); exact (Kd.R_mono (Kd.R_far (p := ⟨gb293, 1, none⟩) (Kd.R_far (p := ⟨gb293, 0, none⟩) (Kd.R_types HO_8.out BK293.out (by decide)) (fun _ hk => hk.2) (.int .i64 t289)) (fun _ hk => hk.2) (.slice Ao65 t290.length co65)) (fun _ h_ => h_.1))) hb); have n1_ := Aside0.mk (Kd.V_below (by (with_reducible repeat (first | apply Kd.V_alloc | apply Kd.V_drewN | apply Kd.V_drew)); exact (Kd.V_mono (Kd.V_far (p := ⟨gb293, 1, none⟩) (Kd.V_far (p := ⟨gb293, 0, none⟩) (Kd.V_mono HO_279001.out (fun k_ hk => (⟨hk, hk.2.2.2.2.2⟩ : _ ∧ k_ ≠ gb293))) (fun _ hk => hk.2) (.int .i64 t289)) (fun _ hk => hk.2) (.slice Ao65 t290.length co65)) (fun _ h_ => h_.1))) hb); have n2_ := Aside0.mk (Kd.Q_below (by (with_reducible repeat (first | apply Kd.Q_alloc | apply Kd.Q_drewN | apply Kd.Q_drew)); exact (Kd.Q_mono (Kd.Q_far (p := ⟨gb293, 1, none⟩) (Kd.Q_far (p := ⟨gb293, 0, none⟩) (Kd.Q_types HO292.out BK293.out (by decide)) (fun _ hk => hk.2) (.int .i64 t289)) (fun _ hk => hk.2) (.slice Ao65 t290.length co65)) (fun _ h_ => h_.1))) hb); have n3_ := Aside0.mk (blk_below (g := gb277) (o := .cells #[.int .i64 a0_0, .int .i64 a0_1, .int .i64 a0_2, .slice A0_3 l0_3.length c0_3, .slice A0_4 l0_4.length c0_4] 24 (0, 0)) (by (with_reducible repeat (first | refine blk_drewN ?_ _ | refine blk_drew ?_ | refine blk_alloc ?_ _)); refine blk_far ?_ NB277_293.out _; (with_reducible repeat (first | refine blk_drewN ?_ _ | refine blk_drew ?_ | refine blk_alloc ?_ _)); refine blk_far ?_ NB277_293.out _; (with_reducible repeat (first | refine blk_drewN ?_ _ | refine blk_drew ?_ | refine blk_alloc ?_ _)); exact BK277.out) hb); have n4_ := Aside0.mk (blk_below (g := gb278) (o := .cells #[.int .i64 x279000_2, .slice Ao41 x279001_2.length co41] 26 (0, 0)) (by (with_reducible repeat (first | refine blk_drewN ?_ _ | refine blk_drew ?_ | refine blk_alloc ?_ _)); refine blk_far ?_ NB278_293.out _; (with_reducible repeat (first | refine blk_drewN ?_ _ | refine blk_drew ?_ | refine blk_alloc ?_ _)); refine blk_far ?_ NB278_293.out _; (with_reducible repeat (first | refine blk_drewN ?_ _ | refine blk_drew ?_ | refine blk_alloc ?_ _)); exact BK278.out) hb); have n5_ := Aside0.mk (blk_below (g := gb293) (o := .cells #[.int .i64 t289, .slice Ao65 t290.length co65] 26 (0, 0)) (by (with_reducible repeat (first | refine blk_drewN ?_ _ | refine blk_drew ?_ | refine blk_alloc ?_ _)); refine blk_put (cs := #[.int .i64 t289, .slice none 0 0]) ?_ 1 _ rfl; (with_reducible repeat (first | refine blk_drewN ?_ _ | refine blk_drew ?_ | refine blk_alloc ?_ _)); refine blk_put (cs := #[.int .i64 0, .slice none 0 0]) ?_ 0 _ rfl; (with_reducible repeat (first | refine blk_drewN ?_ _ | refine blk_drew ?_ | refine blk_alloc ?_ _)); exact BK293.out) hb); have n6_ := Aside0.mk (below_step (by repeat (first | (with_reducible first | exact HB.out | apply below_alloc | apply pw_below_drewN | apply below_drew1 | refine below_set ?_ GE277.out | refine below_set ?_ GE278.out | refine below_set ?_ GE293.out) | exact HB.out)) hb); clear HO_8; clear HO_279001; clear HO292; clear BK277; clear BK278; clear BK293; clear HB; have HO_8 := n0_; have HO_279001 := n1_; have HO292 := n2_; have BK277 := n3_; have BK278 := n4_; have BK293 := n5_; have HB := n6_; clear n0_ n1_ n2_ n3_ n4_ n5_ n6_; (try clear hb); (try clear hb2); (try clear hk); (try clear hi)))
                            (try simp only [Act.put, List.setIfInBounds_toArray, List.set_cons_zero, List.set_cons_succ])
                            go_cut [85] (fun v85 wc => ∃ (kq : Nat) (x85_56 : Bool), v85 = .bool x85_56 ∧ Aside0 (taquinlaw22_RobotStays.j3 kq l2 t279 t282 x9_2 x10_2 x11_2 t287 (x279001_2.length : Int) x85_56 a0_0 a0_1 a0_2 l0_3 l0_4 x279000_2 x279001_2 t289 t290 = some r) ∧ Aside0 (kq ≤ kj37) ∧ Aside0 (Kd.R (Kd.int .i64) 3 wc w.heap.size (fun k_ => (w.heap.size ≤ k_) ∧ some k_ ≠ ((.slice Ao65 t290.length co65) : Value).ownBlock) (.slice Ao35 t282.length co35) t282) ∧ Aside0 (Kd.V (Kd.int .i64) 3 wc w.heap.size (fun k_ => (P1_1_ k_ ∨ w.heap.size ≤ k_) ∧ some k_ ≠ ((.slice Ao35 t282.length co35) : Value).ownBlock ∧ some k_ ≠ ((.slice Ao65 t290.length co65) : Value).ownBlock ∧ k_ ≠ gb277 ∧ k_ ≠ gb278 ∧ k_ ≠ gb293) (.slice Ao41 x279001_2.length co41) x279001_2) ∧ Aside0 (Kd.Q (Kd.int .i64) 3 wc w.heap.size (fun k_ => (w.heap.size ≤ k_) ∧ some k_ ≠ ((.slice Ao35 t282.length co35) : Value).ownBlock) (.slice Ao65 t290.length co65) t290) ∧ Aside0 (wc.heap[gb277]? = some (.cells #[.int .i64 a0_0, .int .i64 a0_1, .int .i64 a0_2, (.slice A0_3 l0_3.length c0_3), (.slice A0_4 l0_4.length c0_4)] 24 (0, 0))) ∧ Aside0 (wc.heap[gb278]? = some (.cells #[.int .i64 x279000_2, (.slice Ao41 x279001_2.length co41)] 26 (0, 0))) ∧ Aside0 (wc.heap[gb293]? = some (.cells #[.int .i64 t289, (.slice Ao65 t290.length co65)] 26 (0, 0))) ∧ Aside0 (Below w.heap.size w wc))
                            case first =>
                              have H := HC57.out
                              clear HC57
                              obtain ⟨bq72, hbq72⟩ : ∃ b_ : Bool, b_ = (rdOf false l2 x11_2) := ⟨_, rfl⟩
                              replace H : (if bq72 = true then (taquinlaw22_RobotStays.j3 kj37 l2 t279 t282 x9_2 x10_2 x11_2 t287 (x279001_2.length : Int) (decide ((x279001_2.length : Int) > 0)) a0_0 a0_1 a0_2 l0_3 l0_4 x279000_2 x279001_2 t289 t290) else (taquinlaw22_RobotStays.j3 kj37 l2 t279 t282 x9_2 x10_2 x11_2 t287 (x279001_2.length : Int) false a0_0 a0_1 a0_2 l0_3 l0_4 x279000_2 x279001_2 t289 t290)) = some r := by rw [← hbq72] at H; exact H
                              have Nbq72 := Aside0.mk hbq72
                              clear hbq72
                              (try rw [← Nbq72.out])
                              by_cases c73 : bq72 = true
                              · subst c73
                                have H1 : (taquinlaw22_RobotStays.j3 kj37 l2 t279 t282 x9_2 x10_2 x11_2 t287 (x279001_2.length : Int) (decide ((x279001_2.length : Int) > 0)) a0_0 a0_1 a0_2 l0_3 l0_4 x279000_2 x279001_2 t289 t290) = some r := by rw [if_pos rfl] at H; exact H
                                clear H
                                have H := H1
                                clear H1
                                have H' := Aside0.mk H
                                clear H
                                have p295 : 0 ≤ (x11_2 : Int) := of_decide_eq_true (by first | (with_reducible assumption) | assumption)
                                have q295 : x11_2 < (l2.length : Int) := of_decide_eq_true (by first | (with_reducible assumption) | assumption)
                                obtain ⟨ad295, e295, hx295_0⟩ := Kd.at_bool HR2.out x11_2 p295 q295
                                (try rw [← Nbq72.out] at hx295_0)
                                obtain rfl : ad288 = ad295 := (by injection e295)
                                replace hx295_0 := (HB.out.cell (World.block_lt_of_cell? w _ hx295_0)).trans hx295_0
                                replace p295 := eq_true p295
                                replace q295 := eq_true q295
                                go_wp2
                                go_meet
                                case rel => exact ⟨_, (decide ((x279001_2.length : Int) > 0)), (by first | rfl | (simp; done) | (simp [*]; done)), H', ⟨by have := HJ4.out; have := HK2.out; have := HJ37.out; first | omega | exact Nat.le_refl _⟩, ⟨by (with_reducible repeat (first | apply Kd.R_alloc | apply Kd.R_drewN | apply Kd.R_drew)); exact HO_8.out⟩, ⟨by (with_reducible repeat (first | apply Kd.V_alloc | apply Kd.V_drewN | apply Kd.V_drew)); exact Kd.V_mono HO_279001.out (fun _ hk => ⟨hk.1, ⟨hk.2.2.1, ⟨hk.2.1, ⟨hk.2.2.2.1, ⟨hk.2.2.2.2.1, hk.2.2.2.2.2⟩⟩⟩⟩⟩)⟩, ⟨by (with_reducible repeat (first | apply Kd.Q_alloc | apply Kd.Q_drewN | apply Kd.Q_drew)); exact HO292.out⟩, ⟨by (with_reducible repeat (first | refine blk_drewN ?_ _ | refine blk_drew ?_ | refine blk_alloc ?_ _)); exact BK277.out⟩, ⟨by (with_reducible repeat (first | refine blk_drewN ?_ _ | refine blk_drew ?_ | refine blk_alloc ?_ _)); exact BK278.out⟩, ⟨by (with_reducible repeat (first | refine blk_drewN ?_ _ | refine blk_drew ?_ | refine blk_alloc ?_ _)); exact BK293.out⟩, ⟨by repeat (first | (with_reducible first | exact HB.out | apply below_alloc | apply pw_below_drewN | apply below_drew1 | refine below_set ?_ GE277.out | refine below_set ?_ GE278.out | refine below_set ?_ GE293.out) | exact HB.out)⟩⟩
                              · replace c73 := Bool.eq_false_iff.mpr c73
                                subst c73
                                have H1 : (taquinlaw22_RobotStays.j3 kj37 l2 t279 t282 x9_2 x10_2 x11_2 t287 (x279001_2.length : Int) false a0_0 a0_1 a0_2 l0_3 l0_4 x279000_2 x279001_2 t289 t290) = some r := by rw [if_neg (show ¬ (false = true) by decide)] at H; exact H
                                clear H
                                have H := H1
                                clear H1
                                have H' := Aside0.mk H
                                clear H
                                have p295 : 0 ≤ (x11_2 : Int) := of_decide_eq_true (by first | (with_reducible assumption) | assumption)
                                have q295 : x11_2 < (l2.length : Int) := of_decide_eq_true (by first | (with_reducible assumption) | assumption)
                                obtain ⟨ad295, e295, hx295_0⟩ := Kd.at_bool HR2.out x11_2 p295 q295
                                (try rw [← Nbq72.out] at hx295_0)
                                obtain rfl : ad288 = ad295 := (by injection e295)
                                replace hx295_0 := (HB.out.cell (World.block_lt_of_cell? w _ hx295_0)).trans hx295_0
                                replace p295 := eq_true p295
                                replace q295 := eq_true q295
                                go_wp2
                                go_meet
                                case rel => exact ⟨_, (false), (by first | rfl | (simp; done) | (simp [*]; done)), H', ⟨by have := HJ4.out; have := HK2.out; have := HJ37.out; first | omega | exact Nat.le_refl _⟩, ⟨by (with_reducible repeat (first | apply Kd.R_alloc | apply Kd.R_drewN | apply Kd.R_drew)); exact HO_8.out⟩, ⟨by (with_reducible repeat (first | apply Kd.V_alloc | apply Kd.V_drewN | apply Kd.V_drew)); exact Kd.V_mono HO_279001.out (fun _ hk => ⟨hk.1, ⟨hk.2.2.1, ⟨hk.2.1, ⟨hk.2.2.2.1, ⟨hk.2.2.2.2.1, hk.2.2.2.2.2⟩⟩⟩⟩⟩)⟩, ⟨by (with_reducible repeat (first | apply Kd.Q_alloc | apply Kd.Q_drewN | apply Kd.Q_drew)); exact HO292.out⟩, ⟨by (with_reducible repeat (first | refine blk_drewN ?_ _ | refine blk_drew ?_ | refine blk_alloc ?_ _)); exact BK277.out⟩, ⟨by (with_reducible repeat (first | refine blk_drewN ?_ _ | refine blk_drew ?_ | refine blk_alloc ?_ _)); exact BK278.out⟩, ⟨by (with_reducible repeat (first | refine blk_drewN ?_ _ | refine blk_drew ?_ | refine blk_alloc ?_ _)); exact BK293.out⟩, ⟨by repeat (first | (with_reducible first | exact HB.out | apply below_alloc | apply pw_below_drewN | apply below_drew1 | refine below_set ?_ GE277.out | refine below_set ?_ GE278.out | refine below_set ?_ GE293.out) | exact HB.out)⟩⟩
                            case rest =>
                              clear HC57
                              try clear c1
                              try clear c2
                              try clear p2
                              try clear q2
                              try clear hx2
                              try clear c3
                              try clear c4
                              try clear c5
                              try clear c6
                              try clear c7
                              try clear q7
                              try clear c8
                              try clear c9
                              try clear c10
                              try clear c11
                              try clear c11b0
                              try clear c11b1
                              try clear c12
                              try clear c17
                              try clear c24
                              try clear c28
                              try clear p28
                              try clear q28
                              try clear hx28
                              try clear p29
                              try clear q29
                              try clear hx29
                              try clear c30
                              try clear c30b0
                              try clear c30b1
                              try clear c30b2
                              try clear c31
                              try clear c36
                              try clear c36b0
                              try clear c39
                              try clear c43
                              try clear c43b0
                              try clear c44
                              try clear c44b0
                              try clear c44b1
                              try clear c44b2
                              try clear c45
                              try clear c47
                              try clear c49
                              try clear c51
                              try clear c52
                              try clear c52b0
                              try clear c53
                              try clear c53b0
                              try clear c56
                              try clear c58
                              try clear c67
                              try clear c69
                              try clear q72
                              try clear c73
                              try clear hcz13_0
                              try clear hcz13_1
                              try clear hcz13_2
                              try clear hcz13_3
                              try clear hcz13_4
                              try clear hcz14_0
                              try clear hcz14_1
                              try clear hcz18_0
                              try clear hcz18_1
                              try clear hcz18_2
                              try clear hcz18_3
                              try clear hcz18_4
                              try clear hcz19_0
                              try clear hcz19_1
                              try clear hcz21_0
                              try clear hcz21_1
                              try clear hcz21_2
                              try clear hcz21_3
                              try clear hcz21_4
                              try clear hcz22_0
                              try clear hcz22_1
                              try clear hcz25_0
                              try clear hcz25_1
                              try clear hcz25_2
                              try clear hcz25_3
                              try clear hcz25_4
                              try clear hcz26_0
                              try clear hcz26_1
                              try clear hcz32_0
                              try clear hcz32_1
                              try clear hcz32_2
                              try clear hcz32_3
                              try clear hcz32_4
                              try clear hcz33_0
                              try clear hcz33_1
                              try clear hcz40_0
                              try clear hcz40_1
                              try clear hcz46_0
                              try clear hcz46_1
                              try clear hcz48_0
                              try clear hcz48_1
                              try clear hcz50_0
                              try clear hcz50_1
                              try clear hcz59_0
                              try clear hcz59_1
                              try clear hcz68_0
                              try clear hcz68_1
                              try clear hcz68_2
                              try clear hcz68_3
                              try clear hcz68_4
                              try clear hcz70_0
                              try clear hcz70_1
                              try clear hfz13_0
                              try clear hfz13_1
                              try clear hfz13_2
                              try clear hfz13_3
                              try clear hfz13_4
                              try clear hfz14_0
                              try clear hfz14_1
                              try clear hfz18_0
                              try clear hfz18_1
                              try clear hfz18_2
                              try clear hfz18_3
                              try clear hfz18_4
                              try clear hfz19_0
                              try clear hfz19_1
                              try clear hfz21_0
                              try clear hfz21_1
                              try clear hfz21_2
                              try clear hfz21_3
                              try clear hfz21_4
                              try clear hfz22_0
                              try clear hfz22_1
                              try clear hfz25_0
                              try clear hfz25_1
                              try clear hfz25_2
                              try clear hfz25_3
                              try clear hfz25_4
                              try clear hfz26_0
                              try clear hfz26_1
                              try clear hfz32_0
                              try clear hfz32_1
                              try clear hfz32_2
                              try clear hfz32_3
                              try clear hfz32_4
                              try clear hfz33_0
                              try clear hfz33_1
                              try clear hfz40_0
                              try clear hfz40_1
                              try clear hfz46_0
                              try clear hfz46_1
                              try clear hfz48_0
                              try clear hfz48_1
                              try clear hfz50_0
                              try clear hfz50_1
                              try clear hfz59_0
                              try clear hfz59_1
                              try clear hfz68_0
                              try clear hfz68_1
                              try clear hfz68_2
                              try clear hfz68_3
                              try clear hfz68_4
                              try clear hfz70_0
                              try clear hfz70_1
                              try clear hx288_0
                              try clear hx295_0
                              try clear p2
                              try clear p288
                              try clear p295
                              try clear q288
                              try clear q295
                              obtain ⟨kq, x85_56, rfl, HA, HJ56, HO_8, HO_279001, HO_294001, BK277, BK278, BK293, HB⟩ := hcut
                              cases kq with
                              | zero => exact absurd HA.out (by simp [taquinlaw22_RobotStays.j3])
                              | succ kj56 =>
                                have H := HA.out
                                clear HA
                                simp only [taquinlaw22_RobotStays.j3] at H
                                by_cases c74 : x85_56 = true
                                · subst c74
                                  have H1 : (if t287 ≥ 1 then (if t287 < 7 then ((floor_Next.f kj56 a0_0 a0_1 a0_2 l0_3 l0_4 x279000_2 (wrap64 (t287 - 1))).bind fun bt296 => (if bt296.2 = true then (if t289 = bt296.1 then (if (t290.length : Int) = (wrap64 ((x279001_2.length : Int) - 1)) then (if (wrap64 (x9_2 + 1)) ≥ (t282.length : Int) then (none) else (if 0 ≤ (wrap64 (x9_2 + 1)) then (if (wrap64 (x9_2 + 1)) < (t282.length : Int) then (if t289 = (rd t282 (wrap64 (x9_2 + 1))) then (taquinlaw22_RobotStays.l0 kj56 l2 t279 t282 (wrap64 (x9_2 + 1)) (wrap64 (x10_2 + 1)) (wrap64 (x11_2 + 1)) a0_0 a0_1 a0_2 l0_3 l0_4 t289 t290) else (none)) else (none)) else (none))) else (none)) else (none)) else (none))) else (if (t290.length : Int) = (wrap64 ((x279001_2.length : Int) - 1)) then (if x9_2 ≥ (t282.length : Int) then (none) else (if 0 ≤ x9_2 then (if x9_2 < (t282.length : Int) then (if t289 = (rd t282 x9_2) then (taquinlaw22_RobotStays.l0 kj56 l2 t279 t282 x9_2 (wrap64 (x10_2 + 1)) (wrap64 (x11_2 + 1)) a0_0 a0_1 a0_2 l0_3 l0_4 t289 t290) else (none)) else (none)) else (none))) else (none))) else (if (t290.length : Int) = (wrap64 ((x279001_2.length : Int) - 1)) then (if x9_2 ≥ (t282.length : Int) then (none) else (if 0 ≤ x9_2 then (if x9_2 < (t282.length : Int) then (if t289 = (rd t282 x9_2) then (taquinlaw22_RobotStays.l0 kj56 l2 t279 t282 x9_2 (wrap64 (x10_2 + 1)) (wrap64 (x11_2 + 1)) a0_0 a0_1 a0_2 l0_3 l0_4 t289 t290) else (none)) else (none)) else (none))) else (none))) = some r := by rw [if_pos rfl] at H; exact H
                                  clear H
                                  have H := H1
                                  clear H1
                                  by_cases c75 : t287 ≥ 1
                                  · rw [if_pos c75] at H
                                    have c75b0 : decide (1 ≤ t287) = true := decide_eq_true c75
                                    clear c75
                                    by_cases c76 : t287 < 7
                                    · rw [if_pos c76] at H
                                      have c76b0 : decide (t287 < 7) = true := decide_eq_true c76
                                      clear c76
                                      replace H := Option.bind_eq_some_iff.mp H
                                      obtain ⟨⟨t296, t297⟩, A770, H⟩ := H
                                      replace H : (if t297 = true then (if t289 = t296 then (if (t290.length : Int) = (wrap64 ((x279001_2.length : Int) - 1)) then (if (wrap64 (x9_2 + 1)) ≥ (t282.length : Int) then (none) else (if 0 ≤ (wrap64 (x9_2 + 1)) then (if (wrap64 (x9_2 + 1)) < (t282.length : Int) then (if t289 = (rd t282 (wrap64 (x9_2 + 1))) then (taquinlaw22_RobotStays.l0 kj56 l2 t279 t282 (wrap64 (x9_2 + 1)) (wrap64 (x10_2 + 1)) (wrap64 (x11_2 + 1)) a0_0 a0_1 a0_2 l0_3 l0_4 t289 t290) else (none)) else (none)) else (none))) else (none)) else (none)) else (none)) = some r := H
                                      have A77 := Aside0.mk A770
                                      clear A770
                                      by_cases c78 : t297 = true
                                      · subst c78
                                        have H1 : (if t289 = t296 then (if (t290.length : Int) = (wrap64 ((x279001_2.length : Int) - 1)) then (if (wrap64 (x9_2 + 1)) ≥ (t282.length : Int) then (none) else (if 0 ≤ (wrap64 (x9_2 + 1)) then (if (wrap64 (x9_2 + 1)) < (t282.length : Int) then (if t289 = (rd t282 (wrap64 (x9_2 + 1))) then (taquinlaw22_RobotStays.l0 kj56 l2 t279 t282 (wrap64 (x9_2 + 1)) (wrap64 (x10_2 + 1)) (wrap64 (x11_2 + 1)) a0_0 a0_1 a0_2 l0_3 l0_4 t289 t290) else (none)) else (none)) else (none))) else (none)) else (none)) = some r := by rw [if_pos rfl] at H; exact H
                                        clear H
                                        have H := H1
                                        clear H1
                                        by_cases c79 : t289 = t296
                                        · rw [if_pos c79] at H
                                          have c79b0 : (t289 == t296) = true := beq_iff_eq.mpr c79
                                          have c79b1 : (t289 != t296) = false := bne_eq_false_iff_eq.mpr c79
                                          clear c79
                                          by_cases c80 : (t290.length : Int) = (wrap64 ((x279001_2.length : Int) - 1))
                                          · rw [if_pos c80] at H
                                            have c80b0 : ((t290.length : Int) == (wrap64 ((x279001_2.length : Int) - 1))) = true := beq_iff_eq.mpr c80
                                            have c80b1 : ((t290.length : Int) != (wrap64 ((x279001_2.length : Int) - 1))) = false := bne_eq_false_iff_eq.mpr c80
                                            clear c80
                                            by_cases c81 : (wrap64 (x9_2 + 1)) ≥ (t282.length : Int)
                                            · rw [if_pos c81] at H
                                              exact absurd H (by simp)
                                            · rw [if_neg c81] at H
                                              have c81b0 : decide ((t282.length : Int) ≤ (wrap64 (x9_2 + 1))) = false := decide_eq_false c81
                                              clear c81
                                              obtain ⟨ji82, hji82⟩ : ∃ j_ : Int, (wrap64 (x9_2 + 1)) = j_ := ⟨_, rfl⟩
                                              replace H : (if 0 ≤ (ji82) then (if (ji82) < (t282.length : Int) then (if t289 = (rd t282 (ji82)) then (taquinlaw22_RobotStays.l0 kj56 l2 t279 t282 ji82 (wrap64 (x10_2 + 1)) (wrap64 (x11_2 + 1)) a0_0 a0_1 a0_2 l0_3 l0_4 t289 t290) else (none)) else (none)) else (none)) = some r := by first | (rw [hji82] at H; exact H) | (simp only [hji82] at H ⊢; exact H)
                                              (try rw [hji82] at c81b0)
                                              (try rw [hji82] at A77)
                                              have hji82w : (IntKind.i64.wrap (x9_2 + 1)) = ji82 := (i64_w _).trans hji82
                                              by_cases c83 : 0 ≤ (ji82)
                                              · rw [if_pos c83] at H
                                                have c83b0 : decide (0 ≤ (ji82)) = true := decide_eq_true c83
                                                clear c83
                                                by_cases c84 : (ji82) < (t282.length : Int)
                                                · rw [if_pos c84] at H
                                                  have c84b0 : decide ((ji82) < (t282.length : Int)) = true := decide_eq_true c84
                                                  clear c84
                                                  by_cases c85 : t289 = (rd t282 (ji82))
                                                  · rw [if_pos c85] at H
                                                    have c85b0 : (t289 == (rd t282 (ji82))) = true := beq_iff_eq.mpr c85
                                                    have c85b1 : (t289 != (rd t282 (ji82))) = false := bne_eq_false_iff_eq.mpr c85
                                                    clear c85
                                                    have H' := Aside0.mk H
                                                    clear H
                                                    have hnb86 := NB277_278.out
                                                    have hnc86 := NB278_277.out
                                                    have hnb87 := NB277_293.out
                                                    have hnc87 := NB293_277.out
                                                    have hcz88_0 : wc.cell? ⟨gb277, 0, none⟩ = some (.int .i64 a0_0) := (blk_cell BK277.out 0).trans rfl
                                                    have hcz88_1 : wc.cell? ⟨gb277, 1, none⟩ = some (.int .i64 a0_1) := (blk_cell BK277.out 1).trans rfl
                                                    have hcz88_2 : wc.cell? ⟨gb277, 2, none⟩ = some (.int .i64 a0_2) := (blk_cell BK277.out 2).trans rfl
                                                    have hcz88_3 : wc.cell? ⟨gb277, 3, none⟩ = some (.slice A0_3 l0_3.length c0_3) := (blk_cell BK277.out 3).trans rfl
                                                    have hcz88_4 : wc.cell? ⟨gb277, 4, none⟩ = some (.slice A0_4 l0_4.length c0_4) := (blk_cell BK277.out 4).trans rfl
                                                    have hfz88_0 := blk_frozen BK277.out 0
                                                    have hfz88_1 := blk_frozen BK277.out 1
                                                    have hfz88_2 := blk_frozen BK277.out 2
                                                    have hfz88_3 := blk_frozen BK277.out 3
                                                    have hfz88_4 := blk_frozen BK277.out 4
                                                    have hnb89 := NB278_293.out
                                                    have hnc89 := NB293_278.out
                                                    have hcz90_0 : wc.cell? ⟨gb278, 0, none⟩ = some (.int .i64 x279000_2) := (blk_cell BK278.out 0).trans rfl
                                                    have hcz90_1 : wc.cell? ⟨gb278, 1, none⟩ = some (.slice Ao41 x279001_2.length co41) := (blk_cell BK278.out 1).trans rfl
                                                    have hfz90_0 := blk_frozen BK278.out 0
                                                    have hfz90_1 := blk_frozen BK278.out 1
                                                    try go_wp2_with (first | ((with_reducible refine gate_callee (f := 13) rfl ?_); refine goesL_ (some 100) rfl rfl Try.func13 (by kernel_rfl) rfl #[.agg #[.int .i64 a0_0, .int .i64 a0_1, .int .i64 a0_2, .slice A0_3 l0_3.length c0_3, .slice A0_4 l0_4.length c0_4], .int .i64 x279000_2, .int .i64 (wrap64 (t287 - 1))] rfl (by (try simp only [List.map_toArray, List.map_cons, List.map_nil]); first | done | rfl | (simp only [List.length_drop, List.length_take]; rfl)) ?_; (with_reducible refine (floor_Next.calls kj56 a0_0 a0_1 a0_2 _ _ l0_3 _ _ l0_4 x279000_2 (wrap64 (t287 - 1)) t296 true _ ?side1 ?side2 ?side3 ?side4 A77.out).mono ?_); (case side1 => repeat (first | exact (Kd.C_below HR0_3.out HB.out) | (with_reducible refine Kd.C_alloc ?_ _) | (with_reducible refine Kd.C_drewN ?_ _) | (with_reducible refine Kd.C_drew ?_))); (case side2 => exact HC0_3.out); (case side3 => repeat (first | exact (Kd.C_below HR0_4.out HB.out) | (with_reducible refine Kd.C_alloc ?_ _) | (with_reducible refine Kd.C_drewN ?_ _) | (with_reducible refine Kd.C_drew ?_))); (case side4 => exact HC0_4.out); rintro e w91 ⟨rfl, hb⟩; refine ⟨_, rfl, ?_⟩; have n0_ := Aside0.mk (Kd.R_below (by (with_reducible repeat (first | apply Kd.R_alloc | apply Kd.R_drewN | apply Kd.R_drew)); exact HO_8.out) hb); have n1_ := Aside0.mk (Kd.V_below (by (with_reducible repeat (first | apply Kd.V_alloc | apply Kd.V_drewN | apply Kd.V_drew)); exact HO_279001.out) hb); have n2_ := Aside0.mk (Kd.Q_below (by (with_reducible repeat (first | apply Kd.Q_alloc | apply Kd.Q_drewN | apply Kd.Q_drew)); exact HO_294001.out) hb); have n3_ := Aside0.mk (blk_below (g := gb277) (o := .cells #[.int .i64 a0_0, .int .i64 a0_1, .int .i64 a0_2, .slice A0_3 l0_3.length c0_3, .slice A0_4 l0_4.length c0_4] 24 (0, 0)) (by (with_reducible repeat (first | refine blk_drewN ?_ _ | refine blk_drew ?_ | refine blk_alloc ?_ _)); exact BK277.out) hb); have n4_ := Aside0.mk (blk_below (g := gb278) (o := .cells #[.int .i64 x279000_2, .slice Ao41 x279001_2.length co41] 26 (0, 0)) (by (with_reducible repeat (first | refine blk_drewN ?_ _ | refine blk_drew ?_ | refine blk_alloc ?_ _)); exact BK278.out) hb); have n5_ := Aside0.mk (blk_below (g := gb293) (o := .cells #[.int .i64 t289, .slice Ao65 t290.length co65] 26 (0, 0)) (by (with_reducible repeat (first | refine blk_drewN ?_ _ | refine blk_drew ?_ | refine blk_alloc ?_ _)); exact BK293.out) hb); have n6_ := Aside0.mk (below_step (by repeat (first | (with_reducible first | exact HB.out | apply below_alloc | apply pw_below_drewN | apply below_drew1 | refine below_set ?_ GE277.out | refine below_set ?_ GE278.out | refine below_set ?_ GE293.out) | exact HB.out)) hb); clear HO_8; clear HO_279001; clear HO_294001; clear BK277; clear BK278; clear BK293; clear HB; have HO_8 := n0_; have HO_279001 := n1_; have HO_294001 := n2_; have BK277 := n3_; have BK278 := n4_; have BK293 := n5_; have HB := n6_; clear n0_ n1_ n2_ n3_ n4_ n5_ n6_; (try clear hb); (try clear hb2); (try clear hk); (try clear hi); have hcz92_0 : w91.cell? ⟨gb293, 0, none⟩ = some (.int .i64 t289) := (blk_cell BK293.out 0).trans rfl; have hcz92_1 : w91.cell? ⟨gb293, 1, none⟩ = some (.slice Ao65 t290.length co65) := (blk_cell BK293.out 1).trans rfl; have hfz92_0 := blk_frozen BK293.out 0; have hfz92_1 := blk_frozen BK293.out 1))
                                                    have n0_ := Aside0.mk (Kd.R_drew HO_8.out)
                                                    have n1_ := Aside0.mk (Kd.V_drew HO_279001.out)
                                                    have n2_ := Aside0.mk (Kd.Q_drew HO_294001.out)
                                                    have n3_ := Aside0.mk (blk_drew BK277.out)
                                                    have n4_ := Aside0.mk (blk_drew BK278.out)
                                                    have n5_ := Aside0.mk (blk_drew BK293.out)
                                                    have n6_ := Aside0.mk (below_drew1 HB.out)
                                                    clear HO_8
                                                    clear HO_279001
                                                    clear HO_294001
                                                    clear BK277
                                                    clear BK278
                                                    clear BK293
                                                    clear HB
                                                    have HO_8 := n0_
                                                    have HO_279001 := n1_
                                                    have HO_294001 := n2_
                                                    have BK277 := n3_
                                                    have BK278 := n4_
                                                    have BK293 := n5_
                                                    have HB := n6_
                                                    clear n0_ n1_ n2_ n3_ n4_ n5_ n6_
                                                    have p298 : 0 ≤ ((ji82) : Int) := of_decide_eq_true (by first | (with_reducible assumption) | assumption)
                                                    have q298 : (ji82) < (t282.length : Int) := of_decide_eq_true (by first | (with_reducible assumption) | assumption)
                                                    obtain ⟨ad298, e298, hx298_0⟩ := Kd.at_int (Kd.R_reads' HO_8.out).2.2 (ji82) p298 q298
                                                    cases e298
                                                    replace p298 := eq_true p298
                                                    replace q298 := eq_true q298
                                                    refine start_ (n := 7) (S := fun w' => w'.cell? ⟨gb293, 0, none⟩ = some (.int .i64 t289) ∧ w'.cell? ⟨gb293, 1, none⟩ = some (.slice Ao65 t290.length co65) ∧ w'.cell? (ad298.add ((ji82)).toNat) = some (.int .i64 (rd t282 (ji82)))) (ds := []) #[false, false, false, false, false, false, false] (by kernel_rfl) rfl rfl ⟨(blk_cell BK293.out 0).trans rfl, (blk_cell BK293.out 1).trans rfl, hx298_0⟩ (fun hHeld => ?_)
                                                    generalize w91.drew = w93 at HO_8 HO_279001 HO_294001 BK277 BK278 BK293 HB hx298_0 hHeld ⊢
                                                    refine pure_ (i := 0) (N := some 135) (v := ?_) (a' := ?_) #[true, false, false, false, false, false, false] rfl rfl (by kernel_rfl) (fun _ _ _ h => h) (Or.inl ⟨by rfl, ?_⟩) ?_ ?_
                                                    rotate_left
                                                    · intro w'
                                                      go_simp
                                                      with_reducible rfl
                                                    rotate_left
                                                    · simp only [Act.put, List.setIfInBounds_toArray, List.set_cons_zero, List.set_cons_succ, i64_w, i32_w]
                                                      rfl
                                                    refine pure_ (i := 2) (N := some 137) (v := ?_) (a' := ?_) #[true, false, true, false, false, false, false] rfl rfl (by kernel_rfl) (fun _ _ _ h => h) (Or.inl ⟨by rfl, ?_⟩) ?_ ?_
                                                    rotate_left
                                                    · intro w'
                                                      go_simp
                                                      with_reducible rfl
                                                    rotate_left
                                                    · simp only [Act.put, List.setIfInBounds_toArray, List.set_cons_zero, List.set_cons_succ, i64_w, i32_w]
                                                      rfl
                                                    refine pure_ (i := 3) (N := some 138) (v := ?_) (a' := ?_) #[true, false, true, true, false, false, false] rfl rfl (by kernel_rfl) (fun _ _ _ h => h) (Or.inl ⟨by rfl, ?_⟩) ?_ ?_
                                                    rotate_left
                                                    · intro w'
                                                      go_simp
                                                      with_reducible rfl
                                                    rotate_left
                                                    · simp only [Act.put, List.setIfInBounds_toArray, List.set_cons_zero, List.set_cons_succ, i64_w, i32_w]
                                                      rfl
                                                    refine pure_ (i := 4) (N := some 139) (v := ?_) (a' := ?_) #[true, false, true, true, true, false, false] rfl rfl (by kernel_rfl) (fun _ _ _ h => h) (Or.inl ⟨by rfl, ?_⟩) ?_ ?_
                                                    rotate_left
                                                    · intro w'
                                                      go_simp
                                                      with_reducible rfl
                                                    rotate_left
                                                    · simp only [Act.put, List.setIfInBounds_toArray, List.set_cons_zero, List.set_cons_succ, i64_w, i32_w]
                                                      rfl
                                                    refine take_ (i := 1) (N := some 136) (v := ?_) (a' := ?_) #[true, true, true, true, true, false, false] rfl rfl (by kernel_rfl) (fun _ _ _ h => h) (Or.inl ⟨by rfl, ?_⟩) hHeld ?_ ?_
                                                    rotate_left
                                                    · rintro w' ⟨s0, s1, s2⟩
                                                      go_simp
                                                      with_reducible rfl
                                                    rotate_left
                                                    · simp only [Act.put, List.setIfInBounds_toArray, List.set_cons_zero, List.set_cons_succ, i64_w, i32_w]
                                                      rfl
                                                    refine take_ (i := 5) (N := some 140) (v := ?_) (a' := ?_) #[true, true, true, true, true, true, false] rfl rfl (by kernel_rfl) (fun _ _ _ h => h) (Or.inl ⟨by rfl, ?_⟩) hHeld ?_ ?_
                                                    rotate_left
                                                    · rintro w' ⟨s0, s1, s2⟩
                                                      go_simp
                                                      with_reducible rfl
                                                    rotate_left
                                                    · simp only [Act.put, List.setIfInBounds_toArray, List.set_cons_zero, List.set_cons_succ, i64_w, i32_w]
                                                      rfl
                                                    refine pure_ (i := 6) (N := some 141) (v := ?_) (a' := ?_) #[true, true, true, true, true, true, true] rfl rfl (by kernel_rfl) (fun _ _ _ h => h) (Or.inl ⟨by rfl, ?_⟩) ?_ ?_
                                                    rotate_left
                                                    · intro w'
                                                      go_simp
                                                      with_reducible rfl
                                                    rotate_left
                                                    · simp only [Act.put, List.setIfInBounds_toArray, List.set_cons_zero, List.set_cons_succ, i64_w, i32_w]
                                                      rfl
                                                    refine done_ (by kernel_rfl) ?_
                                                    have hcz94_0 : w93.cell? ⟨gb293, 0, none⟩ = some (.int .i64 t289) := (blk_cell BK293.out 0).trans rfl
                                                    have hcz94_1 : w93.cell? ⟨gb293, 1, none⟩ = some (.slice Ao65 t290.length co65) := (blk_cell BK293.out 1).trans rfl
                                                    have hfz94_0 := blk_frozen BK293.out 0
                                                    have hfz94_1 := blk_frozen BK293.out 1
                                                    have hcz95_0 : w93.cell? ⟨gb278, 0, none⟩ = some (.int .i64 x279000_2) := (blk_cell BK278.out 0).trans rfl
                                                    have hcz95_1 : w93.cell? ⟨gb278, 1, none⟩ = some (.slice Ao41 x279001_2.length co41) := (blk_cell BK278.out 1).trans rfl
                                                    have hfz95_0 := blk_frozen BK278.out 0
                                                    have hfz95_1 := blk_frozen BK278.out 1
                                                    try go_wp2
                                                    go_roundg kj56
                                                    case measure => have := HJ4.out; have := HK2.out; have := HJ37.out; have := HJ56.out; omega
                                                    case rel => exact ⟨(ji82), (wrap64 (x10_2 + 1)), (wrap64 (x11_2 + 1)), (t289), (t290), (.slice Ao65 t290.length co65), (by first | (rw [← hji82]; done) | (simp only [← hji82]; done) | rfl | (simp; done) | (simp only [← hji82] <;> (first | rfl | simp)) | (simp [*]; done)), (by first | rfl | (simp; done) | (simp [*]; done)), (by first | rfl | (simp; done) | (simp [*]; done)), H', ⟨by have := HJ4.out; have := HK2.out; have := HJ37.out; have := HJ56.out; omega⟩, ⟨by (with_reducible repeat (first | apply Kd.R_alloc | apply Kd.R_drewN | apply Kd.R_drew)); exact Kd.R_mono (Kd.R_far (p := ⟨gb278, 1, none⟩) (Kd.R_far (p := ⟨gb278, 0, none⟩) (Kd.R_types HO_8.out BK278.out (by decide)) (fun _ hk => hk.2) (.int .i64 t289)) (fun _ hk => hk.2) (.slice Ao65 t290.length co65)) (fun _ hk => hk.1.1)⟩, ⟨Kd.V_mono (ok := fun k_ => (w.heap.size ≤ k_) ∧ some k_ ≠ (Value.slice (some ad298) t282.length co35).ownBlock ∧ k_ ≠ gb277 ∧ k_ ≠ gb278) (Kd.Q_V (by (with_reducible repeat (first | apply Kd.Q_alloc | apply Kd.Q_drewN | apply Kd.Q_drew)); exact Kd.Q_mono (Kd.Q_far (p := ⟨gb278, 1, none⟩) (Kd.Q_far (p := ⟨gb278, 0, none⟩) (Kd.Q_types (Kd.Q_types (Kd.Q_types HO_294001.out BK277.out (by decide)) BK278.out (by decide)) BK278.out (by decide)) (fun _ hk => hk.2) (.int .i64 t289)) (fun _ hk => hk.2) (.slice Ao65 t290.length co65)) (fun _ hk => ⟨hk.1.1.1.1, ⟨hk.1.1.1.2, ⟨hk.1.1.2, hk.1.2⟩⟩⟩))) (fun k_ hk => by first | exact ⟨(.inr (hk.1)), hk.2⟩ | exact (.inr (hk)))⟩, ⟨by (with_reducible repeat (first | refine blk_drewN ?_ _ | refine blk_drew ?_ | refine blk_alloc ?_ _)); refine blk_far ?_ NB277_278.out _; (with_reducible repeat (first | refine blk_drewN ?_ _ | refine blk_drew ?_ | refine blk_alloc ?_ _)); refine blk_far ?_ NB277_278.out _; (with_reducible repeat (first | refine blk_drewN ?_ _ | refine blk_drew ?_ | refine blk_alloc ?_ _)); exact BK277.out⟩, ⟨by (with_reducible repeat (first | refine blk_drewN ?_ _ | refine blk_drew ?_ | refine blk_alloc ?_ _)); refine blk_put (cs := #[.int .i64 t289, .slice Ao41 x279001_2.length co41]) ?_ 1 _ rfl; (with_reducible repeat (first | refine blk_drewN ?_ _ | refine blk_drew ?_ | refine blk_alloc ?_ _)); refine blk_put (cs := #[.int .i64 x279000_2, .slice Ao41 x279001_2.length co41]) ?_ 0 _ rfl; (with_reducible repeat (first | refine blk_drewN ?_ _ | refine blk_drew ?_ | refine blk_alloc ?_ _)); exact BK278.out⟩, ⟨by repeat (first | (with_reducible first | exact HB.out | apply below_alloc | apply pw_below_drewN | apply below_drew1 | refine below_set ?_ GE277.out | refine below_set ?_ GE278.out | refine below_set ?_ GE293.out) | exact HB.out)⟩⟩
                                                  · rw [if_neg c85] at H
                                                    exact absurd H (by simp)
                                                · rw [if_neg c84] at H
                                                  exact absurd H (by simp)
                                              · rw [if_neg c83] at H
                                                exact absurd H (by simp)
                                          · rw [if_neg c80] at H
                                            exact absurd H (by simp)
                                        · rw [if_neg c79] at H
                                          exact absurd H (by simp)
                                      · replace c78 := Bool.eq_false_iff.mpr c78
                                        subst c78
                                        have H1 : (none) = some r := by rw [if_neg (show ¬ (false = true) by decide)] at H; exact H
                                        clear H
                                        have H := H1
                                        clear H1
                                        exact absurd H (by simp)
                                    · rw [if_neg c76] at H
                                      have c76b0 : decide (t287 < 7) = false := decide_eq_false c76
                                      clear c76
                                      by_cases c96 : (t290.length : Int) = (wrap64 ((x279001_2.length : Int) - 1))
                                      · rw [if_pos c96] at H
                                        have c96b0 : ((t290.length : Int) == (wrap64 ((x279001_2.length : Int) - 1))) = true := beq_iff_eq.mpr c96
                                        have c96b1 : ((t290.length : Int) != (wrap64 ((x279001_2.length : Int) - 1))) = false := bne_eq_false_iff_eq.mpr c96
                                        clear c96
                                        by_cases c97 : x9_2 ≥ (t282.length : Int)
                                        · rw [if_pos c97] at H
                                          exact absurd H (by simp)
                                        · rw [if_neg c97] at H
                                          have c97b0 : decide ((t282.length : Int) ≤ x9_2) = false := decide_eq_false c97
                                          clear c97
                                          by_cases c98 : 0 ≤ x9_2
                                          · rw [if_pos c98] at H
                                            have c98b0 : decide (0 ≤ x9_2) = true := decide_eq_true c98
                                            clear c98
                                            by_cases c99 : x9_2 < (t282.length : Int)
                                            · rw [if_pos c99] at H
                                              have c99b0 : decide (x9_2 < (t282.length : Int)) = true := decide_eq_true c99
                                              clear c99
                                              by_cases c100 : t289 = (rd t282 x9_2)
                                              · rw [if_pos c100] at H
                                                have c100b0 : (t289 == (rd t282 x9_2)) = true := beq_iff_eq.mpr c100
                                                have c100b1 : (t289 != (rd t282 x9_2)) = false := bne_eq_false_iff_eq.mpr c100
                                                clear c100
                                                have H' := Aside0.mk H
                                                clear H
                                                have hnb101 := NB293_277.out
                                                have hnc101 := NB277_293.out
                                                have hnb102 := NB293_278.out
                                                have hnc102 := NB278_293.out
                                                have hcz103_0 : wc.cell? ⟨gb293, 0, none⟩ = some (.int .i64 t289) := (blk_cell BK293.out 0).trans rfl
                                                have hcz103_1 : wc.cell? ⟨gb293, 1, none⟩ = some (.slice Ao65 t290.length co65) := (blk_cell BK293.out 1).trans rfl
                                                have hfz103_0 := blk_frozen BK293.out 0
                                                have hfz103_1 := blk_frozen BK293.out 1
                                                try go_wp2
                                                have n0_ := Aside0.mk (Kd.R_drew HO_8.out)
                                                have n1_ := Aside0.mk (Kd.V_drew HO_279001.out)
                                                have n2_ := Aside0.mk (Kd.Q_drew HO_294001.out)
                                                have n3_ := Aside0.mk (blk_drew BK277.out)
                                                have n4_ := Aside0.mk (blk_drew BK278.out)
                                                have n5_ := Aside0.mk (blk_drew BK293.out)
                                                have n6_ := Aside0.mk (below_drew1 HB.out)
                                                clear HO_8
                                                clear HO_279001
                                                clear HO_294001
                                                clear BK277
                                                clear BK278
                                                clear BK293
                                                clear HB
                                                have HO_8 := n0_
                                                have HO_279001 := n1_
                                                have HO_294001 := n2_
                                                have BK277 := n3_
                                                have BK278 := n4_
                                                have BK293 := n5_
                                                have HB := n6_
                                                clear n0_ n1_ n2_ n3_ n4_ n5_ n6_
                                                have p299 : 0 ≤ (x9_2 : Int) := of_decide_eq_true (by first | (with_reducible assumption) | assumption)
                                                have q299 : x9_2 < (t282.length : Int) := of_decide_eq_true (by first | (with_reducible assumption) | assumption)
                                                obtain ⟨ad299, e299, hx299_0⟩ := Kd.at_int (Kd.R_reads' HO_8.out).2.2 x9_2 p299 q299
                                                cases e299
                                                replace p299 := eq_true p299
                                                replace q299 := eq_true q299
                                                refine start_ (n := 7) (S := fun w' => w'.cell? ⟨gb293, 0, none⟩ = some (.int .i64 t289) ∧ w'.cell? ⟨gb293, 1, none⟩ = some (.slice Ao65 t290.length co65) ∧ w'.cell? (ad299.add (x9_2).toNat) = some (.int .i64 (rd t282 x9_2))) (ds := []) #[false, false, false, false, false, false, false] (by kernel_rfl) rfl rfl ⟨(blk_cell BK293.out 0).trans rfl, (blk_cell BK293.out 1).trans rfl, hx299_0⟩ (fun hHeld => ?_)
                                                generalize wc.drew = w104 at HO_8 HO_279001 HO_294001 BK277 BK278 BK293 HB hx299_0 hHeld ⊢
                                                refine pure_ (i := 0) (N := some 135) (v := ?_) (a' := ?_) #[true, false, false, false, false, false, false] rfl rfl (by kernel_rfl) (fun _ _ _ h => h) (Or.inl ⟨by rfl, ?_⟩) ?_ ?_
                                                rotate_left
                                                · intro w'
                                                  go_simp
                                                  with_reducible rfl
                                                rotate_left
                                                · simp only [Act.put, List.setIfInBounds_toArray, List.set_cons_zero, List.set_cons_succ, i64_w, i32_w]
                                                  rfl
                                                refine pure_ (i := 2) (N := some 137) (v := ?_) (a' := ?_) #[true, false, true, false, false, false, false] rfl rfl (by kernel_rfl) (fun _ _ _ h => h) (Or.inl ⟨by rfl, ?_⟩) ?_ ?_
                                                rotate_left
                                                · intro w'
                                                  go_simp
                                                  with_reducible rfl
                                                rotate_left
                                                · simp only [Act.put, List.setIfInBounds_toArray, List.set_cons_zero, List.set_cons_succ, i64_w, i32_w]
                                                  rfl
                                                refine pure_ (i := 3) (N := some 138) (v := ?_) (a' := ?_) #[true, false, true, true, false, false, false] rfl rfl (by kernel_rfl) (fun _ _ _ h => h) (Or.inl ⟨by rfl, ?_⟩) ?_ ?_
                                                rotate_left
                                                · intro w'
                                                  go_simp
                                                  with_reducible rfl
                                                rotate_left
                                                · simp only [Act.put, List.setIfInBounds_toArray, List.set_cons_zero, List.set_cons_succ, i64_w, i32_w]
                                                  rfl
                                                refine pure_ (i := 4) (N := some 139) (v := ?_) (a' := ?_) #[true, false, true, true, true, false, false] rfl rfl (by kernel_rfl) (fun _ _ _ h => h) (Or.inl ⟨by rfl, ?_⟩) ?_ ?_
                                                rotate_left
                                                · intro w'
                                                  go_simp
                                                  with_reducible rfl
                                                rotate_left
                                                · simp only [Act.put, List.setIfInBounds_toArray, List.set_cons_zero, List.set_cons_succ, i64_w, i32_w]
                                                  rfl
                                                refine take_ (i := 1) (N := some 136) (v := ?_) (a' := ?_) #[true, true, true, true, true, false, false] rfl rfl (by kernel_rfl) (fun _ _ _ h => h) (Or.inl ⟨by rfl, ?_⟩) hHeld ?_ ?_
                                                rotate_left
                                                · rintro w' ⟨s0, s1, s2⟩
                                                  go_simp
                                                  with_reducible rfl
                                                rotate_left
                                                · simp only [Act.put, List.setIfInBounds_toArray, List.set_cons_zero, List.set_cons_succ, i64_w, i32_w]
                                                  rfl
                                                refine take_ (i := 5) (N := some 140) (v := ?_) (a' := ?_) #[true, true, true, true, true, true, false] rfl rfl (by kernel_rfl) (fun _ _ _ h => h) (Or.inl ⟨by rfl, ?_⟩) hHeld ?_ ?_
                                                rotate_left
                                                · rintro w' ⟨s0, s1, s2⟩
                                                  go_simp
                                                  with_reducible rfl
                                                rotate_left
                                                · simp only [Act.put, List.setIfInBounds_toArray, List.set_cons_zero, List.set_cons_succ, i64_w, i32_w]
                                                  rfl
                                                refine pure_ (i := 6) (N := some 141) (v := ?_) (a' := ?_) #[true, true, true, true, true, true, true] rfl rfl (by kernel_rfl) (fun _ _ _ h => h) (Or.inl ⟨by rfl, ?_⟩) ?_ ?_
                                                rotate_left
                                                · intro w'
                                                  go_simp
                                                  with_reducible rfl
                                                rotate_left
                                                · simp only [Act.put, List.setIfInBounds_toArray, List.set_cons_zero, List.set_cons_succ, i64_w, i32_w]
                                                  rfl
                                                refine done_ (by kernel_rfl) ?_
                                                have hcz105_0 : w104.cell? ⟨gb293, 0, none⟩ = some (.int .i64 t289) := (blk_cell BK293.out 0).trans rfl
                                                have hcz105_1 : w104.cell? ⟨gb293, 1, none⟩ = some (.slice Ao65 t290.length co65) := (blk_cell BK293.out 1).trans rfl
                                                have hfz105_0 := blk_frozen BK293.out 0
                                                have hfz105_1 := blk_frozen BK293.out 1
                                                have hnb106 := NB278_277.out
                                                have hnc106 := NB277_278.out
                                                have hcz107_0 : w104.cell? ⟨gb278, 0, none⟩ = some (.int .i64 x279000_2) := (blk_cell BK278.out 0).trans rfl
                                                have hcz107_1 : w104.cell? ⟨gb278, 1, none⟩ = some (.slice Ao41 x279001_2.length co41) := (blk_cell BK278.out 1).trans rfl
                                                have hfz107_0 := blk_frozen BK278.out 0
                                                have hfz107_1 := blk_frozen BK278.out 1
                                                try go_wp2
                                                go_roundg kj56
                                                case measure => have := HJ4.out; have := HK2.out; have := HJ37.out; have := HJ56.out; omega
                                                case rel => exact ⟨(x9_2), (wrap64 (x10_2 + 1)), (wrap64 (x11_2 + 1)), (t289), (t290), (.slice Ao65 t290.length co65), (by first | rfl | (simp; done) | (simp [*]; done)), (by first | rfl | (simp; done) | (simp [*]; done)), (by first | rfl | (simp; done) | (simp [*]; done)), H', ⟨by have := HJ4.out; have := HK2.out; have := HJ37.out; have := HJ56.out; omega⟩, ⟨by (with_reducible repeat (first | apply Kd.R_alloc | apply Kd.R_drewN | apply Kd.R_drew)); exact Kd.R_mono (Kd.R_far (p := ⟨gb278, 1, none⟩) (Kd.R_far (p := ⟨gb278, 0, none⟩) (Kd.R_types HO_8.out BK278.out (by decide)) (fun _ hk => hk.2) (.int .i64 t289)) (fun _ hk => hk.2) (.slice Ao65 t290.length co65)) (fun _ hk => hk.1.1)⟩, ⟨Kd.V_mono (ok := fun k_ => (w.heap.size ≤ k_) ∧ some k_ ≠ (Value.slice (some ad299) t282.length co35).ownBlock ∧ k_ ≠ gb277 ∧ k_ ≠ gb278) (Kd.Q_V (by (with_reducible repeat (first | apply Kd.Q_alloc | apply Kd.Q_drewN | apply Kd.Q_drew)); exact Kd.Q_mono (Kd.Q_far (p := ⟨gb278, 1, none⟩) (Kd.Q_far (p := ⟨gb278, 0, none⟩) (Kd.Q_types (Kd.Q_types (Kd.Q_types HO_294001.out BK277.out (by decide)) BK278.out (by decide)) BK278.out (by decide)) (fun _ hk => hk.2) (.int .i64 t289)) (fun _ hk => hk.2) (.slice Ao65 t290.length co65)) (fun _ hk => ⟨hk.1.1.1.1, ⟨hk.1.1.1.2, ⟨hk.1.1.2, hk.1.2⟩⟩⟩))) (fun k_ hk => by first | exact ⟨(.inr (hk.1)), hk.2⟩ | exact (.inr (hk)))⟩, ⟨by (with_reducible repeat (first | refine blk_drewN ?_ _ | refine blk_drew ?_ | refine blk_alloc ?_ _)); refine blk_far ?_ NB277_278.out _; (with_reducible repeat (first | refine blk_drewN ?_ _ | refine blk_drew ?_ | refine blk_alloc ?_ _)); refine blk_far ?_ NB277_278.out _; (with_reducible repeat (first | refine blk_drewN ?_ _ | refine blk_drew ?_ | refine blk_alloc ?_ _)); exact BK277.out⟩, ⟨by (with_reducible repeat (first | refine blk_drewN ?_ _ | refine blk_drew ?_ | refine blk_alloc ?_ _)); refine blk_put (cs := #[.int .i64 t289, .slice Ao41 x279001_2.length co41]) ?_ 1 _ rfl; (with_reducible repeat (first | refine blk_drewN ?_ _ | refine blk_drew ?_ | refine blk_alloc ?_ _)); refine blk_put (cs := #[.int .i64 x279000_2, .slice Ao41 x279001_2.length co41]) ?_ 0 _ rfl; (with_reducible repeat (first | refine blk_drewN ?_ _ | refine blk_drew ?_ | refine blk_alloc ?_ _)); exact BK278.out⟩, ⟨by repeat (first | (with_reducible first | exact HB.out | apply below_alloc | apply pw_below_drewN | apply below_drew1 | refine below_set ?_ GE277.out | refine below_set ?_ GE278.out | refine below_set ?_ GE293.out) | exact HB.out)⟩⟩
                                              · rw [if_neg c100] at H
                                                exact absurd H (by simp)
                                            · rw [if_neg c99] at H
                                              exact absurd H (by simp)
                                          · rw [if_neg c98] at H
                                            exact absurd H (by simp)
                                      · rw [if_neg c96] at H
                                        exact absurd H (by simp)
                                  · rw [if_neg c75] at H
                                    have c75b0 : decide (1 ≤ t287) = false := decide_eq_false c75
                                    clear c75
                                    by_cases c108 : (t290.length : Int) = (wrap64 ((x279001_2.length : Int) - 1))
                                    · rw [if_pos c108] at H
                                      have c108b0 : ((t290.length : Int) == (wrap64 ((x279001_2.length : Int) - 1))) = true := beq_iff_eq.mpr c108
                                      have c108b1 : ((t290.length : Int) != (wrap64 ((x279001_2.length : Int) - 1))) = false := bne_eq_false_iff_eq.mpr c108
                                      clear c108
                                      by_cases c109 : x9_2 ≥ (t282.length : Int)
                                      · rw [if_pos c109] at H
                                        exact absurd H (by simp)
                                      · rw [if_neg c109] at H
                                        have c109b0 : decide ((t282.length : Int) ≤ x9_2) = false := decide_eq_false c109
                                        clear c109
                                        by_cases c110 : 0 ≤ x9_2
                                        · rw [if_pos c110] at H
                                          have c110b0 : decide (0 ≤ x9_2) = true := decide_eq_true c110
                                          clear c110
                                          by_cases c111 : x9_2 < (t282.length : Int)
                                          · rw [if_pos c111] at H
                                            have c111b0 : decide (x9_2 < (t282.length : Int)) = true := decide_eq_true c111
                                            clear c111
                                            by_cases c112 : t289 = (rd t282 x9_2)
                                            · rw [if_pos c112] at H
                                              have c112b0 : (t289 == (rd t282 x9_2)) = true := beq_iff_eq.mpr c112
                                              have c112b1 : (t289 != (rd t282 x9_2)) = false := bne_eq_false_iff_eq.mpr c112
                                              clear c112
                                              have H' := Aside0.mk H
                                              clear H
                                              have hnb113 := NB293_277.out
                                              have hnc113 := NB277_293.out
                                              have hnb114 := NB293_278.out
                                              have hnc114 := NB278_293.out
                                              have hcz115_0 : wc.cell? ⟨gb293, 0, none⟩ = some (.int .i64 t289) := (blk_cell BK293.out 0).trans rfl
                                              have hcz115_1 : wc.cell? ⟨gb293, 1, none⟩ = some (.slice Ao65 t290.length co65) := (blk_cell BK293.out 1).trans rfl
                                              have hfz115_0 := blk_frozen BK293.out 0
                                              have hfz115_1 := blk_frozen BK293.out 1
                                              try go_wp2
                                              have n0_ := Aside0.mk (Kd.R_drew HO_8.out)
                                              have n1_ := Aside0.mk (Kd.V_drew HO_279001.out)
                                              have n2_ := Aside0.mk (Kd.Q_drew HO_294001.out)
                                              have n3_ := Aside0.mk (blk_drew BK277.out)
                                              have n4_ := Aside0.mk (blk_drew BK278.out)
                                              have n5_ := Aside0.mk (blk_drew BK293.out)
                                              have n6_ := Aside0.mk (below_drew1 HB.out)
                                              clear HO_8
                                              clear HO_279001
                                              clear HO_294001
                                              clear BK277
                                              clear BK278
                                              clear BK293
                                              clear HB
                                              have HO_8 := n0_
                                              have HO_279001 := n1_
                                              have HO_294001 := n2_
                                              have BK277 := n3_
                                              have BK278 := n4_
                                              have BK293 := n5_
                                              have HB := n6_
                                              clear n0_ n1_ n2_ n3_ n4_ n5_ n6_
                                              have p300 : 0 ≤ (x9_2 : Int) := of_decide_eq_true (by first | (with_reducible assumption) | assumption)
                                              have q300 : x9_2 < (t282.length : Int) := of_decide_eq_true (by first | (with_reducible assumption) | assumption)
                                              obtain ⟨ad300, e300, hx300_0⟩ := Kd.at_int (Kd.R_reads' HO_8.out).2.2 x9_2 p300 q300
                                              cases e300
                                              replace p300 := eq_true p300
                                              replace q300 := eq_true q300
                                              refine start_ (n := 7) (S := fun w' => w'.cell? ⟨gb293, 0, none⟩ = some (.int .i64 t289) ∧ w'.cell? ⟨gb293, 1, none⟩ = some (.slice Ao65 t290.length co65) ∧ w'.cell? (ad300.add (x9_2).toNat) = some (.int .i64 (rd t282 x9_2))) (ds := []) #[false, false, false, false, false, false, false] (by kernel_rfl) rfl rfl ⟨(blk_cell BK293.out 0).trans rfl, (blk_cell BK293.out 1).trans rfl, hx300_0⟩ (fun hHeld => ?_)
                                              generalize wc.drew = w116 at HO_8 HO_279001 HO_294001 BK277 BK278 BK293 HB hx300_0 hHeld ⊢
                                              refine pure_ (i := 0) (N := some 135) (v := ?_) (a' := ?_) #[true, false, false, false, false, false, false] rfl rfl (by kernel_rfl) (fun _ _ _ h => h) (Or.inl ⟨by rfl, ?_⟩) ?_ ?_
                                              rotate_left
                                              · intro w'
                                                go_simp
                                                with_reducible rfl
                                              rotate_left
                                              · simp only [Act.put, List.setIfInBounds_toArray, List.set_cons_zero, List.set_cons_succ, i64_w, i32_w]
                                                rfl
                                              refine pure_ (i := 2) (N := some 137) (v := ?_) (a' := ?_) #[true, false, true, false, false, false, false] rfl rfl (by kernel_rfl) (fun _ _ _ h => h) (Or.inl ⟨by rfl, ?_⟩) ?_ ?_
                                              rotate_left
                                              · intro w'
                                                go_simp
                                                with_reducible rfl
                                              rotate_left
                                              · simp only [Act.put, List.setIfInBounds_toArray, List.set_cons_zero, List.set_cons_succ, i64_w, i32_w]
                                                rfl
                                              refine pure_ (i := 3) (N := some 138) (v := ?_) (a' := ?_) #[true, false, true, true, false, false, false] rfl rfl (by kernel_rfl) (fun _ _ _ h => h) (Or.inl ⟨by rfl, ?_⟩) ?_ ?_
                                              rotate_left
                                              · intro w'
                                                go_simp
                                                with_reducible rfl
                                              rotate_left
                                              · simp only [Act.put, List.setIfInBounds_toArray, List.set_cons_zero, List.set_cons_succ, i64_w, i32_w]
                                                rfl
                                              refine pure_ (i := 4) (N := some 139) (v := ?_) (a' := ?_) #[true, false, true, true, true, false, false] rfl rfl (by kernel_rfl) (fun _ _ _ h => h) (Or.inl ⟨by rfl, ?_⟩) ?_ ?_
                                              rotate_left
                                              · intro w'
                                                go_simp
                                                with_reducible rfl
                                              rotate_left
                                              · simp only [Act.put, List.setIfInBounds_toArray, List.set_cons_zero, List.set_cons_succ, i64_w, i32_w]
                                                rfl
                                              refine take_ (i := 1) (N := some 136) (v := ?_) (a' := ?_) #[true, true, true, true, true, false, false] rfl rfl (by kernel_rfl) (fun _ _ _ h => h) (Or.inl ⟨by rfl, ?_⟩) hHeld ?_ ?_
                                              rotate_left
                                              · rintro w' ⟨s0, s1, s2⟩
                                                go_simp
                                                with_reducible rfl
                                              rotate_left
                                              · simp only [Act.put, List.setIfInBounds_toArray, List.set_cons_zero, List.set_cons_succ, i64_w, i32_w]
                                                rfl
                                              refine take_ (i := 5) (N := some 140) (v := ?_) (a' := ?_) #[true, true, true, true, true, true, false] rfl rfl (by kernel_rfl) (fun _ _ _ h => h) (Or.inl ⟨by rfl, ?_⟩) hHeld ?_ ?_
                                              rotate_left
                                              · rintro w' ⟨s0, s1, s2⟩
                                                go_simp
                                                with_reducible rfl
                                              rotate_left
                                              · simp only [Act.put, List.setIfInBounds_toArray, List.set_cons_zero, List.set_cons_succ, i64_w, i32_w]
                                                rfl
                                              refine pure_ (i := 6) (N := some 141) (v := ?_) (a' := ?_) #[true, true, true, true, true, true, true] rfl rfl (by kernel_rfl) (fun _ _ _ h => h) (Or.inl ⟨by rfl, ?_⟩) ?_ ?_
                                              rotate_left
                                              · intro w'
                                                go_simp
                                                with_reducible rfl
                                              rotate_left
                                              · simp only [Act.put, List.setIfInBounds_toArray, List.set_cons_zero, List.set_cons_succ, i64_w, i32_w]
                                                rfl
                                              refine done_ (by kernel_rfl) ?_
                                              have hcz117_0 : w116.cell? ⟨gb293, 0, none⟩ = some (.int .i64 t289) := (blk_cell BK293.out 0).trans rfl
                                              have hcz117_1 : w116.cell? ⟨gb293, 1, none⟩ = some (.slice Ao65 t290.length co65) := (blk_cell BK293.out 1).trans rfl
                                              have hfz117_0 := blk_frozen BK293.out 0
                                              have hfz117_1 := blk_frozen BK293.out 1
                                              have hnb118 := NB278_277.out
                                              have hnc118 := NB277_278.out
                                              have hcz119_0 : w116.cell? ⟨gb278, 0, none⟩ = some (.int .i64 x279000_2) := (blk_cell BK278.out 0).trans rfl
                                              have hcz119_1 : w116.cell? ⟨gb278, 1, none⟩ = some (.slice Ao41 x279001_2.length co41) := (blk_cell BK278.out 1).trans rfl
                                              have hfz119_0 := blk_frozen BK278.out 0
                                              have hfz119_1 := blk_frozen BK278.out 1
                                              try go_wp2
                                              go_roundg kj56
                                              case measure => have := HJ4.out; have := HK2.out; have := HJ37.out; have := HJ56.out; omega
                                              case rel => exact ⟨(x9_2), (wrap64 (x10_2 + 1)), (wrap64 (x11_2 + 1)), (t289), (t290), (.slice Ao65 t290.length co65), (by first | rfl | (simp; done) | (simp [*]; done)), (by first | rfl | (simp; done) | (simp [*]; done)), (by first | rfl | (simp; done) | (simp [*]; done)), H', ⟨by have := HJ4.out; have := HK2.out; have := HJ37.out; have := HJ56.out; omega⟩, ⟨by (with_reducible repeat (first | apply Kd.R_alloc | apply Kd.R_drewN | apply Kd.R_drew)); exact Kd.R_mono (Kd.R_far (p := ⟨gb278, 1, none⟩) (Kd.R_far (p := ⟨gb278, 0, none⟩) (Kd.R_types HO_8.out BK278.out (by decide)) (fun _ hk => hk.2) (.int .i64 t289)) (fun _ hk => hk.2) (.slice Ao65 t290.length co65)) (fun _ hk => hk.1.1)⟩, ⟨Kd.V_mono (ok := fun k_ => (w.heap.size ≤ k_) ∧ some k_ ≠ (Value.slice (some ad300) t282.length co35).ownBlock ∧ k_ ≠ gb277 ∧ k_ ≠ gb278) (Kd.Q_V (by (with_reducible repeat (first | apply Kd.Q_alloc | apply Kd.Q_drewN | apply Kd.Q_drew)); exact Kd.Q_mono (Kd.Q_far (p := ⟨gb278, 1, none⟩) (Kd.Q_far (p := ⟨gb278, 0, none⟩) (Kd.Q_types (Kd.Q_types (Kd.Q_types HO_294001.out BK277.out (by decide)) BK278.out (by decide)) BK278.out (by decide)) (fun _ hk => hk.2) (.int .i64 t289)) (fun _ hk => hk.2) (.slice Ao65 t290.length co65)) (fun _ hk => ⟨hk.1.1.1.1, ⟨hk.1.1.1.2, ⟨hk.1.1.2, hk.1.2⟩⟩⟩))) (fun k_ hk => by first | exact ⟨(.inr (hk.1)), hk.2⟩ | exact (.inr (hk)))⟩, ⟨by (with_reducible repeat (first | refine blk_drewN ?_ _ | refine blk_drew ?_ | refine blk_alloc ?_ _)); refine blk_far ?_ NB277_278.out _; (with_reducible repeat (first | refine blk_drewN ?_ _ | refine blk_drew ?_ | refine blk_alloc ?_ _)); refine blk_far ?_ NB277_278.out _; (with_reducible repeat (first | refine blk_drewN ?_ _ | refine blk_drew ?_ | refine blk_alloc ?_ _)); exact BK277.out⟩, ⟨by (with_reducible repeat (first | refine blk_drewN ?_ _ | refine blk_drew ?_ | refine blk_alloc ?_ _)); refine blk_put (cs := #[.int .i64 t289, .slice Ao41 x279001_2.length co41]) ?_ 1 _ rfl; (with_reducible repeat (first | refine blk_drewN ?_ _ | refine blk_drew ?_ | refine blk_alloc ?_ _)); refine blk_put (cs := #[.int .i64 x279000_2, .slice Ao41 x279001_2.length co41]) ?_ 0 _ rfl; (with_reducible repeat (first | refine blk_drewN ?_ _ | refine blk_drew ?_ | refine blk_alloc ?_ _)); exact BK278.out⟩, ⟨by repeat (first | (with_reducible first | exact HB.out | apply below_alloc | apply pw_below_drewN | apply below_drew1 | refine below_set ?_ GE277.out | refine below_set ?_ GE278.out | refine below_set ?_ GE293.out) | exact HB.out)⟩⟩
                                            · rw [if_neg c112] at H
                                              exact absurd H (by simp)
                                          · rw [if_neg c111] at H
                                            exact absurd H (by simp)
                                        · rw [if_neg c110] at H
                                          exact absurd H (by simp)
                                    · rw [if_neg c108] at H
                                      exact absurd H (by simp)
                                · replace c74 := Bool.eq_false_iff.mpr c74
                                  subst c74
                                  have H1 : (if t289 = x279000_2 then (if (t290.length : Int) = (x279001_2.length : Int) then (if x9_2 ≥ (t282.length : Int) then (none) else (if 0 ≤ x9_2 then (if x9_2 < (t282.length : Int) then (if t289 = (rd t282 x9_2) then (taquinlaw22_RobotStays.l0 kj56 l2 t279 t282 x9_2 x10_2 (wrap64 (x11_2 + 1)) a0_0 a0_1 a0_2 l0_3 l0_4 t289 t290) else (none)) else (none)) else (none))) else (none)) else (none)) = some r := by rw [if_neg (show ¬ (false = true) by decide)] at H; exact H
                                  clear H
                                  have H := H1
                                  clear H1
                                  by_cases c120 : t289 = x279000_2
                                  · rw [if_pos c120] at H
                                    have c120b0 : (t289 == x279000_2) = true := beq_iff_eq.mpr c120
                                    have c120b1 : (t289 != x279000_2) = false := bne_eq_false_iff_eq.mpr c120
                                    clear c120
                                    by_cases c121 : (t290.length : Int) = (x279001_2.length : Int)
                                    · rw [if_pos c121] at H
                                      have c121b0 : ((t290.length : Int) == (x279001_2.length : Int)) = true := beq_iff_eq.mpr c121
                                      have c121b1 : ((t290.length : Int) != (x279001_2.length : Int)) = false := bne_eq_false_iff_eq.mpr c121
                                      have c121b2 : (t290.length == x279001_2.length) = true := by first | simpa using c121 | (simp at c121 ⊢; omega)
                                      clear c121
                                      by_cases c122 : x9_2 ≥ (t282.length : Int)
                                      · rw [if_pos c122] at H
                                        exact absurd H (by simp)
                                      · rw [if_neg c122] at H
                                        have c122b0 : decide ((t282.length : Int) ≤ x9_2) = false := decide_eq_false c122
                                        clear c122
                                        by_cases c123 : 0 ≤ x9_2
                                        · rw [if_pos c123] at H
                                          have c123b0 : decide (0 ≤ x9_2) = true := decide_eq_true c123
                                          clear c123
                                          by_cases c124 : x9_2 < (t282.length : Int)
                                          · rw [if_pos c124] at H
                                            have c124b0 : decide (x9_2 < (t282.length : Int)) = true := decide_eq_true c124
                                            clear c124
                                            by_cases c125 : t289 = (rd t282 x9_2)
                                            · rw [if_pos c125] at H
                                              have c125b0 : (t289 == (rd t282 x9_2)) = true := beq_iff_eq.mpr c125
                                              have c125b1 : (t289 != (rd t282 x9_2)) = false := bne_eq_false_iff_eq.mpr c125
                                              clear c125
                                              have H' := Aside0.mk H
                                              clear H
                                              have hnb126 := NB293_277.out
                                              have hnc126 := NB277_293.out
                                              have hnb127 := NB293_278.out
                                              have hnc127 := NB278_293.out
                                              have hcz128_0 : wc.cell? ⟨gb293, 0, none⟩ = some (.int .i64 t289) := (blk_cell BK293.out 0).trans rfl
                                              have hcz128_1 : wc.cell? ⟨gb293, 1, none⟩ = some (.slice Ao65 t290.length co65) := (blk_cell BK293.out 1).trans rfl
                                              have hfz128_0 := blk_frozen BK293.out 0
                                              have hfz128_1 := blk_frozen BK293.out 1
                                              have hnb129 := NB278_277.out
                                              have hnc129 := NB277_278.out
                                              have hcz130_0 : wc.cell? ⟨gb278, 0, none⟩ = some (.int .i64 x279000_2) := (blk_cell BK278.out 0).trans rfl
                                              have hcz130_1 : wc.cell? ⟨gb278, 1, none⟩ = some (.slice Ao41 x279001_2.length co41) := (blk_cell BK278.out 1).trans rfl
                                              have hfz130_0 := blk_frozen BK278.out 0
                                              have hfz130_1 := blk_frozen BK278.out 1
                                              try go_wp2
                                              have n0_ := Aside0.mk (Kd.R_drew HO_8.out)
                                              have n1_ := Aside0.mk (Kd.V_drew HO_279001.out)
                                              have n2_ := Aside0.mk (Kd.Q_drew HO_294001.out)
                                              have n3_ := Aside0.mk (blk_drew BK277.out)
                                              have n4_ := Aside0.mk (blk_drew BK278.out)
                                              have n5_ := Aside0.mk (blk_drew BK293.out)
                                              have n6_ := Aside0.mk (below_drew1 HB.out)
                                              clear HO_8
                                              clear HO_279001
                                              clear HO_294001
                                              clear BK277
                                              clear BK278
                                              clear BK293
                                              clear HB
                                              have HO_8 := n0_
                                              have HO_279001 := n1_
                                              have HO_294001 := n2_
                                              have BK277 := n3_
                                              have BK278 := n4_
                                              have BK293 := n5_
                                              have HB := n6_
                                              clear n0_ n1_ n2_ n3_ n4_ n5_ n6_
                                              have p301 : 0 ≤ (x9_2 : Int) := of_decide_eq_true (by first | (with_reducible assumption) | assumption)
                                              have q301 : x9_2 < (t282.length : Int) := of_decide_eq_true (by first | (with_reducible assumption) | assumption)
                                              obtain ⟨ad301, e301, hx301_0⟩ := Kd.at_int (Kd.R_reads' HO_8.out).2.2 x9_2 p301 q301
                                              cases e301
                                              replace p301 := eq_true p301
                                              replace q301 := eq_true q301
                                              refine start_ (n := 7) (S := fun w' => w'.cell? ⟨gb293, 0, none⟩ = some (.int .i64 t289) ∧ w'.cell? ⟨gb293, 1, none⟩ = some (.slice Ao65 t290.length co65) ∧ w'.cell? (ad301.add (x9_2).toNat) = some (.int .i64 (rd t282 x9_2))) (ds := []) #[false, false, false, false, false, false, false] (by kernel_rfl) rfl rfl ⟨(blk_cell BK293.out 0).trans rfl, (blk_cell BK293.out 1).trans rfl, hx301_0⟩ (fun hHeld => ?_)
                                              generalize wc.drew = w131 at HO_8 HO_279001 HO_294001 BK277 BK278 BK293 HB hx301_0 hHeld ⊢
                                              refine pure_ (i := 0) (N := some 135) (v := ?_) (a' := ?_) #[true, false, false, false, false, false, false] rfl rfl (by kernel_rfl) (fun _ _ _ h => h) (Or.inl ⟨by rfl, ?_⟩) ?_ ?_
                                              rotate_left
                                              · intro w'
                                                go_simp
                                                with_reducible rfl
                                              rotate_left
                                              · simp only [Act.put, List.setIfInBounds_toArray, List.set_cons_zero, List.set_cons_succ, i64_w, i32_w]
                                                rfl
                                              refine pure_ (i := 2) (N := some 137) (v := ?_) (a' := ?_) #[true, false, true, false, false, false, false] rfl rfl (by kernel_rfl) (fun _ _ _ h => h) (Or.inl ⟨by rfl, ?_⟩) ?_ ?_
                                              rotate_left
                                              · intro w'
                                                go_simp
                                                with_reducible rfl
                                              rotate_left
                                              · simp only [Act.put, List.setIfInBounds_toArray, List.set_cons_zero, List.set_cons_succ, i64_w, i32_w]
                                                rfl
                                              refine pure_ (i := 3) (N := some 138) (v := ?_) (a' := ?_) #[true, false, true, true, false, false, false] rfl rfl (by kernel_rfl) (fun _ _ _ h => h) (Or.inl ⟨by rfl, ?_⟩) ?_ ?_
                                              rotate_left
                                              · intro w'
                                                go_simp
                                                with_reducible rfl
                                              rotate_left
                                              · simp only [Act.put, List.setIfInBounds_toArray, List.set_cons_zero, List.set_cons_succ, i64_w, i32_w]
                                                rfl
                                              refine pure_ (i := 4) (N := some 139) (v := ?_) (a' := ?_) #[true, false, true, true, true, false, false] rfl rfl (by kernel_rfl) (fun _ _ _ h => h) (Or.inl ⟨by rfl, ?_⟩) ?_ ?_
                                              rotate_left
                                              · intro w'
                                                go_simp
                                                with_reducible rfl
                                              rotate_left
                                              · simp only [Act.put, List.setIfInBounds_toArray, List.set_cons_zero, List.set_cons_succ, i64_w, i32_w]
                                                rfl
                                              refine take_ (i := 1) (N := some 136) (v := ?_) (a' := ?_) #[true, true, true, true, true, false, false] rfl rfl (by kernel_rfl) (fun _ _ _ h => h) (Or.inl ⟨by rfl, ?_⟩) hHeld ?_ ?_
                                              rotate_left
                                              · rintro w' ⟨s0, s1, s2⟩
                                                go_simp
                                                with_reducible rfl
                                              rotate_left
                                              · simp only [Act.put, List.setIfInBounds_toArray, List.set_cons_zero, List.set_cons_succ, i64_w, i32_w]
                                                rfl
                                              refine take_ (i := 5) (N := some 140) (v := ?_) (a' := ?_) #[true, true, true, true, true, true, false] rfl rfl (by kernel_rfl) (fun _ _ _ h => h) (Or.inl ⟨by rfl, ?_⟩) hHeld ?_ ?_
                                              rotate_left
                                              · rintro w' ⟨s0, s1, s2⟩
                                                go_simp
                                                with_reducible rfl
                                              rotate_left
                                              · simp only [Act.put, List.setIfInBounds_toArray, List.set_cons_zero, List.set_cons_succ, i64_w, i32_w]
                                                rfl
                                              refine pure_ (i := 6) (N := some 141) (v := ?_) (a' := ?_) #[true, true, true, true, true, true, true] rfl rfl (by kernel_rfl) (fun _ _ _ h => h) (Or.inl ⟨by rfl, ?_⟩) ?_ ?_
                                              rotate_left
                                              · intro w'
                                                go_simp
                                                with_reducible rfl
                                              rotate_left
                                              · simp only [Act.put, List.setIfInBounds_toArray, List.set_cons_zero, List.set_cons_succ, i64_w, i32_w]
                                                rfl
                                              refine done_ (by kernel_rfl) ?_
                                              have hcz132_0 : w131.cell? ⟨gb293, 0, none⟩ = some (.int .i64 t289) := (blk_cell BK293.out 0).trans rfl
                                              have hcz132_1 : w131.cell? ⟨gb293, 1, none⟩ = some (.slice Ao65 t290.length co65) := (blk_cell BK293.out 1).trans rfl
                                              have hfz132_0 := blk_frozen BK293.out 0
                                              have hfz132_1 := blk_frozen BK293.out 1
                                              have hcz133_0 : w131.cell? ⟨gb278, 0, none⟩ = some (.int .i64 x279000_2) := (blk_cell BK278.out 0).trans rfl
                                              have hcz133_1 : w131.cell? ⟨gb278, 1, none⟩ = some (.slice Ao41 x279001_2.length co41) := (blk_cell BK278.out 1).trans rfl
                                              have hfz133_0 := blk_frozen BK278.out 0
                                              have hfz133_1 := blk_frozen BK278.out 1
                                              try go_wp2
                                              go_roundg kj56
                                              case measure => have := HJ4.out; have := HK2.out; have := HJ37.out; have := HJ56.out; omega
                                              case rel => exact ⟨(x9_2), (x10_2), (wrap64 (x11_2 + 1)), (t289), (t290), (.slice Ao65 t290.length co65), (by first | rfl | (simp; done) | (simp [*]; done)), (by first | rfl | (simp; done) | (simp [*]; done)), (by first | rfl | (simp; done) | (simp [*]; done)), H', ⟨by have := HJ4.out; have := HK2.out; have := HJ37.out; have := HJ56.out; omega⟩, ⟨by (with_reducible repeat (first | apply Kd.R_alloc | apply Kd.R_drewN | apply Kd.R_drew)); exact Kd.R_mono (Kd.R_far (p := ⟨gb278, 1, none⟩) (Kd.R_far (p := ⟨gb278, 0, none⟩) (Kd.R_types HO_8.out BK278.out (by decide)) (fun _ hk => hk.2) (.int .i64 t289)) (fun _ hk => hk.2) (.slice Ao65 t290.length co65)) (fun _ hk => hk.1.1)⟩, ⟨Kd.V_mono (ok := fun k_ => (w.heap.size ≤ k_) ∧ some k_ ≠ (Value.slice (some ad301) t282.length co35).ownBlock ∧ k_ ≠ gb277 ∧ k_ ≠ gb278) (Kd.Q_V (by (with_reducible repeat (first | apply Kd.Q_alloc | apply Kd.Q_drewN | apply Kd.Q_drew)); exact Kd.Q_mono (Kd.Q_far (p := ⟨gb278, 1, none⟩) (Kd.Q_far (p := ⟨gb278, 0, none⟩) (Kd.Q_types (Kd.Q_types (Kd.Q_types HO_294001.out BK277.out (by decide)) BK278.out (by decide)) BK278.out (by decide)) (fun _ hk => hk.2) (.int .i64 t289)) (fun _ hk => hk.2) (.slice Ao65 t290.length co65)) (fun _ hk => ⟨hk.1.1.1.1, ⟨hk.1.1.1.2, ⟨hk.1.1.2, hk.1.2⟩⟩⟩))) (fun k_ hk => by first | exact ⟨(.inr (hk.1)), hk.2⟩ | exact (.inr (hk)))⟩, ⟨by (with_reducible repeat (first | refine blk_drewN ?_ _ | refine blk_drew ?_ | refine blk_alloc ?_ _)); refine blk_far ?_ NB277_278.out _; (with_reducible repeat (first | refine blk_drewN ?_ _ | refine blk_drew ?_ | refine blk_alloc ?_ _)); refine blk_far ?_ NB277_278.out _; (with_reducible repeat (first | refine blk_drewN ?_ _ | refine blk_drew ?_ | refine blk_alloc ?_ _)); exact BK277.out⟩, ⟨by (with_reducible repeat (first | refine blk_drewN ?_ _ | refine blk_drew ?_ | refine blk_alloc ?_ _)); refine blk_put (cs := #[.int .i64 t289, .slice Ao41 x279001_2.length co41]) ?_ 1 _ rfl; (with_reducible repeat (first | refine blk_drewN ?_ _ | refine blk_drew ?_ | refine blk_alloc ?_ _)); refine blk_put (cs := #[.int .i64 x279000_2, .slice Ao41 x279001_2.length co41]) ?_ 0 _ rfl; (with_reducible repeat (first | refine blk_drewN ?_ _ | refine blk_drew ?_ | refine blk_alloc ?_ _)); exact BK278.out⟩, ⟨by repeat (first | (with_reducible first | exact HB.out | apply below_alloc | apply pw_below_drewN | apply below_drew1 | refine below_set ?_ GE277.out | refine below_set ?_ GE278.out | refine below_set ?_ GE293.out) | exact HB.out)⟩⟩
                                            · rw [if_neg c125] at H
                                              exact absurd H (by simp)
                                          · rw [if_neg c124] at H
                                            exact absurd H (by simp)
                                        · rw [if_neg c123] at H
                                          exact absurd H (by simp)
                                    · rw [if_neg c121] at H
                                      exact absurd H (by simp)
                                  · rw [if_neg c120] at H
                                    exact absurd H (by simp)
                          · replace c56 := Bool.eq_false_iff.mpr c56
                            subst c56
                            have H1 : (none) = some r := by rw [if_neg (show ¬ (false = true) by decide)] at H; exact H
                            clear H
                            have H := H1
                            clear H1
                            exact absurd H (by simp)
                        · rw [if_neg c53] at H
                          exact absurd H (by simp)
                      · rw [if_neg c52] at H
                        exact absurd H (by simp)
              · rw [if_neg c36] at H
                have c36b0 : decide (x11_2 < (l2.length : Int)) = false := decide_eq_false c36
                clear c36
                by_cases c134 : t279 = true
                · subst c134
                  have H1 : (if (x279001_2.length : Int) > 0 then (some true) else (if 0 ≤ (wrap64 ((t282.length : Int) - 1)) then (if (wrap64 ((t282.length : Int) - 1)) < (t282.length : Int) then (if x279000_2 = (rd t282 (wrap64 ((t282.length : Int) - 1))) then ((robot_Next.f x279000_2 x279001_2).bind fun t286 => (some (t286 == 0))) else (none)) else (none)) else (none))) = some r := by rw [if_pos rfl] at H; exact H
                  clear H
                  have H := H1
                  clear H1
                  by_cases c135 : (x279001_2.length : Int) > 0
                  · rw [if_pos c135] at H
                    have c135b0 : decide (0 < (x279001_2.length : Int)) = true := decide_eq_true c135
                    have c135b1 : decide (0 < x279001_2.length) = true := decide_eq_true (by omega)
                    clear c135
                    obtain rfl := Option.some.inj H
                    try go_wp2
                    have n0_ := Aside0.mk (Kd.R_drew HO_8.out)
                    have n1_ := Aside0.mk (Kd.V_drew HO_279001.out)
                    have n2_ := Aside0.mk (blk_drew BK277.out)
                    have n3_ := Aside0.mk (blk_drew BK278.out)
                    have n4_ := Aside0.mk (below_drew1 HB.out)
                    clear HO_8
                    clear HO_279001
                    clear BK277
                    clear BK278
                    clear HB
                    have HO_8 := n0_
                    have HO_279001 := n1_
                    have BK277 := n2_
                    have BK278 := n3_
                    have HB := n4_
                    clear n0_ n1_ n2_ n3_ n4_
                    obtain ⟨Ao137, co137, eo137⟩ := Kd.V_slice HO_279001.out
                    (first | subst eo137 | (injection eo137 with f1_ f2_ f3_; have f4_ := f1_.symm; have f5_ := f3_.symm; clear f1_ f2_ f3_; subst f4_; subst f5_))
                    refine start_ (n := 24) (S := fun w' => w'.cell? ⟨gb278, 0, none⟩ = some (.int .i64 x279000_2) ∧ w'.cell? ⟨gb278, 1, none⟩ = some (.slice Ao137 x279001_2.length co137)) (ds := []) #[false, false, false, false, false, false, false, false, false, false, false, false, false, false, false, false, false, false, false, false, false, false, false, false] (by kernel_rfl) rfl rfl ⟨(blk_cell BK278.out 0).trans rfl, (blk_cell BK278.out 1).trans rfl⟩ (fun hHeld => ?_); refine with_tabW taquinlaw22_RobotStays.tab35 taquinlaw22_RobotStays.bits35 (fun HT_ HW_ => ?_)
                    generalize wr.drew = w136 at HO_8 HO_279001 BK277 BK278 HB hHeld ⊢
                    refine pure_ (i := 0) (N := some 143) (v := ?_) (a' := ?_) #[true, false, false, false, false, false, false, false, false, false, false, false, false, false, false, false, false, false, false, false, false, false, false, false] rfl rfl (any_of HT_.out (by kernel_rfl)) (fun _ _ _ h => h) (Or.inl ⟨by rfl, ?_⟩) ?_ ?_
                    rotate_left
                    · intro w'
                      go_simp
                      with_reducible rfl
                    rotate_left
                    · simp only [Act.put, List.setIfInBounds_toArray, List.set_cons_zero, List.set_cons_succ, i64_w, i32_w]
                      rfl
                    refine pure_ (i := 1) (N := some 144) (v := ?_) (a' := ?_) #[true, true, false, false, false, false, false, false, false, false, false, false, false, false, false, false, false, false, false, false, false, false, false, false] rfl rfl (any_of HT_.out (by kernel_rfl)) (fun _ _ _ h => h) (Or.inl ⟨by rfl, ?_⟩) ?_ ?_
                    rotate_left
                    · intro w'
                      go_simp
                      with_reducible rfl
                    rotate_left
                    · simp only [Act.put, List.setIfInBounds_toArray, List.set_cons_zero, List.set_cons_succ, i64_w, i32_w]
                      rfl
                    refine pure_ (i := 2) (N := some 145) (v := ?_) (a' := ?_) #[true, true, true, false, false, false, false, false, false, false, false, false, false, false, false, false, false, false, false, false, false, false, false, false] rfl rfl (any_of HT_.out (by kernel_rfl)) (fun _ _ _ h => h) (Or.inl ⟨by rfl, ?_⟩) ?_ ?_
                    rotate_left
                    · intro w'
                      go_simp
                      with_reducible rfl
                    rotate_left
                    · simp only [Act.put, List.setIfInBounds_toArray, List.set_cons_zero, List.set_cons_succ, i64_w, i32_w]
                      rfl
                    refine take_ (i := 3) (N := some 146) (v := ?_) (a' := ?_) #[true, true, true, true, false, false, false, false, false, false, false, false, false, false, false, false, false, false, false, false, false, false, false, false] rfl rfl (take_ofW HT_.out HW_.out (by kernel_rfl)) (fun _ _ _ h => h) (Or.inl ⟨by rfl, ?_⟩) hHeld ?_ ?_
                    rotate_left
                    · rintro w' ⟨s0, s1⟩
                      go_simp
                      with_reducible rfl
                    rotate_left
                    · simp only [Act.put, List.setIfInBounds_toArray, List.set_cons_zero, List.set_cons_succ, i64_w, i32_w]
                      rfl
                    refine pure_ (i := 4) (N := some 147) (v := ?_) (a' := ?_) #[true, true, true, true, true, false, false, false, false, false, false, false, false, false, false, false, false, false, false, false, false, false, false, false] rfl rfl (any_of HT_.out (by kernel_rfl)) (fun _ _ _ h => h) (Or.inl ⟨by rfl, ?_⟩) ?_ ?_
                    rotate_left
                    · intro w'
                      go_simp
                      with_reducible rfl
                    rotate_left
                    · simp only [Act.put, List.setIfInBounds_toArray, List.set_cons_zero, List.set_cons_succ, i64_w, i32_w]
                      rfl
                    refine pure_ (i := 5) (N := some 148) (v := ?_) (a' := ?_) #[true, true, true, true, true, true, false, false, false, false, false, false, false, false, false, false, false, false, false, false, false, false, false, false] rfl rfl (any_of HT_.out (by kernel_rfl)) (fun _ _ _ h => h) (Or.inl ⟨by rfl, ?_⟩) ?_ ?_
                    rotate_left
                    · intro w'
                      go_simp
                      with_reducible rfl
                    rotate_left
                    · simp only [Act.put, List.setIfInBounds_toArray, List.set_cons_zero, List.set_cons_succ, i64_w, i32_w]
                      rfl
                    refine pure_ (i := 6) (N := some 149) (v := ?_) (a' := ?_) #[true, true, true, true, true, true, true, false, false, false, false, false, false, false, false, false, false, false, false, false, false, false, false, false] rfl rfl (any_of HT_.out (by kernel_rfl)) (fun _ _ _ h => h) (Or.inl ⟨by rfl, ?_⟩) ?_ ?_
                    rotate_left
                    · intro w'
                      go_simp
                      with_reducible rfl
                    rotate_left
                    · simp only [Act.put, List.setIfInBounds_toArray, List.set_cons_zero, List.set_cons_succ, i64_w, i32_w]
                      rfl
                    refine pure_ (i := 7) (N := some 150) (v := undef) (a' := ?_) #[true, true, true, true, true, true, true, true, false, false, false, false, false, false, false, false, false, false, false, false, false, false, false, false] rfl rfl (any_of HT_.out (by kernel_rfl)) (fun _ _ _ h => h) (Or.inr ⟨by rfl, rfl⟩) ?_ ?_
                    rotate_left
                    · simp only [Act.put, List.setIfInBounds_toArray, List.set_cons_zero, List.set_cons_succ, i64_w, i32_w]
                      rfl
                    refine pure_ (i := 8) (N := some 151) (v := undef) (a' := ?_) #[true, true, true, true, true, true, true, true, true, false, false, false, false, false, false, false, false, false, false, false, false, false, false, false] rfl rfl (any_of HT_.out (by kernel_rfl)) (fun _ _ _ h => h) (Or.inr ⟨by rfl, rfl⟩) ?_ ?_
                    rotate_left
                    · simp only [Act.put, List.setIfInBounds_toArray, List.set_cons_zero, List.set_cons_succ, i64_w, i32_w]
                      rfl
                    refine pure_ (i := 9) (N := some 152) (v := undef) (a' := ?_) #[true, true, true, true, true, true, true, true, true, true, false, false, false, false, false, false, false, false, false, false, false, false, false, false] rfl rfl (any_of HT_.out (by kernel_rfl)) (fun _ _ _ h => h) (Or.inr ⟨by rfl, rfl⟩) ?_ ?_
                    rotate_left
                    · simp only [Act.put, List.setIfInBounds_toArray, List.set_cons_zero, List.set_cons_succ, i64_w, i32_w]
                      rfl
                    refine pure_ (i := 10) (N := some 153) (v := undef) (a' := ?_) #[true, true, true, true, true, true, true, true, true, true, true, false, false, false, false, false, false, false, false, false, false, false, false, false] rfl rfl (any_of HT_.out (by kernel_rfl)) (fun _ _ _ h => h) (Or.inr ⟨by rfl, rfl⟩) ?_ ?_
                    rotate_left
                    · simp only [Act.put, List.setIfInBounds_toArray, List.set_cons_zero, List.set_cons_succ, i64_w, i32_w]
                      rfl
                    refine pure_ (i := 11) (N := some 154) (v := undef) (a' := ?_) #[true, true, true, true, true, true, true, true, true, true, true, true, false, false, false, false, false, false, false, false, false, false, false, false] rfl rfl (any_of HT_.out (by kernel_rfl)) (fun _ _ _ h => h) (Or.inr ⟨by rfl, rfl⟩) ?_ ?_
                    rotate_left
                    · simp only [Act.put, List.setIfInBounds_toArray, List.set_cons_zero, List.set_cons_succ, i64_w, i32_w]
                      rfl
                    refine pure_ (i := 12) (N := some 155) (v := undef) (a' := ?_) #[true, true, true, true, true, true, true, true, true, true, true, true, true, false, false, false, false, false, false, false, false, false, false, false] rfl rfl (any_of HT_.out (by kernel_rfl)) (fun _ _ _ h => h) (Or.inr ⟨by rfl, rfl⟩) ?_ ?_
                    rotate_left
                    · simp only [Act.put, List.setIfInBounds_toArray, List.set_cons_zero, List.set_cons_succ, i64_w, i32_w]
                      rfl
                    refine pure_ (i := 13) (N := some 156) (v := undef) (a' := ?_) #[true, true, true, true, true, true, true, true, true, true, true, true, true, true, false, false, false, false, false, false, false, false, false, false] rfl rfl (any_of HT_.out (by kernel_rfl)) (fun _ _ _ h => h) (Or.inr ⟨by rfl, rfl⟩) ?_ ?_
                    rotate_left
                    · simp only [Act.put, List.setIfInBounds_toArray, List.set_cons_zero, List.set_cons_succ, i64_w, i32_w]
                      rfl
                    refine pure_ (i := 14) (N := some 157) (v := undef) (a' := ?_) #[true, true, true, true, true, true, true, true, true, true, true, true, true, true, true, false, false, false, false, false, false, false, false, false] rfl rfl (any_of HT_.out (by kernel_rfl)) (fun _ _ _ h => h) (Or.inr ⟨by rfl, rfl⟩) ?_ ?_
                    rotate_left
                    · simp only [Act.put, List.setIfInBounds_toArray, List.set_cons_zero, List.set_cons_succ, i64_w, i32_w]
                      rfl
                    refine pure_ (i := 15) (N := some 158) (v := undef) (a' := ?_) #[true, true, true, true, true, true, true, true, true, true, true, true, true, true, true, true, false, false, false, false, false, false, false, false] rfl rfl (any_of HT_.out (by kernel_rfl)) (fun _ _ _ h => h) (Or.inr ⟨by rfl, rfl⟩) ?_ ?_
                    rotate_left
                    · simp only [Act.put, List.setIfInBounds_toArray, List.set_cons_zero, List.set_cons_succ, i64_w, i32_w]
                      rfl
                    refine pure_ (i := 16) (N := some 159) (v := undef) (a' := ?_) #[true, true, true, true, true, true, true, true, true, true, true, true, true, true, true, true, true, false, false, false, false, false, false, false] rfl rfl (any_of HT_.out (by kernel_rfl)) (fun _ _ _ h => h) (Or.inr ⟨by rfl, rfl⟩) ?_ ?_
                    rotate_left
                    · simp only [Act.put, List.setIfInBounds_toArray, List.set_cons_zero, List.set_cons_succ, i64_w, i32_w]
                      rfl
                    refine pure_ (i := 17) (N := some 160) (v := undef) (a' := ?_) #[true, true, true, true, true, true, true, true, true, true, true, true, true, true, true, true, true, true, false, false, false, false, false, false] rfl rfl (any_of HT_.out (by kernel_rfl)) (fun _ _ _ h => h) (Or.inr ⟨by rfl, rfl⟩) ?_ ?_
                    rotate_left
                    · simp only [Act.put, List.setIfInBounds_toArray, List.set_cons_zero, List.set_cons_succ, i64_w, i32_w]
                      rfl
                    refine pure_ (i := 18) (N := some 161) (v := undef) (a' := ?_) #[true, true, true, true, true, true, true, true, true, true, true, true, true, true, true, true, true, true, true, false, false, false, false, false] rfl rfl (any_of HT_.out (by kernel_rfl)) (fun _ _ _ h => h) (Or.inr ⟨by rfl, rfl⟩) ?_ ?_
                    rotate_left
                    · simp only [Act.put, List.setIfInBounds_toArray, List.set_cons_zero, List.set_cons_succ, i64_w, i32_w]
                      rfl
                    refine pure_ (i := 19) (N := some 162) (v := undef) (a' := ?_) #[true, true, true, true, true, true, true, true, true, true, true, true, true, true, true, true, true, true, true, true, false, false, false, false] rfl rfl (any_of HT_.out (by kernel_rfl)) (fun _ _ _ h => h) (Or.inr ⟨by rfl, rfl⟩) ?_ ?_
                    rotate_left
                    · simp only [Act.put, List.setIfInBounds_toArray, List.set_cons_zero, List.set_cons_succ, i64_w, i32_w]
                      rfl
                    refine pure_ (i := 20) (N := some 163) (v := undef) (a' := ?_) #[true, true, true, true, true, true, true, true, true, true, true, true, true, true, true, true, true, true, true, true, true, false, false, false] rfl rfl (any_of HT_.out (by kernel_rfl)) (fun _ _ _ h => h) (Or.inr ⟨by rfl, rfl⟩) ?_ ?_
                    rotate_left
                    · simp only [Act.put, List.setIfInBounds_toArray, List.set_cons_zero, List.set_cons_succ, i64_w, i32_w]
                      rfl
                    refine pure_ (i := 21) (N := some 164) (v := ?_) (a' := ?_) #[true, true, true, true, true, true, true, true, true, true, true, true, true, true, true, true, true, true, true, true, true, true, false, false] rfl rfl (any_of HT_.out (by kernel_rfl)) (fun _ _ _ h => h) (Or.inl ⟨by rfl, ?_⟩) ?_ ?_
                    rotate_left
                    · intro w'
                      go_simp
                      with_reducible rfl
                    rotate_left
                    · simp only [Act.put, List.setIfInBounds_toArray, List.set_cons_zero, List.set_cons_succ, i64_w, i32_w]
                      rfl
                    refine pure_ (i := 22) (N := some 165) (v := ?_) (a' := ?_) #[true, true, true, true, true, true, true, true, true, true, true, true, true, true, true, true, true, true, true, true, true, true, true, false] rfl rfl (any_of HT_.out (by kernel_rfl)) (fun _ _ _ h => h) (Or.inl ⟨by rfl, ?_⟩) ?_ ?_
                    rotate_left
                    · intro w'
                      go_simp
                      with_reducible rfl
                    rotate_left
                    · simp only [Act.put, List.setIfInBounds_toArray, List.set_cons_zero, List.set_cons_succ, i64_w, i32_w]
                      rfl
                    refine pure_ (i := 23) (N := some 6) (v := ?_) (a' := ?_) #[true, true, true, true, true, true, true, true, true, true, true, true, true, true, true, true, true, true, true, true, true, true, true, true] rfl rfl (any_of HT_.out (by kernel_rfl)) (fun _ _ _ h => h) (Or.inl ⟨by rfl, ?_⟩) ?_ ?_
                    rotate_left
                    · intro w'
                      go_simp
                      with_reducible rfl
                    rotate_left
                    · simp only [Act.put, List.setIfInBounds_toArray, List.set_cons_zero, List.set_cons_succ, i64_w, i32_w]
                      rfl
                    refine done_ (done_of HT_.out (by kernel_rfl)) ?_
                    try go_wp2
                    go_ret
                    exact ⟨by first | rfl | (simp [errW_none, errW_some] <;> rfl) | (simp [*, errW_none, errW_some] <;> rfl), by repeat (first | (with_reducible first | exact HB.out | apply below_alloc | apply pw_below_drewN | apply below_drew1 | refine below_set ?_ GE277.out | refine below_set ?_ GE278.out) | exact HB.out)⟩
                  · rw [if_neg c135] at H
                    have c135b0 : decide (0 < (x279001_2.length : Int)) = false := decide_eq_false c135
                    have c135b1 : decide (0 < x279001_2.length) = false := decide_eq_false (by omega)
                    clear c135
                    obtain ⟨ji138, hji138⟩ : ∃ j_ : Int, (wrap64 ((t282.length : Int) - 1)) = j_ := ⟨_, rfl⟩
                    replace H : (if 0 ≤ (ji138) then (if (ji138) < (t282.length : Int) then (if x279000_2 = (rd t282 (ji138)) then ((robot_Next.f x279000_2 x279001_2).bind fun t286 => (some (t286 == 0))) else (none)) else (none)) else (none)) = some r := by first | (rw [hji138] at H; exact H) | (simp only [hji138] at H ⊢; exact H)
                    have hji138w : (IntKind.i64.wrap ((t282.length : Int) - 1)) = ji138 := (i64_w _).trans hji138
                    by_cases c139 : 0 ≤ (ji138)
                    · rw [if_pos c139] at H
                      have c139b0 : decide (0 ≤ (ji138)) = true := decide_eq_true c139
                      clear c139
                      by_cases c140 : (ji138) < (t282.length : Int)
                      · rw [if_pos c140] at H
                        have c140b0 : decide ((ji138) < (t282.length : Int)) = true := decide_eq_true c140
                        clear c140
                        by_cases c141 : x279000_2 = (rd t282 (ji138))
                        · rw [if_pos c141] at H
                          have c141b0 : (x279000_2 == (rd t282 (ji138))) = true := beq_iff_eq.mpr c141
                          have c141b1 : (x279000_2 != (rd t282 (ji138))) = false := bne_eq_false_iff_eq.mpr c141
                          clear c141
                          replace H := Option.bind_eq_some_iff.mp H
                          obtain ⟨t286, A1420, H⟩ := H
                          replace H : (some (t286 == 0)) = some r := H
                          have A142 := Aside0.mk A1420
                          clear A1420
                          obtain rfl := Option.some.inj H
                          try go_wp2
                          have n0_ := Aside0.mk (Kd.R_drew HO_8.out)
                          have n1_ := Aside0.mk (Kd.V_drew HO_279001.out)
                          have n2_ := Aside0.mk (blk_drew BK277.out)
                          have n3_ := Aside0.mk (blk_drew BK278.out)
                          have n4_ := Aside0.mk (below_drew1 HB.out)
                          clear HO_8
                          clear HO_279001
                          clear BK277
                          clear BK278
                          clear HB
                          have HO_8 := n0_
                          have HO_279001 := n1_
                          have BK277 := n2_
                          have BK278 := n3_
                          have HB := n4_
                          clear n0_ n1_ n2_ n3_ n4_
                          obtain ⟨Ao144, co144, eo144⟩ := Kd.V_slice HO_279001.out
                          (first | subst eo144 | (injection eo144 with f1_ f2_ f3_; have f4_ := f1_.symm; have f5_ := f3_.symm; clear f1_ f2_ f3_; subst f4_; subst f5_))
                          have p285 : 0 ≤ ((ji138) : Int) := of_decide_eq_true (by first | (with_reducible assumption) | assumption)
                          have q285 : (ji138) < (t282.length : Int) := of_decide_eq_true (by first | (with_reducible assumption) | assumption)
                          obtain ⟨ad285, e285, hx285_0⟩ := Kd.at_int (Kd.R_reads' HO_8.out).2.2 (ji138) p285 q285
                          cases e285
                          replace p285 := eq_true p285
                          replace q285 := eq_true q285
                          refine start_ (n := 24) (S := fun w' => w'.cell? ⟨gb278, 0, none⟩ = some (.int .i64 x279000_2) ∧ w'.cell? ⟨gb278, 1, none⟩ = some (.slice Ao144 x279001_2.length co144) ∧ w'.cell? (ad285.add ((ji138)).toNat) = some (.int .i64 (rd t282 (ji138)))) (ds := []) #[false, false, false, false, false, false, false, false, false, false, false, false, false, false, false, false, false, false, false, false, false, false, false, false] (by kernel_rfl) rfl rfl ⟨(blk_cell BK278.out 0).trans rfl, (blk_cell BK278.out 1).trans rfl, hx285_0⟩ (fun hHeld => ?_); refine with_tabW taquinlaw22_RobotStays.tab35 taquinlaw22_RobotStays.bits35 (fun HT_ HW_ => ?_)
                          generalize wr.drew = w143 at HO_8 HO_279001 BK277 BK278 HB hx285_0 hHeld ⊢
                          refine pure_ (i := 0) (N := some 143) (v := ?_) (a' := ?_) #[true, false, false, false, false, false, false, false, false, false, false, false, false, false, false, false, false, false, false, false, false, false, false, false] rfl rfl (any_of HT_.out (by kernel_rfl)) (fun _ _ _ h => h) (Or.inl ⟨by rfl, ?_⟩) ?_ ?_
                          rotate_left
                          · intro w'
                            go_simp
                            with_reducible rfl
                          rotate_left
                          · simp only [Act.put, List.setIfInBounds_toArray, List.set_cons_zero, List.set_cons_succ, i64_w, i32_w]
                            rfl
                          refine pure_ (i := 1) (N := some 144) (v := ?_) (a' := ?_) #[true, true, false, false, false, false, false, false, false, false, false, false, false, false, false, false, false, false, false, false, false, false, false, false] rfl rfl (any_of HT_.out (by kernel_rfl)) (fun _ _ _ h => h) (Or.inl ⟨by rfl, ?_⟩) ?_ ?_
                          rotate_left
                          · intro w'
                            go_simp
                            with_reducible rfl
                          rotate_left
                          · simp only [Act.put, List.setIfInBounds_toArray, List.set_cons_zero, List.set_cons_succ, i64_w, i32_w]
                            rfl
                          refine pure_ (i := 2) (N := some 145) (v := ?_) (a' := ?_) #[true, true, true, false, false, false, false, false, false, false, false, false, false, false, false, false, false, false, false, false, false, false, false, false] rfl rfl (any_of HT_.out (by kernel_rfl)) (fun _ _ _ h => h) (Or.inl ⟨by rfl, ?_⟩) ?_ ?_
                          rotate_left
                          · intro w'
                            go_simp
                            with_reducible rfl
                          rotate_left
                          · simp only [Act.put, List.setIfInBounds_toArray, List.set_cons_zero, List.set_cons_succ, i64_w, i32_w]
                            rfl
                          refine take_ (i := 3) (N := some 146) (v := ?_) (a' := ?_) #[true, true, true, true, false, false, false, false, false, false, false, false, false, false, false, false, false, false, false, false, false, false, false, false] rfl rfl (take_ofW HT_.out HW_.out (by kernel_rfl)) (fun _ _ _ h => h) (Or.inl ⟨by rfl, ?_⟩) hHeld ?_ ?_
                          rotate_left
                          · rintro w' ⟨s0, s1, s2⟩
                            go_simp
                            with_reducible rfl
                          rotate_left
                          · simp only [Act.put, List.setIfInBounds_toArray, List.set_cons_zero, List.set_cons_succ, i64_w, i32_w]
                            rfl
                          refine pure_ (i := 4) (N := some 147) (v := ?_) (a' := ?_) #[true, true, true, true, true, false, false, false, false, false, false, false, false, false, false, false, false, false, false, false, false, false, false, false] rfl rfl (any_of HT_.out (by kernel_rfl)) (fun _ _ _ h => h) (Or.inl ⟨by rfl, ?_⟩) ?_ ?_
                          rotate_left
                          · intro w'
                            go_simp
                            with_reducible rfl
                          rotate_left
                          · simp only [Act.put, List.setIfInBounds_toArray, List.set_cons_zero, List.set_cons_succ, i64_w, i32_w]
                            rfl
                          refine pure_ (i := 5) (N := some 148) (v := ?_) (a' := ?_) #[true, true, true, true, true, true, false, false, false, false, false, false, false, false, false, false, false, false, false, false, false, false, false, false] rfl rfl (any_of HT_.out (by kernel_rfl)) (fun _ _ _ h => h) (Or.inl ⟨by rfl, ?_⟩) ?_ ?_
                          rotate_left
                          · intro w'
                            go_simp
                            with_reducible rfl
                          rotate_left
                          · simp only [Act.put, List.setIfInBounds_toArray, List.set_cons_zero, List.set_cons_succ, i64_w, i32_w]
                            rfl
                          refine pure_ (i := 6) (N := some 149) (v := ?_) (a' := ?_) #[true, true, true, true, true, true, true, false, false, false, false, false, false, false, false, false, false, false, false, false, false, false, false, false] rfl rfl (any_of HT_.out (by kernel_rfl)) (fun _ _ _ h => h) (Or.inl ⟨by rfl, ?_⟩) ?_ ?_
                          rotate_left
                          · intro w'
                            go_simp
                            with_reducible rfl
                          rotate_left
                          · simp only [Act.put, List.setIfInBounds_toArray, List.set_cons_zero, List.set_cons_succ, i64_w, i32_w]
                            rfl
                          refine pure_ (i := 7) (N := some 150) (v := ?_) (a' := ?_) #[true, true, true, true, true, true, true, true, false, false, false, false, false, false, false, false, false, false, false, false, false, false, false, false] rfl rfl (any_of HT_.out (by kernel_rfl)) (fun _ _ _ h => h) (Or.inl ⟨by rfl, ?_⟩) ?_ ?_
                          rotate_left
                          · intro w'
                            go_simp
                            with_reducible rfl
                          rotate_left
                          · simp only [Act.put, List.setIfInBounds_toArray, List.set_cons_zero, List.set_cons_succ, i64_w, i32_w]
                            rfl
                          refine pure_ (i := 9) (N := some 152) (v := ?_) (a' := ?_) #[true, true, true, true, true, true, true, true, false, true, false, false, false, false, false, false, false, false, false, false, false, false, false, false] rfl rfl (any_of HT_.out (by kernel_rfl)) (fun _ _ _ h => h) (Or.inl ⟨by rfl, ?_⟩) ?_ ?_
                          rotate_left
                          · intro w'
                            go_simp
                            with_reducible rfl
                          rotate_left
                          · simp only [Act.put, List.setIfInBounds_toArray, List.set_cons_zero, List.set_cons_succ, i64_w, i32_w]
                            rfl
                          refine pure_ (i := 10) (N := some 153) (v := ?_) (a' := ?_) #[true, true, true, true, true, true, true, true, false, true, true, false, false, false, false, false, false, false, false, false, false, false, false, false] rfl rfl (any_of HT_.out (by kernel_rfl)) (fun _ _ _ h => h) (Or.inl ⟨by rfl, ?_⟩) ?_ ?_
                          rotate_left
                          · intro w'
                            go_simp
                            with_reducible rfl
                          rotate_left
                          · simp only [Act.put, List.setIfInBounds_toArray, List.set_cons_zero, List.set_cons_succ, i64_w, i32_w]
                            rfl
                          refine pure_ (i := 11) (N := some 154) (v := ?_) (a' := ?_) #[true, true, true, true, true, true, true, true, false, true, true, true, false, false, false, false, false, false, false, false, false, false, false, false] rfl rfl (any_of HT_.out (by kernel_rfl)) (fun _ _ _ h => h) (Or.inl ⟨by rfl, ?_⟩) ?_ ?_
                          rotate_left
                          · intro w'
                            go_simp
                            with_reducible rfl
                          rotate_left
                          · simp only [Act.put, List.setIfInBounds_toArray, List.set_cons_zero, List.set_cons_succ, i64_w, i32_w]
                            rfl
                          refine pure_ (i := 12) (N := some 155) (v := ?_) (a' := ?_) #[true, true, true, true, true, true, true, true, false, true, true, true, true, false, false, false, false, false, false, false, false, false, false, false] rfl rfl (any_of HT_.out (by kernel_rfl)) (fun _ _ _ h => h) (Or.inl ⟨by rfl, ?_⟩) ?_ ?_
                          rotate_left
                          · intro w'
                            go_simp
                            with_reducible rfl
                          rotate_left
                          · simp only [Act.put, List.setIfInBounds_toArray, List.set_cons_zero, List.set_cons_succ, i64_w, i32_w]
                            rfl
                          refine pure_ (i := 13) (N := some 156) (v := ?_) (a' := ?_) #[true, true, true, true, true, true, true, true, false, true, true, true, true, true, false, false, false, false, false, false, false, false, false, false] rfl rfl (any_of HT_.out (by kernel_rfl)) (fun _ _ _ h => h) (Or.inl ⟨by rfl, ?_⟩) ?_ ?_
                          rotate_left
                          · intro w'
                            go_simp
                            with_reducible rfl
                          rotate_left
                          · simp only [Act.put, List.setIfInBounds_toArray, List.set_cons_zero, List.set_cons_succ, i64_w, i32_w]
                            rfl
                          refine take_ (i := 8) (N := some 151) (v := ?_) (a' := ?_) #[true, true, true, true, true, true, true, true, true, true, true, true, true, true, false, false, false, false, false, false, false, false, false, false] rfl rfl (take_ofW HT_.out HW_.out (by kernel_rfl)) (fun _ _ _ h => h) (Or.inl ⟨by rfl, ?_⟩) hHeld ?_ ?_
                          rotate_left
                          · rintro w' ⟨s0, s1, s2⟩
                            go_simp
                            with_reducible rfl
                          rotate_left
                          · simp only [Act.put, List.setIfInBounds_toArray, List.set_cons_zero, List.set_cons_succ, i64_w, i32_w]
                            rfl
                          refine take_ (i := 14) (N := some 157) (v := ?_) (a' := ?_) #[true, true, true, true, true, true, true, true, true, true, true, true, true, true, true, false, false, false, false, false, false, false, false, false] rfl rfl (take_ofW HT_.out HW_.out (by kernel_rfl)) (fun _ _ _ h => h) (Or.inl ⟨by rfl, ?_⟩) hHeld ?_ ?_
                          rotate_left
                          · rintro w' ⟨s0, s1, s2⟩
                            go_simp
                            with_reducible rfl
                          rotate_left
                          · simp only [Act.put, List.setIfInBounds_toArray, List.set_cons_zero, List.set_cons_succ, i64_w, i32_w]
                            rfl
                          refine pure_ (i := 15) (N := some 158) (v := ?_) (a' := ?_) #[true, true, true, true, true, true, true, true, true, true, true, true, true, true, true, true, false, false, false, false, false, false, false, false] rfl rfl (any_of HT_.out (by kernel_rfl)) (fun _ _ _ h => h) (Or.inl ⟨by rfl, ?_⟩) ?_ ?_
                          rotate_left
                          · intro w'
                            go_simp
                            with_reducible rfl
                          rotate_left
                          · simp only [Act.put, List.setIfInBounds_toArray, List.set_cons_zero, List.set_cons_succ, i64_w, i32_w]
                            rfl
                          refine pure_ (i := 16) (N := some 159) (v := ?_) (a' := ?_) #[true, true, true, true, true, true, true, true, true, true, true, true, true, true, true, true, true, false, false, false, false, false, false, false] rfl rfl (any_of HT_.out (by kernel_rfl)) (fun _ _ _ h => h) (Or.inl ⟨by rfl, ?_⟩) ?_ ?_
                          rotate_left
                          · intro w'
                            go_simp
                            with_reducible rfl
                          rotate_left
                          · simp only [Act.put, List.setIfInBounds_toArray, List.set_cons_zero, List.set_cons_succ, i64_w, i32_w]
                            rfl
                          refine take_ (i := 17) (N := some 160) (v := ?_) (a' := ?_) #[true, true, true, true, true, true, true, true, true, true, true, true, true, true, true, true, true, true, false, false, false, false, false, false] rfl rfl (take_ofW HT_.out HW_.out (by kernel_rfl)) (fun _ _ _ h => h) (Or.inl ⟨by rfl, ?_⟩) hHeld ?_ ?_
                          rotate_left
                          · rintro w' ⟨s0, s1, s2⟩
                            go_simp
                            with_reducible rfl
                          rotate_left
                          · simp only [Act.put, List.setIfInBounds_toArray, List.set_cons_zero, List.set_cons_succ, i64_w, i32_w]
                            rfl
                          refine one_ (i := 18) (N := some 161) #[true, true, true, true, true, true, true, true, true, true, true, true, true, true, true, true, true, true, true, false, false, false, false, false] rfl rfl (one_of HT_.out (by kernel_rfl)) (by decide) (fun K hK => ?_)
                          refine goes_ Try.func11 (by kernel_rfl) rfl #[.agg #[.int .i64 x279000_2, .slice Ao144 x279001_2.length co144]] (by rfl) rfl rfl (by (try simp only [List.map_toArray, List.map_cons, List.map_nil]); first | done | rfl | (simp only [List.length_drop, List.length_take]; rfl)) ?_
                          with_reducible refine (robot_Next.calls x279000_2 _ _ x279001_2 t286 _ ?side1 ?side2 A142.out).mono ?_
                          (case side1 => repeat (first | exact (Kd.V_reads' HO_279001.out).2.2 | (with_reducible refine Kd.C_alloc ?_ _) | (with_reducible refine Kd.C_drewN ?_ _) | (with_reducible refine Kd.C_drew ?_)))
                          (case side2 => exact (Kd.V_reads' HO_279001.out).2.1)
                          rintro e w145 ⟨rfl, hb⟩
                          have HS2_ := (hb.cell (World.block_lt_of_cell? _ _ (hHeld.2.2))).trans (hHeld.2.2)
                          refine ⟨_, rfl, ?_⟩
                          have n0_ := Aside0.mk (Kd.R_below (by (with_reducible repeat (first | apply Kd.R_alloc | apply Kd.R_drewN | apply Kd.R_drew)); exact HO_8.out) hb)
                          have n1_ := Aside0.mk (Kd.V_below (by (with_reducible repeat (first | apply Kd.V_alloc | apply Kd.V_drewN | apply Kd.V_drew)); exact HO_279001.out) hb)
                          have n2_ := Aside0.mk (blk_below (g := gb277) (o := .cells #[.int .i64 a0_0, .int .i64 a0_1, .int .i64 a0_2, .slice A0_3 l0_3.length c0_3, .slice A0_4 l0_4.length c0_4] 24 (0, 0)) (by (with_reducible repeat (first | refine blk_drewN ?_ _ | refine blk_drew ?_ | refine blk_alloc ?_ _)); exact BK277.out) hb)
                          have n3_ := Aside0.mk (blk_below (g := gb278) (o := .cells #[.int .i64 x279000_2, .slice Ao144 x279001_2.length co144] 26 (0, 0)) (by (with_reducible repeat (first | refine blk_drewN ?_ _ | refine blk_drew ?_ | refine blk_alloc ?_ _)); exact BK278.out) hb)
                          have n4_ := Aside0.mk (below_step (by repeat (first | (with_reducible first | exact HB.out | apply below_alloc | apply pw_below_drewN | apply below_drew1 | refine below_set ?_ GE277.out | refine below_set ?_ GE278.out) | exact HB.out)) hb)
                          clear HO_8
                          clear HO_279001
                          clear BK277
                          clear BK278
                          clear HB
                          have HO_8 := n0_
                          have HO_279001 := n1_
                          have BK277 := n2_
                          have BK278 := n3_
                          have HB := n4_
                          clear n0_ n1_ n2_ n3_ n4_
                          (try clear hb)
                          (try clear hb2)
                          (try clear hk)
                          (try clear hi)
                          refine hK.out _ _ ⟨(blk_cell BK278.out 0).trans rfl, (blk_cell BK278.out 1).trans rfl, HS2_⟩ (fun hHeld => ?_)
                          clear hK K
                          refine norm_ (a' := ?_) ?_ ?_
                          rotate_left
                          · show Act.put _ (some 161) _ = _
                            simp only [Act.put, List.setIfInBounds_toArray, List.set_cons_zero, List.set_cons_succ, i64_w, i32_w]
                            rfl
                          refine pure_ (i := 19) (N := some 162) (v := ?_) (a' := ?_) #[true, true, true, true, true, true, true, true, true, true, true, true, true, true, true, true, true, true, true, true, false, false, false, false] rfl rfl (any_of HT_.out (by kernel_rfl)) (fun _ _ _ h => h) (Or.inl ⟨by rfl, ?_⟩) ?_ ?_
                          rotate_left
                          · intro w'
                            go_simp
                            with_reducible rfl
                          rotate_left
                          · simp only [Act.put, List.setIfInBounds_toArray, List.set_cons_zero, List.set_cons_succ, i64_w, i32_w]
                            rfl
                          refine pure_ (i := 20) (N := some 163) (v := ?_) (a' := ?_) #[true, true, true, true, true, true, true, true, true, true, true, true, true, true, true, true, true, true, true, true, true, false, false, false] rfl rfl (any_of HT_.out (by kernel_rfl)) (fun _ _ _ h => h) (Or.inl ⟨by rfl, ?_⟩) ?_ ?_
                          rotate_left
                          · intro w'
                            go_simp
                            with_reducible rfl
                          rotate_left
                          · simp only [Act.put, List.setIfInBounds_toArray, List.set_cons_zero, List.set_cons_succ, i64_w, i32_w]
                            rfl
                          refine pure_ (i := 21) (N := some 164) (v := ?_) (a' := ?_) #[true, true, true, true, true, true, true, true, true, true, true, true, true, true, true, true, true, true, true, true, true, true, false, false] rfl rfl (any_of HT_.out (by kernel_rfl)) (fun _ _ _ h => h) (Or.inl ⟨by rfl, ?_⟩) ?_ ?_
                          rotate_left
                          · intro w'
                            go_simp
                            with_reducible rfl
                          rotate_left
                          · simp only [Act.put, List.setIfInBounds_toArray, List.set_cons_zero, List.set_cons_succ, i64_w, i32_w]
                            rfl
                          refine pure_ (i := 22) (N := some 165) (v := ?_) (a' := ?_) #[true, true, true, true, true, true, true, true, true, true, true, true, true, true, true, true, true, true, true, true, true, true, true, false] rfl rfl (any_of HT_.out (by kernel_rfl)) (fun _ _ _ h => h) (Or.inl ⟨by rfl, ?_⟩) ?_ ?_
                          rotate_left
                          · intro w'
                            go_simp
                            with_reducible rfl
                          rotate_left
                          · simp only [Act.put, List.setIfInBounds_toArray, List.set_cons_zero, List.set_cons_succ, i64_w, i32_w]
                            rfl
                          refine pure_ (i := 23) (N := some 6) (v := ?_) (a' := ?_) #[true, true, true, true, true, true, true, true, true, true, true, true, true, true, true, true, true, true, true, true, true, true, true, true] rfl rfl (any_of HT_.out (by kernel_rfl)) (fun _ _ _ h => h) (Or.inl ⟨by rfl, ?_⟩) ?_ ?_
                          rotate_left
                          · intro w'
                            go_simp
                            with_reducible rfl
                          rotate_left
                          · simp only [Act.put, List.setIfInBounds_toArray, List.set_cons_zero, List.set_cons_succ, i64_w, i32_w]
                            rfl
                          refine done_ (done_of HT_.out (by kernel_rfl)) ?_
                          try go_wp2
                          go_ret
                          exact ⟨by first | rfl | (simp [errW_none, errW_some] <;> rfl) | (simp only [← hji138]; first | rfl | (simp [errW_none, errW_some] <;> rfl)) | (simp [*, errW_none, errW_some] <;> rfl), by repeat (first | (with_reducible first | exact HB.out | apply below_alloc | apply pw_below_drewN | apply below_drew1 | refine below_set ?_ GE277.out | refine below_set ?_ GE278.out) | exact HB.out)⟩
                        · rw [if_neg c141] at H
                          exact absurd H (by simp)
                      · rw [if_neg c140] at H
                        exact absurd H (by simp)
                    · rw [if_neg c139] at H
                      exact absurd H (by simp)
                · replace c134 := Bool.eq_false_iff.mpr c134
                  subst c134
                  have H1 : (none) = some r := by rw [if_neg (show ¬ (false = true) by decide)] at H; exact H
                  clear H
                  have H := H1
                  clear H1
                  exact absurd H (by simp)

end Go.Proofs.Ytigdjhnpngjhjaa.PRobS

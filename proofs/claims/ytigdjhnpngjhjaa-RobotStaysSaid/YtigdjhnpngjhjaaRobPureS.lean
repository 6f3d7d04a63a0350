import Derived.Test.YtigdjhnpngjhjaaRobPureS1
import Derived.Test.YtigdjhnpngjhjaaPRobSx7
import Derived.Test.YtigdjhnpngjhjaaPRobSx10
namespace Go.Proofs.Ytigdjhnpngjhjaa.RobPureS
open Go.RowKit Go.Proofs.Ytigdjhnpngjhjaa.PRobS Go.Proofs.YtigdjhnpngjhjaaW.PrintWords Go.Proofs.YtigdjhnpngjhjaaW.PrintLast Go.Proofs.YtigdjhnpngjhjaaW.PrintMore
set_option linter.unusedVariables false
set_option linter.unusedSimpArgs false

theorem small_some {k : Nat} (hk : 30 ≤ k) : taquinlaw22_small.f k = some true :=
  at_rounds (g := fun k => taquinlaw22_small.f k) (fun k => taquinlaw22_small.mono k) hk (by decide +kernel)

section
variable {W H D : Int} {kd ot : List Int}
theorem next_nil (c : Int) : robot_Next.f c ([] : List Int) = some 0 := by unfold robot_Next.f; rw [if_pos (by simp)]
theorem next_cons (c a : Int) (q : List Int) : robot_Next.f c (a :: q) = some a := by
  unfold robot_Next.f; rw [if_neg (by simp only [List.length_cons]; omega), if_pos (by simp only [List.length_cons]; omega)]; rfl
theorem MR.tail {F : FR W H D kd ot} {c a : Int} {q : List Int} (m : MR F c (a :: q)) (hm : ¬ mv a = true) : MR F c q := by
  refine ⟨m.c0, m.c1, m.kw, ?_, ?_, ?_⟩
  · have := m.q4; simp only [List.length_cons] at this; omega
  · have := m.kn; simp only [List.any_cons, Bool.or_eq_false_iff] at this; exact this.2
  · obtain ⟨l, hl⟩ := m.st; simp only [steps, if_neg hm] at hl; exact ⟨l, hl⟩
theorem MR.go {F : FR W H D kd ot} {c a : Int} {q : List Int} (m : MR F c (a :: q)) (hm : mv a = true) : ok F c (a - 1) = true ∧ MR F (nx F c (a - 1)) q := by
  obtain ⟨l, hl⟩ := m.st
  simp only [steps, if_pos hm] at hl
  by_cases o : ok F c (a - 1) = true
  · rw [if_pos o] at hl
    obtain ⟨l', hl', _⟩ := Option.map_eq_some_iff.1 hl
    have hn := nx_ok F c (a - 1) o
    refine ⟨o, hn.1, hn.2.1, hn.2.2, ?_, ?_, l', hl'⟩
    · have := m.q4; simp only [List.length_cons] at this; omega
    · have := m.kn; simp only [List.any_cons, Bool.or_eq_false_iff] at this; exact this.2
  · rw [if_neg o] at hl; cases hl
theorem did_not (F : FR W H D kd ot) (c : Int) (q : List Int) (act : Int) (h : q.length ≤ 1000) {k : Nat} (hk : 2 ≤ k) : robot_Did.f k W H D kd ot c q act false = some (c, q) := by
  obtain ⟨k, rfl⟩ : ∃ m, k = m + 1 := ⟨k - 1, by omega⟩
  unfold robot_Did.f
  rw [clone_is c q h, Option.bind_some, if_neg (by simp)]
  simp only [robot_Did.j0, if_true]
theorem did_nil (F : FR W H D kd ot) (c : Int) (act : Int) {k : Nat} (hk : 2 ≤ k) : robot_Did.f k W H D kd ot c [] act true = some (c, []) := by
  obtain ⟨k, rfl⟩ : ∃ m, k = m + 1 := ⟨k - 1, by omega⟩
  unfold robot_Did.f
  rw [clone_is c [] (by simp), Option.bind_some, if_pos rfl, if_pos (by simp)]
  simp only [robot_Did.j0, if_true]
theorem did_cons (F : FR W H D kd ot) (c a : Int) (q : List Int) (h : q.length ≤ 900) (ha : -1000 ≤ a ∧ a ≤ 1000) {k : Nat} (hk : 3 ≤ k) :
    robot_Did.f k W H D kd ot c (a :: q) a true = some (if mv a = true then nx F c (a - 1) else c, q) := by
  obtain ⟨k, rfl⟩ : ∃ m, k = m + 1 := ⟨k - 1, by omega⟩
  unfold robot_Did.f
  have e : (rd (a :: q) 0 != a) = false := by simp [rd]
  rw [clone_is c (a :: q) (by simp only [List.length_cons]; omega), Option.bind_some, if_pos rfl, if_neg (by simp only [List.length_cons]; omega), if_pos (by simp only [List.length_cons]; omega), e]
  simp only [robot_Did.j0, Bool.false_eq_true, if_false]
  rw [if_pos (by simp only [List.length_cons]; omega), Option.bind_some, move_is ha.1 ha.2, Option.bind_some]
  by_cases m : mv a = true
  · rw [if_pos m, if_pos m]; dsimp only; rw [nx_is F _ _ (by omega), Option.bind_some]; rfl
  · rw [if_neg m, if_neg m]; rfl

theorem steps_len (F : FR W H D kd ot) : ∀ (q : List Int) (c : Int) (l : List Int), steps F c q = some l → l.length ≤ q.length := by
  intro q
  induction q with
  | nil => intro c l h; simp [steps] at h; subst h; simp
  | cons a q ih =>
    intro c l h
    simp only [steps] at h
    by_cases m : mv a = true
    · rw [if_pos m] at h
      by_cases o : ok F c (a - 1) = true
      · rw [if_pos o] at h
        obtain ⟨l', hl, rfl⟩ := Option.map_eq_some_iff.1 h
        have := ih _ _ hl
        simp; omega
      · rw [if_neg o] at h; cases h
    · rw [if_neg m] at h
      have := ih _ _ h
      simp; omega

theorem rd_mid (P : List Int) (c : Int) (l : List Int) : rd (P ++ c :: l) (P.length : Int) = c := by simp [rd]
theorem rd_mid1 (P : List Int) (c d : Int) (l : List Int) : rd (P ++ c :: d :: l) ((P.length : Int) + 1) = d := by
  have e : ((P.length : Int) + 1).toNat = (P ++ [c]).length := by simp
  unfold rd
  rw [e, show P ++ c :: d :: l = (P ++ [c]) ++ d :: l from by simp]
  simp

theorem stays_l0 (F : FR W H D kd ot) (can : List Bool) (hcan : can.length ≤ 60) (hkd : kd.length ≤ 40) : ∀ (n k : Nat) (i : Nat) (d c : Int) (q P l : List Int),
    can.length - i = n → i ≤ can.length → 3 * n + 100 ≤ k → MR F c q → steps F c q = some l → P.length + l.length ≤ 500 →
    taquinlaw22_RobotStays.l0 k can true (P ++ c :: l) (P.length : Int) d (i : Int) W H D kd ot c q = some true := by
  intro n
  induction n with
  | zero =>
    intro k i d c q P l hn hi hk m hs hl
    obtain ⟨k, rfl⟩ : ∃ m, k = m + 1 := ⟨k - 1, by omega⟩
    simp only [taquinlaw22_RobotStays.l0, if_true]
    rw [if_neg (by omega)]
    cases q with
    | cons a q => rw [if_pos (by simp only [List.length_cons]; omega)]
    | nil =>
      obtain rfl : l = [] := by simpa [steps] using hs.symm
      have hlen : ((P ++ [c]).length : Int) = (P.length : Int) + 1 := by simp
      rw [if_neg (by simp), hlen, w64 (x := (P.length : Int) + 1 - 1) (by omega) (by omega), show (P.length : Int) + 1 - 1 = P.length from by omega, if_pos (by omega), if_pos (by omega), rd_mid, if_pos rfl, next_nil, Option.bind_some]
      rfl
  | succ n ih =>
    intro k i d c q P l hn hi hk m hs hl
    obtain ⟨k, rfl⟩ : ∃ m, k = m + 3 := ⟨k - 3, by omega⟩
    have h4 := m.q4
    have hlen : ((P ++ c :: l).length : Int) = (P.length : Int) + 1 + (l.length : Int) := by simp; omega
    have w1 : ∀ _ : Unit, wrap64 ((i : Int) + 1) = ((i + 1 : Nat) : Int) := fun _ => by rw [w64 (by omega) (by omega)]; omega
    have w2 : ∀ _ : Unit, wrap64 ((P.length : Int) + 1) = (P.length : Int) + 1 := fun _ => w64 (by omega) (by omega)
    -- the third part
    have stay : ∀ d' : Int, taquinlaw22_RobotStays.l0 k can true (P ++ c :: l) (P.length : Int) d' ((i + 1 : Nat) : Int) W H D kd ot c q = some true :=
      fun d' => ih k (i + 1) d' c q P l (by omega) (by omega) (by omega) m hs hl
    have j3f : ∀ act : Int, taquinlaw22_RobotStays.j3 (k + 1) can true (P ++ c :: l) (P.length : Int) d (i : Int) act (q.length : Int) false W H D kd ot c q c q = some true := by
      intro act
      simp only [taquinlaw22_RobotStays.j3, Bool.false_eq_true, if_false, if_true]
      rw [if_neg (by omega), if_pos (by omega), if_pos (by omega), rd_mid, if_pos rfl, w1 ()]
      exact stay d
    have r0 : robot_Right.f (k + 1) W H D kd ot c q = some true := right_t F m (by omega)
    have key : ∀ act : Int, robot_Next.f c q = some act → taquinlaw22_RobotStays.j2 (k + 2) can true (P ++ c :: l) (P.length : Int) d (i : Int) act false W H D kd ot c q = some true := by
      intro act ha
      simp only [taquinlaw22_RobotStays.j2, Bool.false_eq_true, if_false]
      rw [if_pos (by omega), if_pos (by omega)]
      cases hb : rdOf false can (i : Int) with
      | false =>
        rw [did_not F c q act (by omega) (by omega), Option.bind_some]
        dsimp only
        rw [r0, Option.bind_some, if_pos rfl, if_neg (by simp)]
        exact j3f act
      | true =>
        cases q with
        | nil =>
          rw [did_nil F c act (by omega), Option.bind_some]
          dsimp only
          rw [r0, Option.bind_some, if_pos rfl, if_pos rfl]
          exact j3f act
        | cons a q =>
          rw [next_cons] at ha
          obtain rfl := Option.some.inj ha
          have hsm := (small_cons (small_of m.kn)).1
          have hq1 : ((a :: q).length : Int) = (q.length : Int) + 1 := by simp
          simp only [List.length_cons] at h4
          rw [did_cons F c a q (by omega) hsm (by omega), Option.bind_some]
          dsimp only
          have hpos : decide (((a :: q).length : Int) > 0) = true := by rw [hq1]; simp
          rw [hpos, hq1]
          have w3 : ∀ _ : Unit, wrap64 ((q.length : Int) + 1 - 1) = (q.length : Int) := fun _ => by rw [w64 (by omega) (by omega)]; omega
          by_cases hm : mv a = true
          · rw [if_pos hm]
            obtain ⟨o, m'⟩ := m.go hm
            have hs' := hs
            simp only [steps, if_pos hm, if_pos o] at hs'
            obtain ⟨l', hl', rfl⟩ := Option.map_eq_some_iff.1 hs'
            rw [right_t F m' (by omega), Option.bind_some, if_pos rfl, if_pos rfl]
            unfold mv at hm
            simp only [Bool.and_eq_true, decide_eq_true_eq] at hm
            simp only [List.length_cons] at hl hlen
            simp only [taquinlaw22_RobotStays.j3, if_true]
            rw [if_pos hm.1, if_pos hm.2, w64 (x := a - 1) (by omega) (by omega), nx_is F _ _ (by omega), Option.bind_some]
            dsimp only
            rw [if_pos o, if_pos rfl, w3 (), if_pos rfl, w2 (), hlen, if_neg (by omega), if_pos (by omega), if_pos (by omega), rd_mid1, if_pos rfl, w1 ()]
            have := ih k (i + 1) (wrap64 (d + 1)) (nx F c (a - 1)) q (P ++ [c]) l' (by omega) (by omega) (by omega) m' hl' (by simp only [List.length_append, List.length_cons, List.length_nil]; omega)
            rw [show ((P ++ [c]).length : Int) = (P.length : Int) + 1 from by simp, show (P ++ [c]) ++ nx F c (a - 1) :: l' = P ++ c :: nx F c (a - 1) :: l' from by simp] at this
            exact this
          · rw [if_neg hm]
            have m' := m.tail hm
            have hs' := hs
            simp only [steps, if_neg hm] at hs'
            have again := ih k (i + 1) (wrap64 (d + 1)) c q P l (by omega) (by omega) (by omega) m' hs' hl
            rw [right_t F m' (by omega), Option.bind_some, if_pos rfl, if_pos rfl]
            simp only [taquinlaw22_RobotStays.j3, if_true]
            have tl : (if (q.length : Int) = wrap64 ((q.length : Int) + 1 - 1) then (if (P.length : Int) ≥ ((P ++ c :: l).length : Int) then (none) else (if 0 ≤ (P.length : Int) then (if (P.length : Int) < ((P ++ c :: l).length : Int) then (if c = (rd (P ++ c :: l) (P.length : Int)) then (taquinlaw22_RobotStays.l0 k can true (P ++ c :: l) (P.length : Int) (wrap64 (d + 1)) (wrap64 ((i : Int) + 1)) W H D kd ot c q) else (none)) else (none)) else (none))) else (none)) = some true := by
              rw [w3 (), if_pos rfl, if_neg (by omega), if_pos (by omega), if_pos (by omega), rd_mid, if_pos rfl, w1 ()]
              exact again
            by_cases g1 : a ≥ 1
            · rw [if_pos g1, if_neg (by intro g2; exact hm (by unfold mv; simp; omega))]
              exact tl
            · rw [if_neg g1]
              exact tl
    simp only [taquinlaw22_RobotStays.l0]
    rw [if_pos (by omega)]
    cases q with
    | nil =>
      rw [next_nil, Option.bind_some]
      have h00 : ((0 : Int) != 0) = false := by decide
      rw [h00]
      have := key 0 (next_nil c)
      split
      · split
        · exact this
        · exact this
      · exact this
    | cons a q =>
      rw [next_cons, Option.bind_some]
      have := key a (next_cons c a q)
      rw [if_neg (show ¬ (((a :: q).length : Int) = 0) from by simp only [List.length_cons]; omega), ite_self]
      exact this
end
/-- The law RobotStays, of numbers and lists alone. -/
theorem stays (W H D : Int) (kd ot : List Int) (c : Int) (q : List Int) (can : List Bool) : ∃ k, taquinlaw22_RobotStays.f k W H D kd ot c q can = some true := by
  have hj : ∀ k, 1 ≤ k → taquinlaw22_RobotStays.j0 k can true true W H D kd ot c q = some true := by
    intro k hk
    obtain ⟨k, rfl⟩ : ∃ m, k = m + 1 := ⟨k - 1, by omega⟩
    simp [taquinlaw22_RobotStays.j0]
  refine ⟨1000, ?_⟩
  unfold taquinlaw22_RobotStays.f
  rw [small_some (by omega), Option.bind_some]
  obtain ⟨b, hb⟩ := few_some W H D kd ot c q
  have hb' := hb 1000 (by omega)
  rw [hb', Option.bind_some]
  cases b with
  | false => simp only [Bool.false_eq_true, if_false]; exact hj _ (by omega)
  | true =>
    obtain ⟨F, hkd, hq⟩ := few_is hb' rfl
    simp only [if_true]
    by_cases h : (can.length : Int) > 60
    · rw [if_pos h]; exact hj _ (by omega)
    rw [if_neg h]
    obtain ⟨r, hr, hh⟩ := right_is F c q (k := 1000) (by omega)
    rw [hr, Option.bind_some]
    cases r with
    | false => exact hj _ (by omega)
    | true =>
      have m := hh.1 rfl
      obtain ⟨l, hl⟩ := m.st
      have hll := steps_len F _ _ _ hl
      have h4 := m.q4
      show taquinlaw22_RobotStays.j0 (999 + 1) can true false W H D kd ot c q = some true
      simp only [taquinlaw22_RobotStays.j0, Bool.false_eq_true, if_false]
      rw [Way_is F m hl (by omega), Option.bind_some, if_neg (by simp only [List.length_cons]; omega)]
      have := stays_l0 F can (by omega) hkd can.length 999 0 0 c q [] l (by omega) (by omega) (by omega) m hl (by simp only [List.length_nil]; omega)
      exact this
end Go.Proofs.Ytigdjhnpngjhjaa.RobPureS

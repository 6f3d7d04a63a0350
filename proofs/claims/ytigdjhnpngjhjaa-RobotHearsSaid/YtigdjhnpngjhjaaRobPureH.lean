import Derived.Test.YtigdjhnpngjhjaaRobPure1
import Derived.Test.YtigdjhnpngjhjaaPRobx7
import Derived.Test.YtigdjhnpngjhjaaPRobx12
namespace Go.Proofs.Ytigdjhnpngjhjaa.RobPure
open Go.RowKit Go.Proofs.Ytigdjhnpngjhjaa.PRob Go.Proofs.YtigdjhnpngjhjaaW.PrintWords Go.Proofs.YtigdjhnpngjhjaaW.PrintLast Go.Proofs.YtigdjhnpngjhjaaW.PrintMore
set_option linter.unusedVariables false
set_option linter.unusedSimpArgs false

theorem small_some {k : Nat} (hk : 30 ≤ k) : taquinlaw22_small.f k = some true :=
  at_rounds (g := fun k => taquinlaw22_small.f k) (fun k => taquinlaw22_small.mono k) hk (by decide +kernel)

section
variable {W H D : Int} {kd ot : List Int}
theorem steps_app (F : FR W H D kd ot) : ∀ (q1 q2 : List Int) (c : Int) (l : List Int), steps F c (q1 ++ q2) = some l → ∃ l1 l2, steps F c q1 = some l1 ∧ l = l1 ++ l2 := by
  intro q1
  induction q1 with
  | nil => intro q2 c l h; exact ⟨[], l, rfl, rfl⟩
  | cons a q1 ih =>
    intro q2 c l h
    simp only [List.cons_append, steps] at h ⊢
    by_cases m : mv a = true
    · rw [if_pos m] at h ⊢
      by_cases o : ok F c (a - 1) = true
      · rw [if_pos o] at h ⊢
        obtain ⟨l', hl, rfl⟩ := Option.map_eq_some_iff.1 h
        obtain ⟨l1, l2, h1, rfl⟩ := ih q2 _ l' hl
        exact ⟨_ :: l1, l2, by rw [h1]; rfl, rfl⟩
      · rw [if_neg o] at h; cases h
    · rw [if_neg m] at h ⊢
      exact ih q2 c l h
theorem MR.take {F : FR W H D kd ot} {c : Int} {q : List Int} (m : MR F c q) (n : Nat) : MR F c (q.take n) := by
  refine ⟨m.c0, m.c1, m.kw, ?_, ?_, ?_⟩
  · have := m.q4; rw [List.length_take]; omega
  · rw [List.any_eq_false]
    intro x hx
    have := m.kn
    rw [List.any_eq_false] at this
    exact this x (List.mem_of_mem_take hx)
  · obtain ⟨l, hl⟩ := m.st
    rw [← List.take_append_drop n q] at hl
    obtain ⟨l1, _, h1, _⟩ := steps_app F _ _ _ _ hl
    exact ⟨l1, h1⟩
theorem hear_ok (F : FR W H D kd ot) {c : Int} {q acts : List Int} (m : MR F c acts) {k : Nat} (hk : kd.length + 10 ≤ k) : robot_Hear.f k W H D kd ot c q acts = some (c, acts, 0) := by
  have h4 := m.q4
  unfold robot_Hear.f slices_Clone_int.f robot_known.f
  rw [if_pos (by omega)]
  simp only [Option.bind_some]
  rw [if_neg (by omega), m.kn, if_pos (by simp), right_t F m hk]
  simp
theorem hear_any (F : FR W H D kd ot) (c : Int) (q acts : List Int) (hq : q.length ≤ 1000) (ha : acts.length ≤ 1000) {k : Nat} (hk : kd.length + 10 ≤ k) :
    (MR F c acts ∧ robot_Hear.f k W H D kd ot c q acts = some (c, acts, 0)) ∨ ∃ e, e ≠ 0 ∧ robot_Hear.f k W H D kd ot c q acts = some (c, q, e) := by
  unfold robot_Hear.f slices_Clone_int.f robot_known.f
  rw [if_pos (by omega)]
  simp only [Option.bind_some]
  by_cases h1 : (acts.length : Int) > 4
  · rw [if_pos h1, clone_is c q hq]; exact .inr ⟨6, by decide, rfl⟩
  rw [if_neg h1]
  cases h2 : acts.any robot_known.bad with
  | true => rw [if_neg (by simp), clone_is c q hq]; exact .inr ⟨1, by decide, rfl⟩
  | false =>
    rw [if_pos (by simp)]
    obtain ⟨b, hb, hh⟩ := right_is F c acts hk
    rw [hb]
    cases b with
    | true => exact .inl ⟨hh.1 rfl, by simp⟩
    | false =>
      rw [clone_is c q hq]
      exact .inr ⟨14, by decide, by simp⟩

theorem hears_j2 (F : FR W H D kd ot) {c : Int} {q l l1 l2 : List Int} (m : MR F c q) (h1 : steps F c q = some l1) (hl : l = l1 ++ l2) (hll : l.length ≤ 100) {k : Nat} (hk : 200 ≤ k) :
    taquinlaw22_RobotHears.j2 k true (c :: l) false W H D kd ot c q = some true := by
  obtain ⟨k, rfl⟩ : ∃ m, k = m + 1 := ⟨k - 1, by omega⟩
  have hlen : l1.length ≤ l.length := by rw [hl]; simp
  simp only [taquinlaw22_RobotHears.j2, Bool.false_eq_true, if_false]
  rw [Way_is F m h1 (by omega)]
  simp only [Option.bind_some, if_true]
  have e : mn (((c :: l1).length : Int)) (((c :: l).length : Int)) = ((l1.length + 1 : Nat) : Int) := by
    unfold mn; simp only [List.length_cons]; rw [if_neg (by omega)]
  rw [e, if_pos (by simp; omega), if_pos (by omega), if_pos (by simp; omega), Int.toNat_natCast]
  have e2 : (c :: l).take (l1.length + 1) = c :: l1 := by rw [hl]; simp
  rw [e2, same_t _ (by simp; omega) (by simp; omega)]
  rfl
theorem hears_j1 (F : FR W H D kd ot) {c : Int} {q acts l : List Int} (m : MR F c acts) (hl : steps F c acts = some l) (hll : l.length ≤ 100) (hkd : kd.length ≤ 40) {k : Nat} (hk : 300 ≤ k) :
    taquinlaw22_RobotHears.j1 k acts true (c :: l) false W H D kd ot c q c acts = some true := by
  obtain ⟨k, rfl⟩ : ∃ m, k = m + 1 := ⟨k - 1, by omega⟩
  have h4 := m.q4
  have m0 : MR F c ([] : List Int) := by simpa using m.take 0
  have mh := m.take (acts.length / 2)
  have hs := hl
  rw [← List.take_append_drop (acts.length / 2) acts] at hs
  obtain ⟨l1, l2, h1, h2⟩ := steps_app F _ _ _ _ hs
  have hd : wrap64 ((acts.length : Int) / 2) = ((acts.length / 2 : Nat) : Int) := by rw [w64 (by omega) (by omega)]; omega
  have p1 : (0 : Int) ≤ ((acts.length / 2 : Nat) : Int) := by omega
  have p2 : ((acts.length / 2 : Nat) : Int) ≤ (acts.length : Int) := by omega
  have hz : 0 < (((c :: l).length : Nat) : Int) := by simp only [List.length_cons]; omega
  have e0 := hear_ok F (q := acts) m0 (k := k) (by omega)
  have e1 := hear_ok F (q := acts) mh (k := k) (by omega)
  have hn : robot_Next.f c ([] : List Int) = some 0 := by unfold robot_Next.f; rw [if_pos (by simp)]
  have h00 : ((0 : Int) != 0) = false := by decide
  have hlast := hears_j2 F mh h1 h2 hll (k := k) (by omega)
  simp only [taquinlaw22_RobotHears.j1, Bool.false_eq_true, if_false]
  rw [if_pos hz, if_pos (show rd (c :: l) 0 = c from rfl), hd, e0]
  rw [← Int.toNat_natCast (acts.length / 2)] at e1 hlast
  generalize ((acts.length / 2 : Nat) : Int) = g at p1 p2 e1 hlast ⊢
  rw [Option.bind_some, if_pos p1, if_pos p2, e1, Option.bind_some, if_pos rfl, if_pos rfl]
  dsimp only
  rw [if_pos (by simp), hn, Option.bind_some, h00]
  exact hlast

theorem steps_len (F : FR W H D kd ot) : ∀ (q : List Int) (c : Int) (l : List Int), steps F c q = some l → l.length ≤ q.length := by
  intro q
  induction q with
  | nil => intro c l h; simp [steps] at h; subst h; simp
  | cons a q ih =>
    intro c l h
    simp only [steps] at h
    by_cases m : mv a = true
    · rw [if_pos m] at h
      by_cases o : ok F c (a - 1) = true
      · rw [if_pos o] at h
        obtain ⟨l', hl, rfl⟩ := Option.map_eq_some_iff.1 h
        have := ih _ _ hl
        simp; omega
      · rw [if_neg o] at h; cases h
    · rw [if_neg m] at h
      have := ih _ _ h
      simp; omega
theorem hears_j0 (F : FR W H D kd ot) {c : Int} {q acts : List Int} (hq : q.length ≤ 10) (ha : acts.length ≤ 10) (hkd : kd.length ≤ 40) {k : Nat} (hk : 400 ≤ k) :
    taquinlaw22_RobotHears.j0 k acts true false W H D kd ot c q = some true := by
  obtain ⟨k, rfl⟩ : ∃ m, k = m + 1 := ⟨k - 1, by omega⟩
  simp only [taquinlaw22_RobotHears.j0, Bool.false_eq_true, if_false]
  rcases hear_any F c q acts (by omega) (by omega) (k := k) (by omega) with ⟨m, h⟩ | ⟨e, he, h⟩
  · obtain ⟨l, hl⟩ := m.st
    have hll := steps_len F _ _ _ hl
    rw [h]
    simp only [Option.bind_some, if_true]
    rw [Way_is F m hl (by omega)]
    simp only [Option.bind_some]
    rw [same_t acts (by omega) (by omega)]
    simp only [Option.bind_some, if_true]
    rw [if_neg (by simp; omega), right_t F m (by omega)]
    simp only [Option.bind_some, Bool.not_true]
    exact hears_j1 F m hl (by omega) hkd (by omega)
  · rw [h]
    simp only [Option.bind_some, if_true]
    rw [if_neg he, ref22_t c q (by omega) (by omega)]
    rfl
end
/-- The law RobotHears, of numbers and lists alone. -/
theorem hears (W H D : Int) (kd ot : List Int) (c : Int) (q acts : List Int) : ∃ k, taquinlaw22_RobotHears.f k W H D kd ot c q acts = some true := by
  have hj : ∀ k, 1 ≤ k → taquinlaw22_RobotHears.j0 k acts true true W H D kd ot c q = some true := by
    intro k hk
    obtain ⟨k, rfl⟩ : ∃ m, k = m + 1 := ⟨k - 1, by omega⟩
    simp [taquinlaw22_RobotHears.j0]
  refine ⟨1000, ?_⟩
  unfold taquinlaw22_RobotHears.f
  rw [small_some (by omega)]
  simp only [Option.bind_some]
  obtain ⟨b, hb⟩ := few_some W H D kd ot c q
  have hb' := hb 1000 (by omega)
  rw [hb']
  simp only [Option.bind_some]
  cases b with
  | false => simp only [Bool.false_eq_true, if_false]; exact hj _ (by omega)
  | true =>
    obtain ⟨F, hkd, hq⟩ := few_is hb' rfl
    simp only [if_true]
    by_cases h : (acts.length : Int) > 10
    · rw [if_pos h]; exact hj _ (by omega)
    rw [if_neg h]
    obtain ⟨r, hr, _⟩ := right_is F c q (k := 1000) (by omega)
    rw [hr]
    simp only [Option.bind_some]
    cases r with
    | false => exact hj _ (by omega)
    | true => exact hears_j0 F hq (by omega) hkd (by omega)
end Go.Proofs.Ytigdjhnpngjhjaa.RobPure

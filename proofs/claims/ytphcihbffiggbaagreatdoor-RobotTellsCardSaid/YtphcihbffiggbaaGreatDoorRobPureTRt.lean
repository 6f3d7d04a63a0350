/- RobotTells as a law over numbers and lists: the reference's floor and robot are the program's. No program in sight. -/
import Derived.Test.YtphcihbffiggbaaGreatDoorRobPureRRt
import Derived.Test.YtphcihbffiggbaaGreatDoorPRtx9
import Derived.Test.YtphcihbffiggbaaGreatDoorPRtx10
import Derived.Test.YtphcihbffiggbaaGreatDoorPRtx2
import Derived.Test.YtphcihbffiggbaaGreatDoorPRtx11
import Derived.Test.YtphcihbffiggbaaGreatDoorPRtx7
import Derived.Test.YtphcihbffiggbaaGreatDoorPRtx1
import Derived.Test.YtphcihbffiggbaaGreatDoorPRtx4
import Derived.Test.YtphcihbffiggbaaGreatDoorPRtx14
import Derived.Test.YtphcihbffiggbaaGreatDoorPRtx16
import Derived.Test.YtphcihbffiggbaaGreatDoorPRtx15
namespace Go.Proofs.YtphcihbffiggbaaGreatDoor.RobPureRt
open Go.RowKit Go.Proofs.YtphcihbffiggbaaGreatDoor.PRt Go.Proofs.YtphcihbffiggbaaGreatDoorW.PrintWords Go.Proofs.YtphcihbffiggbaaGreatDoorW.PrintLast Go.Proofs.YtphcihbffiggbaaGreatDoorW.PrintMore Go.Proofs.YtphcihbffiggbaaGreatDoor.WireB
set_option linter.unusedVariables false
set_option linter.unusedSimpArgs false
section
variable {W H D : Int} {kd ot : List Int}
theorem ref_is (c : Int) : taquinref07_Is.f W H D kd ot c = floor_is.f W H D kd ot c := rfl
theorem ref_cell (x y z : Int) : taquinref07_Cell.f W H D kd ot x y z = floor_Cell.f W H D kd ot x y z := by
  have hm : mn (mn x y) z < 0 ↔ (x < 0 ∨ y < 0 ∨ z < 0) := by unfold mn; split <;> split <;> omega
  unfold taquinref07_Cell.f floor_Cell.f
  by_cases h : x < 0 ∨ y < 0 ∨ z < 0
  · rw [if_pos (hm.2 h)]
    repeat' split
    all_goals first | rfl | omega
  · rw [if_neg (fun e => h (hm.1 e)), if_neg (by omega)]
    split
    · rfl
    · rw [if_neg (by omega)]
      split
      · rfl
      · rw [if_neg (by omega)]
theorem ref_at (F : FR W H D kd ot) (c : Int) : taquinref07_At.f W H D kd ot c = floor_At.f W H D kd ot c := by
  have w1 := F.w1
  have h1 := F.h1
  have d1 := F.d1
  have wm := F.wm
  have hm := F.hm
  have hn := F.n
  unfold taquinref07_At.f floor_At.f
  rw [ref_is, is_some F c, Option.bind_some, Option.bind_some]
  by_cases h : 0 ≤ c ∧ c < W * H * D
  · have hwh0 : 0 ≤ W * H := Int.mul_nonneg (by omega) (by omega)
    have hwh : W * H ≤ 4096 := by
      have := Int.mul_le_mul_of_nonneg_left d1 hwh0
      rw [Int.mul_one] at this
      omega
    have hwh1 : 1 ≤ W * H := by have := Int.mul_le_mul w1 h1 (by omega) (by omega); omega
    rw [decide_eq_true h, if_pos rfl, if_pos rfl, if_neg (by omega), if_neg (by omega), if_neg (by omega), if_neg (by omega), w64 (x := W * H) (by omega) (by omega), if_neg (by omega)]
    have e1 : Int.tdiv c W = c / W := Int.tdiv_eq_ediv_of_nonneg h.1
    have b1 : 0 ≤ c / W := Int.ediv_nonneg h.1 (by omega)
    have b2 : c / W ≤ c := Int.ediv_le_self _ h.1
    rw [e1, w64 (x := c / W) (by omega) (by omega), Int.tdiv_eq_ediv_of_nonneg b1, Int.tdiv_eq_ediv_of_nonneg h.1, Int.ediv_ediv_of_nonneg (by omega)]
  · rw [decide_eq_false h, if_neg (by simp), if_neg (by simp)]
theorem ref_beside (F : FR W H D kd ot) (c d : Int) (h0 : 0 ≤ d) (h5 : d ≤ 5) : taquinref07_Beside.f W H D kd ot c d = floor_beside.f W H D kd ot c d := by
  unfold taquinref07_Beside.f floor_beside.f
  rw [ref_is, is_some F c, Option.bind_some, Option.bind_some, ref_at F]
  by_cases h : 0 ≤ c ∧ c < W * H * D
  · rw [decide_eq_true h, if_pos rfl, if_pos rfl, if_neg (by omega), if_neg (by omega)]
    obtain ⟨x, y, z, hA, x0, x1, y0, y1, z0, z1⟩ := at_some F c
    rw [hA, Option.bind_some, Option.bind_some]
    have wx : wrap64 x = x := w64 (by omega) (by omega)
    have wy : wrap64 y = y := w64 (by omega) (by omega)
    have wz : wrap64 z = z := w64 (by omega) (by omega)
    have hb : ∀ o : Option Int, (o.bind fun t => some t) = o := fun o => by cases o <;> rfl
    simp only [ref_cell, hb]
    have hd : d = 0 ∨ d = 1 ∨ d = 2 ∨ d = 3 ∨ d = 4 ∨ d = 5 := by omega
    rcases hd with rfl | rfl | rfl | rfl | rfl | rfl <;> simp [floor_beside.dX, floor_beside.dY, floor_beside.dZ, wx, wy, wz, Int.sub_eq_add_neg]
  · rw [decide_eq_false h, if_neg (by simp), if_neg (by simp)]
theorem ref_next (F : FR W H D kd ot) (c d : Int) (h0 : 0 ≤ d) (h5 : d ≤ 5) {k : Nat} (hk : 1 ≤ k) : taquinref07_Next.f k W H D kd ot c d = some (nx F c d, ok F c d) := by
  rw [← nx_is F c d hk]
  obtain ⟨k, rfl⟩ : ∃ k', k = k' + 1 := ⟨k - 1, by omega⟩
  have hj : ∀ (t : Int) (b : Bool), taquinref07_Next.j0 (k + 1) c d t b W H D kd ot = floor_Next.j0 (k + 1) c d t b W H D kd ot := by
    intro t b
    simp only [taquinref07_Next.j0, floor_Next.j0]
    cases b with
    | true => rfl
    | false =>
      have hd : d < 4 ∨ d = 4 ∨ d = 5 := by omega
      rcases hd with h | rfl | rfl
      · simp [Int.not_le.2 h, show ¬ d = 4 by omega, show ¬ d = 5 by omega]
      · simp
      · simp
  have hu : IntKind.u64.wrap d = d := by
    have hd : d = 0 ∨ d = 1 ∨ d = 2 ∨ d = 3 ∨ d = 4 ∨ d = 5 := by omega
    rcases hd with rfl | rfl | rfl | rfl | rfl | rfl <;> decide
  have ht : ∀ t : Int, floor_Next.j0 (k + 1) c d t true W H D kd ot = some (0, false) := fun t => by simp only [floor_Next.j0, if_true]
  unfold taquinref07_Next.f floor_Next.f
  simp only [ref_beside F c d h0 h5, hj, hu, ht]
theorem ref_way_l0 (F : FR W H D kd ot) (c0 : Int) (q : List Int) (hq : q.length ≤ 1000) : ∀ (r pre : List Int) (c : Int) (i k : Nat), q.drop i = r → small r → i ≤ q.length → 2 * r.length + 2 < k → pre.length + r.length ≤ 5000 →
    taquinref22_Way.l0 k (pre ++ [c]) c (i : Int) W H D kd ot c0 q = some (match steps F c r with | some l => (pre ++ c :: l, true) | none => ([], false)) := by
  intro r
  induction r with
  | nil =>
    intro pre c i k hr hs hi hk hp
    obtain ⟨k, rfl⟩ : ∃ m, k = m + 1 := ⟨k - 1, by simp at hk; omega⟩
    have hl : q.length ≤ i := by simpa using hr
    simp only [taquinref22_Way.l0]
    rw [if_neg (by omega)]
    simp [steps]
  | cons a r ih =>
    intro pre c i k hr hs hi hk hp
    simp only [List.length_cons] at hk hp
    obtain ⟨k, rfl⟩ : ∃ m, k = m + 1 + 1 := ⟨k - 2, by omega⟩
    have hl : i < q.length := by
      rcases Nat.lt_or_ge i q.length with h | h
      · exact h
      · rw [List.drop_eq_nil_of_le h] at hr; cases hr
    have hd := List.drop_eq_getElem_cons hl
    rw [hr] at hd
    injection hd with ha hd
    have hrd : rd q (i : Int) = a := by simp [rd, hl, ha]
    obtain ⟨hsa, hsr⟩ := small_cons hs
    have ew : wrap64 (a - 1) = a - 1 := w64 (by omega) (by omega)
    have ei : wrap64 ((i : Int) + 1) = ((i + 1 : Nat) : Int) := by rw [w64 (by omega) (by omega)]; omega
    have skip : mv a = false → taquinref22_Way.j1 (k + 1) (pre ++ [c]) c (i : Int) (a - 1) true W H D kd ot c0 q = some (match steps F c (a :: r) with | some l => (pre ++ c :: l, true) | none => ([], false)) := by
      intro m
      have := ih pre c (i + 1) k hd.symm hsr (by omega) (by omega) (by omega)
      simp only [taquinref22_Way.j1, if_true]
      rw [ei, this]
      simp only [steps, m, Bool.false_eq_true, if_false]
    simp only [taquinref22_Way.l0]
    rw [if_pos (by omega), if_pos (by omega), hrd, ew]
    by_cases c1 : a - 1 < 0
    · rw [if_pos c1]
      exact skip (by unfold mv; rw [decide_eq_false (show ¬ 1 ≤ a by omega)]; rfl)
    · rw [if_neg c1]
      by_cases c2 : a - 1 > 5
      · rw [decide_eq_true c2]
        exact skip (by unfold mv; rw [decide_eq_false (show ¬ a < 7 by omega), Bool.and_false])
      · rw [decide_eq_false c2]
        have m : mv a = true := by unfold mv; rw [decide_eq_true (show 1 ≤ a by omega), decide_eq_true (show a < 7 by omega)]; rfl
        simp only [taquinref22_Way.j1, Bool.false_eq_true, if_false]
        rw [ref_next F c (a - 1) (by omega) (by omega) (by omega), Option.bind_some]
        by_cases o : ok F c (a - 1) = true
        · rw [if_pos o, if_pos (by simp; omega), ei]
          have := ih (pre ++ [c]) (nx F c (a - 1)) (i + 1) k hd.symm hsr (by omega) (by omega) (by simp; omega)
          rw [this]
          simp only [steps, m, o, if_true]
          cases steps F (nx F c (a - 1)) r <;> simp
        · rw [if_neg o]
          simp only [steps, m, if_true]
          rw [if_neg o]
theorem ref_way (F : FR W H D kd ot) (c : Int) (q : List Int) (hq : q.length ≤ 1000) (hs : small q) {k : Nat} (hk : 2 * q.length + 2 < k) :
    taquinref22_Way.f k W H D kd ot c q = some (match steps F c q with | some l => (c :: l, true) | none => ([], false)) := by
  unfold taquinref22_Way.f
  exact ref_way_l0 F c q hq q [] c 0 k rfl hs (by omega) hk (by simp; omega)
theorem ref_l0 (F : FR W H D kd ot) : ∀ (d k : Nat) (i : Int), 0 ≤ i → (kd.length : Int) - i = d → d < k → taquinref07_Right.l0 k (W * H * D) i W H D kd ot = some true := by
  intro d
  induction d with
  | zero =>
    intro k i h0 hd hk
    obtain ⟨k, rfl⟩ : ∃ m, k = m + 1 := ⟨k - 1, by omega⟩
    have hl := F.kl
    simp only [taquinref07_Right.l0]
    rw [if_neg (by omega)]
  | succ d ih =>
    intro k i h0 hd hk
    obtain ⟨k, rfl⟩ : ∃ m, k = m + 1 := ⟨k - 1, by omega⟩
    obtain ⟨j, rfl⟩ := Int.eq_ofNat_of_zero_le h0
    have e1 : 0 ≤ rd kd j ∧ rd kd j < 7 := by simpa [rd] using F.kk j (by omega)
    have e2 : 0 ≤ rd ot j ∧ rd ot j ≤ 63 := by simpa [rd] using F.oo j (by omega)
    have hl := F.kl
    have hl2 := F.ol
    have hn := F.n
    simp only [taquinref07_Right.l0]
    rw [if_pos (by omega), if_pos h0, if_pos (by omega), if_neg (by omega), if_neg (by omega), if_pos (by omega), if_neg (by omega), if_neg (by omega), w64 (by omega) (by omega)]
    exact ih k ((j : Int) + 1) (by omega) (by omega) (by omega)
theorem ref_floor (F : FR W H D kd ot) {k : Nat} (hk : kd.length + 3 ≤ k) : taquinref07_Right.f k W H D kd ot = some true := by
  obtain ⟨k, rfl⟩ : ∃ m, k = m + 2 := ⟨k - 2, by omega⟩
  have a := F.w1; have b := F.h1; have c := F.d1; have d := F.d4; have e := F.wm; have f := F.hm; have n := F.n; have kl := F.kl; have ol := F.ol
  have hs : wrap64 ((wrap64 (W * H)) * D) = W * H * D := size_eq (kd := kd) (ot := ot) a b c d e f
  unfold taquinref07_Right.f
  rw [if_neg (by omega), if_neg (by omega), if_neg (by omega), if_neg (by omega), if_neg (by omega), decide_eq_false (by omega)]
  simp only [taquinref07_Right.j0, Bool.false_eq_true, if_false]
  have e2 : ((ot.length : Int) != W * H * D) = false := by simpa using ol
  rw [hs, if_neg (by omega), if_pos kl, e2]
  simp only [taquinref07_Right.j1, Bool.false_eq_true, if_false]
  exact ref_l0 F kd.length k 0 (by omega) (by omega) (by omega)
theorem ref_known (F : FR W H D kd ot) (c : Int) (q : List Int) (hq : q.length ≤ 4) (c0 : 0 ≤ c) (c1 : c < (kd.length : Int)) : ∀ (d i : Nat) (k : Nat), q.length - i = d → i ≤ q.length → d + 20 < k → (∀ j (hj : j < q.length), j < i → robot_known.bad q[j] = false) →
    ∃ b, taquinref22_Right.l0 k (i : Int) W H D kd ot c q = some b ∧ (b = true ↔ rd kd c ≠ 0 ∧ q.any robot_known.bad = false ∧ ∃ l, steps F c q = some l) := by
  intro d
  induction d with
  | zero =>
    intro i k hd hi hk hall
    obtain ⟨k, rfl⟩ : ∃ m, k = m + 1 := ⟨k - 1, by omega⟩
    have hb : q.any robot_known.bad = false := by
      rw [List.any_eq_false]
      intro x hx
      obtain ⟨j, hj, rfl⟩ := List.getElem_of_mem hx
      rw [hall j hj (by omega)]; simp
    simp only [taquinref22_Right.l0]
    rw [if_neg (by omega), ref_way F c q (by omega) (small_of hb) (by omega), Option.bind_some]
    cases h6 : steps F c q with
    | none => exact ⟨false, rfl, by simp, fun ⟨_, _, l, hl⟩ => by cases hl⟩
    | some l =>
      simp only [if_true]
      rw [if_pos c0, if_pos c1]
      refine ⟨_, rfl, ?_⟩
      rw [bne_iff_ne]
      exact ⟨fun h => ⟨h, hb, l, rfl⟩, fun h => h.1⟩
  | succ d ih =>
    intro i k hd hi hk hall
    obtain ⟨k, rfl⟩ : ∃ m, k = m + 1 := ⟨k - 1, by omega⟩
    have hlt : i < q.length := by omega
    have hrd : rd q (i : Int) = q[i] := by simp [rd, hlt]
    have no : robot_known.bad q[i] = true → ∃ b, (some false : Option Bool) = some b ∧ (b = true ↔ rd kd c ≠ 0 ∧ q.any robot_known.bad = false ∧ ∃ l, steps F c q = some l) := fun h =>
      ⟨false, rfl, by simp, fun ⟨_, h2, _⟩ => by
        rw [List.any_eq_false] at h2
        exact absurd h (h2 _ (List.getElem_mem hlt))⟩
    simp only [taquinref22_Right.l0]
    rw [if_pos (by omega), if_pos (by omega), hrd]
    by_cases h1 : q[i] < 0
    · rw [if_pos h1]; exact no (by unfold robot_known.bad; rw [decide_eq_true h1]; rfl)
    · rw [if_neg h1]
      by_cases h2 : q[i] ≥ 10
      · rw [if_pos h2]; exact no (by unfold robot_known.bad; rw [decide_eq_true (show 10 ≤ q[i] by omega), Bool.or_true])
      · rw [if_neg h2, w64 (x := (i : Int) + 1) (by omega) (by omega)]
        exact ih (i + 1) k (by omega) (by omega) (by omega) (fun j hj hji => by
          rcases Nat.lt_or_ge j i with h | h
          · exact hall j hj h
          · have : j = i := by omega
            subst this
            unfold robot_known.bad
            rw [decide_eq_false h1, decide_eq_false (show ¬ 10 ≤ q[j] by omega)]; rfl)
theorem ref_right_is (F : FR W H D kd ot) (c : Int) (q : List Int) {k : Nat} (hk : kd.length + 40 ≤ k) : ∃ b, taquinref22_Right.f k W H D kd ot c q = some b ∧ (b = true ↔ MR F c q) := by
  obtain ⟨k, rfl⟩ : ∃ m, k = m + 1 := ⟨k - 1, by omega⟩
  have stop : taquinref22_Right.j0 (k + 1) true W H D kd ot c q = some false := by simp only [taquinref22_Right.j0, if_true]
  unfold taquinref22_Right.f
  rw [ref_floor F (by omega), Option.bind_some, if_pos rfl]
  by_cases h1 : c < 0
  · rw [if_pos h1, stop]; exact ⟨false, rfl, by simp, fun m => by have := m.c0; omega⟩
  rw [if_neg h1]
  by_cases h2 : c ≥ (kd.length : Int)
  · rw [if_pos h2, stop]; exact ⟨false, rfl, by simp, fun m => by have := m.c1; omega⟩
  rw [if_neg h2]
  by_cases h4 : (q.length : Int) > 4
  · rw [decide_eq_true h4, stop]; exact ⟨false, rfl, by simp, fun m => by have := m.q4; omega⟩
  rw [decide_eq_false h4]
  simp only [taquinref22_Right.j0, Bool.false_eq_true, if_false]
  obtain ⟨b, hb, hiff⟩ := ref_known F c q (by omega) (by omega) (by omega) (q.length - 0) 0 k rfl (by omega) (by omega) (fun j hj h => by omega)
  refine ⟨b, hb, hiff.trans ⟨fun ⟨h1', h2', h3'⟩ => ⟨by omega, by omega, h1', by omega, h2', h3'⟩, fun m => ⟨m.kw, m.kn, m.st⟩⟩⟩
theorem tells_hear (F : FR W H D kd ot) (c : Int) (q acts : List Int) (hq : q.length ≤ 1000) (ha : acts.length ≤ 1000) {k : Nat} (hk : kd.length + 60 + acts.length ≤ k) :
    ∃ x y e, robot_Hear.f k W H D kd ot c q acts = some (x, y, e) ∧ taquinref22_Hear.f k W H D kd ot c q acts = some (x, y, e) ∧ y.length ≤ 1000 := by
  unfold robot_Hear.f taquinref22_Hear.f slices_Clone_int.f robot_known.f
  rw [if_pos (by omega)]
  simp only [Option.bind_some]
  by_cases h1 : (acts.length : Int) > 4
  · rw [if_pos h1, if_pos h1, clone_is c q hq]; exact ⟨c, q, 6, rfl, rfl, hq⟩
  rw [if_neg h1, if_neg h1]
  have go : ∀ (d i k : Nat), acts.length - i = d → i ≤ acts.length → kd.length + 50 + d ≤ k → (∀ j (hj : j < acts.length), j < i → robot_known.bad acts[j] = false) →
      taquinref22_Hear.l0 k acts (i : Int) W H D kd ot c q = (if acts.any robot_known.bad = true then some (c, q, 1) else (taquinref22_Right.f (kd.length + 40) W H D kd ot c acts).bind fun b => if b = true then some (c, acts, 0) else some (c, q, 14)) := by
    intro d
    induction d with
    | zero =>
      intro i k hd hi hk hall
      obtain ⟨k, rfl⟩ : ∃ m, k = m + 1 := ⟨k - 1, by omega⟩
      have hb : acts.any robot_known.bad = false := by
        rw [List.any_eq_false]
        intro x hx
        obtain ⟨j, hj, rfl⟩ := List.getElem_of_mem hx
        rw [hall j hj (by omega)]; simp
      obtain ⟨b, h1, _⟩ := ref_right_is F c acts (k := kd.length + 40) (by omega)
      have h2 : taquinref22_Right.f k W H D kd ot c acts = some b := at_rounds (g := fun k => taquinref22_Right.f k W H D kd ot c acts) (fun k => taquinref22_Right.mono _ _ _ _ _ _ _ k) (by omega) h1
      simp only [taquinref22_Hear.l0]
      rw [if_neg (by omega), hb, if_neg (by simp), h1]
      simp only [Option.bind_some, List.nil_append]
      rw [if_pos (by simp; omega), h2]
      rfl
    | succ d ih =>
      intro i k hd hi hk hall
      obtain ⟨k, rfl⟩ : ∃ m, k = m + 1 := ⟨k - 1, by omega⟩
      have hlt : i < acts.length := by omega
      have hrd : rd acts (i : Int) = acts[i] := by simp [rd, hlt]
      have no : robot_known.bad acts[i] = true → some (c, q, (1 : Int)) = (if acts.any robot_known.bad = true then some (c, q, 1) else (taquinref22_Right.f (kd.length + 40) W H D kd ot c acts).bind fun b => if b = true then some (c, acts, 0) else some (c, q, 14)) := fun h => by
        rw [if_pos (List.any_eq_true.2 ⟨_, List.getElem_mem hlt, h⟩)]
      simp only [taquinref22_Hear.l0]
      rw [if_pos (by omega), if_pos (by omega), hrd]
      by_cases h1 : acts[i] < 0
      · rw [if_pos h1]; exact no (by unfold robot_known.bad; rw [decide_eq_true h1]; rfl)
      · rw [if_neg h1]
        by_cases h2 : acts[i] ≥ 10
        · rw [if_pos h2]; exact no (by unfold robot_known.bad; rw [decide_eq_true (show 10 ≤ acts[i] by omega), Bool.or_true])
        · rw [if_neg h2, w64 (x := (i : Int) + 1) (by omega) (by omega)]
          exact ih (i + 1) k (by omega) (by omega) (by omega) (fun j hj hji => by
            rcases Nat.lt_or_ge j i with h | h
            · exact hall j hj h
            · have : j = i := by omega
              subst this
              unfold robot_known.bad
              rw [decide_eq_false h1, decide_eq_false (show ¬ 10 ≤ acts[j] by omega)]; rfl)
  have g0 := go acts.length 0 k rfl (by omega) (by omega) (fun j hj h => by omega)
  rw [show ((0 : Nat) : Int) = 0 from rfl] at g0
  rw [g0]
  cases h2 : acts.any robot_known.bad with
  | true => rw [if_neg (by simp), clone_is c q hq, if_pos rfl]; exact ⟨c, q, 1, rfl, rfl, hq⟩
  | false =>
    rw [if_pos (by simp), if_neg (by simp)]
    obtain ⟨b, hb, hh⟩ := right_is F c acts (k := k) (by omega)
    obtain ⟨b', hb', hh'⟩ := ref_right_is F c acts (k := kd.length + 40) (by omega)
    have e : b' = b := by rw [Bool.eq_iff_iff]; exact hh'.trans hh.symm
    subst e
    rw [hb, hb']
    simp only [Option.bind_some]
    cases b' with
    | true => exact ⟨c, acts, 0, by simp, by simp, ha⟩
    | false => rw [clone_is c q hq]; exact ⟨c, q, 14, by simp, by simp, hq⟩
theorem tells_did (F : FR W H D kd ot) {c : Int} {q : List Int} (m : MR F c q) (act : Int) (done : Bool) {k : Nat} (hk : 10 ≤ k) :
    ∃ x y, robot_Did.f k W H D kd ot c q act done = some (x, y) ∧ taquinref22_Did.f k W H D kd ot c q act done = some (x, y) ∧ y.length ≤ 1000 := by
  obtain ⟨k, rfl⟩ : ∃ n, k = n + 1 := ⟨k - 1, by omega⟩
  have hq := m.q4
  have s1 : robot_Did.j0 (k + 1) act true W H D kd ot c q c q = some (c, q) := by simp only [robot_Did.j0, if_true]
  have s2 : taquinref22_Did.j0 (k + 1) act true W H D kd ot c q = some (c, q) := by simp only [taquinref22_Did.j0, if_true]
  have same : ∃ x y, (some (c, q) : Option (Int × List Int)) = some (x, y) ∧ (some (c, q) : Option (Int × List Int)) = some (x, y) ∧ y.length ≤ 1000 := ⟨c, q, rfl, rfl, by omega⟩
  unfold robot_Did.f taquinref22_Did.f
  rw [clone_is c q (by omega), Option.bind_some]
  simp only
  cases done with
  | false => rw [if_neg (by simp), if_neg (by simp), s1, s2]; exact same
  | true =>
    rw [if_pos rfl, if_pos rfl]
    by_cases h0 : (q.length : Int) = 0
    · rw [if_pos h0, if_pos h0, s1, s2]; exact same
    rw [if_neg h0, if_neg h0, if_pos (by omega)]
    unfold taquinref22_Next.f
    rw [if_neg h0, if_pos (by omega), Option.bind_some]
    by_cases he : rd q 0 = act
    · have hn : (rd q 0 != act) = false := by rw [he]; simp
      rw [hn]
      have hsm : -1000 ≤ act ∧ act ≤ 1000 := by
        have hlt : 0 < q.length := by omega
        have : rd q 0 = q[0] := by simp [rd, hlt]
        rw [← he, this]
        exact small_of m.kn _ (List.getElem_mem hlt)
      have ew : wrap64 (act - 1) = act - 1 := w64 (by omega) (by omega)
      simp only [robot_Did.j0, taquinref22_Did.j0, Bool.false_eq_true, if_false, Option.bind_some, List.nil_append]
      rw [if_pos (by omega), if_pos (by omega), if_pos (by simp; omega), move_is hsm.1 hsm.2, Option.bind_some, ew]
      by_cases c1 : act - 1 ≥ 0
      · rw [if_pos c1]
        by_cases c2 : act - 1 ≤ 5
        · have hm : mv act = true := by unfold mv; rw [decide_eq_true (show 1 ≤ act by omega), decide_eq_true (show act < 7 by omega)]; rfl
          rw [if_pos c2, if_pos hm, nx_is F _ _ (by omega), ref_next F _ _ (by omega) (by omega) (by omega)]
          exact ⟨nx F c (act - 1), q.drop 1, rfl, rfl, by simp; omega⟩
        · have hm : mv act = false := by unfold mv; rw [decide_eq_false (show ¬ act < 7 by omega), Bool.and_false]
          rw [if_neg c2, hm, if_neg (by simp)]
          exact ⟨c, q.drop 1, rfl, rfl, by simp; omega⟩
      · have hm : mv act = false := by unfold mv; rw [decide_eq_false (show ¬ 1 ≤ act by omega)]; rfl
        rw [if_neg c1, hm, if_neg (by simp)]
        exact ⟨c, q.drop 1, rfl, rfl, by simp; omega⟩
    · have hn : (rd q 0 != act) = true := bne_iff_ne.2 he
      rw [hn, s1, s2]; exact same
end
end Go.Proofs.YtphcihbffiggbaaGreatDoor.RobPureRt

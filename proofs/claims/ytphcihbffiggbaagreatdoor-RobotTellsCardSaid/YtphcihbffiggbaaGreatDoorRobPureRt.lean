import Derived.Test.YtphcihbffiggbaaGreatDoorPRtx1
import Derived.Test.YtphcihbffiggbaaGreatDoorPRtx2
import Derived.Test.YtphcihbffiggbaaGreatDoorPRtx3
import Derived.Test.YtphcihbffiggbaaGreatDoorPRtx4
import Derived.Test.YtphcihbffiggbaaGreatDoorPRtx7
import Derived.Test.YtphcihbffiggbaaGreatDoorPRtx13
import Derived.Test.YtphcihbffiggbaaGreatDoorPRtx8
namespace Go.Proofs.YtphcihbffiggbaaGreatDoor.RobPureRt
open Go.RowKit Go.Proofs.YtphcihbffiggbaaGreatDoor.PRt Go.Proofs.YtphcihbffiggbaaGreatDoorW.PrintWords Go.Proofs.YtphcihbffiggbaaGreatDoorW.PrintLast Go.Proofs.YtphcihbffiggbaaGreatDoorW.PrintMore
set_option linter.unusedVariables false
set_option linter.unusedSimpArgs false
theorem w64 {x : Int} (h0 : -9223372036854775808 ≤ x) (h1 : x ≤ 9223372036854775807) : wrap64 x = x := by
  unfold wrap64; omega
structure FR (W H D : Int) (kd ot : List Int) : Prop where
  w1 : 1 ≤ W
  h1 : 1 ≤ H
  d1 : 1 ≤ D
  d4 : D ≤ 4
  wm : W ≤ 4096
  hm : H ≤ 4096
  n : W * H * D ≤ 4096
  kl : (kd.length : Int) = W * H * D
  ol : (ot.length : Int) = W * H * D
  kk : ∀ i : Nat, i < kd.length → 0 ≤ kd.getD i 0 ∧ kd.getD i 0 < 7
  oo : ∀ i : Nat, i < kd.length → 0 ≤ ot.getD i 0 ∧ ot.getD i 0 ≤ 63
theorem mul_bd {a b A B : Int} (ha : 0 ≤ a) (hb : 0 ≤ b) (hA : a ≤ A) (hB : b ≤ B) : 0 ≤ a * b ∧ a * b ≤ A * B := by
  refine ⟨Int.mul_nonneg ha hb, ?_⟩
  exact Int.mul_le_mul hA hB hb (by omega)
theorem size_eq {W H D : Int} {kd ot : List Int} (w1 : 1 ≤ W) (h1 : 1 ≤ H) (d1 : 1 ≤ D) (d4 : D ≤ 4) (wm : W ≤ 4096) (hm : H ≤ 4096) :
    wrap64 (wrap64 (W * H) * D) = W * H * D := by
  have hb := mul_bd (a := W) (b := H) (by omega) (by omega) wm hm
  rw [w64 (x := W * H) (by omega) (by omega)]
  have hc := mul_bd (a := W * H) (b := D) hb.1 (by omega) hb.2 d4
  rw [w64 (by omega) (by omega)]
theorem ref_l0_true {W H D n : Int} {kd ot : List Int} (hk : (kd.length : Int) = n) (hn : n ≤ 100000) : ∀ (d k : Nat) (i : Int), 0 ≤ i → n - i = d →
    taquinref07_Right.l0 k n i W H D kd ot = some true →
    ∀ j : Nat, i ≤ (j : Int) → j < kd.length → (0 ≤ kd.getD j 0 ∧ kd.getD j 0 < 7) ∧ (0 ≤ ot.getD j 0 ∧ ot.getD j 0 ≤ 63) := by
  intro d
  induction d with
  | zero => intro k i h0 hd h j hj hl; omega
  | succ d ih =>
    intro k i h0 hd h j hj hl
    cases k with
    | zero => simp [taquinref07_Right.l0] at h
    | succ k =>
      simp only [taquinref07_Right.l0] at h
      rw [if_pos (by omega), if_pos h0, if_pos (by omega)] at h
      by_cases a1 : rd kd i < 0
      · rw [if_pos a1] at h; simp at h
      rw [if_neg a1] at h
      by_cases a2 : rd kd i ≥ 7
      · rw [if_pos a2] at h; simp at h
      rw [if_neg a2] at h
      by_cases a3 : i < (ot.length : Int)
      · rw [if_pos a3] at h
        by_cases a4 : rd ot i < 0
        · rw [if_pos a4] at h; simp at h
        rw [if_neg a4] at h
        by_cases a5 : rd ot i > 63
        · rw [if_pos a5] at h; simp at h
        rw [if_neg a5, w64 (by omega) (by omega)] at h
        by_cases e : i = (j : Int)
        · subst e
          unfold rd at a1 a2 a4 a5
          rw [Int.toNat_natCast] at a1 a2 a4 a5
          omega
        · exact ih k (i + 1) (by omega) (by omega) h j (by omega) hl
      · rw [if_neg a3] at h; simp at h
theorem ref_true {W H D : Int} {kd ot : List Int} {k : Nat} (h : taquinref07_Right.f k W H D kd ot = some true) : FR W H D kd ot := by
  unfold taquinref07_Right.f at h
  have j0t : ∀ k, taquinref07_Right.j0 k true W H D kd ot ≠ some true := by
    intro k; cases k <;> simp [taquinref07_Right.j0]
  by_cases a1 : W < 1
  · rw [if_pos a1] at h; exact absurd h (j0t k)
  rw [if_neg a1] at h
  by_cases a2 : H < 1
  · rw [if_pos a2] at h; exact absurd h (j0t k)
  rw [if_neg a2] at h
  by_cases a3 : D < 1
  · rw [if_pos a3] at h; exact absurd h (j0t k)
  rw [if_neg a3] at h
  by_cases a4 : D > 4
  · rw [if_pos a4] at h; exact absurd h (j0t k)
  rw [if_neg a4] at h
  by_cases a5 : W > 4096
  · rw [if_pos a5] at h; exact absurd h (j0t k)
  rw [if_neg a5] at h
  by_cases a6 : H > 4096
  · rw [decide_eq_true a6] at h; exact absurd h (j0t k)
  rw [decide_eq_false a6] at h
  cases k with
  | zero => simp [taquinref07_Right.j0] at h
  | succ k =>
    simp only [taquinref07_Right.j0] at h
    rw [size_eq (kd := kd) (ot := ot) (by omega) (by omega) (by omega) (by omega) (by omega) (by omega)] at h
    have j1t : ∀ k n, taquinref07_Right.j1 k n true W H D kd ot ≠ some true := by
      intro k n; cases k <;> simp [taquinref07_Right.j1]
    simp only [Bool.false_eq_true, if_false] at h
    by_cases a7 : W * H * D > 4096
    · rw [if_pos a7] at h; exact absurd h (j1t k _)
    rw [if_neg a7] at h
    by_cases a8 : (kd.length : Int) = W * H * D
    · rw [if_pos a8] at h
      by_cases a9 : (ot.length : Int) = W * H * D
      · have e : ((ot.length : Int) != W * H * D) = false := by simpa using a9
        rw [e] at h
        cases k with
        | zero => simp [taquinref07_Right.j1] at h
        | succ k =>
          simp only [taquinref07_Right.j1, Bool.false_eq_true, if_false] at h
          have := ref_l0_true a8 (by omega) (W * H * D).toNat k 0 (by omega) (by omega) h
          exact ⟨by omega, by omega, by omega, by omega, by omega, by omega, by omega, a8, a9, fun i hi => (this i (by omega) hi).1, fun i hi => (this i (by omega) hi).2⟩
      · have e : ((ot.length : Int) != W * H * D) = true := by simpa using a9
        rw [e] at h; exact absurd h (j1t k _)
    · rw [if_neg a8] at h; exact absurd h (j1t k _)
theorem right_l0 {W H D : Int} {kd ot : List Int} (F : FR W H D kd ot) : ∀ (d k : Nat) (i : Int), 0 ≤ i → (kd.length : Int) - i = d → d < k →
    floor_Right.l0 k kd (kd.length : Int) i W H D kd ot = some true := by
  intro d
  induction d with
  | zero =>
    intro k i h0 hd hk
    obtain ⟨k, rfl⟩ : ∃ m, k = m + 1 := ⟨k - 1, by omega⟩
    simp only [floor_Right.l0]
    rw [if_neg (by omega)]
  | succ d ih =>
    intro k i h0 hd hk
    obtain ⟨k, rfl⟩ : ∃ m, k = m + 1 := ⟨k - 1, by omega⟩
    obtain ⟨j, rfl⟩ := Int.eq_ofNat_of_zero_le h0
    have e1 : 0 ≤ rd kd j ∧ rd kd j < 7 := by simpa [rd] using F.kk j (by omega)
    have e2 : 0 ≤ rd ot j ∧ rd ot j ≤ 63 := by simpa [rd] using F.oo j (by omega)
    have hl := F.kl
    have hl2 := F.ol
    have hn := F.n
    simp only [floor_Right.l0]
    rw [if_pos (by omega), if_pos h0, if_pos (by omega), if_neg (by omega), if_neg (by omega), if_pos (by omega), if_neg (by omega), if_neg (by omega), w64 (by omega) (by omega)]
    exact ih k ((j : Int) + 1) (by omega) (by omega) (by omega)
theorem right_some {W H D : Int} {kd ot : List Int} (F : FR W H D kd ot) {k : Nat} (hk : kd.length + 3 ≤ k) : floor_Right.f k W H D kd ot = some true := by
  obtain ⟨k, rfl⟩ : ∃ m, k = m + 2 := ⟨k - 2, by omega⟩
  have a := F.w1; have b := F.h1; have c := F.d1; have d := F.d4; have e := F.wm; have f := F.hm; have n := F.n; have kl := F.kl; have ol := F.ol
  unfold floor_Right.f
  rw [if_neg (by unfold mn; split <;> split <;> omega), if_neg (by omega), decide_eq_false (by unfold mx; split <;> omega)]
  simp only [floor_Right.j0, Bool.false_eq_true, if_false, floor_size.f, Option.bind_some]
  rw [size_eq (kd := kd) (ot := ot) a b c d e f, if_neg (by omega), if_pos kl]
  have e2 : ((ot.length : Int) != W * H * D) = false := by simpa using ol
  rw [e2]
  simp only [floor_Right.j1, Bool.false_eq_true, if_false]
  exact right_l0 F kd.length k 0 (by omega) (by omega) (by omega)
theorem cell_some {W H D : Int} {kd ot : List Int} (F : FR W H D kd ot) (x y z : Int) (hx : -2 ≤ x ∧ x ≤ 100000) (hy : -2 ≤ y ∧ y ≤ 100000) (hz : -2 ≤ z ∧ z ≤ 100000) :
    ∃ r, floor_Cell.f W H D kd ot x y z = some r ∧ -1 ≤ r ∧ r < W * H * D := by
  have a := F.w1; have b := F.h1; have c := F.d1; have d := F.d4; have e := F.wm; have f := F.hm; have n := F.n
  have pos : 1 ≤ W * H * D := by
    have h1 := Int.mul_pos (a := W) (b := H) (by omega) (by omega)
    have h2 := Int.mul_pos (a := W * H) (b := D) h1 (by omega)
    omega
  unfold floor_Cell.f
  by_cases h1 : mn (mn x y) z < 0
  · rw [if_pos h1]; exact ⟨-1, rfl, by omega, by omega⟩
  rw [if_neg h1]
  have hx0 : 0 ≤ x ∧ 0 ≤ y ∧ 0 ≤ z := by unfold mn at h1; split at h1 <;> split at h1 <;> omega
  by_cases h2 : x ≥ W
  · rw [if_pos h2]; exact ⟨-1, rfl, by omega, by omega⟩
  rw [if_neg h2]
  by_cases h3 : y ≥ H
  · rw [if_pos h3]; exact ⟨-1, rfl, by omega, by omega⟩
  rw [if_neg h3]
  by_cases h4 : z ≥ D
  · rw [if_pos h4]; exact ⟨-1, rfl, by omega, by omega⟩
  rw [if_neg h4]
  have e1 := mul_bd (a := z) (b := H) (A := 4) (B := 4096) (by omega) (by omega) (by omega) (by omega)
  rw [w64 (x := z * H) (by omega) (by omega), w64 (x := z * H + y) (by omega) (by omega)]
  have e2 := mul_bd (a := z * H + y) (b := W) (A := 4 * 4096 + 4096) (B := 4096) (by omega) (by omega) (by omega) (by omega)
  rw [w64 (x := (z * H + y) * W) (by omega) (by omega), w64 (x := (z * H + y) * W + x) (by omega) (by omega)]
  refine ⟨_, rfl, by omega, ?_⟩
  have e3 : z * H + y + 1 ≤ D * H := by
    have := Int.mul_le_mul_of_nonneg_right (a := z + 1) (b := D) (c := H) (by omega) (by omega)
    rw [Int.add_mul] at this; omega
  have e4 : (z * H + y + 1) * W ≤ D * H * W := Int.mul_le_mul_of_nonneg_right e3 (by omega)
  rw [Int.add_mul, Int.one_mul] at e4
  have e5 : D * H * W = W * H * D := by rw [Int.mul_assoc, Int.mul_comm, Int.mul_comm H W]
  omega
theorem is_some {W H D : Int} {kd ot : List Int} (F : FR W H D kd ot) (c : Int) : floor_is.f W H D kd ot c = some (decide (0 ≤ c ∧ c < W * H * D)) := by
  have a := F.w1; have b := F.h1; have cc := F.d1; have d := F.d4; have e := F.wm; have f := F.hm
  unfold floor_is.f floor_size.f
  rw [size_eq (kd := kd) (ot := ot) a b cc d e f]
  by_cases h : c ≥ 0
  · rw [if_pos h]; simp only [Option.bind_some]; congr 1; simp [h]
  · rw [if_neg h]; congr 1; simp; omega
theorem at_some {W H D : Int} {kd ot : List Int} (F : FR W H D kd ot) (c : Int) : ∃ x y z, floor_At.f W H D kd ot c = some (x, y, z) ∧ 0 ≤ x ∧ x ≤ 4096 ∧ 0 ≤ y ∧ y ≤ 4096 ∧ 0 ≤ z ∧ z ≤ 4096 := by
  have a := F.w1; have b := F.h1; have cc := F.d1; have d := F.d4; have e := F.wm; have f := F.hm; have n := F.n
  unfold floor_At.f
  rw [is_some F]
  simp only [Option.bind_some]
  by_cases h : 0 ≤ c ∧ c < W * H * D
  · rw [decide_eq_true h, if_pos rfl, if_neg (by omega), if_neg (by omega)]
    have m := mul_bd (a := W) (b := H) (by omega) (by omega) e f
    have m1 := Int.mul_pos (a := W) (b := H) (by omega) (by omega)
    rw [w64 (x := W * H) (by omega) (by omega), if_neg (by omega)]
    have q1 : 0 ≤ c.tdiv W ∧ c.tdiv W ≤ c := by
      rw [Int.tdiv_eq_ediv_of_nonneg h.1]
      exact ⟨Int.ediv_nonneg h.1 (by omega), Int.ediv_le_self _ h.1⟩
    have q2 : 0 ≤ c.tdiv (W * H) ∧ c.tdiv (W * H) ≤ c := by
      rw [Int.tdiv_eq_ediv_of_nonneg h.1]
      exact ⟨Int.ediv_nonneg h.1 (by omega), Int.ediv_le_self _ h.1⟩
    rw [w64 (x := c.tdiv W) (by omega) (by omega), w64 (x := c.tdiv (W * H)) (by omega) (by omega)]
    have r1 := Int.emod_nonneg c (b := W) (by omega)
    have r2 := Int.emod_lt_of_pos c (b := W) (by omega)
    have r3 := Int.emod_nonneg (c.tdiv W) (b := H) (by omega)
    have r4 := Int.emod_lt_of_pos (c.tdiv W) (b := H) (by omega)
    refine ⟨_, _, _, rfl, ?_⟩
    rw [Int.tmod_eq_emod_of_nonneg h.1, Int.tmod_eq_emod_of_nonneg q1.1]
    omega
  · rw [decide_eq_false h, if_neg (by simp)]
    exact ⟨0, 0, 0, rfl, by omega⟩
theorem beside_some {W H D : Int} {kd ot : List Int} (F : FR W H D kd ot) (c d : Int) : ∃ r, floor_beside.f W H D kd ot c d = some r ∧ -1 ≤ r ∧ r < W * H * D ∧ (0 ≤ r → 0 ≤ c ∧ c < W * H * D ∧ 0 ≤ d ∧ d < 6) := by
  have pos := (cell_some F (-1) 0 0 (by omega) (by omega) (by omega))
  obtain ⟨r0, hr0, b0, b1⟩ := pos
  have hw : 0 ≤ W * H * D := by have := F.kl; omega
  unfold floor_beside.f
  rw [is_some F]
  simp only [Option.bind_some]
  by_cases h : 0 ≤ c ∧ c < W * H * D
  · rw [decide_eq_true h, if_pos rfl]
    by_cases d0 : d < 0
    · rw [if_pos d0]; exact ⟨-1, rfl, by omega, by omega, by omega⟩
    rw [if_neg d0]
    by_cases d1 : d ≥ 6
    · rw [if_pos d1]; exact ⟨-1, rfl, by omega, by omega, by omega⟩
    rw [if_neg d1]
    obtain ⟨x, y, z, e, hh⟩ := at_some F c
    rw [e]
    simp only [Option.bind_some]
    have bx : -1 ≤ floor_beside.dX d ∧ floor_beside.dX d ≤ 1 := by
      unfold floor_beside.dX; split
      · omega
      · split <;> omega
    have by2 : -1 ≤ floor_beside.dY d ∧ floor_beside.dY d ≤ 1 := by
      unfold floor_beside.dY; split
      · omega
      · split <;> omega
    have bz : -1 ≤ floor_beside.dZ d ∧ floor_beside.dZ d ≤ 1 := by
      unfold floor_beside.dZ; split
      · omega
      · split <;> omega
    rw [w64 (x := x + floor_beside.dX d) (by omega) (by omega), w64 (x := y + floor_beside.dY d) (by omega) (by omega), w64 (x := z + floor_beside.dZ d) (by omega) (by omega)]
    obtain ⟨r, hr, p, q⟩ := cell_some F (x + floor_beside.dX d) (y + floor_beside.dY d) (z + floor_beside.dZ d) (by omega) (by omega) (by omega)
    exact ⟨r, hr, p, q, fun _ => ⟨h.1, h.2, by omega, by omega⟩⟩
  · rw [decide_eq_false h, if_neg (by simp)]
    exact ⟨-1, rfl, by omega, by omega, by omega⟩
theorem next_some {W H D : Int} {kd ot : List Int} (F : FR W H D kd ot) (c d : Int) : ∃ n b, (∀ k, 1 ≤ k → floor_Next.f k W H D kd ot c d = some (n, b)) ∧ (b = true → 0 ≤ n ∧ n < (kd.length : Int) ∧ rd kd n ≠ 0) := by
  obtain ⟨r, hr, p, q, hc⟩ := beside_some F c d
  have kl := F.kl; have ol := F.ol
  have jt : ∀ k, 1 ≤ k → floor_Next.j0 k c d r true W H D kd ot = some (0, false) := by
    intro k hk; obtain ⟨k, rfl⟩ : ∃ m, k = m + 1 := ⟨k - 1, by omega⟩; simp [floor_Next.j0]
  by_cases h0 : r < 0
  · refine ⟨0, false, fun k hk => ?_, by simp⟩
    unfold floor_Next.f; rw [hr]; simp only [Option.bind_some]; rw [if_pos h0]; exact jt k hk
  obtain ⟨c0, c1, d0, d1⟩ := hc (by omega)
  by_cases w1 : rd kd c = 0
  · refine ⟨0, false, fun k hk => ?_, by simp⟩
    unfold floor_Next.f; rw [hr]; simp only [Option.bind_some]; rw [if_neg h0, if_pos c0, if_pos (by omega), if_pos w1]; exact jt k hk
  by_cases w2 : rd kd r = 0
  · refine ⟨0, false, fun k hk => ?_, by simp⟩
    unfold floor_Next.f; rw [hr]; simp only [Option.bind_some]; rw [if_neg h0, if_pos c0, if_pos (by omega), if_neg w1, if_pos (by omega), if_pos (by omega), if_pos w2]; exact jt k hk
  have main : ∃ n b, (∀ k, 1 ≤ k → floor_Next.j0 k c d r ((Go.bits .and .i64 (shr .i64 (rd ot c) d) 1) == 0) W H D kd ot = some (n, b)) ∧ (b = true → n = r) := by
    cases hx : ((Go.bits .and .i64 (shr .i64 (rd ot c) d) 1) == 0) with
    | true => exact ⟨0, false, jt, by simp⟩
    | false =>
      by_cases e4 : d = 4
      · by_cases k1 : rd kd c = 6
        · by_cases k2 : rd kd r = 6
          · refine ⟨r, true, fun k hk => ?_, by simp⟩
            obtain ⟨k, rfl⟩ : ∃ m, k = m + 1 := ⟨k - 1, by omega⟩
            simp only [floor_Next.j0, Bool.false_eq_true, if_false]
            rw [if_pos e4, if_pos c0, if_pos (by omega), if_pos k1, if_pos (by omega), if_pos (by omega), if_pos k2]
          · refine ⟨0, false, fun k hk => ?_, by simp⟩
            obtain ⟨k, rfl⟩ : ∃ m, k = m + 1 := ⟨k - 1, by omega⟩
            simp only [floor_Next.j0, Bool.false_eq_true, if_false]
            rw [if_pos e4, if_pos c0, if_pos (by omega), if_pos k1, if_pos (by omega), if_pos (by omega), if_neg k2]
        · refine ⟨0, false, fun k hk => ?_, by simp⟩
          obtain ⟨k, rfl⟩ : ∃ m, k = m + 1 := ⟨k - 1, by omega⟩
          simp only [floor_Next.j0, Bool.false_eq_true, if_false]
          rw [if_pos e4, if_pos c0, if_pos (by omega), if_neg k1]
      · by_cases e5 : d = 5
        · by_cases k1 : rd kd c = 6
          · by_cases k2 : rd kd r = 6
            · refine ⟨r, true, fun k hk => ?_, by simp⟩
              obtain ⟨k, rfl⟩ : ∃ m, k = m + 1 := ⟨k - 1, by omega⟩
              simp only [floor_Next.j0, Bool.false_eq_true, if_false]
              rw [if_neg e4, if_pos e5, if_pos c0, if_pos (by omega), if_pos k1, if_pos (by omega), if_pos (by omega), if_pos k2]
            · refine ⟨0, false, fun k hk => ?_, by simp⟩
              obtain ⟨k, rfl⟩ : ∃ m, k = m + 1 := ⟨k - 1, by omega⟩
              simp only [floor_Next.j0, Bool.false_eq_true, if_false]
              rw [if_neg e4, if_pos e5, if_pos c0, if_pos (by omega), if_pos k1, if_pos (by omega), if_pos (by omega), if_neg k2]
          · refine ⟨0, false, fun k hk => ?_, by simp⟩
            obtain ⟨k, rfl⟩ : ∃ m, k = m + 1 := ⟨k - 1, by omega⟩
            simp only [floor_Next.j0, Bool.false_eq_true, if_false]
            rw [if_neg e4, if_pos e5, if_pos c0, if_pos (by omega), if_neg k1]
        · refine ⟨r, true, fun k hk => ?_, by simp⟩
          obtain ⟨k, rfl⟩ : ∃ m, k = m + 1 := ⟨k - 1, by omega⟩
          simp only [floor_Next.j0, Bool.false_eq_true, if_false]
          rw [if_neg e4, if_neg e5]
  obtain ⟨n, b, hj, hn⟩ := main
  refine ⟨n, b, fun k hk => ?_, fun hb => ?_⟩
  · unfold floor_Next.f; rw [hr]; simp only [Option.bind_some]; rw [if_neg h0, if_pos c0, if_pos (by omega), if_neg w1, if_pos (by omega), if_pos (by omega), if_neg w2, if_pos (by omega), if_pos d0]; exact hj k hk
  · rw [hn hb]; exact ⟨by omega, by omega, w2⟩
section
variable {W H D : Int} {kd ot : List Int}
noncomputable def nx (F : FR W H D kd ot) (c d : Int) : Int := Classical.choose (next_some F c d)
noncomputable def ok (F : FR W H D kd ot) (c d : Int) : Bool := Classical.choose (Classical.choose_spec (next_some F c d))
theorem nx_is (F : FR W H D kd ot) (c d : Int) {k : Nat} (hk : 1 ≤ k) : floor_Next.f k W H D kd ot c d = some (nx F c d, ok F c d) :=
  (Classical.choose_spec (Classical.choose_spec (next_some F c d))).1 k hk
def mv (a : Int) : Bool := decide (1 ≤ a) && decide (a < 7)
theorem move_is {a : Int} (h0 : -1000 ≤ a) (h1 : a ≤ 1000) : robot_move.f a = some (a - 1, mv a) := by
  unfold robot_move.f mv
  rw [w64 (by omega) (by omega)]
  by_cases h : a ≥ 1
  · rw [if_pos h]; simp [h]
  · rw [if_neg h, decide_eq_false (show ¬ (1 ≤ a) by omega)]; simp
noncomputable def steps (F : FR W H D kd ot) : Int → List Int → Option (List Int)
  | _, [] => some []
  | c, a :: q => if mv a = true then (if ok F c (a - 1) = true then (steps F (nx F c (a - 1)) q).map (nx F c (a - 1) :: ·) else none) else steps F c q
def small (q : List Int) : Prop := ∀ a ∈ q, -1000 ≤ a ∧ a ≤ 1000
theorem small_cons {a : Int} {q : List Int} (h : small (a :: q)) : (-1000 ≤ a ∧ a ≤ 1000) ∧ small q := ⟨h a (by simp), fun b hb => h b (by simp [hb])⟩
theorem way_l0 (F : FR W H D kd ot) (q : List Int) (hq : q.length ≤ 1000) : ∀ (r pre : List Int) (c : Int) (i k : Nat), q.drop i = r → small r → i ≤ q.length → r.length + 1 < k → pre.length + r.length ≤ 5000 →
    robot_way.l0 k (pre ++ [c]) q (q.length : Int) (i : Int) W H D kd ot = some (match steps F c r with | some l => (pre ++ c :: l, true) | none => ([], false)) := by
  intro r
  induction r with
  | nil =>
    intro pre c i k hr hs hi hk hp
    obtain ⟨k, rfl⟩ : ∃ m, k = m + 1 := ⟨k - 1, by simp at hk; omega⟩
    have hl : q.length ≤ i := by simpa using hr
    simp only [robot_way.l0]
    rw [if_neg (by omega)]
    simp [steps]
  | cons a r ih =>
    intro pre c i k hr hs hi hk hp
    simp only [List.length_cons] at hk hp
    obtain ⟨k, rfl⟩ : ∃ m, k = m + 1 := ⟨k - 1, by omega⟩
    have hl : i < q.length := by
      rcases Nat.lt_or_ge i q.length with h | h
      · exact h
      · rw [List.drop_eq_nil_of_le h] at hr; cases hr
    have hd := List.drop_eq_getElem_cons hl
    rw [hr] at hd
    injection hd with ha hd
    have hrd : rd q (i : Int) = a := by simp [rd, hl, ha]
    obtain ⟨hsa, hsr⟩ := small_cons hs
    have hlen : ((pre ++ [c]).length : Int) = (pre.length : Int) + 1 := by simp
    have hlast : rd (pre ++ [c]) (pre.length : Int) = c := by simp [rd]
    simp only [robot_way.l0]
    rw [if_pos (by omega), if_pos (by omega), if_pos (by omega), hrd, move_is hsa.1 hsa.2]
    simp only [Option.bind_some]
    by_cases m : mv a = true
    · rw [if_pos m, hlen, w64 (x := (pre.length : Int) + 1 - 1) (by omega) (by omega), if_pos (by omega), if_pos (by omega), show (pre.length : Int) + 1 - 1 = pre.length from by omega, hlast, nx_is F _ _ (by omega)]
      simp only [Option.bind_some]
      by_cases o : ok F c (a - 1) = true
      · rw [if_pos o, if_pos (by simp; omega), w64 (by omega) (by omega)]
        have := ih (pre ++ [c]) (nx F c (a - 1)) (i + 1) k hd.symm hsr (by omega) (by omega) (by simp; omega)
        rw [show ((i + 1 : Nat) : Int) = (i : Int) + 1 from by omega] at this
        rw [this]
        simp only [steps, m, o, if_true]
        cases steps F (nx F c (a - 1)) r <;> simp
      · rw [if_neg o]
        simp only [steps, m, if_true]
        rw [if_neg o]
    · rw [if_neg m, w64 (by omega) (by omega)]
      have := ih pre c (i + 1) k hd.symm hsr (by omega) (by omega) (by omega)
      rw [show ((i + 1 : Nat) : Int) = (i : Int) + 1 from by omega] at this
      rw [this]
      simp only [steps, if_neg m]
theorem way_is (F : FR W H D kd ot) (c : Int) (q : List Int) (hq : q.length ≤ 1000) (hs : small q) {k : Nat} (hk : q.length + 1 < k) :
    robot_way.f k W H D kd ot c q = some (match steps F c q with | some l => (c :: l, true) | none => ([], false)) := by
  unfold robot_way.f
  exact way_l0 F q hq q [] c 0 k rfl hs (by omega) hk (by simp; omega)
structure MR (F : FR W H D kd ot) (c : Int) (q : List Int) : Prop where
  c0 : 0 ≤ c
  c1 : c < (kd.length : Int)
  kw : rd kd c ≠ 0
  q4 : q.length ≤ 4
  kn : q.any robot_known.bad = false
  st : ∃ l, steps F c q = some l
theorem small_of {q : List Int} (h : q.any robot_known.bad = false) : small q := by
  intro a ha
  rw [List.any_eq_false] at h
  have := h a ha
  unfold robot_known.bad at this
  simp at this
  omega
theorem right_is (F : FR W H D kd ot) (c : Int) (q : List Int) {k : Nat} (hk : kd.length + 10 ≤ k) : ∃ b, robot_Right.f k W H D kd ot c q = some b ∧ (b = true ↔ MR F c q) := by
  unfold robot_Right.f
  rw [right_some F (by omega)]
  simp only [Option.bind_some, if_true]
  by_cases h1 : c < 0
  · rw [if_pos h1]; exact ⟨false, rfl, by simp, fun m => by have := m.c0; omega⟩
  rw [if_neg h1]
  by_cases h2 : c ≥ (kd.length : Int)
  · rw [if_pos h2]; exact ⟨false, rfl, by simp, fun m => by have := m.c1; omega⟩
  rw [if_neg h2, if_pos (by omega), if_pos (by omega)]
  by_cases h3 : rd kd c = 0
  · rw [if_pos h3]; exact ⟨false, rfl, by simp, fun m => absurd h3 m.kw⟩
  rw [if_neg h3]
  by_cases h4 : (q.length : Int) > 4
  · rw [if_pos h4]; exact ⟨false, rfl, by simp, fun m => by have := m.q4; omega⟩
  rw [if_neg h4]
  unfold robot_known.f
  simp only [Option.bind_some]
  cases h5 : q.any robot_known.bad with
  | true => rw [if_neg (by simp)]; exact ⟨false, rfl, by simp, fun m => by rw [m.kn] at h5; cases h5⟩
  | false =>
    rw [if_pos (by simp), way_is F c q (by omega) (small_of h5) (by omega)]
    simp only [Option.bind_some]
    cases h6 : steps F c q with
    | none => exact ⟨false, rfl, by simp, fun m => by obtain ⟨l, hl⟩ := m.st; rw [h6] at hl; cases hl⟩
    | some l => exact ⟨true, rfl, fun _ => ⟨by omega, by omega, h3, by omega, h5, l, h6⟩, fun _ => rfl⟩
theorem Way_is (F : FR W H D kd ot) {c : Int} {q l : List Int} (m : MR F c q) (hl : steps F c q = some l) {k : Nat} (hk : 20 ≤ k) : robot_Way.f k W H D kd ot c q = some (c :: l) := by
  unfold robot_Way.f
  rw [way_is F c q (by have := m.q4; omega) (small_of m.kn) (by have := m.q4; omega), hl]
  rfl
theorem clone_is (c : Int) (q : List Int) (h : q.length ≤ 1000) : robot_clone.f c q = some (c, q) := by
  unfold robot_clone.f slices_Clone_int.f
  rw [if_pos (by omega)]
  rfl
end
theorem same_l0 (a b : List Int) (hl : a.length = b.length) (hm : a.length ≤ 100000) : ∀ (d k : Nat) (i : Nat), a.length - i = d → i ≤ a.length → d < k → ∃ r, taquinref07_Same.l0 k a b (i : Int) = some r ∧ (r = true ↔ a.drop i = b.drop i) := by
  intro d
  induction d with
  | zero =>
    intro k i hd hi hk
    obtain ⟨k, rfl⟩ : ∃ m, k = m + 1 := ⟨k - 1, by omega⟩
    simp only [taquinref07_Same.l0]
    rw [if_neg (by omega)]
    refine ⟨true, rfl, fun _ => ?_, fun _ => rfl⟩
    rw [List.drop_eq_nil_of_le (by omega), List.drop_eq_nil_of_le (by omega)]
  | succ d ih =>
    intro k i hd hi hk
    obtain ⟨k, rfl⟩ : ∃ m, k = m + 1 := ⟨k - 1, by omega⟩
    have h1 : i < a.length := by omega
    have h2 : i < b.length := by omega
    simp only [taquinref07_Same.l0]
    rw [if_pos (by omega), if_pos (by omega), if_pos (by omega), w64 (by omega) (by omega)]
    have e1 : rd a (i : Int) = a[i] := by simp [rd, h1]
    have e2 : rd b (i : Int) = b[i] := by simp [rd, h2]
    rw [e1, e2, List.drop_eq_getElem_cons h1, List.drop_eq_getElem_cons h2]
    by_cases e : a[i] = b[i]
    · rw [if_pos e, show ((i : Int) + 1) = ((i + 1 : Nat) : Int) from by omega]
      obtain ⟨r, hr, hh⟩ := ih k (i + 1) (by omega) (by omega) (by omega)
      exact ⟨r, hr, hh.trans ⟨fun h => by rw [e, h], fun h => (List.cons.inj h).2⟩⟩
    · rw [if_neg e]
      exact ⟨false, rfl, ⟨by simp, fun h => absurd (List.cons.inj h).1 e⟩⟩
theorem same_is (a b : List Int) (ha : a.length ≤ 1000) {k : Nat} (hk : a.length + 1 < k) : ∃ r, taquinref07_Same.f k a b = some r ∧ (r = true ↔ a = b) := by
  unfold taquinref07_Same.f
  by_cases h : (a.length : Int) = (b.length : Int)
  · rw [if_pos h]
    obtain ⟨r, hr, hh⟩ := same_l0 a b (by omega) (by omega) a.length k 0 (by omega) (by omega) (by omega)
    exact ⟨r, hr, by simpa using hh⟩
  · rw [if_neg h]
    exact ⟨false, rfl, by simp, fun e => by rw [e] at h; exact absurd rfl h⟩
theorem same_t (a : List Int) (ha : a.length ≤ 1000) {k : Nat} (hk : a.length + 1 < k) : taquinref07_Same.f k a a = some true := by
  obtain ⟨r, hr, h⟩ := same_is a a ha hk
  rw [hr, h.2 rfl]
theorem ref22_t (c : Int) (q : List Int) (hq : q.length ≤ 1000) {k : Nat} (hk : q.length + 1 < k) : taquinref22_Same.f k c q c q = some true := by
  unfold taquinref22_Same.f
  rw [if_pos rfl, same_t q hq hk]
  rfl
theorem few_is {W H D : Int} {kd ot : List Int} {c : Int} {q : List Int} {k : Nat} {b : Bool} (h : taquinlaw22_few.f k W H D kd ot c q = some b) (hb : b = true) : FR W H D kd ot ∧ kd.length ≤ 40 ∧ q.length ≤ 10 := by
  subst hb
  unfold taquinlaw22_few.f at h
  by_cases h1 : (kd.length : Int) ≤ 40
  · rw [if_pos h1] at h
    by_cases h2 : (ot.length : Int) ≤ 40
    · rw [if_pos h2] at h
      by_cases h3 : (q.length : Int) ≤ 10
      · rw [if_pos h3] at h
        obtain ⟨r, hr, h⟩ := Option.bind_eq_some_iff.1 h
        obtain rfl := Option.some.inj h
        exact ⟨ref_true hr, by omega, by omega⟩
      · rw [if_neg h3] at h; cases h
    · rw [if_neg h2] at h; cases h
  · rw [if_neg h1] at h; cases h
theorem few_some (W H D : Int) (kd ot : List Int) (c : Int) (q : List Int) : ∃ b, ∀ k, 100 ≤ k → taquinlaw22_few.f k W H D kd ot c q = some b := by
  have hl0 : ∀ (n : Int), (kd.length : Int) = n → (ot.length : Int) = n → n ≤ 40 → ∀ (d k : Nat) (i : Int), 0 ≤ i → n - i = d → d < k → ∃ b, taquinref07_Right.l0 k n i W H D kd ot = some b := by
    intro n h1 h2 h3 d
    induction d with
    | zero =>
      intro k i h0 hd hk
      obtain ⟨k, rfl⟩ : ∃ m, k = m + 1 := ⟨k - 1, by omega⟩
      simp only [taquinref07_Right.l0]
      rw [if_neg (by omega)]
      exact ⟨true, rfl⟩
    | succ d ih =>
      intro k i h0 hd hk
      obtain ⟨k, rfl⟩ : ∃ m, k = m + 1 := ⟨k - 1, by omega⟩
      simp only [taquinref07_Right.l0]
      rw [if_pos (by omega), if_pos h0, if_pos (by omega)]
      by_cases a1 : rd kd i < 0
      · rw [if_pos a1]; exact ⟨false, rfl⟩
      rw [if_neg a1]
      by_cases a2 : rd kd i ≥ 7
      · rw [if_pos a2]; exact ⟨false, rfl⟩
      rw [if_neg a2, if_pos (by omega)]
      by_cases a4 : rd ot i < 0
      · rw [if_pos a4]; exact ⟨false, rfl⟩
      rw [if_neg a4]
      by_cases a5 : rd ot i > 63
      · rw [if_pos a5]; exact ⟨false, rfl⟩
      rw [if_neg a5, w64 (by omega) (by omega)]
      exact ih k (i + 1) (by omega) (by omega) (by omega)
  have hj1 : ∀ (k : Nat) (n : Int) (x : Bool), 60 ≤ k → (x = false → (kd.length : Int) = n ∧ (ot.length : Int) = n ∧ n ≤ 40) → ∃ b, taquinref07_Right.j1 k n x W H D kd ot = some b := by
    intro k n x hk h
    obtain ⟨k, rfl⟩ : ∃ m, k = m + 1 := ⟨k - 1, by omega⟩
    cases x with
    | true => exact ⟨false, by simp [taquinref07_Right.j1]⟩
    | false =>
      obtain ⟨h1, h2, h3⟩ := h rfl
      simp only [taquinref07_Right.j1, Bool.false_eq_true, if_false]
      exact hl0 n h1 h2 h3 n.toNat k 0 (by omega) (by omega) (by omega)
  have hj0 : ∀ (k : Nat) (x : Bool), 70 ≤ k → kd.length ≤ 40 → ∃ b, taquinref07_Right.j0 k x W H D kd ot = some b := by
    intro k x hk h
    obtain ⟨k, rfl⟩ : ∃ m, k = m + 1 := ⟨k - 1, by omega⟩
    cases x with
    | true => exact ⟨false, by simp [taquinref07_Right.j0]⟩
    | false =>
      simp only [taquinref07_Right.j0, Bool.false_eq_true, if_false]
      generalize wrap64 (wrap64 (W * H) * D) = n
      by_cases a : n > 4096
      · rw [if_pos a]; exact hj1 k n true (by omega) (by simp)
      rw [if_neg a]
      by_cases b : (kd.length : Int) = n
      · rw [if_pos b]
        refine hj1 k n _ (by omega) fun e => ⟨b, ?_, by omega⟩
        simpa using e
      · rw [if_neg b]; exact hj1 k n true (by omega) (by simp)
  have hf : kd.length ≤ 40 → ∃ b, taquinref07_Right.f 100 W H D kd ot = some b := by
    intro h
    unfold taquinref07_Right.f
    repeat' split
    all_goals exact hj0 100 _ (by omega) h
  have key : ∃ b, taquinlaw22_few.f 100 W H D kd ot c q = some b := by
    unfold taquinlaw22_few.f
    by_cases h1 : (kd.length : Int) ≤ 40
    · rw [if_pos h1]
      obtain ⟨b, hb⟩ := hf (by omega)
      rw [hb]
      repeat' split
      · exact ⟨b, rfl⟩
      · exact ⟨false, rfl⟩
      · exact ⟨false, rfl⟩
    · rw [if_neg h1]; exact ⟨false, rfl⟩
  obtain ⟨b, hb⟩ := key
  exact ⟨b, fun k hk => at_rounds (g := fun k => taquinlaw22_few.f k W H D kd ot c q) (fun k => taquinlaw22_few.mono _ _ _ _ _ _ _ k) hk hb⟩
end Go.Proofs.YtphcihbffiggbaaGreatDoor.RobPureRt

/- RobotTells over numbers and lists: what is written and read. No program in sight. -/
import Derived.Test.YtphcihbffiggbaaGreatDoorRobPureTRt
import Derived.Test.YtphcihbffiggbaaGreatDoorWireWNRt
import Derived.Test.YtphcihbffiggbaaGreatDoorWireQ0Rt
import Derived.Test.YtphcihbffiggbaaGreatDoorPRtx11
import Derived.Test.YtphcihbffiggbaaGreatDoorPRtx13
import Derived.Test.YtphcihbffiggbaaGreatDoorPRtx12
import Derived.Test.YtphcihbffiggbaaGreatDoorPRtx8
import Derived.Test.YtphcihbffiggbaaGreatDoorPRtx15
import Derived.Test.YtphcihbffiggbaaGreatDoorPRtx4
import Derived.Test.YtphcihbffiggbaaGreatDoorPRtx3
namespace Go.Proofs.YtphcihbffiggbaaGreatDoor.RobPureRt
open Go.RowKit Go.Proofs.YtphcihbffiggbaaGreatDoor.PRt Go.Proofs.YtphcihbffiggbaaGreatDoorW.PrintWords Go.Proofs.YtphcihbffiggbaaGreatDoorW.PrintLast Go.Proofs.YtphcihbffiggbaaGreatDoorW.PrintMore Go.Proofs.YtphcihbffiggbaaGreatDoor.WireB
set_option linter.unusedVariables false
set_option linter.unusedSimpArgs false
section
variable {W H D : Int} {kd ot : List Int}
theorem ev_from {α : Type} {g : Nat → Option α} {r : α} (K : Nat) (h : ∀ k, K ≤ k → g k = some r) : Ev g r := ⟨K, h⟩
theorem ref_read_eq (k : Nat) (a0_0 a0_1 a0_2 : Int) (l0_3 l0_4 : List Int) (a1 : ByteArray) : taquinref22_Read.f (k + 1) a0_0 a0_1 a0_2 l0_3 l0_4 a1 = (taquinref01_Open.f a1).bind fun bt404 => ((taquinref01_Reader_Int.f (k + 1) bt404.1 bt404.2).bind fun bt408 => ((taquinref01_Reader_Nums.f (k + 1) bt408.2.1 bt408.2.2).bind fun bt411 => ((taquinref01_Reader_Done.f bt411.2.1 bt411.2.2).bind fun bt416 => (if bt416.1 = true then ((taquinref22_Right.f (k + 1) a0_0 a0_1 a0_2 l0_3 l0_4 bt408.1 bt411.1).bind fun t419 => (if t419 = true then ((taquinref22_Bytes.f (k + 1) bt408.1 bt411.1).bind fun t420 => (if t420.toList = a1.toList then (some (bt408.1, bt411.1, true)) else (some (0, ([] : List Int), false)))) else (some (0, ([] : List Int), false)))) else (some (0, ([] : List Int), false)))))) := by
  unfold taquinref22_Read.f
  simp only [taquinref22_Read.j0, bne_iff_ne, ne_eq, ite_not, if_true]
theorem ev_succ {α : Type} {g f : Nat → Option α} {r : α} (h : ∀ k, g (k + 1) = f (k + 1)) (hf : Ev f r) : Ev g r := by
  obtain ⟨K, hK⟩ := hf
  refine ⟨K + 1, fun k hk => ?_⟩
  obtain ⟨k, rfl⟩ : ∃ m, k = m + 1 := ⟨k - 1, by omega⟩
  rw [h]
  exact hK _ (by omega)
theorem ref_bytes {F : FR W H D kd ot} {c : Int} {q : List Int} (m : MR F c q) (hk : kd.length ≤ 40) : Ev (fun k => taquinref22_Bytes.f k c q) (B (enc c q)) := by
  obtain ⟨h1, h2⟩ := m.ints hk
  have h4 := m.q4
  have l1 := encInt_le h1
  have l2 := encNums_le q h2 (by omega)
  unfold taquinref22_Bytes.f
  refine Ev.bind (WireWRt.ref_int_ev h1) ?_
  refine Ev.bind (WireWRt.ref_nums_ev h2 (by omega)) ?_
  refine Ev.congr (fun k => if_pos (by rw [b_size, b_size]; omega)) ?_
  rw [b_append]
  exact Ev.now _
theorem tells_read (F : FR W H D kd ot) (hkd : kd.length ≤ 40) (t : List UInt8) (ht : t.length ≤ 1000000) :
    ∃ c q b, (∀ k, kd.length + 10 ≤ k → robot_Read.f k W H D kd ot (B t) = some (c, q, b)) ∧ Ev (fun k => taquinref22_Read.f k W H D kd ot (B t)) (c, q, b) ∧ q.length ≤ 1000 := by
  have hle : (WireMath.rInt (t, false)).2.1.length ≤ t.length := (WireMath.number_le 59 (by decide) (-9223372036854775808) (t, false)).1
  have hok : WireMath.Ok (WireMath.rInt (t, false)).2 := WireMath.rInt_ok (fun h => by cases h)
  have hev := WireQRt.int t false ht
  suffices hsuf : ∃ c q b, (∀ k, kd.length + 10 ≤ k + 1 → robot_Read.f (k + 1) W H D kd ot (B t) = some (c, q, b)) ∧ Ev (fun k => (taquinref01_Open.f (B t)).bind fun bt404 => ((taquinref01_Reader_Int.f k bt404.1 bt404.2).bind fun bt408 => ((taquinref01_Reader_Nums.f k bt408.2.1 bt408.2.2).bind fun bt411 => ((taquinref01_Reader_Done.f bt411.2.1 bt411.2.2).bind fun bt416 => (if bt416.1 = true then ((taquinref22_Right.f k W H D kd ot bt408.1 bt411.1).bind fun t419 => (if t419 = true then ((taquinref22_Bytes.f k bt408.1 bt411.1).bind fun t420 => (if t420.toList = (B t).toList then (some (bt408.1, bt411.1, true)) else (some (0, ([] : List Int), false)))) else (some (0, ([] : List Int), false)))) else (some (0, ([] : List Int), false))))))) (c, q, b) ∧ q.length ≤ 1000 by
    obtain ⟨c, q, b, h1, h2, h3⟩ := hsuf
    refine ⟨c, q, b, fun k hk => ?_, ev_succ (fun k => ref_read_eq k _ _ _ _ _ _) h2, h3⟩
    obtain ⟨k, rfl⟩ : ∃ m, k = m + 1 := ⟨k - 1, by omega⟩
    exact h1 k hk
  simp only [read_eq]
  rw [show wire_Open.f (B t) = some (B t, false) from rfl, show taquinref01_Open.f (B t) = some (B t, false) from rfl]
  simp only [Option.bind_some]
  rw [rd_int]
  simp only [Option.bind_some]
  generalize WireMath.rInt (t, false) = r0 at hle hok hev
  obtain ⟨c, u0, d0⟩ := r0
  simp only [WireQRt.out] at hle hok hev ⊢
  have hev2 := WireQRt.nums u0 d0 (by omega) hok
  rw [rd_nums _ _ (by omega)]
  simp only [Option.bind_some]
  generalize WireMath.rNums (u0, d0) = r at hev2
  obtain ⟨q, u, d⟩ := r
  simp only [WireQRt.out] at hev2 ⊢
  rw [rd_done]
  simp only [Option.bind_some]
  have hdone : taquinref01_Reader_Done.f (B u) d = some (!d && u.isEmpty, B u, d) := by
    unfold taquinref01_Reader_Done.f
    cases d
    · rw [if_neg (by simp), b_toList]
      cases u <;> rfl
    · rfl
  have stop : Ev (fun k => (some (0, ([] : List Int), false) : Option (Int × List Int × Bool))) (0, [], false) := Ev.now _
  have lift : ∀ r, Ev (fun k => if (!d && u.isEmpty) = true then ((taquinref22_Right.f k W H D kd ot c q).bind fun t419 => (if t419 = true then ((taquinref22_Bytes.f k c q).bind fun t420 => (if t420.toList = (B t).toList then (some (c, q, true)) else (some (0, ([] : List Int), false)))) else (some (0, ([] : List Int), false)))) else (some (0, ([] : List Int), false))) r →
      Ev (fun k => (taquinref01_Reader_Int.f k (B t) false).bind fun bt408 => ((taquinref01_Reader_Nums.f k bt408.2.1 bt408.2.2).bind fun bt411 => ((taquinref01_Reader_Done.f bt411.2.1 bt411.2.2).bind fun bt416 => (if bt416.1 = true then ((taquinref22_Right.f k W H D kd ot bt408.1 bt411.1).bind fun t419 => (if t419 = true then ((taquinref22_Bytes.f k bt408.1 bt411.1).bind fun t420 => (if t420.toList = (B t).toList then (some (bt408.1, bt411.1, true)) else (some (0, ([] : List Int), false)))) else (some (0, ([] : List Int), false)))) else (some (0, ([] : List Int), false)))))) r := by
    intro r h
    refine Ev.bind hev ?_
    refine Ev.bind hev2 ?_
    simp only [hdone, Option.bind_some]
    exact h
  by_cases hd : (!d && u.isEmpty) = true
  · obtain ⟨b, hb, hiff⟩ := right_is F c q (k := kd.length + 10) (by omega)
    have hb2 : ∀ k, kd.length + 10 ≤ k → robot_Right.f k W H D kd ot c q = some b := fun k hk => at_rounds (g := fun k => robot_Right.f k W H D kd ot c q) (fun k => robot_Right.mono _ _ _ _ _ _ _ k) hk hb
    obtain ⟨b', hb', hiff'⟩ := ref_right_is F c q (k := kd.length + 40) (by omega)
    have e : b' = b := by rw [Bool.eq_iff_iff]; exact hiff'.trans hiff.symm
    subst e
    have hb3 : Ev (fun k => taquinref22_Right.f k W H D kd ot c q) b' := ev_from (kd.length + 40) (fun k hk => at_rounds (g := fun k => taquinref22_Right.f k W H D kd ot c q) (fun k => taquinref22_Right.mono _ _ _ _ _ _ _ k) hk hb')
    cases b' with
    | false =>
      refine ⟨0, [], false, fun k hk => ?_, lift _ ?_, by simp⟩
      · rw [if_pos hd, hb2 (k + 1) hk, Option.bind_some, if_neg (by simp)]
      · refine Ev.congr (fun k => if_pos hd) ?_
        refine Ev.bind hb3 ?_
        exact Ev.congr (fun k => if_neg (by simp)) stop
    | true =>
      have m := hiff.1 rfl
      have h4 := m.q4
      by_cases he : enc c q = t
      · refine ⟨c, q, true, fun k hk => ?_, lift _ ?_, by omega⟩
        · rw [if_pos hd, hb2 (k + 1) hk, Option.bind_some, if_pos rfl, bytes_is m hkd, Option.bind_some, if_pos (by rw [he])]
        · refine Ev.congr (fun k => if_pos hd) ?_
          refine Ev.bind hb3 ?_
          refine Ev.congr (fun k => if_pos rfl) ?_
          refine Ev.bind (ref_bytes m hkd) ?_
          exact Ev.congr (fun k => if_pos (by rw [he])) (Ev.now _)
      · have hne : ¬ (B (enc c q)).toList = (B t).toList := by rw [b_toList, b_toList]; exact he
        refine ⟨0, [], false, fun k hk => ?_, lift _ ?_, by simp⟩
        · rw [if_pos hd, hb2 (k + 1) hk, Option.bind_some, if_pos rfl, bytes_is m hkd, Option.bind_some, if_neg (by rw [b_toList, b_toList]; exact he)]
        · refine Ev.congr (fun k => if_pos hd) ?_
          refine Ev.bind hb3 ?_
          refine Ev.congr (fun k => if_pos rfl) ?_
          refine Ev.bind (ref_bytes m hkd) ?_
          exact Ev.congr (fun k => if_neg hne) stop
  · refine ⟨0, [], false, fun k hk => ?_, lift _ ?_, by simp⟩
    · rw [if_neg hd]
    · exact Ev.congr (fun k => if_neg hd) stop
end
section
variable {W H D : Int} {kd ot : List Int}
theorem steps_len (F : FR W H D kd ot) : ∀ (q : List Int) (c : Int) (l : List Int), steps F c q = some l → l.length ≤ q.length := by
  intro q
  induction q with
  | nil => intro c l h; simp [steps] at h; subst h; simp
  | cons a q ih =>
    intro c l h
    simp only [steps] at h
    by_cases m : mv a = true
    · rw [if_pos m] at h
      by_cases o : ok F c (a - 1) = true
      · rw [if_pos o] at h
        obtain ⟨l', hl, rfl⟩ := Option.map_eq_some_iff.1 h
        have := ih _ _ hl
        simp; omega
      · rw [if_neg o] at h; cases h
    · rw [if_neg m] at h
      have := ih _ _ h
      simp; omega
end
theorem next_eq (c : Int) (q : List Int) : robot_Next.f c q = taquinref22_Next.f c q := rfl
theorem act_some (c : Int) (q : List Int) : ∃ a, robot_Next.f c q = some a ∧ taquinref22_Next.f c q = some a := by
  rw [← next_eq]
  unfold robot_Next.f
  by_cases h : (q.length : Int) = 0
  · rw [if_pos h]; exact ⟨_, rfl, rfl⟩
  · rw [if_neg h, if_pos (by omega)]; exact ⟨_, rfl, rfl⟩

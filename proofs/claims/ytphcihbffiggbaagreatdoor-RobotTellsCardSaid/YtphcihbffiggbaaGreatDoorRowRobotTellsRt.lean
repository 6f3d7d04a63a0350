/- RobotTells: for every argument the law returns true, and its arguments read afterwards as they did. No condition. -/
import Derived.Test.YtphcihbffiggbaaGreatDoorRows
import Derived.Test.YtphcihbffiggbaaGreatDoorTie
import Derived.Test.YtphcihbffiggbaaGreatDoorCards
import Derived.Test.YtphcihbffiggbaaGreatDoorOpens
import Derived.Test.YtphcihbffiggbaaGreatDoorLaid
import Derived.Test.YtphcihbffiggbaaGreatDoorFactsRobotTells
import Derived.Test.YtphcihbffiggbaaGreatDoorRobLawRt
import Derived.WalkKit
import Derived.ProofKit
import Derived.OpenShut
import Derived.ShutString
import Derived.ChangeOld
import Derived.ChangeMaps5
import Derived.Below
import Derived.SizedLaws
import Derived.LaidMore
import Derived.Stop.Joined
import Derived.SevenTiedAt
namespace Go.Proofs.YtphcihbffiggbaaGreatDoor.robotTells
open Go.ChangeShapes Go.WideShapes Go.ChangeAt Go.ChangeMaps Go.RowKit Go.Proofs.YtphcihbffiggbaaGreatDoor.Opens Go.Proofs.YtphcihbffiggbaaGreatDoorW.PrintWords Go.Proofs.YtphcihbffiggbaaGreatDoor.PRt
set_option linter.unusedVariables false
theorem own : ownKnob Tryz.prog.godebug = none := by kernel_rfl
def okI (n : Int) : Prop := (Lit.int .i64 n).wf = true
theorem okI.is {n : Int} (h : okI n) : WireMath.isInt n := bounds_i64 h
theorem cellsInt : Tryz.prog.cellsOf 3 = 1 := by kernel_rfl
theorem opens_ints : Opens Tryz.prog (Kd.slice 3 (Kd.int .i64)) 22 (fun l => l.length ≤ maxLen ∧ ∀ a ∈ l, okI a) := opens_slice Tryz.underlying22 cellsInt (opens_int Tryz.underlying3)
theorem cellsInts : Tryz.prog.cellsOf 22 = 1 := by kernel_rfl
theorem cellsFloor : Tryz.prog.cellsOf 24 = 5 := by kernel_rfl
abbrev Fl := Int × Int × Int × List Int × List Int
theorem opens_floor : Opens Tryz.prog (Kd.pair (Kd.int .i64) (Kd.pair (Kd.int .i64) (Kd.pair (Kd.int .i64) (Kd.pair (Kd.slice 3 (Kd.int .i64)) (Kd.slice 3 (Kd.int .i64)))))) 24 (fun x : Fl => okI x.1 ∧ okI x.2.1 ∧ okI x.2.2.1 ∧ (x.2.2.2.1.length ≤ maxLen ∧ ∀ a ∈ x.2.2.2.1, okI a) ∧ x.2.2.2.2.length ≤ maxLen ∧ ∀ a ∈ x.2.2.2.2, okI a) :=
  opens_struct (fun x : Fl => x) (fun a => a) (fun _ => rfl) Tryz.underlying24 cellsFloor (opensF_cons rfl cellsInt (opens_int Tryz.underlying3) (opensF_cons rfl cellsInt (opens_int Tryz.underlying3) (opensF_cons rfl cellsInt (opens_int Tryz.underlying3) (opensF_cons rfl cellsInts opens_ints (opensF_one rfl cellsInts opens_ints)))))
theorem cellsMind : Tryz.prog.cellsOf 26 = 2 := by kernel_rfl
theorem opens_mind : Opens Tryz.prog (Kd.pair (Kd.int .i64) (Kd.slice 3 (Kd.int .i64))) 26 (fun x : Int × List Int => okI x.1 ∧ x.2.length ≤ maxLen ∧ ∀ a ∈ x.2, okI a) :=
  opens_struct (fun x : Int × List Int => x) (fun a => a) (fun _ => rfl) Tryz.underlying26 cellsMind (opensF_cons rfl cellsInt (opens_int Tryz.underlying3) (opensF_one rfl cellsInts opens_ints))
theorem door_met (os : Os) (args : Array Value) : laidMetH Tryz.prog laidL ((World.doorLaid Tryz.prog 62 os).forCall (fun _ _ => 0) ⟨#[], args, []⟩).memory :=
  laidMetH_of_parts3 (fuel := 8) (laidMet_of_run' 8 (by kernel_rfl) (by kernel_rfl)) (by kernel_rfl) (by kernel_rfl)
set_option maxRecDepth 100000 in
theorem lifted (os : Os) (started : os.Started) (H : Type) (enc : TypeId × Value → H) :
    ReturnsInHanded {} Tryz.checked os 3 .any (fun w args => (Rows.robotTellsSpec.pre enc Tryz.prog Tryz.f3 [] false w args ∧ laidMetH Tryz.prog laidL w) ∧ sizedMet enc Tryz.prog Tryz.f3 (OpenSpec.ofChange Rows.robotTellsSpec) false w args)
      (Rows.robotTellsSpec.post enc Tryz.prog Tryz.f3 false true false false) := by
  refine returnsInHanded_of_change_and (C := Tryz.checked) (X := fun w _ => laidMetH Tryz.prog laidL w) (fun _ _ _ hh h => h.of_heap hh) own started (by kernel_rfl) Tryz.func3
    (ChangeSpec.witness_shaped (enc := enc) (C := Tryz.checked) (os := os) (X := fun w _ => laidMetH Tryz.prog laidL w) false (World.doorLaid Tryz.prog 62 os) #[.agg #[.int .i64 0, .int .i64 0, .int .i64 0, .slice none 0 0, .slice none 0 0], .agg #[.int .i64 0, .slice none 0 0], .slice none 0 0, .int .i64 0, .bool false, .string ⟨#[]⟩] 8 rfl (World.shaped_of_RefB (by kernel_rfl) (by kernel_rfl)) (by kernel_rfl) (by kernel_rfl) (by kernel_rfl) (door_met os _)) ?_
  intro W base args ds gs before hval0 hW _ _ hL _
  have hval : ∀ (j : Nat) t v, Tryz.f3.params[j]? = some t → args[j]? = some v → Value.okWide Tryz.prog W .any base t v := hval0
  have hW' := hW
  obtain ⟨p, q, hA0, hV, rfl, hfz, hnd⟩ := hW
  have hA : DataW.TrodAll enc Tryz.prog W 0 (fun _ => true) true Tryz.f3.params.toList args.toList ds p := hA0
  rw [Tryz.params3] at hA hval
  obtain ⟨v0, vs0, d0, ds0, p0, q0, hargs, rfl, rfl, h0, r0⟩ := trodAll_cons hA
  obtain ⟨v1, vs1, d1, ds1, p1, q1, rfl, rfl, rfl, h1, r1⟩ := trodAll_cons r0
  obtain ⟨v2, vs2, d2, ds2, p2, q2, rfl, rfl, rfl, h2, r2⟩ := trodAll_cons r1
  obtain ⟨v3, vs3, d3, ds3, p3, q3, rfl, rfl, rfl, h3, r3⟩ := trodAll_cons r2
  obtain ⟨v4, vs4, d4, ds4, p4, q4, rfl, rfl, rfl, h4, r4⟩ := trodAll_cons r3
  obtain ⟨v5, vs5, d5, ds5, p5, q5, rfl, rfl, rfl, h5, r5⟩ := trodAll_cons r4
  obtain ⟨rfl, rfl, rfl⟩ := trodAll_nil r5
  obtain rfl : args = #[v0, v1, v2, v3, v4, v5] := by cases args; simp_all
  obtain ⟨rfl, rfl⟩ := trodVars_none hV
  have lt0 : ∀ x ∈ p0, x.block < W.heap.size := by obtain ⟨m, hm⟩ := h0; exact DataW.trod_lt m _ _ _ hm
  have lt1 : ∀ x ∈ p1, x.block < W.heap.size := by obtain ⟨m, hm⟩ := h1; exact DataW.trod_lt m _ _ _ hm
  have lt2 : ∀ x ∈ p2, x.block < W.heap.size := by obtain ⟨m, hm⟩ := h2; exact DataW.trod_lt m _ _ _ hm
  have lt3 : ∀ x ∈ p3, x.block < W.heap.size := by obtain ⟨m, hm⟩ := h3; exact DataW.trod_lt m _ _ _ hm
  have lt4 : ∀ x ∈ p4, x.block < W.heap.size := by obtain ⟨m, hm⟩ := h4; exact DataW.trod_lt m _ _ _ hm
  have lt5 : ∀ x ∈ p5, x.block < W.heap.size := by obtain ⟨m, hm⟩ := h5; exact DataW.trod_lt m _ _ _ hm
  obtain ⟨⟨f0_0, f0_1, f0_2, f0_3, f0_4⟩, cs0, rfl, g0, e0⟩ := arg_struct opens_floor Tryz.underlying24 (hval 0 24 v0 rfl rfl) h0
  obtain ⟨_, _, rfl, rfl, _, _, rfl, rfl, _, _, rfl, rfl, _, _, rfl, ⟨A0_3, c0_3, rfl, b0_3, e0_3⟩, A0_4, c0_4, rfl, b0_4, e0_4⟩ := e0
  obtain ⟨⟨f1_0, f1_1⟩, cs1, rfl, g1, e1⟩ := arg_struct opens_mind Tryz.underlying26 (hval 1 26 v1 rfl rfl) h1
  obtain ⟨_, _, rfl, rfl, A1_1, c1_1, rfl, b1_1, e1_1⟩ := e1
  obtain ⟨A2, c2, l2, rfl, g2, b2, e2⟩ := arg_slice opens_ints Tryz.underlying22 (hval 2 22 v2 rfl rfl) h2
  obtain ⟨n3, rfl, rfl, rfl, g3⟩ := open_int Tryz.underlying3 (hval 3 3 v3 rfl rfl) h3
  obtain ⟨o4, rfl, rfl, rfl⟩ := open_bool Tryz.underlying4 (hval 4 4 v4 rfl rfl) h4
  obtain ⟨s5, rfl, rfl, rfl, g5⟩ := open_string Tryz.underlying9 (hval 5 9 v5 rfl rfl) h5
  have hT := tabs_of_laid hL
  clear hA0 hval0 hL
  refine (RobLawRt.all f0_0 f0_1 f0_2 A0_3 c0_3 f0_3 A0_4 c0_4 f0_4 f1_0 A1_1 c1_1 f1_1 A2 c2 l2 n3 o4 s5 W ⟨e0_3, e0_4, e1_1, e2, trivial⟩ b0_3 b0_4 b1_1 b2 hT).mono fun e W' ⟨he, bel⟩ => ?_
  subst he
  exact ⟨_, rfl, _, _, _, [], _, [], hW', trodAll_mk1 (shut_bool Tryz.underlying4 _),
    (trodAll_cons_mk (Below.trod AllFacts.laidOut (by kernel_rfl) (of_decide_eq_true (by kernel_rfl)) h0 bel lt0) (trodAll_cons_mk (Below.trod AllFacts.laidOut (by kernel_rfl) (of_decide_eq_true (by kernel_rfl)) h1 bel lt1) (trodAll_cons_mk (Below.trod AllFacts.laidOut (by kernel_rfl) (of_decide_eq_true (by kernel_rfl)) h2 bel lt2) (trodAll_cons_mk (Below.trod AllFacts.laidOut (by kernel_rfl) (of_decide_eq_true (by kernel_rfl)) h3 bel lt3) (trodAll_cons_mk (Below.trod AllFacts.laidOut (by kernel_rfl) (of_decide_eq_true (by kernel_rfl)) h4 bel lt4) (trodAll_cons_mk (Below.trod AllFacts.laidOut (by kernel_rfl) (of_decide_eq_true (by kernel_rfl)) h5 bel lt5) trodAll_mk0)))))), rfl, bel.frame _, fun h => by cases h⟩
theorem over : Rows.RobotTellsSaid :=
  OpenClaim.holds_of_wide 3 Tryz.f3 rfl rfl rfl rfl rfl rfl rfl ⟨rfl, rfl, rfl, rfl, rfl⟩ rfl rfl rfl rfl rfl (by as_aux_lemma => kernel_rfl) Tryz.func3 closed
    (of_decide_eq_true (by as_aux_lemma => kernel_rfl)) (by unfold Func.isWrapper; first | (rw [if_pos (by decide +kernel)]; kernel_rfl) | (rw [if_neg (by decide +kernel)]; exact ⟨rfl, rfl⟩))
    (fun os started H enc _ => lifted os started H enc)
theorem card : Rows.RobotTellsCardSaid :=
  Claim7.holds_tied_plain_at .later [] [.data, .data, .data, .sentinel, .sentinel] true Rows.robotTellsCard.stood.harness Rows.robotTellsCard.stood.looks
    over (fun _ h => by cases h) (by as_aux_lemma => kernel_rfl) (fun _ h => by cases h) robotTells_row_tie rfl ⟨rfl, rfl⟩ (by as_aux_lemma => kernel_rfl) rfl
    (fun f fn hf hfn => by
      obtain rfl : f = 3 := Option.some.inj ((show Tryz.prog.funcNamed Rows.robotTellsRow.func = some 3 by kernel_rfl).symm.trans hf) |>.symm
      obtain rfl : fn = Tryz.f3 := (Option.some.inj (Tryz.func3.symm.trans hfn)).symm
      exact ⟨by kernel_rfl, fun j t ht => by
        rw [Tryz.params3] at ht
        have hm : t ∈ [24, 26, 22, 3, 4, 9] := by simpa using Array.mem_of_getElem? ht
        have hall : ([24, 26, 22, 3, 4, 9].all fun u => !Tryz.prog.wantsStandIn u) = true := by kernel_rfl
        exact (show Tryz.prog.wantsStandIn t = false by simpa using List.all_eq_true.1 hall t hm)⟩)
    (by as_aux_lemma => kernel_rfl)
#print axioms card
end Go.Proofs.YtphcihbffiggbaaGreatDoor.robotTells
namespace Go.Proofs.YtphcihbffiggbaaGreatDoor
theorem robotTells_holds : Rows.RobotTellsCardSaid := robotTells.card
end Go.Proofs.YtphcihbffiggbaaGreatDoor

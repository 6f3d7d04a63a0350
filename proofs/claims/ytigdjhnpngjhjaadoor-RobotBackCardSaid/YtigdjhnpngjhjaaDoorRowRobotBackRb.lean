/- RobotBack: for every argument the law returns true, and its arguments read afterwards as they did. No condition. -/
import Derived.Test.YtigdjhnpngjhjaaDoorRows
import Derived.Test.YtigdjhnpngjhjaaDoorTie
import Derived.Test.YtigdjhnpngjhjaaDoorCards
import Derived.Test.YtigdjhnpngjhjaaDoorOpens
import Derived.Test.YtigdjhnpngjhjaaDoorLaid
import Derived.Test.YtigdjhnpngjhjaaDoorFactsRobotBack
import Derived.Test.YtigdjhnpngjhjaaDoorRobPureBRb
import Derived.WalkKit
import Derived.ProofKit
import Derived.OpenShut
import Derived.ShutString
import Derived.ChangeOld
import Derived.ChangeMaps5
import Derived.Below
import Derived.SizedLaws
import Derived.LaidMore
import Derived.Stop.Joined
import Derived.SevenTiedAt
namespace Go.Proofs.YtigdjhnpngjhjaaDoor.robotBack
open Go.ChangeShapes Go.WideShapes Go.ChangeAt Go.ChangeMaps Go.RowKit Go.Proofs.YtigdjhnpngjhjaaDoor.Opens Go.Proofs.YtigdjhnpngjhjaaDoorW.PrintWords Go.Proofs.YtigdjhnpngjhjaaDoor.PRb
set_option linter.unusedVariables false
theorem own : ownKnob Tryd.prog.godebug = none := by kernel_rfl
def okI (n : Int) : Prop := (Lit.int .i64 n).wf = true
theorem okI.is {n : Int} (h : okI n) : WireMath.isInt n := bounds_i64 h
theorem cellsInt : Tryd.prog.cellsOf 3 = 1 := by kernel_rfl
theorem opens_ints : Opens Tryd.prog (Kd.slice 3 (Kd.int .i64)) 22 (fun l => l.length ≤ maxLen ∧ ∀ a ∈ l, okI a) := opens_slice Tryd.underlying22 cellsInt (opens_int Tryd.underlying3)
theorem cellsInts : Tryd.prog.cellsOf 22 = 1 := by kernel_rfl
theorem cellsFloor : Tryd.prog.cellsOf 91 = 5 := by kernel_rfl
abbrev Fl := Int × Int × Int × List Int × List Int
theorem opens_floor : Opens Tryd.prog (Kd.pair (Kd.int .i64) (Kd.pair (Kd.int .i64) (Kd.pair (Kd.int .i64) (Kd.pair (Kd.slice 3 (Kd.int .i64)) (Kd.slice 3 (Kd.int .i64)))))) 91 (fun x : Fl => okI x.1 ∧ okI x.2.1 ∧ okI x.2.2.1 ∧ (x.2.2.2.1.length ≤ maxLen ∧ ∀ a ∈ x.2.2.2.1, okI a) ∧ x.2.2.2.2.length ≤ maxLen ∧ ∀ a ∈ x.2.2.2.2, okI a) :=
  opens_struct (fun x : Fl => x) (fun a => a) (fun _ => rfl) Tryd.underlying91 cellsFloor (opensF_cons rfl cellsInt (opens_int Tryd.underlying3) (opensF_cons rfl cellsInt (opens_int Tryd.underlying3) (opensF_cons rfl cellsInt (opens_int Tryd.underlying3) (opensF_cons rfl cellsInts opens_ints (opensF_one rfl cellsInts opens_ints)))))
theorem cellsMind : Tryd.prog.cellsOf 115 = 2 := by kernel_rfl
theorem opens_mind : Opens Tryd.prog (Kd.pair (Kd.int .i64) (Kd.slice 3 (Kd.int .i64))) 115 (fun x : Int × List Int => okI x.1 ∧ x.2.length ≤ maxLen ∧ ∀ a ∈ x.2, okI a) :=
  opens_struct (fun x : Int × List Int => x) (fun a => a) (fun _ => rfl) Tryd.underlying115 cellsMind (opensF_cons rfl cellsInt (opens_int Tryd.underlying3) (opensF_one rfl cellsInts opens_ints))
theorem door_met (os : Os) (args : Array Value) : laidMetH Tryd.prog laidL ((World.doorLaid Tryd.prog 62 os).forCall (fun _ _ => 0) ⟨#[], args, []⟩).memory :=
  laidMetH_of_parts3 (fuel := 8) (laidMet_of_run' 8 (by kernel_rfl) (by kernel_rfl)) (by kernel_rfl) (by kernel_rfl)
set_option maxRecDepth 100000 in
theorem lifted (os : Os) (started : os.Started) (H : Type) (enc : TypeId × Value → H) :
    ReturnsInHanded {} Tryd.checked os 12 .any (fun w args => (Rows.robotBackSpec.pre enc Tryd.prog Tryd.f12 [] false w args ∧ laidMetH Tryd.prog laidL w) ∧ sizedMet enc Tryd.prog Tryd.f12 (OpenSpec.ofChange Rows.robotBackSpec) false w args)
      (Rows.robotBackSpec.post enc Tryd.prog Tryd.f12 false true false false) := by
  refine returnsInHanded_of_change_and (C := Tryd.checked) (X := fun w _ => laidMetH Tryd.prog laidL w) (fun _ _ _ hh h => h.of_heap hh) own started (by kernel_rfl) Tryd.func12
    (ChangeSpec.witness_shaped (enc := enc) (C := Tryd.checked) (os := os) (X := fun w _ => laidMetH Tryd.prog laidL w) false (World.doorLaid Tryd.prog 62 os) #[.agg #[.int .i64 0, .int .i64 0, .int .i64 0, .slice none 0 0, .slice none 0 0], .agg #[.int .i64 0, .slice none 0 0], .string ⟨#[]⟩] 8 rfl (World.shaped_of_RefB (by kernel_rfl) (by kernel_rfl)) (by kernel_rfl) (by kernel_rfl) (by kernel_rfl) (door_met os _)) ?_
  intro W base args ds gs before hval0 hW _ _ hL _
  have hval : ∀ (j : Nat) t v, Tryd.f12.params[j]? = some t → args[j]? = some v → Value.okWide Tryd.prog W .any base t v := hval0
  have hW' := hW
  obtain ⟨p, q, hA0, hV, rfl, hfz, hnd⟩ := hW
  have hA : DataW.TrodAll enc Tryd.prog W 0 (fun _ => true) true Tryd.f12.params.toList args.toList ds p := hA0
  rw [Tryd.params12] at hA hval
  obtain ⟨v0, vs0, d0, ds0, p0, q0, hargs, rfl, rfl, h0, r0⟩ := trodAll_cons hA
  obtain ⟨v1, vs1, d1, ds1, p1, q1, rfl, rfl, rfl, h1, r1⟩ := trodAll_cons r0
  obtain ⟨v2, vs2, d2, ds2, p2, q2, rfl, rfl, rfl, h2, r2⟩ := trodAll_cons r1
  obtain ⟨rfl, rfl, rfl⟩ := trodAll_nil r2
  obtain rfl : args = #[v0, v1, v2] := by cases args; simp_all
  obtain ⟨rfl, rfl⟩ := trodVars_none hV
  have lt0 : ∀ x ∈ p0, x.block < W.heap.size := by obtain ⟨m, hm⟩ := h0; exact DataW.trod_lt m _ _ _ hm
  have lt1 : ∀ x ∈ p1, x.block < W.heap.size := by obtain ⟨m, hm⟩ := h1; exact DataW.trod_lt m _ _ _ hm
  have lt2 : ∀ x ∈ p2, x.block < W.heap.size := by obtain ⟨m, hm⟩ := h2; exact DataW.trod_lt m _ _ _ hm
  obtain ⟨⟨f0_0, f0_1, f0_2, f0_3, f0_4⟩, cs0, rfl, g0, e0⟩ := arg_struct opens_floor Tryd.underlying91 (hval 0 91 v0 rfl rfl) h0
  obtain ⟨_, _, rfl, rfl, _, _, rfl, rfl, _, _, rfl, rfl, _, _, rfl, ⟨A0_3, c0_3, rfl, b0_3, e0_3⟩, A0_4, c0_4, rfl, b0_4, e0_4⟩ := e0
  obtain ⟨⟨f1_0, f1_1⟩, cs1, rfl, g1, e1⟩ := arg_struct opens_mind Tryd.underlying115 (hval 1 115 v1 rfl rfl) h1
  obtain ⟨_, _, rfl, rfl, A1_1, c1_1, rfl, b1_1, e1_1⟩ := e1
  obtain ⟨s2, rfl, rfl, rfl, g2⟩ := open_string Tryd.underlying9 (hval 2 9 v2 rfl rfl) h2
  have hT := tabs_of_laid hL
  clear hA0 hval0 hL
  obtain ⟨k, hk⟩ := RobPureRb.back f0_0 f0_1 f0_2 f0_3 f0_4 f1_0 f1_1 s2
  refine (taquinlaw22_RobotBack.calls k f0_0 f0_1 f0_2 A0_3 c0_3 f0_3 A0_4 c0_4 f0_4 f1_0 A1_1 c1_1 f1_1 s2 true W e0_3 b0_3 e0_4 b0_4 e1_1 b1_1 hk hT).mono fun e W' ⟨he, bel⟩ => ?_
  subst he
  exact ⟨_, rfl, _, _, _, [], _, [], hW', trodAll_mk1 (shut_bool Tryd.underlying4 _),
    (trodAll_cons_mk (Below.trod AllFacts.laidOut (by kernel_rfl) (of_decide_eq_true (by kernel_rfl)) h0 bel lt0) (trodAll_cons_mk (Below.trod AllFacts.laidOut (by kernel_rfl) (of_decide_eq_true (by kernel_rfl)) h1 bel lt1) (trodAll_cons_mk (Below.trod AllFacts.laidOut (by kernel_rfl) (of_decide_eq_true (by kernel_rfl)) h2 bel lt2) trodAll_mk0))), rfl, bel.frame _, fun h => by cases h⟩
theorem over : Rows.RobotBackSaid :=
  OpenClaim.holds_of_wide 12 Tryd.f12 rfl rfl rfl rfl rfl rfl rfl ⟨rfl, rfl, rfl, rfl, rfl⟩ rfl rfl rfl rfl rfl (by as_aux_lemma => kernel_rfl) Tryd.func12 closed
    (of_decide_eq_true (by as_aux_lemma => kernel_rfl)) (by unfold Func.isWrapper; first | (rw [if_pos (by decide +kernel)]; kernel_rfl) | (rw [if_neg (by decide +kernel)]; exact ⟨rfl, rfl⟩))
    (fun os started H enc _ => lifted os started H enc)
theorem card : Rows.RobotBackCardSaid :=
  Claim7.holds_tied_plain_at .later [] [.data, .data, .data, .sentinel, .sentinel] true Rows.robotBackCard.stood.harness Rows.robotBackCard.stood.looks
    over (fun _ h => by cases h) (by as_aux_lemma => kernel_rfl) (fun _ h => by cases h) robotBack_row_tie rfl ⟨rfl, rfl⟩ (by as_aux_lemma => kernel_rfl) rfl
    (fun f fn hf hfn => by
      obtain rfl : f = 12 := Option.some.inj ((show Tryd.prog.funcNamed Rows.robotBackRow.func = some 12 by kernel_rfl).symm.trans hf) |>.symm
      obtain rfl : fn = Tryd.f12 := (Option.some.inj (Tryd.func12.symm.trans hfn)).symm
      exact ⟨by kernel_rfl, fun j t ht => by
        rw [Tryd.params12] at ht
        have hm : t ∈ [91, 115, 9] := by simpa using Array.mem_of_getElem? ht
        have hall : ([91, 115, 9].all fun u => !Tryd.prog.wantsStandIn u) = true := by kernel_rfl
        exact (show Tryd.prog.wantsStandIn t = false by simpa using List.all_eq_true.1 hall t hm)⟩)
    (by as_aux_lemma => kernel_rfl)
#print axioms card
end Go.Proofs.YtigdjhnpngjhjaaDoor.robotBack
namespace Go.Proofs.YtigdjhnpngjhjaaDoor
theorem robotBack_holds : Rows.RobotBackCardSaid := robotBack.card
end Go.Proofs.YtigdjhnpngjhjaaDoor

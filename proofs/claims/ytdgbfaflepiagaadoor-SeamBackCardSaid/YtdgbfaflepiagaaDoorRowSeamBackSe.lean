/- SeamBack: for every argument the law returns true, and its arguments read afterwards as they did. No condition. -/
import Derived.Test.YtdgbfaflepiagaaDoorRows
import Derived.Test.YtdgbfaflepiagaaDoorTie
import Derived.Test.YtdgbfaflepiagaaDoorCards
import Derived.Test.YtdgbfaflepiagaaDoorOpens
import Derived.Test.YtdgbfaflepiagaaDoorLaid
import Derived.Test.YtdgbfaflepiagaaDoorFactsSeamBack
import Derived.Test.YtdgbfaflepiagaaDoorSeamJSe
import Derived.WalkKit
import Derived.ProofKit
import Derived.OpenShut
import Derived.ShutString
import Derived.ChangeOld
import Derived.ChangeMaps5
import Derived.Below
import Derived.SizedLaws
import Derived.LaidMore
import Derived.Stop.Joined
import Derived.SevenTiedAt
namespace Go.Proofs.YtdgbfaflepiagaaDoor.seamBack
open Go.ChangeShapes Go.WideShapes Go.ChangeAt Go.ChangeMaps Go.RowKit Go.Proofs.YtdgbfaflepiagaaDoor.Opens Go.Proofs.YtdgbfaflepiagaaDoorW.PrintWords Go.Proofs.YtdgbfaflepiagaaDoor.PSe
set_option linter.unusedVariables false
theorem own : ownKnob Tryd.prog.godebug = none := by kernel_rfl
def okI (n : Int) : Prop := (Lit.int .i64 n).wf = true
theorem okI.is {n : Int} (h : okI n) : WireMath.isInt n := bounds_i64 h
theorem cellsInt : Tryd.prog.cellsOf 3 = 1 := by kernel_rfl
theorem cellsBool : Tryd.prog.cellsOf 4 = 1 := by kernel_rfl
theorem opens_bools : Opens Tryd.prog (Kd.slice 4 Kd.bool) 22 (fun l => l.length ≤ maxLen ∧ ∀ a ∈ l, True) := opens_slice Tryd.underlying22 cellsBool (opens_bool Tryd.underlying4)
theorem cellsPass : Tryd.prog.cellsOf 29 = 3 := by kernel_rfl
theorem cellsOp : Tryd.prog.cellsOf 34 = 5 := by kernel_rfl
def okP (x : S29) : Prop := okI x.f0 ∧ okI x.f1 ∧ okI x.f2
def okO (x : S34) : Prop := okI x.f0 ∧ okP x.f1 ∧ True
theorem opens_pass : Opens Tryd.prog k29 29 okP :=
  opens_struct (fun x : S29 => (x.f0, x.f1, x.f2)) (fun a => ⟨a.1, a.2.1, a.2.2⟩) (fun _ => rfl) Tryd.underlying29 cellsPass (opensF_cons rfl cellsInt (opens_int Tryd.underlying3) (opensF_cons rfl cellsInt (opens_int Tryd.underlying3) (opensF_one rfl cellsInt (opens_int Tryd.underlying3))))
theorem opens_op : Opens Tryd.prog k34 34 okO :=
  opens_struct (fun x : S34 => (x.f0, x.f1, x.f2)) (fun a => ⟨a.1, a.2.1, a.2.2⟩) (fun _ => rfl) Tryd.underlying34 cellsOp (opensF_cons rfl cellsInt (opens_int Tryd.underlying3) (opensF_cons rfl cellsPass opens_pass (opensF_one rfl cellsBool (opens_bool Tryd.underlying4))))
theorem opens_ops : Opens Tryd.prog (Kd.slice 34 k34) 23 (fun l => l.length ≤ maxLen ∧ ∀ a ∈ l, okO a) := opens_slice Tryd.underlying23 cellsOp opens_op
theorem okO.is {l : List S34} (h : l.length ≤ maxLen ∧ ∀ a ∈ l, okO a) : Seam.okIs l := fun o ho => ⟨(h.2 o ho).1.is, (h.2 o ho).2.1.1.is, (h.2 o ho).2.1.2.1.is, (h.2 o ho).2.1.2.2.is⟩
theorem door_met (os : Os) (args : Array Value) : laidMetH Tryd.prog laidL ((World.doorLaid Tryd.prog 62 os).forCall (fun _ _ => 0) ⟨#[], args, []⟩).memory :=
  laidMetH_of_parts3 (fuel := 8) (laidMet_of_run' 8 (by kernel_rfl) (by kernel_rfl)) (by kernel_rfl) (by kernel_rfl)
set_option maxRecDepth 100000 in
theorem lifted (os : Os) (started : os.Started) (H : Type) (enc : TypeId × Value → H) :
    ReturnsInHanded {} Tryd.checked os 3 .any (fun w args => (Rows.seamBackSpec.pre enc Tryd.prog Tryd.f3 [] false w args ∧ laidMetH Tryd.prog laidL w) ∧ sizedMet enc Tryd.prog Tryd.f3 (OpenSpec.ofChange Rows.seamBackSpec) false w args)
      (Rows.seamBackSpec.post enc Tryd.prog Tryd.f3 false true false false) := by
  refine returnsInHanded_of_change_and (C := Tryd.checked) (X := fun w _ => laidMetH Tryd.prog laidL w) (fun _ _ _ hh h => h.of_heap hh) own started (by kernel_rfl) Tryd.func3
    (ChangeSpec.witness_shaped (enc := enc) (C := Tryd.checked) (os := os) (X := fun w _ => laidMetH Tryd.prog laidL w) false (World.doorLaid Tryd.prog 62 os) #[.int .i64 0, .slice none 0 0, .slice none 0 0, .slice none 0 0] 8 rfl (World.shaped_of_RefB (by kernel_rfl) (by kernel_rfl)) (by kernel_rfl) (by kernel_rfl) (by kernel_rfl) (door_met os _)) ?_
  intro W base args ds gs before hval0 hW _ _ hL _
  have hval : ∀ (j : Nat) t v, Tryd.f3.params[j]? = some t → args[j]? = some v → Value.okWide Tryd.prog W .any base t v := hval0
  have hW' := hW
  obtain ⟨p, q, hA0, hV, rfl, hfz, hnd⟩ := hW
  have hA : DataW.TrodAll enc Tryd.prog W 0 (fun _ => true) true Tryd.f3.params.toList args.toList ds p := hA0
  rw [Tryd.params3] at hA hval
  obtain ⟨v0, vs0, d0, ds0, p0, q0, hargs, rfl, rfl, h0, r0⟩ := trodAll_cons hA
  obtain ⟨v1, vs1, d1, ds1, p1, q1, rfl, rfl, rfl, h1, r1⟩ := trodAll_cons r0
  obtain ⟨v2, vs2, d2, ds2, p2, q2, rfl, rfl, rfl, h2, r2⟩ := trodAll_cons r1
  obtain ⟨v3, vs3, d3, ds3, p3, q3, rfl, rfl, rfl, h3, r3⟩ := trodAll_cons r2
  obtain ⟨rfl, rfl, rfl⟩ := trodAll_nil r3
  obtain rfl : args = #[v0, v1, v2, v3] := by cases args; simp_all
  obtain ⟨rfl, rfl⟩ := trodVars_none hV
  have lt0 : ∀ x ∈ p0, x.block < W.heap.size := by obtain ⟨m, hm⟩ := h0; exact DataW.trod_lt m _ _ _ hm
  have lt1 : ∀ x ∈ p1, x.block < W.heap.size := by obtain ⟨m, hm⟩ := h1; exact DataW.trod_lt m _ _ _ hm
  have lt2 : ∀ x ∈ p2, x.block < W.heap.size := by obtain ⟨m, hm⟩ := h2; exact DataW.trod_lt m _ _ _ hm
  have lt3 : ∀ x ∈ p3, x.block < W.heap.size := by obtain ⟨m, hm⟩ := h3; exact DataW.trod_lt m _ _ _ hm
  obtain ⟨n0, rfl, rfl, rfl, g0⟩ := open_int Tryd.underlying3 (hval 0 3 v0 rfl rfl) h0
  obtain ⟨A1, c1, l1, rfl, g1, b1, e1⟩ := arg_slice opens_bools Tryd.underlying22 (hval 1 22 v1 rfl rfl) h1
  obtain ⟨A2, c2, l2, rfl, g2, b2, e2⟩ := arg_slice opens_ops Tryd.underlying23 (hval 2 23 v2 rfl rfl) h2
  obtain ⟨A3, c3, l3, rfl, g3, b3, e3⟩ := arg_slice opens_ops Tryd.underlying23 (hval 3 23 v3 rfl rfl) h3
  have hT := tabs_of_laid hL
  clear hA0 hval0 hL
  refine (Seam.back_all n0 A1 c1 l1 A2 c2 l2 A3 c3 l3 W e1 e2 e3 b2 b3 (okO.is g2) (okO.is g3) hT).mono fun e W' ⟨he, bel⟩ => ?_
  subst he
  exact ⟨_, rfl, _, _, _, [], _, [], hW', trodAll_mk1 (shut_bool Tryd.underlying4 _),
    (trodAll_cons_mk (Below.trod AllFacts.laidOut (by kernel_rfl) (of_decide_eq_true (by kernel_rfl)) h0 bel lt0) (trodAll_cons_mk (Below.trod AllFacts.laidOut (by kernel_rfl) (of_decide_eq_true (by kernel_rfl)) h1 bel lt1) (trodAll_cons_mk (Below.trod AllFacts.laidOut (by kernel_rfl) (of_decide_eq_true (by kernel_rfl)) h2 bel lt2) (trodAll_cons_mk (Below.trod AllFacts.laidOut (by kernel_rfl) (of_decide_eq_true (by kernel_rfl)) h3 bel lt3) trodAll_mk0)))), rfl, bel.frame _, fun h => by cases h⟩
theorem over : Rows.SeamBackSaid :=
  OpenClaim.holds_of_wide 3 Tryd.f3 rfl rfl rfl rfl rfl rfl rfl ⟨rfl, rfl, rfl, rfl, rfl⟩ rfl rfl rfl rfl rfl (by as_aux_lemma => kernel_rfl) Tryd.func3 closed
    (of_decide_eq_true (by as_aux_lemma => kernel_rfl)) (by unfold Func.isWrapper; first | (rw [if_pos (by decide +kernel)]; kernel_rfl) | (rw [if_neg (by decide +kernel)]; exact ⟨rfl, rfl⟩))
    (fun os started H enc _ => lifted os started H enc)
theorem card : Rows.SeamBackCardSaid :=
  Claim7.holds_tied_plain_at .later [] [.data, .data, .data, .sentinel, .sentinel] true Rows.seamBackCard.stood.harness Rows.seamBackCard.stood.looks
    over (fun _ h => by cases h) (by as_aux_lemma => kernel_rfl) (fun _ h => by cases h) seamBack_row_tie rfl ⟨rfl, rfl⟩ (by as_aux_lemma => kernel_rfl) rfl
    (fun f fn hf hfn => by
      obtain rfl : f = 3 := Option.some.inj ((show Tryd.prog.funcNamed Rows.seamBackRow.func = some 3 by kernel_rfl).symm.trans hf) |>.symm
      obtain rfl : fn = Tryd.f3 := (Option.some.inj (Tryd.func3.symm.trans hfn)).symm
      exact ⟨by kernel_rfl, fun j t ht => by
        rw [Tryd.params3] at ht
        have hm : t ∈ [3, 22, 23, 23] := by simpa using Array.mem_of_getElem? ht
        have hall : ([3, 22, 23, 23].all fun u => !Tryd.prog.wantsStandIn u) = true := by kernel_rfl
        exact (show Tryd.prog.wantsStandIn t = false by simpa using List.all_eq_true.1 hall t hm)⟩)
    (by as_aux_lemma => kernel_rfl)
#print axioms card
end Go.Proofs.YtdgbfaflepiagaaDoor.seamBack
namespace Go.Proofs.YtdgbfaflepiagaaDoor
theorem seamBack_holds : Rows.SeamBackCardSaid := seamBack.card
end Go.Proofs.YtdgbfaflepiagaaDoor

/- WirePrefix: for every argument the law returns true, and its arguments read afterwards as they did. No condition. -/
import Derived.Test.YtigdjhnpngjhjaaDoorRows
import Derived.Test.YtigdjhnpngjhjaaDoorTie
import Derived.Test.YtigdjhnpngjhjaaDoorCards
import Derived.Test.YtigdjhnpngjhjaaDoorOpens
import Derived.Test.YtigdjhnpngjhjaaDoorLaid
import Derived.Test.YtigdjhnpngjhjaaDoorFactsWirePrefix
import Derived.Test.YtigdjhnpngjhjaaDoorWireP4Wt
import Derived.WalkKit
import Derived.ProofKit
import Derived.OpenShut
import Derived.ShutString
import Derived.ChangeOld
import Derived.ChangeMaps5
import Derived.Below
import Derived.SizedLaws
import Derived.LaidMore
import Derived.Stop.Joined
import Derived.SevenTiedAt
namespace Go.Proofs.YtigdjhnpngjhjaaDoor.wirePrefix
open Go.ChangeShapes Go.WideShapes Go.ChangeAt Go.ChangeMaps Go.RowKit Go.Proofs.YtigdjhnpngjhjaaDoor.Opens Go.Proofs.YtigdjhnpngjhjaaDoorW.PrintWords Go.Proofs.YtigdjhnpngjhjaaDoor.PWt
set_option linter.unusedVariables false
theorem own : ownKnob Tryd.prog.godebug = none := by kernel_rfl
def okI (n : Int) : Prop := (Lit.int .i64 n).wf = true
theorem okI.is {n : Int} (h : okI n) : WireMath.isInt n := bounds_i64 h
theorem cellsInt : Tryd.prog.cellsOf 3 = 1 := by kernel_rfl
theorem opens_ints : Opens Tryd.prog (Kd.slice 3 (Kd.int .i64)) 22 (fun l => l.length ≤ maxLen ∧ ∀ a ∈ l, okI a) := opens_slice Tryd.underlying22 cellsInt (opens_int Tryd.underlying3)
theorem cellsStr : Tryd.prog.cellsOf 9 = 1 := by kernel_rfl
theorem opens_strs : Opens Tryd.prog (Kd.slice 9 Kd.string) 23 (fun l => l.length ≤ maxLen ∧ ∀ a ∈ l, a.size ≤ maxLen) := opens_slice Tryd.underlying23 cellsStr (opens_string Tryd.underlying9)
theorem cellsInts : Tryd.prog.cellsOf 22 = 1 := by kernel_rfl
theorem cellsStrs : Tryd.prog.cellsOf 23 = 1 := by kernel_rfl
theorem cellsVal : Tryd.prog.cellsOf 25 = 5 := by kernel_rfl
def okV (x : S25) : Prop := okI x.f0 ∧ okI x.f1 ∧ x.f2.size ≤ maxLen ∧ (x.f3.length ≤ maxLen ∧ ∀ a ∈ x.f3, okI a) ∧ x.f4.length ≤ maxLen ∧ ∀ a ∈ x.f4, a.size ≤ maxLen
theorem opens_val : Opens Tryd.prog k25 25 okV :=
  opens_struct (fun x : S25 => (x.f0, x.f1, x.f2, x.f3, x.f4)) (fun a => ⟨a.1, a.2.1, a.2.2.1, a.2.2.2.1, a.2.2.2.2⟩) (fun _ => rfl) Tryd.underlying25 cellsVal
    (opensF_cons rfl cellsInt (opens_int Tryd.underlying3) (opensF_cons rfl cellsInt (opens_int Tryd.underlying3) (opensF_cons rfl cellsStr (opens_string Tryd.underlying9) (opensF_cons rfl cellsInts opens_ints (opensF_one rfl cellsStrs opens_strs)))))
theorem door_met (os : Os) (args : Array Value) : laidMetH Tryd.prog laidL ((World.doorLaid Tryd.prog 62 os).forCall (fun _ _ => 0) ⟨#[], args, []⟩).memory :=
  laidMetH_of_parts3 (fuel := 8) (laidMet_of_run' 8 (by kernel_rfl) (by kernel_rfl)) (by kernel_rfl) (by kernel_rfl)
set_option maxRecDepth 100000 in
theorem lifted (os : Os) (started : os.Started) (H : Type) (enc : TypeId × Value → H) :
    ReturnsInHanded {} Tryd.checked os 5 .any (fun w args => (Rows.wirePrefixSpec.pre enc Tryd.prog Tryd.f5 [] false w args ∧ laidMetH Tryd.prog laidL w) ∧ sizedMet enc Tryd.prog Tryd.f5 (OpenSpec.ofChange Rows.wirePrefixSpec) false w args)
      (Rows.wirePrefixSpec.post enc Tryd.prog Tryd.f5 false true false false) := by
  refine returnsInHanded_of_change_and (C := Tryd.checked) (X := fun w _ => laidMetH Tryd.prog laidL w) (fun _ _ _ hh h => h.of_heap hh) own started (by kernel_rfl) Tryd.func5
    (ChangeSpec.witness_shaped (enc := enc) (C := Tryd.checked) (os := os) (X := fun w _ => laidMetH Tryd.prog laidL w) false (World.doorLaid Tryd.prog 62 os) #[.agg #[.int .i64 0, .int .i64 0, .string ⟨#[]⟩, .slice none 0 0, .slice none 0 0], .agg #[.int .i64 0, .int .i64 0, .string ⟨#[]⟩, .slice none 0 0, .slice none 0 0]] 8 rfl (World.shaped_of_RefB (by kernel_rfl) (by kernel_rfl)) (by kernel_rfl) (by kernel_rfl) (by kernel_rfl) (door_met os _)) ?_
  intro W base args ds gs before hval0 hW _ _ hL _
  have hval : ∀ (j : Nat) t v, Tryd.f5.params[j]? = some t → args[j]? = some v → Value.okWide Tryd.prog W .any base t v := hval0
  have hW' := hW
  obtain ⟨p, q, hA0, hV, rfl, hfz, hnd⟩ := hW
  have hA : DataW.TrodAll enc Tryd.prog W 0 (fun _ => true) true Tryd.f5.params.toList args.toList ds p := hA0
  rw [Tryd.params5] at hA hval
  obtain ⟨v0, vs0, d0, ds0, p0, q0, hargs, rfl, rfl, h0, r0⟩ := trodAll_cons hA
  obtain ⟨v1, vs1, d1, ds1, p1, q1, rfl, rfl, rfl, h1, r1⟩ := trodAll_cons r0
  obtain ⟨rfl, rfl, rfl⟩ := trodAll_nil r1
  obtain rfl : args = #[v0, v1] := by cases args; simp_all
  obtain ⟨rfl, rfl⟩ := trodVars_none hV
  have lt0 : ∀ x ∈ p0, x.block < W.heap.size := by obtain ⟨m, hm⟩ := h0; exact DataW.trod_lt m _ _ _ hm
  have lt1 : ∀ x ∈ p1, x.block < W.heap.size := by obtain ⟨m, hm⟩ := h1; exact DataW.trod_lt m _ _ _ hm
  obtain ⟨x0, cs0, rfl, g0, e0⟩ := arg_struct opens_val Tryd.underlying25 (hval 0 25 v0 rfl rfl) h0
  obtain ⟨A0_3, c0_3, A0_4, c0_4, rfl, b0_3, e0_3, b0_4, e0_4⟩ := k25_open e0
  obtain ⟨x1, cs1, rfl, g1, e1⟩ := arg_struct opens_val Tryd.underlying25 (hval 1 25 v1 rfl rfl) h1
  obtain ⟨A1_3, c1_3, A1_4, c1_4, rfl, b1_3, e1_3, b1_4, e1_4⟩ := k25_open e1
  have hT := tabs_of_laid hL
  clear hA0 hval0 hL
  obtain ⟨k, hk⟩ := WireP4Wt.prefixed x0 x1 ⟨okI.is g0.2.1, fun x hx => okI.is (g0.2.2.2.1.2 x hx)⟩ ⟨okI.is g1.2.1, fun x hx => okI.is (g1.2.2.2.1.2 x hx)⟩
  refine (taquinlaw01_WirePrefix.calls k x0.f0 x0.f1 x0.f2 (fun _ => True) A0_3 c0_3 x0.f3 (fun _ => True) A0_4 c0_4 x0.f4 x1.f0 x1.f1 x1.f2 (fun _ => True) A1_3 c1_3 x1.f3 (fun _ => True) A1_4 c1_4 x1.f4 true W ⟨A0_3, c0_3, rfl, b0_3, foot_ints e0_3⟩ ⟨A0_4, c0_4, rfl, b0_4, foot_strings e0_4⟩ ⟨A1_3, c1_3, rfl, b1_3, foot_ints e1_3⟩ ⟨A1_4, c1_4, rfl, b1_4, foot_strings e1_4⟩ hk hT).mono fun e W' ⟨he, bel⟩ => ?_
  subst he
  exact ⟨_, rfl, _, _, _, [], _, [], hW', trodAll_mk1 (shut_bool Tryd.underlying4 _),
    (trodAll_cons_mk (Below.trod AllFacts.laidOut (by kernel_rfl) (of_decide_eq_true (by kernel_rfl)) h0 bel lt0) (trodAll_cons_mk (Below.trod AllFacts.laidOut (by kernel_rfl) (of_decide_eq_true (by kernel_rfl)) h1 bel lt1) trodAll_mk0)), rfl, bel.frame _, fun h => by cases h⟩
theorem over : Rows.WirePrefixSaid :=
  OpenClaim.holds_of_wide 5 Tryd.f5 rfl rfl rfl rfl rfl rfl rfl ⟨rfl, rfl, rfl, rfl, rfl⟩ rfl rfl rfl rfl rfl (by as_aux_lemma => kernel_rfl) Tryd.func5 closed
    (of_decide_eq_true (by as_aux_lemma => kernel_rfl)) (by unfold Func.isWrapper; first | (rw [if_pos (by decide +kernel)]; kernel_rfl) | (rw [if_neg (by decide +kernel)]; exact ⟨rfl, rfl⟩))
    (fun os started H enc _ => lifted os started H enc)
theorem card : Rows.WirePrefixCardSaid :=
  Claim7.holds_tied_plain_at .later [] [.data, .data, .data, .sentinel, .sentinel] true Rows.wirePrefixCard.stood.harness Rows.wirePrefixCard.stood.looks
    over (fun _ h => by cases h) (by as_aux_lemma => kernel_rfl) (fun _ h => by cases h) wirePrefix_row_tie rfl ⟨rfl, rfl⟩ (by as_aux_lemma => kernel_rfl) rfl
    (fun f fn hf hfn => by
      obtain rfl : f = 5 := Option.some.inj ((show Tryd.prog.funcNamed Rows.wirePrefixRow.func = some 5 by kernel_rfl).symm.trans hf) |>.symm
      obtain rfl : fn = Tryd.f5 := (Option.some.inj (Tryd.func5.symm.trans hfn)).symm
      exact ⟨by kernel_rfl, fun j t ht => by
        rw [Tryd.params5] at ht
        have hm : t ∈ [25, 25] := by simpa using Array.mem_of_getElem? ht
        have hall : ([25, 25].all fun u => !Tryd.prog.wantsStandIn u) = true := by kernel_rfl
        exact (show Tryd.prog.wantsStandIn t = false by simpa using List.all_eq_true.1 hall t hm)⟩)
    (by as_aux_lemma => kernel_rfl)
#print axioms card
end Go.Proofs.YtigdjhnpngjhjaaDoor.wirePrefix
namespace Go.Proofs.YtigdjhnpngjhjaaDoor
theorem wirePrefix_holds : Rows.WirePrefixCardSaid := wirePrefix.card
end Go.Proofs.YtigdjhnpngjhjaaDoor

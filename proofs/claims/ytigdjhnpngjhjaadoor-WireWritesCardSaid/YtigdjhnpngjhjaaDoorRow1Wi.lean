/- WireWrites: for every value, Num, Int, Text, Nums and Texts return the encodings of the reference: the law returns true, and its argument reads afterwards as it did. No condition. -/
import Derived.Test.YtigdjhnpngjhjaaDoorRows
import Derived.Test.YtigdjhnpngjhjaaDoorTie
import Derived.Test.YtigdjhnpngjhjaaDoorCards
import Derived.Test.YtigdjhnpngjhjaaDoorOpens
import Derived.Test.YtigdjhnpngjhjaaDoorLaid
import Derived.Test.YtigdjhnpngjhjaaDoorFactsWireWrites
import Derived.Test.YtigdjhnpngjhjaaDoorWireP1Wi
import Derived.WalkKit
import Derived.ProofKit
import Derived.OpenShut
import Derived.ShutString
import Derived.ChangeOld
import Derived.Below
import Derived.SizedLaws
import Derived.LaidMore
import Derived.Stop.Joined
import Derived.SevenTiedAt
namespace Go.Proofs.YtigdjhnpngjhjaaDoor.wireWrites
open Go.ChangeShapes Go.WideShapes Go.ChangeAt Go.RowKit Go.Proofs.YtigdjhnpngjhjaaDoor.Opens Go.Proofs.YtigdjhnpngjhjaaDoorW.PrintWords Go.Proofs.YtigdjhnpngjhjaaDoor.PWi
set_option linter.unusedVariables false
theorem own : ownKnob Tryd.prog.godebug = none := by kernel_rfl
theorem laidOut : laidOutB Tryd.prog = true := by kernel_rfl
theorem cellsInt : Tryd.prog.cellsOf 3 = 1 := by kernel_rfl
theorem cellsStr : Tryd.prog.cellsOf 9 = 1 := by kernel_rfl
theorem cellsInts : Tryd.prog.cellsOf 22 = 1 := by kernel_rfl
theorem cellsStrs : Tryd.prog.cellsOf 23 = 1 := by kernel_rfl
theorem cellsVal : Tryd.prog.cellsOf 25 = 5 := by kernel_rfl
def okI (n : Int) : Prop := (Lit.int .i64 n).wf = true
theorem okI.is {n : Int} (h : okI n) : WireMath.isInt n := bounds_i64 h
theorem opens_ints : Opens Tryd.prog (Kd.slice 3 (Kd.int .i64)) 22 (fun l => l.length ≤ maxLen ∧ ∀ a ∈ l, okI a) := opens_slice Tryd.underlying22 cellsInt (opens_int Tryd.underlying3)
theorem opens_strs : Opens Tryd.prog (Kd.slice 9 Kd.string) 23 (fun l => l.length ≤ maxLen ∧ ∀ a ∈ l, a.size ≤ maxLen) := opens_slice Tryd.underlying23 cellsStr (opens_string Tryd.underlying9)
abbrev V5 := Int × Int × ByteArray × List Int × List ByteArray
theorem opens_val : Opens Tryd.prog (Kd.pair (Kd.int .i64) (Kd.pair (Kd.int .i64) (Kd.pair Kd.string (Kd.pair (Kd.slice 3 (Kd.int .i64)) (Kd.slice 9 Kd.string))))) 25 (fun x : V5 => okI x.1 ∧ okI x.2.1 ∧ x.2.2.1.size ≤ maxLen ∧ (x.2.2.2.1.length ≤ maxLen ∧ ∀ a ∈ x.2.2.2.1, okI a) ∧ x.2.2.2.2.length ≤ maxLen ∧ ∀ a ∈ x.2.2.2.2, a.size ≤ maxLen) :=
  opens_struct (fun x : V5 => x) (fun a => a) (fun _ => rfl) Tryd.underlying25 cellsVal
    (opensF_cons rfl cellsInt (opens_int Tryd.underlying3) (opensF_cons rfl cellsInt (opens_int Tryd.underlying3) (opensF_cons rfl cellsStr (opens_string Tryd.underlying9) (opensF_cons rfl cellsInts opens_ints (opensF_one rfl cellsStrs opens_strs)))))
theorem door_met (os : Os) (args : Array Value) : laidMetH Tryd.prog laidL ((World.doorLaid Tryd.prog 62 os).forCall (fun _ _ => 0) ⟨#[], args, []⟩).memory :=
  laidMetH_of_parts3 (fuel := 8) (laidMet_of_run' 8 (by kernel_rfl) (by kernel_rfl)) (by kernel_rfl) (by kernel_rfl)
set_option maxRecDepth 100000 in
theorem lifted (os : Os) (started : os.Started) (H : Type) (enc : TypeId × Value → H) :
    ReturnsInHanded {} Tryd.checked os 3 .any (fun w args => (Rows.wireWritesSpec.pre enc Tryd.prog Tryd.f3 [] false w args ∧ laidMetH Tryd.prog laidL w) ∧ sizedMet enc Tryd.prog Tryd.f3 (OpenSpec.ofChange Rows.wireWritesSpec) false w args)
      (Rows.wireWritesSpec.post enc Tryd.prog Tryd.f3 false true false false) := by
  refine returnsInHanded_of_change_and (C := Tryd.checked) (X := fun w _ => laidMetH Tryd.prog laidL w) (fun _ _ _ hh h => h.of_heap hh) own started (by kernel_rfl) Tryd.func3
    (ChangeSpec.witness_shaped (enc := enc) (C := Tryd.checked) (os := os) (X := fun w _ => laidMetH Tryd.prog laidL w) false (World.doorLaid Tryd.prog 62 os) #[.agg #[.int .i64 0, .int .i64 0, .string ⟨#[]⟩, .slice none 0 0, .slice none 0 0]] 8 rfl (World.shaped_of_RefB (by kernel_rfl) (by kernel_rfl)) (by kernel_rfl) (by kernel_rfl) (by kernel_rfl) (door_met os _)) ?_
  intro W base args ds gs before hval0 hW _ _ hL _
  have hval : ∀ (j : Nat) t v, Tryd.f3.params[j]? = some t → args[j]? = some v → Value.okWide Tryd.prog W .any base t v := hval0
  have hW' := hW
  obtain ⟨p, q, hA0, hV, rfl, hfz, hnd⟩ := hW
  have hA : DataW.TrodAll enc Tryd.prog W 0 (fun _ => true) true Tryd.f3.params.toList args.toList ds p := hA0
  rw [Tryd.params3] at hA hval
  obtain ⟨v0, d0, rfl, rfl, h0⟩ := trodAll_one hA
  obtain ⟨rfl, rfl⟩ := trodVars_none hV
  have lt0 : ∀ x ∈ p, x.block < W.heap.size := by obtain ⟨m, hm⟩ := h0; exact DataW.trod_lt m _ _ _ hm
  obtain ⟨x, cs, rfl, hG, hx⟩ := arg_struct opens_val Tryd.underlying25 (hval 0 25 v0 rfl rfl) h0
  obtain ⟨a0, a1, s, l3, l4⟩ := x
  obtain ⟨_, _, rfl, rfl, _, _, rfl, rfl, _, _, rfl, rfl, _, _, rfl, ⟨A3, c3, rfl, hl3, g3⟩, A4, c4, rfl, hl4, g4⟩ := hx
  obtain ⟨_, hG1, _, hG3, _⟩ := hG
  obtain ⟨k, hk⟩ := WireP1Wi.writes a0 a1 s l3 l4 (okI.is hG1) (fun y hy => okI.is (hG3.2 y hy))
  have hT := tabs_of_laid hL
  clear hA0 hval0 hL
  refine (taquinlaw01_WireWrites.calls k a0 a1 s (fun _ => True) A3 c3 l3 (fun _ => True) A4 c4 l4 true W ⟨A3, c3, rfl, hl3, foot_ints g3⟩ ⟨A4, c4, rfl, hl4, foot_strings g4⟩ hk hT).mono fun e W' ⟨he, bel⟩ => ?_
  subst he
  exact ⟨_, rfl, _, _, _, [], _, [], hW', trodAll_mk1 (shut_bool Tryd.underlying4 _),
    trodAll_mk1 (Below.trod laidOut (by kernel_rfl) (of_decide_eq_true (by kernel_rfl)) h0 bel lt0), rfl, bel.frame _, fun h => by cases h⟩
theorem over : Rows.WireWritesSaid :=
  OpenClaim.holds_of_wide 3 Tryd.f3 rfl rfl rfl rfl rfl rfl rfl ⟨rfl, rfl, rfl, rfl, rfl⟩ rfl rfl rfl rfl rfl (by as_aux_lemma => kernel_rfl) Tryd.func3 closed
    (of_decide_eq_true (by as_aux_lemma => kernel_rfl)) (by unfold Func.isWrapper; first | (rw [if_pos (by decide +kernel)]; kernel_rfl) | (rw [if_neg (by decide +kernel)]; exact ⟨rfl, rfl⟩))
    (fun os started H enc _ => lifted os started H enc)
theorem card : Rows.WireWritesCardSaid :=
  Claim7.holds_tied_plain_at .later [] [.data, .data, .data, .sentinel, .sentinel] true Rows.wireWritesCard.stood.harness Rows.wireWritesCard.stood.looks
    over (fun _ h => by cases h) (by as_aux_lemma => kernel_rfl) (fun _ h => by cases h) wireWrites_row_tie rfl ⟨rfl, rfl⟩ (by as_aux_lemma => kernel_rfl) rfl
    (fun f fn hf hfn => by
      obtain rfl : f = 3 := Option.some.inj ((show Tryd.prog.funcNamed Rows.wireWritesRow.func = some 3 by kernel_rfl).symm.trans hf) |>.symm
      obtain rfl : fn = Tryd.f3 := (Option.some.inj (Tryd.func3.symm.trans hfn)).symm
      exact ⟨by kernel_rfl, fun j t ht => by
        rw [Tryd.params3] at ht
        have hm : t ∈ [25] := by simpa using Array.mem_of_getElem? ht
        have hall : ([25].all fun u => !Tryd.prog.wantsStandIn u) = true := by kernel_rfl
        exact (show Tryd.prog.wantsStandIn t = false by simpa using List.all_eq_true.1 hall t hm)⟩)
    (by as_aux_lemma => kernel_rfl)
#print axioms card
end Go.Proofs.YtigdjhnpngjhjaaDoor.wireWrites
namespace Go.Proofs.YtigdjhnpngjhjaaDoor
theorem wireWrites_holds : Rows.WireWritesCardSaid := wireWrites.card
end Go.Proofs.YtigdjhnpngjhjaaDoor

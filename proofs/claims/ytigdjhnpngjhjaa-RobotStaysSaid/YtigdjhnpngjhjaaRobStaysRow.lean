/- RobotStays: for every floor, mind and list of acts the law returns true, and its arguments read afterwards as they did. No condition. -/
import Derived.Test.YtigdjhnpngjhjaaRows
import Derived.Test.YtigdjhnpngjhjaaOpens
import Derived.Test.YtigdjhnpngjhjaaRobPureS
import Derived.WalkKit
import Derived.ProofKit
import Derived.OpenShut
import Derived.ShutString
import Derived.ChangeOld
import Derived.Below
import Derived.SizedLaws
namespace Go.Proofs.Ytigdjhnpngjhjaa.robotStays
open Go.ChangeShapes Go.WideShapes Go.ChangeAt Go.RowKit Go.Proofs.Ytigdjhnpngjhjaa.Opens Go.Proofs.YtigdjhnpngjhjaaW.PrintWords Go.Proofs.Ytigdjhnpngjhjaa.PRobS
set_option linter.unusedVariables false
theorem own : ownKnob Try.prog.godebug = none := by kernel_rfl
theorem laidOut : laidOutB Try.prog = true := by kernel_rfl
theorem cells3 : Try.prog.cellsOf 3 = 1 := by kernel_rfl
theorem cells22 : Try.prog.cellsOf 22 = 1 := by kernel_rfl
theorem cells24 : Try.prog.cellsOf 24 = 5 := by kernel_rfl
theorem cells26 : Try.prog.cellsOf 26 = 2 := by kernel_rfl
theorem opens_ints : Opens Try.prog (Kd.slice 3 (Kd.int .i64)) 22 (fun _ => True) := (opens_slice Try.underlying22 cells3 (opens_int Try.underlying3)).any
theorem cells4 : Try.prog.cellsOf 4 = 1 := by kernel_rfl
theorem opens_bools : Opens Try.prog (Kd.slice 4 Kd.bool) 27 (fun _ => True) := (opens_slice Try.underlying27 cells4 (opens_bool Try.underlying4)).any
/-- A row of numbers reads alike in all worlds with the same blocks. -/
theorem foot_ints {w : World} {A : Option Addr} {l : List Int} (h : Kd.C (Kd.int .i64) w A l.length l) : Kd.F (Kd.int .i64) w (fun _ => True) A l.length l := by
  intro W' hW
  have hs : w.heap.size ≤ W'.heap.size := by
    rcases Nat.eq_zero_or_pos w.heap.size with h0 | h0
    · omega
    · have := hW (w.heap.size - 1) trivial (by omega)
      rw [Array.getElem?_eq_getElem (show w.heap.size - 1 < w.heap.size by omega)] at this
      have := (Array.getElem?_eq_some_iff.1 this).1
      omega
  have hb : Below w.heap.size w { w with heap := W'.heap } := ⟨rfl, rfl, rfl, hs, fun k hk => hW k trivial hk⟩
  have h2 : Kd.C (Kd.int .i64) { w with heap := W'.heap } A l.length l := Kd.C_below h hb
  exact h2
theorem opens_floor : Opens Try.prog k24 24 (fun _ => True) :=
  Opens.any <| opens_struct (fun x : S24 => (x.f0, x.f1, x.f2, x.f3, x.f4)) (fun a => ⟨a.1, a.2.1, a.2.2.1, a.2.2.2.1, a.2.2.2.2⟩) (fun _ => rfl) Try.underlying24 cells24
    (opensF_cons rfl cells3 (opens_int Try.underlying3) (opensF_cons rfl cells3 (opens_int Try.underlying3) (opensF_cons rfl cells3 (opens_int Try.underlying3) (opensF_cons rfl cells22 opens_ints (opensF_one rfl cells22 opens_ints)))))
theorem opens_mind : Opens Try.prog (Kd.pair (Kd.int .i64) (Kd.slice 3 (Kd.int .i64))) 26 (fun _ => True) :=
  Opens.any <| opens_struct (fun x : Int × List Int => x) (fun a => a) (fun _ => rfl) Try.underlying26 cells26 (opensF_cons rfl cells3 (opens_int Try.underlying3) (opensF_one rfl cells22 opens_ints))
set_option maxRecDepth 100000 in
theorem lifted (os : Os) (started : os.Started) (H : Type) (enc : TypeId × Value → H) :
    ReturnsInHanded {} Try.checked os 3 .any (Rows.robotStaysSpec.pre6 enc Try.prog Try.f3 Rows.robotStaysRow.domain false) (Rows.robotStaysSpec.post enc Try.prog Try.f3 false true false false) := by
  refine returnsInHanded_of_change_sized (C := Try.checked) own started (by kernel_rfl) Try.func3
    (ChangeSpec.witness6 (enc := enc) (C := Try.checked) false ⟨#[], #[.agg #[.int .i64 0, .int .i64 0, .int .i64 0, .slice none 0 0, .slice none 0 0], .agg #[.int .i64 0, .slice none 0 0], .slice none 0 0], []⟩ 8 (by kernel_rfl) (by kernel_rfl) (by kernel_rfl) (by kernel_rfl)) ?_
  intro W base args ds gs before hval0 hW hcnd hsz0 _
  have hval : ∀ (j : Nat) t v, Try.f3.params[j]? = some t → args[j]? = some v → Value.okWide Try.prog W .any base t v := hval0
  have hW' := hW
  obtain ⟨p, q, hA0, hV, rfl, hfz, hnd⟩ := hW
  have hA : DataW.TrodAll enc Try.prog W 0 (fun _ => true) true Try.f3.params.toList args.toList ds p := hA0
  rw [Try.params3] at hA hval
  obtain ⟨v0, vs0, d0, ds0, p0, q0, hargs, rfl, rfl, h0, r0⟩ := trodAll_cons hA
  obtain ⟨v1, vs1, d1, ds1, p1, q1, rfl, rfl, rfl, h1, r1⟩ := trodAll_cons r0
  obtain ⟨v2, vs2, d2, ds2, p2, q2, rfl, rfl, rfl, h2, r2⟩ := trodAll_cons r1
  obtain ⟨rfl, rfl, rfl⟩ := trodAll_nil r2
  obtain rfl : args = #[v0, v1, v2] := by cases args; simp_all
  obtain ⟨rfl, rfl⟩ := trodVars_none hV
  have lt0 : ∀ x ∈ p0, x.block < W.heap.size := by obtain ⟨m, hm⟩ := h0; exact DataW.trod_lt m _ _ _ hm
  have lt1 : ∀ x ∈ p1, x.block < W.heap.size := by obtain ⟨m, hm⟩ := h1; exact DataW.trod_lt m _ _ _ hm
  have lt2 : ∀ x ∈ p2, x.block < W.heap.size := by obtain ⟨m, hm⟩ := h2; exact DataW.trod_lt m _ _ _ hm
  obtain ⟨x, cs, rfl, _, hx⟩ := arg_struct opens_floor Try.underlying24 (hval 0 24 v0 rfl rfl) h0
  obtain ⟨A3, c3, A4, c4, rfl, l3, g3, l4, g4⟩ := k24_open hx
  obtain ⟨m, cs1, rfl, _, hm⟩ := arg_struct opens_mind Try.underlying26 (hval 1 26 v1 rfl rfl) h1
  obtain ⟨_, _, rfl, rfl, A1, c1, rfl, l1, g1⟩ := hm
  obtain ⟨A2, c2, l, rfl, _, l2, g2⟩ := arg_slice opens_bools Try.underlying27 (hval 2 27 v2 rfl rfl) h2
  obtain ⟨k, hk⟩ := RobPureS.stays x.f0 x.f1 x.f2 x.f3 x.f4 m.1 m.2 l
  clear hA0 hval0 hsz0
  refine (taquinlaw22_RobotStays.calls k x.f0 x.f1 x.f2 A3 c3 x.f3 A4 c4 x.f4 m.1 (fun _ => True) A1 c1 m.2 A2 c2 l true W g3 l3 g4 l4 ⟨A1, c1, rfl, l1, foot_ints g1⟩ g2 l2 hk).mono fun e W' ⟨he, bel⟩ => ?_
  subst he
  exact ⟨_, rfl, _, _, _, [], _, [], hW', trodAll_mk1 (shut_bool Try.underlying4 _),
    (trodAll_cons_mk (Below.trod laidOut (by kernel_rfl) (of_decide_eq_true (by kernel_rfl)) h0 bel lt0) (trodAll_cons_mk (Below.trod laidOut (by kernel_rfl) (of_decide_eq_true (by kernel_rfl)) h1 bel lt1) (trodAll_cons_mk (Below.trod laidOut (by kernel_rfl) (of_decide_eq_true (by kernel_rfl)) h2 bel lt2) trodAll_mk0))), rfl, bel.frame _, fun h => by cases h⟩
theorem over : Rows.robotStaysRow.holds Try.pinned (OpenSpec.ofChange Rows.robotStaysSpec) :=
  OpenClaim.holds_of_wide 3 Try.f3 rfl rfl rfl rfl rfl rfl rfl ⟨rfl, rfl, rfl, rfl, rfl⟩ rfl rfl rfl rfl rfl (by kernel_rfl) Try.func3 (by kernel_rfl)
    (of_decide_eq_true (by kernel_rfl)) (by unfold Func.isWrapper; first | (rw [if_pos (by decide +kernel)]; kernel_rfl) | (rw [if_neg (by decide +kernel)]; exact ⟨rfl, rfl⟩))
    (fun os started H enc _ => lifted os started H enc)
theorem proved : Rows.RobotStaysSaid := over
#print axioms proved
end Go.Proofs.Ytigdjhnpngjhjaa.robotStays
namespace Go.Proofs.Ytigdjhnpngjhjaa
theorem robotStays_holds : Rows.RobotStaysSaid := robotStays.proved
end Go.Proofs.Ytigdjhnpngjhjaa

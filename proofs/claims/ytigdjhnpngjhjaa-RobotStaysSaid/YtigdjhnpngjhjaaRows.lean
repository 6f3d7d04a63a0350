/-
  No cell of these rows narrows 'for every input' (looked for: loops, veiled, ifaces, maps, wideKeys, modest, calm, conditions, laid).
  DERIVED. THE GIVEN ROWS OF THIS SEAT. 4 by the template 'for every input the law returns true; each argument reads behind the call as it read before'; 0 by the template 'total and deterministic' (their statements: YtigdjhnpngjhjaaTotals.lean).
  GIVEN WITH THE SEED: the statements are not yours to turn. If you find one false, say at which input.
  Laid BY PROGRAM, IN A SANDBOX (cutbox-rows.mjs): the forced cells as the released guide's own fill.sh prints them over the translation 9eca7106f3108f34… (all of the seat's roots in one cut). By AI agents, Wed Nov 11 2026. No macro, syntax, notation, axiom, sorry.
-/
import Derived.Test.YtigdjhnpngjhjaaChecked
import GoSem.Claim
import GoSem.ClaimJoined
import GoSem.ClaimMapViews
import Derived.JoinedTies
import Derived.KernelRfl
namespace Go.Proofs.Ytigdjhnpngjhjaa
/- THE CELL 'sum', in the pinned program and in every row, IS THE sha256 OF THE DUMP (.gsa) THAT YtigdjhnpngjhjaaProg.lean LOADS. Nothing in Lean hashes anything: it is a label: what it is worth is what the hold of that sum in a sandbox is worth. -/
noncomputable def Try.pinned : Pinned := { name := "ytigdjhnpngjhjaa", sum := "9eca7106f3108f343a80d04849e4becc25988c001764cb4b0ba643a4f60aacc5", checked := Try.checked }
namespace Rows
def none {H : Type} : Left H := { results := [], args := [] }

/-- 'taquinlaw22.RobotStays': WHATEVER THE INPUT: true; the input reads as it did. -/
def robotStaysSpec : ChangeSpec := { name := "robotStays", fn := fun _ => fun
  | [d1, d2, d3] => { results := [.lit (.bool true)], args := [d1, d2, d3] }
  | _ => none }
def robotStaysRow : OpenClaim := { program := "ytigdjhnpngjhjaa", sum := "9eca7106f3108f343a80d04849e4becc25988c001764cb4b0ba643a4f60aacc5", func := "taquin/taquinlaw22.RobotStays", spec := "robotStays", unfollowed := true, recurses := true, apart := false }
def RobotStaysSaid : Prop := robotStaysRow.holds Try.pinned (OpenSpec.ofChange robotStaysSpec)

/-- ITS FALSE NEIGHBOUR: 'it returns false'. Refute it at one input. -/
def robotStaysWrong : ChangeSpec := { name := "robotStays", fn := fun _ => fun
  | [d1, d2, d3] => { results := [.lit (.bool false)], args := [d1, d2, d3] }
  | _ => none }
def RobotStaysWrongFalsely : Prop := robotStaysRow.holds Try.pinned (OpenSpec.ofChange robotStaysWrong)

/-- 'taquinlaw22.RobotHears': WHATEVER THE INPUT: true; the input reads as it did. -/
def robotHearsSpec : ChangeSpec := { name := "robotHears", fn := fun _ => fun
  | [d1, d2, d3] => { results := [.lit (.bool true)], args := [d1, d2, d3] }
  | _ => none }
def robotHearsRow : OpenClaim := { program := "ytigdjhnpngjhjaa", sum := "9eca7106f3108f343a80d04849e4becc25988c001764cb4b0ba643a4f60aacc5", func := "taquin/taquinlaw22.RobotHears", spec := "robotHears", unfollowed := true, recurses := true, apart := false }
def RobotHearsSaid : Prop := robotHearsRow.holds Try.pinned (OpenSpec.ofChange robotHearsSpec)

/-- ITS FALSE NEIGHBOUR: 'it returns false'. Refute it at one input. -/
def robotHearsWrong : ChangeSpec := { name := "robotHears", fn := fun _ => fun
  | [d1, d2, d3] => { results := [.lit (.bool false)], args := [d1, d2, d3] }
  | _ => none }
def RobotHearsWrongFalsely : Prop := robotHearsRow.holds Try.pinned (OpenSpec.ofChange robotHearsWrong)

/-- 'taquinlaw11.SurveyFirst': WHATEVER THE INPUT: true; the input reads as it did. -/
def surveyFirstSpec : ChangeSpec := { name := "surveyFirst", fn := fun _ => fun
  | [d] => { results := [.lit (.bool true)], args := [d] }
  | _ => none }
def surveyFirstRow : OpenClaim := { program := "ytigdjhnpngjhjaa", sum := "9eca7106f3108f343a80d04849e4becc25988c001764cb4b0ba643a4f60aacc5", func := "taquin/taquinlaw11.SurveyFirst", spec := "surveyFirst", inPlace := ["internal/bytealg.IndexByteString"], unfollowed := true, recurses := true, apart := false }
def SurveyFirstSaid : Prop := surveyFirstRow.holds Try.pinned (OpenSpec.ofChange surveyFirstSpec)

/-- ITS FALSE NEIGHBOUR: 'it returns false'. Refute it at one input. -/
def surveyFirstWrong : ChangeSpec := { name := "surveyFirst", fn := fun _ => fun
  | [d] => { results := [.lit (.bool false)], args := [d] }
  | _ => none }
def SurveyFirstWrongFalsely : Prop := surveyFirstRow.holds Try.pinned (OpenSpec.ofChange surveyFirstWrong)

/-- 'taquinlaw11.SurveyWays': WHATEVER THE INPUT: true; the input reads as it did. -/
def surveyWaysSpec : ChangeSpec := { name := "surveyWays", fn := fun _ => fun
  | [d1, d2, d3] => { results := [.lit (.bool true)], args := [d1, d2, d3] }
  | _ => none }
def surveyWaysRow : OpenClaim := { program := "ytigdjhnpngjhjaa", sum := "9eca7106f3108f343a80d04849e4becc25988c001764cb4b0ba643a4f60aacc5", func := "taquin/taquinlaw11.SurveyWays", spec := "surveyWays", inPlace := ["internal/bytealg.IndexByteString"], unfollowed := true, recurses := true, apart := false }
def SurveyWaysSaid : Prop := surveyWaysRow.holds Try.pinned (OpenSpec.ofChange surveyWaysSpec)

/-- ITS FALSE NEIGHBOUR: 'it returns false'. Refute it at one input. -/
def surveyWaysWrong : ChangeSpec := { name := "surveyWays", fn := fun _ => fun
  | [d1, d2, d3] => { results := [.lit (.bool false)], args := [d1, d2, d3] }
  | _ => none }
def SurveyWaysWrongFalsely : Prop := surveyWaysRow.holds Try.pinned (OpenSpec.ofChange surveyWaysWrong)

/- THE SECOND FORM. 'bulk': how many values and letters a reading holds, each counted each time it is reached (what is shared counts as often as it is met; a slice's spare places count too). A statement '..UptoSaid' is the law's where the arguments, and the package variables that the reading takes, are together of bulk at most 1048576: NARROWER than '..Said'. Prove '..Said' where nothing that the law and all that it calls make is longer than what came in: it says more and counts as full. Else prove '..UptoSaid'. A law counts once. -/
mutual
def uptoBulk {H : Type} : DataW H → Nat
  | .lit (.string bytes) => bytes.length + 1
  | .lit _ => 1
  | .nil => 1
  | .ptr d => uptoBulk d + 1
  | .slice elems spare => uptoBulkAll elems + uptoBulkAll spare + 1
  | .agg parts => uptoBulkAll parts + 1
  | .iface _ d => uptoBulk d + 1
  | .map entries => uptoBulkEntries entries + 1
  | .held _ => 1
def uptoBulkAll {H : Type} : List (DataW H) → Nat
  | [] => 0
  | d :: r => uptoBulk d + uptoBulkAll r
def uptoBulkEntries {H : Type} : List (Lit × DataW H) → Nat
  | [] => 0
  | x :: r => uptoBulkEntry x + uptoBulkEntries r
def uptoBulkEntry {H : Type} : Lit × DataW H → Nat
  | (.string bytes, d) => bytes.length + uptoBulk d + 1
  | (_, d) => uptoBulk d + 1
 end
def uptoSmall : (H : Type) → List (DataW H) → Bool := fun _ ds => decide (uptoBulkAll ds ≤ 1048576)
def OpenSpec.upto (s : _root_.Go.ChangeSpec) : _root_.Go.OpenSpec := { _root_.Go.OpenSpec.ofChange s with cond := some uptoSmall }

/-- 'taquinlaw22.RobotStays', WHERE WHAT IT READS IS OF BULK AT MOST 1048576: true; the input reads as it did. -/
def robotStaysUptoRow : OpenClaim := { program := "ytigdjhnpngjhjaa", sum := "9eca7106f3108f343a80d04849e4becc25988c001764cb4b0ba643a4f60aacc5", func := "taquin/taquinlaw22.RobotStays", spec := "robotStays", unfollowed := true, recurses := true, apart := false, narrowed := true }
def RobotStaysUptoSaid : Prop := robotStaysUptoRow.holds Try.pinned (OpenSpec.upto robotStaysSpec)

/-- 'taquinlaw22.RobotHears', WHERE WHAT IT READS IS OF BULK AT MOST 1048576: true; the input reads as it did. -/
def robotHearsUptoRow : OpenClaim := { program := "ytigdjhnpngjhjaa", sum := "9eca7106f3108f343a80d04849e4becc25988c001764cb4b0ba643a4f60aacc5", func := "taquin/taquinlaw22.RobotHears", spec := "robotHears", unfollowed := true, recurses := true, apart := false, narrowed := true }
def RobotHearsUptoSaid : Prop := robotHearsUptoRow.holds Try.pinned (OpenSpec.upto robotHearsSpec)

/-- 'taquinlaw11.SurveyFirst', WHERE WHAT IT READS IS OF BULK AT MOST 1048576: true; the input reads as it did. -/
def surveyFirstUptoRow : OpenClaim := { program := "ytigdjhnpngjhjaa", sum := "9eca7106f3108f343a80d04849e4becc25988c001764cb4b0ba643a4f60aacc5", func := "taquin/taquinlaw11.SurveyFirst", spec := "surveyFirst", inPlace := ["internal/bytealg.IndexByteString"], unfollowed := true, recurses := true, apart := false, narrowed := true }
def SurveyFirstUptoSaid : Prop := surveyFirstUptoRow.holds Try.pinned (OpenSpec.upto surveyFirstSpec)

/-- 'taquinlaw11.SurveyWays', WHERE WHAT IT READS IS OF BULK AT MOST 1048576: true; the input reads as it did. -/
def surveyWaysUptoRow : OpenClaim := { program := "ytigdjhnpngjhjaa", sum := "9eca7106f3108f343a80d04849e4becc25988c001764cb4b0ba643a4f60aacc5", func := "taquin/taquinlaw11.SurveyWays", spec := "surveyWays", inPlace := ["internal/bytealg.IndexByteString"], unfollowed := true, recurses := true, apart := false, narrowed := true }
def SurveyWaysUptoSaid : Prop := surveyWaysUptoRow.holds Try.pinned (OpenSpec.upto surveyWaysSpec)

end Rows
end Go.Proofs.Ytigdjhnpngjhjaa

/-
  DERIVED. GIVEN WITH THE SEED: THE CARDS: each row of YtigdjhnpngjhjaaDoorRows.lean that lists a variable, with what it lists TIED to the program's text (the seventh form; the later family's looks); each row that meets fmt, with fmt's text TOLD by the authors' own Lean function (tested against real Go, not proved from fmt's source: count such statements apart). THE CARD IS WHAT COUNTS. Prove the row's statement (the work); the ties are given (YtigdjhnpngjhjaaDoorTie.lean); close each card by the builder's one call (the guide's Derived/Test/ToyasCard.lean, 'card_holds'). Laid BY PROGRAM, IN A SANDBOX (cutbox-door.mjs). By AI agents, Wed Nov 11 2026. No macro, syntax, notation, axiom, sorry.
-/
import Derived.Test.YtigdjhnpngjhjaaDoorRows
import GoSem.ClaimSeven
namespace Go.Proofs.YtigdjhnpngjhjaaDoor
namespace Rows

/-- THE TIED CARD OF 'taquinlaw01.WireWrites'. -/
def wireWritesCard : Claim7 := { stood := { row := wireWritesRow, standIns := [], harness := (true, "930a4621faa7f71d6b1f1f46f1d2770c5039f39f8f09a6365719e65ed2653f58"), looks := true }, kinds := [], alts := [], laidByText := true, laidKinds := [.data, .data, .data, .sentinel, .sentinel], laidTests := true, laidLooks := .later }
def WireWritesCardSaid : Prop := Claim7.holds Tryd.pinned (.plain (OpenSpec.ofChange wireWritesSpec)) wireWritesCard

/-- THE TIED CARD OF 'taquinlaw01.WireAgain'. -/
def wireAgainCard : Claim7 := { stood := { row := wireAgainRow, standIns := [], harness := (true, "930a4621faa7f71d6b1f1f46f1d2770c5039f39f8f09a6365719e65ed2653f58"), looks := true }, kinds := [], alts := [], laidByText := true, laidKinds := [.data, .data, .data, .sentinel, .sentinel], laidTests := true, laidLooks := .later }
def WireAgainCardSaid : Prop := Claim7.holds Tryd.pinned (.plain (OpenSpec.ofChange wireAgainSpec)) wireAgainCard

/-- THE TIED CARD OF 'taquinlaw01.WirePrefix'. -/
def wirePrefixCard : Claim7 := { stood := { row := wirePrefixRow, standIns := [], harness := (true, "930a4621faa7f71d6b1f1f46f1d2770c5039f39f8f09a6365719e65ed2653f58"), looks := true }, kinds := [], alts := [], laidByText := true, laidKinds := [.data, .data, .data, .sentinel, .sentinel], laidTests := true, laidLooks := .later }
def WirePrefixCardSaid : Prop := Claim7.holds Tryd.pinned (.plain (OpenSpec.ofChange wirePrefixSpec)) wirePrefixCard

/-- THE TIED CARD OF 'taquinlaw01.WireNests'. -/
def wireNestsCard : Claim7 := { stood := { row := wireNestsRow, standIns := [], harness := (true, "930a4621faa7f71d6b1f1f46f1d2770c5039f39f8f09a6365719e65ed2653f58"), looks := true }, kinds := [], alts := [], laidByText := true, laidKinds := [.data, .data, .data, .sentinel, .sentinel], laidTests := true, laidLooks := .later }
def WireNestsCardSaid : Prop := Claim7.holds Tryd.pinned (.plain (OpenSpec.ofChange wireNestsSpec)) wireNestsCard

/-- THE TIED CARD OF 'taquinlaw01.WireReads'. -/
def wireReadsCard : Claim7 := { stood := { row := wireReadsRow, standIns := [], harness := (true, "930a4621faa7f71d6b1f1f46f1d2770c5039f39f8f09a6365719e65ed2653f58"), looks := true }, kinds := [], alts := [], laidByText := true, laidKinds := [.data, .data, .data, .sentinel, .sentinel], laidTests := true, laidLooks := .later }
def WireReadsCardSaid : Prop := Claim7.holds Tryd.pinned (.plain (OpenSpec.ofChange wireReadsSpec)) wireReadsCard

/-- THE TIED CARD OF 'taquinlaw01.WireBack'. -/
def wireBackCard : Claim7 := { stood := { row := wireBackRow, standIns := [], harness := (true, "930a4621faa7f71d6b1f1f46f1d2770c5039f39f8f09a6365719e65ed2653f58"), looks := true }, kinds := [], alts := [], laidByText := true, laidKinds := [.data, .data, .data, .sentinel, .sentinel], laidTests := true, laidLooks := .later }
def WireBackCardSaid : Prop := Claim7.holds Tryd.pinned (.plain (OpenSpec.ofChange wireBackSpec)) wireBackCard

/-- THE TIED CARD OF 'taquinlaw45.SeamBack'. -/
def seamBackCard : Claim7 := { stood := { row := seamBackRow, standIns := [], harness := (true, "930a4621faa7f71d6b1f1f46f1d2770c5039f39f8f09a6365719e65ed2653f58"), looks := true }, kinds := [], alts := [], laidByText := true, laidKinds := [.data, .data, .data, .sentinel, .sentinel], laidTests := true, laidLooks := .later }
def SeamBackCardSaid : Prop := Claim7.holds Tryd.pinned (.plain (OpenSpec.ofChange seamBackSpec)) seamBackCard

/-- THE TIED CARD OF 'taquinlaw45.SeamTells'. -/
def seamTellsCard : Claim7 := { stood := { row := seamTellsRow, standIns := [], harness := (true, "930a4621faa7f71d6b1f1f46f1d2770c5039f39f8f09a6365719e65ed2653f58"), looks := true }, kinds := [], alts := [], laidByText := true, laidKinds := [.data, .data, .data, .sentinel, .sentinel], laidTests := true, laidLooks := .later }
def SeamTellsCardSaid : Prop := Claim7.holds Tryd.pinned (.plain (OpenSpec.ofChange seamTellsSpec)) seamTellsCard

/-- THE TIED CARD OF 'taquinlaw11.SurveyMakes'. -/
def surveyMakesCard : Claim7 := { stood := { row := surveyMakesRow, standIns := [], harness := (true, "930a4621faa7f71d6b1f1f46f1d2770c5039f39f8f09a6365719e65ed2653f58"), looks := true }, kinds := [], alts := [], laidByText := true, laidKinds := [.data, .data, .data], laidTests := true, laidLooks := .later }
def SurveyMakesCardSaid : Prop := Claim7.holds Tryd.pinned (.plain (OpenSpec.ofChange surveyMakesSpec)) surveyMakesCard

/-- THE TIED CARD OF 'taquinlaw22.RobotBack'. -/
def robotBackCard : Claim7 := { stood := { row := robotBackRow, standIns := [], harness := (true, "930a4621faa7f71d6b1f1f46f1d2770c5039f39f8f09a6365719e65ed2653f58"), looks := true }, kinds := [], alts := [], laidByText := true, laidKinds := [.data, .data, .data, .sentinel, .sentinel], laidTests := true, laidLooks := .later }
def RobotBackCardSaid : Prop := Claim7.holds Tryd.pinned (.plain (OpenSpec.ofChange robotBackSpec)) robotBackCard

/-- THE TIED CARD OF 'taquinlaw45.SeamGoes'. -/
def seamGoesCard : Claim7 := { stood := { row := seamGoesRow, standIns := [], harness := (true, "930a4621faa7f71d6b1f1f46f1d2770c5039f39f8f09a6365719e65ed2653f58"), looks := true }, kinds := [], alts := [], laidByText := true, laidKinds := [.data, .data, .data, .sentinel, .sentinel], laidTests := true, laidLooks := .later }
def SeamGoesCardSaid : Prop := Claim7.holds Tryd.pinned (.plain (OpenSpec.ofChange seamGoesSpec)) seamGoesCard

/-- THE TIED CARD OF 'taquinlaw44.LeaseBack'. -/
def leaseBackCard : Claim7 := { stood := { row := leaseBackRow, standIns := [], harness := (true, "930a4621faa7f71d6b1f1f46f1d2770c5039f39f8f09a6365719e65ed2653f58"), looks := true }, kinds := [], alts := [], laidByText := true, laidKinds := [.data, .data, .data, .sentinel, .sentinel], laidTests := true, laidLooks := .later }
def LeaseBackCardSaid : Prop := Claim7.holds Tryd.pinned (.plain (OpenSpec.ofChange leaseBackSpec)) leaseBackCard

/-- THE TIED CARD OF 'taquinlaw45.SeamOne'. -/
def seamOneCard : Claim7 := { stood := { row := seamOneRow, standIns := [], harness := (true, "930a4621faa7f71d6b1f1f46f1d2770c5039f39f8f09a6365719e65ed2653f58"), looks := true }, kinds := [], alts := [], laidByText := true, laidKinds := [.data, .data, .data, .sentinel, .sentinel], laidTests := true, laidLooks := .later }
def SeamOneCardSaid : Prop := Claim7.holds Tryd.pinned (.plain (OpenSpec.ofChange seamOneSpec)) seamOneCard

/-- THE TIED CARD OF 'taquinlaw45.SeamStale'. -/
def seamStaleCard : Claim7 := { stood := { row := seamStaleRow, standIns := [], harness := (true, "930a4621faa7f71d6b1f1f46f1d2770c5039f39f8f09a6365719e65ed2653f58"), looks := true }, kinds := [], alts := [], laidByText := true, laidKinds := [.data, .data, .data, .sentinel, .sentinel], laidTests := true, laidLooks := .later }
def SeamStaleCardSaid : Prop := Claim7.holds Tryd.pinned (.plain (OpenSpec.ofChange seamStaleSpec)) seamStaleCard

/-- THE TIED CARD OF 'taquinlaw44.LeaseTells'. -/
def leaseTellsCard : Claim7 := { stood := { row := leaseTellsRow, standIns := [], harness := (true, "930a4621faa7f71d6b1f1f46f1d2770c5039f39f8f09a6365719e65ed2653f58"), looks := true }, kinds := [], alts := [], laidByText := true, laidKinds := [.data, .data, .data, .sentinel, .sentinel], laidTests := true, laidLooks := .later }
def LeaseTellsCardSaid : Prop := Claim7.holds Tryd.pinned (.plain (OpenSpec.ofChange leaseTellsSpec)) leaseTellsCard

/-- THE TIED CARD OF 'taquinlaw44.LeaseApart'. -/
def leaseApartCard : Claim7 := { stood := { row := leaseApartRow, standIns := [], harness := (true, "930a4621faa7f71d6b1f1f46f1d2770c5039f39f8f09a6365719e65ed2653f58"), looks := true }, kinds := [], alts := [], laidByText := true, laidKinds := [.data, .data, .data, .sentinel, .sentinel], laidTests := true, laidLooks := .later }
def LeaseApartCardSaid : Prop := Claim7.holds Tryd.pinned (.plain (OpenSpec.ofChange leaseApartSpec)) leaseApartCard

/-- THE TIED CARD OF 'taquinlaw44.LeaseReturns'. -/
def leaseReturnsCard : Claim7 := { stood := { row := leaseReturnsRow, standIns := [], harness := (true, "930a4621faa7f71d6b1f1f46f1d2770c5039f39f8f09a6365719e65ed2653f58"), looks := true }, kinds := [], alts := [], laidByText := true, laidKinds := [.data, .data, .data, .sentinel, .sentinel], laidTests := true, laidLooks := .later }
def LeaseReturnsCardSaid : Prop := Claim7.holds Tryd.pinned (.plain (OpenSpec.ofChange leaseReturnsSpec)) leaseReturnsCard

/-- THE TIED CARD OF 'taquinlaw44.LeaseGoes'. -/
def leaseGoesCard : Claim7 := { stood := { row := leaseGoesRow, standIns := [], harness := (true, "930a4621faa7f71d6b1f1f46f1d2770c5039f39f8f09a6365719e65ed2653f58"), looks := true }, kinds := [], alts := [], laidByText := true, laidKinds := [.data, .data, .data, .sentinel, .sentinel], laidTests := true, laidLooks := .later }
def LeaseGoesCardSaid : Prop := Claim7.holds Tryd.pinned (.plain (OpenSpec.ofChange leaseGoesSpec)) leaseGoesCard

/-- THE SECOND FORM's CARD OF 'taquinlaw01.WireWrites'. -/
def wireWritesUptoCard : Claim7 := { stood := { row := wireWritesUptoRow, standIns := [], harness := (true, "930a4621faa7f71d6b1f1f46f1d2770c5039f39f8f09a6365719e65ed2653f58"), looks := true }, kinds := [], alts := [], laidByText := true, laidKinds := [.data, .data, .data, .sentinel, .sentinel], laidTests := true, laidLooks := .later }
def WireWritesUptoCardSaid : Prop := Claim7.holds Tryd.pinned (.plain (OpenSpec.upto wireWritesSpec)) wireWritesUptoCard

/-- THE SECOND FORM's CARD OF 'taquinlaw01.WireAgain'. -/
def wireAgainUptoCard : Claim7 := { stood := { row := wireAgainUptoRow, standIns := [], harness := (true, "930a4621faa7f71d6b1f1f46f1d2770c5039f39f8f09a6365719e65ed2653f58"), looks := true }, kinds := [], alts := [], laidByText := true, laidKinds := [.data, .data, .data, .sentinel, .sentinel], laidTests := true, laidLooks := .later }
def WireAgainUptoCardSaid : Prop := Claim7.holds Tryd.pinned (.plain (OpenSpec.upto wireAgainSpec)) wireAgainUptoCard

/-- THE SECOND FORM's CARD OF 'taquinlaw01.WirePrefix'. -/
def wirePrefixUptoCard : Claim7 := { stood := { row := wirePrefixUptoRow, standIns := [], harness := (true, "930a4621faa7f71d6b1f1f46f1d2770c5039f39f8f09a6365719e65ed2653f58"), looks := true }, kinds := [], alts := [], laidByText := true, laidKinds := [.data, .data, .data, .sentinel, .sentinel], laidTests := true, laidLooks := .later }
def WirePrefixUptoCardSaid : Prop := Claim7.holds Tryd.pinned (.plain (OpenSpec.upto wirePrefixSpec)) wirePrefixUptoCard

/-- THE SECOND FORM's CARD OF 'taquinlaw01.WireNests'. -/
def wireNestsUptoCard : Claim7 := { stood := { row := wireNestsUptoRow, standIns := [], harness := (true, "930a4621faa7f71d6b1f1f46f1d2770c5039f39f8f09a6365719e65ed2653f58"), looks := true }, kinds := [], alts := [], laidByText := true, laidKinds := [.data, .data, .data, .sentinel, .sentinel], laidTests := true, laidLooks := .later }
def WireNestsUptoCardSaid : Prop := Claim7.holds Tryd.pinned (.plain (OpenSpec.upto wireNestsSpec)) wireNestsUptoCard

/-- THE SECOND FORM's CARD OF 'taquinlaw01.WireReads'. -/
def wireReadsUptoCard : Claim7 := { stood := { row := wireReadsUptoRow, standIns := [], harness := (true, "930a4621faa7f71d6b1f1f46f1d2770c5039f39f8f09a6365719e65ed2653f58"), looks := true }, kinds := [], alts := [], laidByText := true, laidKinds := [.data, .data, .data, .sentinel, .sentinel], laidTests := true, laidLooks := .later }
def WireReadsUptoCardSaid : Prop := Claim7.holds Tryd.pinned (.plain (OpenSpec.upto wireReadsSpec)) wireReadsUptoCard

/-- THE SECOND FORM's CARD OF 'taquinlaw01.WireBack'. -/
def wireBackUptoCard : Claim7 := { stood := { row := wireBackUptoRow, standIns := [], harness := (true, "930a4621faa7f71d6b1f1f46f1d2770c5039f39f8f09a6365719e65ed2653f58"), looks := true }, kinds := [], alts := [], laidByText := true, laidKinds := [.data, .data, .data, .sentinel, .sentinel], laidTests := true, laidLooks := .later }
def WireBackUptoCardSaid : Prop := Claim7.holds Tryd.pinned (.plain (OpenSpec.upto wireBackSpec)) wireBackUptoCard

/-- THE SECOND FORM's CARD OF 'taquinlaw45.SeamBack'. -/
def seamBackUptoCard : Claim7 := { stood := { row := seamBackUptoRow, standIns := [], harness := (true, "930a4621faa7f71d6b1f1f46f1d2770c5039f39f8f09a6365719e65ed2653f58"), looks := true }, kinds := [], alts := [], laidByText := true, laidKinds := [.data, .data, .data, .sentinel, .sentinel], laidTests := true, laidLooks := .later }
def SeamBackUptoCardSaid : Prop := Claim7.holds Tryd.pinned (.plain (OpenSpec.upto seamBackSpec)) seamBackUptoCard

/-- THE SECOND FORM's CARD OF 'taquinlaw45.SeamTells'. -/
def seamTellsUptoCard : Claim7 := { stood := { row := seamTellsUptoRow, standIns := [], harness := (true, "930a4621faa7f71d6b1f1f46f1d2770c5039f39f8f09a6365719e65ed2653f58"), looks := true }, kinds := [], alts := [], laidByText := true, laidKinds := [.data, .data, .data, .sentinel, .sentinel], laidTests := true, laidLooks := .later }
def SeamTellsUptoCardSaid : Prop := Claim7.holds Tryd.pinned (.plain (OpenSpec.upto seamTellsSpec)) seamTellsUptoCard

/-- THE SECOND FORM's CARD OF 'taquinlaw11.SurveyMakes'. -/
def surveyMakesUptoCard : Claim7 := { stood := { row := surveyMakesUptoRow, standIns := [], harness := (true, "930a4621faa7f71d6b1f1f46f1d2770c5039f39f8f09a6365719e65ed2653f58"), looks := true }, kinds := [], alts := [], laidByText := true, laidKinds := [.data, .data, .data], laidTests := true, laidLooks := .later }
def SurveyMakesUptoCardSaid : Prop := Claim7.holds Tryd.pinned (.plain (OpenSpec.upto surveyMakesSpec)) surveyMakesUptoCard

/-- THE SECOND FORM's CARD OF 'taquinlaw22.RobotBack'. -/
def robotBackUptoCard : Claim7 := { stood := { row := robotBackUptoRow, standIns := [], harness := (true, "930a4621faa7f71d6b1f1f46f1d2770c5039f39f8f09a6365719e65ed2653f58"), looks := true }, kinds := [], alts := [], laidByText := true, laidKinds := [.data, .data, .data, .sentinel, .sentinel], laidTests := true, laidLooks := .later }
def RobotBackUptoCardSaid : Prop := Claim7.holds Tryd.pinned (.plain (OpenSpec.upto robotBackSpec)) robotBackUptoCard

/-- THE SECOND FORM's CARD OF 'taquinlaw45.SeamGoes'. -/
def seamGoesUptoCard : Claim7 := { stood := { row := seamGoesUptoRow, standIns := [], harness := (true, "930a4621faa7f71d6b1f1f46f1d2770c5039f39f8f09a6365719e65ed2653f58"), looks := true }, kinds := [], alts := [], laidByText := true, laidKinds := [.data, .data, .data, .sentinel, .sentinel], laidTests := true, laidLooks := .later }
def SeamGoesUptoCardSaid : Prop := Claim7.holds Tryd.pinned (.plain (OpenSpec.upto seamGoesSpec)) seamGoesUptoCard

/-- THE SECOND FORM's CARD OF 'taquinlaw44.LeaseBack'. -/
def leaseBackUptoCard : Claim7 := { stood := { row := leaseBackUptoRow, standIns := [], harness := (true, "930a4621faa7f71d6b1f1f46f1d2770c5039f39f8f09a6365719e65ed2653f58"), looks := true }, kinds := [], alts := [], laidByText := true, laidKinds := [.data, .data, .data, .sentinel, .sentinel], laidTests := true, laidLooks := .later }
def LeaseBackUptoCardSaid : Prop := Claim7.holds Tryd.pinned (.plain (OpenSpec.upto leaseBackSpec)) leaseBackUptoCard

/-- THE SECOND FORM's CARD OF 'taquinlaw45.SeamOne'. -/
def seamOneUptoCard : Claim7 := { stood := { row := seamOneUptoRow, standIns := [], harness := (true, "930a4621faa7f71d6b1f1f46f1d2770c5039f39f8f09a6365719e65ed2653f58"), looks := true }, kinds := [], alts := [], laidByText := true, laidKinds := [.data, .data, .data, .sentinel, .sentinel], laidTests := true, laidLooks := .later }
def SeamOneUptoCardSaid : Prop := Claim7.holds Tryd.pinned (.plain (OpenSpec.upto seamOneSpec)) seamOneUptoCard

/-- THE SECOND FORM's CARD OF 'taquinlaw45.SeamStale'. -/
def seamStaleUptoCard : Claim7 := { stood := { row := seamStaleUptoRow, standIns := [], harness := (true, "930a4621faa7f71d6b1f1f46f1d2770c5039f39f8f09a6365719e65ed2653f58"), looks := true }, kinds := [], alts := [], laidByText := true, laidKinds := [.data, .data, .data, .sentinel, .sentinel], laidTests := true, laidLooks := .later }
def SeamStaleUptoCardSaid : Prop := Claim7.holds Tryd.pinned (.plain (OpenSpec.upto seamStaleSpec)) seamStaleUptoCard

/-- THE SECOND FORM's CARD OF 'taquinlaw44.LeaseTells'. -/
def leaseTellsUptoCard : Claim7 := { stood := { row := leaseTellsUptoRow, standIns := [], harness := (true, "930a4621faa7f71d6b1f1f46f1d2770c5039f39f8f09a6365719e65ed2653f58"), looks := true }, kinds := [], alts := [], laidByText := true, laidKinds := [.data, .data, .data, .sentinel, .sentinel], laidTests := true, laidLooks := .later }
def LeaseTellsUptoCardSaid : Prop := Claim7.holds Tryd.pinned (.plain (OpenSpec.upto leaseTellsSpec)) leaseTellsUptoCard

/-- THE SECOND FORM's CARD OF 'taquinlaw44.LeaseApart'. -/
def leaseApartUptoCard : Claim7 := { stood := { row := leaseApartUptoRow, standIns := [], harness := (true, "930a4621faa7f71d6b1f1f46f1d2770c5039f39f8f09a6365719e65ed2653f58"), looks := true }, kinds := [], alts := [], laidByText := true, laidKinds := [.data, .data, .data, .sentinel, .sentinel], laidTests := true, laidLooks := .later }
def LeaseApartUptoCardSaid : Prop := Claim7.holds Tryd.pinned (.plain (OpenSpec.upto leaseApartSpec)) leaseApartUptoCard

/-- THE SECOND FORM's CARD OF 'taquinlaw44.LeaseReturns'. -/
def leaseReturnsUptoCard : Claim7 := { stood := { row := leaseReturnsUptoRow, standIns := [], harness := (true, "930a4621faa7f71d6b1f1f46f1d2770c5039f39f8f09a6365719e65ed2653f58"), looks := true }, kinds := [], alts := [], laidByText := true, laidKinds := [.data, .data, .data, .sentinel, .sentinel], laidTests := true, laidLooks := .later }
def LeaseReturnsUptoCardSaid : Prop := Claim7.holds Tryd.pinned (.plain (OpenSpec.upto leaseReturnsSpec)) leaseReturnsUptoCard

/-- THE SECOND FORM's CARD OF 'taquinlaw44.LeaseGoes'. -/
def leaseGoesUptoCard : Claim7 := { stood := { row := leaseGoesUptoRow, standIns := [], harness := (true, "930a4621faa7f71d6b1f1f46f1d2770c5039f39f8f09a6365719e65ed2653f58"), looks := true }, kinds := [], alts := [], laidByText := true, laidKinds := [.data, .data, .data, .sentinel, .sentinel], laidTests := true, laidLooks := .later }
def LeaseGoesUptoCardSaid : Prop := Claim7.holds Tryd.pinned (.plain (OpenSpec.upto leaseGoesSpec)) leaseGoesUptoCard
end Rows
end Go.Proofs.YtigdjhnpngjhjaaDoor

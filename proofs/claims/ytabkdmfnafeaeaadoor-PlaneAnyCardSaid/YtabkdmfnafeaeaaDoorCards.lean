/-
  DERIVED. GIVEN WITH THE SEED: THE CARDS: each row of YtabkdmfnafeaeaaDoorRows.lean that lists a variable, with what it lists TIED to the program's text (the seventh form; the later family's looks); each row that meets fmt, with fmt's text TOLD by the authors' own Lean function (tested against real Go, not proved from fmt's source: count such statements apart). THE CARD IS WHAT COUNTS. Prove the row's statement (the work); the ties are given (YtabkdmfnafeaeaaDoorTie.lean); close each card by the builder's one call (the guide's Derived/Test/ToyasCard.lean, 'card_holds'). Laid BY PROGRAM, IN A SANDBOX (cutbox-door.mjs). By AI agents, Wed Nov 11 2026. No macro, syntax, notation, axiom, sorry.
-/
import Derived.Test.YtabkdmfnafeaeaaDoorRows
import GoSem.ClaimSeven
namespace Go.Proofs.YtabkdmfnafeaeaaDoor
namespace Rows

/-- THE TIED CARD OF 'tollgatelaw09.HeadReads'. -/
def headReadsCard : Claim7 := { stood := { row := headReadsRow, standIns := [], harness := (true, "8cc5231df79e6ed6e750b47c022e2771e749c09efac520f67796d377c953a438"), looks := false }, kinds := [], alts := [], laidByText := true, laidKinds := [.data, .pinned], laidTests := true, laidLooks := .later }
def HeadReadsCardSaid : Prop := Claim7.holds Tryd.pinned (.plain (OpenSpec.ofChange headReadsSpec)) headReadsCard

/-- THE TIED CARD OF 'tollgatelaw09.HeadTargets'. -/
def headTargetsCard : Claim7 := { stood := { row := headTargetsRow, standIns := [], harness := (true, "8cc5231df79e6ed6e750b47c022e2771e749c09efac520f67796d377c953a438"), looks := false }, kinds := [], alts := [], laidByText := true, laidKinds := [.data, .pinned], laidTests := true, laidLooks := .later }
def HeadTargetsCardSaid : Prop := Claim7.holds Tryd.pinned (.plain (OpenSpec.ofChange headTargetsSpec)) headTargetsCard

/-- THE TIED CARD OF 'tollgatelaw09.HeadFields'. -/
def headFieldsCard : Claim7 := { stood := { row := headFieldsRow, standIns := [], harness := (true, "8cc5231df79e6ed6e750b47c022e2771e749c09efac520f67796d377c953a438"), looks := false }, kinds := [], alts := [], laidByText := true, laidKinds := [.data, .pinned], laidTests := true, laidLooks := .later }
def HeadFieldsCardSaid : Prop := Claim7.holds Tryd.pinned (.plain (OpenSpec.ofChange headFieldsSpec)) headFieldsCard

/-- THE TIED CARD OF 'tollgatelaw09.HeadWrites'. -/
def headWritesCard : Claim7 := { stood := { row := headWritesRow, standIns := [], harness := (true, "8cc5231df79e6ed6e750b47c022e2771e749c09efac520f67796d377c953a438"), looks := false }, kinds := [], alts := [], laidByText := true, laidKinds := [.data, .pinned], laidTests := true, laidLooks := .later }
def HeadWritesCardSaid : Prop := Claim7.holds Tryd.pinned (.plain (OpenSpec.ofChange headWritesSpec)) headWritesCard

/-- THE TIED CARD OF 'tollgatelaw09.HeadBack'. -/
def headBackCard : Claim7 := { stood := { row := headBackRow, standIns := [], harness := (true, "8cc5231df79e6ed6e750b47c022e2771e749c09efac520f67796d377c953a438"), looks := false }, kinds := [], alts := [], laidByText := true, laidKinds := [.data, .pinned], laidTests := true, laidLooks := .later }
def HeadBackCardSaid : Prop := Claim7.holds Tryd.pinned (.plain (OpenSpec.ofChange headBackSpec)) headBackCard

/-- THE TIED CARD OF 'tollgatelaw09.HeadAgain'. -/
def headAgainCard : Claim7 := { stood := { row := headAgainRow, standIns := [], harness := (true, "8cc5231df79e6ed6e750b47c022e2771e749c09efac520f67796d377c953a438"), looks := false }, kinds := [], alts := [], laidByText := true, laidKinds := [.data, .pinned], laidTests := true, laidLooks := .later }
def HeadAgainCardSaid : Prop := Claim7.holds Tryd.pinned (.plain (OpenSpec.ofChange headAgainSpec)) headAgainCard

/-- THE TIED CARD OF 'tollgatelaw09.HeadCuts'. -/
def headCutsCard : Claim7 := { stood := { row := headCutsRow, standIns := [], harness := (true, "8cc5231df79e6ed6e750b47c022e2771e749c09efac520f67796d377c953a438"), looks := false }, kinds := [], alts := [], laidByText := true, laidKinds := [.data, .pinned], laidTests := true, laidLooks := .later }
def HeadCutsCardSaid : Prop := Claim7.holds Tryd.pinned (.plain (OpenSpec.ofChange headCutsSpec)) headCutsCard

/-- THE TIED CARD OF 'tollgatelaw09.HeadLetters'. -/
def headLettersCard : Claim7 := { stood := { row := headLettersRow, standIns := [], harness := (true, "8cc5231df79e6ed6e750b47c022e2771e749c09efac520f67796d377c953a438"), looks := false }, kinds := [], alts := [], laidByText := true, laidKinds := [.data, .pinned], laidTests := true, laidLooks := .later }
def HeadLettersCardSaid : Prop := Claim7.holds Tryd.pinned (.plain (OpenSpec.ofChange headLettersSpec)) headLettersCard

/-- THE TIED CARD OF 'tollgatelaw09.HeadHosts'. -/
def headHostsCard : Claim7 := { stood := { row := headHostsRow, standIns := [], harness := (true, "8cc5231df79e6ed6e750b47c022e2771e749c09efac520f67796d377c953a438"), looks := false }, kinds := [], alts := [], laidByText := true, laidKinds := [.data, .pinned], laidTests := true, laidLooks := .later }
def HeadHostsCardSaid : Prop := Claim7.holds Tryd.pinned (.plain (OpenSpec.ofChange headHostsSpec)) headHostsCard

/-- THE TIED CARD OF 'tollgatelaw10.PlaneAny'. -/
def planeAnyCard : Claim7 := { stood := { row := planeAnyRow, standIns := [], harness := (true, "8cc5231df79e6ed6e750b47c022e2771e749c09efac520f67796d377c953a438"), looks := false }, kinds := [], alts := [], laidByText := true, laidKinds := [.data, .pinned], laidTests := true, laidLooks := .later }
def PlaneAnyCardSaid : Prop := Claim7.holds Tryd.pinned (.plain (OpenSpec.ofChange planeAnySpec)) planeAnyCard

/-- THE TIED CARD OF 'tollgatelaw10.PlaneSame'. -/
def planeSameCard : Claim7 := { stood := { row := planeSameRow, standIns := [], harness := (true, "8cc5231df79e6ed6e750b47c022e2771e749c09efac520f67796d377c953a438"), looks := false }, kinds := [], alts := [], laidByText := true, laidKinds := [.data, .pinned], laidTests := true, laidLooks := .later }
def PlaneSameCardSaid : Prop := Claim7.holds Tryd.pinned (.plain (OpenSpec.ofChange planeSameSpec)) planeSameCard

/-- THE SECOND FORM's CARD OF 'tollgatelaw09.HeadReads'. -/
def headReadsUptoCard : Claim7 := { stood := { row := headReadsUptoRow, standIns := [], harness := (true, "8cc5231df79e6ed6e750b47c022e2771e749c09efac520f67796d377c953a438"), looks := false }, kinds := [], alts := [], laidByText := true, laidKinds := [.data, .pinned], laidTests := true, laidLooks := .later }
def HeadReadsUptoCardSaid : Prop := Claim7.holds Tryd.pinned (.plain (OpenSpec.upto headReadsSpec)) headReadsUptoCard

/-- THE SECOND FORM's CARD OF 'tollgatelaw09.HeadTargets'. -/
def headTargetsUptoCard : Claim7 := { stood := { row := headTargetsUptoRow, standIns := [], harness := (true, "8cc5231df79e6ed6e750b47c022e2771e749c09efac520f67796d377c953a438"), looks := false }, kinds := [], alts := [], laidByText := true, laidKinds := [.data, .pinned], laidTests := true, laidLooks := .later }
def HeadTargetsUptoCardSaid : Prop := Claim7.holds Tryd.pinned (.plain (OpenSpec.upto headTargetsSpec)) headTargetsUptoCard

/-- THE SECOND FORM's CARD OF 'tollgatelaw09.HeadFields'. -/
def headFieldsUptoCard : Claim7 := { stood := { row := headFieldsUptoRow, standIns := [], harness := (true, "8cc5231df79e6ed6e750b47c022e2771e749c09efac520f67796d377c953a438"), looks := false }, kinds := [], alts := [], laidByText := true, laidKinds := [.data, .pinned], laidTests := true, laidLooks := .later }
def HeadFieldsUptoCardSaid : Prop := Claim7.holds Tryd.pinned (.plain (OpenSpec.upto headFieldsSpec)) headFieldsUptoCard

/-- THE SECOND FORM's CARD OF 'tollgatelaw09.HeadWrites'. -/
def headWritesUptoCard : Claim7 := { stood := { row := headWritesUptoRow, standIns := [], harness := (true, "8cc5231df79e6ed6e750b47c022e2771e749c09efac520f67796d377c953a438"), looks := false }, kinds := [], alts := [], laidByText := true, laidKinds := [.data, .pinned], laidTests := true, laidLooks := .later }
def HeadWritesUptoCardSaid : Prop := Claim7.holds Tryd.pinned (.plain (OpenSpec.upto headWritesSpec)) headWritesUptoCard

/-- THE SECOND FORM's CARD OF 'tollgatelaw09.HeadBack'. -/
def headBackUptoCard : Claim7 := { stood := { row := headBackUptoRow, standIns := [], harness := (true, "8cc5231df79e6ed6e750b47c022e2771e749c09efac520f67796d377c953a438"), looks := false }, kinds := [], alts := [], laidByText := true, laidKinds := [.data, .pinned], laidTests := true, laidLooks := .later }
def HeadBackUptoCardSaid : Prop := Claim7.holds Tryd.pinned (.plain (OpenSpec.upto headBackSpec)) headBackUptoCard

/-- THE SECOND FORM's CARD OF 'tollgatelaw09.HeadAgain'. -/
def headAgainUptoCard : Claim7 := { stood := { row := headAgainUptoRow, standIns := [], harness := (true, "8cc5231df79e6ed6e750b47c022e2771e749c09efac520f67796d377c953a438"), looks := false }, kinds := [], alts := [], laidByText := true, laidKinds := [.data, .pinned], laidTests := true, laidLooks := .later }
def HeadAgainUptoCardSaid : Prop := Claim7.holds Tryd.pinned (.plain (OpenSpec.upto headAgainSpec)) headAgainUptoCard

/-- THE SECOND FORM's CARD OF 'tollgatelaw09.HeadCuts'. -/
def headCutsUptoCard : Claim7 := { stood := { row := headCutsUptoRow, standIns := [], harness := (true, "8cc5231df79e6ed6e750b47c022e2771e749c09efac520f67796d377c953a438"), looks := false }, kinds := [], alts := [], laidByText := true, laidKinds := [.data, .pinned], laidTests := true, laidLooks := .later }
def HeadCutsUptoCardSaid : Prop := Claim7.holds Tryd.pinned (.plain (OpenSpec.upto headCutsSpec)) headCutsUptoCard

/-- THE SECOND FORM's CARD OF 'tollgatelaw09.HeadLetters'. -/
def headLettersUptoCard : Claim7 := { stood := { row := headLettersUptoRow, standIns := [], harness := (true, "8cc5231df79e6ed6e750b47c022e2771e749c09efac520f67796d377c953a438"), looks := false }, kinds := [], alts := [], laidByText := true, laidKinds := [.data, .pinned], laidTests := true, laidLooks := .later }
def HeadLettersUptoCardSaid : Prop := Claim7.holds Tryd.pinned (.plain (OpenSpec.upto headLettersSpec)) headLettersUptoCard

/-- THE SECOND FORM's CARD OF 'tollgatelaw09.HeadHosts'. -/
def headHostsUptoCard : Claim7 := { stood := { row := headHostsUptoRow, standIns := [], harness := (true, "8cc5231df79e6ed6e750b47c022e2771e749c09efac520f67796d377c953a438"), looks := false }, kinds := [], alts := [], laidByText := true, laidKinds := [.data, .pinned], laidTests := true, laidLooks := .later }
def HeadHostsUptoCardSaid : Prop := Claim7.holds Tryd.pinned (.plain (OpenSpec.upto headHostsSpec)) headHostsUptoCard

/-- THE SECOND FORM's CARD OF 'tollgatelaw10.PlaneAny'. -/
def planeAnyUptoCard : Claim7 := { stood := { row := planeAnyUptoRow, standIns := [], harness := (true, "8cc5231df79e6ed6e750b47c022e2771e749c09efac520f67796d377c953a438"), looks := false }, kinds := [], alts := [], laidByText := true, laidKinds := [.data, .pinned], laidTests := true, laidLooks := .later }
def PlaneAnyUptoCardSaid : Prop := Claim7.holds Tryd.pinned (.plain (OpenSpec.upto planeAnySpec)) planeAnyUptoCard

/-- THE SECOND FORM's CARD OF 'tollgatelaw10.PlaneSame'. -/
def planeSameUptoCard : Claim7 := { stood := { row := planeSameUptoRow, standIns := [], harness := (true, "8cc5231df79e6ed6e750b47c022e2771e749c09efac520f67796d377c953a438"), looks := false }, kinds := [], alts := [], laidByText := true, laidKinds := [.data, .pinned], laidTests := true, laidLooks := .later }
def PlaneSameUptoCardSaid : Prop := Claim7.holds Tryd.pinned (.plain (OpenSpec.upto planeSameSpec)) planeSameUptoCard
end Rows
end Go.Proofs.YtabkdmfnafeaeaaDoor

/-
  DERIVED. GIVEN WITH THE SEED: THE CARDS: each row of YtahaihnlkohhgaaGreatDoorRows.lean that lists a variable, with what it lists TIED to the program's text (the seventh form; the later family's looks); each row that meets fmt, with fmt's text TOLD by the authors' own Lean function (tested against real Go, not proved from fmt's source: count such statements apart). THE CARD IS WHAT COUNTS. Prove the row's statement (the work); the ties are given (YtahaihnlkohhgaaGreatDoorTie.lean); close each card by the builder's one call (the guide's Derived/Test/ToyasCard.lean, 'card_holds'). Laid BY PROGRAM, IN A SANDBOX (cutbox-door.mjs). By AI agents, Wed Nov 11 2026. No macro, syntax, notation, axiom, sorry.
-/
import Derived.Test.YtahaihnlkohhgaaGreatDoorRows
import GoSem.ClaimSeven
namespace Go.Proofs.YtahaihnlkohhgaaGreatDoor
namespace Rows

/-- THE TIED CARD OF 'tollgatelaw10.PlaneServes'. -/
def planeServesCard : Claim7 := { stood := { row := planeServesRow, standIns := [], harness := (true, "bf171870807e384279db2b0485a10e97abbc016f61ffe2ccdecddc3eb8f889b4"), looks := false }, kinds := [], alts := [], laidByText := true, laidKinds := [.data, .pinned], laidTests := true, laidLooks := .later }
def PlaneServesCardSaid : Prop := Claim7.holds Tryz.pinned (.plain (OpenSpec.ofChange planeServesSpec)) planeServesCard

/-- THE SECOND FORM's CARD OF 'tollgatelaw10.PlaneServes'. -/
def planeServesUptoCard : Claim7 := { stood := { row := planeServesUptoRow, standIns := [], harness := (true, "bf171870807e384279db2b0485a10e97abbc016f61ffe2ccdecddc3eb8f889b4"), looks := false }, kinds := [], alts := [], laidByText := true, laidKinds := [.data, .pinned], laidTests := true, laidLooks := .later }
def PlaneServesUptoCardSaid : Prop := Claim7.holds Tryz.pinned (.plain (OpenSpec.upto planeServesSpec)) planeServesUptoCard
end Rows
end Go.Proofs.YtahaihnlkohhgaaGreatDoor

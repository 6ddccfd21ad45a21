/-
  DERIVED. GIVEN WITH THE SEED: THE CARDS: each row of YtpigfccpogmeaaaGreatDoorRows.lean that lists a variable, with what it lists TIED to the program's text (the seventh form; the later family's looks); each row that meets fmt, with fmt's text TOLD by the authors' own Lean function (tested against real Go, not proved from fmt's source: count such statements apart). THE CARD IS WHAT COUNTS. Prove the row's statement (the work); the ties are given (YtpigfccpogmeaaaGreatDoorTie.lean); close each card by the builder's one call (the guide's Derived/Test/ToyasCard.lean, 'card_holds'). Laid BY PROGRAM, IN A SANDBOX (cutbox-door.mjs). By AI agents, Wed Nov 11 2026. No macro, syntax, notation, axiom, sorry.
-/
import Derived.Test.YtpigfccpogmeaaaGreatDoorRows
import GoSem.ClaimSeven
namespace Go.Proofs.YtpigfccpogmeaaaGreatDoor
namespace Rows

/-- THE TIED CARD OF 'tollgatetop.TopGate'. -/
def topGateCard : Claim7 := { stood := { row := topGateRow, standIns := [], harness := (true, "097a0ba5fed3d1f7089e3245d6968a36cbccc6de7d138b9bd822cca73fabd647"), looks := false }, kinds := [], alts := [], laidByText := true, laidKinds := [.data, .pinned], laidTests := true, laidLooks := .later }
def TopGateCardSaid : Prop := Claim7.holds Tryz.pinned (.plain (OpenSpec.ofChange topGateSpec)) topGateCard

/-- THE SECOND FORM's CARD OF 'tollgatetop.TopGate'. -/
def topGateUptoCard : Claim7 := { stood := { row := topGateUptoRow, standIns := [], harness := (true, "097a0ba5fed3d1f7089e3245d6968a36cbccc6de7d138b9bd822cca73fabd647"), looks := false }, kinds := [], alts := [], laidByText := true, laidKinds := [.data, .pinned], laidTests := true, laidLooks := .later }
def TopGateUptoCardSaid : Prop := Claim7.holds Tryz.pinned (.plain (OpenSpec.upto topGateSpec)) topGateUptoCard
end Rows
end Go.Proofs.YtpigfccpogmeaaaGreatDoor

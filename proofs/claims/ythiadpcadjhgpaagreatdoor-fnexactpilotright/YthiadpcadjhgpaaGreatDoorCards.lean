/-
  DERIVED. GIVEN WITH THE SEED: THE CARDS: each row of YthiadpcadjhgpaaGreatDoorRows.lean that lists a variable, with what it lists TIED to the program's text (the seventh form; the later family's looks); each row that meets fmt, with fmt's text TOLD by the authors' own Lean function (tested against real Go, not proved from fmt's source: count such statements apart). THE CARD IS WHAT COUNTS. Prove the row's statement (the work); the ties are given (YthiadpcadjhgpaaGreatDoorTie.lean); close each card by the builder's one call (the guide's Derived/Test/ToyasCard.lean, 'card_holds'). Laid BY PROGRAM, IN A SANDBOX (cutbox-door.mjs). By AI agents, Wed Nov 11 2026. No macro, syntax, notation, axiom, sorry.
-/
import Derived.Test.YthiadpcadjhgpaaGreatDoorRows
import GoSem.ClaimSeven
namespace Go.Proofs.YthiadpcadjhgpaaGreatDoor
namespace Rows

/-- THE TIED CARD OF 'laws.FnExactPilotRight'. -/
def fnExactPilotRightCard : Claim7 := { stood := { row := fnExactPilotRightRow, standIns := [], harness := (true, "c633109252add31947fbe277c0789355c612e469e9f536909ec2ff653fd82312"), looks := false }, kinds := [], alts := [], laidByText := true, laidKinds := [.data, .pinned], laidTests := true, laidLooks := .later }
def FnExactPilotRightCardSaid : Prop := Claim7.holds Tryz.pinned (.plain (OpenSpec.ofChange fnExactPilotRightSpec)) fnExactPilotRightCard

/-- THE SECOND FORM's CARD OF 'laws.FnExactPilotRight'. -/
def fnExactPilotRightUptoCard : Claim7 := { stood := { row := fnExactPilotRightUptoRow, standIns := [], harness := (true, "c633109252add31947fbe277c0789355c612e469e9f536909ec2ff653fd82312"), looks := false }, kinds := [], alts := [], laidByText := true, laidKinds := [.data, .pinned], laidTests := true, laidLooks := .later }
def FnExactPilotRightUptoCardSaid : Prop := Claim7.holds Tryz.pinned (.plain (OpenSpec.upto fnExactPilotRightSpec)) fnExactPilotRightUptoCard
end Rows
end Go.Proofs.YthiadpcadjhgpaaGreatDoor

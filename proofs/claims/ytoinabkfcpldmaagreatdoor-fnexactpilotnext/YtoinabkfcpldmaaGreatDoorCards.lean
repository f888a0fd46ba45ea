/-
  DERIVED. GIVEN WITH THE SEED: THE CARDS: each row of YtoinabkfcpldmaaGreatDoorRows.lean that lists a variable, with what it lists TIED to the program's text (the seventh form; the later family's looks); each row that meets fmt, with fmt's text TOLD by the authors' own Lean function (tested against real Go, not proved from fmt's source: count such statements apart). THE CARD IS WHAT COUNTS. Prove the row's statement (the work); the ties are given (YtoinabkfcpldmaaGreatDoorTie.lean); close each card by the builder's one call (the guide's Derived/Test/ToyasCard.lean, 'card_holds'). Laid BY PROGRAM, IN A SANDBOX (cutbox-door.mjs). By AI agents, Wed Nov 11 2026. No macro, syntax, notation, axiom, sorry.
-/
import Derived.Test.YtoinabkfcpldmaaGreatDoorRows
import GoSem.ClaimSeven
namespace Go.Proofs.YtoinabkfcpldmaaGreatDoor
namespace Rows

/-- THE TIED CARD OF 'laws.FnExactPilotNext'. -/
def fnExactPilotNextCard : Claim7 := { stood := { row := fnExactPilotNextRow, standIns := [], harness := (true, "61b88eba8457505f51724da80c56f567bdeee4e649757240fe93efa49098b28a"), looks := false }, kinds := [], alts := [], laidByText := true, laidKinds := [.data, .pinned], laidTests := true, laidLooks := .later }
def FnExactPilotNextCardSaid : Prop := Claim7.holds Tryz.pinned (.plain (OpenSpec.ofChange fnExactPilotNextSpec)) fnExactPilotNextCard

/-- THE TIED CARD OF 'laws.FnExactPilotAll'. -/
def fnExactPilotAllCard : Claim7 := { stood := { row := fnExactPilotAllRow, standIns := [], harness := (true, "61b88eba8457505f51724da80c56f567bdeee4e649757240fe93efa49098b28a"), looks := false }, kinds := [], alts := [], laidByText := true, laidKinds := [.data, .pinned], laidTests := true, laidLooks := .later }
def FnExactPilotAllCardSaid : Prop := Claim7.holds Tryz.pinned (.plain (OpenSpec.ofChange fnExactPilotAllSpec)) fnExactPilotAllCard

/-- THE SECOND FORM's CARD OF 'laws.FnExactPilotNext'. -/
def fnExactPilotNextUptoCard : Claim7 := { stood := { row := fnExactPilotNextUptoRow, standIns := [], harness := (true, "61b88eba8457505f51724da80c56f567bdeee4e649757240fe93efa49098b28a"), looks := false }, kinds := [], alts := [], laidByText := true, laidKinds := [.data, .pinned], laidTests := true, laidLooks := .later }
def FnExactPilotNextUptoCardSaid : Prop := Claim7.holds Tryz.pinned (.plain (OpenSpec.upto fnExactPilotNextSpec)) fnExactPilotNextUptoCard

/-- THE SECOND FORM's CARD OF 'laws.FnExactPilotAll'. -/
def fnExactPilotAllUptoCard : Claim7 := { stood := { row := fnExactPilotAllUptoRow, standIns := [], harness := (true, "61b88eba8457505f51724da80c56f567bdeee4e649757240fe93efa49098b28a"), looks := false }, kinds := [], alts := [], laidByText := true, laidKinds := [.data, .pinned], laidTests := true, laidLooks := .later }
def FnExactPilotAllUptoCardSaid : Prop := Claim7.holds Tryz.pinned (.plain (OpenSpec.upto fnExactPilotAllSpec)) fnExactPilotAllUptoCard
end Rows
end Go.Proofs.YtoinabkfcpldmaaGreatDoor

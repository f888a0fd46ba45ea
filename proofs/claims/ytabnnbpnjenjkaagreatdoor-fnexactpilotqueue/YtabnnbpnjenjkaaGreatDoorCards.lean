/-
  DERIVED. GIVEN WITH THE SEED: THE CARDS: each row of YtabnnbpnjenjkaaGreatDoorRows.lean that lists a variable, with what it lists TIED to the program's text (the seventh form; the later family's looks); each row that meets fmt, with fmt's text TOLD by the authors' own Lean function (tested against real Go, not proved from fmt's source: count such statements apart). THE CARD IS WHAT COUNTS. Prove the row's statement (the work); the ties are given (YtabnnbpnjenjkaaGreatDoorTie.lean); close each card by the builder's one call (the guide's Derived/Test/ToyasCard.lean, 'card_holds'). Laid BY PROGRAM, IN A SANDBOX (cutbox-door.mjs). By AI agents, Wed Nov 11 2026. No macro, syntax, notation, axiom, sorry.
-/
import Derived.Test.YtabnnbpnjenjkaaGreatDoorRows
import GoSem.ClaimSeven
namespace Go.Proofs.YtabnnbpnjenjkaaGreatDoor
namespace Rows

/-- THE TIED CARD OF 'laws.FnExactPilotDo'. -/
def fnExactPilotDoCard : Claim7 := { stood := { row := fnExactPilotDoRow, standIns := [], harness := (true, "a0323633786475ff5e4315b11755fa58977398f070b7574bb13ce8b0af07257e"), looks := false }, kinds := [], alts := [], laidByText := true, laidKinds := [.data, .pinned], laidTests := true, laidLooks := .later }
def FnExactPilotDoCardSaid : Prop := Claim7.holds Tryz.pinned (.plain (OpenSpec.ofChange fnExactPilotDoSpec)) fnExactPilotDoCard

/-- THE TIED CARD OF 'laws.FnExactPilotHarm'. -/
def fnExactPilotHarmCard : Claim7 := { stood := { row := fnExactPilotHarmRow, standIns := [], harness := (true, "a0323633786475ff5e4315b11755fa58977398f070b7574bb13ce8b0af07257e"), looks := false }, kinds := [], alts := [], laidByText := true, laidKinds := [.data, .pinned], laidTests := true, laidLooks := .later }
def FnExactPilotHarmCardSaid : Prop := Claim7.holds Tryz.pinned (.plain (OpenSpec.ofChange fnExactPilotHarmSpec)) fnExactPilotHarmCard

/-- THE TIED CARD OF 'laws.FnExactPilotQueue'. -/
def fnExactPilotQueueCard : Claim7 := { stood := { row := fnExactPilotQueueRow, standIns := [], harness := (true, "a0323633786475ff5e4315b11755fa58977398f070b7574bb13ce8b0af07257e"), looks := false }, kinds := [], alts := [], laidByText := true, laidKinds := [.data, .pinned], laidTests := true, laidLooks := .later }
def FnExactPilotQueueCardSaid : Prop := Claim7.holds Tryz.pinned (.plain (OpenSpec.ofChange fnExactPilotQueueSpec)) fnExactPilotQueueCard

/-- THE SECOND FORM's CARD OF 'laws.FnExactPilotDo'. -/
def fnExactPilotDoUptoCard : Claim7 := { stood := { row := fnExactPilotDoUptoRow, standIns := [], harness := (true, "a0323633786475ff5e4315b11755fa58977398f070b7574bb13ce8b0af07257e"), looks := false }, kinds := [], alts := [], laidByText := true, laidKinds := [.data, .pinned], laidTests := true, laidLooks := .later }
def FnExactPilotDoUptoCardSaid : Prop := Claim7.holds Tryz.pinned (.plain (OpenSpec.upto fnExactPilotDoSpec)) fnExactPilotDoUptoCard

/-- THE SECOND FORM's CARD OF 'laws.FnExactPilotHarm'. -/
def fnExactPilotHarmUptoCard : Claim7 := { stood := { row := fnExactPilotHarmUptoRow, standIns := [], harness := (true, "a0323633786475ff5e4315b11755fa58977398f070b7574bb13ce8b0af07257e"), looks := false }, kinds := [], alts := [], laidByText := true, laidKinds := [.data, .pinned], laidTests := true, laidLooks := .later }
def FnExactPilotHarmUptoCardSaid : Prop := Claim7.holds Tryz.pinned (.plain (OpenSpec.upto fnExactPilotHarmSpec)) fnExactPilotHarmUptoCard

/-- THE SECOND FORM's CARD OF 'laws.FnExactPilotQueue'. -/
def fnExactPilotQueueUptoCard : Claim7 := { stood := { row := fnExactPilotQueueUptoRow, standIns := [], harness := (true, "a0323633786475ff5e4315b11755fa58977398f070b7574bb13ce8b0af07257e"), looks := false }, kinds := [], alts := [], laidByText := true, laidKinds := [.data, .pinned], laidTests := true, laidLooks := .later }
def FnExactPilotQueueUptoCardSaid : Prop := Claim7.holds Tryz.pinned (.plain (OpenSpec.upto fnExactPilotQueueSpec)) fnExactPilotQueueUptoCard
end Rows
end Go.Proofs.YtabnnbpnjenjkaaGreatDoor

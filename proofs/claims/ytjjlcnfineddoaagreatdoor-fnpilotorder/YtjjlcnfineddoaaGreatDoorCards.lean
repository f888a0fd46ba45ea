/-
  DERIVED. GIVEN WITH THE SEED: THE CARDS: each row of YtjjlcnfineddoaaGreatDoorRows.lean that lists a variable, with what it lists TIED to the program's text (the seventh form; the later family's looks); each row that meets fmt, with fmt's text TOLD by the authors' own Lean function (tested against real Go, not proved from fmt's source: count such statements apart). THE CARD IS WHAT COUNTS. Prove the row's statement (the work); the ties are given (YtjjlcnfineddoaaGreatDoorTie.lean); close each card by the builder's one call (the guide's Derived/Test/ToyasCard.lean, 'card_holds'). Laid BY PROGRAM, IN A SANDBOX (cutbox-door.mjs). By AI agents, Wed Nov 11 2026. No macro, syntax, notation, axiom, sorry.
-/
import Derived.Test.YtjjlcnfineddoaaGreatDoorRows
import GoSem.ClaimSeven
namespace Go.Proofs.YtjjlcnfineddoaaGreatDoor
namespace Rows

/-- THE TIED CARD OF 'laws.FnPilotOrder'. -/
def fnPilotOrderCard : Claim7 := { stood := { row := fnPilotOrderRow, standIns := [], harness := (true, "55f37a251cb12489e2860f24ad584ea67f68b9ae7b4649efe9b32dac14acb0d3"), looks := false }, kinds := [], alts := [], laidByText := true, laidKinds := [.data, .pinned], laidTests := true, laidLooks := .later }
def FnPilotOrderCardSaid : Prop := Claim7.holds Tryz.pinned (.plain (OpenSpec.ofChange fnPilotOrderSpec)) fnPilotOrderCard

/-- THE TIED CARD OF 'laws.FnExactPilotHappen'. -/
def fnExactPilotHappenCard : Claim7 := { stood := { row := fnExactPilotHappenRow, standIns := [], harness := (true, "55f37a251cb12489e2860f24ad584ea67f68b9ae7b4649efe9b32dac14acb0d3"), looks := false }, kinds := [], alts := [], laidByText := true, laidKinds := [.data, .pinned], laidTests := true, laidLooks := .later }
def FnExactPilotHappenCardSaid : Prop := Claim7.holds Tryz.pinned (.plain (OpenSpec.ofChange fnExactPilotHappenSpec)) fnExactPilotHappenCard

/-- THE SECOND FORM's CARD OF 'laws.FnPilotOrder'. -/
def fnPilotOrderUptoCard : Claim7 := { stood := { row := fnPilotOrderUptoRow, standIns := [], harness := (true, "55f37a251cb12489e2860f24ad584ea67f68b9ae7b4649efe9b32dac14acb0d3"), looks := false }, kinds := [], alts := [], laidByText := true, laidKinds := [.data, .pinned], laidTests := true, laidLooks := .later }
def FnPilotOrderUptoCardSaid : Prop := Claim7.holds Tryz.pinned (.plain (OpenSpec.upto fnPilotOrderSpec)) fnPilotOrderUptoCard

/-- THE SECOND FORM's CARD OF 'laws.FnExactPilotHappen'. -/
def fnExactPilotHappenUptoCard : Claim7 := { stood := { row := fnExactPilotHappenUptoRow, standIns := [], harness := (true, "55f37a251cb12489e2860f24ad584ea67f68b9ae7b4649efe9b32dac14acb0d3"), looks := false }, kinds := [], alts := [], laidByText := true, laidKinds := [.data, .pinned], laidTests := true, laidLooks := .later }
def FnExactPilotHappenUptoCardSaid : Prop := Claim7.holds Tryz.pinned (.plain (OpenSpec.upto fnExactPilotHappenSpec)) fnExactPilotHappenUptoCard
end Rows
end Go.Proofs.YtjjlcnfineddoaaGreatDoor

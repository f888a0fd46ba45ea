/-
  DERIVED. GIVEN WITH THE SEED: THE CARDS: each row of YtephnkjnbnjicaaGreatDoorRows.lean that lists a variable, with what it lists TIED to the program's text (the seventh form; the later family's looks); each row that meets fmt, with fmt's text TOLD by the authors' own Lean function (tested against real Go, not proved from fmt's source: count such statements apart). THE CARD IS WHAT COUNTS. Prove the row's statement (the work); the ties are given (YtephnkjnbnjicaaGreatDoorTie.lean); close each card by the builder's one call (the guide's Derived/Test/ToyasCard.lean, 'card_holds'). Laid BY PROGRAM, IN A SANDBOX (cutbox-door.mjs). By AI agents, Wed Nov 11 2026. No macro, syntax, notation, axiom, sorry.
-/
import Derived.Test.YtephnkjnbnjicaaGreatDoorRows
import GoSem.ClaimSeven
namespace Go.Proofs.YtephnkjnbnjicaaGreatDoor
namespace Rows

/-- THE TIED CARD OF 'laws.FnPilotSpare'. -/
def fnPilotSpareCard : Claim7 := { stood := { row := fnPilotSpareRow, standIns := [], harness := (true, "2a138f96a36997457c2b12462938d48c7029cab301fa7243fad26545d0240c65"), looks := false }, kinds := [], alts := [], laidByText := true, laidKinds := [.data, .pinned], laidTests := true, laidLooks := .later }
def FnPilotSpareCardSaid : Prop := Claim7.holds Tryz.pinned (.plain (OpenSpec.ofChange fnPilotSpareSpec)) fnPilotSpareCard

/-- THE TIED CARD OF 'laws.FnPilotHarm'. -/
def fnPilotHarmCard : Claim7 := { stood := { row := fnPilotHarmRow, standIns := [], harness := (true, "2a138f96a36997457c2b12462938d48c7029cab301fa7243fad26545d0240c65"), looks := false }, kinds := [], alts := [], laidByText := true, laidKinds := [.data, .pinned], laidTests := true, laidLooks := .later }
def FnPilotHarmCardSaid : Prop := Claim7.holds Tryz.pinned (.plain (OpenSpec.ofChange fnPilotHarmSpec)) fnPilotHarmCard

/-- THE SECOND FORM's CARD OF 'laws.FnPilotSpare'. -/
def fnPilotSpareUptoCard : Claim7 := { stood := { row := fnPilotSpareUptoRow, standIns := [], harness := (true, "2a138f96a36997457c2b12462938d48c7029cab301fa7243fad26545d0240c65"), looks := false }, kinds := [], alts := [], laidByText := true, laidKinds := [.data, .pinned], laidTests := true, laidLooks := .later }
def FnPilotSpareUptoCardSaid : Prop := Claim7.holds Tryz.pinned (.plain (OpenSpec.upto fnPilotSpareSpec)) fnPilotSpareUptoCard

/-- THE SECOND FORM's CARD OF 'laws.FnPilotHarm'. -/
def fnPilotHarmUptoCard : Claim7 := { stood := { row := fnPilotHarmUptoRow, standIns := [], harness := (true, "2a138f96a36997457c2b12462938d48c7029cab301fa7243fad26545d0240c65"), looks := false }, kinds := [], alts := [], laidByText := true, laidKinds := [.data, .pinned], laidTests := true, laidLooks := .later }
def FnPilotHarmUptoCardSaid : Prop := Claim7.holds Tryz.pinned (.plain (OpenSpec.upto fnPilotHarmSpec)) fnPilotHarmUptoCard
end Rows
end Go.Proofs.YtephnkjnbnjicaaGreatDoor

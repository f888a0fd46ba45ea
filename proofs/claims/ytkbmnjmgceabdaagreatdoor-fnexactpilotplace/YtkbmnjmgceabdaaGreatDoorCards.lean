/-
  DERIVED. GIVEN WITH THE SEED: THE CARDS: each row of YtkbmnjmgceabdaaGreatDoorRows.lean that lists a variable, with what it lists TIED to the program's text (the seventh form; the later family's looks); each row that meets fmt, with fmt's text TOLD by the authors' own Lean function (tested against real Go, not proved from fmt's source: count such statements apart). THE CARD IS WHAT COUNTS. Prove the row's statement (the work); the ties are given (YtkbmnjmgceabdaaGreatDoorTie.lean); close each card by the builder's one call (the guide's Derived/Test/ToyasCard.lean, 'card_holds'). Laid BY PROGRAM, IN A SANDBOX (cutbox-door.mjs). By AI agents, Wed Nov 11 2026. No macro, syntax, notation, axiom, sorry.
-/
import Derived.Test.YtkbmnjmgceabdaaGreatDoorRows
import GoSem.ClaimSeven
namespace Go.Proofs.YtkbmnjmgceabdaaGreatDoor
namespace Rows

/-- THE TIED CARD OF 'laws.FnExactPilotHappen'. -/
def fnExactPilotHappenCard : Claim7 := { stood := { row := fnExactPilotHappenRow, standIns := [], harness := (true, "36acae21d60af06f5a46c25c54b642d261092a7772c5de830172869b94614dd9"), looks := false }, kinds := [], alts := [], laidByText := true, laidKinds := [.data, .pinned], laidTests := true, laidLooks := .later }
def FnExactPilotHappenCardSaid : Prop := Claim7.holds Tryz.pinned (.plain (OpenSpec.ofChange fnExactPilotHappenSpec)) fnExactPilotHappenCard

/-- THE TIED CARD OF 'laws.FnExactPilotPlace'. -/
def fnExactPilotPlaceCard : Claim7 := { stood := { row := fnExactPilotPlaceRow, standIns := [], harness := (true, "36acae21d60af06f5a46c25c54b642d261092a7772c5de830172869b94614dd9"), looks := false }, kinds := [], alts := [], laidByText := true, laidKinds := [.data, .pinned], laidTests := true, laidLooks := .later }
def FnExactPilotPlaceCardSaid : Prop := Claim7.holds Tryz.pinned (.plain (OpenSpec.ofChange fnExactPilotPlaceSpec)) fnExactPilotPlaceCard

/-- THE TIED CARD OF 'laws.FnExactPilotVictims'. -/
def fnExactPilotVictimsCard : Claim7 := { stood := { row := fnExactPilotVictimsRow, standIns := [], harness := (true, "36acae21d60af06f5a46c25c54b642d261092a7772c5de830172869b94614dd9"), looks := false }, kinds := [], alts := [], laidByText := true, laidKinds := [.data, .pinned], laidTests := true, laidLooks := .later }
def FnExactPilotVictimsCardSaid : Prop := Claim7.holds Tryz.pinned (.plain (OpenSpec.ofChange fnExactPilotVictimsSpec)) fnExactPilotVictimsCard

/-- THE SECOND FORM's CARD OF 'laws.FnExactPilotHappen'. -/
def fnExactPilotHappenUptoCard : Claim7 := { stood := { row := fnExactPilotHappenUptoRow, standIns := [], harness := (true, "36acae21d60af06f5a46c25c54b642d261092a7772c5de830172869b94614dd9"), looks := false }, kinds := [], alts := [], laidByText := true, laidKinds := [.data, .pinned], laidTests := true, laidLooks := .later }
def FnExactPilotHappenUptoCardSaid : Prop := Claim7.holds Tryz.pinned (.plain (OpenSpec.upto fnExactPilotHappenSpec)) fnExactPilotHappenUptoCard

/-- THE SECOND FORM's CARD OF 'laws.FnExactPilotPlace'. -/
def fnExactPilotPlaceUptoCard : Claim7 := { stood := { row := fnExactPilotPlaceUptoRow, standIns := [], harness := (true, "36acae21d60af06f5a46c25c54b642d261092a7772c5de830172869b94614dd9"), looks := false }, kinds := [], alts := [], laidByText := true, laidKinds := [.data, .pinned], laidTests := true, laidLooks := .later }
def FnExactPilotPlaceUptoCardSaid : Prop := Claim7.holds Tryz.pinned (.plain (OpenSpec.upto fnExactPilotPlaceSpec)) fnExactPilotPlaceUptoCard

/-- THE SECOND FORM's CARD OF 'laws.FnExactPilotVictims'. -/
def fnExactPilotVictimsUptoCard : Claim7 := { stood := { row := fnExactPilotVictimsUptoRow, standIns := [], harness := (true, "36acae21d60af06f5a46c25c54b642d261092a7772c5de830172869b94614dd9"), looks := false }, kinds := [], alts := [], laidByText := true, laidKinds := [.data, .pinned], laidTests := true, laidLooks := .later }
def FnExactPilotVictimsUptoCardSaid : Prop := Claim7.holds Tryz.pinned (.plain (OpenSpec.upto fnExactPilotVictimsSpec)) fnExactPilotVictimsUptoCard
end Rows
end Go.Proofs.YtkbmnjmgceabdaaGreatDoor

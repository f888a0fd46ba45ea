/-
  DERIVED. GIVEN WITH THE SEED: THE CARDS: each row of YtkbmkhncjganfaaGreatDoorRows.lean that lists a variable, with what it lists TIED to the program's text (the seventh form; the later family's looks); each row that meets fmt, with fmt's text TOLD by the authors' own Lean function (tested against real Go, not proved from fmt's source: count such statements apart). THE CARD IS WHAT COUNTS. Prove the row's statement (the work); the ties are given (YtkbmkhncjganfaaGreatDoorTie.lean); close each card by the builder's one call (the guide's Derived/Test/ToyasCard.lean, 'card_holds'). Laid BY PROGRAM, IN A SANDBOX (cutbox-door.mjs). By AI agents, Wed Nov 11 2026. No macro, syntax, notation, axiom, sorry.
-/
import Derived.Test.YtkbmkhncjganfaaGreatDoorRows
import GoSem.ClaimSeven
namespace Go.Proofs.YtkbmkhncjganfaaGreatDoor
namespace Rows

/-- THE TIED CARD OF 'laws.FnPilotFits'. -/
def fnPilotFitsCard : Claim7 := { stood := { row := fnPilotFitsRow, standIns := [], harness := (true, "be11244d7213a2b93871250715b7d98b1127447097201f46ca3a8a714efee420"), looks := false }, kinds := [], alts := [], laidByText := true, laidKinds := [.data, .pinned], laidTests := true, laidLooks := .later }
def FnPilotFitsCardSaid : Prop := Claim7.holds Tryz.pinned (.plain (OpenSpec.ofChange fnPilotFitsSpec)) fnPilotFitsCard

/-- THE TIED CARD OF 'laws.FnPilotChoose'. -/
def fnPilotChooseCard : Claim7 := { stood := { row := fnPilotChooseRow, standIns := [], harness := (true, "be11244d7213a2b93871250715b7d98b1127447097201f46ca3a8a714efee420"), looks := false }, kinds := [], alts := [], laidByText := true, laidKinds := [.data, .pinned], laidTests := true, laidLooks := .later }
def FnPilotChooseCardSaid : Prop := Claim7.holds Tryz.pinned (.plain (OpenSpec.ofChange fnPilotChooseSpec)) fnPilotChooseCard

/-- THE TIED CARD OF 'laws.FnPilotSpare'. -/
def fnPilotSpareCard : Claim7 := { stood := { row := fnPilotSpareRow, standIns := [], harness := (true, "be11244d7213a2b93871250715b7d98b1127447097201f46ca3a8a714efee420"), looks := false }, kinds := [], alts := [], laidByText := true, laidKinds := [.data, .pinned], laidTests := true, laidLooks := .later }
def FnPilotSpareCardSaid : Prop := Claim7.holds Tryz.pinned (.plain (OpenSpec.ofChange fnPilotSpareSpec)) fnPilotSpareCard

/-- THE TIED CARD OF 'laws.FnPilotPlace'. -/
def fnPilotPlaceCard : Claim7 := { stood := { row := fnPilotPlaceRow, standIns := [], harness := (true, "be11244d7213a2b93871250715b7d98b1127447097201f46ca3a8a714efee420"), looks := false }, kinds := [], alts := [], laidByText := true, laidKinds := [.data, .pinned], laidTests := true, laidLooks := .later }
def FnPilotPlaceCardSaid : Prop := Claim7.holds Tryz.pinned (.plain (OpenSpec.ofChange fnPilotPlaceSpec)) fnPilotPlaceCard

/-- THE TIED CARD OF 'laws.FnPilotHarm'. -/
def fnPilotHarmCard : Claim7 := { stood := { row := fnPilotHarmRow, standIns := [], harness := (true, "be11244d7213a2b93871250715b7d98b1127447097201f46ca3a8a714efee420"), looks := false }, kinds := [], alts := [], laidByText := true, laidKinds := [.data, .pinned], laidTests := true, laidLooks := .later }
def FnPilotHarmCardSaid : Prop := Claim7.holds Tryz.pinned (.plain (OpenSpec.ofChange fnPilotHarmSpec)) fnPilotHarmCard

/-- THE TIED CARD OF 'laws.FnPilotAge'. -/
def fnPilotAgeCard : Claim7 := { stood := { row := fnPilotAgeRow, standIns := [], harness := (true, "be11244d7213a2b93871250715b7d98b1127447097201f46ca3a8a714efee420"), looks := false }, kinds := [], alts := [], laidByText := true, laidKinds := [.data, .pinned], laidTests := true, laidLooks := .later }
def FnPilotAgeCardSaid : Prop := Claim7.holds Tryz.pinned (.plain (OpenSpec.ofChange fnPilotAgeSpec)) fnPilotAgeCard

/-- THE SECOND FORM's CARD OF 'laws.FnPilotFits'. -/
def fnPilotFitsUptoCard : Claim7 := { stood := { row := fnPilotFitsUptoRow, standIns := [], harness := (true, "be11244d7213a2b93871250715b7d98b1127447097201f46ca3a8a714efee420"), looks := false }, kinds := [], alts := [], laidByText := true, laidKinds := [.data, .pinned], laidTests := true, laidLooks := .later }
def FnPilotFitsUptoCardSaid : Prop := Claim7.holds Tryz.pinned (.plain (OpenSpec.upto fnPilotFitsSpec)) fnPilotFitsUptoCard

/-- THE SECOND FORM's CARD OF 'laws.FnPilotChoose'. -/
def fnPilotChooseUptoCard : Claim7 := { stood := { row := fnPilotChooseUptoRow, standIns := [], harness := (true, "be11244d7213a2b93871250715b7d98b1127447097201f46ca3a8a714efee420"), looks := false }, kinds := [], alts := [], laidByText := true, laidKinds := [.data, .pinned], laidTests := true, laidLooks := .later }
def FnPilotChooseUptoCardSaid : Prop := Claim7.holds Tryz.pinned (.plain (OpenSpec.upto fnPilotChooseSpec)) fnPilotChooseUptoCard

/-- THE SECOND FORM's CARD OF 'laws.FnPilotSpare'. -/
def fnPilotSpareUptoCard : Claim7 := { stood := { row := fnPilotSpareUptoRow, standIns := [], harness := (true, "be11244d7213a2b93871250715b7d98b1127447097201f46ca3a8a714efee420"), looks := false }, kinds := [], alts := [], laidByText := true, laidKinds := [.data, .pinned], laidTests := true, laidLooks := .later }
def FnPilotSpareUptoCardSaid : Prop := Claim7.holds Tryz.pinned (.plain (OpenSpec.upto fnPilotSpareSpec)) fnPilotSpareUptoCard

/-- THE SECOND FORM's CARD OF 'laws.FnPilotPlace'. -/
def fnPilotPlaceUptoCard : Claim7 := { stood := { row := fnPilotPlaceUptoRow, standIns := [], harness := (true, "be11244d7213a2b93871250715b7d98b1127447097201f46ca3a8a714efee420"), looks := false }, kinds := [], alts := [], laidByText := true, laidKinds := [.data, .pinned], laidTests := true, laidLooks := .later }
def FnPilotPlaceUptoCardSaid : Prop := Claim7.holds Tryz.pinned (.plain (OpenSpec.upto fnPilotPlaceSpec)) fnPilotPlaceUptoCard

/-- THE SECOND FORM's CARD OF 'laws.FnPilotHarm'. -/
def fnPilotHarmUptoCard : Claim7 := { stood := { row := fnPilotHarmUptoRow, standIns := [], harness := (true, "be11244d7213a2b93871250715b7d98b1127447097201f46ca3a8a714efee420"), looks := false }, kinds := [], alts := [], laidByText := true, laidKinds := [.data, .pinned], laidTests := true, laidLooks := .later }
def FnPilotHarmUptoCardSaid : Prop := Claim7.holds Tryz.pinned (.plain (OpenSpec.upto fnPilotHarmSpec)) fnPilotHarmUptoCard

/-- THE SECOND FORM's CARD OF 'laws.FnPilotAge'. -/
def fnPilotAgeUptoCard : Claim7 := { stood := { row := fnPilotAgeUptoRow, standIns := [], harness := (true, "be11244d7213a2b93871250715b7d98b1127447097201f46ca3a8a714efee420"), looks := false }, kinds := [], alts := [], laidByText := true, laidKinds := [.data, .pinned], laidTests := true, laidLooks := .later }
def FnPilotAgeUptoCardSaid : Prop := Claim7.holds Tryz.pinned (.plain (OpenSpec.upto fnPilotAgeSpec)) fnPilotAgeUptoCard
end Rows
end Go.Proofs.YtkbmkhncjganfaaGreatDoor

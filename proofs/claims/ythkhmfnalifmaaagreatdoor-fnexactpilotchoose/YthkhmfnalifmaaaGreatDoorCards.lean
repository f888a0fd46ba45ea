/-
  DERIVED. GIVEN WITH THE SEED: THE CARDS: each row of YthkhmfnalifmaaaGreatDoorRows.lean that lists a variable, with what it lists TIED to the program's text (the seventh form; the later family's looks); each row that meets fmt, with fmt's text TOLD by the authors' own Lean function (tested against real Go, not proved from fmt's source: count such statements apart). THE CARD IS WHAT COUNTS. Prove the row's statement (the work); the ties are given (YthkhmfnalifmaaaGreatDoorTie.lean); close each card by the builder's one call (the guide's Derived/Test/ToyasCard.lean, 'card_holds'). Laid BY PROGRAM, IN A SANDBOX (cutbox-door.mjs). By AI agents, Wed Nov 11 2026. No macro, syntax, notation, axiom, sorry.
-/
import Derived.Test.YthkhmfnalifmaaaGreatDoorRows
import GoSem.ClaimSeven
namespace Go.Proofs.YthkhmfnalifmaaaGreatDoor
namespace Rows

/-- THE TIED CARD OF 'laws.FnExactPilotMayGo'. -/
def fnExactPilotMayGoCard : Claim7 := { stood := { row := fnExactPilotMayGoRow, standIns := [], harness := (true, "6e1c51344c1af3a5943e254501cfda771f0326d444f93227bd0a45a621e9b00c"), looks := false }, kinds := [], alts := [], laidByText := true, laidKinds := [.data, .pinned], laidTests := true, laidLooks := .later }
def FnExactPilotMayGoCardSaid : Prop := Claim7.holds Tryz.pinned (.plain (OpenSpec.ofChange fnExactPilotMayGoSpec)) fnExactPilotMayGoCard

/-- THE TIED CARD OF 'laws.FnExactPilotScoreOf'. -/
def fnExactPilotScoreOfCard : Claim7 := { stood := { row := fnExactPilotScoreOfRow, standIns := [], harness := (true, "6e1c51344c1af3a5943e254501cfda771f0326d444f93227bd0a45a621e9b00c"), looks := false }, kinds := [], alts := [], laidByText := true, laidKinds := [.data, .pinned], laidTests := true, laidLooks := .later }
def FnExactPilotScoreOfCardSaid : Prop := Claim7.holds Tryz.pinned (.plain (OpenSpec.ofChange fnExactPilotScoreOfSpec)) fnExactPilotScoreOfCard

/-- THE TIED CARD OF 'laws.FnExactPilotFits'. -/
def fnExactPilotFitsCard : Claim7 := { stood := { row := fnExactPilotFitsRow, standIns := [], harness := (true, "6e1c51344c1af3a5943e254501cfda771f0326d444f93227bd0a45a621e9b00c"), looks := false }, kinds := [], alts := [], laidByText := true, laidKinds := [.data, .pinned], laidTests := true, laidLooks := .later }
def FnExactPilotFitsCardSaid : Prop := Claim7.holds Tryz.pinned (.plain (OpenSpec.ofChange fnExactPilotFitsSpec)) fnExactPilotFitsCard

/-- THE TIED CARD OF 'laws.FnPilotFits'. -/
def fnPilotFitsCard : Claim7 := { stood := { row := fnPilotFitsRow, standIns := [], harness := (true, "6e1c51344c1af3a5943e254501cfda771f0326d444f93227bd0a45a621e9b00c"), looks := false }, kinds := [], alts := [], laidByText := true, laidKinds := [.data, .pinned], laidTests := true, laidLooks := .later }
def FnPilotFitsCardSaid : Prop := Claim7.holds Tryz.pinned (.plain (OpenSpec.ofChange fnPilotFitsSpec)) fnPilotFitsCard

/-- THE TIED CARD OF 'laws.FnExactPilotChoose'. -/
def fnExactPilotChooseCard : Claim7 := { stood := { row := fnExactPilotChooseRow, standIns := [], harness := (true, "6e1c51344c1af3a5943e254501cfda771f0326d444f93227bd0a45a621e9b00c"), looks := false }, kinds := [], alts := [], laidByText := true, laidKinds := [.data, .pinned], laidTests := true, laidLooks := .later }
def FnExactPilotChooseCardSaid : Prop := Claim7.holds Tryz.pinned (.plain (OpenSpec.ofChange fnExactPilotChooseSpec)) fnExactPilotChooseCard

/-- THE TIED CARD OF 'laws.FnPilotChoose'. -/
def fnPilotChooseCard : Claim7 := { stood := { row := fnPilotChooseRow, standIns := [], harness := (true, "6e1c51344c1af3a5943e254501cfda771f0326d444f93227bd0a45a621e9b00c"), looks := false }, kinds := [], alts := [], laidByText := true, laidKinds := [.data, .pinned], laidTests := true, laidLooks := .later }
def FnPilotChooseCardSaid : Prop := Claim7.holds Tryz.pinned (.plain (OpenSpec.ofChange fnPilotChooseSpec)) fnPilotChooseCard

/-- THE SECOND FORM's CARD OF 'laws.FnExactPilotMayGo'. -/
def fnExactPilotMayGoUptoCard : Claim7 := { stood := { row := fnExactPilotMayGoUptoRow, standIns := [], harness := (true, "6e1c51344c1af3a5943e254501cfda771f0326d444f93227bd0a45a621e9b00c"), looks := false }, kinds := [], alts := [], laidByText := true, laidKinds := [.data, .pinned], laidTests := true, laidLooks := .later }
def FnExactPilotMayGoUptoCardSaid : Prop := Claim7.holds Tryz.pinned (.plain (OpenSpec.upto fnExactPilotMayGoSpec)) fnExactPilotMayGoUptoCard

/-- THE SECOND FORM's CARD OF 'laws.FnExactPilotScoreOf'. -/
def fnExactPilotScoreOfUptoCard : Claim7 := { stood := { row := fnExactPilotScoreOfUptoRow, standIns := [], harness := (true, "6e1c51344c1af3a5943e254501cfda771f0326d444f93227bd0a45a621e9b00c"), looks := false }, kinds := [], alts := [], laidByText := true, laidKinds := [.data, .pinned], laidTests := true, laidLooks := .later }
def FnExactPilotScoreOfUptoCardSaid : Prop := Claim7.holds Tryz.pinned (.plain (OpenSpec.upto fnExactPilotScoreOfSpec)) fnExactPilotScoreOfUptoCard

/-- THE SECOND FORM's CARD OF 'laws.FnExactPilotFits'. -/
def fnExactPilotFitsUptoCard : Claim7 := { stood := { row := fnExactPilotFitsUptoRow, standIns := [], harness := (true, "6e1c51344c1af3a5943e254501cfda771f0326d444f93227bd0a45a621e9b00c"), looks := false }, kinds := [], alts := [], laidByText := true, laidKinds := [.data, .pinned], laidTests := true, laidLooks := .later }
def FnExactPilotFitsUptoCardSaid : Prop := Claim7.holds Tryz.pinned (.plain (OpenSpec.upto fnExactPilotFitsSpec)) fnExactPilotFitsUptoCard

/-- THE SECOND FORM's CARD OF 'laws.FnPilotFits'. -/
def fnPilotFitsUptoCard : Claim7 := { stood := { row := fnPilotFitsUptoRow, standIns := [], harness := (true, "6e1c51344c1af3a5943e254501cfda771f0326d444f93227bd0a45a621e9b00c"), looks := false }, kinds := [], alts := [], laidByText := true, laidKinds := [.data, .pinned], laidTests := true, laidLooks := .later }
def FnPilotFitsUptoCardSaid : Prop := Claim7.holds Tryz.pinned (.plain (OpenSpec.upto fnPilotFitsSpec)) fnPilotFitsUptoCard

/-- THE SECOND FORM's CARD OF 'laws.FnExactPilotChoose'. -/
def fnExactPilotChooseUptoCard : Claim7 := { stood := { row := fnExactPilotChooseUptoRow, standIns := [], harness := (true, "6e1c51344c1af3a5943e254501cfda771f0326d444f93227bd0a45a621e9b00c"), looks := false }, kinds := [], alts := [], laidByText := true, laidKinds := [.data, .pinned], laidTests := true, laidLooks := .later }
def FnExactPilotChooseUptoCardSaid : Prop := Claim7.holds Tryz.pinned (.plain (OpenSpec.upto fnExactPilotChooseSpec)) fnExactPilotChooseUptoCard

/-- THE SECOND FORM's CARD OF 'laws.FnPilotChoose'. -/
def fnPilotChooseUptoCard : Claim7 := { stood := { row := fnPilotChooseUptoRow, standIns := [], harness := (true, "6e1c51344c1af3a5943e254501cfda771f0326d444f93227bd0a45a621e9b00c"), looks := false }, kinds := [], alts := [], laidByText := true, laidKinds := [.data, .pinned], laidTests := true, laidLooks := .later }
def FnPilotChooseUptoCardSaid : Prop := Claim7.holds Tryz.pinned (.plain (OpenSpec.upto fnPilotChooseSpec)) fnPilotChooseUptoCard
end Rows
end Go.Proofs.YthkhmfnalifmaaaGreatDoor

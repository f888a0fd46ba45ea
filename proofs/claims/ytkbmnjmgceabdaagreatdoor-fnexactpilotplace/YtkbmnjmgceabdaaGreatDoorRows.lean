/-
  NARROWER THAN 'FOR EVERY INPUT', by the rows' own cells (each row's printed sentence says how): FnExactPilotHappen: laid · FnExactPilotPlace: laid · FnExactPilotVictims: laid.
  DERIVED. THE GIVEN ROWS OF THIS SEAT. 3 by the template 'for every input the law returns true; each argument reads behind the call as it read before'; 0 by the template 'total and deterministic' (their statements: YtkbmnjmgceabdaaGreatDoorTotals.lean).
  GIVEN WITH THE SEED: the statements are not yours to turn. If you find one false, say at which input.
  Laid BY PROGRAM, IN A SANDBOX (cutbox-rows.mjs): the forced cells as the released guide's own fill.sh prints them over the translation bf757795ce034ce9… (all of the seat's roots in one cut). By AI agents, Wed Nov 11 2026. No macro, syntax, notation, axiom, sorry.
-/
import Derived.Test.YtkbmnjmgceabdaaGreatDoorChecked
import GoSem.PinnedTables
import GoSem.Claim
import GoSem.ClaimJoined
import GoSem.ClaimMapViews
import Derived.JoinedTies
import Derived.KernelRfl
namespace Go.Proofs.YtkbmnjmgceabdaaGreatDoor
/- THE CELL 'sum', in the pinned program and in every row, IS THE sha256 OF THE DUMP (.gsa) THAT YtkbmnjmgceabdaaGreatDoorProg.lean LOADS. Nothing in Lean hashes anything: it is a label: what it is worth is what the hold of that sum in a sandbox is worth. -/
noncomputable def Tryz.pinned : Pinned := { name := "ytkbmnjmgceabdaagreatdoor", sum := "bf757795ce034ce984ef7b5c0a3e2ec1862117b500f337f7d7825b1673f3e47d", checked := Tryz.checked }
namespace Rows
def none {H : Type} : Left H := { results := [], args := [] }

/- WHAT THE LISTED PACKAGE-LEVEL VARIABLES READ AS WHEN THE CALL BEGINS. Each datum BY PROGRAM (the guide's laid-datum.mjs) off the statement by which the dump's own 'gosem.cut.vars' lays the variable. In a bare row this is a premise. The card (YtkbmnjmgceabdaaGreatDoorCards.lean) ties it to the program's text. -/
def laid_unicode_utf8_acceptRanges {H : Type} : DataW H := .agg [.agg [.lit (.int .u8 128), .lit (.int .u8 191)], .agg [.lit (.int .u8 160), .lit (.int .u8 191)], .agg [.lit (.int .u8 128), .lit (.int .u8 159)], .agg [.lit (.int .u8 144), .lit (.int .u8 191)], .agg [.lit (.int .u8 128), .lit (.int .u8 143)], .agg [.lit (.int .u8 0), .lit (.int .u8 0)], .agg [.lit (.int .u8 0), .lit (.int .u8 0)], .agg [.lit (.int .u8 0), .lit (.int .u8 0)], .agg [.lit (.int .u8 0), .lit (.int .u8 0)], .agg [.lit (.int .u8 0), .lit (.int .u8 0)], .agg [.lit (.int .u8 0), .lit (.int .u8 0)], .agg [.lit (.int .u8 0), .lit (.int .u8 0)], .agg [.lit (.int .u8 0), .lit (.int .u8 0)], .agg [.lit (.int .u8 0), .lit (.int .u8 0)], .agg [.lit (.int .u8 0), .lit (.int .u8 0)], .agg [.lit (.int .u8 0), .lit (.int .u8 0)]]
/-- One of Go's own tables, pinned by name: the form's constant. -/
def laid_unicode_utf8_first : DataW Unit := Go.Pinned.utf8First

/-- 'laws.FnExactPilotHappen': WHATEVER THE INPUT: true; the input reads as it did. -/
def fnExactPilotHappenSpec : ChangeSpec := { name := "fnExactPilotHappen", fn := fun _ => fun
  | [d1, d2] => { results := [.lit (.bool true)], args := [d1, d2] }
  | _ => none }
def fnExactPilotHappenRow : OpenClaim := { program := "ytkbmnjmgceabdaagreatdoor", sum := "bf757795ce034ce984ef7b5c0a3e2ec1862117b500f337f7d7825b1673f3e47d", func := "loop.example/wharffleet/laws.FnExactPilotHappen", spec := "fnExactPilotHappen", inPlace := ["internal/bytealg.IndexByteString", "internal/bytealg.IndexString", "slices.overlaps[loop.example/wharffleet/impl.PilotBerth]", "slices.overlaps[loop.example/wharffleet/impl.PilotCopy]"], unfollowed := true, recurses := true, named := ["internal/bytealg.MaxLen", "unicode/utf8.first", "unicode/utf8.acceptRanges"], apart := false, laid := [("unicode/utf8.acceptRanges", laid_unicode_utf8_acceptRanges), ("unicode/utf8.first", laid_unicode_utf8_first)] }
def FnExactPilotHappenSaid : Prop := fnExactPilotHappenRow.holds Tryz.pinned (OpenSpec.ofChange fnExactPilotHappenSpec)

/-- ITS FALSE NEIGHBOUR: 'it returns false'. Refute it at one input. -/
def fnExactPilotHappenWrong : ChangeSpec := { name := "fnExactPilotHappen", fn := fun _ => fun
  | [d1, d2] => { results := [.lit (.bool false)], args := [d1, d2] }
  | _ => none }
def FnExactPilotHappenWrongFalsely : Prop := fnExactPilotHappenRow.holds Tryz.pinned (OpenSpec.ofChange fnExactPilotHappenWrong)

/-- 'laws.FnExactPilotPlace': WHATEVER THE INPUT: true; the input reads as it did. -/
def fnExactPilotPlaceSpec : ChangeSpec := { name := "fnExactPilotPlace", fn := fun _ => fun
  | [d] => { results := [.lit (.bool true)], args := [d] }
  | _ => none }
def fnExactPilotPlaceRow : OpenClaim := { program := "ytkbmnjmgceabdaagreatdoor", sum := "bf757795ce034ce984ef7b5c0a3e2ec1862117b500f337f7d7825b1673f3e47d", func := "loop.example/wharffleet/laws.FnExactPilotPlace", spec := "fnExactPilotPlace", inPlace := ["internal/bytealg.IndexByteString", "internal/bytealg.IndexString", "internal/bytealg.abigen_runtime_cmpstring"], unfollowed := true, recurses := true, named := ["internal/bytealg.MaxLen", "unicode/utf8.first", "unicode/utf8.acceptRanges"], apart := false, laid := [("unicode/utf8.acceptRanges", laid_unicode_utf8_acceptRanges), ("unicode/utf8.first", laid_unicode_utf8_first)] }
def FnExactPilotPlaceSaid : Prop := fnExactPilotPlaceRow.holds Tryz.pinned (OpenSpec.ofChange fnExactPilotPlaceSpec)

/-- ITS FALSE NEIGHBOUR: 'it returns false'. Refute it at one input. -/
def fnExactPilotPlaceWrong : ChangeSpec := { name := "fnExactPilotPlace", fn := fun _ => fun
  | [d] => { results := [.lit (.bool false)], args := [d] }
  | _ => none }
def FnExactPilotPlaceWrongFalsely : Prop := fnExactPilotPlaceRow.holds Tryz.pinned (OpenSpec.ofChange fnExactPilotPlaceWrong)

/-- 'laws.FnExactPilotVictims': WHATEVER THE INPUT: true; the input reads as it did. -/
def fnExactPilotVictimsSpec : ChangeSpec := { name := "fnExactPilotVictims", fn := fun _ => fun
  | [d1, d2, d3] => { results := [.lit (.bool true)], args := [d1, d2, d3] }
  | _ => none }
def fnExactPilotVictimsRow : OpenClaim := { program := "ytkbmnjmgceabdaagreatdoor", sum := "bf757795ce034ce984ef7b5c0a3e2ec1862117b500f337f7d7825b1673f3e47d", func := "loop.example/wharffleet/laws.FnExactPilotVictims", spec := "fnExactPilotVictims", inPlace := ["internal/bytealg.IndexByteString", "internal/bytealg.IndexString"], unfollowed := true, recurses := true, named := ["internal/bytealg.MaxLen", "unicode/utf8.first", "unicode/utf8.acceptRanges"], apart := false, laid := [("unicode/utf8.acceptRanges", laid_unicode_utf8_acceptRanges), ("unicode/utf8.first", laid_unicode_utf8_first)] }
def FnExactPilotVictimsSaid : Prop := fnExactPilotVictimsRow.holds Tryz.pinned (OpenSpec.ofChange fnExactPilotVictimsSpec)

/-- ITS FALSE NEIGHBOUR: 'it returns false'. Refute it at one input. -/
def fnExactPilotVictimsWrong : ChangeSpec := { name := "fnExactPilotVictims", fn := fun _ => fun
  | [d1, d2, d3] => { results := [.lit (.bool false)], args := [d1, d2, d3] }
  | _ => none }
def FnExactPilotVictimsWrongFalsely : Prop := fnExactPilotVictimsRow.holds Tryz.pinned (OpenSpec.ofChange fnExactPilotVictimsWrong)

/- THE SECOND FORM. 'bulk': how many values and letters a reading holds, each counted each time it is reached (what is shared counts as often as it is met; a slice's spare places count too). A statement '..UptoSaid' is the law's where the arguments, and the package variables that the reading takes, are together of bulk at most 1048576: NARROWER than '..Said'. Prove '..Said' where nothing that the law and all that it calls make is longer than what came in: it says more and counts as full. Else prove '..UptoSaid'. A law counts once. -/
mutual
def uptoBulk {H : Type} : DataW H → Nat
  | .lit (.string bytes) => bytes.length + 1
  | .lit _ => 1
  | .nil => 1
  | .ptr d => uptoBulk d + 1
  | .slice elems spare => uptoBulkAll elems + uptoBulkAll spare + 1
  | .agg parts => uptoBulkAll parts + 1
  | .iface _ d => uptoBulk d + 1
  | .map entries => uptoBulkEntries entries + 1
  | .held _ => 1
def uptoBulkAll {H : Type} : List (DataW H) → Nat
  | [] => 0
  | d :: r => uptoBulk d + uptoBulkAll r
def uptoBulkEntries {H : Type} : List (Lit × DataW H) → Nat
  | [] => 0
  | x :: r => uptoBulkEntry x + uptoBulkEntries r
def uptoBulkEntry {H : Type} : Lit × DataW H → Nat
  | (.string bytes, d) => bytes.length + uptoBulk d + 1
  | (_, d) => uptoBulk d + 1
 end
def uptoSmall : (H : Type) → List (DataW H) → Bool := fun _ ds => decide (uptoBulkAll ds ≤ 1048576)
def OpenSpec.upto (s : _root_.Go.ChangeSpec) : _root_.Go.OpenSpec := { _root_.Go.OpenSpec.ofChange s with cond := some uptoSmall }

/-- 'laws.FnExactPilotHappen', WHERE WHAT IT READS IS OF BULK AT MOST 1048576: true; the input reads as it did. -/
def fnExactPilotHappenUptoRow : OpenClaim := { program := "ytkbmnjmgceabdaagreatdoor", sum := "bf757795ce034ce984ef7b5c0a3e2ec1862117b500f337f7d7825b1673f3e47d", func := "loop.example/wharffleet/laws.FnExactPilotHappen", spec := "fnExactPilotHappen", inPlace := ["internal/bytealg.IndexByteString", "internal/bytealg.IndexString", "slices.overlaps[loop.example/wharffleet/impl.PilotBerth]", "slices.overlaps[loop.example/wharffleet/impl.PilotCopy]"], unfollowed := true, recurses := true, named := ["internal/bytealg.MaxLen", "unicode/utf8.first", "unicode/utf8.acceptRanges"], apart := false, laid := [("unicode/utf8.acceptRanges", laid_unicode_utf8_acceptRanges), ("unicode/utf8.first", laid_unicode_utf8_first)], narrowed := true }
def FnExactPilotHappenUptoSaid : Prop := fnExactPilotHappenUptoRow.holds Tryz.pinned (OpenSpec.upto fnExactPilotHappenSpec)

/-- 'laws.FnExactPilotPlace', WHERE WHAT IT READS IS OF BULK AT MOST 1048576: true; the input reads as it did. -/
def fnExactPilotPlaceUptoRow : OpenClaim := { program := "ytkbmnjmgceabdaagreatdoor", sum := "bf757795ce034ce984ef7b5c0a3e2ec1862117b500f337f7d7825b1673f3e47d", func := "loop.example/wharffleet/laws.FnExactPilotPlace", spec := "fnExactPilotPlace", inPlace := ["internal/bytealg.IndexByteString", "internal/bytealg.IndexString", "internal/bytealg.abigen_runtime_cmpstring"], unfollowed := true, recurses := true, named := ["internal/bytealg.MaxLen", "unicode/utf8.first", "unicode/utf8.acceptRanges"], apart := false, laid := [("unicode/utf8.acceptRanges", laid_unicode_utf8_acceptRanges), ("unicode/utf8.first", laid_unicode_utf8_first)], narrowed := true }
def FnExactPilotPlaceUptoSaid : Prop := fnExactPilotPlaceUptoRow.holds Tryz.pinned (OpenSpec.upto fnExactPilotPlaceSpec)

/-- 'laws.FnExactPilotVictims', WHERE WHAT IT READS IS OF BULK AT MOST 1048576: true; the input reads as it did. -/
def fnExactPilotVictimsUptoRow : OpenClaim := { program := "ytkbmnjmgceabdaagreatdoor", sum := "bf757795ce034ce984ef7b5c0a3e2ec1862117b500f337f7d7825b1673f3e47d", func := "loop.example/wharffleet/laws.FnExactPilotVictims", spec := "fnExactPilotVictims", inPlace := ["internal/bytealg.IndexByteString", "internal/bytealg.IndexString"], unfollowed := true, recurses := true, named := ["internal/bytealg.MaxLen", "unicode/utf8.first", "unicode/utf8.acceptRanges"], apart := false, laid := [("unicode/utf8.acceptRanges", laid_unicode_utf8_acceptRanges), ("unicode/utf8.first", laid_unicode_utf8_first)], narrowed := true }
def FnExactPilotVictimsUptoSaid : Prop := fnExactPilotVictimsUptoRow.holds Tryz.pinned (OpenSpec.upto fnExactPilotVictimsSpec)

end Rows
end Go.Proofs.YtkbmnjmgceabdaaGreatDoor

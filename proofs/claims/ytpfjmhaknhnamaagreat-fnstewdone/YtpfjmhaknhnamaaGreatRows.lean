/-
  No cell of these rows narrows 'for every input' (looked for: loops, veiled, ifaces, maps, wideKeys, modest, calm, conditions, laid).
  DERIVED. THE GIVEN ROWS OF THIS SEAT. 6 by the template 'for every input the law returns true; each argument reads behind the call as it read before'; 0 by the template 'total and deterministic' (their statements: YtpfjmhaknhnamaaGreatTotals.lean).
  GIVEN WITH THE SEED: the statements are not yours to turn. If you find one false, say at which input.
  Laid BY PROGRAM, IN A SANDBOX (cutbox-rows.mjs): the forced cells as the released guide's own fill.sh prints them over the translation 0e96a61bc4be9e71… (all of the seat's roots in one cut). By AI agents, Wed Nov 11 2026. No macro, syntax, notation, axiom, sorry.
-/
import Derived.Test.YtpfjmhaknhnamaaGreatChecked
import GoSem.Claim
import GoSem.ClaimJoined
import GoSem.ClaimMapViews
import Derived.JoinedTies
import Derived.KernelRfl
namespace Go.Proofs.YtpfjmhaknhnamaaGreat
/- THE CELL 'sum', in the pinned program and in every row, IS THE sha256 OF THE DUMP (.gsa) THAT YtpfjmhaknhnamaaGreatProg.lean LOADS. Nothing in Lean hashes anything: it is a label: what it is worth is what the hold of that sum in a sandbox is worth. -/
noncomputable def Tryz.pinned : Pinned := { name := "ytpfjmhaknhnamaagreat", sum := "0e96a61bc4be9e716720cd300d592d0b907be76940896138eabf57f66fe31f43", checked := Tryz.checked }
namespace Rows
def none {H : Type} : Left H := { results := [], args := [] }

/-- 'laws.FnStewDone': WHATEVER THE INPUT: true; the input reads as it did. -/
def fnStewDoneSpec : ChangeSpec := { name := "fnStewDone", fn := fun _ => fun
  | [d] => { results := [.lit (.bool true)], args := [d] }
  | _ => none }
def fnStewDoneRow : OpenClaim := { program := "ytpfjmhaknhnamaagreat", sum := "0e96a61bc4be9e716720cd300d592d0b907be76940896138eabf57f66fe31f43", func := "loop.example/wharffleet/laws.FnStewDone", spec := "fnStewDone", inPlace := ["slices.overlaps[loop.example/wharffleet/impl.StewService]", "slices.overlaps[loop.example/wharffleet/impl.StewBerth]"], unfollowed := true, recurses := true, apart := false }
def FnStewDoneSaid : Prop := fnStewDoneRow.holds Tryz.pinned (OpenSpec.ofChange fnStewDoneSpec)

/-- ITS FALSE NEIGHBOUR: 'it returns false'. Refute it at one input. -/
def fnStewDoneWrong : ChangeSpec := { name := "fnStewDone", fn := fun _ => fun
  | [d] => { results := [.lit (.bool false)], args := [d] }
  | _ => none }
def FnStewDoneWrongFalsely : Prop := fnStewDoneRow.holds Tryz.pinned (OpenSpec.ofChange fnStewDoneWrong)

/-- 'laws.FnStewCalm': WHATEVER THE INPUT: true; the input reads as it did. -/
def fnStewCalmSpec : ChangeSpec := { name := "fnStewCalm", fn := fun _ => fun
  | [d1, d2] => { results := [.lit (.bool true)], args := [d1, d2] }
  | _ => none }
def fnStewCalmRow : OpenClaim := { program := "ytpfjmhaknhnamaagreat", sum := "0e96a61bc4be9e716720cd300d592d0b907be76940896138eabf57f66fe31f43", func := "loop.example/wharffleet/laws.FnStewCalm", spec := "fnStewCalm", inPlace := ["slices.overlaps[loop.example/wharffleet/impl.StewService]", "slices.overlaps[loop.example/wharffleet/impl.StewBerth]", "slices.overlaps[loop.example/wharffleet/impl.StewCopy]"], unfollowed := true, recurses := true, apart := false }
def FnStewCalmSaid : Prop := fnStewCalmRow.holds Tryz.pinned (OpenSpec.ofChange fnStewCalmSpec)

/-- ITS FALSE NEIGHBOUR: 'it returns false'. Refute it at one input. -/
def fnStewCalmWrong : ChangeSpec := { name := "fnStewCalm", fn := fun _ => fun
  | [d1, d2] => { results := [.lit (.bool false)], args := [d1, d2] }
  | _ => none }
def FnStewCalmWrongFalsely : Prop := fnStewCalmRow.holds Tryz.pinned (OpenSpec.ofChange fnStewCalmWrong)

/-- 'laws.FnStewLive': WHATEVER THE INPUT: true; the input reads as it did. -/
def fnStewLiveSpec : ChangeSpec := { name := "fnStewLive", fn := fun _ => fun
  | [d1, d2] => { results := [.lit (.bool true)], args := [d1, d2] }
  | _ => none }
def fnStewLiveRow : OpenClaim := { program := "ytpfjmhaknhnamaagreat", sum := "0e96a61bc4be9e716720cd300d592d0b907be76940896138eabf57f66fe31f43", func := "loop.example/wharffleet/laws.FnStewLive", spec := "fnStewLive", inPlace := ["slices.overlaps[loop.example/wharffleet/impl.StewService]", "slices.overlaps[loop.example/wharffleet/impl.StewBerth]", "slices.overlaps[loop.example/wharffleet/impl.StewCopy]"], unfollowed := true, recurses := true, apart := false }
def FnStewLiveSaid : Prop := fnStewLiveRow.holds Tryz.pinned (OpenSpec.ofChange fnStewLiveSpec)

/-- ITS FALSE NEIGHBOUR: 'it returns false'. Refute it at one input. -/
def fnStewLiveWrong : ChangeSpec := { name := "fnStewLive", fn := fun _ => fun
  | [d1, d2] => { results := [.lit (.bool false)], args := [d1, d2] }
  | _ => none }
def FnStewLiveWrongFalsely : Prop := fnStewLiveRow.holds Tryz.pinned (OpenSpec.ofChange fnStewLiveWrong)

/-- 'laws.FnStewTop': WHATEVER THE INPUT: true; the input reads as it did. -/
def fnStewTopSpec : ChangeSpec := { name := "fnStewTop", fn := fun _ => fun
  | [d1, d2] => { results := [.lit (.bool true)], args := [d1, d2] }
  | _ => none }
def fnStewTopRow : OpenClaim := { program := "ytpfjmhaknhnamaagreat", sum := "0e96a61bc4be9e716720cd300d592d0b907be76940896138eabf57f66fe31f43", func := "loop.example/wharffleet/laws.FnStewTop", spec := "fnStewTop", inPlace := ["slices.overlaps[loop.example/wharffleet/impl.StewCopy]", "slices.overlaps[loop.example/wharffleet/impl.StewService]", "slices.overlaps[loop.example/wharffleet/impl.StewBerth]"], unfollowed := true, recurses := true, apart := false }
def FnStewTopSaid : Prop := fnStewTopRow.holds Tryz.pinned (OpenSpec.ofChange fnStewTopSpec)

/-- ITS FALSE NEIGHBOUR: 'it returns false'. Refute it at one input. -/
def fnStewTopWrong : ChangeSpec := { name := "fnStewTop", fn := fun _ => fun
  | [d1, d2] => { results := [.lit (.bool false)], args := [d1, d2] }
  | _ => none }
def FnStewTopWrongFalsely : Prop := fnStewTopRow.holds Tryz.pinned (OpenSpec.ofChange fnStewTopWrong)

/-- 'laws.FnExactStewDo': WHATEVER THE INPUT: true; the input reads as it did. -/
def fnExactStewDoSpec : ChangeSpec := { name := "fnExactStewDo", fn := fun _ => fun
  | [d1, d2] => { results := [.lit (.bool true)], args := [d1, d2] }
  | _ => none }
def fnExactStewDoRow : OpenClaim := { program := "ytpfjmhaknhnamaagreat", sum := "0e96a61bc4be9e716720cd300d592d0b907be76940896138eabf57f66fe31f43", func := "loop.example/wharffleet/laws.FnExactStewDo", spec := "fnExactStewDo", inPlace := ["slices.overlaps[loop.example/wharffleet/impl.StewService]", "slices.overlaps[loop.example/wharffleet/impl.StewBerth]", "slices.overlaps[loop.example/wharffleet/impl.StewCopy]"], unfollowed := true, recurses := true, apart := false }
def FnExactStewDoSaid : Prop := fnExactStewDoRow.holds Tryz.pinned (OpenSpec.ofChange fnExactStewDoSpec)

/-- ITS FALSE NEIGHBOUR: 'it returns false'. Refute it at one input. -/
def fnExactStewDoWrong : ChangeSpec := { name := "fnExactStewDo", fn := fun _ => fun
  | [d1, d2] => { results := [.lit (.bool false)], args := [d1, d2] }
  | _ => none }
def FnExactStewDoWrongFalsely : Prop := fnExactStewDoRow.holds Tryz.pinned (OpenSpec.ofChange fnExactStewDoWrong)

/-- 'laws.FnExactStewCalm': WHATEVER THE INPUT: true; the input reads as it did. -/
def fnExactStewCalmSpec : ChangeSpec := { name := "fnExactStewCalm", fn := fun _ => fun
  | [d1, d2, d3] => { results := [.lit (.bool true)], args := [d1, d2, d3] }
  | _ => none }
def fnExactStewCalmRow : OpenClaim := { program := "ytpfjmhaknhnamaagreat", sum := "0e96a61bc4be9e716720cd300d592d0b907be76940896138eabf57f66fe31f43", func := "loop.example/wharffleet/laws.FnExactStewCalm", spec := "fnExactStewCalm", inPlace := ["slices.overlaps[loop.example/wharffleet/impl.StewService]", "slices.overlaps[loop.example/wharffleet/impl.StewBerth]", "slices.overlaps[loop.example/wharffleet/impl.StewCopy]"], unfollowed := true, recurses := true, apart := false }
def FnExactStewCalmSaid : Prop := fnExactStewCalmRow.holds Tryz.pinned (OpenSpec.ofChange fnExactStewCalmSpec)

/-- ITS FALSE NEIGHBOUR: 'it returns false'. Refute it at one input. -/
def fnExactStewCalmWrong : ChangeSpec := { name := "fnExactStewCalm", fn := fun _ => fun
  | [d1, d2, d3] => { results := [.lit (.bool false)], args := [d1, d2, d3] }
  | _ => none }
def FnExactStewCalmWrongFalsely : Prop := fnExactStewCalmRow.holds Tryz.pinned (OpenSpec.ofChange fnExactStewCalmWrong)

/- THE SECOND FORM. 'bulk': how many values and letters a reading holds, each counted each time it is reached (what is shared counts as often as it is met; a slice's spare places count too). A statement '..UptoSaid' is the law's where the arguments, and the package variables that the reading takes, are together of bulk at most 1048576: NARROWER than '..Said'. Prove '..Said' where nothing that the law and all that it calls make is longer than what came in: it says more and counts as full. Else prove '..UptoSaid'. A law counts once. -/
mutual
def uptoBulk {H : Type} : DataW H → Nat
  | .lit (.string bytes) => bytes.length + 1
  | .lit _ => 1
  | .nil => 1
  | .ptr d => uptoBulk d + 1
  | .slice elems spare => uptoBulkAll elems + uptoBulkAll spare + 1
  | .agg parts => uptoBulkAll parts + 1
  | .iface _ d => uptoBulk d + 1
  | .map entries => uptoBulkEntries entries + 1
  | .held _ => 1
def uptoBulkAll {H : Type} : List (DataW H) → Nat
  | [] => 0
  | d :: r => uptoBulk d + uptoBulkAll r
def uptoBulkEntries {H : Type} : List (Lit × DataW H) → Nat
  | [] => 0
  | x :: r => uptoBulkEntry x + uptoBulkEntries r
def uptoBulkEntry {H : Type} : Lit × DataW H → Nat
  | (.string bytes, d) => bytes.length + uptoBulk d + 1
  | (_, d) => uptoBulk d + 1
 end
def uptoSmall : (H : Type) → List (DataW H) → Bool := fun _ ds => decide (uptoBulkAll ds ≤ 1048576)
def OpenSpec.upto (s : _root_.Go.ChangeSpec) : _root_.Go.OpenSpec := { _root_.Go.OpenSpec.ofChange s with cond := some uptoSmall }

/-- 'laws.FnStewDone', WHERE WHAT IT READS IS OF BULK AT MOST 1048576: true; the input reads as it did. -/
def fnStewDoneUptoRow : OpenClaim := { program := "ytpfjmhaknhnamaagreat", sum := "0e96a61bc4be9e716720cd300d592d0b907be76940896138eabf57f66fe31f43", func := "loop.example/wharffleet/laws.FnStewDone", spec := "fnStewDone", inPlace := ["slices.overlaps[loop.example/wharffleet/impl.StewService]", "slices.overlaps[loop.example/wharffleet/impl.StewBerth]"], unfollowed := true, recurses := true, apart := false, narrowed := true }
def FnStewDoneUptoSaid : Prop := fnStewDoneUptoRow.holds Tryz.pinned (OpenSpec.upto fnStewDoneSpec)

/-- 'laws.FnStewCalm', WHERE WHAT IT READS IS OF BULK AT MOST 1048576: true; the input reads as it did. -/
def fnStewCalmUptoRow : OpenClaim := { program := "ytpfjmhaknhnamaagreat", sum := "0e96a61bc4be9e716720cd300d592d0b907be76940896138eabf57f66fe31f43", func := "loop.example/wharffleet/laws.FnStewCalm", spec := "fnStewCalm", inPlace := ["slices.overlaps[loop.example/wharffleet/impl.StewService]", "slices.overlaps[loop.example/wharffleet/impl.StewBerth]", "slices.overlaps[loop.example/wharffleet/impl.StewCopy]"], unfollowed := true, recurses := true, apart := false, narrowed := true }
def FnStewCalmUptoSaid : Prop := fnStewCalmUptoRow.holds Tryz.pinned (OpenSpec.upto fnStewCalmSpec)

/-- 'laws.FnStewLive', WHERE WHAT IT READS IS OF BULK AT MOST 1048576: true; the input reads as it did. -/
def fnStewLiveUptoRow : OpenClaim := { program := "ytpfjmhaknhnamaagreat", sum := "0e96a61bc4be9e716720cd300d592d0b907be76940896138eabf57f66fe31f43", func := "loop.example/wharffleet/laws.FnStewLive", spec := "fnStewLive", inPlace := ["slices.overlaps[loop.example/wharffleet/impl.StewService]", "slices.overlaps[loop.example/wharffleet/impl.StewBerth]", "slices.overlaps[loop.example/wharffleet/impl.StewCopy]"], unfollowed := true, recurses := true, apart := false, narrowed := true }
def FnStewLiveUptoSaid : Prop := fnStewLiveUptoRow.holds Tryz.pinned (OpenSpec.upto fnStewLiveSpec)

/-- 'laws.FnStewTop', WHERE WHAT IT READS IS OF BULK AT MOST 1048576: true; the input reads as it did. -/
def fnStewTopUptoRow : OpenClaim := { program := "ytpfjmhaknhnamaagreat", sum := "0e96a61bc4be9e716720cd300d592d0b907be76940896138eabf57f66fe31f43", func := "loop.example/wharffleet/laws.FnStewTop", spec := "fnStewTop", inPlace := ["slices.overlaps[loop.example/wharffleet/impl.StewCopy]", "slices.overlaps[loop.example/wharffleet/impl.StewService]", "slices.overlaps[loop.example/wharffleet/impl.StewBerth]"], unfollowed := true, recurses := true, apart := false, narrowed := true }
def FnStewTopUptoSaid : Prop := fnStewTopUptoRow.holds Tryz.pinned (OpenSpec.upto fnStewTopSpec)

/-- 'laws.FnExactStewDo', WHERE WHAT IT READS IS OF BULK AT MOST 1048576: true; the input reads as it did. -/
def fnExactStewDoUptoRow : OpenClaim := { program := "ytpfjmhaknhnamaagreat", sum := "0e96a61bc4be9e716720cd300d592d0b907be76940896138eabf57f66fe31f43", func := "loop.example/wharffleet/laws.FnExactStewDo", spec := "fnExactStewDo", inPlace := ["slices.overlaps[loop.example/wharffleet/impl.StewService]", "slices.overlaps[loop.example/wharffleet/impl.StewBerth]", "slices.overlaps[loop.example/wharffleet/impl.StewCopy]"], unfollowed := true, recurses := true, apart := false, narrowed := true }
def FnExactStewDoUptoSaid : Prop := fnExactStewDoUptoRow.holds Tryz.pinned (OpenSpec.upto fnExactStewDoSpec)

/-- 'laws.FnExactStewCalm', WHERE WHAT IT READS IS OF BULK AT MOST 1048576: true; the input reads as it did. -/
def fnExactStewCalmUptoRow : OpenClaim := { program := "ytpfjmhaknhnamaagreat", sum := "0e96a61bc4be9e716720cd300d592d0b907be76940896138eabf57f66fe31f43", func := "loop.example/wharffleet/laws.FnExactStewCalm", spec := "fnExactStewCalm", inPlace := ["slices.overlaps[loop.example/wharffleet/impl.StewService]", "slices.overlaps[loop.example/wharffleet/impl.StewBerth]", "slices.overlaps[loop.example/wharffleet/impl.StewCopy]"], unfollowed := true, recurses := true, apart := false, narrowed := true }
def FnExactStewCalmUptoSaid : Prop := fnExactStewCalmUptoRow.holds Tryz.pinned (OpenSpec.upto fnExactStewCalmSpec)

end Rows
end Go.Proofs.YtpfjmhaknhnamaaGreat

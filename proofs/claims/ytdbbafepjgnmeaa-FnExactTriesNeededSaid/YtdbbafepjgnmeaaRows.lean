/-
  No cell of these rows narrows 'for every input' (looked for: loops, veiled, ifaces, maps, wideKeys, modest, calm, conditions, laid).
  DERIVED. THE GIVEN ROWS OF THIS SEAT. 10 by the template 'for every input the law returns true; each argument reads behind the call as it read before'; 0 by the template 'total and deterministic' (their statements: YtdbbafepjgnmeaaTotals.lean).
  GIVEN WITH THE SEED: the statements are not yours to turn. If you find one false, say at which input.
  Laid BY PROGRAM, IN A SANDBOX (cutbox-rows.mjs): the forced cells as the released guide's own fill.sh prints them over the translation 143d8e6772d7f0e6… (all of the seat's roots in one cut). By AI agents, Wed Nov 11 2026. No macro, syntax, notation, axiom, sorry.
-/
import Derived.Test.YtdbbafepjgnmeaaChecked
import GoSem.Claim
import GoSem.ClaimJoined
import GoSem.ClaimMapViews
import Derived.JoinedTies
import Derived.KernelRfl
namespace Go.Proofs.Ytdbbafepjgnmeaa
/- THE CELL 'sum', in the pinned program and in every row, IS THE sha256 OF THE DUMP (.gsa) THAT YtdbbafepjgnmeaaProg.lean LOADS. Nothing in Lean hashes anything: it is a label: what it is worth is what the hold of that sum in a sandbox is worth. -/
noncomputable def Try.pinned : Pinned := { name := "ytdbbafepjgnmeaa", sum := "143d8e6772d7f0e634465b8a75c6f62e687e9b562a84fd2a99a5840b837c1ea2", checked := Try.checked }
namespace Rows
def none {H : Type} : Left H := { results := [], args := [] }

/-- 'laws.FnExactEventCounts': WHATEVER THE INPUT: true; the input reads as it did. -/
def fnExactEventCountsSpec : ChangeSpec := { name := "fnExactEventCounts", fn := fun _ => fun
  | [d1, d2, d3, d4] => { results := [.lit (.bool true)], args := [d1, d2, d3, d4] }
  | _ => none }
def fnExactEventCountsRow : OpenClaim := { program := "ytdbbafepjgnmeaa", sum := "143d8e6772d7f0e634465b8a75c6f62e687e9b562a84fd2a99a5840b837c1ea2", func := "loop.example/g01183/laws.FnExactEventCounts", spec := "fnExactEventCounts", unfollowed := true, recurses := true, plainKeys := false, apart := false }
def FnExactEventCountsSaid : Prop := fnExactEventCountsRow.holds Try.pinned (OpenSpec.ofChange fnExactEventCountsSpec)

/-- ITS FALSE NEIGHBOUR: 'it returns false'. Refute it at one input. -/
def fnExactEventCountsWrong : ChangeSpec := { name := "fnExactEventCounts", fn := fun _ => fun
  | [d1, d2, d3, d4] => { results := [.lit (.bool false)], args := [d1, d2, d3, d4] }
  | _ => none }
def FnExactEventCountsWrongFalsely : Prop := fnExactEventCountsRow.holds Try.pinned (OpenSpec.ofChange fnExactEventCountsWrong)

/-- 'laws.FnExactCodeOf': WHATEVER THE INPUT: true; the input reads as it did. -/
def fnExactCodeOfSpec : ChangeSpec := { name := "fnExactCodeOf", fn := fun _ => fun
  | [d1, d2, d3, d4] => { results := [.lit (.bool true)], args := [d1, d2, d3, d4] }
  | _ => none }
def fnExactCodeOfRow : OpenClaim := { program := "ytdbbafepjgnmeaa", sum := "143d8e6772d7f0e634465b8a75c6f62e687e9b562a84fd2a99a5840b837c1ea2", func := "loop.example/g01183/laws.FnExactCodeOf", spec := "fnExactCodeOf", unfollowed := true, recurses := true, plainKeys := false, apart := false }
def FnExactCodeOfSaid : Prop := fnExactCodeOfRow.holds Try.pinned (OpenSpec.ofChange fnExactCodeOfSpec)

/-- ITS FALSE NEIGHBOUR: 'it returns false'. Refute it at one input. -/
def fnExactCodeOfWrong : ChangeSpec := { name := "fnExactCodeOf", fn := fun _ => fun
  | [d1, d2, d3, d4] => { results := [.lit (.bool false)], args := [d1, d2, d3, d4] }
  | _ => none }
def FnExactCodeOfWrongFalsely : Prop := fnExactCodeOfRow.holds Try.pinned (OpenSpec.ofChange fnExactCodeOfWrong)

/-- 'laws.FnExactFirstGood': WHATEVER THE INPUT: true; the input reads as it did. -/
def fnExactFirstGoodSpec : ChangeSpec := { name := "fnExactFirstGood", fn := fun _ => fun
  | [d1, d2, d3, d4, d5] => { results := [.lit (.bool true)], args := [d1, d2, d3, d4, d5] }
  | _ => none }
def fnExactFirstGoodRow : OpenClaim := { program := "ytdbbafepjgnmeaa", sum := "143d8e6772d7f0e634465b8a75c6f62e687e9b562a84fd2a99a5840b837c1ea2", func := "loop.example/g01183/laws.FnExactFirstGood", spec := "fnExactFirstGood", unfollowed := true, recurses := true, plainKeys := false, apart := false }
def FnExactFirstGoodSaid : Prop := fnExactFirstGoodRow.holds Try.pinned (OpenSpec.ofChange fnExactFirstGoodSpec)

/-- ITS FALSE NEIGHBOUR: 'it returns false'. Refute it at one input. -/
def fnExactFirstGoodWrong : ChangeSpec := { name := "fnExactFirstGood", fn := fun _ => fun
  | [d1, d2, d3, d4, d5] => { results := [.lit (.bool false)], args := [d1, d2, d3, d4, d5] }
  | _ => none }
def FnExactFirstGoodWrongFalsely : Prop := fnExactFirstGoodRow.holds Try.pinned (OpenSpec.ofChange fnExactFirstGoodWrong)

/-- 'laws.FnExactAlwaysEnds': WHATEVER THE INPUT: true; the input reads as it did. -/
def fnExactAlwaysEndsSpec : ChangeSpec := { name := "fnExactAlwaysEnds", fn := fun _ => fun
  | [d1, d2, d3, d4, d5] => { results := [.lit (.bool true)], args := [d1, d2, d3, d4, d5] }
  | _ => none }
def fnExactAlwaysEndsRow : OpenClaim := { program := "ytdbbafepjgnmeaa", sum := "143d8e6772d7f0e634465b8a75c6f62e687e9b562a84fd2a99a5840b837c1ea2", func := "loop.example/g01183/laws.FnExactAlwaysEnds", spec := "fnExactAlwaysEnds", unfollowed := true, recurses := true, plainKeys := false, apart := false }
def FnExactAlwaysEndsSaid : Prop := fnExactAlwaysEndsRow.holds Try.pinned (OpenSpec.ofChange fnExactAlwaysEndsSpec)

/-- ITS FALSE NEIGHBOUR: 'it returns false'. Refute it at one input. -/
def fnExactAlwaysEndsWrong : ChangeSpec := { name := "fnExactAlwaysEnds", fn := fun _ => fun
  | [d1, d2, d3, d4, d5] => { results := [.lit (.bool false)], args := [d1, d2, d3, d4, d5] }
  | _ => none }
def FnExactAlwaysEndsWrongFalsely : Prop := fnExactAlwaysEndsRow.holds Try.pinned (OpenSpec.ofChange fnExactAlwaysEndsWrong)

/-- 'laws.FnExactTriesNeeded': WHATEVER THE INPUT: true; the input reads as it did. -/
def fnExactTriesNeededSpec : ChangeSpec := { name := "fnExactTriesNeeded", fn := fun _ => fun
  | [d1, d2, d3, d4] => { results := [.lit (.bool true)], args := [d1, d2, d3, d4] }
  | _ => none }
def fnExactTriesNeededRow : OpenClaim := { program := "ytdbbafepjgnmeaa", sum := "143d8e6772d7f0e634465b8a75c6f62e687e9b562a84fd2a99a5840b837c1ea2", func := "loop.example/g01183/laws.FnExactTriesNeeded", spec := "fnExactTriesNeeded", unfollowed := true, recurses := true, plainKeys := false, apart := false }
def FnExactTriesNeededSaid : Prop := fnExactTriesNeededRow.holds Try.pinned (OpenSpec.ofChange fnExactTriesNeededSpec)

/-- ITS FALSE NEIGHBOUR: 'it returns false'. Refute it at one input. -/
def fnExactTriesNeededWrong : ChangeSpec := { name := "fnExactTriesNeeded", fn := fun _ => fun
  | [d1, d2, d3, d4] => { results := [.lit (.bool false)], args := [d1, d2, d3, d4] }
  | _ => none }
def FnExactTriesNeededWrongFalsely : Prop := fnExactTriesNeededRow.holds Try.pinned (OpenSpec.ofChange fnExactTriesNeededWrong)

/-- 'laws.FnExactExitPath': WHATEVER THE INPUT: true; the input reads as it did. -/
def fnExactExitPathSpec : ChangeSpec := { name := "fnExactExitPath", fn := fun _ => fun
  | [d1, d2, d3, d4] => { results := [.lit (.bool true)], args := [d1, d2, d3, d4] }
  | _ => none }
def fnExactExitPathRow : OpenClaim := { program := "ytdbbafepjgnmeaa", sum := "143d8e6772d7f0e634465b8a75c6f62e687e9b562a84fd2a99a5840b837c1ea2", func := "loop.example/g01183/laws.FnExactExitPath", spec := "fnExactExitPath", unfollowed := true, recurses := true, plainKeys := false, apart := false }
def FnExactExitPathSaid : Prop := fnExactExitPathRow.holds Try.pinned (OpenSpec.ofChange fnExactExitPathSpec)

/-- ITS FALSE NEIGHBOUR: 'it returns false'. Refute it at one input. -/
def fnExactExitPathWrong : ChangeSpec := { name := "fnExactExitPath", fn := fun _ => fun
  | [d1, d2, d3, d4] => { results := [.lit (.bool false)], args := [d1, d2, d3, d4] }
  | _ => none }
def FnExactExitPathWrongFalsely : Prop := fnExactExitPathRow.holds Try.pinned (OpenSpec.ofChange fnExactExitPathWrong)

/-- 'laws.FnExactExitingArgs': WHATEVER THE INPUT: true; the input reads as it did. -/
def fnExactExitingArgsSpec : ChangeSpec := { name := "fnExactExitingArgs", fn := fun _ => fun
  | [d1, d2, d3, d4, d5] => { results := [.lit (.bool true)], args := [d1, d2, d3, d4, d5] }
  | _ => none }
def fnExactExitingArgsRow : OpenClaim := { program := "ytdbbafepjgnmeaa", sum := "143d8e6772d7f0e634465b8a75c6f62e687e9b562a84fd2a99a5840b837c1ea2", func := "loop.example/g01183/laws.FnExactExitingArgs", spec := "fnExactExitingArgs", unfollowed := true, recurses := true, plainKeys := false, apart := false }
def FnExactExitingArgsSaid : Prop := fnExactExitingArgsRow.holds Try.pinned (OpenSpec.ofChange fnExactExitingArgsSpec)

/-- ITS FALSE NEIGHBOUR: 'it returns false'. Refute it at one input. -/
def fnExactExitingArgsWrong : ChangeSpec := { name := "fnExactExitingArgs", fn := fun _ => fun
  | [d1, d2, d3, d4, d5] => { results := [.lit (.bool false)], args := [d1, d2, d3, d4, d5] }
  | _ => none }
def FnExactExitingArgsWrongFalsely : Prop := fnExactExitingArgsRow.holds Try.pinned (OpenSpec.ofChange fnExactExitingArgsWrong)

/-- 'laws.FnExactMostFuel': WHATEVER THE INPUT: true; the input reads as it did. -/
def fnExactMostFuelSpec : ChangeSpec := { name := "fnExactMostFuel", fn := fun _ => fun
  | [d1, d2, d3, d4] => { results := [.lit (.bool true)], args := [d1, d2, d3, d4] }
  | _ => none }
def fnExactMostFuelRow : OpenClaim := { program := "ytdbbafepjgnmeaa", sum := "143d8e6772d7f0e634465b8a75c6f62e687e9b562a84fd2a99a5840b837c1ea2", func := "loop.example/g01183/laws.FnExactMostFuel", spec := "fnExactMostFuel", unfollowed := true, recurses := true, plainKeys := false, apart := false }
def FnExactMostFuelSaid : Prop := fnExactMostFuelRow.holds Try.pinned (OpenSpec.ofChange fnExactMostFuelSpec)

/-- ITS FALSE NEIGHBOUR: 'it returns false'. Refute it at one input. -/
def fnExactMostFuelWrong : ChangeSpec := { name := "fnExactMostFuel", fn := fun _ => fun
  | [d1, d2, d3, d4] => { results := [.lit (.bool false)], args := [d1, d2, d3, d4] }
  | _ => none }
def FnExactMostFuelWrongFalsely : Prop := fnExactMostFuelRow.holds Try.pinned (OpenSpec.ofChange fnExactMostFuelWrong)

/-- 'laws.FnExactLeastLimit': WHATEVER THE INPUT: true; the input reads as it did. -/
def fnExactLeastLimitSpec : ChangeSpec := { name := "fnExactLeastLimit", fn := fun _ => fun
  | [d1, d2, d3, d4, d5] => { results := [.lit (.bool true)], args := [d1, d2, d3, d4, d5] }
  | _ => none }
def fnExactLeastLimitRow : OpenClaim := { program := "ytdbbafepjgnmeaa", sum := "143d8e6772d7f0e634465b8a75c6f62e687e9b562a84fd2a99a5840b837c1ea2", func := "loop.example/g01183/laws.FnExactLeastLimit", spec := "fnExactLeastLimit", unfollowed := true, recurses := true, plainKeys := false, apart := false }
def FnExactLeastLimitSaid : Prop := fnExactLeastLimitRow.holds Try.pinned (OpenSpec.ofChange fnExactLeastLimitSpec)

/-- ITS FALSE NEIGHBOUR: 'it returns false'. Refute it at one input. -/
def fnExactLeastLimitWrong : ChangeSpec := { name := "fnExactLeastLimit", fn := fun _ => fun
  | [d1, d2, d3, d4, d5] => { results := [.lit (.bool false)], args := [d1, d2, d3, d4, d5] }
  | _ => none }
def FnExactLeastLimitWrongFalsely : Prop := fnExactLeastLimitRow.holds Try.pinned (OpenSpec.ofChange fnExactLeastLimitWrong)

/-- 'laws.FnExactRunFrom': WHATEVER THE INPUT: true; the input reads as it did. -/
def fnExactRunFromSpec : ChangeSpec := { name := "fnExactRunFrom", fn := fun _ => fun
  | [d1, d2, d3, d4, d5] => { results := [.lit (.bool true)], args := [d1, d2, d3, d4, d5] }
  | _ => none }
def fnExactRunFromRow : OpenClaim := { program := "ytdbbafepjgnmeaa", sum := "143d8e6772d7f0e634465b8a75c6f62e687e9b562a84fd2a99a5840b837c1ea2", func := "loop.example/g01183/laws.FnExactRunFrom", spec := "fnExactRunFrom", unfollowed := true, recurses := true, plainKeys := false, apart := false }
def FnExactRunFromSaid : Prop := fnExactRunFromRow.holds Try.pinned (OpenSpec.ofChange fnExactRunFromSpec)

/-- ITS FALSE NEIGHBOUR: 'it returns false'. Refute it at one input. -/
def fnExactRunFromWrong : ChangeSpec := { name := "fnExactRunFrom", fn := fun _ => fun
  | [d1, d2, d3, d4, d5] => { results := [.lit (.bool false)], args := [d1, d2, d3, d4, d5] }
  | _ => none }
def FnExactRunFromWrongFalsely : Prop := fnExactRunFromRow.holds Try.pinned (OpenSpec.ofChange fnExactRunFromWrong)

/- THE SECOND FORM. 'bulk': how many values and letters a reading holds, each counted each time it is reached (what is shared counts as often as it is met; a slice's spare places count too). A statement '..UptoSaid' is the law's where the arguments, and the package variables that the reading takes, are together of bulk at most 1048576: NARROWER than '..Said'. Prove '..Said' where nothing that the law and all that it calls make is longer than what came in: it says more and counts as full. Else prove '..UptoSaid'. A law counts once. -/
mutual
def uptoBulk {H : Type} : DataW H → Nat
  | .lit (.string bytes) => bytes.length + 1
  | .lit _ => 1
  | .nil => 1
  | .ptr d => uptoBulk d + 1
  | .slice elems spare => uptoBulkAll elems + uptoBulkAll spare + 1
  | .agg parts => uptoBulkAll parts + 1
  | .iface _ d => uptoBulk d + 1
  | .map entries => uptoBulkEntries entries + 1
  | .held _ => 1
def uptoBulkAll {H : Type} : List (DataW H) → Nat
  | [] => 0
  | d :: r => uptoBulk d + uptoBulkAll r
def uptoBulkEntries {H : Type} : List (Lit × DataW H) → Nat
  | [] => 0
  | x :: r => uptoBulkEntry x + uptoBulkEntries r
def uptoBulkEntry {H : Type} : Lit × DataW H → Nat
  | (.string bytes, d) => bytes.length + uptoBulk d + 1
  | (_, d) => uptoBulk d + 1
 end
def uptoSmall : (H : Type) → List (DataW H) → Bool := fun _ ds => decide (uptoBulkAll ds ≤ 1048576)
def OpenSpec.upto (s : _root_.Go.ChangeSpec) : _root_.Go.OpenSpec := { _root_.Go.OpenSpec.ofChange s with cond := some uptoSmall }

/-- 'laws.FnExactEventCounts', WHERE WHAT IT READS IS OF BULK AT MOST 1048576: true; the input reads as it did. -/
def fnExactEventCountsUptoRow : OpenClaim := { program := "ytdbbafepjgnmeaa", sum := "143d8e6772d7f0e634465b8a75c6f62e687e9b562a84fd2a99a5840b837c1ea2", func := "loop.example/g01183/laws.FnExactEventCounts", spec := "fnExactEventCounts", unfollowed := true, recurses := true, plainKeys := false, apart := false, narrowed := true }
def FnExactEventCountsUptoSaid : Prop := fnExactEventCountsUptoRow.holds Try.pinned (OpenSpec.upto fnExactEventCountsSpec)

/-- 'laws.FnExactCodeOf', WHERE WHAT IT READS IS OF BULK AT MOST 1048576: true; the input reads as it did. -/
def fnExactCodeOfUptoRow : OpenClaim := { program := "ytdbbafepjgnmeaa", sum := "143d8e6772d7f0e634465b8a75c6f62e687e9b562a84fd2a99a5840b837c1ea2", func := "loop.example/g01183/laws.FnExactCodeOf", spec := "fnExactCodeOf", unfollowed := true, recurses := true, plainKeys := false, apart := false, narrowed := true }
def FnExactCodeOfUptoSaid : Prop := fnExactCodeOfUptoRow.holds Try.pinned (OpenSpec.upto fnExactCodeOfSpec)

/-- 'laws.FnExactFirstGood', WHERE WHAT IT READS IS OF BULK AT MOST 1048576: true; the input reads as it did. -/
def fnExactFirstGoodUptoRow : OpenClaim := { program := "ytdbbafepjgnmeaa", sum := "143d8e6772d7f0e634465b8a75c6f62e687e9b562a84fd2a99a5840b837c1ea2", func := "loop.example/g01183/laws.FnExactFirstGood", spec := "fnExactFirstGood", unfollowed := true, recurses := true, plainKeys := false, apart := false, narrowed := true }
def FnExactFirstGoodUptoSaid : Prop := fnExactFirstGoodUptoRow.holds Try.pinned (OpenSpec.upto fnExactFirstGoodSpec)

/-- 'laws.FnExactAlwaysEnds', WHERE WHAT IT READS IS OF BULK AT MOST 1048576: true; the input reads as it did. -/
def fnExactAlwaysEndsUptoRow : OpenClaim := { program := "ytdbbafepjgnmeaa", sum := "143d8e6772d7f0e634465b8a75c6f62e687e9b562a84fd2a99a5840b837c1ea2", func := "loop.example/g01183/laws.FnExactAlwaysEnds", spec := "fnExactAlwaysEnds", unfollowed := true, recurses := true, plainKeys := false, apart := false, narrowed := true }
def FnExactAlwaysEndsUptoSaid : Prop := fnExactAlwaysEndsUptoRow.holds Try.pinned (OpenSpec.upto fnExactAlwaysEndsSpec)

/-- 'laws.FnExactTriesNeeded', WHERE WHAT IT READS IS OF BULK AT MOST 1048576: true; the input reads as it did. -/
def fnExactTriesNeededUptoRow : OpenClaim := { program := "ytdbbafepjgnmeaa", sum := "143d8e6772d7f0e634465b8a75c6f62e687e9b562a84fd2a99a5840b837c1ea2", func := "loop.example/g01183/laws.FnExactTriesNeeded", spec := "fnExactTriesNeeded", unfollowed := true, recurses := true, plainKeys := false, apart := false, narrowed := true }
def FnExactTriesNeededUptoSaid : Prop := fnExactTriesNeededUptoRow.holds Try.pinned (OpenSpec.upto fnExactTriesNeededSpec)

/-- 'laws.FnExactExitPath', WHERE WHAT IT READS IS OF BULK AT MOST 1048576: true; the input reads as it did. -/
def fnExactExitPathUptoRow : OpenClaim := { program := "ytdbbafepjgnmeaa", sum := "143d8e6772d7f0e634465b8a75c6f62e687e9b562a84fd2a99a5840b837c1ea2", func := "loop.example/g01183/laws.FnExactExitPath", spec := "fnExactExitPath", unfollowed := true, recurses := true, plainKeys := false, apart := false, narrowed := true }
def FnExactExitPathUptoSaid : Prop := fnExactExitPathUptoRow.holds Try.pinned (OpenSpec.upto fnExactExitPathSpec)

/-- 'laws.FnExactExitingArgs', WHERE WHAT IT READS IS OF BULK AT MOST 1048576: true; the input reads as it did. -/
def fnExactExitingArgsUptoRow : OpenClaim := { program := "ytdbbafepjgnmeaa", sum := "143d8e6772d7f0e634465b8a75c6f62e687e9b562a84fd2a99a5840b837c1ea2", func := "loop.example/g01183/laws.FnExactExitingArgs", spec := "fnExactExitingArgs", unfollowed := true, recurses := true, plainKeys := false, apart := false, narrowed := true }
def FnExactExitingArgsUptoSaid : Prop := fnExactExitingArgsUptoRow.holds Try.pinned (OpenSpec.upto fnExactExitingArgsSpec)

/-- 'laws.FnExactMostFuel', WHERE WHAT IT READS IS OF BULK AT MOST 1048576: true; the input reads as it did. -/
def fnExactMostFuelUptoRow : OpenClaim := { program := "ytdbbafepjgnmeaa", sum := "143d8e6772d7f0e634465b8a75c6f62e687e9b562a84fd2a99a5840b837c1ea2", func := "loop.example/g01183/laws.FnExactMostFuel", spec := "fnExactMostFuel", unfollowed := true, recurses := true, plainKeys := false, apart := false, narrowed := true }
def FnExactMostFuelUptoSaid : Prop := fnExactMostFuelUptoRow.holds Try.pinned (OpenSpec.upto fnExactMostFuelSpec)

/-- 'laws.FnExactLeastLimit', WHERE WHAT IT READS IS OF BULK AT MOST 1048576: true; the input reads as it did. -/
def fnExactLeastLimitUptoRow : OpenClaim := { program := "ytdbbafepjgnmeaa", sum := "143d8e6772d7f0e634465b8a75c6f62e687e9b562a84fd2a99a5840b837c1ea2", func := "loop.example/g01183/laws.FnExactLeastLimit", spec := "fnExactLeastLimit", unfollowed := true, recurses := true, plainKeys := false, apart := false, narrowed := true }
def FnExactLeastLimitUptoSaid : Prop := fnExactLeastLimitUptoRow.holds Try.pinned (OpenSpec.upto fnExactLeastLimitSpec)

/-- 'laws.FnExactRunFrom', WHERE WHAT IT READS IS OF BULK AT MOST 1048576: true; the input reads as it did. -/
def fnExactRunFromUptoRow : OpenClaim := { program := "ytdbbafepjgnmeaa", sum := "143d8e6772d7f0e634465b8a75c6f62e687e9b562a84fd2a99a5840b837c1ea2", func := "loop.example/g01183/laws.FnExactRunFrom", spec := "fnExactRunFrom", unfollowed := true, recurses := true, plainKeys := false, apart := false, narrowed := true }
def FnExactRunFromUptoSaid : Prop := fnExactRunFromUptoRow.holds Try.pinned (OpenSpec.upto fnExactRunFromSpec)

end Rows
end Go.Proofs.Ytdbbafepjgnmeaa

/-
  No cell of these rows narrows 'for every input' (looked for: loops, veiled, ifaces, maps, wideKeys, modest, calm, conditions, laid).
  DERIVED. THE GIVEN ROWS OF THIS SEAT. 12 by the template 'for every input the law returns true; each argument reads behind the call as it read before'; 0 by the template 'total and deterministic' (their statements: YtpenhegoilccoaaTotals.lean).
  GIVEN WITH THE SEED: the statements are not yours to turn. If you find one false, say at which input.
  Laid BY PROGRAM, IN A SANDBOX (cutbox-rows.mjs): the forced cells as the released guide's own fill.sh prints them over the translation 109757258ddd909f… (all of the seat's roots in one cut). By AI agents, Wed Nov 11 2026. No macro, syntax, notation, axiom, sorry.
-/
import Derived.Test.YtpenhegoilccoaaChecked
import GoSem.Claim
import GoSem.ClaimJoined
import GoSem.ClaimMapViews
import Derived.JoinedTies
import Derived.KernelRfl
namespace Go.Proofs.Ytpenhegoilccoaa
/- THE CELL 'sum', in the pinned program and in every row, IS THE sha256 OF THE DUMP (.gsa) THAT YtpenhegoilccoaaProg.lean LOADS. Nothing in Lean hashes anything: it is a label: what it is worth is what the hold of that sum in a sandbox is worth. -/
noncomputable def Try.pinned : Pinned := { name := "ytpenhegoilccoaa", sum := "109757258ddd909f5b54bdc8cedd043ea85d42d5f0b87a80f4cd8ba049be9f6f", checked := Try.checked }
namespace Rows
def none {H : Type} : Left H := { results := [], args := [] }

/-- 'laws.FnExactCanExchange': WHATEVER THE INPUT: true; the input reads as it did. -/
def fnExactCanExchangeSpec : ChangeSpec := { name := "fnExactCanExchange", fn := fun _ => fun
  | [d1, d2, d3] => { results := [.lit (.bool true)], args := [d1, d2, d3] }
  | _ => none }
def fnExactCanExchangeRow : OpenClaim := { program := "ytpenhegoilccoaa", sum := "109757258ddd909f5b54bdc8cedd043ea85d42d5f0b87a80f4cd8ba049be9f6f", func := "loop.example/g01183/laws.FnExactCanExchange", spec := "fnExactCanExchange", unfollowed := true, recurses := true, plainKeys := false, apart := false }
def FnExactCanExchangeSaid : Prop := fnExactCanExchangeRow.holds Try.pinned (OpenSpec.ofChange fnExactCanExchangeSpec)

/-- ITS FALSE NEIGHBOUR: 'it returns false'. Refute it at one input. -/
def fnExactCanExchangeWrong : ChangeSpec := { name := "fnExactCanExchange", fn := fun _ => fun
  | [d1, d2, d3] => { results := [.lit (.bool false)], args := [d1, d2, d3] }
  | _ => none }
def FnExactCanExchangeWrongFalsely : Prop := fnExactCanExchangeRow.holds Try.pinned (OpenSpec.ofChange fnExactCanExchangeWrong)

/-- 'laws.FnExactKeepReached': WHATEVER THE INPUT: true; the input reads as it did. -/
def fnExactKeepReachedSpec : ChangeSpec := { name := "fnExactKeepReached", fn := fun _ => fun
  | [d1, d2] => { results := [.lit (.bool true)], args := [d1, d2] }
  | _ => none }
def fnExactKeepReachedRow : OpenClaim := { program := "ytpenhegoilccoaa", sum := "109757258ddd909f5b54bdc8cedd043ea85d42d5f0b87a80f4cd8ba049be9f6f", func := "loop.example/g01183/laws.FnExactKeepReached", spec := "fnExactKeepReached", unfollowed := true, recurses := true, plainKeys := false, apart := false }
def FnExactKeepReachedSaid : Prop := fnExactKeepReachedRow.holds Try.pinned (OpenSpec.ofChange fnExactKeepReachedSpec)

/-- ITS FALSE NEIGHBOUR: 'it returns false'. Refute it at one input. -/
def fnExactKeepReachedWrong : ChangeSpec := { name := "fnExactKeepReached", fn := fun _ => fun
  | [d1, d2] => { results := [.lit (.bool false)], args := [d1, d2] }
  | _ => none }
def FnExactKeepReachedWrongFalsely : Prop := fnExactKeepReachedRow.holds Try.pinned (OpenSpec.ofChange fnExactKeepReachedWrong)

/-- 'laws.FnExactLintProgram': WHATEVER THE INPUT: true; the input reads as it did. -/
def fnExactLintProgramSpec : ChangeSpec := { name := "fnExactLintProgram", fn := fun _ => fun
  | [d] => { results := [.lit (.bool true)], args := [d] }
  | _ => none }
def fnExactLintProgramRow : OpenClaim := { program := "ytpenhegoilccoaa", sum := "109757258ddd909f5b54bdc8cedd043ea85d42d5f0b87a80f4cd8ba049be9f6f", func := "loop.example/g01183/laws.FnExactLintProgram", spec := "fnExactLintProgram", unfollowed := true, recurses := true, plainKeys := false, apart := false }
def FnExactLintProgramSaid : Prop := fnExactLintProgramRow.holds Try.pinned (OpenSpec.ofChange fnExactLintProgramSpec)

/-- ITS FALSE NEIGHBOUR: 'it returns false'. Refute it at one input. -/
def fnExactLintProgramWrong : ChangeSpec := { name := "fnExactLintProgram", fn := fun _ => fun
  | [d] => { results := [.lit (.bool false)], args := [d] }
  | _ => none }
def FnExactLintProgramWrongFalsely : Prop := fnExactLintProgramRow.holds Try.pinned (OpenSpec.ofChange fnExactLintProgramWrong)

/-- 'laws.FnExactRenumberFunctions': WHATEVER THE INPUT: true; the input reads as it did. -/
def fnExactRenumberFunctionsSpec : ChangeSpec := { name := "fnExactRenumberFunctions", fn := fun _ => fun
  | [d1, d2] => { results := [.lit (.bool true)], args := [d1, d2] }
  | _ => none }
def fnExactRenumberFunctionsRow : OpenClaim := { program := "ytpenhegoilccoaa", sum := "109757258ddd909f5b54bdc8cedd043ea85d42d5f0b87a80f4cd8ba049be9f6f", func := "loop.example/g01183/laws.FnExactRenumberFunctions", spec := "fnExactRenumberFunctions", unfollowed := true, recurses := true, plainKeys := false, apart := false }
def FnExactRenumberFunctionsSaid : Prop := fnExactRenumberFunctionsRow.holds Try.pinned (OpenSpec.ofChange fnExactRenumberFunctionsSpec)

/-- ITS FALSE NEIGHBOUR: 'it returns false'. Refute it at one input. -/
def fnExactRenumberFunctionsWrong : ChangeSpec := { name := "fnExactRenumberFunctions", fn := fun _ => fun
  | [d1, d2] => { results := [.lit (.bool false)], args := [d1, d2] }
  | _ => none }
def FnExactRenumberFunctionsWrongFalsely : Prop := fnExactRenumberFunctionsRow.holds Try.pinned (OpenSpec.ofChange fnExactRenumberFunctionsWrong)

/-- 'laws.FnExactIsValidRecord': WHATEVER THE INPUT: true; the input reads as it did. -/
def fnExactIsValidRecordSpec : ChangeSpec := { name := "fnExactIsValidRecord", fn := fun _ => fun
  | [d] => { results := [.lit (.bool true)], args := [d] }
  | _ => none }
def fnExactIsValidRecordRow : OpenClaim := { program := "ytpenhegoilccoaa", sum := "109757258ddd909f5b54bdc8cedd043ea85d42d5f0b87a80f4cd8ba049be9f6f", func := "loop.example/g01183/laws.FnExactIsValidRecord", spec := "fnExactIsValidRecord", inPlace := ["internal/bytealg.IndexByteString", "internal/bytealg.IndexString"], named := ["internal/bytealg.MaxLen"], plainKeys := false, apart := false }
def FnExactIsValidRecordSaid : Prop := fnExactIsValidRecordRow.holds Try.pinned (OpenSpec.ofChange fnExactIsValidRecordSpec)

/-- ITS FALSE NEIGHBOUR: 'it returns false'. Refute it at one input. -/
def fnExactIsValidRecordWrong : ChangeSpec := { name := "fnExactIsValidRecord", fn := fun _ => fun
  | [d] => { results := [.lit (.bool false)], args := [d] }
  | _ => none }
def FnExactIsValidRecordWrongFalsely : Prop := fnExactIsValidRecordRow.holds Try.pinned (OpenSpec.ofChange fnExactIsValidRecordWrong)

/-- 'laws.FnExactCodeOf': WHATEVER THE INPUT: true; the input reads as it did. -/
def fnExactCodeOfSpec : ChangeSpec := { name := "fnExactCodeOf", fn := fun _ => fun
  | [d1, d2, d3, d4] => { results := [.lit (.bool true)], args := [d1, d2, d3, d4] }
  | _ => none }
def fnExactCodeOfRow : OpenClaim := { program := "ytpenhegoilccoaa", sum := "109757258ddd909f5b54bdc8cedd043ea85d42d5f0b87a80f4cd8ba049be9f6f", func := "loop.example/g01183/laws.FnExactCodeOf", spec := "fnExactCodeOf", unfollowed := true, recurses := true, plainKeys := false, apart := false }
def FnExactCodeOfSaid : Prop := fnExactCodeOfRow.holds Try.pinned (OpenSpec.ofChange fnExactCodeOfSpec)

/-- ITS FALSE NEIGHBOUR: 'it returns false'. Refute it at one input. -/
def fnExactCodeOfWrong : ChangeSpec := { name := "fnExactCodeOf", fn := fun _ => fun
  | [d1, d2, d3, d4] => { results := [.lit (.bool false)], args := [d1, d2, d3, d4] }
  | _ => none }
def FnExactCodeOfWrongFalsely : Prop := fnExactCodeOfRow.holds Try.pinned (OpenSpec.ofChange fnExactCodeOfWrong)

/-- 'laws.FnExactExchangeSteps': WHATEVER THE INPUT: true; the input reads as it did. -/
def fnExactExchangeStepsSpec : ChangeSpec := { name := "fnExactExchangeSteps", fn := fun _ => fun
  | [d1, d2, d3] => { results := [.lit (.bool true)], args := [d1, d2, d3] }
  | _ => none }
def fnExactExchangeStepsRow : OpenClaim := { program := "ytpenhegoilccoaa", sum := "109757258ddd909f5b54bdc8cedd043ea85d42d5f0b87a80f4cd8ba049be9f6f", func := "loop.example/g01183/laws.FnExactExchangeSteps", spec := "fnExactExchangeSteps", unfollowed := true, recurses := true, plainKeys := false, apart := false }
def FnExactExchangeStepsSaid : Prop := fnExactExchangeStepsRow.holds Try.pinned (OpenSpec.ofChange fnExactExchangeStepsSpec)

/-- ITS FALSE NEIGHBOUR: 'it returns false'. Refute it at one input. -/
def fnExactExchangeStepsWrong : ChangeSpec := { name := "fnExactExchangeSteps", fn := fun _ => fun
  | [d1, d2, d3] => { results := [.lit (.bool false)], args := [d1, d2, d3] }
  | _ => none }
def FnExactExchangeStepsWrongFalsely : Prop := fnExactExchangeStepsRow.holds Try.pinned (OpenSpec.ofChange fnExactExchangeStepsWrong)

/-- 'laws.FnExactWithoutRecovers': WHATEVER THE INPUT: true; the input reads as it did. -/
def fnExactWithoutRecoversSpec : ChangeSpec := { name := "fnExactWithoutRecovers", fn := fun _ => fun
  | [d] => { results := [.lit (.bool true)], args := [d] }
  | _ => none }
def fnExactWithoutRecoversRow : OpenClaim := { program := "ytpenhegoilccoaa", sum := "109757258ddd909f5b54bdc8cedd043ea85d42d5f0b87a80f4cd8ba049be9f6f", func := "loop.example/g01183/laws.FnExactWithoutRecovers", spec := "fnExactWithoutRecovers", unfollowed := true, recurses := true, plainKeys := false, apart := false }
def FnExactWithoutRecoversSaid : Prop := fnExactWithoutRecoversRow.holds Try.pinned (OpenSpec.ofChange fnExactWithoutRecoversSpec)

/-- ITS FALSE NEIGHBOUR: 'it returns false'. Refute it at one input. -/
def fnExactWithoutRecoversWrong : ChangeSpec := { name := "fnExactWithoutRecovers", fn := fun _ => fun
  | [d] => { results := [.lit (.bool false)], args := [d] }
  | _ => none }
def FnExactWithoutRecoversWrongFalsely : Prop := fnExactWithoutRecoversRow.holds Try.pinned (OpenSpec.ofChange fnExactWithoutRecoversWrong)

/-- 'laws.FnExactMendEntries': WHATEVER THE INPUT: true; the input reads as it did. -/
def fnExactMendEntriesSpec : ChangeSpec := { name := "fnExactMendEntries", fn := fun _ => fun
  | [d] => { results := [.lit (.bool true)], args := [d] }
  | _ => none }
def fnExactMendEntriesRow : OpenClaim := { program := "ytpenhegoilccoaa", sum := "109757258ddd909f5b54bdc8cedd043ea85d42d5f0b87a80f4cd8ba049be9f6f", func := "loop.example/g01183/laws.FnExactMendEntries", spec := "fnExactMendEntries", unfollowed := true, recurses := true, plainKeys := false, apart := false }
def FnExactMendEntriesSaid : Prop := fnExactMendEntriesRow.holds Try.pinned (OpenSpec.ofChange fnExactMendEntriesSpec)

/-- ITS FALSE NEIGHBOUR: 'it returns false'. Refute it at one input. -/
def fnExactMendEntriesWrong : ChangeSpec := { name := "fnExactMendEntries", fn := fun _ => fun
  | [d] => { results := [.lit (.bool false)], args := [d] }
  | _ => none }
def FnExactMendEntriesWrongFalsely : Prop := fnExactMendEntriesRow.holds Try.pinned (OpenSpec.ofChange fnExactMendEntriesWrong)

/-- 'laws.FnExactReadsOf': WHATEVER THE INPUT: true; the input reads as it did. -/
def fnExactReadsOfSpec : ChangeSpec := { name := "fnExactReadsOf", fn := fun _ => fun
  | [d1, d2, d3] => { results := [.lit (.bool true)], args := [d1, d2, d3] }
  | _ => none }
def fnExactReadsOfRow : OpenClaim := { program := "ytpenhegoilccoaa", sum := "109757258ddd909f5b54bdc8cedd043ea85d42d5f0b87a80f4cd8ba049be9f6f", func := "loop.example/g01183/laws.FnExactReadsOf", spec := "fnExactReadsOf", unfollowed := true, recurses := true, plainKeys := false, apart := false }
def FnExactReadsOfSaid : Prop := fnExactReadsOfRow.holds Try.pinned (OpenSpec.ofChange fnExactReadsOfSpec)

/-- ITS FALSE NEIGHBOUR: 'it returns false'. Refute it at one input. -/
def fnExactReadsOfWrong : ChangeSpec := { name := "fnExactReadsOf", fn := fun _ => fun
  | [d1, d2, d3] => { results := [.lit (.bool false)], args := [d1, d2, d3] }
  | _ => none }
def FnExactReadsOfWrongFalsely : Prop := fnExactReadsOfRow.holds Try.pinned (OpenSpec.ofChange fnExactReadsOfWrong)

/-- 'laws.FnExactLeadsTo': WHATEVER THE INPUT: true; the input reads as it did. -/
def fnExactLeadsToSpec : ChangeSpec := { name := "fnExactLeadsTo", fn := fun _ => fun
  | [d1, d2, d3] => { results := [.lit (.bool true)], args := [d1, d2, d3] }
  | _ => none }
def fnExactLeadsToRow : OpenClaim := { program := "ytpenhegoilccoaa", sum := "109757258ddd909f5b54bdc8cedd043ea85d42d5f0b87a80f4cd8ba049be9f6f", func := "loop.example/g01183/laws.FnExactLeadsTo", spec := "fnExactLeadsTo", unfollowed := true, recurses := true, plainKeys := false, apart := false }
def FnExactLeadsToSaid : Prop := fnExactLeadsToRow.holds Try.pinned (OpenSpec.ofChange fnExactLeadsToSpec)

/-- ITS FALSE NEIGHBOUR: 'it returns false'. Refute it at one input. -/
def fnExactLeadsToWrong : ChangeSpec := { name := "fnExactLeadsTo", fn := fun _ => fun
  | [d1, d2, d3] => { results := [.lit (.bool false)], args := [d1, d2, d3] }
  | _ => none }
def FnExactLeadsToWrongFalsely : Prop := fnExactLeadsToRow.holds Try.pinned (OpenSpec.ofChange fnExactLeadsToWrong)

/-- 'laws.FnExactOpenPlaces': WHATEVER THE INPUT: true; the input reads as it did. -/
def fnExactOpenPlacesSpec : ChangeSpec := { name := "fnExactOpenPlaces", fn := fun _ => fun
  | [d1, d2] => { results := [.lit (.bool true)], args := [d1, d2] }
  | _ => none }
def fnExactOpenPlacesRow : OpenClaim := { program := "ytpenhegoilccoaa", sum := "109757258ddd909f5b54bdc8cedd043ea85d42d5f0b87a80f4cd8ba049be9f6f", func := "loop.example/g01183/laws.FnExactOpenPlaces", spec := "fnExactOpenPlaces", unfollowed := true, recurses := true, plainKeys := false, apart := false }
def FnExactOpenPlacesSaid : Prop := fnExactOpenPlacesRow.holds Try.pinned (OpenSpec.ofChange fnExactOpenPlacesSpec)

/-- ITS FALSE NEIGHBOUR: 'it returns false'. Refute it at one input. -/
def fnExactOpenPlacesWrong : ChangeSpec := { name := "fnExactOpenPlaces", fn := fun _ => fun
  | [d1, d2] => { results := [.lit (.bool false)], args := [d1, d2] }
  | _ => none }
def FnExactOpenPlacesWrongFalsely : Prop := fnExactOpenPlacesRow.holds Try.pinned (OpenSpec.ofChange fnExactOpenPlacesWrong)

/- THE SECOND FORM. 'bulk': how many values and letters a reading holds, each counted each time it is reached (what is shared counts as often as it is met; a slice's spare places count too). A statement '..UptoSaid' is the law's where the arguments, and the package variables that the reading takes, are together of bulk at most 1048576: NARROWER than '..Said'. Prove '..Said' where nothing that the law and all that it calls make is longer than what came in: it says more and counts as full. Else prove '..UptoSaid'. A law counts once. -/
mutual
def uptoBulk {H : Type} : DataW H → Nat
  | .lit (.string bytes) => bytes.length + 1
  | .lit _ => 1
  | .nil => 1
  | .ptr d => uptoBulk d + 1
  | .slice elems spare => uptoBulkAll elems + uptoBulkAll spare + 1
  | .agg parts => uptoBulkAll parts + 1
  | .iface _ d => uptoBulk d + 1
  | .map entries => uptoBulkEntries entries + 1
  | .held _ => 1
def uptoBulkAll {H : Type} : List (DataW H) → Nat
  | [] => 0
  | d :: r => uptoBulk d + uptoBulkAll r
def uptoBulkEntries {H : Type} : List (Lit × DataW H) → Nat
  | [] => 0
  | x :: r => uptoBulkEntry x + uptoBulkEntries r
def uptoBulkEntry {H : Type} : Lit × DataW H → Nat
  | (.string bytes, d) => bytes.length + uptoBulk d + 1
  | (_, d) => uptoBulk d + 1
 end
def uptoSmall : (H : Type) → List (DataW H) → Bool := fun _ ds => decide (uptoBulkAll ds ≤ 1048576)
def OpenSpec.upto (s : _root_.Go.ChangeSpec) : _root_.Go.OpenSpec := { _root_.Go.OpenSpec.ofChange s with cond := some uptoSmall }

/-- 'laws.FnExactCanExchange', WHERE WHAT IT READS IS OF BULK AT MOST 1048576: true; the input reads as it did. -/
def fnExactCanExchangeUptoRow : OpenClaim := { program := "ytpenhegoilccoaa", sum := "109757258ddd909f5b54bdc8cedd043ea85d42d5f0b87a80f4cd8ba049be9f6f", func := "loop.example/g01183/laws.FnExactCanExchange", spec := "fnExactCanExchange", unfollowed := true, recurses := true, plainKeys := false, apart := false, narrowed := true }
def FnExactCanExchangeUptoSaid : Prop := fnExactCanExchangeUptoRow.holds Try.pinned (OpenSpec.upto fnExactCanExchangeSpec)

/-- 'laws.FnExactKeepReached', WHERE WHAT IT READS IS OF BULK AT MOST 1048576: true; the input reads as it did. -/
def fnExactKeepReachedUptoRow : OpenClaim := { program := "ytpenhegoilccoaa", sum := "109757258ddd909f5b54bdc8cedd043ea85d42d5f0b87a80f4cd8ba049be9f6f", func := "loop.example/g01183/laws.FnExactKeepReached", spec := "fnExactKeepReached", unfollowed := true, recurses := true, plainKeys := false, apart := false, narrowed := true }
def FnExactKeepReachedUptoSaid : Prop := fnExactKeepReachedUptoRow.holds Try.pinned (OpenSpec.upto fnExactKeepReachedSpec)

/-- 'laws.FnExactLintProgram', WHERE WHAT IT READS IS OF BULK AT MOST 1048576: true; the input reads as it did. -/
def fnExactLintProgramUptoRow : OpenClaim := { program := "ytpenhegoilccoaa", sum := "109757258ddd909f5b54bdc8cedd043ea85d42d5f0b87a80f4cd8ba049be9f6f", func := "loop.example/g01183/laws.FnExactLintProgram", spec := "fnExactLintProgram", unfollowed := true, recurses := true, plainKeys := false, apart := false, narrowed := true }
def FnExactLintProgramUptoSaid : Prop := fnExactLintProgramUptoRow.holds Try.pinned (OpenSpec.upto fnExactLintProgramSpec)

/-- 'laws.FnExactRenumberFunctions', WHERE WHAT IT READS IS OF BULK AT MOST 1048576: true; the input reads as it did. -/
def fnExactRenumberFunctionsUptoRow : OpenClaim := { program := "ytpenhegoilccoaa", sum := "109757258ddd909f5b54bdc8cedd043ea85d42d5f0b87a80f4cd8ba049be9f6f", func := "loop.example/g01183/laws.FnExactRenumberFunctions", spec := "fnExactRenumberFunctions", unfollowed := true, recurses := true, plainKeys := false, apart := false, narrowed := true }
def FnExactRenumberFunctionsUptoSaid : Prop := fnExactRenumberFunctionsUptoRow.holds Try.pinned (OpenSpec.upto fnExactRenumberFunctionsSpec)

/-- 'laws.FnExactIsValidRecord', WHERE WHAT IT READS IS OF BULK AT MOST 1048576: true; the input reads as it did. -/
def fnExactIsValidRecordUptoRow : OpenClaim := { program := "ytpenhegoilccoaa", sum := "109757258ddd909f5b54bdc8cedd043ea85d42d5f0b87a80f4cd8ba049be9f6f", func := "loop.example/g01183/laws.FnExactIsValidRecord", spec := "fnExactIsValidRecord", inPlace := ["internal/bytealg.IndexByteString", "internal/bytealg.IndexString"], named := ["internal/bytealg.MaxLen"], plainKeys := false, apart := false, narrowed := true }
def FnExactIsValidRecordUptoSaid : Prop := fnExactIsValidRecordUptoRow.holds Try.pinned (OpenSpec.upto fnExactIsValidRecordSpec)

/-- 'laws.FnExactCodeOf', WHERE WHAT IT READS IS OF BULK AT MOST 1048576: true; the input reads as it did. -/
def fnExactCodeOfUptoRow : OpenClaim := { program := "ytpenhegoilccoaa", sum := "109757258ddd909f5b54bdc8cedd043ea85d42d5f0b87a80f4cd8ba049be9f6f", func := "loop.example/g01183/laws.FnExactCodeOf", spec := "fnExactCodeOf", unfollowed := true, recurses := true, plainKeys := false, apart := false, narrowed := true }
def FnExactCodeOfUptoSaid : Prop := fnExactCodeOfUptoRow.holds Try.pinned (OpenSpec.upto fnExactCodeOfSpec)

/-- 'laws.FnExactExchangeSteps', WHERE WHAT IT READS IS OF BULK AT MOST 1048576: true; the input reads as it did. -/
def fnExactExchangeStepsUptoRow : OpenClaim := { program := "ytpenhegoilccoaa", sum := "109757258ddd909f5b54bdc8cedd043ea85d42d5f0b87a80f4cd8ba049be9f6f", func := "loop.example/g01183/laws.FnExactExchangeSteps", spec := "fnExactExchangeSteps", unfollowed := true, recurses := true, plainKeys := false, apart := false, narrowed := true }
def FnExactExchangeStepsUptoSaid : Prop := fnExactExchangeStepsUptoRow.holds Try.pinned (OpenSpec.upto fnExactExchangeStepsSpec)

/-- 'laws.FnExactWithoutRecovers', WHERE WHAT IT READS IS OF BULK AT MOST 1048576: true; the input reads as it did. -/
def fnExactWithoutRecoversUptoRow : OpenClaim := { program := "ytpenhegoilccoaa", sum := "109757258ddd909f5b54bdc8cedd043ea85d42d5f0b87a80f4cd8ba049be9f6f", func := "loop.example/g01183/laws.FnExactWithoutRecovers", spec := "fnExactWithoutRecovers", unfollowed := true, recurses := true, plainKeys := false, apart := false, narrowed := true }
def FnExactWithoutRecoversUptoSaid : Prop := fnExactWithoutRecoversUptoRow.holds Try.pinned (OpenSpec.upto fnExactWithoutRecoversSpec)

/-- 'laws.FnExactMendEntries', WHERE WHAT IT READS IS OF BULK AT MOST 1048576: true; the input reads as it did. -/
def fnExactMendEntriesUptoRow : OpenClaim := { program := "ytpenhegoilccoaa", sum := "109757258ddd909f5b54bdc8cedd043ea85d42d5f0b87a80f4cd8ba049be9f6f", func := "loop.example/g01183/laws.FnExactMendEntries", spec := "fnExactMendEntries", unfollowed := true, recurses := true, plainKeys := false, apart := false, narrowed := true }
def FnExactMendEntriesUptoSaid : Prop := fnExactMendEntriesUptoRow.holds Try.pinned (OpenSpec.upto fnExactMendEntriesSpec)

/-- 'laws.FnExactReadsOf', WHERE WHAT IT READS IS OF BULK AT MOST 1048576: true; the input reads as it did. -/
def fnExactReadsOfUptoRow : OpenClaim := { program := "ytpenhegoilccoaa", sum := "109757258ddd909f5b54bdc8cedd043ea85d42d5f0b87a80f4cd8ba049be9f6f", func := "loop.example/g01183/laws.FnExactReadsOf", spec := "fnExactReadsOf", unfollowed := true, recurses := true, plainKeys := false, apart := false, narrowed := true }
def FnExactReadsOfUptoSaid : Prop := fnExactReadsOfUptoRow.holds Try.pinned (OpenSpec.upto fnExactReadsOfSpec)

/-- 'laws.FnExactLeadsTo', WHERE WHAT IT READS IS OF BULK AT MOST 1048576: true; the input reads as it did. -/
def fnExactLeadsToUptoRow : OpenClaim := { program := "ytpenhegoilccoaa", sum := "109757258ddd909f5b54bdc8cedd043ea85d42d5f0b87a80f4cd8ba049be9f6f", func := "loop.example/g01183/laws.FnExactLeadsTo", spec := "fnExactLeadsTo", unfollowed := true, recurses := true, plainKeys := false, apart := false, narrowed := true }
def FnExactLeadsToUptoSaid : Prop := fnExactLeadsToUptoRow.holds Try.pinned (OpenSpec.upto fnExactLeadsToSpec)

/-- 'laws.FnExactOpenPlaces', WHERE WHAT IT READS IS OF BULK AT MOST 1048576: true; the input reads as it did. -/
def fnExactOpenPlacesUptoRow : OpenClaim := { program := "ytpenhegoilccoaa", sum := "109757258ddd909f5b54bdc8cedd043ea85d42d5f0b87a80f4cd8ba049be9f6f", func := "loop.example/g01183/laws.FnExactOpenPlaces", spec := "fnExactOpenPlaces", unfollowed := true, recurses := true, plainKeys := false, apart := false, narrowed := true }
def FnExactOpenPlacesUptoSaid : Prop := fnExactOpenPlacesUptoRow.holds Try.pinned (OpenSpec.upto fnExactOpenPlacesSpec)

end Rows
end Go.Proofs.Ytpenhegoilccoaa

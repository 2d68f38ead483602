/-
  No cell of these rows narrows 'for every input' (looked for: loops, veiled, ifaces, maps, wideKeys, modest, calm, conditions, laid).
  DERIVED. THE GIVEN ROWS OF THIS SEAT. 12 by the template 'for every input the law returns true; each argument reads behind the call as it read before'; 0 by the template 'total and deterministic' (their statements: YtbgfiiehjaghiaaTotals.lean).
  GIVEN WITH THE SEED: the statements are not yours to turn. If you find one false, say at which input.
  Laid BY PROGRAM, IN A SANDBOX (cutbox-rows.mjs): the forced cells as the released guide's own fill.sh prints them over the translation ef7795ba3f3cb1f3… (all of the seat's roots in one cut). By AI agents, Wed Nov 11 2026. No macro, syntax, notation, axiom, sorry.
-/
import Derived.Test.YtbgfiiehjaghiaaChecked
import GoSem.Claim
import GoSem.ClaimJoined
import GoSem.ClaimMapViews
import Derived.JoinedTies
import Derived.KernelRfl
namespace Go.Proofs.Ytbgfiiehjaghiaa
/- THE CELL 'sum', in the pinned program and in every row, IS THE sha256 OF THE DUMP (.gsa) THAT YtbgfiiehjaghiaaProg.lean LOADS. Nothing in Lean hashes anything: it is a label: what it is worth is what the hold of that sum in a sandbox is worth. -/
noncomputable def Try.pinned : Pinned := { name := "ytbgfiiehjaghiaa", sum := "ef7795ba3f3cb1f33d2f563cd8fe9785ff94b1126df6c888de1f36f4cbe6e9b3", checked := Try.checked }
namespace Rows
def none {H : Type} : Left H := { results := [], args := [] }

/-- 'laws.FnExactExchangeSteps': WHATEVER THE INPUT: true; the input reads as it did. -/
def fnExactExchangeStepsSpec : ChangeSpec := { name := "fnExactExchangeSteps", fn := fun _ => fun
  | [d1, d2, d3] => { results := [.lit (.bool true)], args := [d1, d2, d3] }
  | _ => none }
def fnExactExchangeStepsRow : OpenClaim := { program := "ytbgfiiehjaghiaa", sum := "ef7795ba3f3cb1f33d2f563cd8fe9785ff94b1126df6c888de1f36f4cbe6e9b3", func := "loop.example/g01183/laws.FnExactExchangeSteps", spec := "fnExactExchangeSteps", unfollowed := true, recurses := true, plainKeys := false, apart := false }
def FnExactExchangeStepsSaid : Prop := fnExactExchangeStepsRow.holds Try.pinned (OpenSpec.ofChange fnExactExchangeStepsSpec)

/-- ITS FALSE NEIGHBOUR: 'it returns false'. Refute it at one input. -/
def fnExactExchangeStepsWrong : ChangeSpec := { name := "fnExactExchangeSteps", fn := fun _ => fun
  | [d1, d2, d3] => { results := [.lit (.bool false)], args := [d1, d2, d3] }
  | _ => none }
def FnExactExchangeStepsWrongFalsely : Prop := fnExactExchangeStepsRow.holds Try.pinned (OpenSpec.ofChange fnExactExchangeStepsWrong)

/-- 'laws.FnExactWithoutRecovers': WHATEVER THE INPUT: true; the input reads as it did. -/
def fnExactWithoutRecoversSpec : ChangeSpec := { name := "fnExactWithoutRecovers", fn := fun _ => fun
  | [d] => { results := [.lit (.bool true)], args := [d] }
  | _ => none }
def fnExactWithoutRecoversRow : OpenClaim := { program := "ytbgfiiehjaghiaa", sum := "ef7795ba3f3cb1f33d2f563cd8fe9785ff94b1126df6c888de1f36f4cbe6e9b3", func := "loop.example/g01183/laws.FnExactWithoutRecovers", spec := "fnExactWithoutRecovers", unfollowed := true, recurses := true, plainKeys := false, apart := false }
def FnExactWithoutRecoversSaid : Prop := fnExactWithoutRecoversRow.holds Try.pinned (OpenSpec.ofChange fnExactWithoutRecoversSpec)

/-- ITS FALSE NEIGHBOUR: 'it returns false'. Refute it at one input. -/
def fnExactWithoutRecoversWrong : ChangeSpec := { name := "fnExactWithoutRecovers", fn := fun _ => fun
  | [d] => { results := [.lit (.bool false)], args := [d] }
  | _ => none }
def FnExactWithoutRecoversWrongFalsely : Prop := fnExactWithoutRecoversRow.holds Try.pinned (OpenSpec.ofChange fnExactWithoutRecoversWrong)

/-- 'laws.FnExactDropStep': WHATEVER THE INPUT: true; the input reads as it did. -/
def fnExactDropStepSpec : ChangeSpec := { name := "fnExactDropStep", fn := fun _ => fun
  | [d1, d2, d3] => { results := [.lit (.bool true)], args := [d1, d2, d3] }
  | _ => none }
def fnExactDropStepRow : OpenClaim := { program := "ytbgfiiehjaghiaa", sum := "ef7795ba3f3cb1f33d2f563cd8fe9785ff94b1126df6c888de1f36f4cbe6e9b3", func := "loop.example/g01183/laws.FnExactDropStep", spec := "fnExactDropStep", unfollowed := true, recurses := true, plainKeys := false, apart := false }
def FnExactDropStepSaid : Prop := fnExactDropStepRow.holds Try.pinned (OpenSpec.ofChange fnExactDropStepSpec)

/-- ITS FALSE NEIGHBOUR: 'it returns false'. Refute it at one input. -/
def fnExactDropStepWrong : ChangeSpec := { name := "fnExactDropStep", fn := fun _ => fun
  | [d1, d2, d3] => { results := [.lit (.bool false)], args := [d1, d2, d3] }
  | _ => none }
def FnExactDropStepWrongFalsely : Prop := fnExactDropStepRow.holds Try.pinned (OpenSpec.ofChange fnExactDropStepWrong)

/-- 'laws.FnExactReadsOf': WHATEVER THE INPUT: true; the input reads as it did. -/
def fnExactReadsOfSpec : ChangeSpec := { name := "fnExactReadsOf", fn := fun _ => fun
  | [d1, d2, d3] => { results := [.lit (.bool true)], args := [d1, d2, d3] }
  | _ => none }
def fnExactReadsOfRow : OpenClaim := { program := "ytbgfiiehjaghiaa", sum := "ef7795ba3f3cb1f33d2f563cd8fe9785ff94b1126df6c888de1f36f4cbe6e9b3", func := "loop.example/g01183/laws.FnExactReadsOf", spec := "fnExactReadsOf", unfollowed := true, recurses := true, plainKeys := false, apart := false }
def FnExactReadsOfSaid : Prop := fnExactReadsOfRow.holds Try.pinned (OpenSpec.ofChange fnExactReadsOfSpec)

/-- ITS FALSE NEIGHBOUR: 'it returns false'. Refute it at one input. -/
def fnExactReadsOfWrong : ChangeSpec := { name := "fnExactReadsOf", fn := fun _ => fun
  | [d1, d2, d3] => { results := [.lit (.bool false)], args := [d1, d2, d3] }
  | _ => none }
def FnExactReadsOfWrongFalsely : Prop := fnExactReadsOfRow.holds Try.pinned (OpenSpec.ofChange fnExactReadsOfWrong)

/-- 'laws.FnExactWritesOf': WHATEVER THE INPUT: true; the input reads as it did. -/
def fnExactWritesOfSpec : ChangeSpec := { name := "fnExactWritesOf", fn := fun _ => fun
  | [d1, d2, d3] => { results := [.lit (.bool true)], args := [d1, d2, d3] }
  | _ => none }
def fnExactWritesOfRow : OpenClaim := { program := "ytbgfiiehjaghiaa", sum := "ef7795ba3f3cb1f33d2f563cd8fe9785ff94b1126df6c888de1f36f4cbe6e9b3", func := "loop.example/g01183/laws.FnExactWritesOf", spec := "fnExactWritesOf", unfollowed := true, recurses := true, plainKeys := false, apart := false }
def FnExactWritesOfSaid : Prop := fnExactWritesOfRow.holds Try.pinned (OpenSpec.ofChange fnExactWritesOfSpec)

/-- ITS FALSE NEIGHBOUR: 'it returns false'. Refute it at one input. -/
def fnExactWritesOfWrong : ChangeSpec := { name := "fnExactWritesOf", fn := fun _ => fun
  | [d1, d2, d3] => { results := [.lit (.bool false)], args := [d1, d2, d3] }
  | _ => none }
def FnExactWritesOfWrongFalsely : Prop := fnExactWritesOfRow.holds Try.pinned (OpenSpec.ofChange fnExactWritesOfWrong)

/-- 'laws.FnExactLeadsTo': WHATEVER THE INPUT: true; the input reads as it did. -/
def fnExactLeadsToSpec : ChangeSpec := { name := "fnExactLeadsTo", fn := fun _ => fun
  | [d1, d2, d3] => { results := [.lit (.bool true)], args := [d1, d2, d3] }
  | _ => none }
def fnExactLeadsToRow : OpenClaim := { program := "ytbgfiiehjaghiaa", sum := "ef7795ba3f3cb1f33d2f563cd8fe9785ff94b1126df6c888de1f36f4cbe6e9b3", func := "loop.example/g01183/laws.FnExactLeadsTo", spec := "fnExactLeadsTo", unfollowed := true, recurses := true, plainKeys := false, apart := false }
def FnExactLeadsToSaid : Prop := fnExactLeadsToRow.holds Try.pinned (OpenSpec.ofChange fnExactLeadsToSpec)

/-- ITS FALSE NEIGHBOUR: 'it returns false'. Refute it at one input. -/
def fnExactLeadsToWrong : ChangeSpec := { name := "fnExactLeadsTo", fn := fun _ => fun
  | [d1, d2, d3] => { results := [.lit (.bool false)], args := [d1, d2, d3] }
  | _ => none }
def FnExactLeadsToWrongFalsely : Prop := fnExactLeadsToRow.holds Try.pinned (OpenSpec.ofChange fnExactLeadsToWrong)

/-- 'laws.FnExactOpenPlaces': WHATEVER THE INPUT: true; the input reads as it did. -/
def fnExactOpenPlacesSpec : ChangeSpec := { name := "fnExactOpenPlaces", fn := fun _ => fun
  | [d1, d2] => { results := [.lit (.bool true)], args := [d1, d2] }
  | _ => none }
def fnExactOpenPlacesRow : OpenClaim := { program := "ytbgfiiehjaghiaa", sum := "ef7795ba3f3cb1f33d2f563cd8fe9785ff94b1126df6c888de1f36f4cbe6e9b3", func := "loop.example/g01183/laws.FnExactOpenPlaces", spec := "fnExactOpenPlaces", unfollowed := true, recurses := true, plainKeys := false, apart := false }
def FnExactOpenPlacesSaid : Prop := fnExactOpenPlacesRow.holds Try.pinned (OpenSpec.ofChange fnExactOpenPlacesSpec)

/-- ITS FALSE NEIGHBOUR: 'it returns false'. Refute it at one input. -/
def fnExactOpenPlacesWrong : ChangeSpec := { name := "fnExactOpenPlaces", fn := fun _ => fun
  | [d1, d2] => { results := [.lit (.bool false)], args := [d1, d2] }
  | _ => none }
def FnExactOpenPlacesWrongFalsely : Prop := fnExactOpenPlacesRow.holds Try.pinned (OpenSpec.ofChange fnExactOpenPlacesWrong)

/-- 'laws.FnExactMendEntries': WHATEVER THE INPUT: true; the input reads as it did. -/
def fnExactMendEntriesSpec : ChangeSpec := { name := "fnExactMendEntries", fn := fun _ => fun
  | [d] => { results := [.lit (.bool true)], args := [d] }
  | _ => none }
def fnExactMendEntriesRow : OpenClaim := { program := "ytbgfiiehjaghiaa", sum := "ef7795ba3f3cb1f33d2f563cd8fe9785ff94b1126df6c888de1f36f4cbe6e9b3", func := "loop.example/g01183/laws.FnExactMendEntries", spec := "fnExactMendEntries", unfollowed := true, recurses := true, plainKeys := false, apart := false }
def FnExactMendEntriesSaid : Prop := fnExactMendEntriesRow.holds Try.pinned (OpenSpec.ofChange fnExactMendEntriesSpec)

/-- ITS FALSE NEIGHBOUR: 'it returns false'. Refute it at one input. -/
def fnExactMendEntriesWrong : ChangeSpec := { name := "fnExactMendEntries", fn := fun _ => fun
  | [d] => { results := [.lit (.bool false)], args := [d] }
  | _ => none }
def FnExactMendEntriesWrongFalsely : Prop := fnExactMendEntriesRow.holds Try.pinned (OpenSpec.ofChange fnExactMendEntriesWrong)

/-- 'laws.FnExactSpansOf': WHATEVER THE INPUT: true; the input reads as it did. -/
def fnExactSpansOfSpec : ChangeSpec := { name := "fnExactSpansOf", fn := fun _ => fun
  | [d] => { results := [.lit (.bool true)], args := [d] }
  | _ => none }
def fnExactSpansOfRow : OpenClaim := { program := "ytbgfiiehjaghiaa", sum := "ef7795ba3f3cb1f33d2f563cd8fe9785ff94b1126df6c888de1f36f4cbe6e9b3", func := "loop.example/g01183/laws.FnExactSpansOf", spec := "fnExactSpansOf", unfollowed := true, recurses := true, plainKeys := false, apart := false }
def FnExactSpansOfSaid : Prop := fnExactSpansOfRow.holds Try.pinned (OpenSpec.ofChange fnExactSpansOfSpec)

/-- ITS FALSE NEIGHBOUR: 'it returns false'. Refute it at one input. -/
def fnExactSpansOfWrong : ChangeSpec := { name := "fnExactSpansOf", fn := fun _ => fun
  | [d] => { results := [.lit (.bool false)], args := [d] }
  | _ => none }
def FnExactSpansOfWrongFalsely : Prop := fnExactSpansOfRow.holds Try.pinned (OpenSpec.ofChange fnExactSpansOfWrong)

/-- 'laws.FnExactCleanupProgram': WHATEVER THE INPUT: true; the input reads as it did. -/
def fnExactCleanupProgramSpec : ChangeSpec := { name := "fnExactCleanupProgram", fn := fun _ => fun
  | [d1, d2] => { results := [.lit (.bool true)], args := [d1, d2] }
  | _ => none }
def fnExactCleanupProgramRow : OpenClaim := { program := "ytbgfiiehjaghiaa", sum := "ef7795ba3f3cb1f33d2f563cd8fe9785ff94b1126df6c888de1f36f4cbe6e9b3", func := "loop.example/g01183/laws.FnExactCleanupProgram", spec := "fnExactCleanupProgram", plainKeys := false, apart := false }
def FnExactCleanupProgramSaid : Prop := fnExactCleanupProgramRow.holds Try.pinned (OpenSpec.ofChange fnExactCleanupProgramSpec)

/-- ITS FALSE NEIGHBOUR: 'it returns false'. Refute it at one input. -/
def fnExactCleanupProgramWrong : ChangeSpec := { name := "fnExactCleanupProgram", fn := fun _ => fun
  | [d1, d2] => { results := [.lit (.bool false)], args := [d1, d2] }
  | _ => none }
def FnExactCleanupProgramWrongFalsely : Prop := fnExactCleanupProgramRow.holds Try.pinned (OpenSpec.ofChange fnExactCleanupProgramWrong)

/-- 'laws.FnExactIsTrace': WHATEVER THE INPUT: true; the input reads as it did. -/
def fnExactIsTraceSpec : ChangeSpec := { name := "fnExactIsTrace", fn := fun _ => fun
  | [d] => { results := [.lit (.bool true)], args := [d] }
  | _ => none }
def fnExactIsTraceRow : OpenClaim := { program := "ytbgfiiehjaghiaa", sum := "ef7795ba3f3cb1f33d2f563cd8fe9785ff94b1126df6c888de1f36f4cbe6e9b3", func := "loop.example/g01183/laws.FnExactIsTrace", spec := "fnExactIsTrace", plainKeys := false, apart := false }
def FnExactIsTraceSaid : Prop := fnExactIsTraceRow.holds Try.pinned (OpenSpec.ofChange fnExactIsTraceSpec)

/-- ITS FALSE NEIGHBOUR: 'it returns false'. Refute it at one input. -/
def fnExactIsTraceWrong : ChangeSpec := { name := "fnExactIsTrace", fn := fun _ => fun
  | [d] => { results := [.lit (.bool false)], args := [d] }
  | _ => none }
def FnExactIsTraceWrongFalsely : Prop := fnExactIsTraceRow.holds Try.pinned (OpenSpec.ofChange fnExactIsTraceWrong)

/-- 'laws.FnExactCodeOf': WHATEVER THE INPUT: true; the input reads as it did. -/
def fnExactCodeOfSpec : ChangeSpec := { name := "fnExactCodeOf", fn := fun _ => fun
  | [d1, d2, d3, d4] => { results := [.lit (.bool true)], args := [d1, d2, d3, d4] }
  | _ => none }
def fnExactCodeOfRow : OpenClaim := { program := "ytbgfiiehjaghiaa", sum := "ef7795ba3f3cb1f33d2f563cd8fe9785ff94b1126df6c888de1f36f4cbe6e9b3", func := "loop.example/g01183/laws.FnExactCodeOf", spec := "fnExactCodeOf", unfollowed := true, recurses := true, plainKeys := false, apart := false }
def FnExactCodeOfSaid : Prop := fnExactCodeOfRow.holds Try.pinned (OpenSpec.ofChange fnExactCodeOfSpec)

/-- ITS FALSE NEIGHBOUR: 'it returns false'. Refute it at one input. -/
def fnExactCodeOfWrong : ChangeSpec := { name := "fnExactCodeOf", fn := fun _ => fun
  | [d1, d2, d3, d4] => { results := [.lit (.bool false)], args := [d1, d2, d3, d4] }
  | _ => none }
def FnExactCodeOfWrongFalsely : Prop := fnExactCodeOfRow.holds Try.pinned (OpenSpec.ofChange fnExactCodeOfWrong)

/- THE SECOND FORM. 'bulk': how many values and letters a reading holds, each counted each time it is reached (what is shared counts as often as it is met; a slice's spare places count too). A statement '..UptoSaid' is the law's where the arguments, and the package variables that the reading takes, are together of bulk at most 1048576: NARROWER than '..Said'. Prove '..Said' where nothing that the law and all that it calls make is longer than what came in: it says more and counts as full. Else prove '..UptoSaid'. A law counts once. -/
mutual
def uptoBulk {H : Type} : DataW H → Nat
  | .lit (.string bytes) => bytes.length + 1
  | .lit _ => 1
  | .nil => 1
  | .ptr d => uptoBulk d + 1
  | .slice elems spare => uptoBulkAll elems + uptoBulkAll spare + 1
  | .agg parts => uptoBulkAll parts + 1
  | .iface _ d => uptoBulk d + 1
  | .map entries => uptoBulkEntries entries + 1
  | .held _ => 1
def uptoBulkAll {H : Type} : List (DataW H) → Nat
  | [] => 0
  | d :: r => uptoBulk d + uptoBulkAll r
def uptoBulkEntries {H : Type} : List (Lit × DataW H) → Nat
  | [] => 0
  | x :: r => uptoBulkEntry x + uptoBulkEntries r
def uptoBulkEntry {H : Type} : Lit × DataW H → Nat
  | (.string bytes, d) => bytes.length + uptoBulk d + 1
  | (_, d) => uptoBulk d + 1
 end
def uptoSmall : (H : Type) → List (DataW H) → Bool := fun _ ds => decide (uptoBulkAll ds ≤ 1048576)
def OpenSpec.upto (s : _root_.Go.ChangeSpec) : _root_.Go.OpenSpec := { _root_.Go.OpenSpec.ofChange s with cond := some uptoSmall }

/-- 'laws.FnExactExchangeSteps', WHERE WHAT IT READS IS OF BULK AT MOST 1048576: true; the input reads as it did. -/
def fnExactExchangeStepsUptoRow : OpenClaim := { program := "ytbgfiiehjaghiaa", sum := "ef7795ba3f3cb1f33d2f563cd8fe9785ff94b1126df6c888de1f36f4cbe6e9b3", func := "loop.example/g01183/laws.FnExactExchangeSteps", spec := "fnExactExchangeSteps", unfollowed := true, recurses := true, plainKeys := false, apart := false, narrowed := true }
def FnExactExchangeStepsUptoSaid : Prop := fnExactExchangeStepsUptoRow.holds Try.pinned (OpenSpec.upto fnExactExchangeStepsSpec)

/-- 'laws.FnExactWithoutRecovers', WHERE WHAT IT READS IS OF BULK AT MOST 1048576: true; the input reads as it did. -/
def fnExactWithoutRecoversUptoRow : OpenClaim := { program := "ytbgfiiehjaghiaa", sum := "ef7795ba3f3cb1f33d2f563cd8fe9785ff94b1126df6c888de1f36f4cbe6e9b3", func := "loop.example/g01183/laws.FnExactWithoutRecovers", spec := "fnExactWithoutRecovers", unfollowed := true, recurses := true, plainKeys := false, apart := false, narrowed := true }
def FnExactWithoutRecoversUptoSaid : Prop := fnExactWithoutRecoversUptoRow.holds Try.pinned (OpenSpec.upto fnExactWithoutRecoversSpec)

/-- 'laws.FnExactDropStep', WHERE WHAT IT READS IS OF BULK AT MOST 1048576: true; the input reads as it did. -/
def fnExactDropStepUptoRow : OpenClaim := { program := "ytbgfiiehjaghiaa", sum := "ef7795ba3f3cb1f33d2f563cd8fe9785ff94b1126df6c888de1f36f4cbe6e9b3", func := "loop.example/g01183/laws.FnExactDropStep", spec := "fnExactDropStep", unfollowed := true, recurses := true, plainKeys := false, apart := false, narrowed := true }
def FnExactDropStepUptoSaid : Prop := fnExactDropStepUptoRow.holds Try.pinned (OpenSpec.upto fnExactDropStepSpec)

/-- 'laws.FnExactReadsOf', WHERE WHAT IT READS IS OF BULK AT MOST 1048576: true; the input reads as it did. -/
def fnExactReadsOfUptoRow : OpenClaim := { program := "ytbgfiiehjaghiaa", sum := "ef7795ba3f3cb1f33d2f563cd8fe9785ff94b1126df6c888de1f36f4cbe6e9b3", func := "loop.example/g01183/laws.FnExactReadsOf", spec := "fnExactReadsOf", unfollowed := true, recurses := true, plainKeys := false, apart := false, narrowed := true }
def FnExactReadsOfUptoSaid : Prop := fnExactReadsOfUptoRow.holds Try.pinned (OpenSpec.upto fnExactReadsOfSpec)

/-- 'laws.FnExactWritesOf', WHERE WHAT IT READS IS OF BULK AT MOST 1048576: true; the input reads as it did. -/
def fnExactWritesOfUptoRow : OpenClaim := { program := "ytbgfiiehjaghiaa", sum := "ef7795ba3f3cb1f33d2f563cd8fe9785ff94b1126df6c888de1f36f4cbe6e9b3", func := "loop.example/g01183/laws.FnExactWritesOf", spec := "fnExactWritesOf", unfollowed := true, recurses := true, plainKeys := false, apart := false, narrowed := true }
def FnExactWritesOfUptoSaid : Prop := fnExactWritesOfUptoRow.holds Try.pinned (OpenSpec.upto fnExactWritesOfSpec)

/-- 'laws.FnExactLeadsTo', WHERE WHAT IT READS IS OF BULK AT MOST 1048576: true; the input reads as it did. -/
def fnExactLeadsToUptoRow : OpenClaim := { program := "ytbgfiiehjaghiaa", sum := "ef7795ba3f3cb1f33d2f563cd8fe9785ff94b1126df6c888de1f36f4cbe6e9b3", func := "loop.example/g01183/laws.FnExactLeadsTo", spec := "fnExactLeadsTo", unfollowed := true, recurses := true, plainKeys := false, apart := false, narrowed := true }
def FnExactLeadsToUptoSaid : Prop := fnExactLeadsToUptoRow.holds Try.pinned (OpenSpec.upto fnExactLeadsToSpec)

/-- 'laws.FnExactOpenPlaces', WHERE WHAT IT READS IS OF BULK AT MOST 1048576: true; the input reads as it did. -/
def fnExactOpenPlacesUptoRow : OpenClaim := { program := "ytbgfiiehjaghiaa", sum := "ef7795ba3f3cb1f33d2f563cd8fe9785ff94b1126df6c888de1f36f4cbe6e9b3", func := "loop.example/g01183/laws.FnExactOpenPlaces", spec := "fnExactOpenPlaces", unfollowed := true, recurses := true, plainKeys := false, apart := false, narrowed := true }
def FnExactOpenPlacesUptoSaid : Prop := fnExactOpenPlacesUptoRow.holds Try.pinned (OpenSpec.upto fnExactOpenPlacesSpec)

/-- 'laws.FnExactMendEntries', WHERE WHAT IT READS IS OF BULK AT MOST 1048576: true; the input reads as it did. -/
def fnExactMendEntriesUptoRow : OpenClaim := { program := "ytbgfiiehjaghiaa", sum := "ef7795ba3f3cb1f33d2f563cd8fe9785ff94b1126df6c888de1f36f4cbe6e9b3", func := "loop.example/g01183/laws.FnExactMendEntries", spec := "fnExactMendEntries", unfollowed := true, recurses := true, plainKeys := false, apart := false, narrowed := true }
def FnExactMendEntriesUptoSaid : Prop := fnExactMendEntriesUptoRow.holds Try.pinned (OpenSpec.upto fnExactMendEntriesSpec)

/-- 'laws.FnExactSpansOf', WHERE WHAT IT READS IS OF BULK AT MOST 1048576: true; the input reads as it did. -/
def fnExactSpansOfUptoRow : OpenClaim := { program := "ytbgfiiehjaghiaa", sum := "ef7795ba3f3cb1f33d2f563cd8fe9785ff94b1126df6c888de1f36f4cbe6e9b3", func := "loop.example/g01183/laws.FnExactSpansOf", spec := "fnExactSpansOf", unfollowed := true, recurses := true, plainKeys := false, apart := false, narrowed := true }
def FnExactSpansOfUptoSaid : Prop := fnExactSpansOfUptoRow.holds Try.pinned (OpenSpec.upto fnExactSpansOfSpec)

/-- 'laws.FnExactCleanupProgram', WHERE WHAT IT READS IS OF BULK AT MOST 1048576: true; the input reads as it did. -/
def fnExactCleanupProgramUptoRow : OpenClaim := { program := "ytbgfiiehjaghiaa", sum := "ef7795ba3f3cb1f33d2f563cd8fe9785ff94b1126df6c888de1f36f4cbe6e9b3", func := "loop.example/g01183/laws.FnExactCleanupProgram", spec := "fnExactCleanupProgram", plainKeys := false, apart := false, narrowed := true }
def FnExactCleanupProgramUptoSaid : Prop := fnExactCleanupProgramUptoRow.holds Try.pinned (OpenSpec.upto fnExactCleanupProgramSpec)

/-- 'laws.FnExactIsTrace', WHERE WHAT IT READS IS OF BULK AT MOST 1048576: true; the input reads as it did. -/
def fnExactIsTraceUptoRow : OpenClaim := { program := "ytbgfiiehjaghiaa", sum := "ef7795ba3f3cb1f33d2f563cd8fe9785ff94b1126df6c888de1f36f4cbe6e9b3", func := "loop.example/g01183/laws.FnExactIsTrace", spec := "fnExactIsTrace", plainKeys := false, apart := false, narrowed := true }
def FnExactIsTraceUptoSaid : Prop := fnExactIsTraceUptoRow.holds Try.pinned (OpenSpec.upto fnExactIsTraceSpec)

/-- 'laws.FnExactCodeOf', WHERE WHAT IT READS IS OF BULK AT MOST 1048576: true; the input reads as it did. -/
def fnExactCodeOfUptoRow : OpenClaim := { program := "ytbgfiiehjaghiaa", sum := "ef7795ba3f3cb1f33d2f563cd8fe9785ff94b1126df6c888de1f36f4cbe6e9b3", func := "loop.example/g01183/laws.FnExactCodeOf", spec := "fnExactCodeOf", unfollowed := true, recurses := true, plainKeys := false, apart := false, narrowed := true }
def FnExactCodeOfUptoSaid : Prop := fnExactCodeOfUptoRow.holds Try.pinned (OpenSpec.upto fnExactCodeOfSpec)

end Rows
end Go.Proofs.Ytbgfiiehjaghiaa

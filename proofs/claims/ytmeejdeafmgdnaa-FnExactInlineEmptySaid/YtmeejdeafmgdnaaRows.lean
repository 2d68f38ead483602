/-
  No cell of these rows narrows 'for every input' (looked for: loops, veiled, ifaces, maps, wideKeys, modest, calm, conditions, laid).
  DERIVED. THE GIVEN ROWS OF THIS SEAT. 12 by the template 'for every input the law returns true; each argument reads behind the call as it read before'; 0 by the template 'total and deterministic' (their statements: YtmeejdeafmgdnaaTotals.lean).
  GIVEN WITH THE SEED: the statements are not yours to turn. If you find one false, say at which input.
  Laid BY PROGRAM, IN A SANDBOX (cutbox-rows.mjs): the forced cells as the released guide's own fill.sh prints them over the translation 3137e4f08f95a2a7… (all of the seat's roots in one cut). By AI agents, Wed Nov 11 2026. No macro, syntax, notation, axiom, sorry.
-/
import Derived.Test.YtmeejdeafmgdnaaChecked
import GoSem.Claim
import GoSem.ClaimJoined
import GoSem.ClaimMapViews
import Derived.JoinedTies
import Derived.KernelRfl
namespace Go.Proofs.Ytmeejdeafmgdnaa
/- THE CELL 'sum', in the pinned program and in every row, IS THE sha256 OF THE DUMP (.gsa) THAT YtmeejdeafmgdnaaProg.lean LOADS. Nothing in Lean hashes anything: it is a label: what it is worth is what the hold of that sum in a sandbox is worth. -/
noncomputable def Try.pinned : Pinned := { name := "ytmeejdeafmgdnaa", sum := "3137e4f08f95a2a722f6b2254e8246a859dd8b32e7d66e31a712215362b29a6c", checked := Try.checked }
namespace Rows
def none {H : Type} : Left H := { results := [], args := [] }

/-- 'laws.FnExactIsBench': WHATEVER THE INPUT: true; the input reads as it did. -/
def fnExactIsBenchSpec : ChangeSpec := { name := "fnExactIsBench", fn := fun _ => fun
  | [d] => { results := [.lit (.bool true)], args := [d] }
  | _ => none }
def fnExactIsBenchRow : OpenClaim := { program := "ytmeejdeafmgdnaa", sum := "3137e4f08f95a2a722f6b2254e8246a859dd8b32e7d66e31a712215362b29a6c", func := "loop.example/g01183/laws.FnExactIsBench", spec := "fnExactIsBench", unfollowed := true, recurses := true, apart := false }
def FnExactIsBenchSaid : Prop := fnExactIsBenchRow.holds Try.pinned (OpenSpec.ofChange fnExactIsBenchSpec)

/-- ITS FALSE NEIGHBOUR: 'it returns false'. Refute it at one input. -/
def fnExactIsBenchWrong : ChangeSpec := { name := "fnExactIsBench", fn := fun _ => fun
  | [d] => { results := [.lit (.bool false)], args := [d] }
  | _ => none }
def FnExactIsBenchWrongFalsely : Prop := fnExactIsBenchRow.holds Try.pinned (OpenSpec.ofChange fnExactIsBenchWrong)

/-- 'laws.FnExactDeferCalls': WHATEVER THE INPUT: true; the input reads as it did. -/
def fnExactDeferCallsSpec : ChangeSpec := { name := "fnExactDeferCalls", fn := fun _ => fun
  | [d1, d2] => { results := [.lit (.bool true)], args := [d1, d2] }
  | _ => none }
def fnExactDeferCallsRow : OpenClaim := { program := "ytmeejdeafmgdnaa", sum := "3137e4f08f95a2a722f6b2254e8246a859dd8b32e7d66e31a712215362b29a6c", func := "loop.example/g01183/laws.FnExactDeferCalls", spec := "fnExactDeferCalls", unfollowed := true, recurses := true, apart := false }
def FnExactDeferCallsSaid : Prop := fnExactDeferCallsRow.holds Try.pinned (OpenSpec.ofChange fnExactDeferCallsSpec)

/-- ITS FALSE NEIGHBOUR: 'it returns false'. Refute it at one input. -/
def fnExactDeferCallsWrong : ChangeSpec := { name := "fnExactDeferCalls", fn := fun _ => fun
  | [d1, d2] => { results := [.lit (.bool false)], args := [d1, d2] }
  | _ => none }
def FnExactDeferCallsWrongFalsely : Prop := fnExactDeferCallsRow.holds Try.pinned (OpenSpec.ofChange fnExactDeferCallsWrong)

/-- 'laws.FnExactInlineEmpty': WHATEVER THE INPUT: true; the input reads as it did. -/
def fnExactInlineEmptySpec : ChangeSpec := { name := "fnExactInlineEmpty", fn := fun _ => fun
  | [d1, d2] => { results := [.lit (.bool true)], args := [d1, d2] }
  | _ => none }
def fnExactInlineEmptyRow : OpenClaim := { program := "ytmeejdeafmgdnaa", sum := "3137e4f08f95a2a722f6b2254e8246a859dd8b32e7d66e31a712215362b29a6c", func := "loop.example/g01183/laws.FnExactInlineEmpty", spec := "fnExactInlineEmpty", unfollowed := true, recurses := true, apart := false }
def FnExactInlineEmptySaid : Prop := fnExactInlineEmptyRow.holds Try.pinned (OpenSpec.ofChange fnExactInlineEmptySpec)

/-- ITS FALSE NEIGHBOUR: 'it returns false'. Refute it at one input. -/
def fnExactInlineEmptyWrong : ChangeSpec := { name := "fnExactInlineEmpty", fn := fun _ => fun
  | [d1, d2] => { results := [.lit (.bool false)], args := [d1, d2] }
  | _ => none }
def FnExactInlineEmptyWrongFalsely : Prop := fnExactInlineEmptyRow.holds Try.pinned (OpenSpec.ofChange fnExactInlineEmptyWrong)

/-- 'laws.FnExactExchangeSteps': WHATEVER THE INPUT: true; the input reads as it did. -/
def fnExactExchangeStepsSpec : ChangeSpec := { name := "fnExactExchangeSteps", fn := fun _ => fun
  | [d1, d2, d3] => { results := [.lit (.bool true)], args := [d1, d2, d3] }
  | _ => none }
def fnExactExchangeStepsRow : OpenClaim := { program := "ytmeejdeafmgdnaa", sum := "3137e4f08f95a2a722f6b2254e8246a859dd8b32e7d66e31a712215362b29a6c", func := "loop.example/g01183/laws.FnExactExchangeSteps", spec := "fnExactExchangeSteps", unfollowed := true, recurses := true, apart := false }
def FnExactExchangeStepsSaid : Prop := fnExactExchangeStepsRow.holds Try.pinned (OpenSpec.ofChange fnExactExchangeStepsSpec)

/-- ITS FALSE NEIGHBOUR: 'it returns false'. Refute it at one input. -/
def fnExactExchangeStepsWrong : ChangeSpec := { name := "fnExactExchangeSteps", fn := fun _ => fun
  | [d1, d2, d3] => { results := [.lit (.bool false)], args := [d1, d2, d3] }
  | _ => none }
def FnExactExchangeStepsWrongFalsely : Prop := fnExactExchangeStepsRow.holds Try.pinned (OpenSpec.ofChange fnExactExchangeStepsWrong)

/-- 'laws.FnExactWithoutRecovers': WHATEVER THE INPUT: true; the input reads as it did. -/
def fnExactWithoutRecoversSpec : ChangeSpec := { name := "fnExactWithoutRecovers", fn := fun _ => fun
  | [d] => { results := [.lit (.bool true)], args := [d] }
  | _ => none }
def fnExactWithoutRecoversRow : OpenClaim := { program := "ytmeejdeafmgdnaa", sum := "3137e4f08f95a2a722f6b2254e8246a859dd8b32e7d66e31a712215362b29a6c", func := "loop.example/g01183/laws.FnExactWithoutRecovers", spec := "fnExactWithoutRecovers", unfollowed := true, recurses := true, apart := false }
def FnExactWithoutRecoversSaid : Prop := fnExactWithoutRecoversRow.holds Try.pinned (OpenSpec.ofChange fnExactWithoutRecoversSpec)

/-- ITS FALSE NEIGHBOUR: 'it returns false'. Refute it at one input. -/
def fnExactWithoutRecoversWrong : ChangeSpec := { name := "fnExactWithoutRecovers", fn := fun _ => fun
  | [d] => { results := [.lit (.bool false)], args := [d] }
  | _ => none }
def FnExactWithoutRecoversWrongFalsely : Prop := fnExactWithoutRecoversRow.holds Try.pinned (OpenSpec.ofChange fnExactWithoutRecoversWrong)

/-- 'laws.FnExactDropStep': WHATEVER THE INPUT: true; the input reads as it did. -/
def fnExactDropStepSpec : ChangeSpec := { name := "fnExactDropStep", fn := fun _ => fun
  | [d1, d2, d3] => { results := [.lit (.bool true)], args := [d1, d2, d3] }
  | _ => none }
def fnExactDropStepRow : OpenClaim := { program := "ytmeejdeafmgdnaa", sum := "3137e4f08f95a2a722f6b2254e8246a859dd8b32e7d66e31a712215362b29a6c", func := "loop.example/g01183/laws.FnExactDropStep", spec := "fnExactDropStep", unfollowed := true, recurses := true, apart := false }
def FnExactDropStepSaid : Prop := fnExactDropStepRow.holds Try.pinned (OpenSpec.ofChange fnExactDropStepSpec)

/-- ITS FALSE NEIGHBOUR: 'it returns false'. Refute it at one input. -/
def fnExactDropStepWrong : ChangeSpec := { name := "fnExactDropStep", fn := fun _ => fun
  | [d1, d2, d3] => { results := [.lit (.bool false)], args := [d1, d2, d3] }
  | _ => none }
def FnExactDropStepWrongFalsely : Prop := fnExactDropStepRow.holds Try.pinned (OpenSpec.ofChange fnExactDropStepWrong)

/-- 'laws.FnExactIsSession': WHATEVER THE INPUT: true; the input reads as it did. -/
def fnExactIsSessionSpec : ChangeSpec := { name := "fnExactIsSession", fn := fun _ => fun
  | [d1, d2] => { results := [.lit (.bool true)], args := [d1, d2] }
  | _ => none }
def fnExactIsSessionRow : OpenClaim := { program := "ytmeejdeafmgdnaa", sum := "3137e4f08f95a2a722f6b2254e8246a859dd8b32e7d66e31a712215362b29a6c", func := "loop.example/g01183/laws.FnExactIsSession", spec := "fnExactIsSession", unfollowed := true, recurses := true, apart := false }
def FnExactIsSessionSaid : Prop := fnExactIsSessionRow.holds Try.pinned (OpenSpec.ofChange fnExactIsSessionSpec)

/-- ITS FALSE NEIGHBOUR: 'it returns false'. Refute it at one input. -/
def fnExactIsSessionWrong : ChangeSpec := { name := "fnExactIsSession", fn := fun _ => fun
  | [d1, d2] => { results := [.lit (.bool false)], args := [d1, d2] }
  | _ => none }
def FnExactIsSessionWrongFalsely : Prop := fnExactIsSessionRow.holds Try.pinned (OpenSpec.ofChange fnExactIsSessionWrong)

/-- 'laws.FnExactRenumberFunctions': WHATEVER THE INPUT: true; the input reads as it did. -/
def fnExactRenumberFunctionsSpec : ChangeSpec := { name := "fnExactRenumberFunctions", fn := fun _ => fun
  | [d1, d2] => { results := [.lit (.bool true)], args := [d1, d2] }
  | _ => none }
def fnExactRenumberFunctionsRow : OpenClaim := { program := "ytmeejdeafmgdnaa", sum := "3137e4f08f95a2a722f6b2254e8246a859dd8b32e7d66e31a712215362b29a6c", func := "loop.example/g01183/laws.FnExactRenumberFunctions", spec := "fnExactRenumberFunctions", unfollowed := true, recurses := true, apart := false }
def FnExactRenumberFunctionsSaid : Prop := fnExactRenumberFunctionsRow.holds Try.pinned (OpenSpec.ofChange fnExactRenumberFunctionsSpec)

/-- ITS FALSE NEIGHBOUR: 'it returns false'. Refute it at one input. -/
def fnExactRenumberFunctionsWrong : ChangeSpec := { name := "fnExactRenumberFunctions", fn := fun _ => fun
  | [d1, d2] => { results := [.lit (.bool false)], args := [d1, d2] }
  | _ => none }
def FnExactRenumberFunctionsWrongFalsely : Prop := fnExactRenumberFunctionsRow.holds Try.pinned (OpenSpec.ofChange fnExactRenumberFunctionsWrong)

/-- 'laws.FnExactReadsOf': WHATEVER THE INPUT: true; the input reads as it did. -/
def fnExactReadsOfSpec : ChangeSpec := { name := "fnExactReadsOf", fn := fun _ => fun
  | [d1, d2, d3] => { results := [.lit (.bool true)], args := [d1, d2, d3] }
  | _ => none }
def fnExactReadsOfRow : OpenClaim := { program := "ytmeejdeafmgdnaa", sum := "3137e4f08f95a2a722f6b2254e8246a859dd8b32e7d66e31a712215362b29a6c", func := "loop.example/g01183/laws.FnExactReadsOf", spec := "fnExactReadsOf", unfollowed := true, recurses := true, apart := false }
def FnExactReadsOfSaid : Prop := fnExactReadsOfRow.holds Try.pinned (OpenSpec.ofChange fnExactReadsOfSpec)

/-- ITS FALSE NEIGHBOUR: 'it returns false'. Refute it at one input. -/
def fnExactReadsOfWrong : ChangeSpec := { name := "fnExactReadsOf", fn := fun _ => fun
  | [d1, d2, d3] => { results := [.lit (.bool false)], args := [d1, d2, d3] }
  | _ => none }
def FnExactReadsOfWrongFalsely : Prop := fnExactReadsOfRow.holds Try.pinned (OpenSpec.ofChange fnExactReadsOfWrong)

/-- 'laws.FnExactLeadsTo': WHATEVER THE INPUT: true; the input reads as it did. -/
def fnExactLeadsToSpec : ChangeSpec := { name := "fnExactLeadsTo", fn := fun _ => fun
  | [d1, d2, d3] => { results := [.lit (.bool true)], args := [d1, d2, d3] }
  | _ => none }
def fnExactLeadsToRow : OpenClaim := { program := "ytmeejdeafmgdnaa", sum := "3137e4f08f95a2a722f6b2254e8246a859dd8b32e7d66e31a712215362b29a6c", func := "loop.example/g01183/laws.FnExactLeadsTo", spec := "fnExactLeadsTo", unfollowed := true, recurses := true, apart := false }
def FnExactLeadsToSaid : Prop := fnExactLeadsToRow.holds Try.pinned (OpenSpec.ofChange fnExactLeadsToSpec)

/-- ITS FALSE NEIGHBOUR: 'it returns false'. Refute it at one input. -/
def fnExactLeadsToWrong : ChangeSpec := { name := "fnExactLeadsTo", fn := fun _ => fun
  | [d1, d2, d3] => { results := [.lit (.bool false)], args := [d1, d2, d3] }
  | _ => none }
def FnExactLeadsToWrongFalsely : Prop := fnExactLeadsToRow.holds Try.pinned (OpenSpec.ofChange fnExactLeadsToWrong)

/-- 'laws.FnExactWritesOf': WHATEVER THE INPUT: true; the input reads as it did. -/
def fnExactWritesOfSpec : ChangeSpec := { name := "fnExactWritesOf", fn := fun _ => fun
  | [d1, d2, d3] => { results := [.lit (.bool true)], args := [d1, d2, d3] }
  | _ => none }
def fnExactWritesOfRow : OpenClaim := { program := "ytmeejdeafmgdnaa", sum := "3137e4f08f95a2a722f6b2254e8246a859dd8b32e7d66e31a712215362b29a6c", func := "loop.example/g01183/laws.FnExactWritesOf", spec := "fnExactWritesOf", unfollowed := true, recurses := true, apart := false }
def FnExactWritesOfSaid : Prop := fnExactWritesOfRow.holds Try.pinned (OpenSpec.ofChange fnExactWritesOfSpec)

/-- ITS FALSE NEIGHBOUR: 'it returns false'. Refute it at one input. -/
def fnExactWritesOfWrong : ChangeSpec := { name := "fnExactWritesOf", fn := fun _ => fun
  | [d1, d2, d3] => { results := [.lit (.bool false)], args := [d1, d2, d3] }
  | _ => none }
def FnExactWritesOfWrongFalsely : Prop := fnExactWritesOfRow.holds Try.pinned (OpenSpec.ofChange fnExactWritesOfWrong)

/-- 'laws.FnExactOpenPlaces': WHATEVER THE INPUT: true; the input reads as it did. -/
def fnExactOpenPlacesSpec : ChangeSpec := { name := "fnExactOpenPlaces", fn := fun _ => fun
  | [d1, d2] => { results := [.lit (.bool true)], args := [d1, d2] }
  | _ => none }
def fnExactOpenPlacesRow : OpenClaim := { program := "ytmeejdeafmgdnaa", sum := "3137e4f08f95a2a722f6b2254e8246a859dd8b32e7d66e31a712215362b29a6c", func := "loop.example/g01183/laws.FnExactOpenPlaces", spec := "fnExactOpenPlaces", unfollowed := true, recurses := true, apart := false }
def FnExactOpenPlacesSaid : Prop := fnExactOpenPlacesRow.holds Try.pinned (OpenSpec.ofChange fnExactOpenPlacesSpec)

/-- ITS FALSE NEIGHBOUR: 'it returns false'. Refute it at one input. -/
def fnExactOpenPlacesWrong : ChangeSpec := { name := "fnExactOpenPlaces", fn := fun _ => fun
  | [d1, d2] => { results := [.lit (.bool false)], args := [d1, d2] }
  | _ => none }
def FnExactOpenPlacesWrongFalsely : Prop := fnExactOpenPlacesRow.holds Try.pinned (OpenSpec.ofChange fnExactOpenPlacesWrong)

/- THE SECOND FORM. 'bulk': how many values and letters a reading holds, each counted each time it is reached (what is shared counts as often as it is met; a slice's spare places count too). A statement '..UptoSaid' is the law's where the arguments, and the package variables that the reading takes, are together of bulk at most 1048576: NARROWER than '..Said'. Prove '..Said' where nothing that the law and all that it calls make is longer than what came in: it says more and counts as full. Else prove '..UptoSaid'. A law counts once. -/
mutual
def uptoBulk {H : Type} : DataW H → Nat
  | .lit (.string bytes) => bytes.length + 1
  | .lit _ => 1
  | .nil => 1
  | .ptr d => uptoBulk d + 1
  | .slice elems spare => uptoBulkAll elems + uptoBulkAll spare + 1
  | .agg parts => uptoBulkAll parts + 1
  | .iface _ d => uptoBulk d + 1
  | .map entries => uptoBulkEntries entries + 1
  | .held _ => 1
def uptoBulkAll {H : Type} : List (DataW H) → Nat
  | [] => 0
  | d :: r => uptoBulk d + uptoBulkAll r
def uptoBulkEntries {H : Type} : List (Lit × DataW H) → Nat
  | [] => 0
  | x :: r => uptoBulkEntry x + uptoBulkEntries r
def uptoBulkEntry {H : Type} : Lit × DataW H → Nat
  | (.string bytes, d) => bytes.length + uptoBulk d + 1
  | (_, d) => uptoBulk d + 1
 end
def uptoSmall : (H : Type) → List (DataW H) → Bool := fun _ ds => decide (uptoBulkAll ds ≤ 1048576)
def OpenSpec.upto (s : _root_.Go.ChangeSpec) : _root_.Go.OpenSpec := { _root_.Go.OpenSpec.ofChange s with cond := some uptoSmall }

/-- 'laws.FnExactIsBench', WHERE WHAT IT READS IS OF BULK AT MOST 1048576: true; the input reads as it did. -/
def fnExactIsBenchUptoRow : OpenClaim := { program := "ytmeejdeafmgdnaa", sum := "3137e4f08f95a2a722f6b2254e8246a859dd8b32e7d66e31a712215362b29a6c", func := "loop.example/g01183/laws.FnExactIsBench", spec := "fnExactIsBench", unfollowed := true, recurses := true, apart := false, narrowed := true }
def FnExactIsBenchUptoSaid : Prop := fnExactIsBenchUptoRow.holds Try.pinned (OpenSpec.upto fnExactIsBenchSpec)

/-- 'laws.FnExactDeferCalls', WHERE WHAT IT READS IS OF BULK AT MOST 1048576: true; the input reads as it did. -/
def fnExactDeferCallsUptoRow : OpenClaim := { program := "ytmeejdeafmgdnaa", sum := "3137e4f08f95a2a722f6b2254e8246a859dd8b32e7d66e31a712215362b29a6c", func := "loop.example/g01183/laws.FnExactDeferCalls", spec := "fnExactDeferCalls", unfollowed := true, recurses := true, apart := false, narrowed := true }
def FnExactDeferCallsUptoSaid : Prop := fnExactDeferCallsUptoRow.holds Try.pinned (OpenSpec.upto fnExactDeferCallsSpec)

/-- 'laws.FnExactInlineEmpty', WHERE WHAT IT READS IS OF BULK AT MOST 1048576: true; the input reads as it did. -/
def fnExactInlineEmptyUptoRow : OpenClaim := { program := "ytmeejdeafmgdnaa", sum := "3137e4f08f95a2a722f6b2254e8246a859dd8b32e7d66e31a712215362b29a6c", func := "loop.example/g01183/laws.FnExactInlineEmpty", spec := "fnExactInlineEmpty", unfollowed := true, recurses := true, apart := false, narrowed := true }
def FnExactInlineEmptyUptoSaid : Prop := fnExactInlineEmptyUptoRow.holds Try.pinned (OpenSpec.upto fnExactInlineEmptySpec)

/-- 'laws.FnExactExchangeSteps', WHERE WHAT IT READS IS OF BULK AT MOST 1048576: true; the input reads as it did. -/
def fnExactExchangeStepsUptoRow : OpenClaim := { program := "ytmeejdeafmgdnaa", sum := "3137e4f08f95a2a722f6b2254e8246a859dd8b32e7d66e31a712215362b29a6c", func := "loop.example/g01183/laws.FnExactExchangeSteps", spec := "fnExactExchangeSteps", unfollowed := true, recurses := true, apart := false, narrowed := true }
def FnExactExchangeStepsUptoSaid : Prop := fnExactExchangeStepsUptoRow.holds Try.pinned (OpenSpec.upto fnExactExchangeStepsSpec)

/-- 'laws.FnExactWithoutRecovers', WHERE WHAT IT READS IS OF BULK AT MOST 1048576: true; the input reads as it did. -/
def fnExactWithoutRecoversUptoRow : OpenClaim := { program := "ytmeejdeafmgdnaa", sum := "3137e4f08f95a2a722f6b2254e8246a859dd8b32e7d66e31a712215362b29a6c", func := "loop.example/g01183/laws.FnExactWithoutRecovers", spec := "fnExactWithoutRecovers", unfollowed := true, recurses := true, apart := false, narrowed := true }
def FnExactWithoutRecoversUptoSaid : Prop := fnExactWithoutRecoversUptoRow.holds Try.pinned (OpenSpec.upto fnExactWithoutRecoversSpec)

/-- 'laws.FnExactDropStep', WHERE WHAT IT READS IS OF BULK AT MOST 1048576: true; the input reads as it did. -/
def fnExactDropStepUptoRow : OpenClaim := { program := "ytmeejdeafmgdnaa", sum := "3137e4f08f95a2a722f6b2254e8246a859dd8b32e7d66e31a712215362b29a6c", func := "loop.example/g01183/laws.FnExactDropStep", spec := "fnExactDropStep", unfollowed := true, recurses := true, apart := false, narrowed := true }
def FnExactDropStepUptoSaid : Prop := fnExactDropStepUptoRow.holds Try.pinned (OpenSpec.upto fnExactDropStepSpec)

/-- 'laws.FnExactIsSession', WHERE WHAT IT READS IS OF BULK AT MOST 1048576: true; the input reads as it did. -/
def fnExactIsSessionUptoRow : OpenClaim := { program := "ytmeejdeafmgdnaa", sum := "3137e4f08f95a2a722f6b2254e8246a859dd8b32e7d66e31a712215362b29a6c", func := "loop.example/g01183/laws.FnExactIsSession", spec := "fnExactIsSession", unfollowed := true, recurses := true, apart := false, narrowed := true }
def FnExactIsSessionUptoSaid : Prop := fnExactIsSessionUptoRow.holds Try.pinned (OpenSpec.upto fnExactIsSessionSpec)

/-- 'laws.FnExactRenumberFunctions', WHERE WHAT IT READS IS OF BULK AT MOST 1048576: true; the input reads as it did. -/
def fnExactRenumberFunctionsUptoRow : OpenClaim := { program := "ytmeejdeafmgdnaa", sum := "3137e4f08f95a2a722f6b2254e8246a859dd8b32e7d66e31a712215362b29a6c", func := "loop.example/g01183/laws.FnExactRenumberFunctions", spec := "fnExactRenumberFunctions", unfollowed := true, recurses := true, apart := false, narrowed := true }
def FnExactRenumberFunctionsUptoSaid : Prop := fnExactRenumberFunctionsUptoRow.holds Try.pinned (OpenSpec.upto fnExactRenumberFunctionsSpec)

/-- 'laws.FnExactReadsOf', WHERE WHAT IT READS IS OF BULK AT MOST 1048576: true; the input reads as it did. -/
def fnExactReadsOfUptoRow : OpenClaim := { program := "ytmeejdeafmgdnaa", sum := "3137e4f08f95a2a722f6b2254e8246a859dd8b32e7d66e31a712215362b29a6c", func := "loop.example/g01183/laws.FnExactReadsOf", spec := "fnExactReadsOf", unfollowed := true, recurses := true, apart := false, narrowed := true }
def FnExactReadsOfUptoSaid : Prop := fnExactReadsOfUptoRow.holds Try.pinned (OpenSpec.upto fnExactReadsOfSpec)

/-- 'laws.FnExactLeadsTo', WHERE WHAT IT READS IS OF BULK AT MOST 1048576: true; the input reads as it did. -/
def fnExactLeadsToUptoRow : OpenClaim := { program := "ytmeejdeafmgdnaa", sum := "3137e4f08f95a2a722f6b2254e8246a859dd8b32e7d66e31a712215362b29a6c", func := "loop.example/g01183/laws.FnExactLeadsTo", spec := "fnExactLeadsTo", unfollowed := true, recurses := true, apart := false, narrowed := true }
def FnExactLeadsToUptoSaid : Prop := fnExactLeadsToUptoRow.holds Try.pinned (OpenSpec.upto fnExactLeadsToSpec)

/-- 'laws.FnExactWritesOf', WHERE WHAT IT READS IS OF BULK AT MOST 1048576: true; the input reads as it did. -/
def fnExactWritesOfUptoRow : OpenClaim := { program := "ytmeejdeafmgdnaa", sum := "3137e4f08f95a2a722f6b2254e8246a859dd8b32e7d66e31a712215362b29a6c", func := "loop.example/g01183/laws.FnExactWritesOf", spec := "fnExactWritesOf", unfollowed := true, recurses := true, apart := false, narrowed := true }
def FnExactWritesOfUptoSaid : Prop := fnExactWritesOfUptoRow.holds Try.pinned (OpenSpec.upto fnExactWritesOfSpec)

/-- 'laws.FnExactOpenPlaces', WHERE WHAT IT READS IS OF BULK AT MOST 1048576: true; the input reads as it did. -/
def fnExactOpenPlacesUptoRow : OpenClaim := { program := "ytmeejdeafmgdnaa", sum := "3137e4f08f95a2a722f6b2254e8246a859dd8b32e7d66e31a712215362b29a6c", func := "loop.example/g01183/laws.FnExactOpenPlaces", spec := "fnExactOpenPlaces", unfollowed := true, recurses := true, apart := false, narrowed := true }
def FnExactOpenPlacesUptoSaid : Prop := fnExactOpenPlacesUptoRow.holds Try.pinned (OpenSpec.upto fnExactOpenPlacesSpec)

end Rows
end Go.Proofs.Ytmeejdeafmgdnaa

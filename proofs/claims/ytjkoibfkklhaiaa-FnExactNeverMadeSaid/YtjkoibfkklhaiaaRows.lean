/-
  No cell of these rows narrows 'for every input' (looked for: loops, veiled, ifaces, maps, wideKeys, modest, calm, conditions, laid).
  DERIVED. THE GIVEN ROWS OF THIS SEAT. 10 by the template 'for every input the law returns true; each argument reads behind the call as it read before'; 0 by the template 'total and deterministic' (their statements: YtjkoibfkklhaiaaTotals.lean).
  GIVEN WITH THE SEED: the statements are not yours to turn. If you find one false, say at which input.
  Laid BY PROGRAM, IN A SANDBOX (cutbox-rows.mjs): the forced cells as the released guide's own fill.sh prints them over the translation e74c73d49211d93b… (all of the seat's roots in one cut). By AI agents, Wed Nov 11 2026. No macro, syntax, notation, axiom, sorry.
-/
import Derived.Test.YtjkoibfkklhaiaaChecked
import GoSem.Claim
import GoSem.ClaimJoined
import GoSem.ClaimMapViews
import Derived.JoinedTies
import Derived.KernelRfl
namespace Go.Proofs.Ytjkoibfkklhaiaa
/- THE CELL 'sum', in the pinned program and in every row, IS THE sha256 OF THE DUMP (.gsa) THAT YtjkoibfkklhaiaaProg.lean LOADS. Nothing in Lean hashes anything: it is a label: what it is worth is what the hold of that sum in a sandbox is worth. -/
noncomputable def Try.pinned : Pinned := { name := "ytjkoibfkklhaiaa", sum := "e74c73d49211d93b454e8303528d71f5efbaa9a7668e559797a82b96996ceef7", checked := Try.checked }
namespace Rows
def none {H : Type} : Left H := { results := [], args := [] }

/-- 'laws.FnExactSessionSays': WHATEVER THE INPUT: true; the input reads as it did. -/
def fnExactSessionSaysSpec : ChangeSpec := { name := "fnExactSessionSays", fn := fun _ => fun
  | [d1, d2, d3] => { results := [.lit (.bool true)], args := [d1, d2, d3] }
  | _ => none }
def fnExactSessionSaysRow : OpenClaim := { program := "ytjkoibfkklhaiaa", sum := "e74c73d49211d93b454e8303528d71f5efbaa9a7668e559797a82b96996ceef7", func := "loop.example/g01183/laws.FnExactSessionSays", spec := "fnExactSessionSays", unfollowed := true, recurses := true, plainKeys := false, apart := false }
def FnExactSessionSaysSaid : Prop := fnExactSessionSaysRow.holds Try.pinned (OpenSpec.ofChange fnExactSessionSaysSpec)

/-- ITS FALSE NEIGHBOUR: 'it returns false'. Refute it at one input. -/
def fnExactSessionSaysWrong : ChangeSpec := { name := "fnExactSessionSays", fn := fun _ => fun
  | [d1, d2, d3] => { results := [.lit (.bool false)], args := [d1, d2, d3] }
  | _ => none }
def FnExactSessionSaysWrongFalsely : Prop := fnExactSessionSaysRow.holds Try.pinned (OpenSpec.ofChange fnExactSessionSaysWrong)

/-- 'laws.FnExactSessionKinds': WHATEVER THE INPUT: true; the input reads as it did. -/
def fnExactSessionKindsSpec : ChangeSpec := { name := "fnExactSessionKinds", fn := fun _ => fun
  | [d1, d2, d3] => { results := [.lit (.bool true)], args := [d1, d2, d3] }
  | _ => none }
def fnExactSessionKindsRow : OpenClaim := { program := "ytjkoibfkklhaiaa", sum := "e74c73d49211d93b454e8303528d71f5efbaa9a7668e559797a82b96996ceef7", func := "loop.example/g01183/laws.FnExactSessionKinds", spec := "fnExactSessionKinds", unfollowed := true, recurses := true, plainKeys := false, apart := false }
def FnExactSessionKindsSaid : Prop := fnExactSessionKindsRow.holds Try.pinned (OpenSpec.ofChange fnExactSessionKindsSpec)

/-- ITS FALSE NEIGHBOUR: 'it returns false'. Refute it at one input. -/
def fnExactSessionKindsWrong : ChangeSpec := { name := "fnExactSessionKinds", fn := fun _ => fun
  | [d1, d2, d3] => { results := [.lit (.bool false)], args := [d1, d2, d3] }
  | _ => none }
def FnExactSessionKindsWrongFalsely : Prop := fnExactSessionKindsRow.holds Try.pinned (OpenSpec.ofChange fnExactSessionKindsWrong)

/-- 'laws.FnExactSessionCode': WHATEVER THE INPUT: true; the input reads as it did. -/
def fnExactSessionCodeSpec : ChangeSpec := { name := "fnExactSessionCode", fn := fun _ => fun
  | [d1, d2, d3] => { results := [.lit (.bool true)], args := [d1, d2, d3] }
  | _ => none }
def fnExactSessionCodeRow : OpenClaim := { program := "ytjkoibfkklhaiaa", sum := "e74c73d49211d93b454e8303528d71f5efbaa9a7668e559797a82b96996ceef7", func := "loop.example/g01183/laws.FnExactSessionCode", spec := "fnExactSessionCode", unfollowed := true, recurses := true, plainKeys := false, apart := false }
def FnExactSessionCodeSaid : Prop := fnExactSessionCodeRow.holds Try.pinned (OpenSpec.ofChange fnExactSessionCodeSpec)

/-- ITS FALSE NEIGHBOUR: 'it returns false'. Refute it at one input. -/
def fnExactSessionCodeWrong : ChangeSpec := { name := "fnExactSessionCode", fn := fun _ => fun
  | [d1, d2, d3] => { results := [.lit (.bool false)], args := [d1, d2, d3] }
  | _ => none }
def FnExactSessionCodeWrongFalsely : Prop := fnExactSessionCodeRow.holds Try.pinned (OpenSpec.ofChange fnExactSessionCodeWrong)

/-- 'laws.FnExactSharedLeft': WHATEVER THE INPUT: true; the input reads as it did. -/
def fnExactSharedLeftSpec : ChangeSpec := { name := "fnExactSharedLeft", fn := fun _ => fun
  | [d1, d2, d3] => { results := [.lit (.bool true)], args := [d1, d2, d3] }
  | _ => none }
def fnExactSharedLeftRow : OpenClaim := { program := "ytjkoibfkklhaiaa", sum := "e74c73d49211d93b454e8303528d71f5efbaa9a7668e559797a82b96996ceef7", func := "loop.example/g01183/laws.FnExactSharedLeft", spec := "fnExactSharedLeft", unfollowed := true, recurses := true, plainKeys := false, apart := false }
def FnExactSharedLeftSaid : Prop := fnExactSharedLeftRow.holds Try.pinned (OpenSpec.ofChange fnExactSharedLeftSpec)

/-- ITS FALSE NEIGHBOUR: 'it returns false'. Refute it at one input. -/
def fnExactSharedLeftWrong : ChangeSpec := { name := "fnExactSharedLeft", fn := fun _ => fun
  | [d1, d2, d3] => { results := [.lit (.bool false)], args := [d1, d2, d3] }
  | _ => none }
def FnExactSharedLeftWrongFalsely : Prop := fnExactSharedLeftRow.holds Try.pinned (OpenSpec.ofChange fnExactSharedLeftWrong)

/-- 'laws.FnExactJobsNeeded': WHATEVER THE INPUT: true; the input reads as it did. -/
def fnExactJobsNeededSpec : ChangeSpec := { name := "fnExactJobsNeeded", fn := fun _ => fun
  | [d1, d2, d3, d4] => { results := [.lit (.bool true)], args := [d1, d2, d3, d4] }
  | _ => none }
def fnExactJobsNeededRow : OpenClaim := { program := "ytjkoibfkklhaiaa", sum := "e74c73d49211d93b454e8303528d71f5efbaa9a7668e559797a82b96996ceef7", func := "loop.example/g01183/laws.FnExactJobsNeeded", spec := "fnExactJobsNeeded", unfollowed := true, recurses := true, plainKeys := false, apart := false }
def FnExactJobsNeededSaid : Prop := fnExactJobsNeededRow.holds Try.pinned (OpenSpec.ofChange fnExactJobsNeededSpec)

/-- ITS FALSE NEIGHBOUR: 'it returns false'. Refute it at one input. -/
def fnExactJobsNeededWrong : ChangeSpec := { name := "fnExactJobsNeeded", fn := fun _ => fun
  | [d1, d2, d3, d4] => { results := [.lit (.bool false)], args := [d1, d2, d3, d4] }
  | _ => none }
def FnExactJobsNeededWrongFalsely : Prop := fnExactJobsNeededRow.holds Try.pinned (OpenSpec.ofChange fnExactJobsNeededWrong)

/-- 'laws.FnExactMadePlaces': WHATEVER THE INPUT: true; the input reads as it did. -/
def fnExactMadePlacesSpec : ChangeSpec := { name := "fnExactMadePlaces", fn := fun _ => fun
  | [d1, d2, d3, d4] => { results := [.lit (.bool true)], args := [d1, d2, d3, d4] }
  | _ => none }
def fnExactMadePlacesRow : OpenClaim := { program := "ytjkoibfkklhaiaa", sum := "e74c73d49211d93b454e8303528d71f5efbaa9a7668e559797a82b96996ceef7", func := "loop.example/g01183/laws.FnExactMadePlaces", spec := "fnExactMadePlaces", unfollowed := true, recurses := true, plainKeys := false, apart := false }
def FnExactMadePlacesSaid : Prop := fnExactMadePlacesRow.holds Try.pinned (OpenSpec.ofChange fnExactMadePlacesSpec)

/-- ITS FALSE NEIGHBOUR: 'it returns false'. Refute it at one input. -/
def fnExactMadePlacesWrong : ChangeSpec := { name := "fnExactMadePlaces", fn := fun _ => fun
  | [d1, d2, d3, d4] => { results := [.lit (.bool false)], args := [d1, d2, d3, d4] }
  | _ => none }
def FnExactMadePlacesWrongFalsely : Prop := fnExactMadePlacesRow.holds Try.pinned (OpenSpec.ofChange fnExactMadePlacesWrong)

/-- 'laws.FnExactNeverMade': WHATEVER THE INPUT: true; the input reads as it did. -/
def fnExactNeverMadeSpec : ChangeSpec := { name := "fnExactNeverMade", fn := fun _ => fun
  | [d1, d2, d3, d4, d5] => { results := [.lit (.bool true)], args := [d1, d2, d3, d4, d5] }
  | _ => none }
def fnExactNeverMadeRow : OpenClaim := { program := "ytjkoibfkklhaiaa", sum := "e74c73d49211d93b454e8303528d71f5efbaa9a7668e559797a82b96996ceef7", func := "loop.example/g01183/laws.FnExactNeverMade", spec := "fnExactNeverMade", unfollowed := true, recurses := true, plainKeys := false, apart := false }
def FnExactNeverMadeSaid : Prop := fnExactNeverMadeRow.holds Try.pinned (OpenSpec.ofChange fnExactNeverMadeSpec)

/-- ITS FALSE NEIGHBOUR: 'it returns false'. Refute it at one input. -/
def fnExactNeverMadeWrong : ChangeSpec := { name := "fnExactNeverMade", fn := fun _ => fun
  | [d1, d2, d3, d4, d5] => { results := [.lit (.bool false)], args := [d1, d2, d3, d4, d5] }
  | _ => none }
def FnExactNeverMadeWrongFalsely : Prop := fnExactNeverMadeRow.holds Try.pinned (OpenSpec.ofChange fnExactNeverMadeWrong)

/-- 'laws.FnExactCleanupFails': WHATEVER THE INPUT: true; the input reads as it did. -/
def fnExactCleanupFailsSpec : ChangeSpec := { name := "fnExactCleanupFails", fn := fun _ => fun
  | [d1, d2, d3, d4] => { results := [.lit (.bool true)], args := [d1, d2, d3, d4] }
  | _ => none }
def fnExactCleanupFailsRow : OpenClaim := { program := "ytjkoibfkklhaiaa", sum := "e74c73d49211d93b454e8303528d71f5efbaa9a7668e559797a82b96996ceef7", func := "loop.example/g01183/laws.FnExactCleanupFails", spec := "fnExactCleanupFails", unfollowed := true, recurses := true, plainKeys := false, apart := false }
def FnExactCleanupFailsSaid : Prop := fnExactCleanupFailsRow.holds Try.pinned (OpenSpec.ofChange fnExactCleanupFailsSpec)

/-- ITS FALSE NEIGHBOUR: 'it returns false'. Refute it at one input. -/
def fnExactCleanupFailsWrong : ChangeSpec := { name := "fnExactCleanupFails", fn := fun _ => fun
  | [d1, d2, d3, d4] => { results := [.lit (.bool false)], args := [d1, d2, d3, d4] }
  | _ => none }
def FnExactCleanupFailsWrongFalsely : Prop := fnExactCleanupFailsRow.holds Try.pinned (OpenSpec.ofChange fnExactCleanupFailsWrong)

/-- 'laws.FnExactErrorsOfRun': WHATEVER THE INPUT: true; the input reads as it did. -/
def fnExactErrorsOfRunSpec : ChangeSpec := { name := "fnExactErrorsOfRun", fn := fun _ => fun
  | [d1, d2, d3, d4] => { results := [.lit (.bool true)], args := [d1, d2, d3, d4] }
  | _ => none }
def fnExactErrorsOfRunRow : OpenClaim := { program := "ytjkoibfkklhaiaa", sum := "e74c73d49211d93b454e8303528d71f5efbaa9a7668e559797a82b96996ceef7", func := "loop.example/g01183/laws.FnExactErrorsOfRun", spec := "fnExactErrorsOfRun", unfollowed := true, recurses := true, plainKeys := false, apart := false }
def FnExactErrorsOfRunSaid : Prop := fnExactErrorsOfRunRow.holds Try.pinned (OpenSpec.ofChange fnExactErrorsOfRunSpec)

/-- ITS FALSE NEIGHBOUR: 'it returns false'. Refute it at one input. -/
def fnExactErrorsOfRunWrong : ChangeSpec := { name := "fnExactErrorsOfRun", fn := fun _ => fun
  | [d1, d2, d3, d4] => { results := [.lit (.bool false)], args := [d1, d2, d3, d4] }
  | _ => none }
def FnExactErrorsOfRunWrongFalsely : Prop := fnExactErrorsOfRunRow.holds Try.pinned (OpenSpec.ofChange fnExactErrorsOfRunWrong)

/-- 'laws.FnExactIsSession': WHATEVER THE INPUT: true; the input reads as it did. -/
def fnExactIsSessionSpec : ChangeSpec := { name := "fnExactIsSession", fn := fun _ => fun
  | [d1, d2] => { results := [.lit (.bool true)], args := [d1, d2] }
  | _ => none }
def fnExactIsSessionRow : OpenClaim := { program := "ytjkoibfkklhaiaa", sum := "e74c73d49211d93b454e8303528d71f5efbaa9a7668e559797a82b96996ceef7", func := "loop.example/g01183/laws.FnExactIsSession", spec := "fnExactIsSession", unfollowed := true, recurses := true, plainKeys := false, apart := false }
def FnExactIsSessionSaid : Prop := fnExactIsSessionRow.holds Try.pinned (OpenSpec.ofChange fnExactIsSessionSpec)

/-- ITS FALSE NEIGHBOUR: 'it returns false'. Refute it at one input. -/
def fnExactIsSessionWrong : ChangeSpec := { name := "fnExactIsSession", fn := fun _ => fun
  | [d1, d2] => { results := [.lit (.bool false)], args := [d1, d2] }
  | _ => none }
def FnExactIsSessionWrongFalsely : Prop := fnExactIsSessionRow.holds Try.pinned (OpenSpec.ofChange fnExactIsSessionWrong)

/- THE SECOND FORM. 'bulk': how many values and letters a reading holds, each counted each time it is reached (what is shared counts as often as it is met; a slice's spare places count too). A statement '..UptoSaid' is the law's where the arguments, and the package variables that the reading takes, are together of bulk at most 1048576: NARROWER than '..Said'. Prove '..Said' where nothing that the law and all that it calls make is longer than what came in: it says more and counts as full. Else prove '..UptoSaid'. A law counts once. -/
mutual
def uptoBulk {H : Type} : DataW H → Nat
  | .lit (.string bytes) => bytes.length + 1
  | .lit _ => 1
  | .nil => 1
  | .ptr d => uptoBulk d + 1
  | .slice elems spare => uptoBulkAll elems + uptoBulkAll spare + 1
  | .agg parts => uptoBulkAll parts + 1
  | .iface _ d => uptoBulk d + 1
  | .map entries => uptoBulkEntries entries + 1
  | .held _ => 1
def uptoBulkAll {H : Type} : List (DataW H) → Nat
  | [] => 0
  | d :: r => uptoBulk d + uptoBulkAll r
def uptoBulkEntries {H : Type} : List (Lit × DataW H) → Nat
  | [] => 0
  | x :: r => uptoBulkEntry x + uptoBulkEntries r
def uptoBulkEntry {H : Type} : Lit × DataW H → Nat
  | (.string bytes, d) => bytes.length + uptoBulk d + 1
  | (_, d) => uptoBulk d + 1
 end
def uptoSmall : (H : Type) → List (DataW H) → Bool := fun _ ds => decide (uptoBulkAll ds ≤ 1048576)
def OpenSpec.upto (s : _root_.Go.ChangeSpec) : _root_.Go.OpenSpec := { _root_.Go.OpenSpec.ofChange s with cond := some uptoSmall }

/-- 'laws.FnExactSessionSays', WHERE WHAT IT READS IS OF BULK AT MOST 1048576: true; the input reads as it did. -/
def fnExactSessionSaysUptoRow : OpenClaim := { program := "ytjkoibfkklhaiaa", sum := "e74c73d49211d93b454e8303528d71f5efbaa9a7668e559797a82b96996ceef7", func := "loop.example/g01183/laws.FnExactSessionSays", spec := "fnExactSessionSays", unfollowed := true, recurses := true, plainKeys := false, apart := false, narrowed := true }
def FnExactSessionSaysUptoSaid : Prop := fnExactSessionSaysUptoRow.holds Try.pinned (OpenSpec.upto fnExactSessionSaysSpec)

/-- 'laws.FnExactSessionKinds', WHERE WHAT IT READS IS OF BULK AT MOST 1048576: true; the input reads as it did. -/
def fnExactSessionKindsUptoRow : OpenClaim := { program := "ytjkoibfkklhaiaa", sum := "e74c73d49211d93b454e8303528d71f5efbaa9a7668e559797a82b96996ceef7", func := "loop.example/g01183/laws.FnExactSessionKinds", spec := "fnExactSessionKinds", unfollowed := true, recurses := true, plainKeys := false, apart := false, narrowed := true }
def FnExactSessionKindsUptoSaid : Prop := fnExactSessionKindsUptoRow.holds Try.pinned (OpenSpec.upto fnExactSessionKindsSpec)

/-- 'laws.FnExactSessionCode', WHERE WHAT IT READS IS OF BULK AT MOST 1048576: true; the input reads as it did. -/
def fnExactSessionCodeUptoRow : OpenClaim := { program := "ytjkoibfkklhaiaa", sum := "e74c73d49211d93b454e8303528d71f5efbaa9a7668e559797a82b96996ceef7", func := "loop.example/g01183/laws.FnExactSessionCode", spec := "fnExactSessionCode", unfollowed := true, recurses := true, plainKeys := false, apart := false, narrowed := true }
def FnExactSessionCodeUptoSaid : Prop := fnExactSessionCodeUptoRow.holds Try.pinned (OpenSpec.upto fnExactSessionCodeSpec)

/-- 'laws.FnExactSharedLeft', WHERE WHAT IT READS IS OF BULK AT MOST 1048576: true; the input reads as it did. -/
def fnExactSharedLeftUptoRow : OpenClaim := { program := "ytjkoibfkklhaiaa", sum := "e74c73d49211d93b454e8303528d71f5efbaa9a7668e559797a82b96996ceef7", func := "loop.example/g01183/laws.FnExactSharedLeft", spec := "fnExactSharedLeft", unfollowed := true, recurses := true, plainKeys := false, apart := false, narrowed := true }
def FnExactSharedLeftUptoSaid : Prop := fnExactSharedLeftUptoRow.holds Try.pinned (OpenSpec.upto fnExactSharedLeftSpec)

/-- 'laws.FnExactJobsNeeded', WHERE WHAT IT READS IS OF BULK AT MOST 1048576: true; the input reads as it did. -/
def fnExactJobsNeededUptoRow : OpenClaim := { program := "ytjkoibfkklhaiaa", sum := "e74c73d49211d93b454e8303528d71f5efbaa9a7668e559797a82b96996ceef7", func := "loop.example/g01183/laws.FnExactJobsNeeded", spec := "fnExactJobsNeeded", unfollowed := true, recurses := true, plainKeys := false, apart := false, narrowed := true }
def FnExactJobsNeededUptoSaid : Prop := fnExactJobsNeededUptoRow.holds Try.pinned (OpenSpec.upto fnExactJobsNeededSpec)

/-- 'laws.FnExactMadePlaces', WHERE WHAT IT READS IS OF BULK AT MOST 1048576: true; the input reads as it did. -/
def fnExactMadePlacesUptoRow : OpenClaim := { program := "ytjkoibfkklhaiaa", sum := "e74c73d49211d93b454e8303528d71f5efbaa9a7668e559797a82b96996ceef7", func := "loop.example/g01183/laws.FnExactMadePlaces", spec := "fnExactMadePlaces", unfollowed := true, recurses := true, plainKeys := false, apart := false, narrowed := true }
def FnExactMadePlacesUptoSaid : Prop := fnExactMadePlacesUptoRow.holds Try.pinned (OpenSpec.upto fnExactMadePlacesSpec)

/-- 'laws.FnExactNeverMade', WHERE WHAT IT READS IS OF BULK AT MOST 1048576: true; the input reads as it did. -/
def fnExactNeverMadeUptoRow : OpenClaim := { program := "ytjkoibfkklhaiaa", sum := "e74c73d49211d93b454e8303528d71f5efbaa9a7668e559797a82b96996ceef7", func := "loop.example/g01183/laws.FnExactNeverMade", spec := "fnExactNeverMade", unfollowed := true, recurses := true, plainKeys := false, apart := false, narrowed := true }
def FnExactNeverMadeUptoSaid : Prop := fnExactNeverMadeUptoRow.holds Try.pinned (OpenSpec.upto fnExactNeverMadeSpec)

/-- 'laws.FnExactCleanupFails', WHERE WHAT IT READS IS OF BULK AT MOST 1048576: true; the input reads as it did. -/
def fnExactCleanupFailsUptoRow : OpenClaim := { program := "ytjkoibfkklhaiaa", sum := "e74c73d49211d93b454e8303528d71f5efbaa9a7668e559797a82b96996ceef7", func := "loop.example/g01183/laws.FnExactCleanupFails", spec := "fnExactCleanupFails", unfollowed := true, recurses := true, plainKeys := false, apart := false, narrowed := true }
def FnExactCleanupFailsUptoSaid : Prop := fnExactCleanupFailsUptoRow.holds Try.pinned (OpenSpec.upto fnExactCleanupFailsSpec)

/-- 'laws.FnExactErrorsOfRun', WHERE WHAT IT READS IS OF BULK AT MOST 1048576: true; the input reads as it did. -/
def fnExactErrorsOfRunUptoRow : OpenClaim := { program := "ytjkoibfkklhaiaa", sum := "e74c73d49211d93b454e8303528d71f5efbaa9a7668e559797a82b96996ceef7", func := "loop.example/g01183/laws.FnExactErrorsOfRun", spec := "fnExactErrorsOfRun", unfollowed := true, recurses := true, plainKeys := false, apart := false, narrowed := true }
def FnExactErrorsOfRunUptoSaid : Prop := fnExactErrorsOfRunUptoRow.holds Try.pinned (OpenSpec.upto fnExactErrorsOfRunSpec)

/-- 'laws.FnExactIsSession', WHERE WHAT IT READS IS OF BULK AT MOST 1048576: true; the input reads as it did. -/
def fnExactIsSessionUptoRow : OpenClaim := { program := "ytjkoibfkklhaiaa", sum := "e74c73d49211d93b454e8303528d71f5efbaa9a7668e559797a82b96996ceef7", func := "loop.example/g01183/laws.FnExactIsSession", spec := "fnExactIsSession", unfollowed := true, recurses := true, plainKeys := false, apart := false, narrowed := true }
def FnExactIsSessionUptoSaid : Prop := fnExactIsSessionUptoRow.holds Try.pinned (OpenSpec.upto fnExactIsSessionSpec)

end Rows
end Go.Proofs.Ytjkoibfkklhaiaa

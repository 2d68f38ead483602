/-
  No cell of these rows narrows 'for every input' (looked for: loops, veiled, ifaces, maps, wideKeys, modest, calm, conditions, laid).
  DERIVED. THE GIVEN ROWS OF THIS SEAT. 12 by the template 'for every input the law returns true; each argument reads behind the call as it read before'; 0 by the template 'total and deterministic' (their statements: YtelnidlfeaihmaaTotals.lean).
  GIVEN WITH THE SEED: the statements are not yours to turn. If you find one false, say at which input.
  Laid BY PROGRAM, IN A SANDBOX (cutbox-rows.mjs): the forced cells as the released guide's own fill.sh prints them over the translation c56b1f2457164bf4… (all of the seat's roots in one cut). By AI agents, Wed Nov 11 2026. No macro, syntax, notation, axiom, sorry.
-/
import Derived.Test.YtelnidlfeaihmaaChecked
import GoSem.Claim
import GoSem.ClaimJoined
import GoSem.ClaimMapViews
import Derived.JoinedTies
import Derived.KernelRfl
namespace Go.Proofs.Ytelnidlfeaihmaa
/- THE CELL 'sum', in the pinned program and in every row, IS THE sha256 OF THE DUMP (.gsa) THAT YtelnidlfeaihmaaProg.lean LOADS. Nothing in Lean hashes anything: it is a label: what it is worth is what the hold of that sum in a sandbox is worth. -/
noncomputable def Try.pinned : Pinned := { name := "ytelnidlfeaihmaa", sum := "c56b1f2457164bf4be0e42a1956d8a652b5da8d4cefab90f169dfdafec19f16f", checked := Try.checked }
namespace Rows
def none {H : Type} : Left H := { results := [], args := [] }

/-- 'laws.FnExactIsPolicy': WHATEVER THE INPUT: true; the input reads as it did. -/
def fnExactIsPolicySpec : ChangeSpec := { name := "fnExactIsPolicy", fn := fun _ => fun
  | [d] => { results := [.lit (.bool true)], args := [d] }
  | _ => none }
def fnExactIsPolicyRow : OpenClaim := { program := "ytelnidlfeaihmaa", sum := "c56b1f2457164bf4be0e42a1956d8a652b5da8d4cefab90f169dfdafec19f16f", func := "loop.example/g01183/laws.FnExactIsPolicy", spec := "fnExactIsPolicy", apart := false }
def FnExactIsPolicySaid : Prop := fnExactIsPolicyRow.holds Try.pinned (OpenSpec.ofChange fnExactIsPolicySpec)

/-- ITS FALSE NEIGHBOUR: 'it returns false'. Refute it at one input. -/
def fnExactIsPolicyWrong : ChangeSpec := { name := "fnExactIsPolicy", fn := fun _ => fun
  | [d] => { results := [.lit (.bool false)], args := [d] }
  | _ => none }
def FnExactIsPolicyWrongFalsely : Prop := fnExactIsPolicyRow.holds Try.pinned (OpenSpec.ofChange fnExactIsPolicyWrong)

/-- 'laws.FnExactWaitsOf': WHATEVER THE INPUT: true; the input reads as it did. -/
def fnExactWaitsOfSpec : ChangeSpec := { name := "fnExactWaitsOf", fn := fun _ => fun
  | [d] => { results := [.lit (.bool true)], args := [d] }
  | _ => none }
def fnExactWaitsOfRow : OpenClaim := { program := "ytelnidlfeaihmaa", sum := "c56b1f2457164bf4be0e42a1956d8a652b5da8d4cefab90f169dfdafec19f16f", func := "loop.example/g01183/laws.FnExactWaitsOf", spec := "fnExactWaitsOf", apart := false }
def FnExactWaitsOfSaid : Prop := fnExactWaitsOfRow.holds Try.pinned (OpenSpec.ofChange fnExactWaitsOfSpec)

/-- ITS FALSE NEIGHBOUR: 'it returns false'. Refute it at one input. -/
def fnExactWaitsOfWrong : ChangeSpec := { name := "fnExactWaitsOf", fn := fun _ => fun
  | [d] => { results := [.lit (.bool false)], args := [d] }
  | _ => none }
def FnExactWaitsOfWrongFalsely : Prop := fnExactWaitsOfRow.holds Try.pinned (OpenSpec.ofChange fnExactWaitsOfWrong)

/-- 'laws.FnExactIsTrace': WHATEVER THE INPUT: true; the input reads as it did. -/
def fnExactIsTraceSpec : ChangeSpec := { name := "fnExactIsTrace", fn := fun _ => fun
  | [d] => { results := [.lit (.bool true)], args := [d] }
  | _ => none }
def fnExactIsTraceRow : OpenClaim := { program := "ytelnidlfeaihmaa", sum := "c56b1f2457164bf4be0e42a1956d8a652b5da8d4cefab90f169dfdafec19f16f", func := "loop.example/g01183/laws.FnExactIsTrace", spec := "fnExactIsTrace", apart := false }
def FnExactIsTraceSaid : Prop := fnExactIsTraceRow.holds Try.pinned (OpenSpec.ofChange fnExactIsTraceSpec)

/-- ITS FALSE NEIGHBOUR: 'it returns false'. Refute it at one input. -/
def fnExactIsTraceWrong : ChangeSpec := { name := "fnExactIsTrace", fn := fun _ => fun
  | [d] => { results := [.lit (.bool false)], args := [d] }
  | _ => none }
def FnExactIsTraceWrongFalsely : Prop := fnExactIsTraceRow.holds Try.pinned (OpenSpec.ofChange fnExactIsTraceWrong)

/-- 'laws.FnExactCleanupProgram': WHATEVER THE INPUT: true; the input reads as it did. -/
def fnExactCleanupProgramSpec : ChangeSpec := { name := "fnExactCleanupProgram", fn := fun _ => fun
  | [d1, d2] => { results := [.lit (.bool true)], args := [d1, d2] }
  | _ => none }
def fnExactCleanupProgramRow : OpenClaim := { program := "ytelnidlfeaihmaa", sum := "c56b1f2457164bf4be0e42a1956d8a652b5da8d4cefab90f169dfdafec19f16f", func := "loop.example/g01183/laws.FnExactCleanupProgram", spec := "fnExactCleanupProgram", apart := false }
def FnExactCleanupProgramSaid : Prop := fnExactCleanupProgramRow.holds Try.pinned (OpenSpec.ofChange fnExactCleanupProgramSpec)

/-- ITS FALSE NEIGHBOUR: 'it returns false'. Refute it at one input. -/
def fnExactCleanupProgramWrong : ChangeSpec := { name := "fnExactCleanupProgram", fn := fun _ => fun
  | [d1, d2] => { results := [.lit (.bool false)], args := [d1, d2] }
  | _ => none }
def FnExactCleanupProgramWrongFalsely : Prop := fnExactCleanupProgramRow.holds Try.pinned (OpenSpec.ofChange fnExactCleanupProgramWrong)

/-- 'laws.FnExactSpansOf': WHATEVER THE INPUT: true; the input reads as it did. -/
def fnExactSpansOfSpec : ChangeSpec := { name := "fnExactSpansOf", fn := fun _ => fun
  | [d] => { results := [.lit (.bool true)], args := [d] }
  | _ => none }
def fnExactSpansOfRow : OpenClaim := { program := "ytelnidlfeaihmaa", sum := "c56b1f2457164bf4be0e42a1956d8a652b5da8d4cefab90f169dfdafec19f16f", func := "loop.example/g01183/laws.FnExactSpansOf", spec := "fnExactSpansOf", unfollowed := true, recurses := true, apart := false }
def FnExactSpansOfSaid : Prop := fnExactSpansOfRow.holds Try.pinned (OpenSpec.ofChange fnExactSpansOfSpec)

/-- ITS FALSE NEIGHBOUR: 'it returns false'. Refute it at one input. -/
def fnExactSpansOfWrong : ChangeSpec := { name := "fnExactSpansOf", fn := fun _ => fun
  | [d] => { results := [.lit (.bool false)], args := [d] }
  | _ => none }
def FnExactSpansOfWrongFalsely : Prop := fnExactSpansOfRow.holds Try.pinned (OpenSpec.ofChange fnExactSpansOfWrong)

/-- 'laws.FnExactIsValidRecord': WHATEVER THE INPUT: true; the input reads as it did. -/
def fnExactIsValidRecordSpec : ChangeSpec := { name := "fnExactIsValidRecord", fn := fun _ => fun
  | [d] => { results := [.lit (.bool true)], args := [d] }
  | _ => none }
def fnExactIsValidRecordRow : OpenClaim := { program := "ytelnidlfeaihmaa", sum := "c56b1f2457164bf4be0e42a1956d8a652b5da8d4cefab90f169dfdafec19f16f", func := "loop.example/g01183/laws.FnExactIsValidRecord", spec := "fnExactIsValidRecord", inPlace := ["internal/bytealg.IndexByteString", "internal/bytealg.IndexString"], named := ["internal/bytealg.MaxLen"], apart := false }
def FnExactIsValidRecordSaid : Prop := fnExactIsValidRecordRow.holds Try.pinned (OpenSpec.ofChange fnExactIsValidRecordSpec)

/-- ITS FALSE NEIGHBOUR: 'it returns false'. Refute it at one input. -/
def fnExactIsValidRecordWrong : ChangeSpec := { name := "fnExactIsValidRecord", fn := fun _ => fun
  | [d] => { results := [.lit (.bool false)], args := [d] }
  | _ => none }
def FnExactIsValidRecordWrongFalsely : Prop := fnExactIsValidRecordRow.holds Try.pinned (OpenSpec.ofChange fnExactIsValidRecordWrong)

/-- 'laws.FnExactMostOpen': WHATEVER THE INPUT: true; the input reads as it did. -/
def fnExactMostOpenSpec : ChangeSpec := { name := "fnExactMostOpen", fn := fun _ => fun
  | [d] => { results := [.lit (.bool true)], args := [d] }
  | _ => none }
def fnExactMostOpenRow : OpenClaim := { program := "ytelnidlfeaihmaa", sum := "c56b1f2457164bf4be0e42a1956d8a652b5da8d4cefab90f169dfdafec19f16f", func := "loop.example/g01183/laws.FnExactMostOpen", spec := "fnExactMostOpen", unfollowed := true, recurses := true, apart := false }
def FnExactMostOpenSaid : Prop := fnExactMostOpenRow.holds Try.pinned (OpenSpec.ofChange fnExactMostOpenSpec)

/-- ITS FALSE NEIGHBOUR: 'it returns false'. Refute it at one input. -/
def fnExactMostOpenWrong : ChangeSpec := { name := "fnExactMostOpen", fn := fun _ => fun
  | [d] => { results := [.lit (.bool false)], args := [d] }
  | _ => none }
def FnExactMostOpenWrongFalsely : Prop := fnExactMostOpenRow.holds Try.pinned (OpenSpec.ofChange fnExactMostOpenWrong)

/-- 'laws.FnExactIsTidy': WHATEVER THE INPUT: true; the input reads as it did. -/
def fnExactIsTidySpec : ChangeSpec := { name := "fnExactIsTidy", fn := fun _ => fun
  | [d] => { results := [.lit (.bool true)], args := [d] }
  | _ => none }
def fnExactIsTidyRow : OpenClaim := { program := "ytelnidlfeaihmaa", sum := "c56b1f2457164bf4be0e42a1956d8a652b5da8d4cefab90f169dfdafec19f16f", func := "loop.example/g01183/laws.FnExactIsTidy", spec := "fnExactIsTidy", unfollowed := true, recurses := true, apart := false }
def FnExactIsTidySaid : Prop := fnExactIsTidyRow.holds Try.pinned (OpenSpec.ofChange fnExactIsTidySpec)

/-- ITS FALSE NEIGHBOUR: 'it returns false'. Refute it at one input. -/
def fnExactIsTidyWrong : ChangeSpec := { name := "fnExactIsTidy", fn := fun _ => fun
  | [d] => { results := [.lit (.bool false)], args := [d] }
  | _ => none }
def FnExactIsTidyWrongFalsely : Prop := fnExactIsTidyRow.holds Try.pinned (OpenSpec.ofChange fnExactIsTidyWrong)

/-- 'laws.FnExactFaultsOf': WHATEVER THE INPUT: true; the input reads as it did. -/
def fnExactFaultsOfSpec : ChangeSpec := { name := "fnExactFaultsOf", fn := fun _ => fun
  | [d] => { results := [.lit (.bool true)], args := [d] }
  | _ => none }
def fnExactFaultsOfRow : OpenClaim := { program := "ytelnidlfeaihmaa", sum := "c56b1f2457164bf4be0e42a1956d8a652b5da8d4cefab90f169dfdafec19f16f", func := "loop.example/g01183/laws.FnExactFaultsOf", spec := "fnExactFaultsOf", unfollowed := true, recurses := true, apart := false }
def FnExactFaultsOfSaid : Prop := fnExactFaultsOfRow.holds Try.pinned (OpenSpec.ofChange fnExactFaultsOfSpec)

/-- ITS FALSE NEIGHBOUR: 'it returns false'. Refute it at one input. -/
def fnExactFaultsOfWrong : ChangeSpec := { name := "fnExactFaultsOf", fn := fun _ => fun
  | [d] => { results := [.lit (.bool false)], args := [d] }
  | _ => none }
def FnExactFaultsOfWrongFalsely : Prop := fnExactFaultsOfRow.holds Try.pinned (OpenSpec.ofChange fnExactFaultsOfWrong)

/-- 'laws.FnExactOpenAtEnd': WHATEVER THE INPUT: true; the input reads as it did. -/
def fnExactOpenAtEndSpec : ChangeSpec := { name := "fnExactOpenAtEnd", fn := fun _ => fun
  | [d] => { results := [.lit (.bool true)], args := [d] }
  | _ => none }
def fnExactOpenAtEndRow : OpenClaim := { program := "ytelnidlfeaihmaa", sum := "c56b1f2457164bf4be0e42a1956d8a652b5da8d4cefab90f169dfdafec19f16f", func := "loop.example/g01183/laws.FnExactOpenAtEnd", spec := "fnExactOpenAtEnd", unfollowed := true, recurses := true, apart := false }
def FnExactOpenAtEndSaid : Prop := fnExactOpenAtEndRow.holds Try.pinned (OpenSpec.ofChange fnExactOpenAtEndSpec)

/-- ITS FALSE NEIGHBOUR: 'it returns false'. Refute it at one input. -/
def fnExactOpenAtEndWrong : ChangeSpec := { name := "fnExactOpenAtEnd", fn := fun _ => fun
  | [d] => { results := [.lit (.bool false)], args := [d] }
  | _ => none }
def FnExactOpenAtEndWrongFalsely : Prop := fnExactOpenAtEndRow.holds Try.pinned (OpenSpec.ofChange fnExactOpenAtEndWrong)

/-- 'laws.FnExactIsNested': WHATEVER THE INPUT: true; the input reads as it did. -/
def fnExactIsNestedSpec : ChangeSpec := { name := "fnExactIsNested", fn := fun _ => fun
  | [d] => { results := [.lit (.bool true)], args := [d] }
  | _ => none }
def fnExactIsNestedRow : OpenClaim := { program := "ytelnidlfeaihmaa", sum := "c56b1f2457164bf4be0e42a1956d8a652b5da8d4cefab90f169dfdafec19f16f", func := "loop.example/g01183/laws.FnExactIsNested", spec := "fnExactIsNested", unfollowed := true, recurses := true, apart := false }
def FnExactIsNestedSaid : Prop := fnExactIsNestedRow.holds Try.pinned (OpenSpec.ofChange fnExactIsNestedSpec)

/-- ITS FALSE NEIGHBOUR: 'it returns false'. Refute it at one input. -/
def fnExactIsNestedWrong : ChangeSpec := { name := "fnExactIsNested", fn := fun _ => fun
  | [d] => { results := [.lit (.bool false)], args := [d] }
  | _ => none }
def FnExactIsNestedWrongFalsely : Prop := fnExactIsNestedRow.holds Try.pinned (OpenSpec.ofChange fnExactIsNestedWrong)

/-- 'laws.FnExactMendEntries': WHATEVER THE INPUT: true; the input reads as it did. -/
def fnExactMendEntriesSpec : ChangeSpec := { name := "fnExactMendEntries", fn := fun _ => fun
  | [d] => { results := [.lit (.bool true)], args := [d] }
  | _ => none }
def fnExactMendEntriesRow : OpenClaim := { program := "ytelnidlfeaihmaa", sum := "c56b1f2457164bf4be0e42a1956d8a652b5da8d4cefab90f169dfdafec19f16f", func := "loop.example/g01183/laws.FnExactMendEntries", spec := "fnExactMendEntries", unfollowed := true, recurses := true, apart := false }
def FnExactMendEntriesSaid : Prop := fnExactMendEntriesRow.holds Try.pinned (OpenSpec.ofChange fnExactMendEntriesSpec)

/-- ITS FALSE NEIGHBOUR: 'it returns false'. Refute it at one input. -/
def fnExactMendEntriesWrong : ChangeSpec := { name := "fnExactMendEntries", fn := fun _ => fun
  | [d] => { results := [.lit (.bool false)], args := [d] }
  | _ => none }
def FnExactMendEntriesWrongFalsely : Prop := fnExactMendEntriesRow.holds Try.pinned (OpenSpec.ofChange fnExactMendEntriesWrong)

/- THE SECOND FORM. 'bulk': how many values and letters a reading holds, each counted each time it is reached (what is shared counts as often as it is met; a slice's spare places count too). A statement '..UptoSaid' is the law's where the arguments, and the package variables that the reading takes, are together of bulk at most 1048576: NARROWER than '..Said'. Prove '..Said' where nothing that the law and all that it calls make is longer than what came in: it says more and counts as full. Else prove '..UptoSaid'. A law counts once. -/
mutual
def uptoBulk {H : Type} : DataW H → Nat
  | .lit (.string bytes) => bytes.length + 1
  | .lit _ => 1
  | .nil => 1
  | .ptr d => uptoBulk d + 1
  | .slice elems spare => uptoBulkAll elems + uptoBulkAll spare + 1
  | .agg parts => uptoBulkAll parts + 1
  | .iface _ d => uptoBulk d + 1
  | .map entries => uptoBulkEntries entries + 1
  | .held _ => 1
def uptoBulkAll {H : Type} : List (DataW H) → Nat
  | [] => 0
  | d :: r => uptoBulk d + uptoBulkAll r
def uptoBulkEntries {H : Type} : List (Lit × DataW H) → Nat
  | [] => 0
  | x :: r => uptoBulkEntry x + uptoBulkEntries r
def uptoBulkEntry {H : Type} : Lit × DataW H → Nat
  | (.string bytes, d) => bytes.length + uptoBulk d + 1
  | (_, d) => uptoBulk d + 1
 end
def uptoSmall : (H : Type) → List (DataW H) → Bool := fun _ ds => decide (uptoBulkAll ds ≤ 1048576)
def OpenSpec.upto (s : _root_.Go.ChangeSpec) : _root_.Go.OpenSpec := { _root_.Go.OpenSpec.ofChange s with cond := some uptoSmall }

/-- 'laws.FnExactIsPolicy', WHERE WHAT IT READS IS OF BULK AT MOST 1048576: true; the input reads as it did. -/
def fnExactIsPolicyUptoRow : OpenClaim := { program := "ytelnidlfeaihmaa", sum := "c56b1f2457164bf4be0e42a1956d8a652b5da8d4cefab90f169dfdafec19f16f", func := "loop.example/g01183/laws.FnExactIsPolicy", spec := "fnExactIsPolicy", apart := false, narrowed := true }
def FnExactIsPolicyUptoSaid : Prop := fnExactIsPolicyUptoRow.holds Try.pinned (OpenSpec.upto fnExactIsPolicySpec)

/-- 'laws.FnExactWaitsOf', WHERE WHAT IT READS IS OF BULK AT MOST 1048576: true; the input reads as it did. -/
def fnExactWaitsOfUptoRow : OpenClaim := { program := "ytelnidlfeaihmaa", sum := "c56b1f2457164bf4be0e42a1956d8a652b5da8d4cefab90f169dfdafec19f16f", func := "loop.example/g01183/laws.FnExactWaitsOf", spec := "fnExactWaitsOf", apart := false, narrowed := true }
def FnExactWaitsOfUptoSaid : Prop := fnExactWaitsOfUptoRow.holds Try.pinned (OpenSpec.upto fnExactWaitsOfSpec)

/-- 'laws.FnExactIsTrace', WHERE WHAT IT READS IS OF BULK AT MOST 1048576: true; the input reads as it did. -/
def fnExactIsTraceUptoRow : OpenClaim := { program := "ytelnidlfeaihmaa", sum := "c56b1f2457164bf4be0e42a1956d8a652b5da8d4cefab90f169dfdafec19f16f", func := "loop.example/g01183/laws.FnExactIsTrace", spec := "fnExactIsTrace", apart := false, narrowed := true }
def FnExactIsTraceUptoSaid : Prop := fnExactIsTraceUptoRow.holds Try.pinned (OpenSpec.upto fnExactIsTraceSpec)

/-- 'laws.FnExactCleanupProgram', WHERE WHAT IT READS IS OF BULK AT MOST 1048576: true; the input reads as it did. -/
def fnExactCleanupProgramUptoRow : OpenClaim := { program := "ytelnidlfeaihmaa", sum := "c56b1f2457164bf4be0e42a1956d8a652b5da8d4cefab90f169dfdafec19f16f", func := "loop.example/g01183/laws.FnExactCleanupProgram", spec := "fnExactCleanupProgram", apart := false, narrowed := true }
def FnExactCleanupProgramUptoSaid : Prop := fnExactCleanupProgramUptoRow.holds Try.pinned (OpenSpec.upto fnExactCleanupProgramSpec)

/-- 'laws.FnExactSpansOf', WHERE WHAT IT READS IS OF BULK AT MOST 1048576: true; the input reads as it did. -/
def fnExactSpansOfUptoRow : OpenClaim := { program := "ytelnidlfeaihmaa", sum := "c56b1f2457164bf4be0e42a1956d8a652b5da8d4cefab90f169dfdafec19f16f", func := "loop.example/g01183/laws.FnExactSpansOf", spec := "fnExactSpansOf", unfollowed := true, recurses := true, apart := false, narrowed := true }
def FnExactSpansOfUptoSaid : Prop := fnExactSpansOfUptoRow.holds Try.pinned (OpenSpec.upto fnExactSpansOfSpec)

/-- 'laws.FnExactIsValidRecord', WHERE WHAT IT READS IS OF BULK AT MOST 1048576: true; the input reads as it did. -/
def fnExactIsValidRecordUptoRow : OpenClaim := { program := "ytelnidlfeaihmaa", sum := "c56b1f2457164bf4be0e42a1956d8a652b5da8d4cefab90f169dfdafec19f16f", func := "loop.example/g01183/laws.FnExactIsValidRecord", spec := "fnExactIsValidRecord", inPlace := ["internal/bytealg.IndexByteString", "internal/bytealg.IndexString"], named := ["internal/bytealg.MaxLen"], apart := false, narrowed := true }
def FnExactIsValidRecordUptoSaid : Prop := fnExactIsValidRecordUptoRow.holds Try.pinned (OpenSpec.upto fnExactIsValidRecordSpec)

/-- 'laws.FnExactMostOpen', WHERE WHAT IT READS IS OF BULK AT MOST 1048576: true; the input reads as it did. -/
def fnExactMostOpenUptoRow : OpenClaim := { program := "ytelnidlfeaihmaa", sum := "c56b1f2457164bf4be0e42a1956d8a652b5da8d4cefab90f169dfdafec19f16f", func := "loop.example/g01183/laws.FnExactMostOpen", spec := "fnExactMostOpen", unfollowed := true, recurses := true, apart := false, narrowed := true }
def FnExactMostOpenUptoSaid : Prop := fnExactMostOpenUptoRow.holds Try.pinned (OpenSpec.upto fnExactMostOpenSpec)

/-- 'laws.FnExactIsTidy', WHERE WHAT IT READS IS OF BULK AT MOST 1048576: true; the input reads as it did. -/
def fnExactIsTidyUptoRow : OpenClaim := { program := "ytelnidlfeaihmaa", sum := "c56b1f2457164bf4be0e42a1956d8a652b5da8d4cefab90f169dfdafec19f16f", func := "loop.example/g01183/laws.FnExactIsTidy", spec := "fnExactIsTidy", unfollowed := true, recurses := true, apart := false, narrowed := true }
def FnExactIsTidyUptoSaid : Prop := fnExactIsTidyUptoRow.holds Try.pinned (OpenSpec.upto fnExactIsTidySpec)

/-- 'laws.FnExactFaultsOf', WHERE WHAT IT READS IS OF BULK AT MOST 1048576: true; the input reads as it did. -/
def fnExactFaultsOfUptoRow : OpenClaim := { program := "ytelnidlfeaihmaa", sum := "c56b1f2457164bf4be0e42a1956d8a652b5da8d4cefab90f169dfdafec19f16f", func := "loop.example/g01183/laws.FnExactFaultsOf", spec := "fnExactFaultsOf", unfollowed := true, recurses := true, apart := false, narrowed := true }
def FnExactFaultsOfUptoSaid : Prop := fnExactFaultsOfUptoRow.holds Try.pinned (OpenSpec.upto fnExactFaultsOfSpec)

/-- 'laws.FnExactOpenAtEnd', WHERE WHAT IT READS IS OF BULK AT MOST 1048576: true; the input reads as it did. -/
def fnExactOpenAtEndUptoRow : OpenClaim := { program := "ytelnidlfeaihmaa", sum := "c56b1f2457164bf4be0e42a1956d8a652b5da8d4cefab90f169dfdafec19f16f", func := "loop.example/g01183/laws.FnExactOpenAtEnd", spec := "fnExactOpenAtEnd", unfollowed := true, recurses := true, apart := false, narrowed := true }
def FnExactOpenAtEndUptoSaid : Prop := fnExactOpenAtEndUptoRow.holds Try.pinned (OpenSpec.upto fnExactOpenAtEndSpec)

/-- 'laws.FnExactIsNested', WHERE WHAT IT READS IS OF BULK AT MOST 1048576: true; the input reads as it did. -/
def fnExactIsNestedUptoRow : OpenClaim := { program := "ytelnidlfeaihmaa", sum := "c56b1f2457164bf4be0e42a1956d8a652b5da8d4cefab90f169dfdafec19f16f", func := "loop.example/g01183/laws.FnExactIsNested", spec := "fnExactIsNested", unfollowed := true, recurses := true, apart := false, narrowed := true }
def FnExactIsNestedUptoSaid : Prop := fnExactIsNestedUptoRow.holds Try.pinned (OpenSpec.upto fnExactIsNestedSpec)

/-- 'laws.FnExactMendEntries', WHERE WHAT IT READS IS OF BULK AT MOST 1048576: true; the input reads as it did. -/
def fnExactMendEntriesUptoRow : OpenClaim := { program := "ytelnidlfeaihmaa", sum := "c56b1f2457164bf4be0e42a1956d8a652b5da8d4cefab90f169dfdafec19f16f", func := "loop.example/g01183/laws.FnExactMendEntries", spec := "fnExactMendEntries", unfollowed := true, recurses := true, apart := false, narrowed := true }
def FnExactMendEntriesUptoSaid : Prop := fnExactMendEntriesUptoRow.holds Try.pinned (OpenSpec.upto fnExactMendEntriesSpec)

end Rows
end Go.Proofs.Ytelnidlfeaihmaa

/-
  No cell of these rows narrows 'for every input' (looked for: loops, veiled, ifaces, maps, wideKeys, modest, calm, conditions, laid).
  DERIVED. THE GIVEN ROWS OF THIS SEAT. 4 by the template 'for every input the law returns true; each argument reads behind the call as it read before'; 0 by the template 'total and deterministic' (their statements: YtcbijhgepdedpaaTotals.lean).
  GIVEN WITH THE SEED: the statements are not yours to turn. If you find one false, say at which input.
  Laid BY PROGRAM, IN A SANDBOX (cutbox-rows.mjs): the forced cells as the released guide's own fill.sh prints them over the translation d338a3af1f25c2fd… (all of the seat's roots in one cut). By AI agents, Wed Nov 11 2026. No macro, syntax, notation, axiom, sorry.
-/
import Derived.Test.YtcbijhgepdedpaaChecked
import GoSem.Claim
import GoSem.ClaimJoined
import GoSem.ClaimMapViews
import Derived.JoinedTies
import Derived.KernelRfl
namespace Go.Proofs.Ytcbijhgepdedpaa
/- THE CELL 'sum', in the pinned program and in every row, IS THE sha256 OF THE DUMP (.gsa) THAT YtcbijhgepdedpaaProg.lean LOADS. Nothing in Lean hashes anything: it is a label: what it is worth is what the hold of that sum in a sandbox is worth. -/
noncomputable def Try.pinned : Pinned := { name := "ytcbijhgepdedpaa", sum := "d338a3af1f25c2fdec2a4a510aae60d9140f47efb9f4a314a3927f984dc88da0", checked := Try.checked }
namespace Rows
def none {H : Type} : Left H := { results := [], args := [] }

/-- 'laws.FnExactIsTrace': WHATEVER THE INPUT: true; the input reads as it did. -/
def fnExactIsTraceSpec : ChangeSpec := { name := "fnExactIsTrace", fn := fun _ => fun
  | [d] => { results := [.lit (.bool true)], args := [d] }
  | _ => none }
def fnExactIsTraceRow : OpenClaim := { program := "ytcbijhgepdedpaa", sum := "d338a3af1f25c2fdec2a4a510aae60d9140f47efb9f4a314a3927f984dc88da0", func := "loop.example/g01183/laws.FnExactIsTrace", spec := "fnExactIsTrace", plainKeys := false, apart := false }
def FnExactIsTraceSaid : Prop := fnExactIsTraceRow.holds Try.pinned (OpenSpec.ofChange fnExactIsTraceSpec)

/-- ITS FALSE NEIGHBOUR: 'it returns false'. Refute it at one input. -/
def fnExactIsTraceWrong : ChangeSpec := { name := "fnExactIsTrace", fn := fun _ => fun
  | [d] => { results := [.lit (.bool false)], args := [d] }
  | _ => none }
def FnExactIsTraceWrongFalsely : Prop := fnExactIsTraceRow.holds Try.pinned (OpenSpec.ofChange fnExactIsTraceWrong)

/-- 'laws.FnExactErrorsOfRun': WHATEVER THE INPUT: true; the input reads as it did. -/
def fnExactErrorsOfRunSpec : ChangeSpec := { name := "fnExactErrorsOfRun", fn := fun _ => fun
  | [d1, d2, d3, d4] => { results := [.lit (.bool true)], args := [d1, d2, d3, d4] }
  | _ => none }
def fnExactErrorsOfRunRow : OpenClaim := { program := "ytcbijhgepdedpaa", sum := "d338a3af1f25c2fdec2a4a510aae60d9140f47efb9f4a314a3927f984dc88da0", func := "loop.example/g01183/laws.FnExactErrorsOfRun", spec := "fnExactErrorsOfRun", unfollowed := true, recurses := true, plainKeys := false, apart := false }
def FnExactErrorsOfRunSaid : Prop := fnExactErrorsOfRunRow.holds Try.pinned (OpenSpec.ofChange fnExactErrorsOfRunSpec)

/-- ITS FALSE NEIGHBOUR: 'it returns false'. Refute it at one input. -/
def fnExactErrorsOfRunWrong : ChangeSpec := { name := "fnExactErrorsOfRun", fn := fun _ => fun
  | [d1, d2, d3, d4] => { results := [.lit (.bool false)], args := [d1, d2, d3, d4] }
  | _ => none }
def FnExactErrorsOfRunWrongFalsely : Prop := fnExactErrorsOfRunRow.holds Try.pinned (OpenSpec.ofChange fnExactErrorsOfRunWrong)

/-- 'laws.FnExactCodeOf': WHATEVER THE INPUT: true; the input reads as it did. -/
def fnExactCodeOfSpec : ChangeSpec := { name := "fnExactCodeOf", fn := fun _ => fun
  | [d1, d2, d3, d4] => { results := [.lit (.bool true)], args := [d1, d2, d3, d4] }
  | _ => none }
def fnExactCodeOfRow : OpenClaim := { program := "ytcbijhgepdedpaa", sum := "d338a3af1f25c2fdec2a4a510aae60d9140f47efb9f4a314a3927f984dc88da0", func := "loop.example/g01183/laws.FnExactCodeOf", spec := "fnExactCodeOf", unfollowed := true, recurses := true, plainKeys := false, apart := false }
def FnExactCodeOfSaid : Prop := fnExactCodeOfRow.holds Try.pinned (OpenSpec.ofChange fnExactCodeOfSpec)

/-- ITS FALSE NEIGHBOUR: 'it returns false'. Refute it at one input. -/
def fnExactCodeOfWrong : ChangeSpec := { name := "fnExactCodeOf", fn := fun _ => fun
  | [d1, d2, d3, d4] => { results := [.lit (.bool false)], args := [d1, d2, d3, d4] }
  | _ => none }
def FnExactCodeOfWrongFalsely : Prop := fnExactCodeOfRow.holds Try.pinned (OpenSpec.ofChange fnExactCodeOfWrong)

/-- 'laws.FnExactLeadsTo': WHATEVER THE INPUT: true; the input reads as it did. -/
def fnExactLeadsToSpec : ChangeSpec := { name := "fnExactLeadsTo", fn := fun _ => fun
  | [d1, d2, d3] => { results := [.lit (.bool true)], args := [d1, d2, d3] }
  | _ => none }
def fnExactLeadsToRow : OpenClaim := { program := "ytcbijhgepdedpaa", sum := "d338a3af1f25c2fdec2a4a510aae60d9140f47efb9f4a314a3927f984dc88da0", func := "loop.example/g01183/laws.FnExactLeadsTo", spec := "fnExactLeadsTo", unfollowed := true, recurses := true, plainKeys := false, apart := false }
def FnExactLeadsToSaid : Prop := fnExactLeadsToRow.holds Try.pinned (OpenSpec.ofChange fnExactLeadsToSpec)

/-- ITS FALSE NEIGHBOUR: 'it returns false'. Refute it at one input. -/
def fnExactLeadsToWrong : ChangeSpec := { name := "fnExactLeadsTo", fn := fun _ => fun
  | [d1, d2, d3] => { results := [.lit (.bool false)], args := [d1, d2, d3] }
  | _ => none }
def FnExactLeadsToWrongFalsely : Prop := fnExactLeadsToRow.holds Try.pinned (OpenSpec.ofChange fnExactLeadsToWrong)

/- THE SECOND FORM. 'bulk': how many values and letters a reading holds, each counted each time it is reached (what is shared counts as often as it is met; a slice's spare places count too). A statement '..UptoSaid' is the law's where the arguments, and the package variables that the reading takes, are together of bulk at most 1048576: NARROWER than '..Said'. Prove '..Said' where nothing that the law and all that it calls make is longer than what came in: it says more and counts as full. Else prove '..UptoSaid'. A law counts once. -/
mutual
def uptoBulk {H : Type} : DataW H → Nat
  | .lit (.string bytes) => bytes.length + 1
  | .lit _ => 1
  | .nil => 1
  | .ptr d => uptoBulk d + 1
  | .slice elems spare => uptoBulkAll elems + uptoBulkAll spare + 1
  | .agg parts => uptoBulkAll parts + 1
  | .iface _ d => uptoBulk d + 1
  | .map entries => uptoBulkEntries entries + 1
  | .held _ => 1
def uptoBulkAll {H : Type} : List (DataW H) → Nat
  | [] => 0
  | d :: r => uptoBulk d + uptoBulkAll r
def uptoBulkEntries {H : Type} : List (Lit × DataW H) → Nat
  | [] => 0
  | x :: r => uptoBulkEntry x + uptoBulkEntries r
def uptoBulkEntry {H : Type} : Lit × DataW H → Nat
  | (.string bytes, d) => bytes.length + uptoBulk d + 1
  | (_, d) => uptoBulk d + 1
 end
def uptoSmall : (H : Type) → List (DataW H) → Bool := fun _ ds => decide (uptoBulkAll ds ≤ 1048576)
def OpenSpec.upto (s : _root_.Go.ChangeSpec) : _root_.Go.OpenSpec := { _root_.Go.OpenSpec.ofChange s with cond := some uptoSmall }

/-- 'laws.FnExactIsTrace', WHERE WHAT IT READS IS OF BULK AT MOST 1048576: true; the input reads as it did. -/
def fnExactIsTraceUptoRow : OpenClaim := { program := "ytcbijhgepdedpaa", sum := "d338a3af1f25c2fdec2a4a510aae60d9140f47efb9f4a314a3927f984dc88da0", func := "loop.example/g01183/laws.FnExactIsTrace", spec := "fnExactIsTrace", plainKeys := false, apart := false, narrowed := true }
def FnExactIsTraceUptoSaid : Prop := fnExactIsTraceUptoRow.holds Try.pinned (OpenSpec.upto fnExactIsTraceSpec)

/-- 'laws.FnExactErrorsOfRun', WHERE WHAT IT READS IS OF BULK AT MOST 1048576: true; the input reads as it did. -/
def fnExactErrorsOfRunUptoRow : OpenClaim := { program := "ytcbijhgepdedpaa", sum := "d338a3af1f25c2fdec2a4a510aae60d9140f47efb9f4a314a3927f984dc88da0", func := "loop.example/g01183/laws.FnExactErrorsOfRun", spec := "fnExactErrorsOfRun", unfollowed := true, recurses := true, plainKeys := false, apart := false, narrowed := true }
def FnExactErrorsOfRunUptoSaid : Prop := fnExactErrorsOfRunUptoRow.holds Try.pinned (OpenSpec.upto fnExactErrorsOfRunSpec)

/-- 'laws.FnExactCodeOf', WHERE WHAT IT READS IS OF BULK AT MOST 1048576: true; the input reads as it did. -/
def fnExactCodeOfUptoRow : OpenClaim := { program := "ytcbijhgepdedpaa", sum := "d338a3af1f25c2fdec2a4a510aae60d9140f47efb9f4a314a3927f984dc88da0", func := "loop.example/g01183/laws.FnExactCodeOf", spec := "fnExactCodeOf", unfollowed := true, recurses := true, plainKeys := false, apart := false, narrowed := true }
def FnExactCodeOfUptoSaid : Prop := fnExactCodeOfUptoRow.holds Try.pinned (OpenSpec.upto fnExactCodeOfSpec)

/-- 'laws.FnExactLeadsTo', WHERE WHAT IT READS IS OF BULK AT MOST 1048576: true; the input reads as it did. -/
def fnExactLeadsToUptoRow : OpenClaim := { program := "ytcbijhgepdedpaa", sum := "d338a3af1f25c2fdec2a4a510aae60d9140f47efb9f4a314a3927f984dc88da0", func := "loop.example/g01183/laws.FnExactLeadsTo", spec := "fnExactLeadsTo", unfollowed := true, recurses := true, plainKeys := false, apart := false, narrowed := true }
def FnExactLeadsToUptoSaid : Prop := fnExactLeadsToUptoRow.holds Try.pinned (OpenSpec.upto fnExactLeadsToSpec)

end Rows
end Go.Proofs.Ytcbijhgepdedpaa

/- What the claim FnExactLintProgram rests on, part 13 of 29; the last part proves it: for every input the law answers true, and its arguments read behind the call as before it. No condition. -/
import Derived.Lib.SliceRun
import Derived.Test.YtpenhegoilccoaaQLintProgram10
set_option linter.unusedSimpArgs false
set_option linter.unusedVariables false
namespace Go.Proofs.Ytpenhegoilccoaa.G
open Go.RowKit Go.Proofs.YtpenhegoilccoaaW.PrintWords Go.Proofs.YtpenhegoilccoaaW.PrintLast Go.Proofs.YtpenhegoilccoaaW.PrintMore
def impl_Program_copied.l0 : Nat → List (List (S72)) → Int → Int → List (List (S72)) → Option ((List (List (S72))))
 | 0, _, _, _, _ => none
 | k + 1, x8, x9, x10, x748000 => if x10 < x9 then (if 0 ≤ x10 then (if x10 < (x8.length : Int) then ((impl_Step_131.f (rd_L4 x8 x10)).bind fun t749 => (if x748000.length < 5864062014805 then (impl_Program_copied.l0 k x8 x9 (wrap64 (x10 + 1)) (x748000 ++ [t749])) else (none))) else (none)) else (none)) else (some x748000)
def impl_Program_copied.f (k : Nat) (l0_0 : List (List (S72))) : Option ((List (List (S72)))) := impl_Program_copied.l0 k l0_0 (l0_0.length : Int) 0 ([] : List (List (S72)))
end Go.Proofs.Ytpenhegoilccoaa.G

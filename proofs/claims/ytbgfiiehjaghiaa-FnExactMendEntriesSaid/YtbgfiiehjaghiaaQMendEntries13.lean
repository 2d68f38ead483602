/- What the claim FnExactMendEntries rests on, part 13 of 23; the last part proves it: for every input the law answers true, and its arguments read behind the call as before it. No condition. -/
import Derived.Lib.SliceRun
import Derived.KernelRfl
import Derived.WalkKit
import Derived.Test.YtbgfiiehjaghiaaQMendEntries7
import Derived.Test.YtbgfiiehjaghiaaQMendEntries8
import Derived.Test.YtbgfiiehjaghiaaQMendEntries9
import Derived.Test.YtbgfiiehjaghiaaQMendEntries10
import Derived.Test.YtbgfiiehjaghiaaQMendEntries11
namespace Go.Proofs.YtbgfiiehjaghiaaW.PrintLast
end Go.Proofs.YtbgfiiehjaghiaaW.PrintLast
namespace Go.Proofs.YtbgfiiehjaghiaaW.PrintMore
end Go.Proofs.YtbgfiiehjaghiaaW.PrintMore
set_option linter.unusedSimpArgs false
set_option linter.unusedVariables false
namespace Go.Proofs.Ytbgfiiehjaghiaa.G
open Go.RowKit Go.Proofs.YtbgfiiehjaghiaaW.PrintWords Go.Proofs.YtbgfiiehjaghiaaW.PrintLast Go.Proofs.YtbgfiiehjaghiaaW.PrintMore
abbrev ST := S68
end Go.Proofs.Ytbgfiiehjaghiaa.G
namespace Go.Proofs.Ytbgfiiehjaghiaa.G
open Go.RowKit Go.Lib Go.Proofs.Ytbgfiiehjaghiaa.SX Go.Proofs.YtbgfiiehjaghiaaW.PrintWords Go.Proofs.YtbgfiiehjaghiaaW.PrintLast Go.Proofs.YtbgfiiehjaghiaaW.PrintMore
theorem in_eq (x lo hi : Int) : impl_in.f x lo hi = some (decide (lo ≤ x) && decide (x ≤ hi)) := by
 unfold impl_in.f
 by_cases h : lo ≤ x <;> simp [h]
end Go.Proofs.Ytbgfiiehjaghiaa.G

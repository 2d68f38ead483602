/- What the claim FnExactLintProgram rests on, part 2 of 29; the last part proves it: for every input the law answers true, and its arguments read behind the call as before it. No condition. -/
import Derived.Test.YtpenhegoilccoaaProg
import Derived.Shelf.Slices.Clone
namespace Go.Proofs.Ytpenhegoilccoaa.SX
open Go.Shelf Go.Proofs
def asc15_ren : Go.Shelf.Ren := ⟨fun | 15 => 154 | n => n, fun | 22 => 44 | 3 => 3 | 4 => 4 | n => n, fun | n => n⟩
theorem asc15 : Lays2.n15 Try.prog asc15_ren where
 mixed := by kernel_rfl
 f15 := Try.func154.trans (congrArg some (by kernel_rfl))
 t3 := Try.underlying3
 a3 := Try.isAgg3
 z3 := Try.sizeOf3
 v3 := Try.zeroValue3
 t4 := Try.underlying4
 a4 := Try.isAgg4
 z4 := Try.sizeOf4
 v4 := Try.zeroValue4
 t22 := Try.underlying44
 a22 := Try.isAgg44
 z22 := Try.sizeOf44
 v22 := Try.zeroValue44
 i3 := by kernel_rfl
end Go.Proofs.Ytpenhegoilccoaa.SX

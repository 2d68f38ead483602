/- What the claim FnExactErrorsOfRun rests on, part 2 of 22; the last part proves it: for every input the law answers true, and its arguments read behind the call as before it. No condition. -/
import Derived.Test.YtcbijhgepdedpaaProg
import Derived.Shelf.Slices.Reverse
namespace Go.Proofs.Ytcbijhgepdedpaa.SX
open Go.Shelf Go.Proofs
def rev112_ren : Go.Shelf.Ren := ⟨fun | 112 => 34 | n => n, fun | 28 => 49 | 3 => 3 | 4 => 4 | 0 => 0 | n => n, fun | n => n⟩
theorem rev112 : Lays.n112 Try.prog rev112_ren where
 mixed := by kernel_rfl
 f112 := Try.func34.trans (congrArg some (by kernel_rfl))
 t0 := Try.underlying0
 a0 := Try.isAgg0
 z0 := Try.sizeOf0
 v0 := Try.zeroValue0
 t3 := Try.underlying3
 a3 := Try.isAgg3
 z3 := Try.sizeOf3
 v3 := Try.zeroValue3
 t4 := Try.underlying4
 a4 := Try.isAgg4
 z4 := Try.sizeOf4
 v4 := Try.zeroValue4
 t28 := Try.underlying49
 a28 := Try.isAgg49
 z28 := Try.sizeOf49
 v28 := Try.zeroValue49
end Go.Proofs.Ytcbijhgepdedpaa.SX

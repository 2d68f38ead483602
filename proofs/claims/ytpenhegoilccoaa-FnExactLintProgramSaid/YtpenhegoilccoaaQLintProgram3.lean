/- What the claim FnExactLintProgram rests on, part 3 of 29; the last part proves it: for every input the law answers true, and its arguments read behind the call as before it. No condition. -/
import Derived.Test.YtpenhegoilccoaaProg
import Derived.Shelf.SlSortCmp.NoneTotal
import Derived.Shelf.SlicesG.Cmp
namespace Go.Proofs.Ytpenhegoilccoaa.SX
open Go.Shelf Go.Proofs
def srt6_ren : Go.Shelf.Ren := ⟨fun | 6 => 83 | 15 => 142 | 14 => 141 | 28 => 175 | 29 => 176 | 20 => 167 | 21 => 168 | 22 => 169 | 23 => 170 | 24 => 171 | 25 => 172 | 26 => 173 | 27 => 174 | 46 => 181 | 47 => 182 | 48 => 183 | 49 => 184 | 50 => 185 | 57 => 201 | n => n, fun | 22 => 38 | 24 => 88 | 25 => 95 | 3 => 3 | 39 => 149 | 0 => 0 | 53 => 177 | 55 => 179 | 4 => 4 | 46 => 171 | 45 => 170 | 50 => 58 | 5 => 5 | 9 => 9 | 66 => 194 | 70 => 198 | 76 => 213 | 77 => 214 | n => n, fun | n => n⟩
theorem srt6 : SlLaysF0.n6 Try.prog srt6_ren where
 mixed := by kernel_rfl
 f6 := ⟨"slices.SortFunc[[]loop.example/g01183/impl.Finding,loop.example/g01183/impl.Finding]", by decide, Try.func83.trans (congrArg some (by kernel_rfl))⟩
 f14 := ⟨"slices.pdqsortCmpFunc[loop.example/g01183/impl.Finding]", by decide, Try.func141.trans (congrArg some (by kernel_rfl))⟩
 f15 := Try.func142.trans (congrArg some (by kernel_rfl))
 f20 := ⟨"slices.insertionSortCmpFunc[loop.example/g01183/impl.Finding]", by decide, Try.func167.trans (congrArg some (by kernel_rfl))⟩
 f21 := ⟨"slices.heapSortCmpFunc[loop.example/g01183/impl.Finding]", by decide, Try.func168.trans (congrArg some (by kernel_rfl))⟩
 f22 := ⟨"slices.breakPatternsCmpFunc[loop.example/g01183/impl.Finding]", by decide, Try.func169.trans (congrArg some (by kernel_rfl))⟩
 f23 := ⟨"slices.choosePivotCmpFunc[loop.example/g01183/impl.Finding]", by decide, Try.func170.trans (congrArg some (by kernel_rfl))⟩
 f24 := ⟨"slices.reverseRangeCmpFunc[loop.example/g01183/impl.Finding]", by decide, Try.func171.trans (congrArg some (by kernel_rfl))⟩
 f25 := ⟨"slices.partialInsertionSortCmpFunc[loop.example/g01183/impl.Finding]", by decide, Try.func172.trans (congrArg some (by kernel_rfl))⟩
 f26 := ⟨"slices.partitionEqualCmpFunc[loop.example/g01183/impl.Finding]", by decide, Try.func173.trans (congrArg some (by kernel_rfl))⟩
 f27 := ⟨"slices.partitionCmpFunc[loop.example/g01183/impl.Finding]", by decide, Try.func174.trans (congrArg some (by kernel_rfl))⟩
 f28 := Try.func175.trans (congrArg some (by kernel_rfl))
 f29 := Try.func176.trans (congrArg some (by kernel_rfl))
 f46 := ⟨"slices.siftDownCmpFunc[loop.example/g01183/impl.Finding]", by decide, Try.func181.trans (congrArg some (by kernel_rfl))⟩
 f47 := Try.func182.trans (congrArg some (by kernel_rfl))
 f48 := Try.func183.trans (congrArg some (by kernel_rfl))
 f49 := ⟨"slices.medianAdjacentCmpFunc[loop.example/g01183/impl.Finding]", by decide, Try.func184.trans (congrArg some (by kernel_rfl))⟩
 f50 := ⟨"slices.medianCmpFunc[loop.example/g01183/impl.Finding]", by decide, Try.func185.trans (congrArg some (by kernel_rfl))⟩
 f57 := ⟨"slices.order2CmpFunc[loop.example/g01183/impl.Finding]", by decide, Try.func201.trans (congrArg some (by kernel_rfl))⟩
 t0 := Try.underlying0
 a0 := Try.isAgg0
 z0 := Try.sizeOf0
 v0 := Try.zeroValue0
 t3 := Try.underlying3
 a3 := Try.isAgg3
 z3 := Try.sizeOf3
 v3 := Try.zeroValue3
 t4 := Try.underlying4
 a4 := Try.isAgg4
 z4 := Try.sizeOf4
 v4 := Try.zeroValue4
 t5 := Try.underlying5
 a5 := Try.isAgg5
 z5 := Try.sizeOf5
 v5 := Try.zeroValue5
 t9 := Try.underlying9
 a9 := Try.isAgg9
 z9 := Try.sizeOf9
 v9 := Try.zeroValue9
 t22 := Try.underlying38
 a22 := Try.isAgg38
 z22 := Try.sizeOf38
 v22 := Try.zeroValue38
 t25 := Try.underlying95
 a25 := Try.isAgg95
 z25 := Try.sizeOf95
 v25 := Try.zeroValue95
 t39 := Try.underlying149
 a39 := Try.isAgg149
 z39 := Try.sizeOf149
 v39 := Try.zeroValue149
 t45 := Try.underlying170
 a45 := Try.isAgg170
 z45 := Try.sizeOf170
 v45 := Try.zeroValue170
 t46 := Try.underlying171
 a46 := Try.isAgg171
 z46 := Try.sizeOf171
 v46 := Try.zeroValue171
 t50 := Try.underlying58
 a50 := Try.isAgg58
 z50 := Try.sizeOf58
 v50 := Try.zeroValue58
 t53 := Try.underlying177
 a53 := Try.isAgg177
 z53 := Try.sizeOf177
 v53 := Try.zeroValue177
 t55 := Try.underlying179
 a55 := Try.isAgg179
 z55 := Try.sizeOf179
 v55 := Try.zeroValue179
 t66 := Try.underlying194
 a66 := Try.isAgg194
 z66 := Try.sizeOf194
 v66 := Try.zeroValue194
 t70 := Try.underlying198
 a70 := Try.isAgg198
 z70 := Try.sizeOf198
 v70 := Try.zeroValue198
 t76 := Try.underlying213
 a76 := Try.isAgg213
 z76 := Try.sizeOf213
 v76 := Try.zeroValue213
 t77 := Try.underlying214
 a77 := Try.isAgg214
 z77 := Try.sizeOf214
 v77 := Try.zeroValue214
def srtC_ren : Go.Shelf.Ren := ⟨fun | 5 => 86 | 7 => 143 | n => n, fun | 22 => 3 | 3 => 3 | 4 => 4 | n => n, fun | n => n⟩
theorem srtC : SlLaysC2.n5 Try.prog srtC_ren where
 mixed := by kernel_rfl
 f5 := ⟨"cmp.Compare[int]", by decide, Try.func86.trans (congrArg some (by kernel_rfl))⟩
 f7 := ⟨"cmp.isNaN[int]", by decide, Try.func143.trans (congrArg some (by kernel_rfl))⟩
 t3 := Try.underlying3
 a3 := Try.isAgg3
 z3 := Try.sizeOf3
 v3 := Try.zeroValue3
 t4 := Try.underlying4
 a4 := Try.isAgg4
 z4 := Try.sizeOf4
 v4 := Try.zeroValue4
 t22 := Try.underlying3
 a22 := Try.isAgg3
 z22 := Try.sizeOf3
 v22 := Try.zeroValue3
end Go.Proofs.Ytpenhegoilccoaa.SX

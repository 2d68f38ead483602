/- What the claim FnExactLintProgram rests on, part 5 of 29; the last part proves it: for every input the law answers true, and its arguments read behind the call as before it. No condition. -/
import Derived.Test.YtpenhegoilccoaaProg
import Derived.Shelf.Sort.Plain
import Derived.Shelf.Slices.In.SortNone
import Derived.Shelf.Slices.CompactI
import Derived.Lib.RowBridge
namespace Go.Proofs.Ytpenhegoilccoaa.SX
open Go.Shelf Go.Proofs
def asc189_ren : Go.Shelf.Ren := ⟨fun | 189 => 161 | 125 => 142 | 257 => 180 | 128 => 175 | 129 => 176 | 294 => 192 | 295 => 193 | 296 => 194 | 297 => 195 | 298 => 196 | 299 => 197 | 216 => 198 | 300 => 199 | 301 => 200 | 328 => 212 | 329 => 182 | 330 => 183 | 331 => 213 | 332 => 214 | 215 => 143 | 343 => 219 | n => n, fun | 28 => 44 | 3 => 3 | 46 => 149 | 0 => 0 | 51 => 177 | 53 => 179 | 4 => 4 | 183 => 171 | 182 => 170 | 131 => 58 | 5 => 5 | 9 => 9 | 218 => 194 | 222 => 198 | 228 => 213 | 229 => 214 | n => n, fun | n => n⟩
theorem asc189 : Lays.n189 Try.prog asc189_ren where
 mixed := by kernel_rfl
 f125 := Try.func142.trans (congrArg some (by kernel_rfl))
 f128 := Try.func175.trans (congrArg some (by kernel_rfl))
 f129 := Try.func176.trans (congrArg some (by kernel_rfl))
 f189 := Try.func161.trans (congrArg some (by kernel_rfl))
 f215 := Try.func143.trans (congrArg some (by kernel_rfl))
 f216 := Try.func198.trans (congrArg some (by kernel_rfl))
 f257 := Try.func180.trans (congrArg some (by kernel_rfl))
 f294 := Try.func192.trans (congrArg some (by kernel_rfl))
 f295 := Try.func193.trans (congrArg some (by kernel_rfl))
 f296 := Try.func194.trans (congrArg some (by kernel_rfl))
 f297 := Try.func195.trans (congrArg some (by kernel_rfl))
 f298 := Try.func196.trans (congrArg some (by kernel_rfl))
 f299 := Try.func197.trans (congrArg some (by kernel_rfl))
 f300 := Try.func199.trans (congrArg some (by kernel_rfl))
 f301 := Try.func200.trans (congrArg some (by kernel_rfl))
 f328 := Try.func212.trans (congrArg some (by kernel_rfl))
 f329 := Try.func182.trans (congrArg some (by kernel_rfl))
 f330 := Try.func183.trans (congrArg some (by kernel_rfl))
 f331 := Try.func213.trans (congrArg some (by kernel_rfl))
 f332 := Try.func214.trans (congrArg some (by kernel_rfl))
 f343 := Try.func219.trans (congrArg some (by kernel_rfl))
 t0 := Try.underlying0
 a0 := Try.isAgg0
 z0 := Try.sizeOf0
 v0 := Try.zeroValue0
 t3 := Try.underlying3
 a3 := Try.isAgg3
 z3 := Try.sizeOf3
 v3 := Try.zeroValue3
 t4 := Try.underlying4
 a4 := Try.isAgg4
 z4 := Try.sizeOf4
 v4 := Try.zeroValue4
 t5 := Try.underlying5
 a5 := Try.isAgg5
 z5 := Try.sizeOf5
 v5 := Try.zeroValue5
 t9 := Try.underlying9
 a9 := Try.isAgg9
 z9 := Try.sizeOf9
 v9 := Try.zeroValue9
 t28 := Try.underlying44
 a28 := Try.isAgg44
 z28 := Try.sizeOf44
 v28 := Try.zeroValue44
 t46 := Try.underlying149
 a46 := Try.isAgg149
 z46 := Try.sizeOf149
 v46 := Try.zeroValue149
 t51 := Try.underlying177
 a51 := Try.isAgg177
 z51 := Try.sizeOf177
 v51 := Try.zeroValue177
 t53 := Try.underlying179
 a53 := Try.isAgg179
 z53 := Try.sizeOf179
 v53 := Try.zeroValue179
 t131 := Try.underlying58
 a131 := Try.isAgg58
 z131 := Try.sizeOf58
 v131 := Try.zeroValue58
 t182 := Try.underlying170
 a182 := Try.isAgg170
 z182 := Try.sizeOf170
 v182 := Try.zeroValue170
 t183 := Try.underlying171
 a183 := Try.isAgg171
 z183 := Try.sizeOf171
 v183 := Try.zeroValue171
 t218 := Try.underlying194
 a218 := Try.isAgg194
 z218 := Try.sizeOf194
 v218 := Try.zeroValue194
 t222 := Try.underlying198
 a222 := Try.isAgg198
 z222 := Try.sizeOf198
 v222 := Try.zeroValue198
 t228 := Try.underlying213
 a228 := Try.isAgg213
 z228 := Try.sizeOf213
 v228 := Try.zeroValue213
 t229 := Try.underlying214
 a229 := Try.isAgg214
 z229 := Try.sizeOf214
 v229 := Try.zeroValue214
def asc20_ren : Go.Shelf.Ren := ⟨fun | 20 => 162 | n => n, fun | 22 => 44 | 3 => 3 | 4 => 4 | 0 => 0 | n => n, fun | n => n⟩
theorem asc20 : Lays2.n20 Try.prog asc20_ren where
 mixed := by kernel_rfl
 f20 := Try.func162.trans (congrArg some (by kernel_rfl))
 t0 := Try.underlying0
 a0 := Try.isAgg0
 z0 := Try.sizeOf0
 v0 := Try.zeroValue0
 t3 := Try.underlying3
 a3 := Try.isAgg3
 z3 := Try.sizeOf3
 v3 := Try.zeroValue3
 t4 := Try.underlying4
 a4 := Try.isAgg4
 z4 := Try.sizeOf4
 v4 := Try.zeroValue4
 t22 := Try.underlying44
 a22 := Try.isAgg44
 z22 := Try.sizeOf44
 v22 := Try.zeroValue44
 i3 := by kernel_rfl
end Go.Proofs.Ytpenhegoilccoaa.SX

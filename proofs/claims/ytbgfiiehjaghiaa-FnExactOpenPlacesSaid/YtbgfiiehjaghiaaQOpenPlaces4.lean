/- What the claim FnExactOpenPlaces rests on, part 4 of 27; the last part proves it: for every input the law answers true, and its arguments read behind the call as before it. No condition. -/
import Derived.Test.YtbgfiiehjaghiaaProg
import Derived.Shelf.Sort.Plain
import Derived.Shelf.Slices.In.SortNone
import Derived.Shelf.Slices.CompactI
import Derived.Lib.RowBridge
namespace Go.Proofs.Ytbgfiiehjaghiaa.SX
open Go.Shelf Go.Proofs
def asc189_ren : Go.Shelf.Ren := ⟨fun | 189 => 134 | 125 => 141 | 257 => 140 | 128 => 156 | 129 => 157 | 294 => 147 | 295 => 148 | 296 => 149 | 297 => 150 | 298 => 151 | 299 => 152 | 216 => 153 | 300 => 154 | 301 => 155 | 328 => 164 | 329 => 165 | 330 => 166 | 331 => 167 | 332 => 168 | 215 => 169 | 343 => 172 | n => n, fun | 28 => 37 | 3 => 3 | 46 => 171 | 0 => 0 | 51 => 187 | 53 => 189 | 4 => 4 | 183 => 181 | 182 => 180 | 131 => 61 | 5 => 5 | 9 => 9 | 218 => 196 | 222 => 200 | 228 => 204 | 229 => 205 | n => n, fun | n => n⟩
theorem asc189 : Lays.n189 Try.prog asc189_ren where
 mixed := by kernel_rfl
 f125 := Try.func141.trans (congrArg some (by kernel_rfl))
 f128 := Try.func156.trans (congrArg some (by kernel_rfl))
 f129 := Try.func157.trans (congrArg some (by kernel_rfl))
 f189 := Try.func134.trans (congrArg some (by kernel_rfl))
 f215 := Try.func169.trans (congrArg some (by kernel_rfl))
 f216 := Try.func153.trans (congrArg some (by kernel_rfl))
 f257 := Try.func140.trans (congrArg some (by kernel_rfl))
 f294 := Try.func147.trans (congrArg some (by kernel_rfl))
 f295 := Try.func148.trans (congrArg some (by kernel_rfl))
 f296 := Try.func149.trans (congrArg some (by kernel_rfl))
 f297 := Try.func150.trans (congrArg some (by kernel_rfl))
 f298 := Try.func151.trans (congrArg some (by kernel_rfl))
 f299 := Try.func152.trans (congrArg some (by kernel_rfl))
 f300 := Try.func154.trans (congrArg some (by kernel_rfl))
 f301 := Try.func155.trans (congrArg some (by kernel_rfl))
 f328 := Try.func164.trans (congrArg some (by kernel_rfl))
 f329 := Try.func165.trans (congrArg some (by kernel_rfl))
 f330 := Try.func166.trans (congrArg some (by kernel_rfl))
 f331 := Try.func167.trans (congrArg some (by kernel_rfl))
 f332 := Try.func168.trans (congrArg some (by kernel_rfl))
 f343 := Try.func172.trans (congrArg some (by kernel_rfl))
 t0 := Try.underlying0
 a0 := Try.isAgg0
 z0 := Try.sizeOf0
 v0 := Try.zeroValue0
 t3 := Try.underlying3
 a3 := Try.isAgg3
 z3 := Try.sizeOf3
 v3 := Try.zeroValue3
 t4 := Try.underlying4
 a4 := Try.isAgg4
 z4 := Try.sizeOf4
 v4 := Try.zeroValue4
 t5 := Try.underlying5
 a5 := Try.isAgg5
 z5 := Try.sizeOf5
 v5 := Try.zeroValue5
 t9 := Try.underlying9
 a9 := Try.isAgg9
 z9 := Try.sizeOf9
 v9 := Try.zeroValue9
 t28 := Try.underlying37
 a28 := Try.isAgg37
 z28 := Try.sizeOf37
 v28 := Try.zeroValue37
 t46 := Try.underlying171
 a46 := Try.isAgg171
 z46 := Try.sizeOf171
 v46 := Try.zeroValue171
 t51 := Try.underlying187
 a51 := Try.isAgg187
 z51 := Try.sizeOf187
 v51 := Try.zeroValue187
 t53 := Try.underlying189
 a53 := Try.isAgg189
 z53 := Try.sizeOf189
 v53 := Try.zeroValue189
 t131 := Try.underlying61
 a131 := Try.isAgg61
 z131 := Try.sizeOf61
 v131 := Try.zeroValue61
 t182 := Try.underlying180
 a182 := Try.isAgg180
 z182 := Try.sizeOf180
 v182 := Try.zeroValue180
 t183 := Try.underlying181
 a183 := Try.isAgg181
 z183 := Try.sizeOf181
 v183 := Try.zeroValue181
 t218 := Try.underlying196
 a218 := Try.isAgg196
 z218 := Try.sizeOf196
 v218 := Try.zeroValue196
 t222 := Try.underlying200
 a222 := Try.isAgg200
 z222 := Try.sizeOf200
 v222 := Try.zeroValue200
 t228 := Try.underlying204
 a228 := Try.isAgg204
 z228 := Try.sizeOf204
 v228 := Try.zeroValue204
 t229 := Try.underlying205
 a229 := Try.isAgg205
 z229 := Try.sizeOf205
 v229 := Try.zeroValue205
def asc20_ren : Go.Shelf.Ren := ⟨fun | 20 => 135 | n => n, fun | 22 => 37 | 3 => 3 | 4 => 4 | 0 => 0 | n => n, fun | n => n⟩
theorem asc20 : Lays2.n20 Try.prog asc20_ren where
 mixed := by kernel_rfl
 f20 := Try.func135.trans (congrArg some (by kernel_rfl))
 t0 := Try.underlying0
 a0 := Try.isAgg0
 z0 := Try.sizeOf0
 v0 := Try.zeroValue0
 t3 := Try.underlying3
 a3 := Try.isAgg3
 z3 := Try.sizeOf3
 v3 := Try.zeroValue3
 t4 := Try.underlying4
 a4 := Try.isAgg4
 z4 := Try.sizeOf4
 v4 := Try.zeroValue4
 t22 := Try.underlying37
 a22 := Try.isAgg37
 z22 := Try.sizeOf37
 v22 := Try.zeroValue37
 i3 := by kernel_rfl
end Go.Proofs.Ytbgfiiehjaghiaa.SX

/- slices.Sort and slices.Compact at whole numbers: their layings. No conditions. -/
import Derived.Shelf.Sort.Plain
import Derived.Shelf.Slices.In.SortNone
import Derived.Shelf.Slices.CompactI
import Derived.Test.YtnbdfmdjedakcaaProg
namespace Go.Proofs
open Go.Shelf
def Try.sortI_ren : Go.Shelf.Ren := ⟨fun | 189 => 94 | 125 => 116 | 257 => 115 | 128 => 136 | 129 => 137 | 294 => 127 | 295 => 128 | 296 => 129 | 297 => 130 | 298 => 131 | 299 => 132 | 216 => 133 | 300 => 134 | 301 => 135 | 328 => 149 | 329 => 150 | 330 => 151 | 331 => 152 | 332 => 153 | 215 => 148 | 343 => 160 | n => n, fun | 28 => 28 | 3 => 3 | 46 => 84 | 0 => 0 | 51 => 146 | 53 => 148 | 4 => 4 | 183 => 139 | 182 => 138 | 131 => 143 | 5 => 5 | 9 => 9 | 218 => 158 | 222 => 162 | 228 => 171 | 229 => 172 | n => n, fun n => n⟩
theorem Try.sortI : Go.Proofs.Lays.n189 Try.prog Try.sortI_ren := {
 mixed := by kernel_rfl
 f125 := Try.func116.trans (congrArg some (by kernel_rfl))
 f128 := Try.func136.trans (congrArg some (by kernel_rfl))
 f129 := Try.func137.trans (congrArg some (by kernel_rfl))
 f189 := Try.func94.trans (congrArg some (by kernel_rfl))
 f215 := Try.func148.trans (congrArg some (by kernel_rfl))
 f216 := Try.func133.trans (congrArg some (by kernel_rfl))
 f257 := Try.func115.trans (congrArg some (by kernel_rfl))
 f294 := Try.func127.trans (congrArg some (by kernel_rfl))
 f295 := Try.func128.trans (congrArg some (by kernel_rfl))
 f296 := Try.func129.trans (congrArg some (by kernel_rfl))
 f297 := Try.func130.trans (congrArg some (by kernel_rfl))
 f298 := Try.func131.trans (congrArg some (by kernel_rfl))
 f299 := Try.func132.trans (congrArg some (by kernel_rfl))
 f300 := Try.func134.trans (congrArg some (by kernel_rfl))
 f301 := Try.func135.trans (congrArg some (by kernel_rfl))
 f328 := Try.func149.trans (congrArg some (by kernel_rfl))
 f329 := Try.func150.trans (congrArg some (by kernel_rfl))
 f330 := Try.func151.trans (congrArg some (by kernel_rfl))
 f331 := Try.func152.trans (congrArg some (by kernel_rfl))
 f332 := Try.func153.trans (congrArg some (by kernel_rfl))
 f343 := Try.func160.trans (congrArg some (by kernel_rfl))
 t0 := Try.underlying0
 a0 := Try.isAgg0
 z0 := Try.sizeOf0
 v0 := Try.zeroValue0
 t3 := Try.underlying3
 a3 := Try.isAgg3
 z3 := Try.sizeOf3
 v3 := Try.zeroValue3
 t4 := Try.underlying4
 a4 := Try.isAgg4
 z4 := Try.sizeOf4
 v4 := Try.zeroValue4
 t5 := Try.underlying5
 a5 := Try.isAgg5
 z5 := Try.sizeOf5
 v5 := Try.zeroValue5
 t9 := Try.underlying9
 a9 := Try.isAgg9
 z9 := Try.sizeOf9
 v9 := Try.zeroValue9
 t28 := Try.underlying28
 a28 := Try.isAgg28
 z28 := Try.sizeOf28
 v28 := Try.zeroValue28
 t46 := Try.underlying84
 a46 := Try.isAgg84
 z46 := Try.sizeOf84
 v46 := Try.zeroValue84
 t51 := Try.underlying146
 a51 := Try.isAgg146
 z51 := Try.sizeOf146
 v51 := Try.zeroValue146
 t53 := Try.underlying148
 a53 := Try.isAgg148
 z53 := Try.sizeOf148
 v53 := Try.zeroValue148
 t131 := Try.underlying143
 a131 := Try.isAgg143
 z131 := Try.sizeOf143
 v131 := Try.zeroValue143
 t182 := Try.underlying138
 a182 := Try.isAgg138
 z182 := Try.sizeOf138
 v182 := Try.zeroValue138
 t183 := Try.underlying139
 a183 := Try.isAgg139
 z183 := Try.sizeOf139
 v183 := Try.zeroValue139
 t218 := Try.underlying158
 a218 := Try.isAgg158
 z218 := Try.sizeOf158
 v218 := Try.zeroValue158
 t222 := Try.underlying162
 a222 := Try.isAgg162
 z222 := Try.sizeOf162
 v222 := Try.zeroValue162
 t228 := Try.underlying171
 a228 := Try.isAgg171
 z228 := Try.sizeOf171
 v228 := Try.zeroValue171
 t229 := Try.underlying172
 a229 := Try.isAgg172
 z229 := Try.sizeOf172
 v229 := Try.zeroValue172
 }
def Try.compI_ren : Go.Shelf.Ren := ⟨fun | 20 => 95 | n => n, fun | 22 => 28 | 3 => 3 | 4 => 4 | 0 => 0 | n => n, fun n => n⟩
theorem Try.compI : Go.Proofs.Lays2.n20 Try.prog Try.compI_ren := {
 mixed := by kernel_rfl
 f20 := Try.func95.trans (congrArg some (by kernel_rfl))
 t0 := Try.underlying0
 a0 := Try.isAgg0
 z0 := Try.sizeOf0
 v0 := Try.zeroValue0
 t3 := Try.underlying3
 a3 := Try.isAgg3
 z3 := Try.sizeOf3
 v3 := Try.zeroValue3
 t4 := Try.underlying4
 a4 := Try.isAgg4
 z4 := Try.sizeOf4
 v4 := Try.zeroValue4
 t22 := Try.underlying28
 a22 := Try.isAgg28
 z22 := Try.sizeOf28
 v22 := Try.zeroValue28
 i3 := by kernel_rfl
 }
end Go.Proofs

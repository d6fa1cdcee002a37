/-
  Where slices.Sort at []string, and what it calls, lie in the loaded program.
-/
import Derived.Shelf.Sort.Plain
import Derived.Test.YtjamjffppcjeiaaGreatDoorProg
namespace Go.Proofs.YtjamjffppcjeiaaGreatDoor
open Go Go.Proofs
def Llays190_ren : Go.Shelf.Ren := ⟨fun | 190 => 57 | 125 => 80 | 258 => 79 | 128 => 111 | 129 => 112 | 302 => 102 | 303 => 103 | 304 => 104 | 305 => 105 | 306 => 106 | 307 => 107 | 308 => 108 | 309 => 109 | 310 => 110 | 333 => 120 | 329 => 121 | 330 => 122 | 334 => 123 | 335 => 124 | 336 => 125 | 344 => 130 | n => n, fun | 31 => 29 | 9 => 9 | 3 => 3 | 46 => 123 | 0 => 0 | 51 => 150 | 53 => 152 | 4 => 4 | 183 => 143 | 182 => 142 | 131 => 114 | 5 => 5 | 218 => 158 | 222 => 162 | 228 => 165 | 229 => 166 | n => n, fun | n => n⟩
theorem Llays190 : Go.Proofs.Lays.n190 Tryz.prog Llays190_ren := {
 mixed := by kernel_rfl
 f125 := Tryz.func80.trans (congrArg some (by kernel_rfl))
 f128 := Tryz.func111.trans (congrArg some (by kernel_rfl))
 f129 := Tryz.func112.trans (congrArg some (by kernel_rfl))
 f190 := Tryz.func57.trans (congrArg some (by kernel_rfl))
 f258 := Tryz.func79.trans (congrArg some (by kernel_rfl))
 f302 := Tryz.func102.trans (congrArg some (by kernel_rfl))
 f303 := Tryz.func103.trans (congrArg some (by kernel_rfl))
 f304 := Tryz.func104.trans (congrArg some (by kernel_rfl))
 f305 := Tryz.func105.trans (congrArg some (by kernel_rfl))
 f306 := Tryz.func106.trans (congrArg some (by kernel_rfl))
 f307 := Tryz.func107.trans (congrArg some (by kernel_rfl))
 f308 := Tryz.func108.trans (congrArg some (by kernel_rfl))
 f309 := Tryz.func109.trans (congrArg some (by kernel_rfl))
 f310 := Tryz.func110.trans (congrArg some (by kernel_rfl))
 f329 := Tryz.func121.trans (congrArg some (by kernel_rfl))
 f330 := Tryz.func122.trans (congrArg some (by kernel_rfl))
 f333 := Tryz.func120.trans (congrArg some (by kernel_rfl))
 f334 := Tryz.func123.trans (congrArg some (by kernel_rfl))
 f335 := Tryz.func124.trans (congrArg some (by kernel_rfl))
 f336 := Tryz.func125.trans (congrArg some (by kernel_rfl))
 f344 := Tryz.func130.trans (congrArg some (by kernel_rfl))
 t0 := Tryz.underlying0
 a0 := Tryz.isAgg0
 z0 := Tryz.sizeOf0
 v0 := Tryz.zeroValue0
 t3 := Tryz.underlying3
 a3 := Tryz.isAgg3
 z3 := Tryz.sizeOf3
 v3 := Tryz.zeroValue3
 t4 := Tryz.underlying4
 a4 := Tryz.isAgg4
 z4 := Tryz.sizeOf4
 v4 := Tryz.zeroValue4
 t5 := Tryz.underlying5
 a5 := Tryz.isAgg5
 z5 := Tryz.sizeOf5
 v5 := Tryz.zeroValue5
 t9 := Tryz.underlying9
 a9 := Tryz.isAgg9
 z9 := Tryz.sizeOf9
 v9 := Tryz.zeroValue9
 t31 := Tryz.underlying29
 a31 := Tryz.isAgg29
 z31 := Tryz.sizeOf29
 v31 := Tryz.zeroValue29
 t46 := Tryz.underlying123
 a46 := Tryz.isAgg123
 z46 := Tryz.sizeOf123
 v46 := Tryz.zeroValue123
 t51 := Tryz.underlying150
 a51 := Tryz.isAgg150
 z51 := Tryz.sizeOf150
 v51 := Tryz.zeroValue150
 t53 := Tryz.underlying152
 a53 := Tryz.isAgg152
 z53 := Tryz.sizeOf152
 v53 := Tryz.zeroValue152
 t131 := Tryz.underlying114
 a131 := Tryz.isAgg114
 z131 := Tryz.sizeOf114
 v131 := Tryz.zeroValue114
 t182 := Tryz.underlying142
 a182 := Tryz.isAgg142
 z182 := Tryz.sizeOf142
 v182 := Tryz.zeroValue142
 t183 := Tryz.underlying143
 a183 := Tryz.isAgg143
 z183 := Tryz.sizeOf143
 v183 := Tryz.zeroValue143
 t218 := Tryz.underlying158
 a218 := Tryz.isAgg158
 z218 := Tryz.sizeOf158
 v218 := Tryz.zeroValue158
 t222 := Tryz.underlying162
 a222 := Tryz.isAgg162
 z222 := Tryz.sizeOf162
 v222 := Tryz.zeroValue162
 t228 := Tryz.underlying165
 a228 := Tryz.isAgg165
 z228 := Tryz.sizeOf165
 v228 := Tryz.zeroValue165
 t229 := Tryz.underlying166
 a229 := Tryz.isAgg166
 z229 := Tryz.sizeOf166
 v229 := Tryz.zeroValue166 }
end Go.Proofs.YtjamjffppcjeiaaGreatDoor

/-
  Where slices.Sort at []string, and what it calls, lie in the loaded program.
-/
import Derived.Shelf.Sort.Plain
import Derived.Test.YthdgbghephnlpaaGreatDoorProg
namespace Go.Proofs.YthdgbghephnlpaaGreatDoor
open Go Go.Proofs
def Llays190_ren : Go.Shelf.Ren := ⟨fun | 190 => 84 | 125 => 122 | 258 => 121 | 128 => 165 | 129 => 166 | 302 => 156 | 303 => 157 | 304 => 158 | 305 => 159 | 306 => 160 | 307 => 161 | 308 => 162 | 309 => 163 | 310 => 164 | 333 => 190 | 329 => 191 | 330 => 192 | 334 => 193 | 335 => 194 | 336 => 195 | 344 => 212 | n => n, fun | 31 => 29 | 9 => 9 | 3 => 3 | 46 => 164 | 0 => 0 | 51 => 203 | 53 => 205 | 4 => 4 | 183 => 196 | 182 => 195 | 131 => 120 | 5 => 5 | 218 => 223 | 222 => 227 | 228 => 240 | 229 => 241 | n => n, fun | n => n⟩
theorem Llays190 : Go.Proofs.Lays.n190 Tryz.prog Llays190_ren := {
 mixed := by kernel_rfl
 f125 := Tryz.func122.trans (congrArg some (by kernel_rfl))
 f128 := Tryz.func165.trans (congrArg some (by kernel_rfl))
 f129 := Tryz.func166.trans (congrArg some (by kernel_rfl))
 f190 := Tryz.func84.trans (congrArg some (by kernel_rfl))
 f258 := Tryz.func121.trans (congrArg some (by kernel_rfl))
 f302 := Tryz.func156.trans (congrArg some (by kernel_rfl))
 f303 := Tryz.func157.trans (congrArg some (by kernel_rfl))
 f304 := Tryz.func158.trans (congrArg some (by kernel_rfl))
 f305 := Tryz.func159.trans (congrArg some (by kernel_rfl))
 f306 := Tryz.func160.trans (congrArg some (by kernel_rfl))
 f307 := Tryz.func161.trans (congrArg some (by kernel_rfl))
 f308 := Tryz.func162.trans (congrArg some (by kernel_rfl))
 f309 := Tryz.func163.trans (congrArg some (by kernel_rfl))
 f310 := Tryz.func164.trans (congrArg some (by kernel_rfl))
 f329 := Tryz.func191.trans (congrArg some (by kernel_rfl))
 f330 := Tryz.func192.trans (congrArg some (by kernel_rfl))
 f333 := Tryz.func190.trans (congrArg some (by kernel_rfl))
 f334 := Tryz.func193.trans (congrArg some (by kernel_rfl))
 f335 := Tryz.func194.trans (congrArg some (by kernel_rfl))
 f336 := Tryz.func195.trans (congrArg some (by kernel_rfl))
 f344 := Tryz.func212.trans (congrArg some (by kernel_rfl))
 t0 := Tryz.underlying0
 a0 := Tryz.isAgg0
 z0 := Tryz.sizeOf0
 v0 := Tryz.zeroValue0
 t3 := Tryz.underlying3
 a3 := Tryz.isAgg3
 z3 := Tryz.sizeOf3
 v3 := Tryz.zeroValue3
 t4 := Tryz.underlying4
 a4 := Tryz.isAgg4
 z4 := Tryz.sizeOf4
 v4 := Tryz.zeroValue4
 t5 := Tryz.underlying5
 a5 := Tryz.isAgg5
 z5 := Tryz.sizeOf5
 v5 := Tryz.zeroValue5
 t9 := Tryz.underlying9
 a9 := Tryz.isAgg9
 z9 := Tryz.sizeOf9
 v9 := Tryz.zeroValue9
 t31 := Tryz.underlying29
 a31 := Tryz.isAgg29
 z31 := Tryz.sizeOf29
 v31 := Tryz.zeroValue29
 t46 := Tryz.underlying164
 a46 := Tryz.isAgg164
 z46 := Tryz.sizeOf164
 v46 := Tryz.zeroValue164
 t51 := Tryz.underlying203
 a51 := Tryz.isAgg203
 z51 := Tryz.sizeOf203
 v51 := Tryz.zeroValue203
 t53 := Tryz.underlying205
 a53 := Tryz.isAgg205
 z53 := Tryz.sizeOf205
 v53 := Tryz.zeroValue205
 t131 := Tryz.underlying120
 a131 := Tryz.isAgg120
 z131 := Tryz.sizeOf120
 v131 := Tryz.zeroValue120
 t182 := Tryz.underlying195
 a182 := Tryz.isAgg195
 z182 := Tryz.sizeOf195
 v182 := Tryz.zeroValue195
 t183 := Tryz.underlying196
 a183 := Tryz.isAgg196
 z183 := Tryz.sizeOf196
 v183 := Tryz.zeroValue196
 t218 := Tryz.underlying223
 a218 := Tryz.isAgg223
 z218 := Tryz.sizeOf223
 v218 := Tryz.zeroValue223
 t222 := Tryz.underlying227
 a222 := Tryz.isAgg227
 z222 := Tryz.sizeOf227
 v222 := Tryz.zeroValue227
 t228 := Tryz.underlying240
 a228 := Tryz.isAgg240
 z228 := Tryz.sizeOf240
 v228 := Tryz.zeroValue240
 t229 := Tryz.underlying241
 a229 := Tryz.isAgg241
 z229 := Tryz.sizeOf241
 v229 := Tryz.zeroValue241 }
end Go.Proofs.YthdgbghephnlpaaGreatDoor

/-
  Where strings.Builder's functions lie.
-/
import Derived.Shelf.Strings.Builder1
import Derived.Shelf.Strings.OnBuilder
import Derived.Test.YtdhkejcldipbmaaGreatDoorProg
namespace Go.Proofs.YtdhkejcldipbmaaGreatDoor
open Go Go.Proofs
def Llays169_ren : Go.Shelf.Ren := ⟨fun | 169 => 189 | n => n, fun | 70 => 199 | 9 => 9 | 0 => 0 | 72 => 202 | 37 => 200 | 127 => 228 | 3 => 3 | 5 => 5 | n => n, fun | n => n⟩
theorem Llays169 : Go.Proofs.Lays.n169 Tryz.prog Llays169_ren := {
 mixed := by kernel_rfl
 f169 := Tryz.func189.trans (congrArg some (by kernel_rfl))
 t0 := Tryz.underlying0
 a0 := Tryz.isAgg0
 z0 := Tryz.sizeOf0
 v0 := Tryz.zeroValue0
 t3 := Tryz.underlying3
 a3 := Tryz.isAgg3
 z3 := Tryz.sizeOf3
 v3 := Tryz.zeroValue3
 t9 := Tryz.underlying9
 a9 := Tryz.isAgg9
 z9 := Tryz.sizeOf9
 v9 := Tryz.zeroValue9
 t37 := Tryz.underlying200
 a37 := Tryz.isAgg200
 z37 := Tryz.sizeOf200
 v37 := Tryz.zeroValue200
 t70 := Tryz.underlying199
 a70 := Tryz.isAgg199
 z70 := Tryz.sizeOf199
 v70 := Tryz.zeroValue199
 t72 := Tryz.underlying202
 a72 := Tryz.isAgg202
 z72 := Tryz.sizeOf202
 v72 := Tryz.zeroValue202
 t127 := Tryz.underlying228
 a127 := Tryz.isAgg228
 z127 := Tryz.sizeOf228
 v127 := Tryz.zeroValue228 }
theorem LBuilder_Extra_169 : Builder.Extra Tryz.prog Llays169_ren := {
 sizeBuilder := by kernel_rfl
 liesBuilder := by kernel_rfl
 t5 := Tryz.underlying5
 a5 := Tryz.isAgg5
 z5 := Tryz.sizeOf5
 v5 := Tryz.zeroValue5
 infoByte := by kernel_rfl
 cellsByte := by kernel_rfl
 sizeByte := by kernel_rfl
 neB5 := by decide }
def Llays240_ren : Go.Shelf.Ren := ⟨fun | 240 => 218 | 276 => 235 | n => n, fun | 0 => 0 | 4 => 4 | 9 => 9 | 20 => 20 | 70 => 199 | 72 => 202 | 164 => 247 | 37 => 200 | n => n, fun | n => n⟩
theorem Llays240 : Go.Proofs.Lays.n240 Tryz.prog Llays240_ren := {
 mixed := by kernel_rfl
 f240 := Tryz.func218.trans (congrArg some (by kernel_rfl))
 f276 := Tryz.func235.trans (congrArg some (by kernel_rfl))
 t0 := Tryz.underlying0
 a0 := Tryz.isAgg0
 z0 := Tryz.sizeOf0
 v0 := Tryz.zeroValue0
 t4 := Tryz.underlying4
 a4 := Tryz.isAgg4
 z4 := Tryz.sizeOf4
 v4 := Tryz.zeroValue4
 t9 := Tryz.underlying9
 a9 := Tryz.isAgg9
 z9 := Tryz.sizeOf9
 v9 := Tryz.zeroValue9
 t20 := Tryz.underlying20
 a20 := Tryz.isAgg20
 z20 := Tryz.sizeOf20
 v20 := Tryz.zeroValue20
 t70 := Tryz.underlying199
 a70 := Tryz.isAgg199
 z70 := Tryz.sizeOf199
 v70 := Tryz.zeroValue199
 t72 := Tryz.underlying202
 a72 := Tryz.isAgg202
 z72 := Tryz.sizeOf202
 v72 := Tryz.zeroValue202
 t164 := Tryz.underlying247
 a164 := Tryz.isAgg247
 z164 := Tryz.sizeOf247
 v164 := Tryz.zeroValue247 }
theorem LX72_240 : Builder.X72 Tryz.prog Llays240_ren := {
 sizeBuilder := by kernel_rfl
 liesBuilder := by kernel_rfl }
end Go.Proofs.YtdhkejcldipbmaaGreatDoor

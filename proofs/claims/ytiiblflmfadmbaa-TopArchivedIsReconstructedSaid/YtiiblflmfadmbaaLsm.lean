/-
  Where slices.SortFunc at []api.Sample, and what it calls, lie in the loaded program.
-/
import Derived.Shelf.SlLaysF0
import Derived.Test.YtiiblflmfadmbaaProg
namespace Go.Proofs.Ytiiblflmfadmbaa
open Go Go.Proofs
def LlaysSF94_ren : Go.Shelf.Ren := ⟨fun | 6 => 51 | 15 => 67 | 14 => 66 | 28 => 77 | 29 => 78 | 20 => 69 | 21 => 70 | 22 => 71 | 23 => 72 | 24 => 73 | 25 => 74 | 26 => 75 | 27 => 76 | 46 => 82 | 47 => 83 | 48 => 84 | 49 => 85 | 50 => 86 | 57 => 88 | n => n, fun | 22 => 26 | 24 => 45 | 25 => 112 | 3 => 3 | 39 => 127 | 0 => 0 | 53 => 138 | 55 => 140 | 4 => 4 | 46 => 132 | 45 => 131 | 50 => 75 | 5 => 5 | 9 => 9 | 66 => 144 | 70 => 148 | 76 => 151 | 77 => 152 | n => n, fun | n => n⟩
theorem LlaysSF94 : Go.Proofs.SlLaysF0.n6 Try.prog LlaysSF94_ren := {
 mixed := by kernel_rfl
 f6 := ⟨Try.f51.name, by decide, Try.func51.trans (congrArg some (by kernel_rfl))⟩
 f14 := ⟨Try.f66.name, by decide, Try.func66.trans (congrArg some (by kernel_rfl))⟩
 f15 := Try.func67.trans (congrArg some (by kernel_rfl))
 f20 := ⟨Try.f69.name, by decide, Try.func69.trans (congrArg some (by kernel_rfl))⟩
 f21 := ⟨Try.f70.name, by decide, Try.func70.trans (congrArg some (by kernel_rfl))⟩
 f22 := ⟨Try.f71.name, by decide, Try.func71.trans (congrArg some (by kernel_rfl))⟩
 f23 := ⟨Try.f72.name, by decide, Try.func72.trans (congrArg some (by kernel_rfl))⟩
 f24 := ⟨Try.f73.name, by decide, Try.func73.trans (congrArg some (by kernel_rfl))⟩
 f25 := ⟨Try.f74.name, by decide, Try.func74.trans (congrArg some (by kernel_rfl))⟩
 f26 := ⟨Try.f75.name, by decide, Try.func75.trans (congrArg some (by kernel_rfl))⟩
 f27 := ⟨Try.f76.name, by decide, Try.func76.trans (congrArg some (by kernel_rfl))⟩
 f28 := Try.func77.trans (congrArg some (by kernel_rfl))
 f29 := Try.func78.trans (congrArg some (by kernel_rfl))
 f46 := ⟨Try.f82.name, by decide, Try.func82.trans (congrArg some (by kernel_rfl))⟩
 f47 := Try.func83.trans (congrArg some (by kernel_rfl))
 f48 := Try.func84.trans (congrArg some (by kernel_rfl))
 f49 := ⟨Try.f85.name, by decide, Try.func85.trans (congrArg some (by kernel_rfl))⟩
 f50 := ⟨Try.f86.name, by decide, Try.func86.trans (congrArg some (by kernel_rfl))⟩
 f57 := ⟨Try.f88.name, by decide, Try.func88.trans (congrArg some (by kernel_rfl))⟩
 t0 := Try.underlying0
 a0 := Try.isAgg0
 z0 := Try.sizeOf0
 v0 := Try.zeroValue0
 t3 := Try.underlying3
 a3 := Try.isAgg3
 z3 := Try.sizeOf3
 v3 := Try.zeroValue3
 t4 := Try.underlying4
 a4 := Try.isAgg4
 z4 := Try.sizeOf4
 v4 := Try.zeroValue4
 t5 := Try.underlying5
 a5 := Try.isAgg5
 z5 := Try.sizeOf5
 v5 := Try.zeroValue5
 t9 := Try.underlying9
 a9 := Try.isAgg9
 z9 := Try.sizeOf9
 v9 := Try.zeroValue9
 t22 := Try.underlying26
 a22 := Try.isAgg26
 z22 := Try.sizeOf26
 v22 := Try.zeroValue26
 t25 := Try.underlying112
 a25 := Try.isAgg112
 z25 := Try.sizeOf112
 v25 := Try.zeroValue112
 t39 := Try.underlying127
 a39 := Try.isAgg127
 z39 := Try.sizeOf127
 v39 := Try.zeroValue127
 t45 := Try.underlying131
 a45 := Try.isAgg131
 z45 := Try.sizeOf131
 v45 := Try.zeroValue131
 t46 := Try.underlying132
 a46 := Try.isAgg132
 z46 := Try.sizeOf132
 v46 := Try.zeroValue132
 t50 := Try.underlying75
 a50 := Try.isAgg75
 z50 := Try.sizeOf75
 v50 := Try.zeroValue75
 t53 := Try.underlying138
 a53 := Try.isAgg138
 z53 := Try.sizeOf138
 v53 := Try.zeroValue138
 t55 := Try.underlying140
 a55 := Try.isAgg140
 z55 := Try.sizeOf140
 v55 := Try.zeroValue140
 t66 := Try.underlying144
 a66 := Try.isAgg144
 z66 := Try.sizeOf144
 v66 := Try.zeroValue144
 t70 := Try.underlying148
 a70 := Try.isAgg148
 z70 := Try.sizeOf148
 v70 := Try.zeroValue148
 t76 := Try.underlying151
 a76 := Try.isAgg151
 z76 := Try.sizeOf151
 v76 := Try.zeroValue151
 t77 := Try.underlying152
 a77 := Try.isAgg152
 z77 := Try.sizeOf152
 v77 := Try.zeroValue152 }
end Go.Proofs.Ytiiblflmfadmbaa


/-
 Sites, one part after the other: the order of calculated tags. Sites, one part after the other: the order of calculated tags. Sites, one part after the other: the order of calculated tags.
-/
import Derived.Test.YtdhkejcldipbmaaGreatDoorOrd
namespace Go.Proofs.YtdhkejcldipbmaaGreatDoor
open Go Go.Ai Go.Proofs
set_option linter.unusedSimpArgs false
set_option linter.unusedVariables false
set_option maxHeartbeats 4000000
set_option maxRecDepth 100000
theorem or_0_0 : same3 fOr fOf (.one (.sl false 2 (cgOf 0 0))) (orR 0 0) := ⟨by kernel_rfl, by kernel_rfl⟩
theorem or_0_1 : same3 fOr fOf (.one (.sl false 2 (cgOf 0 1))) (orR 0 1) := ⟨by kernel_rfl, by kernel_rfl⟩
theorem or_0_5 : same3 fOr fOf (.one (.sl false 2 (cgOf 0 5))) (orR 0 5) := ⟨by kernel_rfl, by kernel_rfl⟩
theorem or_1_0 : same3 fOr fOf (.one (.sl false 2 (cgOf 1 0))) (orR 1 0) := ⟨by kernel_rfl, by kernel_rfl⟩
theorem or_1_1 : same3 fOr fOf (.one (.sl false 2 (cgOf 1 1))) (orR 1 1) := ⟨by kernel_rfl, by kernel_rfl⟩
theorem or_1_5 : same3 fOr fOf (.one (.sl false 2 (cgOf 1 5))) (orR 1 5) := ⟨by kernel_rfl, by kernel_rfl⟩
theorem or_2_0 : same3 fOr fOf (.one (.sl false 2 (cgOf 2 0))) (orR 2 0) := ⟨by kernel_rfl, by kernel_rfl⟩
theorem or_2_1 : same3 fOr fOf (.one (.sl false 2 (cgOf 2 1))) (orR 2 1) := ⟨by kernel_rfl, by kernel_rfl⟩
theorem or_2_5 : same3 fOr fOf (.one (.sl false 2 (cgOf 2 5))) (orR 2 5) := ⟨by kernel_rfl, by kernel_rfl⟩
theorem or_3_0 : same3 fOr fOf (.one (.sl false 2 (cgOf 3 0))) (orR 3 0) := ⟨by kernel_rfl, by kernel_rfl⟩
theorem or_3_1 : same3 fOr fOf (.one (.sl false 2 (cgOf 3 1))) (orR 3 1) := ⟨by kernel_rfl, by kernel_rfl⟩
theorem or_3_5 : same3 fOr fOf (.one (.sl false 2 (cgOf 3 5))) (orR 3 5) := ⟨by kernel_rfl, by kernel_rfl⟩
theorem or_4_0 : same3 fOr fOf (.one (.sl false 2 (cgOf 4 0))) (orR 4 0) := ⟨by kernel_rfl, by kernel_rfl⟩
theorem or_4_1 : same3 fOr fOf (.one (.sl false 2 (cgOf 4 1))) (orR 4 1) := ⟨by kernel_rfl, by kernel_rfl⟩
theorem or_4_5 : same3 fOr fOf (.one (.sl false 2 (cgOf 4 5))) (orR 4 5) := ⟨by kernel_rfl, by kernel_rfl⟩
theorem or_5_0 : same3 fOr fOf (.one (.sl false 2 (cgOf 5 0))) (orR 5 0) := ⟨by kernel_rfl, by kernel_rfl⟩
theorem or_5_1 : same3 fOr fOf (.one (.sl false 2 (cgOf 5 1))) (orR 5 1) := ⟨by kernel_rfl, by kernel_rfl⟩
theorem or_7_0 : same3 fOr fOf (.one (.sl false 2 (cgOf 7 0))) (orR 7 0) := ⟨by kernel_rfl, by kernel_rfl⟩
theorem or_7_1 : same3 fOr fOf (.one (.sl false 2 (cgOf 7 1))) (orR 7 1) := ⟨by kernel_rfl, by kernel_rfl⟩
end Go.Proofs.YtdhkejcldipbmaaGreatDoor

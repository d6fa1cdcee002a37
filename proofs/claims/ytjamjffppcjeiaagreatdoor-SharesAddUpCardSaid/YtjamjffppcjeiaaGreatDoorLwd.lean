
/-
 No table that the contracts ask for stands in this program.
-/
import Derived.Test.YtjamjffppcjeiaaGreatDoorAiA
import Derived.Test.YtjamjffppcjeiaaGreatDoorRows
namespace Go.Proofs.YtjamjffppcjeiaaGreatDoor
open Go Go.Ai
set_option linter.unusedSimpArgs false
set_option linter.unusedVariables false
set_option maxHeartbeats 4000000
theorem laidW_row {W : World} (_ : laidMetH Tryz.prog Rows.batchesStayRow.laid W) : LaidW Tryz.prog W := by
 refine ⟨fun g hg => ?_, fun g n hn hg => ?_⟩
 ·rw [show Tryz.prog.globalNamed "internal/strconv.uint64pow10" = none by kernel_rfl] at hg; cases hg
 ·rcases hn with rfl | rfl
  ·rw [show Tryz.prog.globalNamed "strconv.ErrSyntax" = none by kernel_rfl] at hg; cases hg
  ·rw [show Tryz.prog.globalNamed "strconv.ErrRange" = none by kernel_rfl] at hg; cases hg
end Go.Proofs.YtjamjffppcjeiaaGreatDoor

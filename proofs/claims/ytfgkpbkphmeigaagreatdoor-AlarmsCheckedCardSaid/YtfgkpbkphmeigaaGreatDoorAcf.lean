/-
 AlarmsChecked's row: the closed facts.
-/
import Derived.Test.YtfgkpbkphmeigaaGreatDoorCards
import Derived.Test.YtfgkpbkphmeigaaGreatDoorTie
import Derived.LaidMore
import Derived.Lay
import Derived.Stop.Joined
import Derived.Test.YtfgkpbkphmeigaaGreatDoorRows
namespace Go.Proofs.YtfgkpbkphmeigaaGreatDoor
open Go Go.ChangeShapes Go.WideShapes
theorem ack_named : Tryz.pinned.checked.prog.funcNamed Rows.alarmsCheckedRow.func = some 3 := by kernel_rfl
theorem ack_closed : joinedFacts Tryz.pinned.checked.prog 3 Tryz.f3 Rows.alarmsCheckedSpec Rows.alarmsCheckedRow = true := by kernel_rfl
theorem ack_inst : Tryz.f3.isInstance Tryz.pinned.checked.prog Rows.alarmsCheckedRow.origin Rows.alarmsCheckedRow.targs := of_decide_eq_true (by kernel_rfl)
theorem ack_wrap : Tryz.f3.isWrapper Tryz.pinned.checked.prog Rows.alarmsCheckedRow.wrapper Rows.alarmsCheckedRow.mainSum := by unfold Func.isWrapper; first | (rw [if_pos (by decide +kernel)]; kernel_rfl) | (rw [if_neg (by decide +kernel)]; exact ⟨rfl, rfl⟩)
end Go.Proofs.YtfgkpbkphmeigaaGreatDoor

/-
 AlarmsChecked returns true for every slice of integers, and leaves the slice as it was; the tables that its row lists hold what the program's text lays. No condition.
-/
import Derived.Test.YtfgkpbkphmeigaaGreatDoorAcu
import Derived.Test.YtfgkpbkphmeigaaGreatDoorAcf
import Derived.Test.YtfgkpbkphmeigaaGreatDoorCards
import Derived.Test.YtfgkpbkphmeigaaGreatDoorTie
import Derived.LaidMore
import Derived.Lay
import Derived.Stop.Joined
namespace Go.Proofs.YtfgkpbkphmeigaaGreatDoor
open Go Go.Ai Go.ChangeShapes Go.WideShapes Go.ChangeAt Go.RowKit
theorem ack_over : Rows.alarmsCheckedRow.holds Tryz.pinned (OpenSpec.ofChange Rows.alarmsCheckedSpec) :=
 OpenClaim.holds_of_wide 3 Tryz.f3 rfl rfl rfl rfl rfl rfl rfl ⟨rfl, rfl, rfl, rfl, rfl⟩ rfl rfl rfl rfl rfl ack_named Tryz.func3 ack_closed
  ack_inst ack_wrap
  (fun os started H enc _ => ack_lifted os started H enc)
theorem ack_plain (f : FuncId) (fn : Func) (hf : Tryz.pinned.checked.prog.funcNamed "plantlog/loglaw1.AlarmsChecked" = some f) (hfn : Tryz.pinned.checked.prog.funcs[f]? = some fn) :
  true = Tryz.pinned.checked.prog.looks [] ∧ ∀ (j : Nat) t, fn.params[j]? = some t → Tryz.pinned.checked.prog.wantsStandIn t = false := by
 obtain rfl : f = 3 := Option.some.inj ((show Tryz.prog.funcNamed "plantlog/loglaw1.AlarmsChecked" = some 3 by kernel_rfl).symm.trans hf) |>.symm
 obtain rfl : fn = Tryz.f3 := (Option.some.inj (Tryz.func3.symm.trans hfn)).symm
 refine ⟨by kernel_rfl, fun j t ht => ?_⟩
 rw [Tryz.params3] at ht
 obtain rfl : t = 22 := by simpa using Array.mem_of_getElem? ht
 exact (show Tryz.prog.wantsStandIn 22 = false by kernel_rfl)
theorem ack_card : Claim7.holds Tryz.pinned (.plain (OpenSpec.ofChange Rows.alarmsCheckedSpec)) Rows.alarmsCheckedCard :=
 Claim7.holds_tied_plain_at .later [] _ _ _ _ ack_over (fun _ h => by cases h) (by kernel_rfl) (fun _ h => by cases h) alarmsChecked_row_tie rfl ⟨rfl, rfl⟩ (by kernel_rfl) rfl ack_plain (by kernel_rfl)
theorem alarms_checked : Rows.AlarmsCheckedCardSaid := ack_card
end Go.Proofs.YtfgkpbkphmeigaaGreatDoor

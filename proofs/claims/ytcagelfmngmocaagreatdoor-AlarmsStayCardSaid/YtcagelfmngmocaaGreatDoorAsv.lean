
/-
 AlarmsStay returns true for every slice of integers, and leaves the slice as it was; the tables that its row lists hold what the program's text lays. No condition.
-/
import Derived.Test.YtcagelfmngmocaaGreatDoorAsy
import Derived.Test.YtcagelfmngmocaaGreatDoorAiR
import Derived.Test.YtcagelfmngmocaaGreatDoorCards
import Derived.Test.YtcagelfmngmocaaGreatDoorTie
import Derived.LaidMore
import Derived.Lay
import Derived.Stop.Joined
namespace Go.Proofs.YtcagelfmngmocaaGreatDoor
open Go Go.Ai Go.ChangeShapes Go.WideShapes Go.ChangeAt Go.RowKit
theorem asy_own : ownKnob Tryz.prog.godebug = none := by kernel_rfl
theorem asy_laid : laidOutB Tryz.prog = true := by kernel_rfl
set_option maxRecDepth 100000 in
theorem asy_lifted (os : Os) (started : os.Started) (H : Type) (enc : TypeId × Value → H) :
  ReturnsInHanded {} Tryz.checked os 4 .any (fun w args => (Rows.alarmsStaySpec.pre enc Tryz.prog Tryz.f4 Rows.alarmsStayRow.domain false w args ∧ laidMetH Tryz.prog Rows.alarmsStayRow.laid w) ∧ sizedMet enc Tryz.prog Tryz.f4 (OpenSpec.ofChange Rows.alarmsStaySpec) false w args)
   (Rows.alarmsStaySpec.post enc Tryz.prog Tryz.f4 false true false false) := by
 refine returnsInHanded_of_change_and (C := Tryz.checked) (X := fun w _ => laidMetH Tryz.prog Rows.alarmsStayRow.laid w) (fun _ _ _ hh h => h.of_heap hh) asy_own started (by kernel_rfl) Tryz.func4
  (ChangeSpec.witness_shaped (enc := enc) (C := Tryz.checked) (os := os) (X := fun w _ => laidMetH Tryz.prog Rows.alarmsStayRow.laid w) false (World.laidAll Tryz.prog os Rows.alarmsStayRow.laid) #[.slice none 0 0] 8 (World.laidAll_os _ _ _)
   (World.shaped_of_ZipB (by kernel_rfl) (by kernel_rfl)) (by kernel_rfl) (by kernel_rfl) (by kernel_rfl)
   (by rw [MakeChecks.laidMetH_plain _ _ _ (by kernel_rfl)]; exact laidMet_laidAll _ (by kernel_rfl) (by kernel_rfl))) ?_
 intro W base args ds gs before hval hW _ _ _ _
 exact law_contract (P := Tryz.prog) (fun L h1 h2 => asy_fc L h1 h2) (fun _ _ => rfl) rfl rfl rfl asy_laid (by kernel_rfl) (of_decide_eq_true (by kernel_rfl)) Tryz.underlying22 Tryz.underlying3 (by kernel_rfl) Tryz.underlying4 W base args ds gs before hval hW
theorem asy_over : Rows.alarmsStayRow.holds Tryz.pinned (OpenSpec.ofChange Rows.alarmsStaySpec) :=
 OpenClaim.holds_of_wide 4 Tryz.f4 rfl rfl rfl rfl rfl rfl rfl ⟨rfl, rfl, rfl, rfl, rfl⟩ rfl rfl rfl rfl rfl (by kernel_rfl) Tryz.func4 (by kernel_rfl)
  (of_decide_eq_true (by kernel_rfl)) (by unfold Func.isWrapper; first | (rw [if_pos (by decide +kernel)]; kernel_rfl) | (rw [if_neg (by decide +kernel)]; exact ⟨rfl, rfl⟩))
  (fun os started H enc _ => asy_lifted os started H enc)
theorem asy_plain (f : FuncId) (fn : Func) (hf : Tryz.pinned.checked.prog.funcNamed "plantlog/logkeep1.AlarmsStay" = some f) (hfn : Tryz.pinned.checked.prog.funcs[f]? = some fn) :
  true = Tryz.pinned.checked.prog.looks [] ∧ ∀ (j : Nat) t, fn.params[j]? = some t → Tryz.pinned.checked.prog.wantsStandIn t = false := by
 obtain rfl : f = 4 := Option.some.inj ((show Tryz.prog.funcNamed "plantlog/logkeep1.AlarmsStay" = some 4 by kernel_rfl).symm.trans hf) |>.symm
 obtain rfl : fn = Tryz.f4 := (Option.some.inj (Tryz.func4.symm.trans hfn)).symm
 refine ⟨by kernel_rfl, fun j t ht => ?_⟩
 rw [Tryz.params4] at ht
 obtain rfl : t = 22 := by simpa using Array.mem_of_getElem? ht
 exact (show Tryz.prog.wantsStandIn 22 = false by kernel_rfl)
theorem asy_card : Claim7.holds Tryz.pinned (.plain (OpenSpec.ofChange Rows.alarmsStaySpec)) Rows.alarmsStayCard :=
 Claim7.holds_tied_plain_at .later [] _ _ _ _ asy_over (fun _ h => by cases h) (by kernel_rfl) (fun _ h => by cases h) alarmsStay_row_tie rfl ⟨rfl, rfl⟩ (by kernel_rfl) rfl asy_plain (by kernel_rfl)
theorem alarms_stay : Rows.AlarmsStayCardSaid := asy_card
end Go.Proofs.YtcagelfmngmocaaGreatDoor


/-
 TransfersComeBack returns true for every slice of integers, and leaves the slice as it was; the tables that its row lists hold what the program's text lays. No condition.
-/
import Derived.Test.YthdgbghephnlpaaGreatDoorTcm
import Derived.Test.YthdgbghephnlpaaGreatDoorLwd
import Derived.Test.YthdgbghephnlpaaGreatDoorAiR
import Derived.Test.YthdgbghephnlpaaGreatDoorCards
import Derived.Test.YthdgbghephnlpaaGreatDoorTie
import Derived.LaidMore
import Derived.Lay
import Derived.Stop.Joined
namespace Go.Proofs.YthdgbghephnlpaaGreatDoor
open Go Go.Ai Go.ChangeShapes Go.WideShapes Go.ChangeAt Go.RowKit
theorem tcm_own : ownKnob Tryz.prog.godebug = none := by kernel_rfl
theorem tcm_laid : laidOutB Tryz.prog = true := by kernel_rfl
set_option maxRecDepth 100000 in
theorem tcm_lifted (os : Os) (started : os.Started) (H : Type) (enc : TypeId × Value → H) :
  ReturnsInHanded {} Tryz.checked os 6 .any (fun w args => (Rows.transfersComeBackSpec.pre enc Tryz.prog Tryz.f6 Rows.transfersComeBackRow.domain false w args ∧ laidMetH Tryz.prog Rows.transfersComeBackRow.laid w) ∧ sizedMet enc Tryz.prog Tryz.f6 (OpenSpec.ofChange Rows.transfersComeBackSpec) false w args)
   (Rows.transfersComeBackSpec.post enc Tryz.prog Tryz.f6 false true false false) := by
 refine returnsInHanded_of_change_and (C := Tryz.checked) (X := fun w _ => laidMetH Tryz.prog Rows.transfersComeBackRow.laid w) (fun _ _ _ hh h => h.of_heap hh) tcm_own started (by kernel_rfl) Tryz.func6
  (ChangeSpec.witness_shaped (enc := enc) (C := Tryz.checked) (os := os) (X := fun w _ => laidMetH Tryz.prog Rows.transfersComeBackRow.laid w) false (World.laidAll Tryz.prog os Rows.transfersComeBackRow.laid) #[.slice none 0 0] 8 (World.laidAll_os _ _ _)
   (World.shaped_of_ZipB (by kernel_rfl) (by kernel_rfl)) (by kernel_rfl) (by kernel_rfl) (by kernel_rfl)
   (by rw [MakeChecks.laidMetH_plain _ _ _ (by kernel_rfl)]; exact laidMet_laidAll _ (by kernel_rfl) (by kernel_rfl))) ?_
 intro W base args ds gs before hval hW _ _ _ _
 exact law_contract (P := Tryz.prog) (fun L h1 h2 => tcm_fc L h1 h2) (fun _ _ => rfl) rfl rfl rfl tcm_laid (by kernel_rfl) (of_decide_eq_true (by kernel_rfl)) Tryz.underlying22 Tryz.underlying3 (by kernel_rfl) Tryz.underlying4 W (laidW_row (by assumption)) base args ds gs before hval hW
theorem tcm_over : Rows.transfersComeBackRow.holds Tryz.pinned (OpenSpec.ofChange Rows.transfersComeBackSpec) :=
 OpenClaim.holds_of_wide 6 Tryz.f6 rfl rfl rfl rfl rfl rfl rfl ⟨rfl, rfl, rfl, rfl, rfl⟩ rfl rfl rfl rfl rfl (by kernel_rfl) Tryz.func6 (by kernel_rfl)
  (of_decide_eq_true (by kernel_rfl)) (by unfold Func.isWrapper; first | (rw [if_pos (by decide +kernel)]; kernel_rfl) | (rw [if_neg (by decide +kernel)]; exact ⟨rfl, rfl⟩))
  (fun os started H enc _ => tcm_lifted os started H enc)
theorem tcm_plain (f : FuncId) (fn : Func) (hf : Tryz.pinned.checked.prog.funcNamed "plantlog/logkeep1.TransfersComeBack" = some f) (hfn : Tryz.pinned.checked.prog.funcs[f]? = some fn) :
  true = Tryz.pinned.checked.prog.looks [] ∧ ∀ (j : Nat) t, fn.params[j]? = some t → Tryz.pinned.checked.prog.wantsStandIn t = false := by
 obtain rfl : f = 6 := Option.some.inj ((show Tryz.prog.funcNamed "plantlog/logkeep1.TransfersComeBack" = some 6 by kernel_rfl).symm.trans hf) |>.symm
 obtain rfl : fn = Tryz.f6 := (Option.some.inj (Tryz.func6.symm.trans hfn)).symm
 refine ⟨by kernel_rfl, fun j t ht => ?_⟩
 rw [Tryz.params6] at ht
 obtain rfl : t = 22 := by simpa using Array.mem_of_getElem? ht
 exact (show Tryz.prog.wantsStandIn 22 = false by kernel_rfl)
theorem tcm_card : Claim7.holds Tryz.pinned (.plain (OpenSpec.ofChange Rows.transfersComeBackSpec)) Rows.transfersComeBackCard :=
 Claim7.holds_tied_plain_at .later [] _ _ _ _ tcm_over (fun _ h => by cases h) (by kernel_rfl) (fun _ h => by cases h) transfersComeBack_row_tie rfl ⟨rfl, rfl⟩ (by kernel_rfl) rfl tcm_plain (by kernel_rfl)
theorem transfers_come_back : Rows.TransfersComeBackCardSaid := tcm_card
end Go.Proofs.YthdgbghephnlpaaGreatDoor

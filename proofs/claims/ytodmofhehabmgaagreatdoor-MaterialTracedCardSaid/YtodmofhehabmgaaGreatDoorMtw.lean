/-
 MaterialTraced returns true for every slice of integers, and leaves the slice as it was; the tables that its row lists hold what the program's text lays. No condition.
-/
import Derived.Test.YtodmofhehabmgaaGreatDoorMtr
import Derived.Test.YtodmofhehabmgaaGreatDoorLwd
import Derived.Test.YtodmofhehabmgaaGreatDoorAiR
import Derived.Test.YtodmofhehabmgaaGreatDoorCards
import Derived.Test.YtodmofhehabmgaaGreatDoorTie
import Derived.LaidMore
import Derived.Lay
import Derived.Stop.Joined
namespace Go.Proofs.YtodmofhehabmgaaGreatDoor
open Go Go.Ai Go.ChangeShapes Go.WideShapes Go.ChangeAt Go.RowKit
theorem mtr_own : ownKnob Tryz.prog.godebug = none := by kernel_rfl
theorem mtr_laid : laidOutB Tryz.prog = true := by kernel_rfl
set_option maxRecDepth 100000 in
theorem mtr_lifted (os : Os) (started : os.Started) (H : Type) (enc : TypeId × Value → H) :
  ReturnsInHanded {} Tryz.checked os 3 .any (fun w args => (Rows.materialTracedSpec.pre enc Tryz.prog Tryz.f3 Rows.materialTracedRow.domain false w args ∧ laidMetH Tryz.prog Rows.materialTracedRow.laid w) ∧ sizedMet enc Tryz.prog Tryz.f3 (OpenSpec.ofChange Rows.materialTracedSpec) false w args)
   (Rows.materialTracedSpec.post enc Tryz.prog Tryz.f3 false true false false) := by
 refine returnsInHanded_of_change_and (C := Tryz.checked) (X := fun w _ => laidMetH Tryz.prog Rows.materialTracedRow.laid w) (fun _ _ _ hh h => h.of_heap hh) mtr_own started (by kernel_rfl) Tryz.func3
  (ChangeSpec.witness_shaped (enc := enc) (C := Tryz.checked) (os := os) (X := fun w _ => laidMetH Tryz.prog Rows.materialTracedRow.laid w) false (World.laidAll Tryz.prog os Rows.materialTracedRow.laid) #[.slice none 0 0] 8 (World.laidAll_os _ _ _)
   (World.shaped_of_ZipB (by kernel_rfl) (by kernel_rfl)) (by kernel_rfl) (by kernel_rfl) (by kernel_rfl)
   (by rw [MakeChecks.laidMetH_plain _ _ _ (by kernel_rfl)]; exact laidMet_laidAll _ (by kernel_rfl) (by kernel_rfl))) ?_
 intro W base args ds gs before hval hW _ _ _ _
 exact law_contract (P := Tryz.prog) (fun L h1 h2 => mtr_fc L h1 h2) (fun _ _ => rfl) rfl rfl rfl mtr_laid (by kernel_rfl) (of_decide_eq_true (by kernel_rfl)) Tryz.underlying22 Tryz.underlying3 (by kernel_rfl) Tryz.underlying4 W (laidW_row (by assumption)) base args ds gs before hval hW
theorem mtr_over : Rows.materialTracedRow.holds Tryz.pinned (OpenSpec.ofChange Rows.materialTracedSpec) :=
 OpenClaim.holds_of_wide 3 Tryz.f3 rfl rfl rfl rfl rfl rfl rfl ⟨rfl, rfl, rfl, rfl, rfl⟩ rfl rfl rfl rfl rfl (by kernel_rfl) Tryz.func3 (by kernel_rfl)
  (of_decide_eq_true (by kernel_rfl)) (by unfold Func.isWrapper; first | (rw [if_pos (by decide +kernel)]; kernel_rfl) | (rw [if_neg (by decide +kernel)]; exact ⟨rfl, rfl⟩))
  (fun os started H enc _ => mtr_lifted os started H enc)
theorem mtr_plain (f : FuncId) (fn : Func) (hf : Tryz.pinned.checked.prog.funcNamed "plantlog/loglaw1.MaterialTraced" = some f) (hfn : Tryz.pinned.checked.prog.funcs[f]? = some fn) :
  true = Tryz.pinned.checked.prog.looks [] ∧ ∀ (j : Nat) t, fn.params[j]? = some t → Tryz.pinned.checked.prog.wantsStandIn t = false := by
 obtain rfl : f = 3 := Option.some.inj ((show Tryz.prog.funcNamed "plantlog/loglaw1.MaterialTraced" = some 3 by kernel_rfl).symm.trans hf) |>.symm
 obtain rfl : fn = Tryz.f3 := (Option.some.inj (Tryz.func3.symm.trans hfn)).symm
 refine ⟨by kernel_rfl, fun j t ht => ?_⟩
 rw [Tryz.params3] at ht
 obtain rfl : t = 22 := by simpa using Array.mem_of_getElem? ht
 exact (show Tryz.prog.wantsStandIn 22 = false by kernel_rfl)
theorem mtr_card : Claim7.holds Tryz.pinned (.plain (OpenSpec.ofChange Rows.materialTracedSpec)) Rows.materialTracedCard :=
 Claim7.holds_tied_plain_at .later [] _ _ _ _ mtr_over (fun _ h => by cases h) (by kernel_rfl) (fun _ h => by cases h) materialTraced_row_tie rfl ⟨rfl, rfl⟩ (by kernel_rfl) rfl mtr_plain (by kernel_rfl)
theorem material_traced : Rows.MaterialTracedCardSaid := mtr_card
end Go.Proofs.YtodmofhehabmgaaGreatDoor


/-
 ActsAreOne returns true for every slice of integers, and leaves the slice as it was; the tables that its row lists hold what the program's text lays. No condition.
-/
import Derived.Test.YtcagelfmngmocaaGreatDoorAos
import Derived.Test.YtcagelfmngmocaaGreatDoorAiR
import Derived.Test.YtcagelfmngmocaaGreatDoorCards
import Derived.Test.YtcagelfmngmocaaGreatDoorTie
import Derived.LaidMore
import Derived.Lay
import Derived.Stop.Joined
namespace Go.Proofs.YtcagelfmngmocaaGreatDoor
open Go Go.Ai Go.ChangeShapes Go.WideShapes Go.ChangeAt Go.RowKit
theorem aon_own : ownKnob Tryz.prog.godebug = none := by kernel_rfl
theorem aon_laid : laidOutB Tryz.prog = true := by kernel_rfl
set_option maxRecDepth 100000 in
theorem aon_lifted (os : Os) (started : os.Started) (H : Type) (enc : TypeId × Value → H) :
  ReturnsInHanded {} Tryz.checked os 5 .any (fun w args => (Rows.actsAreOneSpec.pre enc Tryz.prog Tryz.f5 Rows.actsAreOneRow.domain false w args ∧ laidMetH Tryz.prog Rows.actsAreOneRow.laid w) ∧ sizedMet enc Tryz.prog Tryz.f5 (OpenSpec.ofChange Rows.actsAreOneSpec) false w args)
   (Rows.actsAreOneSpec.post enc Tryz.prog Tryz.f5 false true false false) := by
 refine returnsInHanded_of_change_and (C := Tryz.checked) (X := fun w _ => laidMetH Tryz.prog Rows.actsAreOneRow.laid w) (fun _ _ _ hh h => h.of_heap hh) aon_own started (by kernel_rfl) Tryz.func5
  (ChangeSpec.witness_shaped (enc := enc) (C := Tryz.checked) (os := os) (X := fun w _ => laidMetH Tryz.prog Rows.actsAreOneRow.laid w) false (World.laidAll Tryz.prog os Rows.actsAreOneRow.laid) #[.slice none 0 0] 8 (World.laidAll_os _ _ _)
   (World.shaped_of_ZipB (by kernel_rfl) (by kernel_rfl)) (by kernel_rfl) (by kernel_rfl) (by kernel_rfl)
   (by rw [MakeChecks.laidMetH_plain _ _ _ (by kernel_rfl)]; exact laidMet_laidAll _ (by kernel_rfl) (by kernel_rfl))) ?_
 intro W base args ds gs before hval hW _ _ _ _
 exact law_contract (P := Tryz.prog) (fun L h1 h2 => aon_fc L h1 h2) (fun _ _ => rfl) rfl rfl rfl aon_laid (by kernel_rfl) (of_decide_eq_true (by kernel_rfl)) Tryz.underlying22 Tryz.underlying3 (by kernel_rfl) Tryz.underlying4 W base args ds gs before hval hW
theorem aon_over : Rows.actsAreOneRow.holds Tryz.pinned (OpenSpec.ofChange Rows.actsAreOneSpec) :=
 OpenClaim.holds_of_wide 5 Tryz.f5 rfl rfl rfl rfl rfl rfl rfl ⟨rfl, rfl, rfl, rfl, rfl⟩ rfl rfl rfl rfl rfl (by kernel_rfl) Tryz.func5 (by kernel_rfl)
  (of_decide_eq_true (by kernel_rfl)) (by unfold Func.isWrapper; first | (rw [if_pos (by decide +kernel)]; kernel_rfl) | (rw [if_neg (by decide +kernel)]; exact ⟨rfl, rfl⟩))
  (fun os started H enc _ => aon_lifted os started H enc)
theorem aon_plain (f : FuncId) (fn : Func) (hf : Tryz.pinned.checked.prog.funcNamed "plantlog/logkeep1.ActsAreOne" = some f) (hfn : Tryz.pinned.checked.prog.funcs[f]? = some fn) :
  true = Tryz.pinned.checked.prog.looks [] ∧ ∀ (j : Nat) t, fn.params[j]? = some t → Tryz.pinned.checked.prog.wantsStandIn t = false := by
 obtain rfl : f = 5 := Option.some.inj ((show Tryz.prog.funcNamed "plantlog/logkeep1.ActsAreOne" = some 5 by kernel_rfl).symm.trans hf) |>.symm
 obtain rfl : fn = Tryz.f5 := (Option.some.inj (Tryz.func5.symm.trans hfn)).symm
 refine ⟨by kernel_rfl, fun j t ht => ?_⟩
 rw [Tryz.params5] at ht
 obtain rfl : t = 22 := by simpa using Array.mem_of_getElem? ht
 exact (show Tryz.prog.wantsStandIn 22 = false by kernel_rfl)
theorem aon_card : Claim7.holds Tryz.pinned (.plain (OpenSpec.ofChange Rows.actsAreOneSpec)) Rows.actsAreOneCard :=
 Claim7.holds_tied_plain_at .later [] _ _ _ _ aon_over (fun _ h => by cases h) (by kernel_rfl) (fun _ h => by cases h) actsAreOne_row_tie rfl ⟨rfl, rfl⟩ (by kernel_rfl) rfl aon_plain (by kernel_rfl)
theorem acts_are_one : Rows.ActsAreOneCardSaid := aon_card
end Go.Proofs.YtcagelfmngmocaaGreatDoor

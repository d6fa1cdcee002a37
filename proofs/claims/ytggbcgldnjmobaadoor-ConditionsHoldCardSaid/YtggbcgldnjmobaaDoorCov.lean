
/-
  ConditionsHold returns true for every slice of integers, and leaves the slice as it was; the two tables of unicode/utf8 that its row lists hold what the program's text lays. No condition.
-/
import Derived.Test.YtggbcgldnjmobaaDoorCon
import Derived.Test.YtggbcgldnjmobaaDoorAiRow
import Derived.Test.YtggbcgldnjmobaaDoorCards
import Derived.Test.YtggbcgldnjmobaaDoorTie
import Derived.LaidMore
import Derived.Lay
import Derived.Stop.Joined
namespace Go.Proofs.YtggbcgldnjmobaaDoor
open Go Go.Ai Go.ChangeShapes Go.WideShapes Go.ChangeAt Go.RowKit
theorem con_own : ownKnob Tryd.prog.godebug = none := by kernel_rfl
theorem con_laid : laidOutB Tryd.prog = true := by kernel_rfl
set_option maxRecDepth 100000 in
theorem con_lifted (os : Os) (started : os.Started) (H : Type) (enc : TypeId × Value → H) :
    ReturnsInHanded {} Tryd.checked os 3 .any (fun w args => (Rows.conditionsHoldSpec.pre enc Tryd.prog Tryd.f3 Rows.conditionsHoldRow.domain false w args ∧ laidMetH Tryd.prog Rows.conditionsHoldRow.laid w) ∧ sizedMet enc Tryd.prog Tryd.f3 (OpenSpec.ofChange Rows.conditionsHoldSpec) false w args)
      (Rows.conditionsHoldSpec.post enc Tryd.prog Tryd.f3 false true false false) := by
  refine returnsInHanded_of_change_and (C := Tryd.checked) (X := fun w _ => laidMetH Tryd.prog Rows.conditionsHoldRow.laid w) (fun _ _ _ hh h => h.of_heap hh) con_own started (by kernel_rfl) Tryd.func3
    (ChangeSpec.witness_shaped (enc := enc) (C := Tryd.checked) (os := os) (X := fun w _ => laidMetH Tryd.prog Rows.conditionsHoldRow.laid w) false (World.laidAll Tryd.prog os Rows.conditionsHoldRow.laid) #[.slice none 0 0] 8 (World.laidAll_os _ _ _)
      (World.shaped_of_ZipB (by kernel_rfl) (by kernel_rfl)) (by kernel_rfl) (by kernel_rfl) (by kernel_rfl)
      (by rw [MakeChecks.laidMetH_plain _ _ _ (by kernel_rfl)]; exact laidMet_laidAll _ (by kernel_rfl) (by kernel_rfl))) ?_
  intro W base args ds gs before hval hW _ _ _ _
  exact law_contract (P := Tryd.prog) (fun L h1 h2 => con_fc L h1 h2) (fun _ _ => rfl) rfl rfl rfl con_laid (by kernel_rfl) (of_decide_eq_true (by kernel_rfl)) Tryd.underlying22 Tryd.underlying3 (by kernel_rfl) Tryd.underlying4 W base args ds gs before hval hW
theorem con_over : Rows.conditionsHoldRow.holds Tryd.pinned (OpenSpec.ofChange Rows.conditionsHoldSpec) :=
  OpenClaim.holds_of_wide 3 Tryd.f3 rfl rfl rfl rfl rfl rfl rfl ⟨rfl, rfl, rfl, rfl, rfl⟩ rfl rfl rfl rfl rfl (by kernel_rfl) Tryd.func3 (by kernel_rfl)
    (of_decide_eq_true (by kernel_rfl)) (by unfold Func.isWrapper; first | (rw [if_pos (by decide +kernel)]; kernel_rfl) | (rw [if_neg (by decide +kernel)]; exact ⟨rfl, rfl⟩))
    (fun os started H enc _ => con_lifted os started H enc)
theorem con_plain (f : FuncId) (fn : Func) (hf : Tryd.pinned.checked.prog.funcNamed "plantlog/loglaw1.ConditionsHold" = some f) (hfn : Tryd.pinned.checked.prog.funcs[f]? = some fn) :
    false = Tryd.pinned.checked.prog.looks [] ∧ ∀ (j : Nat) t, fn.params[j]? = some t → Tryd.pinned.checked.prog.wantsStandIn t = false := by
  obtain rfl : f = 3 := Option.some.inj ((show Tryd.prog.funcNamed "plantlog/loglaw1.ConditionsHold" = some 3 by kernel_rfl).symm.trans hf) |>.symm
  obtain rfl : fn = Tryd.f3 := (Option.some.inj (Tryd.func3.symm.trans hfn)).symm
  refine ⟨by kernel_rfl, fun j t ht => ?_⟩
  rw [Tryd.params3] at ht
  obtain rfl : t = 22 := by simpa using Array.mem_of_getElem? ht
  exact (show Tryd.prog.wantsStandIn 22 = false by kernel_rfl)
theorem con_card : Claim7.holds Tryd.pinned (.plain (OpenSpec.ofChange Rows.conditionsHoldSpec)) Rows.conditionsHoldCard :=
  Claim7.holds_tied_plain_at .later [] _ _ _ _ con_over (fun _ h => by cases h) (by kernel_rfl) (fun _ h => by cases h) conditionsHold_row_tie rfl ⟨rfl, rfl⟩ (by kernel_rfl) rfl con_plain (by kernel_rfl)
theorem conditions_hold : Rows.ConditionsHoldCardSaid := con_card
end Go.Proofs.YtggbcgldnjmobaaDoor

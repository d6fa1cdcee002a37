
/-
  DeadbandIsEnough returns true for every slice of integers, and leaves the slice as it was. No condition.
-/
import Derived.Test.YtggbcgldnjmobaaDbe
import Derived.Test.YtggbcgldnjmobaaAiRow
import Derived.Test.YtggbcgldnjmobaaRows
namespace Go.Proofs.Ytggbcgldnjmobaa
open Go Go.Ai
theorem dbe_own : ownKnob Try.prog.godebug = none := by kernel_rfl
theorem dbe_laid : laidOutB Try.prog = true := by kernel_rfl
set_option maxRecDepth 100000 in
theorem dbe_lifted (os : Os) (started : os.Started) (H : Type) (enc : TypeId × Value → H) :
    ReturnsInHanded {} Try.checked os 11 .any (Rows.deadbandIsEnoughSpec.pre6 enc Try.prog Try.f11 Rows.deadbandIsEnoughRow.domain false) (Rows.deadbandIsEnoughSpec.post enc Try.prog Try.f11 false true false false) := by
  refine returnsInHanded_of_change (C := Try.checked) dbe_own started (by kernel_rfl) Try.func11
    (ChangeSpec.witness6 (enc := enc) (C := Try.checked) false ⟨#[], #[.slice none 0 0], []⟩ 8 (by kernel_rfl) (by kernel_rfl) (by kernel_rfl) (by kernel_rfl)) ?_
  intro W base args ds gs before hval hW _ _
  exact law_contract (P := Try.prog) (fun L h1 h2 => dbe_fc L h1 h2) (fun _ _ => rfl) rfl rfl rfl dbe_laid (by kernel_rfl) (of_decide_eq_true (by kernel_rfl)) Try.underlying22 Try.underlying3 (by kernel_rfl) Try.underlying4 W base args ds gs before hval hW
theorem dbe_over : Rows.deadbandIsEnoughRow.holds Try.pinned (OpenSpec.ofChange Rows.deadbandIsEnoughSpec) :=
  OpenClaim.holds_of_wide 11 Try.f11 rfl rfl rfl rfl rfl rfl rfl ⟨rfl, rfl, rfl, rfl, rfl⟩ rfl rfl rfl rfl rfl (by kernel_rfl) Try.func11 (by kernel_rfl)
    (of_decide_eq_true (by kernel_rfl)) (by unfold Func.isWrapper; first | (rw [if_pos (by decide +kernel)]; kernel_rfl) | (rw [if_neg (by decide +kernel)]; exact ⟨rfl, rfl⟩))
    (fun os started H enc _ => dbe_lifted os started H enc)
theorem deadband_is_enough : Rows.DeadbandIsEnoughSaid := dbe_over
end Go.Proofs.Ytggbcgldnjmobaa

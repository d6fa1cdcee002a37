/-
  AboveIsAbove returns true for every slice of integers, and leaves the slice as it was: where a tag is above a limit its value is greater, and nowhere else, and a higher limit is passed for no longer, for all samples, windows and limits that its generators make of the slice. No condition.
-/
import Derived.Test.YtkecmbgjhamhiaaAbvc
import Derived.Test.YtkecmbgjhamhiaaAiRow
import Derived.Test.YtkecmbgjhamhiaaRows
namespace Go.Proofs.Ytkecmbgjhamhiaa
open Go Go.Ai
theorem aa_own : ownKnob Try.prog.godebug = none := by kernel_rfl
theorem aa_laid : laidOutB Try.prog = true := by kernel_rfl
set_option maxRecDepth 100000 in
theorem aa_lifted (os : Os) (started : os.Started) (H : Type) (enc : TypeId × Value → H) :
    ReturnsInHanded {} Try.checked os 9 .any (Rows.aboveIsAboveSpec.pre6 enc Try.prog Try.f9 Rows.aboveIsAboveRow.domain false) (Rows.aboveIsAboveSpec.post enc Try.prog Try.f9 false true false false) := by
  refine returnsInHanded_of_change (C := Try.checked) aa_own started (by kernel_rfl) Try.func9
    (ChangeSpec.witness6 (enc := enc) (C := Try.checked) false ⟨#[], #[.slice none 0 0], []⟩ 8 (by kernel_rfl) (by kernel_rfl) (by kernel_rfl) (by kernel_rfl)) ?_
  intro W base args ds gs before hval hW _ _
  exact law_contract (P := Try.prog) (fun L h1 h2 => aa_fc L h1 h2) (fun _ _ => rfl) rfl rfl rfl aa_laid (by kernel_rfl) (of_decide_eq_true (by kernel_rfl)) Try.underlying22 Try.underlying3 (by kernel_rfl) Try.underlying4 W base args ds gs before hval hW
theorem aa_over : Rows.aboveIsAboveRow.holds Try.pinned (OpenSpec.ofChange Rows.aboveIsAboveSpec) :=
  OpenClaim.holds_of_wide 9 Try.f9 rfl rfl rfl rfl rfl rfl rfl ⟨rfl, rfl, rfl, rfl, rfl⟩ rfl rfl rfl rfl rfl (by kernel_rfl) Try.func9 (by kernel_rfl)
    (of_decide_eq_true (by kernel_rfl)) (by unfold Func.isWrapper; first | (rw [if_pos (by decide +kernel)]; kernel_rfl) | (rw [if_neg (by decide +kernel)]; exact ⟨rfl, rfl⟩))
    (fun os started H enc _ => aa_lifted os started H enc)
theorem above_is_above : Rows.AboveIsAboveSaid := aa_over
end Go.Proofs.Ytkecmbgjhamhiaa

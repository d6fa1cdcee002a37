/-
  CrossingsCross returns true for every slice of integers, and leaves the slice as it was: at a crossing the value of a tag is the limit, for all samples and limits that its generators make of the slice. No condition.
-/
import Derived.Test.YtkecmbgjhamhiaaCrxb
import Derived.Test.YtkecmbgjhamhiaaAiRow
import Derived.Test.YtkecmbgjhamhiaaRows
namespace Go.Proofs.Ytkecmbgjhamhiaa
open Go Go.Ai
theorem cc_own : ownKnob Try.prog.godebug = none := by kernel_rfl
theorem cc_laid : laidOutB Try.prog = true := by kernel_rfl
set_option maxRecDepth 100000 in
theorem cc_lifted (os : Os) (started : os.Started) (H : Type) (enc : TypeId × Value → H) :
    ReturnsInHanded {} Try.checked os 10 .any (Rows.crossingsCrossSpec.pre6 enc Try.prog Try.f10 Rows.crossingsCrossRow.domain false) (Rows.crossingsCrossSpec.post enc Try.prog Try.f10 false true false false) := by
  refine returnsInHanded_of_change (C := Try.checked) cc_own started (by kernel_rfl) Try.func10
    (ChangeSpec.witness6 (enc := enc) (C := Try.checked) false ⟨#[], #[.slice none 0 0], []⟩ 8 (by kernel_rfl) (by kernel_rfl) (by kernel_rfl) (by kernel_rfl)) ?_
  intro W base args ds gs before hval hW _ _
  exact law_contract (P := Try.prog) (fun L h1 h2 => cc_fc L h1 h2) (fun _ _ => rfl) rfl rfl rfl cc_laid (by kernel_rfl) (of_decide_eq_true (by kernel_rfl)) Try.underlying22 Try.underlying3 (by kernel_rfl) Try.underlying4 W base args ds gs before hval hW
theorem cc_over : Rows.crossingsCrossRow.holds Try.pinned (OpenSpec.ofChange Rows.crossingsCrossSpec) :=
  OpenClaim.holds_of_wide 10 Try.f10 rfl rfl rfl rfl rfl rfl rfl ⟨rfl, rfl, rfl, rfl, rfl⟩ rfl rfl rfl rfl rfl (by kernel_rfl) Try.func10 (by kernel_rfl)
    (of_decide_eq_true (by kernel_rfl)) (by unfold Func.isWrapper; first | (rw [if_pos (by decide +kernel)]; kernel_rfl) | (rw [if_neg (by decide +kernel)]; exact ⟨rfl, rfl⟩))
    (fun os started H enc _ => cc_lifted os started H enc)
theorem crossings_cross : Rows.CrossingsCrossSaid := cc_over
end Go.Proofs.Ytkecmbgjhamhiaa

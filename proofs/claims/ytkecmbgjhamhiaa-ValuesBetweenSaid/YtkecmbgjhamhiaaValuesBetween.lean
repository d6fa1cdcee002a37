/-
  ValuesBetween returns true for every slice of integers, and leaves the slice as it was: ValueAt and Points are as the reference says, for all samples, moments and windows that its generator makes of the slice. No condition.
-/
import Derived.Test.YtkecmbgjhamhiaaPts
import Derived.Test.YtkecmbgjhamhiaaAiRow
import Derived.Test.YtkecmbgjhamhiaaRows
namespace Go.Proofs.Ytkecmbgjhamhiaa
open Go Go.Ai
theorem vb_own : ownKnob Try.prog.godebug = none := by kernel_rfl
theorem vb_laid : laidOutB Try.prog = true := by kernel_rfl
set_option maxRecDepth 100000 in
theorem vb_lifted (os : Os) (started : os.Started) (H : Type) (enc : TypeId × Value → H) :
    ReturnsInHanded {} Try.checked os 3 .any (Rows.valuesBetweenSpec.pre6 enc Try.prog Try.f3 Rows.valuesBetweenRow.domain false) (Rows.valuesBetweenSpec.post enc Try.prog Try.f3 false true false false) := by
  refine returnsInHanded_of_change (C := Try.checked) vb_own started (by kernel_rfl) Try.func3
    (ChangeSpec.witness6 (enc := enc) (C := Try.checked) false ⟨#[], #[.slice none 0 0], []⟩ 8 (by kernel_rfl) (by kernel_rfl) (by kernel_rfl) (by kernel_rfl)) ?_
  intro W base args ds gs before hval hW _ _
  exact law_contract (P := Try.prog) (fun L h1 h2 => vb_fc L h1 h2) (fun _ _ => rfl) rfl rfl rfl vb_laid (by kernel_rfl) (of_decide_eq_true (by kernel_rfl)) Try.underlying22 Try.underlying3 (by kernel_rfl) Try.underlying4 W base args ds gs before hval hW
theorem vb_over : Rows.valuesBetweenRow.holds Try.pinned (OpenSpec.ofChange Rows.valuesBetweenSpec) :=
  OpenClaim.holds_of_wide 3 Try.f3 rfl rfl rfl rfl rfl rfl rfl ⟨rfl, rfl, rfl, rfl, rfl⟩ rfl rfl rfl rfl rfl (by kernel_rfl) Try.func3 (by kernel_rfl)
    (of_decide_eq_true (by kernel_rfl)) (by unfold Func.isWrapper; first | (rw [if_pos (by decide +kernel)]; kernel_rfl) | (rw [if_neg (by decide +kernel)]; exact ⟨rfl, rfl⟩))
    (fun os started H enc _ => vb_lifted os started H enc)
theorem values_between : Rows.ValuesBetweenSaid := vb_over
end Go.Proofs.Ytkecmbgjhamhiaa

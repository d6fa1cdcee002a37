/-
  LimitsCrossed returns true for every slice of integers, and leaves the slice as it was: Crossings and Change are as the reference says, for all samples, windows and limits that its generator makes of the slice. No condition.
-/
import Derived.Test.YtkecmbgjhamhiaaCrosse
import Derived.Test.YtkecmbgjhamhiaaAiRow
import Derived.Test.YtkecmbgjhamhiaaRows
namespace Go.Proofs.Ytkecmbgjhamhiaa
open Go Go.Ai
theorem lc_own : ownKnob Try.prog.godebug = none := by kernel_rfl
theorem lc_laid : laidOutB Try.prog = true := by kernel_rfl
set_option maxRecDepth 100000 in
theorem lc_lifted (os : Os) (started : os.Started) (H : Type) (enc : TypeId × Value → H) :
    ReturnsInHanded {} Try.checked os 6 .any (Rows.limitsCrossedSpec.pre6 enc Try.prog Try.f6 Rows.limitsCrossedRow.domain false) (Rows.limitsCrossedSpec.post enc Try.prog Try.f6 false true false false) := by
  refine returnsInHanded_of_change (C := Try.checked) lc_own started (by kernel_rfl) Try.func6
    (ChangeSpec.witness6 (enc := enc) (C := Try.checked) false ⟨#[], #[.slice none 0 0], []⟩ 8 (by kernel_rfl) (by kernel_rfl) (by kernel_rfl) (by kernel_rfl)) ?_
  intro W base args ds gs before hval hW _ _
  exact law_contract (P := Try.prog) (fun L h1 h2 => lc_fc L h1 h2) (fun _ _ => rfl) rfl rfl rfl lc_laid (by kernel_rfl) (of_decide_eq_true (by kernel_rfl)) Try.underlying22 Try.underlying3 (by kernel_rfl) Try.underlying4 W base args ds gs before hval hW
theorem lc_over : Rows.limitsCrossedRow.holds Try.pinned (OpenSpec.ofChange Rows.limitsCrossedSpec) :=
  OpenClaim.holds_of_wide 6 Try.f6 rfl rfl rfl rfl rfl rfl rfl ⟨rfl, rfl, rfl, rfl, rfl⟩ rfl rfl rfl rfl rfl (by kernel_rfl) Try.func6 (by kernel_rfl)
    (of_decide_eq_true (by kernel_rfl)) (by unfold Func.isWrapper; first | (rw [if_pos (by decide +kernel)]; kernel_rfl) | (rw [if_neg (by decide +kernel)]; exact ⟨rfl, rfl⟩))
    (fun os started H enc _ => lc_lifted os started H enc)
theorem limits_crossed : Rows.LimitsCrossedSaid := lc_over
end Go.Proofs.Ytkecmbgjhamhiaa

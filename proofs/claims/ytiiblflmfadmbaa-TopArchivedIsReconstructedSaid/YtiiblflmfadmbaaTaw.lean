
/-
 TopArchivedIsReconstructed returns true for every slice of integers, and leaves the slice as it was: what is compressed, appended to a file and read from it reconstructs each value within the deviation. No condition.
-/
import Derived.Test.YtiiblflmfadmbaaTar
import Derived.Test.YtiiblflmfadmbaaAiR
import Derived.Test.YtiiblflmfadmbaaRows
namespace Go.Proofs.Ytiiblflmfadmbaa
open Go Go.Ai
set_option linter.unusedSimpArgs false
set_option linter.unusedVariables false
set_option maxHeartbeats 4000000
theorem laidW_row {W : World} {p : Prop} (_ : p) : LaidW Try.prog W := by
 refine ⟨fun g hg => ?_, fun g n hn hg => ?_⟩
 ·rw [show Try.prog.globalNamed "internal/strconv.uint64pow10" = none by kernel_rfl] at hg; cases hg
 ·rcases hn with rfl | rfl
  ·rw [show Try.prog.globalNamed "strconv.ErrSyntax" = none by kernel_rfl] at hg; cases hg
  ·rw [show Try.prog.globalNamed "strconv.ErrRange" = none by kernel_rfl] at hg; cases hg
theorem tar_own : ownKnob Try.prog.godebug = none := by kernel_rfl
theorem tar_laid : laidOutB Try.prog = true := by kernel_rfl
set_option maxRecDepth 100000 in
theorem tar_lifted (os : Os) (started : os.Started) (H : Type) (enc : TypeId × Value → H) :
  ReturnsInHanded {} Try.checked os 3 .any (Rows.topArchivedIsReconstructedSpec.pre6 enc Try.prog Try.f3 Rows.topArchivedIsReconstructedRow.domain false) (Rows.topArchivedIsReconstructedSpec.post enc Try.prog Try.f3 false true false false) := by
 refine returnsInHanded_of_change (C := Try.checked) tar_own started (by kernel_rfl) Try.func3
  (ChangeSpec.witness6 (enc := enc) (C := Try.checked) false ⟨#[], #[.slice none 0 0], []⟩ 8 (by kernel_rfl) (by kernel_rfl) (by kernel_rfl) (by kernel_rfl)) ?_
 intro W base args ds gs before hval hW _ _
 exact law_contract (P := Try.prog) (fun L h1 h2 => tar_fc L h1 h2) (fun _ _ => rfl) rfl rfl rfl tar_laid (by kernel_rfl) (of_decide_eq_true (by kernel_rfl)) Try.underlying22 Try.underlying3 (by kernel_rfl) Try.underlying4 W (laidW_row (by assumption)) base args ds gs before hval hW
theorem tar_over : Rows.topArchivedIsReconstructedRow.holds Try.pinned (OpenSpec.ofChange Rows.topArchivedIsReconstructedSpec) :=
 OpenClaim.holds_of_wide 3 Try.f3 rfl rfl rfl rfl rfl rfl rfl ⟨rfl, rfl, rfl, rfl, rfl⟩ rfl rfl rfl rfl rfl (by kernel_rfl) Try.func3 (by kernel_rfl)
  (of_decide_eq_true (by kernel_rfl)) (by unfold Func.isWrapper; first | (rw [if_pos (by decide +kernel)]; kernel_rfl) | (rw [if_neg (by decide +kernel)]; exact ⟨rfl, rfl⟩))
  (fun os started H enc _ => tar_lifted os started H enc)
theorem top_archived_is_reconstructed : Rows.TopArchivedIsReconstructedSaid := tar_over
end Go.Proofs.Ytiiblflmfadmbaa

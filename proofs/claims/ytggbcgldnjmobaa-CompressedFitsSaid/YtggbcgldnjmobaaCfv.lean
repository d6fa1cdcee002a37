
/-
  CompressedFits returns true for every slice of integers, and leaves the slice as it was. No condition.
-/
import Derived.Test.YtggbcgldnjmobaaCfi
import Derived.Test.YtggbcgldnjmobaaAiRow
import Derived.Test.YtggbcgldnjmobaaRows
namespace Go.Proofs.Ytggbcgldnjmobaa
open Go Go.Ai
theorem cfits_own : ownKnob Try.prog.godebug = none := by kernel_rfl
theorem cfits_laid : laidOutB Try.prog = true := by kernel_rfl
set_option maxRecDepth 100000 in
theorem cfits_lifted (os : Os) (started : os.Started) (H : Type) (enc : TypeId × Value → H) :
    ReturnsInHanded {} Try.checked os 10 .any (Rows.compressedFitsSpec.pre6 enc Try.prog Try.f10 Rows.compressedFitsRow.domain false) (Rows.compressedFitsSpec.post enc Try.prog Try.f10 false true false false) := by
  refine returnsInHanded_of_change (C := Try.checked) cfits_own started (by kernel_rfl) Try.func10
    (ChangeSpec.witness6 (enc := enc) (C := Try.checked) false ⟨#[], #[.slice none 0 0], []⟩ 8 (by kernel_rfl) (by kernel_rfl) (by kernel_rfl) (by kernel_rfl)) ?_
  intro W base args ds gs before hval hW _ _
  exact law_contract (P := Try.prog) (fun L h1 h2 => cfits_fc L h1 h2) (fun _ _ => rfl) rfl rfl rfl cfits_laid (by kernel_rfl) (of_decide_eq_true (by kernel_rfl)) Try.underlying22 Try.underlying3 (by kernel_rfl) Try.underlying4 W base args ds gs before hval hW
theorem cfits_over : Rows.compressedFitsRow.holds Try.pinned (OpenSpec.ofChange Rows.compressedFitsSpec) :=
  OpenClaim.holds_of_wide 10 Try.f10 rfl rfl rfl rfl rfl rfl rfl ⟨rfl, rfl, rfl, rfl, rfl⟩ rfl rfl rfl rfl rfl (by kernel_rfl) Try.func10 (by kernel_rfl)
    (of_decide_eq_true (by kernel_rfl)) (by unfold Func.isWrapper; first | (rw [if_pos (by decide +kernel)]; kernel_rfl) | (rw [if_neg (by decide +kernel)]; exact ⟨rfl, rfl⟩))
    (fun os started H enc _ => cfits_lifted os started H enc)
theorem compressed_fits : Rows.CompressedFitsSaid := cfits_over
end Go.Proofs.Ytggbcgldnjmobaa

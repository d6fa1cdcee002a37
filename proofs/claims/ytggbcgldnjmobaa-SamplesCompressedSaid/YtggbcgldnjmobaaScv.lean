
/-
  SamplesCompressed returns true for every slice of integers, and leaves the slice as it was: Compress, Fits, Minimum and Steps are as the reference says, for all doors, samples and places that its generators make of the slice. No condition.
-/
import Derived.Test.YtggbcgldnjmobaaScm
import Derived.Test.YtggbcgldnjmobaaAiRow
import Derived.Test.YtggbcgldnjmobaaRows
namespace Go.Proofs.Ytggbcgldnjmobaa
open Go Go.Ai
theorem scm_own : ownKnob Try.prog.godebug = none := by kernel_rfl
theorem scm_laid : laidOutB Try.prog = true := by kernel_rfl
set_option maxRecDepth 100000 in
theorem scm_lifted (os : Os) (started : os.Started) (H : Type) (enc : TypeId × Value → H) :
    ReturnsInHanded {} Try.checked os 4 .any (Rows.samplesCompressedSpec.pre6 enc Try.prog Try.f4 Rows.samplesCompressedRow.domain false) (Rows.samplesCompressedSpec.post enc Try.prog Try.f4 false true false false) := by
  refine returnsInHanded_of_change (C := Try.checked) scm_own started (by kernel_rfl) Try.func4
    (ChangeSpec.witness6 (enc := enc) (C := Try.checked) false ⟨#[], #[.slice none 0 0], []⟩ 8 (by kernel_rfl) (by kernel_rfl) (by kernel_rfl) (by kernel_rfl)) ?_
  intro W base args ds gs before hval hW _ _
  exact law_contract (P := Try.prog) (fun L h1 h2 => scm_fc L h1 h2) (fun _ _ => rfl) rfl rfl rfl scm_laid (by kernel_rfl) (of_decide_eq_true (by kernel_rfl)) Try.underlying22 Try.underlying3 (by kernel_rfl) Try.underlying4 W base args ds gs before hval hW
theorem scm_over : Rows.samplesCompressedRow.holds Try.pinned (OpenSpec.ofChange Rows.samplesCompressedSpec) :=
  OpenClaim.holds_of_wide 4 Try.f4 rfl rfl rfl rfl rfl rfl rfl ⟨rfl, rfl, rfl, rfl, rfl⟩ rfl rfl rfl rfl rfl (by kernel_rfl) Try.func4 (by kernel_rfl)
    (of_decide_eq_true (by kernel_rfl)) (by unfold Func.isWrapper; first | (rw [if_pos (by decide +kernel)]; kernel_rfl) | (rw [if_neg (by decide +kernel)]; exact ⟨rfl, rfl⟩))
    (fun os started H enc _ => scm_lifted os started H enc)
theorem samples_compressed : Rows.SamplesCompressedSaid := scm_over
end Go.Proofs.Ytggbcgldnjmobaa

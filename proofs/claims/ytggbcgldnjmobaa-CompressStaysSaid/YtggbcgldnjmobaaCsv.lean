
/-
  CompressStays returns true for every slice of integers, and leaves the slice as it was. No condition.
-/
import Derived.Test.YtggbcgldnjmobaaCst
import Derived.Test.YtggbcgldnjmobaaAiRow
import Derived.Test.YtggbcgldnjmobaaRows
namespace Go.Proofs.Ytggbcgldnjmobaa
open Go Go.Ai
theorem cs_own : ownKnob Try.prog.godebug = none := by kernel_rfl
theorem cs_laid : laidOutB Try.prog = true := by kernel_rfl
set_option maxRecDepth 100000 in
theorem cs_lifted (os : Os) (started : os.Started) (H : Type) (enc : TypeId × Value → H) :
    ReturnsInHanded {} Try.checked os 7 .any (Rows.compressStaysSpec.pre6 enc Try.prog Try.f7 Rows.compressStaysRow.domain false) (Rows.compressStaysSpec.post enc Try.prog Try.f7 false true false false) := by
  refine returnsInHanded_of_change (C := Try.checked) cs_own started (by kernel_rfl) Try.func7
    (ChangeSpec.witness6 (enc := enc) (C := Try.checked) false ⟨#[], #[.slice none 0 0], []⟩ 8 (by kernel_rfl) (by kernel_rfl) (by kernel_rfl) (by kernel_rfl)) ?_
  intro W base args ds gs before hval hW _ _
  exact law_contract (P := Try.prog) (fun L h1 h2 => cs_fc L h1 h2) (fun _ _ => rfl) rfl rfl rfl cs_laid (by kernel_rfl) (of_decide_eq_true (by kernel_rfl)) Try.underlying22 Try.underlying3 (by kernel_rfl) Try.underlying4 W base args ds gs before hval hW
theorem cs_over : Rows.compressStaysRow.holds Try.pinned (OpenSpec.ofChange Rows.compressStaysSpec) :=
  OpenClaim.holds_of_wide 7 Try.f7 rfl rfl rfl rfl rfl rfl rfl ⟨rfl, rfl, rfl, rfl, rfl⟩ rfl rfl rfl rfl rfl (by kernel_rfl) Try.func7 (by kernel_rfl)
    (of_decide_eq_true (by kernel_rfl)) (by unfold Func.isWrapper; first | (rw [if_pos (by decide +kernel)]; kernel_rfl) | (rw [if_neg (by decide +kernel)]; exact ⟨rfl, rfl⟩))
    (fun os started H enc _ => cs_lifted os started H enc)
theorem compress_stays : Rows.CompressStaysSaid := cs_over
end Go.Proofs.Ytggbcgldnjmobaa

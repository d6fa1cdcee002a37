/-
  SamplesReported returns true for every slice of integers, and leaves the slice as it was: CheckException, CheckDoor and Report are as the reference says, for all exceptions, doors and samples that its generators make of the slice. No condition.
-/
import Derived.Test.YtkecmbgjhamhiaaRepc
import Derived.Test.YtkecmbgjhamhiaaAiRow
import Derived.Test.YtkecmbgjhamhiaaRows
namespace Go.Proofs.Ytkecmbgjhamhiaa
open Go Go.Ai
theorem sr_own : ownKnob Try.prog.godebug = none := by kernel_rfl
theorem sr_laid : laidOutB Try.prog = true := by kernel_rfl
set_option maxRecDepth 100000 in
theorem sr_lifted (os : Os) (started : os.Started) (H : Type) (enc : TypeId × Value → H) :
    ReturnsInHanded {} Try.checked os 4 .any (Rows.samplesReportedSpec.pre6 enc Try.prog Try.f4 Rows.samplesReportedRow.domain false) (Rows.samplesReportedSpec.post enc Try.prog Try.f4 false true false false) := by
  refine returnsInHanded_of_change (C := Try.checked) sr_own started (by kernel_rfl) Try.func4
    (ChangeSpec.witness6 (enc := enc) (C := Try.checked) false ⟨#[], #[.slice none 0 0], []⟩ 8 (by kernel_rfl) (by kernel_rfl) (by kernel_rfl) (by kernel_rfl)) ?_
  intro W base args ds gs before hval hW _ _
  exact law_contract (P := Try.prog) (fun L h1 h2 => sr_fc L h1 h2) (fun _ _ => rfl) rfl rfl rfl sr_laid (by kernel_rfl) (of_decide_eq_true (by kernel_rfl)) Try.underlying22 Try.underlying3 (by kernel_rfl) Try.underlying4 W base args ds gs before hval hW
theorem sr_over : Rows.samplesReportedRow.holds Try.pinned (OpenSpec.ofChange Rows.samplesReportedSpec) :=
  OpenClaim.holds_of_wide 4 Try.f4 rfl rfl rfl rfl rfl rfl rfl ⟨rfl, rfl, rfl, rfl, rfl⟩ rfl rfl rfl rfl rfl (by kernel_rfl) Try.func4 (by kernel_rfl)
    (of_decide_eq_true (by kernel_rfl)) (by unfold Func.isWrapper; first | (rw [if_pos (by decide +kernel)]; kernel_rfl) | (rw [if_neg (by decide +kernel)]; exact ⟨rfl, rfl⟩))
    (fun os started H enc _ => sr_lifted os started H enc)
theorem samples_reported : Rows.SamplesReportedSaid := sr_over
end Go.Proofs.Ytkecmbgjhamhiaa

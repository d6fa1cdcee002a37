/-
  CountersTotalled returns true for every slice of integers, and leaves the slice as it was: Total and Count are as the reference says, for all samples, windows and rolls that its generator makes of the slice. No condition.
-/
import Derived.Test.YtkecmbgjhamhiaaTotc
import Derived.Test.YtkecmbgjhamhiaaAiRow
import Derived.Test.YtkecmbgjhamhiaaRows
namespace Go.Proofs.Ytkecmbgjhamhiaa
open Go Go.Ai
theorem ct_own : ownKnob Try.prog.godebug = none := by kernel_rfl
theorem ct_laid : laidOutB Try.prog = true := by kernel_rfl
set_option maxRecDepth 100000 in
theorem ct_lifted (os : Os) (started : os.Started) (H : Type) (enc : TypeId × Value → H) :
    ReturnsInHanded {} Try.checked os 5 .any (Rows.countersTotalledSpec.pre6 enc Try.prog Try.f5 Rows.countersTotalledRow.domain false) (Rows.countersTotalledSpec.post enc Try.prog Try.f5 false true false false) := by
  refine returnsInHanded_of_change (C := Try.checked) ct_own started (by kernel_rfl) Try.func5
    (ChangeSpec.witness6 (enc := enc) (C := Try.checked) false ⟨#[], #[.slice none 0 0], []⟩ 8 (by kernel_rfl) (by kernel_rfl) (by kernel_rfl) (by kernel_rfl)) ?_
  intro W base args ds gs before hval hW _ _
  exact law_contract (P := Try.prog) (fun L h1 h2 => ct_fc L h1 h2) (fun _ _ => rfl) rfl rfl rfl ct_laid (by kernel_rfl) (of_decide_eq_true (by kernel_rfl)) Try.underlying22 Try.underlying3 (by kernel_rfl) Try.underlying4 W base args ds gs before hval hW
theorem ct_over : Rows.countersTotalledRow.holds Try.pinned (OpenSpec.ofChange Rows.countersTotalledSpec) :=
  OpenClaim.holds_of_wide 5 Try.f5 rfl rfl rfl rfl rfl rfl rfl ⟨rfl, rfl, rfl, rfl, rfl⟩ rfl rfl rfl rfl rfl (by kernel_rfl) Try.func5 (by kernel_rfl)
    (of_decide_eq_true (by kernel_rfl)) (by unfold Func.isWrapper; first | (rw [if_pos (by decide +kernel)]; kernel_rfl) | (rw [if_neg (by decide +kernel)]; exact ⟨rfl, rfl⟩))
    (fun os started H enc _ => ct_lifted os started H enc)
theorem counters_totalled : Rows.CountersTotalledSaid := ct_over
end Go.Proofs.Ytkecmbgjhamhiaa

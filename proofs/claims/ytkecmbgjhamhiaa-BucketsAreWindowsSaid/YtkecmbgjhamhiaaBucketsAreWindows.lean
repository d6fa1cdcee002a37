/-
  BucketsAreWindows returns true for every slice of integers, and leaves the slice as it was: buckets are the aggregates of their windows, which divide the window, for all samples, windows and intervals that its generators make of the slice. No condition.
-/
import Derived.Test.YtkecmbgjhamhiaaBktb
import Derived.Test.YtkecmbgjhamhiaaAiRow
import Derived.Test.YtkecmbgjhamhiaaRows
namespace Go.Proofs.Ytkecmbgjhamhiaa
open Go Go.Ai
theorem bw_own : ownKnob Try.prog.godebug = none := by kernel_rfl
theorem bw_laid : laidOutB Try.prog = true := by kernel_rfl
set_option maxRecDepth 100000 in
theorem bw_lifted (os : Os) (started : os.Started) (H : Type) (enc : TypeId × Value → H) :
    ReturnsInHanded {} Try.checked os 11 .any (Rows.bucketsAreWindowsSpec.pre6 enc Try.prog Try.f11 Rows.bucketsAreWindowsRow.domain false) (Rows.bucketsAreWindowsSpec.post enc Try.prog Try.f11 false true false false) := by
  refine returnsInHanded_of_change (C := Try.checked) bw_own started (by kernel_rfl) Try.func11
    (ChangeSpec.witness6 (enc := enc) (C := Try.checked) false ⟨#[], #[.slice none 0 0], []⟩ 8 (by kernel_rfl) (by kernel_rfl) (by kernel_rfl) (by kernel_rfl)) ?_
  intro W base args ds gs before hval hW _ _
  exact law_contract (P := Try.prog) (fun L h1 h2 => bw_fc L h1 h2) (fun _ _ => rfl) rfl rfl rfl bw_laid (by kernel_rfl) (of_decide_eq_true (by kernel_rfl)) Try.underlying22 Try.underlying3 (by kernel_rfl) Try.underlying4 W base args ds gs before hval hW
theorem bw_over : Rows.bucketsAreWindowsRow.holds Try.pinned (OpenSpec.ofChange Rows.bucketsAreWindowsSpec) :=
  OpenClaim.holds_of_wide 11 Try.f11 rfl rfl rfl rfl rfl rfl rfl ⟨rfl, rfl, rfl, rfl, rfl⟩ rfl rfl rfl rfl rfl (by kernel_rfl) Try.func11 (by kernel_rfl)
    (of_decide_eq_true (by kernel_rfl)) (by unfold Func.isWrapper; first | (rw [if_pos (by decide +kernel)]; kernel_rfl) | (rw [if_neg (by decide +kernel)]; exact ⟨rfl, rfl⟩))
    (fun os started H enc _ => bw_lifted os started H enc)
theorem buckets_are_windows : Rows.BucketsAreWindowsSaid := bw_over
end Go.Proofs.Ytkecmbgjhamhiaa

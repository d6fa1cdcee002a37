/-
 Frames: slices.DeleteFunc over windows, raw, Frames.
-/
import Derived.Test.YtfgkpbkphmeigaaGreatDoorCrs
namespace Go.Proofs.YtfgkpbkphmeigaaGreatDoor
open Go Go.Ai
set_option linter.unusedSimpArgs false
set_option linter.unusedVariables false
set_option maxHeartbeats 4000000
def setTo (out : List (Int × Int)) (t : Int) : List (Int × Int) := out.set ((out.length : Int) - 1).toNat ((out.getD ((out.length : Int) - 1).toNat default).1, t)
theorem setTo_len (out : List (Int × Int)) (t : Int) : (setTo out t).length = out.length := by unfold setTo; rw [List.length_set]
theorem Good.all {l : List Smp} (h : Good l) : ∀ s ∈ l, okSmp s := fun s hs => by
 obtain ⟨j, hj, rfl⟩ := List.mem_iff_getElem.1 hs
 have := h.ok j hj
 simpa [List.getD_eq_getElem?_getD, hj] using this
end Go.Proofs.YtfgkpbkphmeigaaGreatDoor

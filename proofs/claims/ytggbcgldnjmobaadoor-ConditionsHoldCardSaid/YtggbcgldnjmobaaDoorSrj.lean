
/-
  slices.Sort at []int, on a row that is handed over.
-/
import Derived.Test.YtggbcgldnjmobaaDoorSri
import Derived.Shelf.Sort.Plain
namespace Go.Proofs.YtggbcgldnjmobaaDoor
open Go Go.Ai Go.Sort Go.Proofs
set_option linter.unusedSimpArgs false
set_option linter.unusedVariables false
set_option maxHeartbeats 4000000
def srtI (l : List Int) : List Int := l.mergeSort fun x y => decide (x ≤ y)
theorem sortI_fcms (l : List Int) (hl : l ≠ []) (hsz : l.length < 4611686018427387904) : FCMS Tryd.prog 31 [1000000] ⟨[], [(1000000, nRow l)]⟩ [.one (.ow 1000000 0)] (fun H r => H = ⟨[], [(1000000, nRow (srtI l))]⟩ ∧ r = .tu []) := by
  have hlen : (srtI l).length = l.length := List.length_mergeSort l
  refine fcms_int [1000000] l (srtI l) hl (by omega) _ ⟨Tryd.f31, Tryd.func31, by kernel_rfl, by kernel_rfl⟩ (fun _ => hlen) (fun _ _ => .tuple #[])
    (fun w ok base E g cap he => .tu (us := []) rfl (fun i x u h => by simp at h))
    (fun g cap w hH hg hc => ?_)
  refine Calls.mono (Any.slices_Sort_int LaySort g 0 cap l w hH hg hsz) ?_
  rintro e w' ⟨rfl, n, os, rfl⟩
  exact ⟨rfl, n, os, srtI l, hlen, List.take_length, rfl⟩
end Go.Proofs.YtggbcgldnjmobaaDoor

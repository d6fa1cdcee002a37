
/-
 A compressor: made, handed one sample, flushed.
-/
import Derived.Test.YtiiblflmfadmbaaCof
namespace Go.Proofs.Ytiiblflmfadmbaa
open Go Go.Ai
set_option linter.unusedSimpArgs false
set_option linter.unusedVariables false
set_option maxHeartbeats 4000000
def adF (l : List Smp) (s : Smp) : Int := if smpFault s ≠ 0 then smpFault s else if 0 < l.length ∧ s.a ≤ (l.getD ((l.length : Int) - 1).toNat default).a then 7 else 0
def ini (dv mg : Int) : Sc := ⟨dv, mg, false, ⟨0, 0, 0⟩, ⟨0, 0, 0⟩, false, 0, 0, 0, 0⟩
end Go.Proofs.Ytiiblflmfadmbaa


/-
 Numbers of errors.
-/
import Derived.Test.YtdhkejcldipbmaaGreatDoorTab
namespace Go.Proofs.YtdhkejcldipbmaaGreatDoor
open Go Go.Ai Go.Proofs
/-- What may be told: a number of an error, or none. -/
def errN (e : Int) : Prop := e = 0 ∨ ∃ m : Nat, e = ((m + 1 : Nat) : Int)
theorem errN_nat (n : Nat) : errN (Int.ofNat n) := by
 cases n with
 | zero => exact .inl rfl
 | succ m => exact .inr ⟨m, rfl⟩
end Go.Proofs.YtdhkejcldipbmaaGreatDoor

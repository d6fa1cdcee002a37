
/-
 Sites, one part after the other: calculated tags and alarms, expanded.
-/
import Derived.Test.YtdhkejcldipbmaaGreatDoorStb
namespace Go.Proofs.YtdhkejcldipbmaaGreatDoor
open Go Go.Ai Go.Proofs
set_option linter.unusedSimpArgs false
set_option linter.unusedVariables false
set_option maxHeartbeats 4000000
set_option maxRecDepth 100000
def exI : Nat → ByteArray
 | 0 => (ByteArray.mk #[37, 95, 116, 101, 109, 112, 32, 43, 32, 37, 95, 102, 108, 111, 119])
 | 1 => (ByteArray.mk #[37, 95, 116, 101, 109, 112])
 | 2 => (ByteArray.mk #[37, 95, 116, 101, 109, 112, 64, 53])
 | 3 => (ByteArray.mk #[103, 111, 111, 100, 40, 37, 95, 102, 108, 111, 119, 41])
 | 4 => (ByteArray.mk #[37, 95, 115, 117, 109])
 | 5 => (ByteArray.mk #[40])
 | _ => (ByteArray.mk #[37, 95, 111, 116, 104, 101, 114])
/-- The calculated tags of a template. -/
def cxJ : Nat → List (List Cel)
 | 0 => []
 | 1 => [[gS (ByteArray.mk #[37, 95, 115, 117, 109]), gS (exI 0)]]
 | 2 => [[gS (ByteArray.mk #[37, 95, 115, 117, 109]), gS (exI 1)]]
 | 3 => [[gS (ByteArray.mk #[37, 95, 115, 117, 109]), gS (exI 2)]]
 | 4 => [[gS (ByteArray.mk #[37, 95, 115, 117, 109]), gS (exI 3)]]
 | 5 => [[gS (ByteArray.mk #[37, 95, 115, 117, 109]), gS (exI 4)], [gS (ByteArray.mk #[37, 95, 111, 116, 104, 101, 114]), gS (ByteArray.mk #[37, 95, 115, 117, 109])]]
 | 6 => [[gS (ByteArray.mk #[37, 95, 115, 117, 109]), gS (exI 5)], [gS (ByteArray.mk #[37, 95, 111, 116, 104, 101, 114]), gS (ByteArray.mk #[37, 95, 115, 117, 109])]]
 | 7 => [[gS (ByteArray.mk #[37, 95, 115, 117, 109]), gS (exI 6)], [gS (ByteArray.mk #[37, 95, 111, 116, 104, 101, 114]), gS (ByteArray.mk #[37, 95, 115, 117, 109])]]
 | 8 => [[gS (ByteArray.mk #[37, 95, 115, 117, 109]), gS (exI 4)], [gS (ByteArray.mk #[37, 95, 102, 108, 111, 119]), gS (ByteArray.mk #[37, 95, 115, 117, 109])]]
 | 9 => [[gS (ByteArray.mk #[37, 95, 115, 117, 109]), gS (exI 5)], [gS (ByteArray.mk #[37, 95, 102, 108, 111, 119]), gS (ByteArray.mk #[37, 95, 115, 117, 109])]]
 | _ => [[gS (ByteArray.mk #[37, 95, 115, 117, 109]), gS (exI 6)], [gS (ByteArray.mk #[37, 95, 102, 108, 111, 119]), gS (ByteArray.mk #[37, 95, 115, 117, 109])]]
def repC (k : ByteArray) : Cel → Cel
 | .g (.string b) => .g (.string (rep k b))
 | c => c
def cgOf (j s : Nat) : List (List Cel) := isoK [] ((sqK s).flatMap fun x => if x.2 then (cxJ j).map (List.map (repC x.1)) else [])
theorem cg_run (j : Nat) (hj : j ∈ [0, 1, 2, 3, 4]) (s : Nat) (hs : s ∈ [0, 1, 2, 3, 4, 5]) (a1 a2 a3 : ByteArray) (tg ax C : List (List Cel)) :
  R fCg [sA (tplN tg (cxJ j) ax) (sqI a1 a2 a3 s) C] = some ([], .one (.sl true 2 (cgOf j s))) ∧ R fCr [sA (tplN tg (cxJ j) ax) (sqI a1 a2 a3 s) C] = some ([], .one (.sl true 2 (cgOf j s))) := by
 simp only [List.mem_cons, List.not_mem_nil, or_false] at hj hs
 rcases hj with rfl | rfl | rfl | rfl | rfl <;> rcases hs with rfl | rfl | rfl | rfl | rfl | rfl <;> exact ⟨by kernel_rfl, by kernel_rfl⟩
end Go.Proofs.YtdhkejcldipbmaaGreatDoor


/-
 Sites, one part after the other: what is expanded.
-/
import Derived.Test.YtdhkejcldipbmaaGreatDoorTab
import Derived.Test.YtdhkejcldipbmaaGreatDoorSta
namespace Go.Proofs.YtdhkejcldipbmaaGreatDoor
open Go Go.Ai Go.Proofs
set_option linter.unusedSimpArgs false
set_option linter.unusedVariables false
set_option maxHeartbeats 4000000
set_option maxRecDepth 100000
abbrev fTg : FuncId := 45
abbrev fTr : FuncId := 15
abbrev fCg : FuncId := 46
abbrev fCr : FuncId := 17
abbrev fAg : FuncId := 47
abbrev fAr : FuncId := 19
/-- Assets in a row: keys and templates; their parents may be any. -/
def sqI (a1 a2 a3 : ByteArray) : Nat → List (List Cel)
 | 0 => [asE (ByteArray.mk #[112, 49]) a1 (ByteArray.mk #[112, 117, 109, 112])]
 | 1 => [asE (ByteArray.mk #[112, 49]) a1 (ByteArray.mk #[112, 117, 109, 112]), asE (ByteArray.mk #[112, 50]) a2 (ByteArray.mk #[112, 117, 109, 112])]
 | 2 => [asE (ByteArray.mk #[112, 49]) a1 (ByteArray.mk #[112, 117, 109, 112]), asE (ByteArray.mk #[112, 50]) a2 (ByteArray.mk #[116, 97, 110, 107])]
 | 3 => [asE (ByteArray.mk #[112, 49]) a1 (ByteArray.mk #[112, 117, 109, 112]), asE (ByteArray.mk #[112, 50]) a2 (ByteArray.mk #[112, 117, 109, 112]), asE (ByteArray.mk #[112, 51]) a3 (ByteArray.mk #[116, 97, 110, 107])]
 | 4 => [asE (ByteArray.mk #[112, 49]) a1 (ByteArray.mk #[112, 117, 109, 112]), asE (ByteArray.mk #[112, 50]) a2 (ByteArray.mk #[116, 97, 110, 107]), asE (ByteArray.mk #[112, 51]) a3 (ByteArray.mk #[116, 97, 110, 107])]
 | _ => [asE (ByteArray.mk #[112, 57]) a1 (ByteArray.mk #[112, 117, 109, 112])]
/-- Keys and templates alone. -/
def sqK : Nat → List (ByteArray × Bool)
 | 0 => [((ByteArray.mk #[112, 49]), true)]
 | 1 => [((ByteArray.mk #[112, 49]), true), ((ByteArray.mk #[112, 50]), true)]
 | 2 => [((ByteArray.mk #[112, 49]), true), ((ByteArray.mk #[112, 50]), false)]
 | 3 => [((ByteArray.mk #[112, 49]), true), ((ByteArray.mk #[112, 50]), true), ((ByteArray.mk #[112, 51]), false)]
 | 4 => [((ByteArray.mk #[112, 49]), true), ((ByteArray.mk #[112, 50]), false), ((ByteArray.mk #[112, 51]), false)]
 | _ => [((ByteArray.mk #[112, 57]), true)]
def repL (k : List UInt8) : List UInt8 → List UInt8
 | [] => []
 | a :: l => if Nat.beq a.toNat 37 then k ++ repL k l else a :: repL k l
/-- A string with the key of an asset for each sign %. -/
def rep (k s : ByteArray) : ByteArray := ⟨(repL k.data.toList s.data.toList).toArray⟩
def insK (x : List Cel) : List (List Cel) → List (List Cel)
 | [] => [x]
 | y :: l => (match x, y with
  | .g (.string a) :: _, .g (.string b) :: _ => if leL b.data.toList a.data.toList then y :: insK x l else x :: y :: l
  | _, _ => x :: y :: l)
def isoK : List (List Cel) → List (List Cel) → List (List Cel)
 | acc, [] => acc
 | acc, x :: l => isoK (insK x acc) l
def tgOf (tags : List ByteArray) (s : Nat) : List (List Cel) := isoK [] ((sqK s).flatMap fun x => ((if x.2 then tags else [(ByteArray.mk #[37, 95, 108, 101, 118, 101, 108])]).map fun t => [gS (rep x.1 t)]))
theorem tg_run (i : Nat) (hi : i ∈ [0, 2, 3]) (s : Nat) (hs : s ∈ [0, 1, 2, 3, 4]) (a1 a2 a3 : ByteArray) (cx ax C : List (List Cel)) :
  R fTg [sA (tplN (tgE (tgI i)) cx ax) (sqI a1 a2 a3 s) C] = some ([], .one (.sl true 1 (tgOf (tgI i) s))) ∧ R fTr [sA (tplN (tgE (tgI i)) cx ax) (sqI a1 a2 a3 s) C] = some ([], .one (.sl true 1 (tgOf (tgI i) s))) := by
 simp only [List.mem_cons, List.not_mem_nil, or_false] at hi hs
 rcases hi with rfl | rfl | rfl <;> rcases hs with rfl | rfl | rfl | rfl | rfl <;> exact ⟨by kernel_rfl, by kernel_rfl⟩
end Go.Proofs.YtdhkejcldipbmaaGreatDoor


/-
 Sites, one part after the other: the order of calculated tags (what is told).
-/
import Derived.Test.YtdhkejcldipbmaaGreatDoorStc
import Derived.Test.YtdhkejcldipbmaaGreatDoorTbg
namespace Go.Proofs.YtdhkejcldipbmaaGreatDoor
open Go Go.Ai Go.Proofs
set_option linter.unusedSimpArgs false
set_option linter.unusedVariables false
set_option maxHeartbeats 4000000
set_option maxRecDepth 100000
abbrev fCC : FuncId := 94
abbrev fCf : FuncId := 36
def ccF (j : Nat) : Int := if j = 6 then 9 else 0
abbrev same2 (f g : FuncId) (x : Val) (e : Val) : Prop := R2 f [x] = some ([], e) ∧ R2 g [x] = some ([], e)
abbrev fCE : FuncId := 43
abbrev fSF : FuncId := 6
abbrev fCS : FuncId := 7
abbrev fCk : FuncId := 44
abbrev fKf : FuncId := 40
abbrev fEo : FuncId := 38
abbrev tgV (l : List (List Cel)) : Val := .one (.sl true 1 l)
abbrev cgV (l : List (List Cel)) : Val := .one (.sl true 2 l)
abbrev agV (l : List (List Cel)) : Val := .one (.sl true 10 l)
abbrev evM (m : Nat) : Val := iv ((m + 1 : Nat) : Int)
abbrev cg_ (l : List (List Cel)) : Val := .one (.sl false 2 l)
abbrev orV (L : List (List Cel)) (e : Val) : Val := .tu [.one (.sl true 1 L), e]
abbrev orN (e : Val) : Val := .tu [.one (.sl true 1 []), e]
abbrev fOr : FuncId := 95
abbrev fOf : FuncId := 37
def orL (j s : Nat) : List (List Cel) := if j = 0 ∨ j = 5 ∨ j = 7 then [] else (sqK s).flatMap fun x => if x.2 then [[gS (rep x.1 (ByteArray.mk #[37, 95, 115, 117, 109]))]] else []
def orR (j s : Nat) : Val := .tu [.one (.sl true 1 (orL j s)), iv (if j = 5 ∨ j = 7 then 14 else 0)]
abbrev same3 (f g : FuncId) (x : Val) (e : Val) : Prop := R2 f [x] = some ([], e) ∧ R2 g [x] = some ([], e)
section
variable (T A C : List (List Cel))
abbrev lp (l c : List (List Cel)) : Lg := [(fTg, [sA T A C], tgV l), (fCg, [sA T A C], cgV c)]
abbrev lq (l c : List (List Cel)) : Lg := [(fTF, [.one (.sl false 4 T)], iv 0), (fAF, [sA T A C], iv 0), (fTr, [sA T A C], tgV l), (fCr, [sA T A C], cgV c)]
end
end Go.Proofs.YtdhkejcldipbmaaGreatDoor

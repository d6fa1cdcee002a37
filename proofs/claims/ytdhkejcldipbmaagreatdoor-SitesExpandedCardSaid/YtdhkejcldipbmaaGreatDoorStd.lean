
/-
 Sites, one part after the other: calculated tags (the wrong ones), the tags of p9, and alarms, expanded.
-/
import Derived.Test.YtdhkejcldipbmaaGreatDoorStc
namespace Go.Proofs.YtdhkejcldipbmaaGreatDoor
open Go Go.Ai Go.Proofs
set_option linter.unusedSimpArgs false
set_option linter.unusedVariables false
set_option maxHeartbeats 4000000
set_option maxRecDepth 100000
theorem tg_run9 (a1 a2 a3 : ByteArray) (cx ax C : List (List Cel)) :
  R fTg [sA (tplN (tgE tg0) cx ax) (sqI a1 a2 a3 5) C] = some ([], .one (.sl true 1 (tgOf tg0 5))) ∧ R fTr [sA (tplN (tgE tg0) cx ax) (sqI a1 a2 a3 5) C] = some ([], .one (.sl true 1 (tgOf tg0 5))) := ⟨by kernel_rfl, by kernel_rfl⟩
theorem cg_r5 (s : Nat) (hs : s ∈ [0, 1, 2, 3, 4]) (a1 a2 a3 : ByteArray) (tg ax C : List (List Cel)) :
  R fCg [sA (tplN tg (cxJ 5) ax) (sqI a1 a2 a3 s) C] = some ([], .one (.sl true 2 (cgOf 5 s))) ∧ R fCr [sA (tplN tg (cxJ 5) ax) (sqI a1 a2 a3 s) C] = some ([], .one (.sl true 2 (cgOf 5 s))) := by
 simp only [List.mem_cons, List.not_mem_nil, or_false] at hs
 rcases hs with rfl | rfl | rfl | rfl | rfl <;> exact ⟨by kernel_rfl, by kernel_rfl⟩
theorem cg_r6 (s : Nat) (hs : s ∈ [0, 1, 2, 3, 4]) (a1 a2 a3 : ByteArray) (tg ax C : List (List Cel)) :
  R fCg [sA (tplN tg (cxJ 6) ax) (sqI a1 a2 a3 s) C] = some ([], .one (.sl true 2 (cgOf 6 s))) ∧ R fCr [sA (tplN tg (cxJ 6) ax) (sqI a1 a2 a3 s) C] = some ([], .one (.sl true 2 (cgOf 6 s))) := by
 simp only [List.mem_cons, List.not_mem_nil, or_false] at hs
 rcases hs with rfl | rfl | rfl | rfl | rfl <;> exact ⟨by kernel_rfl, by kernel_rfl⟩
theorem cg_r7 (s : Nat) (hs : s ∈ [0, 1, 2, 3, 4]) (a1 a2 a3 : ByteArray) (tg ax C : List (List Cel)) :
  R fCg [sA (tplN tg (cxJ 7) ax) (sqI a1 a2 a3 s) C] = some ([], .one (.sl true 2 (cgOf 7 s))) ∧ R fCr [sA (tplN tg (cxJ 7) ax) (sqI a1 a2 a3 s) C] = some ([], .one (.sl true 2 (cgOf 7 s))) := by
 simp only [List.mem_cons, List.not_mem_nil, or_false] at hs
 rcases hs with rfl | rfl | rfl | rfl | rfl <;> exact ⟨by kernel_rfl, by kernel_rfl⟩
theorem cg_r8 (s : Nat) (hs : s ∈ [0, 1, 2, 3, 4]) (a1 a2 a3 : ByteArray) (tg ax C : List (List Cel)) :
  R fCg [sA (tplN tg (cxJ 8) ax) (sqI a1 a2 a3 s) C] = some ([], .one (.sl true 2 (cgOf 8 s))) ∧ R fCr [sA (tplN tg (cxJ 8) ax) (sqI a1 a2 a3 s) C] = some ([], .one (.sl true 2 (cgOf 8 s))) := by
 simp only [List.mem_cons, List.not_mem_nil, or_false] at hs
 rcases hs with rfl | rfl | rfl | rfl | rfl <;> exact ⟨by kernel_rfl, by kernel_rfl⟩
theorem cg_r9 (s : Nat) (hs : s ∈ [0, 1, 2, 3, 4]) (a1 a2 a3 : ByteArray) (tg ax C : List (List Cel)) :
  R fCg [sA (tplN tg (cxJ 9) ax) (sqI a1 a2 a3 s) C] = some ([], .one (.sl true 2 (cgOf 9 s))) ∧ R fCr [sA (tplN tg (cxJ 9) ax) (sqI a1 a2 a3 s) C] = some ([], .one (.sl true 2 (cgOf 9 s))) := by
 simp only [List.mem_cons, List.not_mem_nil, or_false] at hs
 rcases hs with rfl | rfl | rfl | rfl | rfl <;> exact ⟨by kernel_rfl, by kernel_rfl⟩
theorem cg_r10 (s : Nat) (hs : s ∈ [0, 1, 2, 3, 4]) (a1 a2 a3 : ByteArray) (tg ax C : List (List Cel)) :
  R fCg [sA (tplN tg (cxJ 10) ax) (sqI a1 a2 a3 s) C] = some ([], .one (.sl true 2 (cgOf 10 s))) ∧ R fCr [sA (tplN tg (cxJ 10) ax) (sqI a1 a2 a3 s) C] = some ([], .one (.sl true 2 (cgOf 10 s))) := by
 simp only [List.mem_cons, List.not_mem_nil, or_false] at hs
 rcases hs with rfl | rfl | rfl | rfl | rfl <;> exact ⟨by kernel_rfl, by kernel_rfl⟩
/-- Alarms of a template: none, three tags, three parents. -/
def axJ (kd lim pr : Int) (lat : Bool) : Nat → List (List Cel)
 | 0 => []
 | 1 => [almE (ByteArray.mk #[37, 95, 104, 111, 116]) (ByteArray.mk #[37, 95, 116, 101, 109, 112]) kd lim pr lat (ByteArray.mk #[])]
 | 2 => [almE (ByteArray.mk #[37, 95, 104, 111, 116]) (ByteArray.mk #[37, 95, 115, 117, 109]) kd lim pr lat (ByteArray.mk #[])]
 | 3 => [almE (ByteArray.mk #[37, 95, 104, 111, 116]) (ByteArray.mk #[110, 111]) kd lim pr lat (ByteArray.mk #[])]
 | 4 => [almE (ByteArray.mk #[37, 95, 104, 111, 116]) (ByteArray.mk #[37, 95, 116, 101, 109, 112]) kd lim pr lat (ByteArray.mk #[37, 95, 104, 111, 116])]
 | _ => [almE (ByteArray.mk #[37, 95, 104, 111, 116]) (ByteArray.mk #[37, 95, 116, 101, 109, 112]) kd lim pr lat (ByteArray.mk #[122, 122])]
def alOf (kd lim pr : Int) (lat : Bool) (j s : Nat) : List (List Cel) := isoK [] ((sqK s).flatMap fun x => if x.2 then (axJ kd lim pr lat j).map (List.map (repC x.1)) else [])
theorem al_r0 (s : Nat) (hs : s ∈ [0, 1, 2, 3, 4, 5]) (kd lim pr : Int) (lat : Bool) (a1 a2 a3 : ByteArray) (tg cx C : List (List Cel)) :
  R fAg [sA (tplN tg cx (axJ kd lim pr lat 0)) (sqI a1 a2 a3 s) C] = some ([], .one (.sl true 10 (alOf kd lim pr lat 0 s))) ∧ R fAr [sA (tplN tg cx (axJ kd lim pr lat 0)) (sqI a1 a2 a3 s) C] = some ([], .one (.sl true 10 (alOf kd lim pr lat 0 s))) := by
 simp only [List.mem_cons, List.not_mem_nil, or_false] at hs
 rcases hs with rfl | rfl | rfl | rfl | rfl | rfl <;> exact ⟨by kernel_rfl, by kernel_rfl⟩
theorem al_r1 (s : Nat) (hs : s ∈ [0, 1, 2, 3, 4, 5]) (kd lim pr : Int) (lat : Bool) (a1 a2 a3 : ByteArray) (tg cx C : List (List Cel)) :
  R fAg [sA (tplN tg cx (axJ kd lim pr lat 1)) (sqI a1 a2 a3 s) C] = some ([], .one (.sl true 10 (alOf kd lim pr lat 1 s))) ∧ R fAr [sA (tplN tg cx (axJ kd lim pr lat 1)) (sqI a1 a2 a3 s) C] = some ([], .one (.sl true 10 (alOf kd lim pr lat 1 s))) := by
 simp only [List.mem_cons, List.not_mem_nil, or_false] at hs
 rcases hs with rfl | rfl | rfl | rfl | rfl | rfl <;> exact ⟨by kernel_rfl, by kernel_rfl⟩
theorem al_r2 (s : Nat) (hs : s ∈ [0, 1, 2, 3, 4, 5]) (kd lim pr : Int) (lat : Bool) (a1 a2 a3 : ByteArray) (tg cx C : List (List Cel)) :
  R fAg [sA (tplN tg cx (axJ kd lim pr lat 2)) (sqI a1 a2 a3 s) C] = some ([], .one (.sl true 10 (alOf kd lim pr lat 2 s))) ∧ R fAr [sA (tplN tg cx (axJ kd lim pr lat 2)) (sqI a1 a2 a3 s) C] = some ([], .one (.sl true 10 (alOf kd lim pr lat 2 s))) := by
 simp only [List.mem_cons, List.not_mem_nil, or_false] at hs
 rcases hs with rfl | rfl | rfl | rfl | rfl | rfl <;> exact ⟨by kernel_rfl, by kernel_rfl⟩
theorem al_r3 (s : Nat) (hs : s ∈ [0, 1, 2, 3, 4, 5]) (kd lim pr : Int) (lat : Bool) (a1 a2 a3 : ByteArray) (tg cx C : List (List Cel)) :
  R fAg [sA (tplN tg cx (axJ kd lim pr lat 3)) (sqI a1 a2 a3 s) C] = some ([], .one (.sl true 10 (alOf kd lim pr lat 3 s))) ∧ R fAr [sA (tplN tg cx (axJ kd lim pr lat 3)) (sqI a1 a2 a3 s) C] = some ([], .one (.sl true 10 (alOf kd lim pr lat 3 s))) := by
 simp only [List.mem_cons, List.not_mem_nil, or_false] at hs
 rcases hs with rfl | rfl | rfl | rfl | rfl | rfl <;> exact ⟨by kernel_rfl, by kernel_rfl⟩
theorem al_r4 (s : Nat) (hs : s ∈ [0, 1, 2, 3, 4, 5]) (kd lim pr : Int) (lat : Bool) (a1 a2 a3 : ByteArray) (tg cx C : List (List Cel)) :
  R fAg [sA (tplN tg cx (axJ kd lim pr lat 4)) (sqI a1 a2 a3 s) C] = some ([], .one (.sl true 10 (alOf kd lim pr lat 4 s))) ∧ R fAr [sA (tplN tg cx (axJ kd lim pr lat 4)) (sqI a1 a2 a3 s) C] = some ([], .one (.sl true 10 (alOf kd lim pr lat 4 s))) := by
 simp only [List.mem_cons, List.not_mem_nil, or_false] at hs
 rcases hs with rfl | rfl | rfl | rfl | rfl | rfl <;> exact ⟨by kernel_rfl, by kernel_rfl⟩
theorem al_r5 (s : Nat) (hs : s ∈ [0, 1, 2, 3, 4, 5]) (kd lim pr : Int) (lat : Bool) (a1 a2 a3 : ByteArray) (tg cx C : List (List Cel)) :
  R fAg [sA (tplN tg cx (axJ kd lim pr lat 5)) (sqI a1 a2 a3 s) C] = some ([], .one (.sl true 10 (alOf kd lim pr lat 5 s))) ∧ R fAr [sA (tplN tg cx (axJ kd lim pr lat 5)) (sqI a1 a2 a3 s) C] = some ([], .one (.sl true 10 (alOf kd lim pr lat 5 s))) := by
 simp only [List.mem_cons, List.not_mem_nil, or_false] at hs
 rcases hs with rfl | rfl | rfl | rfl | rfl | rfl <;> exact ⟨by kernel_rfl, by kernel_rfl⟩
end Go.Proofs.YtdhkejcldipbmaaGreatDoor

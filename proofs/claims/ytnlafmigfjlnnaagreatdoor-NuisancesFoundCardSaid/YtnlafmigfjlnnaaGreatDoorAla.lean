/- That the alarms' package does something. -/
import Derived.Test.YtnlafmigfjlnnaaGreatDoorAct
set_option linter.all false
set_option maxHeartbeats 0
set_option maxRecDepth 100000
namespace Go.Proofs.YtnlafmigfjlnnaaGreatDoor
open Go Go.Ai
theorem gA0 (x : List Cel) : [x].getD (Int.toNat 0) [] = x := rfl
attribute [local go_sem] gA0
theorem b8D : FC Tryz.prog 27 none [a0C false [(3, 9)], a0C false [(3, 9)]] (fun _ r => r = bv true) := by
 refine fcE Tryz.func27 (aL [[0,1],[0,1,10],[4],[0,1,12,13],[0,1,12,13,14],[0,1,5,12,13],[0,1,12,13,24],[4],[0,1,12,13],[4]]) ?_
 refine qv ?_
 refine T6 3 ?_
 exact qt
abbrev kA : ByteArray := ByteArray.mk #[97]
abbrev kT : ByteArray := ByteArray.mk #[116]
abbrev kP0 : ByteArray := ByteArray.mk #[]
theorem a9V : FC Tryz.prog 51 none [b6K kA kT kP0 false 1 5 0 0 0 1, Z4 false [⟨3, 6, 0⟩], iv 9] (fun _ r => r = a0C true [(3, 9)]) := by
 refine fcE Tryz.func51 a1G ?_
 have hh := a6f kA kT kP0 false 1 5 0 0 0 1 ⟨3, 6, 0⟩ (by unfold S8; simp) (by omega) (by omega)
 have e : q7 1 5 0 ⟨3, 6, 0⟩ = (true, false) := by kernel_rfl
 rw [e] at hh
 refine qv ?_
 refine T6 3 ?_
 refine qc hh ?_
 refine qv ?_
 rfl
theorem a7e : FC Tryz.prog 69 none [b6K kA kT kP0 false 1 5 0 0 0 1, Z4 false [⟨3, 6, 0⟩], iv 9] (fun _ r => r = .tu [a0C true [(3, 9)], iv 0]) := by
 refine fcE Tryz.func69 a5e ?_
 have hcu := a4o kA kT kP0 false (of_decide_eq_true (by kernel_rfl)) (of_decide_eq_true (by kernel_rfl)) 1 5 0 0 0 1 [⟨3, 6, 0⟩] (by simp) 9
 have e : unF (l8 kA && l8 kT) 1 5 0 0 0 1 [⟨3, 6, 0⟩] 9 = 0 := by kernel_rfl
 rw [e] at hcu
 refine qc hcu ?_
 refine qc a9V ?_
 refine qv ?_
 rfl
theorem a9U : FC Tryz.prog 29 none [] (fun _ r => r = bv true) := by
 refine fcE Tryz.func29 (aL [[],[1,2],[0]]) ?_
 refine qc a7e ?_
 refine qc b8D ?_
 exact qt
end Go.Proofs.YtnlafmigfjlnnaaGreatDoor

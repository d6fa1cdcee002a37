/- That the alarms' package does something. -/
import Derived.Test.YtbhgndiboeppeaaGreatDoorAct
set_option linter.all false
set_option maxHeartbeats 4000000
set_option maxRecDepth 100000
namespace Go.Proofs.YtbhgndiboeppeaaGreatDoor
open Go Go.Ai
theorem gA0 (x : List Cel) : [x].getD (Int.toNat 0) [] = x := rfl
attribute [local go_sem] gA0
theorem b4O : FC Tryz.prog 70 none [b0q false [(3, 9)], b0q false [(3, 9)]] (fun _ r => r = bv true) := by
 refine fcE Tryz.func70 (aL [[0,1],[0,1,10],[4],[0,1,12,13],[0,1,12,13,14],[0,1,5,12,13],[0,1,12,13,24],[4],[0,1,12,13],[4]]) ?_
 refine qv ?_
 refine X7 3 ?_
 exact qt
abbrev kA : ByteArray := ByteArray.mk #[97]
abbrev kT : ByteArray := ByteArray.mk #[116]
abbrev kP0 : ByteArray := ByteArray.mk #[]
theorem a8Q : FC Tryz.prog 84 none [b5z kA kT kP0 false 1 5 0 0 0 1, a0Z false [⟨3, 6, 0⟩], iv 9] (fun _ r => r = b0q true [(3, 9)]) := by
 refine fcE Tryz.func84 a1z ?_
 have hh := a5I kA kT kP0 false 1 5 0 0 0 1 ⟨3, 6, 0⟩ (by unfold U0; simp) (by omega) (by omega)
 have e : s6 1 5 0 ⟨3, 6, 0⟩ = (true, false) := by kernel_rfl
 rw [e] at hh
 refine qv ?_
 refine X7 3 ?_
 refine qc hh ?_
 refine qv ?_
 rfl
theorem a5Y : FC Tryz.prog 69 none [b5z kA kT kP0 false 1 5 0 0 0 1, a0Z false [⟨3, 6, 0⟩], iv 9] (fun _ r => r = .tu [b0q true [(3, 9)], iv 0]) := by
 refine fcE Tryz.func69 a4G ?_
 have hcu := a2X kA kT kP0 false (of_decide_eq_true (by kernel_rfl)) (of_decide_eq_true (by kernel_rfl)) 1 5 0 0 0 1 [⟨3, 6, 0⟩] (by simp) 9
 have e : unF (m5 kA && m5 kT) 1 5 0 0 0 1 [⟨3, 6, 0⟩] 9 = 0 := by kernel_rfl
 rw [e] at hcu
 refine qc hcu ?_
 refine qc a8Q ?_
 refine qv ?_
 rfl
theorem a9S : FC Tryz.prog 29 none [] (fun _ r => r = bv true) := by
 refine fcE Tryz.func29 (aL [[],[1,2],[0]]) ?_
 refine qc a5Y ?_
 refine qc b4O ?_
 exact qt
end Go.Proofs.YtbhgndiboeppeaaGreatDoor

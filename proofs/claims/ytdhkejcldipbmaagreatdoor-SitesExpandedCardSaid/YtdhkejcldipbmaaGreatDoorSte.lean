
/-
 Sites, one part after the other: what is wrong with calculated tags.
-/
import Derived.Test.YtdhkejcldipbmaaGreatDoorOrd
namespace Go.Proofs.YtdhkejcldipbmaaGreatDoor
open Go Go.Ai Go.Proofs
set_option linter.unusedSimpArgs false
set_option linter.unusedVariables false
set_option maxHeartbeats 4000000
set_option maxRecDepth 100000
theorem cc_0 (s : Nat) (hs : s ∈ [0, 1, 5]) : same2 fCC fCf (.one (.sl false 2 (cgOf 0 s))) (iv (ccF 0)) := by
 simp only [List.mem_cons, List.not_mem_nil, or_false] at hs
 rcases hs with rfl | rfl | rfl <;> exact ⟨by kernel_rfl, by kernel_rfl⟩
theorem cc_1 (s : Nat) (hs : s ∈ [0, 1, 5]) : same2 fCC fCf (.one (.sl false 2 (cgOf 1 s))) (iv (ccF 1)) := by
 simp only [List.mem_cons, List.not_mem_nil, or_false] at hs
 rcases hs with rfl | rfl | rfl <;> exact ⟨by kernel_rfl, by kernel_rfl⟩
theorem cc_2 (s : Nat) (hs : s ∈ [0, 1, 5]) : same2 fCC fCf (.one (.sl false 2 (cgOf 2 s))) (iv (ccF 2)) := by
 simp only [List.mem_cons, List.not_mem_nil, or_false] at hs
 rcases hs with rfl | rfl | rfl <;> exact ⟨by kernel_rfl, by kernel_rfl⟩
theorem cc_3 (s : Nat) (hs : s ∈ [0, 1, 5]) : same2 fCC fCf (.one (.sl false 2 (cgOf 3 s))) (iv (ccF 3)) := by
 simp only [List.mem_cons, List.not_mem_nil, or_false] at hs
 rcases hs with rfl | rfl | rfl <;> exact ⟨by kernel_rfl, by kernel_rfl⟩
theorem cc_4 (s : Nat) (hs : s ∈ [0, 1, 5]) : same2 fCC fCf (.one (.sl false 2 (cgOf 4 s))) (iv (ccF 4)) := by
 simp only [List.mem_cons, List.not_mem_nil, or_false] at hs
 rcases hs with rfl | rfl | rfl <;> exact ⟨by kernel_rfl, by kernel_rfl⟩
theorem cc_5 (s : Nat) (hs : s ∈ [0, 1]) : same2 fCC fCf (.one (.sl false 2 (cgOf 5 s))) (iv (ccF 5)) := by
 simp only [List.mem_cons, List.not_mem_nil, or_false] at hs
 rcases hs with rfl | rfl <;> exact ⟨by kernel_rfl, by kernel_rfl⟩
theorem cc_6 (s : Nat) (hs : s ∈ [0, 1]) : same2 fCC fCf (.one (.sl false 2 (cgOf 6 s))) (iv (ccF 6)) := by
 simp only [List.mem_cons, List.not_mem_nil, or_false] at hs
 rcases hs with rfl | rfl <;> exact ⟨by kernel_rfl, by kernel_rfl⟩
theorem cc_7 (s : Nat) (hs : s ∈ [0, 1]) : same2 fCC fCf (.one (.sl false 2 (cgOf 7 s))) (iv (ccF 7)) := by
 simp only [List.mem_cons, List.not_mem_nil, or_false] at hs
 rcases hs with rfl | rfl <;> exact ⟨by kernel_rfl, by kernel_rfl⟩
end Go.Proofs.YtdhkejcldipbmaaGreatDoor

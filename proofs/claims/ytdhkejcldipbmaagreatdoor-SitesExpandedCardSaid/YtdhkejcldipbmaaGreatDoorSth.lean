
/-
 Sites, one part after the other: all that is expanded.
-/
import Derived.Test.YtdhkejcldipbmaaGreatDoorOrd
namespace Go.Proofs.YtdhkejcldipbmaaGreatDoor
open Go Go.Ai Go.Proofs
set_option linter.unusedSimpArgs false
set_option linter.unusedVariables false
set_option maxHeartbeats 4000000
set_option maxRecDepth 100000
section
variable (T A C : List (List Cel))
theorem ex_a (s : Nat) (hs : s ∈ [0, 1, 2, 3, 4]) (c : List (List Cel)) :
  W e_pce [(fTg, tgV (tgOf (tgI 2) s)), (fCg, cgV c)] [sA T A C] = some (iv 5, lp T A C (tgOf (tgI 2) s) c) ∧
  W e_qsf [(fTF, iv 0), (fAF, iv 0), (fTr, tgV (tgOf (tgI 2) s)), (fCr, cgV c)] [sA T A C] = some (iv 5, lq T A C (tgOf (tgI 2) s) c) := by
 simp only [List.mem_cons, List.not_mem_nil, or_false] at hs
 rcases hs with rfl | rfl | rfl | rfl | rfl <;> exact ⟨by kernel_rfl, by kernel_rfl⟩
theorem ex_b_0 (s : Nat) (hs : s ∈ [0, 1, 2, 3, 4]) :
  W e_pce [(fTg, tgV (tgOf (tgI 3) s)), (fCg, cgV (cgOf 0 s))] [sA T A C] = some (iv 6, lp T A C (tgOf (tgI 3) s) (cgOf 0 s)) ∧
  W e_qsf [(fTF, iv 0), (fAF, iv 0), (fTr, tgV (tgOf (tgI 3) s)), (fCr, cgV (cgOf 0 s))] [sA T A C] = some (iv 6, lq T A C (tgOf (tgI 3) s) (cgOf 0 s)) := by
 simp only [List.mem_cons, List.not_mem_nil, or_false] at hs
 rcases hs with rfl | rfl | rfl | rfl | rfl <;> exact ⟨by kernel_rfl, by kernel_rfl⟩
theorem ex_b_1 (s : Nat) (hs : s ∈ [0, 1, 2, 3, 4]) :
  W e_pce [(fTg, tgV (tgOf (tgI 3) s)), (fCg, cgV (cgOf 1 s))] [sA T A C] = some (iv 6, lp T A C (tgOf (tgI 3) s) (cgOf 1 s)) ∧
  W e_qsf [(fTF, iv 0), (fAF, iv 0), (fTr, tgV (tgOf (tgI 3) s)), (fCr, cgV (cgOf 1 s))] [sA T A C] = some (iv 6, lq T A C (tgOf (tgI 3) s) (cgOf 1 s)) := by
 simp only [List.mem_cons, List.not_mem_nil, or_false] at hs
 rcases hs with rfl | rfl | rfl | rfl | rfl <;> exact ⟨by kernel_rfl, by kernel_rfl⟩
theorem ex_b_2 (s : Nat) (hs : s ∈ [0, 1, 2, 3, 4]) :
  W e_pce [(fTg, tgV (tgOf (tgI 3) s)), (fCg, cgV (cgOf 2 s))] [sA T A C] = some (iv 6, lp T A C (tgOf (tgI 3) s) (cgOf 2 s)) ∧
  W e_qsf [(fTF, iv 0), (fAF, iv 0), (fTr, tgV (tgOf (tgI 3) s)), (fCr, cgV (cgOf 2 s))] [sA T A C] = some (iv 6, lq T A C (tgOf (tgI 3) s) (cgOf 2 s)) := by
 simp only [List.mem_cons, List.not_mem_nil, or_false] at hs
 rcases hs with rfl | rfl | rfl | rfl | rfl <;> exact ⟨by kernel_rfl, by kernel_rfl⟩
theorem ex_b_3 (s : Nat) (hs : s ∈ [0, 1, 2, 3, 4]) :
  W e_pce [(fTg, tgV (tgOf (tgI 3) s)), (fCg, cgV (cgOf 3 s))] [sA T A C] = some (iv 6, lp T A C (tgOf (tgI 3) s) (cgOf 3 s)) ∧
  W e_qsf [(fTF, iv 0), (fAF, iv 0), (fTr, tgV (tgOf (tgI 3) s)), (fCr, cgV (cgOf 3 s))] [sA T A C] = some (iv 6, lq T A C (tgOf (tgI 3) s) (cgOf 3 s)) := by
 simp only [List.mem_cons, List.not_mem_nil, or_false] at hs
 rcases hs with rfl | rfl | rfl | rfl | rfl <;> exact ⟨by kernel_rfl, by kernel_rfl⟩
theorem ex_b_4 (s : Nat) (hs : s ∈ [0, 1, 2, 3, 4]) :
  W e_pce [(fTg, tgV (tgOf (tgI 3) s)), (fCg, cgV (cgOf 4 s))] [sA T A C] = some (iv 6, lp T A C (tgOf (tgI 3) s) (cgOf 4 s)) ∧
  W e_qsf [(fTF, iv 0), (fAF, iv 0), (fTr, tgV (tgOf (tgI 3) s)), (fCr, cgV (cgOf 4 s))] [sA T A C] = some (iv 6, lq T A C (tgOf (tgI 3) s) (cgOf 4 s)) := by
 simp only [List.mem_cons, List.not_mem_nil, or_false] at hs
 rcases hs with rfl | rfl | rfl | rfl | rfl <;> exact ⟨by kernel_rfl, by kernel_rfl⟩
theorem ex_b (j : Nat) (hj : j ∈ [0, 1, 2, 3, 4]) (s : Nat) (hs : s ∈ [0, 1, 2, 3, 4]) :
  W e_pce [(fTg, tgV (tgOf (tgI 3) s)), (fCg, cgV (cgOf j s))] [sA T A C] = some (iv 6, lp T A C (tgOf (tgI 3) s) (cgOf j s)) ∧
  W e_qsf [(fTF, iv 0), (fAF, iv 0), (fTr, tgV (tgOf (tgI 3) s)), (fCr, cgV (cgOf j s))] [sA T A C] = some (iv 6, lq T A C (tgOf (tgI 3) s) (cgOf j s)) := by
 simp only [List.mem_cons, List.not_mem_nil, or_false] at hj
 rcases hj with rfl | rfl | rfl | rfl | rfl
 ·exact ex_b_0 T A C s hs
 ·exact ex_b_1 T A C s hs
 ·exact ex_b_2 T A C s hs
 ·exact ex_b_3 T A C s hs
 ·exact ex_b_4 T A C s hs
theorem ex_b2_8 (s : Nat) (hs : s ∈ [0, 1, 2, 3, 4]) :
  W e_pce [(fTg, tgV (tgOf tg0 s)), (fCg, cgV (cgOf 8 s))] [sA T A C] = some (iv 6, lp T A C (tgOf tg0 s) (cgOf 8 s)) ∧
  W e_qsf [(fTF, iv 0), (fAF, iv 0), (fTr, tgV (tgOf tg0 s)), (fCr, cgV (cgOf 8 s))] [sA T A C] = some (iv 6, lq T A C (tgOf tg0 s) (cgOf 8 s)) := by
 simp only [List.mem_cons, List.not_mem_nil, or_false] at hs
 rcases hs with rfl | rfl | rfl | rfl | rfl <;> exact ⟨by kernel_rfl, by kernel_rfl⟩
theorem ex_b2_9 (s : Nat) (hs : s ∈ [0, 1, 2, 3, 4]) :
  W e_pce [(fTg, tgV (tgOf tg0 s)), (fCg, cgV (cgOf 9 s))] [sA T A C] = some (iv 6, lp T A C (tgOf tg0 s) (cgOf 9 s)) ∧
  W e_qsf [(fTF, iv 0), (fAF, iv 0), (fTr, tgV (tgOf tg0 s)), (fCr, cgV (cgOf 9 s))] [sA T A C] = some (iv 6, lq T A C (tgOf tg0 s) (cgOf 9 s)) := by
 simp only [List.mem_cons, List.not_mem_nil, or_false] at hs
 rcases hs with rfl | rfl | rfl | rfl | rfl <;> exact ⟨by kernel_rfl, by kernel_rfl⟩
theorem ex_b2_10 (s : Nat) (hs : s ∈ [0, 1, 2, 3, 4]) :
  W e_pce [(fTg, tgV (tgOf tg0 s)), (fCg, cgV (cgOf 10 s))] [sA T A C] = some (iv 6, lp T A C (tgOf tg0 s) (cgOf 10 s)) ∧
  W e_qsf [(fTF, iv 0), (fAF, iv 0), (fTr, tgV (tgOf tg0 s)), (fCr, cgV (cgOf 10 s))] [sA T A C] = some (iv 6, lq T A C (tgOf tg0 s) (cgOf 10 s)) := by
 simp only [List.mem_cons, List.not_mem_nil, or_false] at hs
 rcases hs with rfl | rfl | rfl | rfl | rfl <;> exact ⟨by kernel_rfl, by kernel_rfl⟩
theorem ex_b2 (j : Nat) (hj : j ∈ [8, 9, 10]) (s : Nat) (hs : s ∈ [0, 1, 2, 3, 4]) :
  W e_pce [(fTg, tgV (tgOf tg0 s)), (fCg, cgV (cgOf j s))] [sA T A C] = some (iv 6, lp T A C (tgOf tg0 s) (cgOf j s)) ∧
  W e_qsf [(fTF, iv 0), (fAF, iv 0), (fTr, tgV (tgOf tg0 s)), (fCr, cgV (cgOf j s))] [sA T A C] = some (iv 6, lq T A C (tgOf tg0 s) (cgOf j s)) := by
 simp only [List.mem_cons, List.not_mem_nil, or_false] at hj
 rcases hj with rfl | rfl | rfl
 ·exact ex_b2_8 T A C s hs
 ·exact ex_b2_9 T A C s hs
 ·exact ex_b2_10 T A C s hs
theorem ex_c (s : Nat) (hs : s ∈ [0, 1, 2, 3, 4]) (m : Nat) :
  W e_pce [(fTg, tgV (tgOf tg0 s)), (fCg, cgV (cgOf 6 s)), (fCC, evM m)] [sA T A C] = some (evM m, lp T A C (tgOf tg0 s) (cgOf 6 s) ++ [(fCC, [cg_ (cgOf 6 s)], evM m)]) ∧
  W e_qsf [(fTF, iv 0), (fAF, iv 0), (fTr, tgV (tgOf tg0 s)), (fCr, cgV (cgOf 6 s)), (fCf, evM m)] [sA T A C] = some (evM m, lq T A C (tgOf tg0 s) (cgOf 6 s) ++ [(fCf, [cg_ (cgOf 6 s)], evM m)]) := by
 simp only [List.mem_cons, List.not_mem_nil, or_false] at hs
 rcases hs with rfl | rfl | rfl | rfl | rfl <;> exact ⟨by kernel_rfl, by kernel_rfl⟩
theorem ex_d_5 (s : Nat) (hs : s ∈ [0, 1, 2, 3, 4]) (m : Nat) :
  W e_pce [(fTg, tgV (tgOf tg0 s)), (fCg, cgV (cgOf 5 s)), (fCC, iv 0), (fOr, orN (evM m))] [sA T A C] = some (evM m, lp T A C (tgOf tg0 s) (cgOf 5 s) ++ [(fCC, [cg_ (cgOf 5 s)], iv 0), (fOr, [cg_ (cgOf 5 s)], orN (evM m))]) ∧
  W e_qsf [(fTF, iv 0), (fAF, iv 0), (fTr, tgV (tgOf tg0 s)), (fCr, cgV (cgOf 5 s)), (fCf, iv 0), (fOf, orN (evM m))] [sA T A C] = some (evM m, lq T A C (tgOf tg0 s) (cgOf 5 s) ++ [(fCf, [cg_ (cgOf 5 s)], iv 0), (fOf, [cg_ (cgOf 5 s)], orN (evM m))]) := by
 simp only [List.mem_cons, List.not_mem_nil, or_false] at hs
 rcases hs with rfl | rfl | rfl | rfl | rfl <;> exact ⟨by kernel_rfl, by kernel_rfl⟩
theorem ex_d_7 (s : Nat) (hs : s ∈ [0, 1, 2, 3, 4]) (m : Nat) :
  W e_pce [(fTg, tgV (tgOf tg0 s)), (fCg, cgV (cgOf 7 s)), (fCC, iv 0), (fOr, orN (evM m))] [sA T A C] = some (evM m, lp T A C (tgOf tg0 s) (cgOf 7 s) ++ [(fCC, [cg_ (cgOf 7 s)], iv 0), (fOr, [cg_ (cgOf 7 s)], orN (evM m))]) ∧
  W e_qsf [(fTF, iv 0), (fAF, iv 0), (fTr, tgV (tgOf tg0 s)), (fCr, cgV (cgOf 7 s)), (fCf, iv 0), (fOf, orN (evM m))] [sA T A C] = some (evM m, lq T A C (tgOf tg0 s) (cgOf 7 s) ++ [(fCf, [cg_ (cgOf 7 s)], iv 0), (fOf, [cg_ (cgOf 7 s)], orN (evM m))]) := by
 simp only [List.mem_cons, List.not_mem_nil, or_false] at hs
 rcases hs with rfl | rfl | rfl | rfl | rfl <;> exact ⟨by kernel_rfl, by kernel_rfl⟩
theorem ex_d (j : Nat) (hj : j ∈ [5, 7]) (s : Nat) (hs : s ∈ [0, 1, 2, 3, 4]) (m : Nat) :
  W e_pce [(fTg, tgV (tgOf tg0 s)), (fCg, cgV (cgOf j s)), (fCC, iv 0), (fOr, orN (evM m))] [sA T A C] = some (evM m, lp T A C (tgOf tg0 s) (cgOf j s) ++ [(fCC, [cg_ (cgOf j s)], iv 0), (fOr, [cg_ (cgOf j s)], orN (evM m))]) ∧
  W e_qsf [(fTF, iv 0), (fAF, iv 0), (fTr, tgV (tgOf tg0 s)), (fCr, cgV (cgOf j s)), (fCf, iv 0), (fOf, orN (evM m))] [sA T A C] = some (evM m, lq T A C (tgOf tg0 s) (cgOf j s) ++ [(fCf, [cg_ (cgOf j s)], iv 0), (fOf, [cg_ (cgOf j s)], orN (evM m))]) := by
 simp only [List.mem_cons, List.not_mem_nil, or_false] at hj
 rcases hj with rfl | rfl
 ·exact ex_d_5 T A C s hs m
 ·exact ex_d_7 T A C s hs m
/-- Templates or assets that are wrong. -/
theorem sf_t (m : Nat) : W e_qsf [(fTF, evM m)] [sA T A C] = some (evM m, [(fTF, [.one (.sl false 4 T)], evM m)]) := by kernel_rfl
theorem sf_a (m : Nat) : W e_qsf [(fTF, iv 0), (fAF, evM m)] [sA T A C] = some (evM m, [(fTF, [.one (.sl false 4 T)], iv 0), (fAF, [sA T A C], evM m)]) := by kernel_rfl
theorem cs_t (m : Nat) : W e_pcs [(fCT, evM m)] [sA T A C] = some (evM m, [(fCT, [.one (.sl false 4 T)], evM m)]) := by kernel_rfl
theorem cs_a (m : Nat) : W e_pcs [(fCT, iv 0), (fCA, evM m)] [sA T A C] = some (evM m, [(fCT, [.one (.sl false 4 T)], iv 0), (fCA, [sA T A C], evM m)]) := by kernel_rfl
theorem cs_x (m : Nat) : W e_pcs [(fCT, iv 0), (fCA, iv 0), (fCE, evM m)] [sA T A C] = some (evM m, [(fCT, [.one (.sl false 4 T)], iv 0), (fCA, [sA T A C], iv 0), (fCE, [sA T A C], evM m)]) := by kernel_rfl
theorem cs_c (e : Int) : W e_pcs [(fCT, iv 0), (fCA, iv 0), (fCE, iv 0), (fCk, iv e)] [sA T A C] = some (iv e, [(fCT, [.one (.sl false 4 T)], iv 0), (fCA, [sA T A C], iv 0), (fCE, [sA T A C], iv 0), (fCk, [cg_ C], iv e)]) := by kernel_rfl
end
theorem or_0 : R fEo [.one (.sl false 1 [[gI 0], [gI 0]])] = some ([], iv 0) := by kernel_rfl
theorem or_1 (m : Nat) : R fEo [.one (.sl false 1 [[gI 0], [gI ((m + 1 : Nat) : Int)]])] = some ([], evM m) := by kernel_rfl
theorem or_2 (m : Nat) (e : Int) : R fEo [.one (.sl false 1 [[gI ((m + 1 : Nat) : Int)], [gI e]])] = some ([], evM m) := by kernel_rfl
end Go.Proofs.YtdhkejcldipbmaaGreatDoor

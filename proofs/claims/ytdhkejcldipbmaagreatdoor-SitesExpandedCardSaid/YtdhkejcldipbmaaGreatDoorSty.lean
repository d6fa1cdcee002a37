
/-
 Sites, one part after the other: all that is expanded (the program, right so far). Sites, one part after the other: all that is expanded (the reference, right so far).
-/
import Derived.Test.YtdhkejcldipbmaaGreatDoorOrd
namespace Go.Proofs.YtdhkejcldipbmaaGreatDoor
open Go Go.Ai Go.Proofs
set_option linter.unusedSimpArgs false
set_option linter.unusedVariables false
set_option maxHeartbeats 4000000
set_option maxRecDepth 100000
section
variable (T A C : List (List Cel))
theorem ex_e_0 (s : Nat) (hs : s ∈ [0, 1, 2, 3, 4, 5]) (L al : List (List Cel)) (e : Int) :
  W e_pce [(fTg, tgV (tgOf tg0 s)), (fCg, cgV (cgOf 0 s)), (fCC, iv 0), (fOr, orV L (iv 0)), (fAg, agV al), (96, iv e)] [sA T A C] = some (iv e, lp T A C (tgOf tg0 s) (cgOf 0 s) ++ [(fCC, [cg_ (cgOf 0 s)], iv 0), (fOr, [cg_ (cgOf 0 s)], orV L (iv 0)), (fAg, [sA T A C], agV al), (96, [.one (.sl false 10 al)], iv e)]) := by
 simp only [List.mem_cons, List.not_mem_nil, or_false] at hs
 rcases hs with rfl | rfl | rfl | rfl | rfl | rfl <;> kernel_rfl
theorem ex_e_1 (s : Nat) (hs : s ∈ [0, 1, 2, 3, 4, 5]) (L al : List (List Cel)) (e : Int) :
  W e_pce [(fTg, tgV (tgOf tg0 s)), (fCg, cgV (cgOf 1 s)), (fCC, iv 0), (fOr, orV L (iv 0)), (fAg, agV al), (96, iv e)] [sA T A C] = some (iv e, lp T A C (tgOf tg0 s) (cgOf 1 s) ++ [(fCC, [cg_ (cgOf 1 s)], iv 0), (fOr, [cg_ (cgOf 1 s)], orV L (iv 0)), (fAg, [sA T A C], agV al), (96, [.one (.sl false 10 al)], iv e)]) := by
 simp only [List.mem_cons, List.not_mem_nil, or_false] at hs
 rcases hs with rfl | rfl | rfl | rfl | rfl | rfl <;> kernel_rfl
theorem ex_e_2 (s : Nat) (hs : s ∈ [0, 1, 2, 3, 4, 5]) (L al : List (List Cel)) (e : Int) :
  W e_pce [(fTg, tgV (tgOf tg0 s)), (fCg, cgV (cgOf 2 s)), (fCC, iv 0), (fOr, orV L (iv 0)), (fAg, agV al), (96, iv e)] [sA T A C] = some (iv e, lp T A C (tgOf tg0 s) (cgOf 2 s) ++ [(fCC, [cg_ (cgOf 2 s)], iv 0), (fOr, [cg_ (cgOf 2 s)], orV L (iv 0)), (fAg, [sA T A C], agV al), (96, [.one (.sl false 10 al)], iv e)]) := by
 simp only [List.mem_cons, List.not_mem_nil, or_false] at hs
 rcases hs with rfl | rfl | rfl | rfl | rfl | rfl <;> kernel_rfl
theorem ex_e_3 (s : Nat) (hs : s ∈ [0, 1, 2, 3, 4, 5]) (L al : List (List Cel)) (e : Int) :
  W e_pce [(fTg, tgV (tgOf tg0 s)), (fCg, cgV (cgOf 3 s)), (fCC, iv 0), (fOr, orV L (iv 0)), (fAg, agV al), (96, iv e)] [sA T A C] = some (iv e, lp T A C (tgOf tg0 s) (cgOf 3 s) ++ [(fCC, [cg_ (cgOf 3 s)], iv 0), (fOr, [cg_ (cgOf 3 s)], orV L (iv 0)), (fAg, [sA T A C], agV al), (96, [.one (.sl false 10 al)], iv e)]) := by
 simp only [List.mem_cons, List.not_mem_nil, or_false] at hs
 rcases hs with rfl | rfl | rfl | rfl | rfl | rfl <;> kernel_rfl
theorem ex_e_4 (s : Nat) (hs : s ∈ [0, 1, 2, 3, 4, 5]) (L al : List (List Cel)) (e : Int) :
  W e_pce [(fTg, tgV (tgOf tg0 s)), (fCg, cgV (cgOf 4 s)), (fCC, iv 0), (fOr, orV L (iv 0)), (fAg, agV al), (96, iv e)] [sA T A C] = some (iv e, lp T A C (tgOf tg0 s) (cgOf 4 s) ++ [(fCC, [cg_ (cgOf 4 s)], iv 0), (fOr, [cg_ (cgOf 4 s)], orV L (iv 0)), (fAg, [sA T A C], agV al), (96, [.one (.sl false 10 al)], iv e)]) := by
 simp only [List.mem_cons, List.not_mem_nil, or_false] at hs
 rcases hs with rfl | rfl | rfl | rfl | rfl | rfl <;> kernel_rfl
theorem ex_e (j : Nat) (hj : j ∈ [0, 1, 2, 3, 4]) (s : Nat) (hs : s ∈ [0, 1, 2, 3, 4, 5]) (L al : List (List Cel)) (e : Int) :
  W e_pce [(fTg, tgV (tgOf tg0 s)), (fCg, cgV (cgOf j s)), (fCC, iv 0), (fOr, orV L (iv 0)), (fAg, agV al), (96, iv e)] [sA T A C] = some (iv e, lp T A C (tgOf tg0 s) (cgOf j s) ++ [(fCC, [cg_ (cgOf j s)], iv 0), (fOr, [cg_ (cgOf j s)], orV L (iv 0)), (fAg, [sA T A C], agV al), (96, [.one (.sl false 10 al)], iv e)]) := by
 simp only [List.mem_cons, List.not_mem_nil, or_false] at hj
 rcases hj with rfl | rfl | rfl | rfl | rfl
 ·exact ex_e_0 T A C s hs L al e
 ·exact ex_e_1 T A C s hs L al e
 ·exact ex_e_2 T A C s hs L al e
 ·exact ex_e_3 T A C s hs L al e
 ·exact ex_e_4 T A C s hs L al e
end
section
variable (T A C : List (List Cel))
theorem ex_f_0 (s : Nat) (hs : s ∈ [0, 1, 2, 3, 4, 5]) (L al : List (List Cel)) (e ec eo : Int) :
  W e_qsf [(fTF, iv 0), (fAF, iv 0), (fTr, tgV (tgOf tg0 s)), (fCr, cgV (cgOf 0 s)), (fCf, iv 0), (fOf, orV L (iv 0)), (fAr, agV al), (39, iv e), (fKf, iv ec), (fEo, iv eo)] [sA T A C] = some (iv eo, lq T A C (tgOf tg0 s) (cgOf 0 s) ++ [(fCf, [cg_ (cgOf 0 s)], iv 0), (fOf, [cg_ (cgOf 0 s)], orV L (iv 0)), (fAr, [sA T A C], agV al), (39, [.one (.sl false 10 al)], iv e), (fKf, [cg_ C], iv ec), (fEo, [.one (.sl false 1 [[gI e], [gI ec]])], iv eo)]) := by
 simp only [List.mem_cons, List.not_mem_nil, or_false] at hs
 rcases hs with rfl | rfl | rfl | rfl | rfl | rfl <;> kernel_rfl
theorem ex_f_1 (s : Nat) (hs : s ∈ [0, 1, 2, 3, 4, 5]) (L al : List (List Cel)) (e ec eo : Int) :
  W e_qsf [(fTF, iv 0), (fAF, iv 0), (fTr, tgV (tgOf tg0 s)), (fCr, cgV (cgOf 1 s)), (fCf, iv 0), (fOf, orV L (iv 0)), (fAr, agV al), (39, iv e), (fKf, iv ec), (fEo, iv eo)] [sA T A C] = some (iv eo, lq T A C (tgOf tg0 s) (cgOf 1 s) ++ [(fCf, [cg_ (cgOf 1 s)], iv 0), (fOf, [cg_ (cgOf 1 s)], orV L (iv 0)), (fAr, [sA T A C], agV al), (39, [.one (.sl false 10 al)], iv e), (fKf, [cg_ C], iv ec), (fEo, [.one (.sl false 1 [[gI e], [gI ec]])], iv eo)]) := by
 simp only [List.mem_cons, List.not_mem_nil, or_false] at hs
 rcases hs with rfl | rfl | rfl | rfl | rfl | rfl <;> kernel_rfl
theorem ex_f_2 (s : Nat) (hs : s ∈ [0, 1, 2, 3, 4, 5]) (L al : List (List Cel)) (e ec eo : Int) :
  W e_qsf [(fTF, iv 0), (fAF, iv 0), (fTr, tgV (tgOf tg0 s)), (fCr, cgV (cgOf 2 s)), (fCf, iv 0), (fOf, orV L (iv 0)), (fAr, agV al), (39, iv e), (fKf, iv ec), (fEo, iv eo)] [sA T A C] = some (iv eo, lq T A C (tgOf tg0 s) (cgOf 2 s) ++ [(fCf, [cg_ (cgOf 2 s)], iv 0), (fOf, [cg_ (cgOf 2 s)], orV L (iv 0)), (fAr, [sA T A C], agV al), (39, [.one (.sl false 10 al)], iv e), (fKf, [cg_ C], iv ec), (fEo, [.one (.sl false 1 [[gI e], [gI ec]])], iv eo)]) := by
 simp only [List.mem_cons, List.not_mem_nil, or_false] at hs
 rcases hs with rfl | rfl | rfl | rfl | rfl | rfl <;> kernel_rfl
theorem ex_f_3 (s : Nat) (hs : s ∈ [0, 1, 2, 3, 4, 5]) (L al : List (List Cel)) (e ec eo : Int) :
  W e_qsf [(fTF, iv 0), (fAF, iv 0), (fTr, tgV (tgOf tg0 s)), (fCr, cgV (cgOf 3 s)), (fCf, iv 0), (fOf, orV L (iv 0)), (fAr, agV al), (39, iv e), (fKf, iv ec), (fEo, iv eo)] [sA T A C] = some (iv eo, lq T A C (tgOf tg0 s) (cgOf 3 s) ++ [(fCf, [cg_ (cgOf 3 s)], iv 0), (fOf, [cg_ (cgOf 3 s)], orV L (iv 0)), (fAr, [sA T A C], agV al), (39, [.one (.sl false 10 al)], iv e), (fKf, [cg_ C], iv ec), (fEo, [.one (.sl false 1 [[gI e], [gI ec]])], iv eo)]) := by
 simp only [List.mem_cons, List.not_mem_nil, or_false] at hs
 rcases hs with rfl | rfl | rfl | rfl | rfl | rfl <;> kernel_rfl
theorem ex_f_4 (s : Nat) (hs : s ∈ [0, 1, 2, 3, 4, 5]) (L al : List (List Cel)) (e ec eo : Int) :
  W e_qsf [(fTF, iv 0), (fAF, iv 0), (fTr, tgV (tgOf tg0 s)), (fCr, cgV (cgOf 4 s)), (fCf, iv 0), (fOf, orV L (iv 0)), (fAr, agV al), (39, iv e), (fKf, iv ec), (fEo, iv eo)] [sA T A C] = some (iv eo, lq T A C (tgOf tg0 s) (cgOf 4 s) ++ [(fCf, [cg_ (cgOf 4 s)], iv 0), (fOf, [cg_ (cgOf 4 s)], orV L (iv 0)), (fAr, [sA T A C], agV al), (39, [.one (.sl false 10 al)], iv e), (fKf, [cg_ C], iv ec), (fEo, [.one (.sl false 1 [[gI e], [gI ec]])], iv eo)]) := by
 simp only [List.mem_cons, List.not_mem_nil, or_false] at hs
 rcases hs with rfl | rfl | rfl | rfl | rfl | rfl <;> kernel_rfl
theorem ex_f (j : Nat) (hj : j ∈ [0, 1, 2, 3, 4]) (s : Nat) (hs : s ∈ [0, 1, 2, 3, 4, 5]) (L al : List (List Cel)) (e ec eo : Int) :
  W e_qsf [(fTF, iv 0), (fAF, iv 0), (fTr, tgV (tgOf tg0 s)), (fCr, cgV (cgOf j s)), (fCf, iv 0), (fOf, orV L (iv 0)), (fAr, agV al), (39, iv e), (fKf, iv ec), (fEo, iv eo)] [sA T A C] = some (iv eo, lq T A C (tgOf tg0 s) (cgOf j s) ++ [(fCf, [cg_ (cgOf j s)], iv 0), (fOf, [cg_ (cgOf j s)], orV L (iv 0)), (fAr, [sA T A C], agV al), (39, [.one (.sl false 10 al)], iv e), (fKf, [cg_ C], iv ec), (fEo, [.one (.sl false 1 [[gI e], [gI ec]])], iv eo)]) := by
 simp only [List.mem_cons, List.not_mem_nil, or_false] at hj
 rcases hj with rfl | rfl | rfl | rfl | rfl
 ·exact ex_f_0 T A C s hs L al e ec eo
 ·exact ex_f_1 T A C s hs L al e ec eo
 ·exact ex_f_2 T A C s hs L al e ec eo
 ·exact ex_f_3 T A C s hs L al e ec eo
 ·exact ex_f_4 T A C s hs L al e ec eo
end
end Go.Proofs.YtdhkejcldipbmaaGreatDoor


/-
  TopFramesAreAlarms returns true for every slice of integers, and leaves the slice as it was: the frames of a trigger are the windows of an alarm whose deadband leads from one limit to the other. No condition.
-/
import Derived.Test.YtmbpfhpdicjpcaaTfp
import Derived.Test.YtmbpfhpdicjpcaaGenC
import Derived.Test.YtmbpfhpdicjpcaaAiRow
import Derived.Test.YtmbpfhpdicjpcaaRows
namespace Go.Proofs.Ytmbpfhpdicjpcaa
open Go Go.Ai
set_option linter.unusedSimpArgs false
set_option linter.unusedVariables false
set_option maxHeartbeats 4000000
def A_eqWin : List Ann := [⟨(some ⟨[0,1], [], []⟩), [], [], [], []⟩, ⟨(some ⟨[0,1,10], [], []⟩), [], [], [], []⟩, ⟨(some ⟨[4], [], []⟩), [], [], [], []⟩, ⟨(some ⟨[0,1,12,13], [], []⟩), [], [], [], []⟩, ⟨(some ⟨[0,1,12,13,14], [], []⟩), [], [], [], []⟩, ⟨(some ⟨[0,1,5,12,13], [], []⟩), [], [], [], []⟩, ⟨(some ⟨[0,1,12,13,24], [], []⟩), [], [], [], []⟩, ⟨(some ⟨[4], [], []⟩), [], [], [], []⟩, ⟨(some ⟨[0,1,12,13], [], []⟩), [], [], [], []⟩, ⟨(some ⟨[4], [], []⟩), [], [], [], []⟩]
def C_eqWin : AC := (.seq (.reg false [⟨(some 4), none, .mv (.v (.bool false))⟩] (some ⟨[0,1], [], []⟩))
  (.seq (.seq (.reg false [⟨(some 6), none, .mv (.t 0)⟩, ⟨(some 7), none, .len (.t 6)⟩, ⟨(some 8), none, .mv (.t 1)⟩, ⟨(some 9), none, .len (.t 8)⟩, ⟨(some 10), none, .bin .neq (.t 7) (.t 9)⟩] (some ⟨[0,1,10], [], []⟩))
  (.cond (.t 10)
  (.seq (.reg false [⟨(some 4), none, .mv (.v (.bool false))⟩] (some ⟨[4], [], []⟩))
  .ret)
  .skip))
  (.seq (.seq (.reg false [⟨(some 11), none, .mv (.t 0)⟩, ⟨(some 12), none, .len (.t 11)⟩, ⟨(some 13), none, .mv (.v (.int .i64 (0)))⟩] (some ⟨[0,1,12,13], [], []⟩))
  (.block 0 (.loop (.seq (.reg false [⟨(some 14), none, .bin .lss (.t 13) (.t 12)⟩] (some ⟨[0,1,12,13,14], [], []⟩))
  (.seq (.cond (.t 14)
  .skip
  (.exit 0))
  (.seq (.block 1 (.seq (.reg false [⟨(some 15), none, .mv (.t 13)⟩, ⟨(some 5), none, .mv (.t 15)⟩] (some ⟨[0,1,5,12,13], [], []⟩))
  (.seq (.reg true [⟨(some 16), none, .mv (.t 0)⟩, ⟨(some 17), none, .mv (.t 5)⟩, ⟨(some 18), none, .iadr 2 (.t 16) (.t 17)⟩, ⟨(some 19), none, .load true 2 (.t 18)⟩, ⟨(some 20), none, .mv (.t 1)⟩, ⟨(some 21), none, .mv (.t 5)⟩, ⟨(some 22), none, .iadr 2 (.t 20) (.t 21)⟩, ⟨(some 23), none, .load true 2 (.t 22)⟩, ⟨(some 24), none, .eqs true true [.i .i64, .i .i64] (.t 19) (.t 23)⟩] (some ⟨[0,1,12,13,24], [], []⟩))
  (.cond (.t 24)
  (.seq (.reg false [⟨(some 4), none, .mv (.v (.bool false))⟩] (some ⟨[4], [], []⟩))
  .ret)
  .skip))))
  (.reg false [⟨(some 25), none, .bin .add (.t 13) (.v (.int .i64 (1)))⟩, ⟨(some 13), none, .mv (.t 25)⟩] (some ⟨[0,1,12,13], [], []⟩))))))))
  (.seq (.reg false [⟨(some 4), none, .mv (.v (.bool true))⟩] (some ⟨[4], [], []⟩))
  .ret))))
theorem c_eqWin : compileCode Try.prog Try.f30.ntmps (Try.f30.body.getD .skip) A_eqWin = some (C_eqWin, []) := by kernel_rfl
theorem r_eqWin : compileRes Try.prog Try.f30.results.toList = some [.t 4] := by kernel_rfl
theorem b_eqWin : Try.f30.body = some (Try.f30.body.getD .skip) := by kernel_rfl
theorem n_eqWin : (Try.f30.name == "runtime.NumGoroutine") = false := by kernel_rfl
theorem fc_eqWin {xt : Option (List Cel)} {args : List Val} {R : List Cel → Val → Prop} (hn : (if xt.isSome then 1 else 0) + args.length ≤ Try.f30.ntmps) (h : ex Try.prog C_eqWin [] (fpost xt [.t 4] R) (initSt xt args)) : FC Try.prog 30 xt args R :=
  fc_of_awp Try.func30 b_eqWin n_eqWin c_eqWin r_eqWin (of_decide_eq_true (by kernel_rfl)) hn h

def A_facts : List Ann := [⟨(some ⟨[], [], []⟩), [], [], [], []⟩, ⟨(some ⟨[1,2,3], [1], []⟩), [], [], [], []⟩, ⟨(some ⟨[1,2,3,4,5], [1], []⟩), [], [], [], []⟩, ⟨(some ⟨[0], [], []⟩), [], [], [], []⟩]
def C_facts : AC := (.seq (.reg false [⟨(some 0), none, .mv (.v (.bool false))⟩] (some ⟨[], [], []⟩))
  (.seq (.reg false [⟨(some 7), none, .build [(.int .i64 (0)), (.int .i64 (0)), (.int .i64 (0))] [(0, 1, (.v (.int .i64 (0)))), (1, 1, (.v (.int .i64 (0))))]⟩, ⟨(some 8), none, .build [(.int .i64 (0)), (.int .i64 (0)), (.int .i64 (0))] [(0, 1, (.v (.int .i64 (4)))), (1, 1, (.v (.int .i64 (2))))]⟩, ⟨(some 9), none, .bslice 3 2 [(.t 7), (.t 8)]⟩, ⟨(some 10), none, .call (.f 47) [(.t 9), (.v (.int .i64 (1)))]⟩, ⟨(some 6), none, .mv (.t 10)⟩, ⟨(some 11), none, .extr (.t 6) 0⟩, ⟨(some 12), none, .extr (.t 6) 1⟩, ⟨(some 13), none, .extr (.t 6) 2⟩, ⟨(some 1), none, .alloc [(.int .i64 (0)), (.int .i64 (0))]⟩, ⟨none, none, .store 2 (.t 1) (.t 11)⟩, ⟨(some 2), none, .mv (.t 12)⟩, ⟨(some 3), none, .mv (.t 13)⟩] (some ⟨[1,2,3], [1], []⟩))
  (.seq (.reg false [⟨(some 15), none, .build [(.string (ByteArray.mk #[])), (.string (ByteArray.mk #[])), (.int .i64 (0)), (.int .i64 (0)), (.int .i64 (0)), (.int .i64 (0)), (.int .i64 (0)), (.int .i64 (0)), (.bool false), (.string (ByteArray.mk #[]))] [(0, 1, (.v (.string (ByteArray.mk #[97])))), (1, 1, (.v (.string (ByteArray.mk #[116])))), (2, 1, (.v (.int .i64 (1)))), (3, 1, (.v (.int .i64 (5)))), (7, 1, (.v (.int .i64 (1))))]⟩, ⟨(some 16), none, .build [(.int .i64 (0)), (.int .i64 (0)), (.int .i64 (0))] [(0, 1, (.v (.int .i64 (3)))), (1, 1, (.v (.int .i64 (6))))]⟩, ⟨(some 17), none, .bslice 3 1 [(.t 16)]⟩, ⟨(some 18), none, .call (.f 57) [(.t 15), (.t 17), (.v (.int .i64 (9)))]⟩, ⟨(some 14), none, .mv (.t 18)⟩, ⟨(some 19), none, .extr (.t 14) 0⟩, ⟨(some 20), none, .extr (.t 14) 1⟩, ⟨(some 4), none, .mv (.t 19)⟩, ⟨(some 5), none, .mv (.t 20)⟩] (some ⟨[1,2,3,4,5], [1], []⟩))
  (.seq (.reg false [⟨(some 21), none, .mv (.t 3)⟩, ⟨(some 22), none, .bin .eql (.t 21) (.v (.int .i64 (0)))⟩, ⟨(some 23), none, .mv (.t 22)⟩, ⟨(some 24), (some (23, true)), .mv (.t 2)⟩, ⟨(some 25), none, .pick (.t 23) (.t 24) (.v (.bool false))⟩, ⟨(some 26), none, .mv (.t 25)⟩, ⟨(some 27), (some (26, true)), .load true 2 (.t 1)⟩, ⟨(some 28), (some (26, true)), .build [(.int .i64 (0)), (.int .i64 (0))] [(0, 1, (.v (.int .i64 (1)))), (1, 1, (.v (.int .i64 (2))))]⟩, ⟨(some 29), (some (26, true)), .eqs false true [.i .i64, .i .i64] (.t 27) (.t 28)⟩, ⟨(some 30), none, .pick (.t 26) (.t 29) (.v (.bool false))⟩, ⟨(some 31), none, .mv (.t 30)⟩, ⟨(some 32), (some (31, true)), .mv (.t 5)⟩, ⟨(some 33), (some (31, true)), .bin .eql (.t 32) (.v (.int .i64 (0)))⟩, ⟨(some 34), none, .pick (.t 31) (.t 33) (.v (.bool false))⟩, ⟨(some 35), none, .mv (.t 34)⟩, ⟨(some 36), (some (35, true)), .mv (.t 4)⟩, ⟨(some 37), (some (35, true)), .len (.t 36)⟩, ⟨(some 38), (some (35, true)), .bin .eql (.t 37) (.v (.int .i64 (1)))⟩, ⟨(some 39), none, .pick (.t 35) (.t 38) (.v (.bool false))⟩, ⟨(some 0), none, .mv (.t 39)⟩] (some ⟨[0], [], []⟩))
  .ret))))
theorem c_facts : compileCode Try.prog Try.f77.ntmps (Try.f77.body.getD .skip) A_facts = some (C_facts, []) := by kernel_rfl
theorem r_facts : compileRes Try.prog Try.f77.results.toList = some [.t 0] := by kernel_rfl
theorem b_facts : Try.f77.body = some (Try.f77.body.getD .skip) := by kernel_rfl
theorem n_facts : (Try.f77.name == "runtime.NumGoroutine") = false := by kernel_rfl
theorem fc_facts {xt : Option (List Cel)} {args : List Val} {R : List Cel → Val → Prop} (hn : (if xt.isSome then 1 else 0) + args.length ≤ Try.f77.ntmps) (h : ex Try.prog C_facts [] (fpost xt [.t 0] R) (initSt xt args)) : FC Try.prog 77 xt args R :=
  fc_of_awp Try.func77 b_facts n_facts c_facts r_facts (of_decide_eq_true (by kernel_rfl)) hn h

def A_tfa : List Ann := [⟨(some ⟨[0], [], []⟩), [], [], [], []⟩, ⟨(some ⟨[3,14], [14], []⟩), [], [], [], []⟩, ⟨(some ⟨[3,4,5,6,14], [14], []⟩), [], [], [], []⟩, ⟨(some ⟨[4,5,6,7], [], []⟩), [], [], [], []⟩, ⟨(some ⟨[4,5,6,7,8,9], [], []⟩), [], [], [], []⟩, ⟨(some ⟨[8,9,10,11], [], []⟩), [], [], [], []⟩, ⟨(some ⟨[2], [], []⟩), [], [], [], []⟩]
def C_tfa : AC := (.seq (.reg false [⟨(some 2), none, .mv (.v (.bool false))⟩] (some ⟨[0], [], []⟩))
  (.seq (.reg false [⟨(some 12), none, .mv (.t 0)⟩, ⟨(some 13), none, .build [(.slice none 0 0), (.int .i64 (0))] [(0, 1, (.t 12))]⟩, ⟨(some 14), none, .box (.t 13)⟩, ⟨(some 3), none, .mv (.t 14)⟩] (some ⟨[3,14], [14], []⟩))
  (.seq (.reg false [⟨(some 15), none, .mv (.t 3)⟩, ⟨(some 16), none, .callx (.f 55) [(.t 15), (.v (.int .i64 (14)))]⟩, ⟨(some 17), none, .mv (.t 3)⟩, ⟨(some 18), none, .callx (.f 56) [(.t 17), (.v (.int .i64 (1))), (.v (.int .i64 (8)))]⟩, ⟨(some 19), none, .mv (.t 3)⟩, ⟨(some 20), none, .callx (.f 56) [(.t 19), (.v (.int .i64 (1))), (.v (.int .i64 (200)))]⟩, ⟨(some 4), none, .mv (.t 16)⟩, ⟨(some 5), none, .mv (.t 18)⟩, ⟨(some 6), none, .mv (.t 20)⟩] (some ⟨[3,4,5,6,14], [14], []⟩))
  (.seq (.reg false [⟨(some 21), none, .mv (.t 5)⟩, ⟨(some 22), none, .mv (.t 3)⟩, ⟨(some 23), none, .callx (.f 56) [(.t 22), (.v (.int .i64 (0))), (.v (.int .i64 (4)))]⟩, ⟨(some 24), none, .bin .sub (.t 21) (.t 23)⟩, ⟨(some 7), none, .mv (.t 24)⟩] (some ⟨[4,5,6,7], [], []⟩))
  (.seq (.reg false [⟨(some 26), none, .mv (.t 5)⟩, ⟨(some 27), none, .mv (.t 7)⟩, ⟨(some 28), none, .build [(.int .i64 (0)), (.int .i64 (0)), (.int .i64 (0)), (.int .i64 (0))] [(0, 1, (.t 26)), (1, 1, (.t 27))]⟩, ⟨(some 29), none, .mv (.t 4)⟩, ⟨(some 30), none, .mv (.t 6)⟩, ⟨(some 31), none, .call (.f 23) [(.t 28), (.t 29), (.t 30)]⟩, ⟨(some 25), none, .mv (.t 31)⟩, ⟨(some 32), none, .extr (.t 25) 0⟩, ⟨(some 33), none, .extr (.t 25) 1⟩, ⟨(some 8), none, .mv (.t 32)⟩, ⟨(some 9), none, .mv (.t 33)⟩] (some ⟨[4,5,6,7,8,9], [], []⟩))
  (.seq (.reg false [⟨(some 35), none, .mv (.t 5)⟩, ⟨(some 36), none, .bin .sub (.t 35) (.v (.int .i64 (1)))⟩, ⟨(some 37), none, .mv (.t 5)⟩, ⟨(some 38), none, .mv (.t 7)⟩, ⟨(some 39), none, .bin .sub (.t 37) (.t 38)⟩, ⟨(some 40), none, .build [(.string (ByteArray.mk #[])), (.string (ByteArray.mk #[])), (.int .i64 (0)), (.int .i64 (0)), (.int .i64 (0)), (.int .i64 (0)), (.int .i64 (0)), (.int .i64 (0)), (.bool false), (.string (ByteArray.mk #[]))] [(0, 1, (.v (.string (ByteArray.mk #[97])))), (1, 1, (.v (.string (ByteArray.mk #[116])))), (2, 1, (.v (.int .i64 (1)))), (3, 1, (.t 36)), (4, 1, (.t 39)), (7, 1, (.v (.int .i64 (1))))]⟩, ⟨(some 41), none, .mv (.t 4)⟩, ⟨(some 42), none, .mv (.t 6)⟩, ⟨(some 43), none, .call (.f 57) [(.t 40), (.t 41), (.t 42)]⟩, ⟨(some 34), none, .mv (.t 43)⟩, ⟨(some 44), none, .extr (.t 34) 0⟩, ⟨(some 45), none, .extr (.t 34) 1⟩, ⟨(some 10), none, .mv (.t 44)⟩, ⟨(some 11), none, .mv (.t 45)⟩] (some ⟨[8,9,10,11], [], []⟩))
  (.seq (.reg false [⟨(some 46), none, .mv (.t 9)⟩, ⟨(some 47), none, .bin .eql (.t 46) (.v (.int .i64 (0)))⟩, ⟨(some 48), none, .mv (.t 47)⟩, ⟨(some 49), (some (48, true)), .mv (.t 11)⟩, ⟨(some 50), (some (48, true)), .bin .eql (.t 49) (.v (.int .i64 (0)))⟩, ⟨(some 51), none, .pick (.t 48) (.t 50) (.v (.bool false))⟩, ⟨(some 52), none, .mv (.t 51)⟩, ⟨(some 53), (some (52, true)), .mv (.t 8)⟩, ⟨(some 54), (some (52, true)), .mv (.t 10)⟩, ⟨(some 55), (some (52, true)), .call (.f 30) [(.t 53), (.t 54)]⟩, ⟨(some 56), none, .pick (.t 52) (.t 55) (.v (.bool false))⟩, ⟨(some 57), none, .mv (.t 56)⟩, ⟨(some 58), (some (57, true)), .call (.f 77) []⟩, ⟨(some 59), none, .pick (.t 57) (.t 58) (.v (.bool false))⟩, ⟨(some 2), none, .mv (.t 59)⟩] (some ⟨[2], [], []⟩))
  .ret)))))))
theorem c_tfa : compileCode Try.prog Try.f12.ntmps (Try.f12.body.getD .skip) A_tfa = some (C_tfa, []) := by kernel_rfl
theorem r_tfa : compileRes Try.prog Try.f12.results.toList = some [.t 2] := by kernel_rfl
theorem b_tfa : Try.f12.body = some (Try.f12.body.getD .skip) := by kernel_rfl
theorem n_tfa : (Try.f12.name == "runtime.NumGoroutine") = false := by kernel_rfl
theorem fc_tfa {xt : Option (List Cel)} {args : List Val} {R : List Cel → Val → Prop} (hn : (if xt.isSome then 1 else 0) + args.length ≤ Try.f12.ntmps) (h : ex Try.prog C_tfa [] (fpost xt [.t 2] R) (initSt xt args)) : FC Try.prog 12 xt args R :=
  fc_of_awp Try.func12 b_tfa n_tfa c_tfa r_tfa (of_decide_eq_true (by kernel_rfl)) hn h


def eqWSt (fr fr' : Bool) (l : List (Int × Int)) (i : Int) : AS := ⟨tabV [(0, frsV fr l), (1, frsV fr' l), (12, iv l.length), (13, iv i)], tabO [], tabO []⟩
theorem eqWin_fc (fr fr' : Bool) (l : List (Int × Int)) (hl : l.length ≤ 4611686018427387904) : FC Try.prog 30 none [frsV fr l, frsV fr' l] (fun _ r => r = bv true) := by
  refine fc_eqWin (by simp +arith) ?_
  unfold C_eqWin
  simp (maxSteps := 1000000) (disch := omega) only [go_sem, eq_self, decide_true, decide_false, not_true_eq_false, not_false_eq_true, reduceIte, reduceCtorEq, Nat.reduceEqDiff, Nat.reduceAdd, Nat.reduceSub, Nat.reduceLeDiff]
  refine ex_loop1 (eqWSt fr fr' l) (fun i => 0 ≤ i ∧ i ≤ l.length) (fun i => (l.length - i).toNat) 0 ⟨by omega, by omega⟩ rfl ?_
  rintro i ⟨g1, g2⟩
  unfold eqWSt
  by_cases hi : i < l.length
  · simp (maxSteps := 1000000) (disch := omega) only [go_sem, eq_self, decide_true, decide_false, not_true_eq_false, not_false_eq_true, reduceIte, reduceCtorEq, Nat.reduceEqDiff, Nat.reduceAdd, Nat.reduceSub, Nat.reduceLeDiff]
    exact ⟨_, rfl, ⟨by omega, by omega⟩, by omega⟩
  · simp (maxSteps := 1000000) (disch := omega) only [go_sem, eq_self, decide_true, decide_false, not_true_eq_false, not_false_eq_true, reduceIte, reduceCtorEq, Nat.reduceEqDiff, Nat.reduceAdd, Nat.reduceSub, Nat.reduceLeDiff]
theorem facts_fc : FC Try.prog 77 none [] (fun _ r => r = bv true) := by
  refine fc_facts (by simp +arith) ?_
  unfold C_facts
  simp (maxSteps := 1000000) (disch := omega) only [go_sem, eq_self, decide_true, decide_false, not_true_eq_false, not_false_eq_true, reduceIte, reduceCtorEq, Nat.reduceEqDiff, Nat.reduceAdd, Nat.reduceSub, Nat.reduceLeDiff]
  refine CALL_det (reconstruct_fc [⟨0, 0, 0⟩, ⟨4, 2, 0⟩] (by simp) 1) (.inl rfl) ?_
  have e : recoSp [⟨0, 0, 0⟩, ⟨4, 2, 0⟩] 1 = ((1, 2), true, 0) := by kernel_rfl
  rw [e]
  simp (maxSteps := 1000000) (disch := omega) only [go_sem, eq_self, decide_true, decide_false, not_true_eq_false, not_false_eq_true, reduceIte, reduceCtorEq, Nat.reduceEqDiff, Nat.reduceAdd, Nat.reduceSub, Nat.reduceLeDiff]
  refine CALL_det (activeP_fc 1 5 0 0 0 1 9 [⟨3, 6, 0⟩] (by simp)) (.inl rfl) ?_
  have e2 : actSp 1 5 0 0 0 1 [⟨3, 6, 0⟩] 9 = ([(3, 9)], 0) := by kernel_rfl
  rw [e2]
  simp (maxSteps := 1000000) (disch := omega) only [go_sem, eq_self, decide_true, decide_false, not_true_eq_false, not_false_eq_true, reduceIte, reduceCtorEq, Nat.reduceEqDiff, Nat.reduceAdd, Nat.reduceSub, Nat.reduceLeDiff]
  rfl
theorem tfa_fc (L : List Int) (hL : ∀ x ∈ L, I64 x) (hl : L.length ≤ 9223372036854775807) : FC Try.prog 12 none [ints false L] (fun _ r => r = bv true) := by
  refine fc_tfa (by simp +arith) ?_
  unfold C_tfa
  simp (maxSteps := 1000000) (disch := omega) only [go_sem, eq_self, decide_true, decide_false, not_true_eq_false, not_false_eq_true, reduceIte, reduceCtorEq, Nat.reduceEqDiff, Nat.reduceAdd, Nat.reduceSub, Nat.reduceLeDiff]
  refine callx_gen (p := 0) (rightCurve_fc 14 (by omega) (by omega)) hL hl (by omega) (by omega) ⟨_, [], rfl, by simp, rfl⟩ ?_
  rintro pa r ha1 ha2 ⟨l, hs, hlm, rfl⟩
  refine ⟨rfl, ?_⟩
  unfold strm
  simp (maxSteps := 1000000) (disch := omega) only [go_sem, eq_self, decide_true, decide_false, not_true_eq_false, not_false_eq_true, reduceIte, reduceCtorEq, Nat.reduceEqDiff, Nat.reduceAdd, Nat.reduceSub, Nat.reduceLeDiff]
  refine callx_gen (range_fc 1 8 (by omega) (by omega) (by omega)) hL hl (by omega) (by omega) ⟨_, 1, by omega, by omega, rfl⟩ ?_
  rintro pb r hb1 hb2 ⟨st, hs1, hs2, rfl⟩
  refine ⟨rfl, ?_⟩
  unfold strm
  simp (maxSteps := 1000000) (disch := omega) only [go_sem, eq_self, decide_true, decide_false, not_true_eq_false, not_false_eq_true, reduceIte, reduceCtorEq, Nat.reduceEqDiff, Nat.reduceAdd, Nat.reduceSub, Nat.reduceLeDiff]
  refine callx_gen (range_fc 1 200 (by omega) (by omega) (by omega)) hL hl (by omega) (by omega) ⟨_, 1, by omega, by omega, rfl⟩ ?_
  rintro pc r hc1 hc2 ⟨un, hu1, hu2, rfl⟩
  refine ⟨rfl, ?_⟩
  unfold strm
  simp (maxSteps := 1000000) (disch := omega) only [go_sem, eq_self, decide_true, decide_false, not_true_eq_false, not_false_eq_true, reduceIte, reduceCtorEq, Nat.reduceEqDiff, Nat.reduceAdd, Nat.reduceSub, Nat.reduceLeDiff]
  refine callx_gen (range_fc 0 4 (by omega) (by omega) (by omega)) hL hl (by omega) (by omega) ⟨_, 0, by omega, by omega, rfl⟩ ?_
  rintro pd r hd1 hd2 ⟨z, hz1, hz2, rfl⟩
  refine ⟨rfl, ?_⟩
  unfold strm
  have e0 : trgF st (st - z) 0 0 = 0 := by unfold trgF; rw [if_pos (by omega)]
  have hasc := asc_of hs
  have e1 := frmSp_ok e0 hs (show 0 ≤ un ∧ un ≤ 345686400000 by omega) (show l.length ≤ 2000 by omega)
  rw [frm_plain (by omega) hasc] at e1
  have e2 := actSp_ok (lim := st - 1) (db := st - (st - z)) (by omega) (by omega) (show 0 ≤ un ∧ un ≤ 345686400000 by omega) hs
  rw [actW_raw (by omega) hasc, show st - 1 + 1 = st by omega, show st - 1 - (st - (st - z)) + 1 = st - z by omega] at e2
  have hrl := raw_len st (st - z) un l ([], false)
  change (rawW st (st - z) un l).length ≤ _ at hrl
  simp only [List.length_nil, Nat.zero_add] at hrl
  generalize rawW st (st - z) un l = f at *
  simp (maxSteps := 1000000) (disch := omega) only [go_sem, eq_self, decide_true, decide_false, not_true_eq_false, not_false_eq_true, reduceIte, reduceCtorEq, Nat.reduceEqDiff, Nat.reduceAdd, Nat.reduceSub, Nat.reduceLeDiff]
  refine CALL_det (frames_fc l (by omega) st (st - z) 0 0 un) (.inl rfl) ?_
  rw [e1]
  simp (maxSteps := 1000000) (disch := omega) only [go_sem, eq_self, decide_true, decide_false, not_true_eq_false, not_false_eq_true, reduceIte, reduceCtorEq, Nat.reduceEqDiff, Nat.reduceAdd, Nat.reduceSub, Nat.reduceLeDiff]
  refine CALL_det (activeP_fc 1 (st - 1) (st - (st - z)) 0 0 1 un l (by omega)) (.inl rfl) ?_
  rw [e2]
  simp (maxSteps := 1000000) (disch := omega) only [go_sem, eq_self, decide_true, decide_false, not_true_eq_false, not_false_eq_true, reduceIte, reduceCtorEq, Nat.reduceEqDiff, Nat.reduceAdd, Nat.reduceSub, Nat.reduceLeDiff]
  refine CALL_det (eqWin_fc _ _ f (by omega)) (.inl rfl) ?_
  simp (maxSteps := 1000000) (disch := omega) only [go_sem, eq_self, decide_true, decide_false, not_true_eq_false, not_false_eq_true, reduceIte, reduceCtorEq, Nat.reduceEqDiff, Nat.reduceAdd, Nat.reduceSub, Nat.reduceLeDiff]
  refine CALL_det facts_fc (.inl rfl) ?_
  simp (maxSteps := 1000000) (disch := omega) only [go_sem, eq_self, decide_true, decide_false, not_true_eq_false, not_false_eq_true, reduceIte, reduceCtorEq, Nat.reduceEqDiff, Nat.reduceAdd, Nat.reduceSub, Nat.reduceLeDiff]
theorem tfa_own : ownKnob Try.prog.godebug = none := by kernel_rfl
theorem tfa_laid : laidOutB Try.prog = true := by kernel_rfl
set_option maxRecDepth 100000 in
theorem tfa_lifted (os : Os) (started : os.Started) (H : Type) (enc : TypeId × Value → H) :
    ReturnsInHanded {} Try.checked os 12 .any (Rows.topFramesAreAlarmsSpec.pre6 enc Try.prog Try.f12 Rows.topFramesAreAlarmsRow.domain false) (Rows.topFramesAreAlarmsSpec.post enc Try.prog Try.f12 false true false false) := by
  refine returnsInHanded_of_change (C := Try.checked) tfa_own started (by kernel_rfl) Try.func12
    (ChangeSpec.witness6 (enc := enc) (C := Try.checked) false ⟨#[], #[.slice none 0 0], []⟩ 8 (by kernel_rfl) (by kernel_rfl) (by kernel_rfl) (by kernel_rfl)) ?_
  intro W base args ds gs before hval hW _ _
  exact law_contract (P := Try.prog) (fun L h1 h2 => tfa_fc L h1 h2) (fun _ _ => rfl) rfl rfl rfl tfa_laid (by kernel_rfl) (of_decide_eq_true (by kernel_rfl)) Try.underlying22 Try.underlying3 (by kernel_rfl) Try.underlying4 W base args ds gs before hval hW
theorem tfa_over : Rows.topFramesAreAlarmsRow.holds Try.pinned (OpenSpec.ofChange Rows.topFramesAreAlarmsSpec) :=
  OpenClaim.holds_of_wide 12 Try.f12 rfl rfl rfl rfl rfl rfl rfl ⟨rfl, rfl, rfl, rfl, rfl⟩ rfl rfl rfl rfl rfl (by kernel_rfl) Try.func12 (by kernel_rfl)
    (of_decide_eq_true (by kernel_rfl)) (by unfold Func.isWrapper; first | (rw [if_pos (by decide +kernel)]; kernel_rfl) | (rw [if_neg (by decide +kernel)]; exact ⟨rfl, rfl⟩))
    (fun os started H enc _ => tfa_lifted os started H enc)
theorem top_frames_are_alarms : Rows.TopFramesAreAlarmsSaid := tfa_over
end Go.Proofs.Ytmbpfhpdicjpcaa

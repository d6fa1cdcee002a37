
/-
  That the packages do something: ready.
-/
import Derived.Test.YtggbcgldnjmobaaActb
namespace Go.Proofs.Ytggbcgldnjmobaa
open Go Go.Ai
set_option linter.unusedSimpArgs false
set_option linter.unusedVariables false
set_option maxHeartbeats 4000000
def A_ready : List Ann := [⟨(some ⟨[], [], []⟩), [], [], [], []⟩, ⟨(some ⟨[1,2,3], [1], []⟩), [], [], [], []⟩, ⟨(some ⟨[1,2,3,4,5], [1], []⟩), [], [], [], []⟩, ⟨(some ⟨[1,2,3,4,5,6,7], [1], []⟩), [], [], [], []⟩, ⟨(some ⟨[0], [], []⟩), [], [], [], []⟩]
def C_ready : AC := (.seq (.reg false [⟨(some 0), none, .mv (.v (.bool false))⟩] (some ⟨[], [], []⟩))
  (.seq (.reg false [⟨(some 9), none, .build [(.int .i64 (0)), (.int .i64 (0)), (.int .i64 (0))] [(0, 1, (.v (.int .i64 (0)))), (1, 1, (.v (.int .i64 (0))))]⟩, ⟨(some 10), none, .build [(.int .i64 (0)), (.int .i64 (0)), (.int .i64 (0))] [(0, 1, (.v (.int .i64 (4)))), (1, 1, (.v (.int .i64 (2))))]⟩, ⟨(some 11), none, .bslice 3 2 [(.t 9), (.t 10)]⟩, ⟨(some 12), none, .call (.f 77) [(.t 11), (.v (.int .i64 (1)))]⟩, ⟨(some 8), none, .mv (.t 12)⟩, ⟨(some 13), none, .extr (.t 8) 0⟩, ⟨(some 14), none, .extr (.t 8) 1⟩, ⟨(some 15), none, .extr (.t 8) 2⟩, ⟨(some 1), none, .alloc [(.int .i64 (0)), (.int .i64 (0))]⟩, ⟨none, none, .store 2 (.t 1) (.t 13)⟩, ⟨(some 2), none, .mv (.t 14)⟩, ⟨(some 3), none, .mv (.t 15)⟩] (some ⟨[1,2,3], [1], []⟩))
  (.seq (.reg false [⟨(some 17), none, .build [(.string (ByteArray.mk #[])), (.string (ByteArray.mk #[])), (.int .i64 (0)), (.int .i64 (0)), (.int .i64 (0)), (.int .i64 (0)), (.int .i64 (0)), (.int .i64 (0)), (.bool false), (.string (ByteArray.mk #[]))] [(0, 1, (.v (.string (ByteArray.mk #[97])))), (1, 1, (.v (.string (ByteArray.mk #[116])))), (2, 1, (.v (.int .i64 (1)))), (3, 1, (.v (.int .i64 (5)))), (7, 1, (.v (.int .i64 (1))))]⟩, ⟨(some 18), none, .build [(.int .i64 (0)), (.int .i64 (0)), (.int .i64 (0))] [(0, 1, (.v (.int .i64 (3)))), (1, 1, (.v (.int .i64 (6))))]⟩, ⟨(some 19), none, .bslice 3 1 [(.t 18)]⟩, ⟨(some 20), none, .call (.f 59) [(.t 17), (.t 19), (.v (.int .i64 (9)))]⟩, ⟨(some 16), none, .mv (.t 20)⟩, ⟨(some 21), none, .extr (.t 16) 0⟩, ⟨(some 22), none, .extr (.t 16) 1⟩, ⟨(some 4), none, .mv (.t 21)⟩, ⟨(some 5), none, .mv (.t 22)⟩] (some ⟨[1,2,3,4,5], [1], []⟩))
  (.seq (.reg false [⟨(some 24), none, .build [(.int .i64 (0)), (.int .i64 (0)), (.int .i64 (0)), (.int .i64 (0))] [(0, 1, (.v (.int .i64 (5)))), (1, 1, (.v (.int .i64 (5))))]⟩, ⟨(some 25), none, .build [(.int .i64 (0)), (.int .i64 (0)), (.int .i64 (0))] [(0, 1, (.v (.int .i64 (3)))), (1, 1, (.v (.int .i64 (6))))]⟩, ⟨(some 26), none, .bslice 3 1 [(.t 25)]⟩, ⟨(some 27), none, .call (.f 95) [(.t 24), (.t 26), (.v (.int .i64 (9)))]⟩, ⟨(some 23), none, .mv (.t 27)⟩, ⟨(some 28), none, .extr (.t 23) 0⟩, ⟨(some 29), none, .extr (.t 23) 1⟩, ⟨(some 6), none, .mv (.t 28)⟩, ⟨(some 7), none, .mv (.t 29)⟩] (some ⟨[1,2,3,4,5,6,7], [1], []⟩))
  (.seq (.reg false [⟨(some 30), none, .mv (.t 3)⟩, ⟨(some 31), none, .bin .eql (.t 30) (.v (.int .i64 (0)))⟩, ⟨(some 32), none, .mv (.t 31)⟩, ⟨(some 33), (some (32, true)), .mv (.t 2)⟩, ⟨(some 34), none, .pick (.t 32) (.t 33) (.v (.bool false))⟩, ⟨(some 35), none, .mv (.t 34)⟩, ⟨(some 36), (some (35, true)), .load true 2 (.t 1)⟩, ⟨(some 37), (some (35, true)), .build [(.int .i64 (0)), (.int .i64 (0))] [(0, 1, (.v (.int .i64 (1)))), (1, 1, (.v (.int .i64 (2))))]⟩, ⟨(some 38), (some (35, true)), .eqs false true [.i .i64, .i .i64] (.t 36) (.t 37)⟩, ⟨(some 39), none, .pick (.t 35) (.t 38) (.v (.bool false))⟩, ⟨(some 40), none, .mv (.t 39)⟩, ⟨(some 41), (some (40, true)), .mv (.t 5)⟩, ⟨(some 42), (some (40, true)), .bin .eql (.t 41) (.v (.int .i64 (0)))⟩, ⟨(some 43), none, .pick (.t 40) (.t 42) (.v (.bool false))⟩, ⟨(some 44), none, .mv (.t 43)⟩, ⟨(some 45), (some (44, true)), .mv (.t 4)⟩, ⟨(some 46), (some (44, true)), .len (.t 45)⟩, ⟨(some 47), (some (44, true)), .bin .eql (.t 46) (.v (.int .i64 (1)))⟩, ⟨(some 48), none, .pick (.t 44) (.t 47) (.v (.bool false))⟩, ⟨(some 49), none, .mv (.t 48)⟩, ⟨(some 50), (some (49, true)), .mv (.t 7)⟩, ⟨(some 51), (some (49, true)), .bin .eql (.t 50) (.v (.int .i64 (0)))⟩, ⟨(some 52), none, .pick (.t 49) (.t 51) (.v (.bool false))⟩, ⟨(some 53), none, .mv (.t 52)⟩, ⟨(some 54), (some (53, true)), .mv (.t 6)⟩, ⟨(some 55), (some (53, true)), .len (.t 54)⟩, ⟨(some 56), (some (53, true)), .bin .eql (.t 55) (.v (.int .i64 (1)))⟩, ⟨(some 57), none, .pick (.t 53) (.t 56) (.v (.bool false))⟩, ⟨(some 0), none, .mv (.t 57)⟩] (some ⟨[0], [], []⟩))
  .ret)))))
theorem c_ready : compileCode Try.prog Try.f42.ntmps (Try.f42.body.getD .skip) A_ready = some (C_ready, []) := by kernel_rfl
theorem r_ready : compileRes Try.prog Try.f42.results.toList = some [.t 0] := by kernel_rfl
theorem b_ready : Try.f42.body = some (Try.f42.body.getD .skip) := by kernel_rfl
theorem n_ready : (Try.f42.name == "runtime.NumGoroutine") = false := by kernel_rfl
theorem fc_ready {xt : Option (List Cel)} {args : List Val} {R : List Cel → Val → Prop} (hn : (if xt.isSome then 1 else 0) + args.length ≤ Try.f42.ntmps) (h : ex Try.prog C_ready [] (fpost xt [.t 0] R) (initSt xt args)) : FC Try.prog 42 xt args R :=
  fc_of_awp Try.func42 b_ready n_ready c_ready r_ready (of_decide_eq_true (by kernel_rfl)) hn h


theorem ready_fc : FC Try.prog 42 none [] (fun _ r => r = bv true) := by
  refine fc_ready (by simp +arith) ?_
  unfold C_ready
  simp (maxSteps := 1000000) (disch := omega) only [go_sem, eq_self, decide_true, decide_false, not_true_eq_false, not_false_eq_true, reduceIte, reduceCtorEq, Nat.reduceEqDiff, Nat.reduceAdd, Nat.reduceSub, Nat.reduceLeDiff]
  refine CALL_det (reconstruct_fc [⟨0, 0, 0⟩, ⟨4, 2, 0⟩] (by simp) 1) (.inl rfl) ?_
  have e : recoSp [⟨0, 0, 0⟩, ⟨4, 2, 0⟩] 1 = ((1, 2), true, 0) := by kernel_rfl
  rw [e]
  simp (maxSteps := 1000000) (disch := omega) only [go_sem, eq_self, decide_true, decide_false, not_true_eq_false, not_false_eq_true, reduceIte, reduceCtorEq, Nat.reduceEqDiff, Nat.reduceAdd, Nat.reduceSub, Nat.reduceLeDiff]
  refine CALL_det (activeP_fc 1 5 0 0 0 1 9 [⟨3, 6, 0⟩] (by simp)) (.inl rfl) ?_
  have e2 : actSp 1 5 0 0 0 1 [⟨3, 6, 0⟩] 9 = ([(3, 9)], 0) := by kernel_rfl
  rw [e2]
  simp (maxSteps := 1000000) (disch := omega) only [go_sem, eq_self, decide_true, decide_false, not_true_eq_false, not_false_eq_true, reduceIte, reduceCtorEq, Nat.reduceEqDiff, Nat.reduceAdd, Nat.reduceSub, Nat.reduceLeDiff]
  refine CALL_det (frames_fc [⟨3, 6, 0⟩] (by simp) 5 5 0 0 9) (.inl rfl) ?_
  have e3 : frmSp [⟨3, 6, 0⟩] 5 5 0 0 9 = ([(3, 9)], 0) := by kernel_rfl
  rw [e3]
  simp (maxSteps := 1000000) (disch := omega) only [go_sem, eq_self, decide_true, decide_false, not_true_eq_false, not_false_eq_true, reduceIte, reduceCtorEq, Nat.reduceEqDiff, Nat.reduceAdd, Nat.reduceSub, Nat.reduceLeDiff]
  rfl
end Go.Proofs.Ytggbcgldnjmobaa

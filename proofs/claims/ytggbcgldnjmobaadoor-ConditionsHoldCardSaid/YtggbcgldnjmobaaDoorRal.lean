
/-
  The reference's fault of an alarm.
-/
import Derived.Test.YtggbcgldnjmobaaDoorAct
import Derived.Test.YtggbcgldnjmobaaDoorCrossb
namespace Go.Proofs.YtggbcgldnjmobaaDoor
open Go Go.Ai
set_option linter.unusedSimpArgs false
set_option linter.unusedVariables false
set_option maxHeartbeats 4000000
def A_ralm : List Ann := [⟨(some ⟨[1], [1], []⟩), [], [], [], []⟩, ⟨(some ⟨[1,3], [1], []⟩), [], [], [], []⟩, ⟨(some ⟨[2], [], []⟩), [], [], [], []⟩, ⟨(some ⟨[1,14], [1], []⟩), [], [], [], []⟩, ⟨(some ⟨[2], [], []⟩), [], [], [], []⟩, ⟨(some ⟨[1,19], [1], []⟩), [], [], [], []⟩, ⟨(some ⟨[2], [], []⟩), [], [], [], []⟩, ⟨(some ⟨[48], [], []⟩), [], [], [], []⟩, ⟨(some ⟨[2], [], []⟩), [], [], [], []⟩, ⟨(some ⟨[2], [], []⟩), [], [], [], []⟩]
def C_ralm : AC := (.seq (.reg false [⟨(some 1), none, .box (.t 0)⟩, ⟨(some 2), none, .mv (.v (.int .i64 (0)))⟩] (some ⟨[1], [1], []⟩))
  (.seq (.block 0 (.seq (.reg false [⟨(some 4), none, .fadr 0 (.t 1)⟩, ⟨(some 5), none, .load false 1 (.t 4)⟩, ⟨(some 6), none, .call (.f 39) [(.t 5)]⟩, ⟨(some 7), none, .un .not (.t 6)⟩, ⟨(some 8), none, .mv (.t 7)⟩, ⟨(some 9), (some (8, false)), .fadr 1 (.t 1)⟩, ⟨(some 10), (some (8, false)), .load false 1 (.t 9)⟩, ⟨(some 11), (some (8, false)), .call (.f 39) [(.t 10)]⟩, ⟨(some 12), (some (8, false)), .un .not (.t 11)⟩, ⟨(some 13), none, .pick (.t 8) (.v (.bool true)) (.t 12)⟩, ⟨(some 3), none, .mv (.t 13)⟩] (some ⟨[1,3], [1], []⟩))
  (.cond (.t 3)
  (.seq (.reg false [⟨(some 2), none, .mv (.v (.int .i64 (5)))⟩] (some ⟨[2], [], []⟩))
  .ret)
  (.seq (.reg false [⟨(some 15), none, .fadr 2 (.t 1)⟩, ⟨(some 16), none, .load false 1 (.t 15)⟩, ⟨(some 17), none, .call (.f 24) [(.t 16), (.v (.int .i64 (1))), (.v (.int .i64 (3)))]⟩, ⟨(some 18), none, .un .not (.t 17)⟩, ⟨(some 14), none, .mv (.t 18)⟩] (some ⟨[1,14], [1], []⟩))
  (.cond (.t 14)
  (.seq (.reg false [⟨(some 2), none, .mv (.v (.int .i64 (4)))⟩] (some ⟨[2], [], []⟩))
  .ret)
  (.seq (.reg false [⟨(some 20), none, .fadr 3 (.t 1)⟩, ⟨(some 21), none, .load false 1 (.t 20)⟩, ⟨(some 22), none, .call (.f 40) [(.t 21)]⟩, ⟨(some 23), none, .bin .neq (.t 22) (.v (.int .i64 (0)))⟩, ⟨(some 24), none, .mv (.t 23)⟩, ⟨(some 25), (some (24, false)), .fadr 4 (.t 1)⟩, ⟨(some 26), (some (24, false)), .load false 1 (.t 25)⟩, ⟨(some 27), (some (24, false)), .call (.f 24) [(.t 26), (.v (.int .i64 (0))), (.v (.int .i64 (2000000)))]⟩, ⟨(some 28), (some (24, false)), .un .not (.t 27)⟩, ⟨(some 29), none, .pick (.t 24) (.v (.bool true)) (.t 28)⟩, ⟨(some 30), none, .mv (.t 29)⟩, ⟨(some 31), (some (30, false)), .fadr 5 (.t 1)⟩, ⟨(some 32), (some (30, false)), .load false 1 (.t 31)⟩, ⟨(some 33), (some (30, false)), .call (.f 24) [(.t 32), (.v (.int .i64 (0))), (.v (.int .i64 (86400000)))]⟩, ⟨(some 34), (some (30, false)), .un .not (.t 33)⟩, ⟨(some 35), none, .pick (.t 30) (.v (.bool true)) (.t 34)⟩, ⟨(some 36), none, .mv (.t 35)⟩, ⟨(some 37), (some (36, false)), .fadr 6 (.t 1)⟩, ⟨(some 38), (some (36, false)), .load false 1 (.t 37)⟩, ⟨(some 39), (some (36, false)), .call (.f 24) [(.t 38), (.v (.int .i64 (0))), (.v (.int .i64 (86400000)))]⟩, ⟨(some 40), (some (36, false)), .un .not (.t 39)⟩, ⟨(some 41), none, .pick (.t 36) (.v (.bool true)) (.t 40)⟩, ⟨(some 42), none, .mv (.t 41)⟩, ⟨(some 43), (some (42, false)), .fadr 7 (.t 1)⟩, ⟨(some 44), (some (42, false)), .load false 1 (.t 43)⟩, ⟨(some 45), (some (42, false)), .call (.f 24) [(.t 44), (.v (.int .i64 (1))), (.v (.int .i64 (1000)))]⟩, ⟨(some 46), (some (42, false)), .un .not (.t 45)⟩, ⟨(some 47), none, .pick (.t 42) (.v (.bool true)) (.t 46)⟩, ⟨(some 19), none, .mv (.t 47)⟩] (some ⟨[1,19], [1], []⟩))
  (.cond (.t 19)
  (.seq (.reg false [⟨(some 2), none, .mv (.v (.int .i64 (1)))⟩] (some ⟨[2], [], []⟩))
  .ret)
  (.seq (.reg false [⟨(some 49), none, .fadr 2 (.t 1)⟩, ⟨(some 50), none, .load false 1 (.t 49)⟩, ⟨(some 51), none, .bin .eql (.t 50) (.v (.int .i64 (3)))⟩, ⟨(some 52), none, .mv (.t 51)⟩, ⟨(some 53), (some (52, true)), .fadr 3 (.t 1)⟩, ⟨(some 54), (some (52, true)), .load false 1 (.t 53)⟩, ⟨(some 55), (some (52, true)), .bin .neq (.t 54) (.v (.int .i64 (0)))⟩, ⟨(some 56), (some (52, true)), .mv (.t 55)⟩, ⟨(some 57), (some (56, false)), .fadr 4 (.t 1)⟩, ⟨(some 58), (some (56, false)), .load false 1 (.t 57)⟩, ⟨(some 59), (some (56, false)), .bin .neq (.t 58) (.v (.int .i64 (0)))⟩, ⟨(some 60), (some (52, true)), .pick (.t 56) (.v (.bool true)) (.t 59)⟩, ⟨(some 61), none, .pick (.t 52) (.t 60) (.v (.bool false))⟩, ⟨(some 48), none, .mv (.t 61)⟩] (some ⟨[48], [], []⟩))
  (.cond (.t 48)
  (.seq (.reg false [⟨(some 2), none, .mv (.v (.int .i64 (3)))⟩] (some ⟨[2], [], []⟩))
  .ret)
  .skip)))))))))
  (.seq (.reg false [⟨(some 2), none, .mv (.v (.int .i64 (0)))⟩] (some ⟨[2], [], []⟩))
  .ret)))
theorem c_ralm : compileCode Tryd.prog Tryd.f22.ntmps (Tryd.f22.body.getD .skip) A_ralm = some (C_ralm, []) := by kernel_rfl
theorem r_ralm : compileRes Tryd.prog Tryd.f22.results.toList = some [.t 2] := by kernel_rfl
theorem b_ralm : Tryd.f22.body = some (Tryd.f22.body.getD .skip) := by kernel_rfl
theorem n_ralm : (Tryd.f22.name == "runtime.NumGoroutine") = false := by kernel_rfl
theorem fc_ralm {xt : Option (List Cel)} {args : List Val} {R : List Cel → Val → Prop} (hn : (if xt.isSome then 1 else 0) + args.length ≤ Tryd.f22.ntmps) (h : ex Tryd.prog C_ralm [] (fpost xt [.t 2] R) (initSt xt args)) : FC Tryd.prog 22 xt args R :=
  fc_of_awp Tryd.func22 b_ralm n_ralm c_ralm r_ralm (of_decide_eq_true (by kernel_rfl)) hn h

def A_ralmP : List Ann := [⟨(some ⟨[1], [1], []⟩), [], [], [], []⟩, ⟨(some ⟨[2], [], []⟩), [], [], [], []⟩]
def C_ralmP : AC := (.seq (.reg false [⟨(some 1), none, .box (.t 0)⟩, ⟨(some 2), none, .mv (.v (.int .i64 (0)))⟩] (some ⟨[1], [1], []⟩))
  (.seq (.reg false [⟨(some 3), none, .load true 10 (.t 1)⟩, ⟨(some 4), none, .call (.f 22) [(.t 3)]⟩, ⟨(some 2), none, .mv (.t 4)⟩] (some ⟨[2], [], []⟩))
  .ret))
theorem c_ralmP : compileCode Tryd.prog Tryd.f10.ntmps (Tryd.f10.body.getD .skip) A_ralmP = some (C_ralmP, []) := by kernel_rfl
theorem r_ralmP : compileRes Tryd.prog Tryd.f10.results.toList = some [.t 2] := by kernel_rfl
theorem b_ralmP : Tryd.f10.body = some (Tryd.f10.body.getD .skip) := by kernel_rfl
theorem n_ralmP : (Tryd.f10.name == "runtime.NumGoroutine") = false := by kernel_rfl
theorem fc_ralmP {xt : Option (List Cel)} {args : List Val} {R : List Cel → Val → Prop} (hn : (if xt.isSome then 1 else 0) + args.length ≤ Tryd.f10.ntmps) (h : ex Tryd.prog C_ralmP [] (fpost xt [.t 2] R) (initSt xt args)) : FC Tryd.prog 10 xt args R :=
  fc_of_awp Tryd.func10 b_ralmP n_ralmP c_ralmP r_ralmP (of_decide_eq_true (by kernel_rfl)) hn h


theorem ralm_fc (kb tb pb : ByteArray) (lt : Bool) (hkb : kb.size ≤ 9223372036854775807) (htb : tb.size ≤ 9223372036854775807) (kd lim db on off pr : Int) : FC Tryd.prog 22 none [almK kb tb pb lt kd lim db on off pr] (fun _ r => r = iv (almG (keyOk kb && keyOk tb) kd lim db on off pr)) := by
  refine fc_ralm (by simp +arith) ?_
  unfold C_ralm
  simp (maxSteps := 1000000) (disch := omega) only [go_sem, eq_self, decide_true, decide_false, not_true_eq_false, not_false_eq_true, reduceIte, reduceCtorEq, Nat.reduceEqDiff, Nat.reduceAdd, Nat.reduceSub, Nat.reduceLeDiff]
  refine CALL_det (rkey_fc kb hkb) (.inl rfl) ?_
  cases hk1 : keyOk kb with
  | false =>
    rw [Bool.false_and]
    simp (maxSteps := 1000000) (disch := omega) only [go_sem, eq_self, decide_true, decide_false, not_true_eq_false, not_false_eq_true, reduceIte, reduceCtorEq, Nat.reduceEqDiff, Nat.reduceAdd, Nat.reduceSub, Nat.reduceLeDiff]
    exact iv_congr (by unfold almG; rw [if_pos rfl])
  | true =>
  rw [Bool.true_and]
  simp (maxSteps := 1000000) (disch := omega) only [go_sem, eq_self, decide_true, decide_false, not_true_eq_false, not_false_eq_true, reduceIte, reduceCtorEq, Nat.reduceEqDiff, Nat.reduceAdd, Nat.reduceSub, Nat.reduceLeDiff]
  refine CALL_det (rkey_fc tb htb) (.inl rfl) ?_
  cases hk2 : keyOk tb with
  | false =>
    simp (maxSteps := 1000000) (disch := omega) only [go_sem, eq_self, decide_true, decide_false, not_true_eq_false, not_false_eq_true, reduceIte, reduceCtorEq, Nat.reduceEqDiff, Nat.reduceAdd, Nat.reduceSub, Nat.reduceLeDiff]
    exact iv_congr (by unfold almG; rw [if_pos rfl])
  | true =>
  have eg : almG true kd lim db on off pr = almF kd lim db on off pr := by unfold almG; rw [if_neg (by simp)]
  rw [eg]
  simp (maxSteps := 1000000) (disch := omega) only [go_sem, eq_self, decide_true, decide_false, not_true_eq_false, not_false_eq_true, reduceIte, reduceCtorEq, Nat.reduceEqDiff, Nat.reduceAdd, Nat.reduceSub, Nat.reduceLeDiff]
  refine CALL_det (rin1_fc _ _ _) (.inl rfl) ?_
  by_cases h0 : kd < 1 ∨ kd > 3
  · rw [decide_eq_false (show ¬(1 ≤ kd ∧ kd ≤ 3) by omega)]
    simp (maxSteps := 1000000) (disch := omega) only [go_sem, eq_self, decide_true, decide_false, not_true_eq_false, not_false_eq_true, reduceIte, reduceCtorEq, Nat.reduceEqDiff, Nat.reduceAdd, Nat.reduceSub, Nat.reduceLeDiff]
    exact iv_congr (by unfold almF; rw [if_pos h0])
  rw [decide_eq_true (show 1 ≤ kd ∧ kd ≤ 3 by omega)]
  simp (maxSteps := 1000000) (disch := omega) only [go_sem, eq_self, decide_true, decide_false, not_true_eq_false, not_false_eq_true, reduceIte, reduceCtorEq, Nat.reduceEqDiff, Nat.reduceAdd, Nat.reduceSub, Nat.reduceLeDiff]
  refine CALL_det (limitFault_fc _) (.inl rfl) ?_
  unfold limF
  by_cases h1 : lim < -1000000 ∨ lim > 1000000
  · rw [if_neg (show ¬(-1000000 ≤ lim ∧ lim ≤ 1000000) by omega)]
    simp (maxSteps := 1000000) (disch := omega) only [go_sem, eq_self, decide_true, decide_false, not_true_eq_false, not_false_eq_true, reduceIte, reduceCtorEq, Nat.reduceEqDiff, Nat.reduceAdd, Nat.reduceSub, Nat.reduceLeDiff]
    exact iv_congr (by unfold almF; rw [if_neg h0, if_pos (by omega)])
  rw [if_pos (show -1000000 ≤ lim ∧ lim ≤ 1000000 by omega)]
  simp (maxSteps := 1000000) (disch := omega) only [go_sem, eq_self, decide_true, decide_false, not_true_eq_false, not_false_eq_true, reduceIte, reduceCtorEq, Nat.reduceEqDiff, Nat.reduceAdd, Nat.reduceSub, Nat.reduceLeDiff]
  refine CALL_det (rin1_fc _ _ _) (.inl rfl) ?_
  by_cases h2 : db < 0 ∨ db > 2000000
  · rw [decide_eq_false (show ¬(0 ≤ db ∧ db ≤ 2000000) by omega)]
    simp (maxSteps := 1000000) (disch := omega) only [go_sem, eq_self, decide_true, decide_false, not_true_eq_false, not_false_eq_true, reduceIte, reduceCtorEq, Nat.reduceEqDiff, Nat.reduceAdd, Nat.reduceSub, Nat.reduceLeDiff]
    exact iv_congr (by unfold almF; rw [if_neg h0, if_pos (by omega)])
  rw [decide_eq_true (show 0 ≤ db ∧ db ≤ 2000000 by omega)]
  simp (maxSteps := 1000000) (disch := omega) only [go_sem, eq_self, decide_true, decide_false, not_true_eq_false, not_false_eq_true, reduceIte, reduceCtorEq, Nat.reduceEqDiff, Nat.reduceAdd, Nat.reduceSub, Nat.reduceLeDiff]
  refine CALL_det (rin1_fc _ _ _) (.inl rfl) ?_
  by_cases h3 : on < 0 ∨ on > 86400000
  · rw [decide_eq_false (show ¬(0 ≤ on ∧ on ≤ 86400000) by omega)]
    simp (maxSteps := 1000000) (disch := omega) only [go_sem, eq_self, decide_true, decide_false, not_true_eq_false, not_false_eq_true, reduceIte, reduceCtorEq, Nat.reduceEqDiff, Nat.reduceAdd, Nat.reduceSub, Nat.reduceLeDiff]
    exact iv_congr (by unfold almF; rw [if_neg h0, if_pos (by omega)])
  rw [decide_eq_true (show 0 ≤ on ∧ on ≤ 86400000 by omega)]
  simp (maxSteps := 1000000) (disch := omega) only [go_sem, eq_self, decide_true, decide_false, not_true_eq_false, not_false_eq_true, reduceIte, reduceCtorEq, Nat.reduceEqDiff, Nat.reduceAdd, Nat.reduceSub, Nat.reduceLeDiff]
  refine CALL_det (rin1_fc _ _ _) (.inl rfl) ?_
  by_cases h4 : off < 0 ∨ off > 86400000
  · rw [decide_eq_false (show ¬(0 ≤ off ∧ off ≤ 86400000) by omega)]
    simp (maxSteps := 1000000) (disch := omega) only [go_sem, eq_self, decide_true, decide_false, not_true_eq_false, not_false_eq_true, reduceIte, reduceCtorEq, Nat.reduceEqDiff, Nat.reduceAdd, Nat.reduceSub, Nat.reduceLeDiff]
    exact iv_congr (by unfold almF; rw [if_neg h0, if_pos (by omega)])
  rw [decide_eq_true (show 0 ≤ off ∧ off ≤ 86400000 by omega)]
  simp (maxSteps := 1000000) (disch := omega) only [go_sem, eq_self, decide_true, decide_false, not_true_eq_false, not_false_eq_true, reduceIte, reduceCtorEq, Nat.reduceEqDiff, Nat.reduceAdd, Nat.reduceSub, Nat.reduceLeDiff]
  refine CALL_det (rin1_fc _ _ _) (.inl rfl) ?_
  by_cases h5 : pr < 1 ∨ pr > 1000
  · rw [decide_eq_false (show ¬(1 ≤ pr ∧ pr ≤ 1000) by omega)]
    simp (maxSteps := 1000000) (disch := omega) only [go_sem, eq_self, decide_true, decide_false, not_true_eq_false, not_false_eq_true, reduceIte, reduceCtorEq, Nat.reduceEqDiff, Nat.reduceAdd, Nat.reduceSub, Nat.reduceLeDiff]
    exact iv_congr (by unfold almF; rw [if_neg h0, if_pos (by omega)])
  rw [decide_eq_true (show 1 ≤ pr ∧ pr ≤ 1000 by omega)]
  have e : almF kd lim db on off pr = if kd = 3 ∧ (lim ≠ 0 ∨ db ≠ 0) then 3 else 0 := by unfold almF; rw [if_neg h0, if_neg (by omega)]
  rw [e]
  by_cases h6 : kd = 3
  · by_cases h7 : lim = 0
    · by_cases h8 : db = 0
      · rw [if_neg (by omega)]
        simp (maxSteps := 1000000) (disch := omega) only [go_sem, eq_self, decide_true, decide_false, not_true_eq_false, not_false_eq_true, reduceIte, reduceCtorEq, Nat.reduceEqDiff, Nat.reduceAdd, Nat.reduceSub, Nat.reduceLeDiff]
      · rw [if_pos (by omega)]
        simp (maxSteps := 1000000) (disch := omega) only [go_sem, eq_self, decide_true, decide_false, not_true_eq_false, not_false_eq_true, reduceIte, reduceCtorEq, Nat.reduceEqDiff, Nat.reduceAdd, Nat.reduceSub, Nat.reduceLeDiff]
    · rw [if_pos (by omega)]
      simp (maxSteps := 1000000) (disch := omega) only [go_sem, eq_self, decide_true, decide_false, not_true_eq_false, not_false_eq_true, reduceIte, reduceCtorEq, Nat.reduceEqDiff, Nat.reduceAdd, Nat.reduceSub, Nat.reduceLeDiff]
  · rw [if_neg (by omega)]
    simp (maxSteps := 1000000) (disch := omega) only [go_sem, eq_self, decide_true, decide_false, not_true_eq_false, not_false_eq_true, reduceIte, reduceCtorEq, Nat.reduceEqDiff, Nat.reduceAdd, Nat.reduceSub, Nat.reduceLeDiff]
theorem ralmP_fc (kb tb pb : ByteArray) (lt : Bool) (hkb : kb.size ≤ 9223372036854775807) (htb : tb.size ≤ 9223372036854775807) (kd lim db on off pr : Int) : FC Tryd.prog 10 none [almK kb tb pb lt kd lim db on off pr] (fun _ r => r = iv (almG (keyOk kb && keyOk tb) kd lim db on off pr)) := by
  refine fc_ralmP (by simp +arith) ?_
  have h := ralm_fc kb tb pb lt hkb htb kd lim db on off pr
  generalize almG (keyOk kb && keyOk tb) kd lim db on off pr = e at *
  unfold C_ralmP
  simp (maxSteps := 1000000) (disch := omega) only [go_sem, eq_self, decide_true, decide_false, not_true_eq_false, not_false_eq_true, reduceIte, reduceCtorEq, Nat.reduceEqDiff, Nat.reduceAdd, Nat.reduceSub, Nat.reduceLeDiff]
  refine CALL_det h (.inl rfl) ?_
  simp (maxSteps := 1000000) (disch := omega) only [go_sem, eq_self, decide_true, decide_false, not_true_eq_false, not_false_eq_true, reduceIte, reduceCtorEq, Nat.reduceEqDiff, Nat.reduceAdd, Nat.reduceSub, Nat.reduceLeDiff]
end Go.Proofs.YtggbcgldnjmobaaDoor


/-
  Lists of numbers compared; the steps by the reference; what Compress and Minimum say of wrong arguments.
-/
import Derived.Test.YtggbcgldnjmobaaCmp
import Derived.Test.YtggbcgldnjmobaaMin
import Derived.Test.YtggbcgldnjmobaaCross
namespace Go.Proofs.Ytggbcgldnjmobaa
open Go Go.Ai
set_option linter.unusedSimpArgs false
set_option linter.unusedVariables false
set_option maxHeartbeats 4000000
def A_cmpL : List Ann := [⟨(some ⟨[0,1], [], []⟩), [], [], [], []⟩, ⟨(some ⟨[0,1,9,10,11], [], []⟩), [], [], [], []⟩, ⟨(some ⟨[0,1,9,10,11,12], [], []⟩), [], [], [], []⟩, ⟨(some ⟨[0,1,5,6,9,10,11], [], []⟩), [], [], [], []⟩, ⟨(some ⟨[0,1,5,6,9,10,11,19], [], []⟩), [], [], [], []⟩, ⟨(some ⟨[4], [], []⟩), [], [], [], []⟩, ⟨(some ⟨[0,1,6,7,9,10,11], [], []⟩), [], [], [], []⟩, ⟨(some ⟨[0,1,8,9,10,11], [], []⟩), [], [], [], []⟩, ⟨(some ⟨[0,1,8,9,10,11,28], [], []⟩), [], [], [], []⟩, ⟨(some ⟨[4], [], []⟩), [], [], [], []⟩, ⟨(some ⟨[0,1,9,10,11], [], []⟩), [], [], [], []⟩, ⟨(some ⟨[35], [], []⟩), [], [], [], []⟩, ⟨(some ⟨[4], [], []⟩), [], [], [], []⟩, ⟨(some ⟨[4], [], []⟩), [], [], [], []⟩]
def C_cmpL : AC := (.seq (.reg false [⟨(some 4), none, .mv (.v (.int .i64 (0)))⟩] (some ⟨[0,1], [], []⟩))
  (.seq (.seq (.reg false [⟨(some 9), none, .mv (.t 0)⟩, ⟨(some 10), none, .len (.t 9)⟩, ⟨(some 11), none, .mv (.v (.int .i64 (0)))⟩] (some ⟨[0,1,9,10,11], [], []⟩))
  (.block 0 (.loop (.seq (.reg false [⟨(some 12), none, .bin .lss (.t 11) (.t 10)⟩] (some ⟨[0,1,9,10,11,12], [], []⟩))
  (.seq (.cond (.t 12)
  .skip
  (.exit 0))
  (.seq (.block 1 (.seq (.reg false [⟨(some 13), none, .mv (.t 11)⟩, ⟨(some 14), none, .iadr 1 (.t 9) (.t 11)⟩, ⟨(some 15), none, .load false 1 (.t 14)⟩, ⟨(some 5), none, .mv (.t 13)⟩, ⟨(some 6), none, .mv (.t 15)⟩] (some ⟨[0,1,5,6,9,10,11], [], []⟩))
  (.seq (.seq (.reg false [⟨(some 16), none, .mv (.t 5)⟩, ⟨(some 17), none, .mv (.t 1)⟩, ⟨(some 18), none, .len (.t 17)⟩, ⟨(some 19), none, .bin .geq (.t 16) (.t 18)⟩] (some ⟨[0,1,5,6,9,10,11,19], [], []⟩))
  (.cond (.t 19)
  (.seq (.reg false [⟨(some 4), none, .mv (.v (.int .i64 (1)))⟩] (some ⟨[4], [], []⟩))
  .ret)
  .skip))
  (.seq (.reg false [⟨(some 20), none, .mv (.t 1)⟩, ⟨(some 21), none, .mv (.t 5)⟩, ⟨(some 22), none, .iadr 1 (.t 20) (.t 21)⟩, ⟨(some 23), none, .load false 1 (.t 22)⟩, ⟨(some 7), none, .mv (.t 23)⟩] (some ⟨[0,1,6,7,9,10,11], [], []⟩))
  (.seq (.reg false [⟨(some 24), none, .mv (.t 6)⟩, ⟨(some 25), none, .mv (.t 7)⟩, ⟨(some 26), none, .call (.f 93) [(.t 24), (.t 25)]⟩, ⟨(some 8), none, .mv (.t 26)⟩] (some ⟨[0,1,8,9,10,11], [], []⟩))
  (.seq (.reg false [⟨(some 27), none, .mv (.t 8)⟩, ⟨(some 28), none, .bin .neq (.t 27) (.v (.int .i64 (0)))⟩] (some ⟨[0,1,8,9,10,11,28], [], []⟩))
  (.cond (.t 28)
  (.seq (.reg false [⟨(some 29), none, .mv (.t 8)⟩, ⟨(some 4), none, .mv (.t 29)⟩] (some ⟨[4], [], []⟩))
  .ret)
  .skip)))))))
  (.reg false [⟨(some 30), none, .bin .add (.t 11) (.v (.int .i64 (1)))⟩, ⟨(some 11), none, .mv (.t 30)⟩] (some ⟨[0,1,9,10,11], [], []⟩))))))))
  (.seq (.seq (.reg false [⟨(some 31), none, .mv (.t 0)⟩, ⟨(some 32), none, .len (.t 31)⟩, ⟨(some 33), none, .mv (.t 1)⟩, ⟨(some 34), none, .len (.t 33)⟩, ⟨(some 35), none, .bin .lss (.t 32) (.t 34)⟩] (some ⟨[35], [], []⟩))
  (.cond (.t 35)
  (.seq (.reg false [⟨(some 4), none, .mv (.v (.int .i64 (-1)))⟩] (some ⟨[4], [], []⟩))
  .ret)
  .skip))
  (.seq (.reg false [⟨(some 4), none, .mv (.v (.int .i64 (0)))⟩] (some ⟨[4], [], []⟩))
  .ret))))
theorem c_cmpL : compileCode Try.prog Try.f94.ntmps (Try.f94.body.getD .skip) A_cmpL = some (C_cmpL, []) := by kernel_rfl
theorem r_cmpL : compileRes Try.prog Try.f94.results.toList = some [.t 4] := by kernel_rfl
theorem b_cmpL : Try.f94.body = some (Try.f94.body.getD .skip) := by kernel_rfl
theorem n_cmpL : (Try.f94.name == "runtime.NumGoroutine") = false := by kernel_rfl
theorem fc_cmpL {xt : Option (List Cel)} {args : List Val} {R : List Cel → Val → Prop} (hn : (if xt.isSome then 1 else 0) + args.length ≤ Try.f94.ntmps) (h : ex Try.prog C_cmpL [] (fpost xt [.t 4] R) (initSt xt args)) : FC Try.prog 94 xt args R :=
  fc_of_awp Try.func94 b_cmpL n_cmpL c_cmpL r_cmpL (of_decide_eq_true (by kernel_rfl)) hn h

def A_orI : List Ann := [⟨(some ⟨[0], [], []⟩), [], [], [], []⟩, ⟨(some ⟨[0,3], [], []⟩), [], [], [], []⟩, ⟨(some ⟨[3,6,7,8], [], []⟩), [], [], [], []⟩, ⟨(some ⟨[3,6,7,8,9], [], []⟩), [], [], [], []⟩, ⟨(some ⟨[3,5,6,7,8], [], []⟩), [], [], [], []⟩, ⟨(some ⟨[3,5,6,7,8,14], [], []⟩), [], [], [], []⟩, ⟨(some ⟨[2], [], []⟩), [], [], [], []⟩, ⟨(some ⟨[3,6,7,8], [], []⟩), [], [], [], []⟩, ⟨(some ⟨[2], [], []⟩), [], [], [], []⟩]
def C_orI : AC := (.seq (.reg false [⟨(some 2), none, .mv (.v (.int .i64 (0)))⟩] (some ⟨[0], [], []⟩))
  (.seq (.reg false [⟨(some 3), none, .mv (.v (.int .i64 (0)))⟩] (some ⟨[0,3], [], []⟩))
  (.seq (.seq (.reg false [⟨(some 6), none, .mv (.t 0)⟩, ⟨(some 7), none, .len (.t 6)⟩, ⟨(some 8), none, .mv (.v (.int .i64 (0)))⟩] (some ⟨[3,6,7,8], [], []⟩))
  (.block 0 (.loop (.seq (.reg false [⟨(some 9), none, .bin .lss (.t 8) (.t 7)⟩] (some ⟨[3,6,7,8,9], [], []⟩))
  (.seq (.cond (.t 9)
  .skip
  (.exit 0))
  (.seq (.block 1 (.seq (.reg false [⟨(some 10), none, .iadr 1 (.t 6) (.t 8)⟩, ⟨(some 11), none, .load false 1 (.t 10)⟩, ⟨(some 5), none, .mv (.t 11)⟩] (some ⟨[3,5,6,7,8], [], []⟩))
  (.seq (.reg false [⟨(some 12), none, .mv (.t 5)⟩, ⟨(some 13), none, .mv (.t 3)⟩, ⟨(some 14), none, .bin .neq (.t 12) (.t 13)⟩] (some ⟨[3,5,6,7,8,14], [], []⟩))
  (.cond (.t 14)
  (.seq (.reg false [⟨(some 15), none, .mv (.t 5)⟩, ⟨(some 2), none, .mv (.t 15)⟩] (some ⟨[2], [], []⟩))
  .ret)
  .skip))))
  (.reg false [⟨(some 16), none, .bin .add (.t 8) (.v (.int .i64 (1)))⟩, ⟨(some 8), none, .mv (.t 16)⟩] (some ⟨[3,6,7,8], [], []⟩))))))))
  (.seq (.reg false [⟨(some 17), none, .mv (.t 3)⟩, ⟨(some 2), none, .mv (.t 17)⟩] (some ⟨[2], [], []⟩))
  .ret))))
theorem c_orI : compileCode Try.prog Try.f92.ntmps (Try.f92.body.getD .skip) A_orI = some (C_orI, []) := by kernel_rfl
theorem r_orI : compileRes Try.prog Try.f92.results.toList = some [.t 2] := by kernel_rfl
theorem b_orI : Try.f92.body = some (Try.f92.body.getD .skip) := by kernel_rfl
theorem n_orI : (Try.f92.name == "runtime.NumGoroutine") = false := by kernel_rfl
theorem fc_orI {xt : Option (List Cel)} {args : List Val} {R : List Cel → Val → Prop} (hn : (if xt.isSome then 1 else 0) + args.length ≤ Try.f92.ntmps) (h : ex Try.prog C_orI [] (fpost xt [.t 2] R) (initSt xt args)) : FC Try.prog 92 xt args R :=
  fc_of_awp Try.func92 b_orI n_orI c_orI r_orI (of_decide_eq_true (by kernel_rfl)) hn h

def A_stepsOf : List Ann := [⟨(some ⟨[0], [], []⟩), [], [], [], []⟩, ⟨(some ⟨[0,3], [], []⟩), [(3, 3, 1)], [], [], []⟩, ⟨(some ⟨[0,3,6,7,8], [], [3]⟩), [], [], [], []⟩, ⟨(some ⟨[0,3,6,7,8,9], [], [3]⟩), [], [], [], []⟩, ⟨(some ⟨[0,3,4,5,6,7,8], [5], [3]⟩), [], [], [], []⟩, ⟨(some ⟨[0,3,4,6,7,8,43], [], [3]⟩), [], [], [], []⟩, ⟨(some ⟨[0,3,6,7,8], [], [3]⟩), [], [], [], []⟩, ⟨(some ⟨[0,3,6,7,8], [], [3]⟩), [], [], [], []⟩, ⟨(some ⟨[2], [], []⟩), [], [], [], []⟩]
def C_stepsOf : AC := (.seq (.reg false [⟨(some 2), none, .mv (.v (.slice none 0 0))⟩] (some ⟨[0], [], []⟩))
  (.seq (.seq (.reg false [⟨(some 3), none, .mv (.v (.slice none 0 0))⟩] (some ⟨[0,3], [], []⟩))
  (.own 3 3 1))
  (.seq (.seq (.reg false [⟨(some 6), none, .mv (.t 0)⟩, ⟨(some 7), none, .len (.t 6)⟩, ⟨(some 8), none, .mv (.v (.int .i64 (0)))⟩] (some ⟨[0,3,6,7,8], [], [3]⟩))
  (.block 0 (.loop (.seq (.reg false [⟨(some 9), none, .bin .lss (.t 8) (.t 7)⟩] (some ⟨[0,3,6,7,8,9], [], [3]⟩))
  (.seq (.cond (.t 9)
  .skip
  (.exit 0))
  (.seq (.block 1 (.seq (.reg false [⟨(some 10), none, .mv (.t 8)⟩, ⟨(some 11), none, .iadr 3 (.t 6) (.t 8)⟩, ⟨(some 12), none, .load true 3 (.t 11)⟩, ⟨(some 5), none, .alloc [(.int .i64 (0)), (.int .i64 (0)), (.int .i64 (0))]⟩, ⟨(some 4), none, .mv (.t 10)⟩, ⟨none, none, .store 3 (.t 5) (.t 12)⟩] (some ⟨[0,3,4,5,6,7,8], [5], [3]⟩))
  (.seq (.reg true [⟨(some 13), none, .mv (.t 4)⟩, ⟨(some 14), none, .bin .eql (.t 13) (.v (.int .i64 (0)))⟩, ⟨(some 15), none, .mv (.t 14)⟩, ⟨(some 16), (some (15, false)), .mv (.t 4)⟩, ⟨(some 17), (some (15, false)), .mv (.t 0)⟩, ⟨(some 18), (some (15, false)), .len (.t 17)⟩, ⟨(some 19), (some (15, false)), .bin .sub (.t 18) (.v (.int .i64 (1)))⟩, ⟨(some 20), (some (15, false)), .bin .eql (.t 16) (.t 19)⟩, ⟨(some 21), none, .pick (.t 15) (.v (.bool true)) (.t 20)⟩, ⟨(some 22), none, .mv (.t 21)⟩, ⟨(some 23), (some (22, false)), .fadr 1 (.t 5)⟩, ⟨(some 24), (some (22, false)), .load false 1 (.t 23)⟩, ⟨(some 25), (some (22, false)), .mv (.t 0)⟩, ⟨(some 26), (some (22, false)), .mv (.t 4)⟩, ⟨(some 27), (some (22, false)), .bin .sub (.t 26) (.v (.int .i64 (1)))⟩, ⟨(some 28), (some (22, false)), .iadr 3 (.t 25) (.t 27)⟩, ⟨(some 29), (some (22, false)), .fadr 1 (.t 28)⟩, ⟨(some 30), (some (22, false)), .load false 1 (.t 29)⟩, ⟨(some 31), (some (22, false)), .bin .neq (.t 24) (.t 30)⟩, ⟨(some 32), none, .pick (.t 22) (.v (.bool true)) (.t 31)⟩, ⟨(some 33), none, .mv (.t 32)⟩, ⟨(some 34), (some (33, false)), .fadr 2 (.t 5)⟩, ⟨(some 35), (some (33, false)), .load false 1 (.t 34)⟩, ⟨(some 36), (some (33, false)), .mv (.t 0)⟩, ⟨(some 37), (some (33, false)), .mv (.t 4)⟩, ⟨(some 38), (some (33, false)), .bin .sub (.t 37) (.v (.int .i64 (1)))⟩, ⟨(some 39), (some (33, false)), .iadr 3 (.t 36) (.t 38)⟩, ⟨(some 40), (some (33, false)), .fadr 2 (.t 39)⟩, ⟨(some 41), (some (33, false)), .load false 1 (.t 40)⟩, ⟨(some 42), (some (33, false)), .bin .neq (.t 35) (.t 41)⟩, ⟨(some 43), none, .pick (.t 33) (.v (.bool true)) (.t 42)⟩] (some ⟨[0,3,4,6,7,8,43], [], [3]⟩))
  (.cond (.t 43)
  (.reg false [⟨(some 44), none, .mv (.t 3)⟩, ⟨(some 45), none, .mv (.t 4)⟩, ⟨(some 46), none, .bslice 1 1 [(.t 45)]⟩, ⟨(some 47), none, .append 3 1 8 (.t 44) (.t 46)⟩, ⟨(some 3), none, .mv (.t 47)⟩] (some ⟨[0,3,6,7,8], [], [3]⟩))
  .skip))))
  (.reg false [⟨(some 48), none, .bin .add (.t 8) (.v (.int .i64 (1)))⟩, ⟨(some 8), none, .mv (.t 48)⟩] (some ⟨[0,3,6,7,8], [], [3]⟩))))))))
  (.seq (.reg false [⟨(some 49), none, .mv (.t 3)⟩, ⟨(some 2), none, .mv (.t 49)⟩] (some ⟨[2], [], []⟩))
  .ret))))
theorem c_stepsOf : compileCode Try.prog Try.f34.ntmps (Try.f34.body.getD .skip) A_stepsOf = some (C_stepsOf, []) := by kernel_rfl
theorem r_stepsOf : compileRes Try.prog Try.f34.results.toList = some [.t 2] := by kernel_rfl
theorem b_stepsOf : Try.f34.body = some (Try.f34.body.getD .skip) := by kernel_rfl
theorem n_stepsOf : (Try.f34.name == "runtime.NumGoroutine") = false := by kernel_rfl
theorem fc_stepsOf {xt : Option (List Cel)} {args : List Val} {R : List Cel → Val → Prop} (hn : (if xt.isSome then 1 else 0) + args.length ≤ Try.f34.ntmps) (h : ex Try.prog C_stepsOf [] (fpost xt [.t 2] R) (initSt xt args)) : FC Try.prog 34 xt args R :=
  fc_of_awp Try.func34 b_stepsOf n_stepsOf c_stepsOf r_stepsOf (of_decide_eq_true (by kernel_rfl)) hn h


/-- Which list comes first. -/
def cmpS : List Int → List Int → Int
  | [], [] => 0
  | [], _ :: _ => -1
  | _ :: _, [] => 1
  | a :: r, b :: s => if sd b a ≠ 0 then sd b a else cmpS r s
def clSt (l m : List Int) (i : Int) : AS := ⟨tabV [(0, ints false l), (1, ints false m), (9, ints false l), (10, iv l.length), (11, iv i)], tabO [], tabO []⟩
theorem cmpL_fc (l m : List Int) (hl : l.length ≤ 4611686018427387904) (hm : m.length ≤ 4611686018427387904) : FC Try.prog 94 none [ints false l, ints false m] (fun _ r => r = iv (cmpS l m)) := by
  refine fc_cmpL (by simp +arith) ?_
  unfold C_cmpL
  simp (maxSteps := 1000000) (disch := omega) only [go_sem, eq_self, decide_true, decide_false, not_true_eq_false, not_false_eq_true, reduceIte, reduceCtorEq, Nat.reduceEqDiff, Nat.reduceAdd, Nat.reduceSub, Nat.reduceLeDiff]
  refine ex_loop1 (clSt l m) (fun i => 0 ≤ i ∧ i ≤ l.length ∧ cmpS (l.drop i.toNat) (m.drop i.toNat) = cmpS l m ∧ i ≤ m.length) (fun i => (l.length - i).toNat) 0 ⟨by omega, by omega, rfl, by omega⟩ rfl ?_
  rintro i ⟨g1, g2, g3, g4⟩
  unfold clSt
  by_cases hi : i < l.length
  · have e2 : (i + 1).toNat = i.toNat + 1 := by omega
    have em := getD_map_at intC l i [] g1 hi
    rw [drop_cons l i.toNat (by omega)] at g3
    by_cases hj : i < m.length
    · have en := getD_map_at intC m i [] g1 hj
      rw [drop_cons m i.toNat (by omega), cmpS] at g3
      have hc := cmpInt_fc (l.getD i.toNat default) (m.getD i.toNat default)
      by_cases c : sd (m.getD i.toNat default) (l.getD i.toNat default) = 0
      · rw [if_neg (by omega)] at g3
        rw [c] at hc
        simp (maxSteps := 1000000) (disch := omega) only [go_sem, eq_self, decide_true, decide_false, not_true_eq_false, not_false_eq_true, reduceIte, reduceCtorEq, Nat.reduceEqDiff, Nat.reduceAdd, Nat.reduceSub, Nat.reduceLeDiff]
        refine CALL_det hc (.inl rfl) ?_
        simp (maxSteps := 1000000) (disch := omega) only [go_sem, eq_self, decide_true, decide_false, not_true_eq_false, not_false_eq_true, reduceIte, reduceCtorEq, Nat.reduceEqDiff, Nat.reduceAdd, Nat.reduceSub, Nat.reduceLeDiff]
        exact ⟨i + 1, rfl, ⟨by omega, by omega, by rw [e2]; exact g3, by omega⟩, by omega⟩
      · rw [if_pos c] at g3
        rw [← g3]
        generalize sd (m.getD i.toNat default) (l.getD i.toNat default) = y at *
        simp (maxSteps := 1000000) (disch := omega) only [go_sem, eq_self, decide_true, decide_false, not_true_eq_false, not_false_eq_true, reduceIte, reduceCtorEq, Nat.reduceEqDiff, Nat.reduceAdd, Nat.reduceSub, Nat.reduceLeDiff]
        refine CALL_det hc (.inl rfl) ?_
        simp (maxSteps := 1000000) (disch := omega) only [go_sem, eq_self, decide_true, decide_false, not_true_eq_false, not_false_eq_true, reduceIte, reduceCtorEq, Nat.reduceEqDiff, Nat.reduceAdd, Nat.reduceSub, Nat.reduceLeDiff]
    · rw [List.drop_eq_nil_of_le (show m.length ≤ i.toNat by omega), cmpS] at g3
      rw [← g3]
      simp (maxSteps := 1000000) (disch := omega) only [go_sem, eq_self, decide_true, decide_false, not_true_eq_false, not_false_eq_true, reduceIte, reduceCtorEq, Nat.reduceEqDiff, Nat.reduceAdd, Nat.reduceSub, Nat.reduceLeDiff]
  · rw [List.drop_eq_nil_of_le (show l.length ≤ i.toNat by omega)] at g3
    by_cases hj : i < m.length
    · rw [drop_cons m i.toNat (by omega), cmpS] at g3
      rw [← g3]
      simp (maxSteps := 1000000) (disch := omega) only [go_sem, eq_self, decide_true, decide_false, not_true_eq_false, not_false_eq_true, reduceIte, reduceCtorEq, Nat.reduceEqDiff, Nat.reduceAdd, Nat.reduceSub, Nat.reduceLeDiff]
    · rw [List.drop_eq_nil_of_le (show m.length ≤ i.toNat by omega), cmpS] at g3
      rw [← g3]
      simp (maxSteps := 1000000) (disch := omega) only [go_sem, eq_self, decide_true, decide_false, not_true_eq_false, not_false_eq_true, reduceIte, reduceCtorEq, Nat.reduceEqDiff, Nat.reduceAdd, Nat.reduceSub, Nat.reduceLeDiff]
def oiSt (fr : Bool) (l : List Int) (i : Int) : AS := ⟨tabV [(3, iv 0), (6, ints fr l), (7, iv l.length), (8, iv i)], tabO [], tabO []⟩
theorem orI_fc (fr : Bool) (l : List Int) (hl : l.length ≤ 4611686018427387904) : FC Try.prog 92 none [ints fr l] (fun _ r => r = iv (orSp l)) := by
  refine fc_orI (by simp +arith) ?_
  unfold C_orI
  simp (maxSteps := 1000000) (disch := omega) only [go_sem, eq_self, decide_true, decide_false, not_true_eq_false, not_false_eq_true, reduceIte, reduceCtorEq, Nat.reduceEqDiff, Nat.reduceAdd, Nat.reduceSub, Nat.reduceLeDiff]
  refine ex_loopI (oiSt fr l) (fun i => 0 ≤ i ∧ i ≤ l.length ∧ orSp (l.drop i.toNat) = orSp l) (fun i => (l.length - i).toNat) 0 ⟨by omega, by omega, rfl⟩ rfl ?_
  rintro i ⟨g1, g2, g3⟩
  unfold oiSt
  by_cases hi : i < l.length
  · rw [drop_cons l i.toNat (by omega), orSp] at g3
    have e2 : (i + 1).toNat = i.toNat + 1 := by omega
    simp (maxSteps := 1000000) (disch := omega) only [go_sem, eq_self, decide_true, decide_false, not_true_eq_false, not_false_eq_true, reduceIte, reduceCtorEq, Nat.reduceEqDiff, Nat.reduceAdd, Nat.reduceSub, Nat.reduceLeDiff]
    refine ⟨fun h => ?_, fun h => ⟨i + 1, ⟨by omega, by omega, ?_⟩, rfl, by omega⟩⟩
    · rw [if_pos h] at g3; rw [g3]
    · rw [if_neg h] at g3; rw [e2]; exact g3
  · simp (maxSteps := 1000000) (disch := omega) only [go_sem, eq_self, decide_true, decide_false, not_true_eq_false, not_false_eq_true, reduceIte, reduceCtorEq, Nat.reduceEqDiff, Nat.reduceAdd, Nat.reduceSub, Nat.reduceLeDiff]
    rw [← g3, List.drop_eq_nil_of_le (by omega)]
    rfl
def sofSt (l : List Smp) (i : Int) (out : List Int) : AS := ⟨tabV [(0, smps false l), (3, .one (.ow 3 0)), (6, smps false l), (7, iv l.length), (8, iv i)], tabO [], tabO [(3, iRow out)]⟩
theorem stepsOf_fc (l : List Smp) (hs : serFault l = 0) : FC Try.prog 34 none [smps false l] (fun _ r => r = ints true (stpW l l.length)) := by
  refine fc_stepsOf (by simp +arith) ?_
  have hg := good_of hs
  have hlen := hg.len
  unfold C_stepsOf
  simp (maxSteps := 1000000) (disch := omega) only [go_sem, eq_self, decide_true, decide_false, not_true_eq_false, not_false_eq_true, reduceIte, reduceCtorEq, Nat.reduceEqDiff, Nat.reduceAdd, Nat.reduceSub, Nat.reduceLeDiff]
  refine ex_loop1 (fun i => sofSt l i (stpW l i.toNat)) (fun i => 0 ≤ i ∧ i ≤ l.length) (fun i => (l.length - i).toNat) 0 ⟨by omega, by omega⟩ rfl ?_
  rintro i ⟨g1, g2⟩
  have hsl := stpW_len l i.toNat
  have e2 : (i + 1).toNat = i.toNat + 1 := by omega
  have ei : ((i.toNat : Nat) : Int) = i := by omega
  have e3 : stpW l (i + 1).toNat = stpW l i.toNat ++ (if stepB l i = true then [i] else []) := by rw [e2, stpW, ei]
  unfold sofSt
  by_cases hi : i < l.length
  · have em := getD_map_at smpC l i [] g1 hi
    by_cases c1 : i = 0
    · have hb : stepB l i = true := decide_eq_true (.inl c1)
      rw [if_pos hb] at e3
      simp (maxSteps := 1000000) (disch := omega) only [go_sem, eq_self, decide_true, decide_false, not_true_eq_false, not_false_eq_true, reduceIte, reduceCtorEq, Nat.reduceEqDiff, Nat.reduceAdd, Nat.reduceSub, Nat.reduceLeDiff]
      exact ⟨i + 1, by simp only [e3, iRow, List.map_append, List.map_cons, List.map_nil, intC_eq], ⟨by omega, by omega⟩, by omega⟩
    by_cases c2 : i = l.length - 1
    · have hb : stepB l i = true := decide_eq_true (.inr (.inl c2))
      rw [if_pos hb] at e3
      simp (maxSteps := 1000000) (disch := omega) only [go_sem, eq_self, decide_true, decide_false, not_true_eq_false, not_false_eq_true, reduceIte, reduceCtorEq, Nat.reduceEqDiff, Nat.reduceAdd, Nat.reduceSub, Nat.reduceLeDiff]
      exact ⟨i + 1, by simp only [e3, iRow, List.map_append, List.map_cons, List.map_nil, intC_eq], ⟨by omega, by omega⟩, by omega⟩
    have ep := getD_map_at smpC l (i - 1) [] (by omega) (by omega)
    by_cases c3 : (l.getD i.toNat default).v = (l.getD (i - 1).toNat default).v
    · by_cases c4 : (l.getD i.toNat default).q = (l.getD (i - 1).toNat default).q
      · have hb : ¬stepB l i = true := by unfold stepB; rw [decide_eq_true_eq]; omega
        rw [if_neg hb, List.append_nil] at e3
        simp (maxSteps := 1000000) (disch := omega) only [go_sem, eq_self, decide_true, decide_false, not_true_eq_false, not_false_eq_true, reduceIte, reduceCtorEq, Nat.reduceEqDiff, Nat.reduceAdd, Nat.reduceSub, Nat.reduceLeDiff]
        exact ⟨i + 1, by simp only [e3], ⟨by omega, by omega⟩, by omega⟩
      · have hb : stepB l i = true := decide_eq_true (.inr (.inr (.inr c4)))
        rw [if_pos hb] at e3
        simp (maxSteps := 1000000) (disch := omega) only [go_sem, eq_self, decide_true, decide_false, not_true_eq_false, not_false_eq_true, reduceIte, reduceCtorEq, Nat.reduceEqDiff, Nat.reduceAdd, Nat.reduceSub, Nat.reduceLeDiff]
        exact ⟨i + 1, by simp only [e3, iRow, List.map_append, List.map_cons, List.map_nil, intC_eq], ⟨by omega, by omega⟩, by omega⟩
    · have hb : stepB l i = true := decide_eq_true (.inr (.inr (.inl c3)))
      rw [if_pos hb] at e3
      simp (maxSteps := 1000000) (disch := omega) only [go_sem, eq_self, decide_true, decide_false, not_true_eq_false, not_false_eq_true, reduceIte, reduceCtorEq, Nat.reduceEqDiff, Nat.reduceAdd, Nat.reduceSub, Nat.reduceLeDiff]
      exact ⟨i + 1, by simp only [e3, iRow, List.map_append, List.map_cons, List.map_nil, intC_eq], ⟨by omega, by omega⟩, by omega⟩
  · have hi' : i.toNat = l.length := by omega
    rw [hi']
    simp (maxSteps := 1000000) (disch := omega) only [go_sem, eq_self, decide_true, decide_false, not_true_eq_false, not_false_eq_true, reduceIte, reduceCtorEq, Nat.reduceEqDiff, Nat.reduceAdd, Nat.reduceSub, Nat.reduceLeDiff]
/-- What is wrong with a door and a series. -/
def dsF (dv mg : Int) (l : List Smp) : Int := if excF dv mg ≠ 0 then excF dv mg else serFault l
theorem dsF_or (dv mg : Int) (l : List Smp) : orSp [excF dv mg, serFault l] = dsF dv mg l := by
  unfold dsF orSp; by_cases h : excF dv mg = 0 <;> by_cases h2 : serFault l = 0 <;> simp [h, h2, orSp]
theorem compress_bad (dv mg : Int) (l : List Smp) (hl : l.length ≤ 4611686018427387904) (h : dsF dv mg l ≠ 0) : FC Try.prog 29 none [twoV dv mg, smps false l] (fun _ r => r = .tu [ints true [], iv (dsF dv mg l)]) := by
  refine fc_compress (by simp +arith) ?_
  have hcd := checkDoor_fc dv mg
  have hcs := checkSeries_fc l hl
  have hf := first_fc false [excF dv mg, serFault l] (by simp)
  rw [dsF_or] at hf
  unfold C_compress
  generalize dsF dv mg l = y at *
  simp (maxSteps := 1000000) (disch := omega) only [go_sem, eq_self, decide_true, decide_false, not_true_eq_false, not_false_eq_true, reduceIte, reduceCtorEq, Nat.reduceEqDiff, Nat.reduceAdd, Nat.reduceSub, Nat.reduceLeDiff]
  refine CALL_det hcd (.inl rfl) ?_
  simp (maxSteps := 1000000) (disch := omega) only [go_sem, eq_self, decide_true, decide_false, not_true_eq_false, not_false_eq_true, reduceIte, reduceCtorEq, Nat.reduceEqDiff, Nat.reduceAdd, Nat.reduceSub, Nat.reduceLeDiff]
  refine CALL_det hcs (.inl rfl) ?_
  simp (maxSteps := 1000000) (disch := omega) only [go_sem, eq_self, decide_true, decide_false, not_true_eq_false, not_false_eq_true, reduceIte, reduceCtorEq, Nat.reduceEqDiff, Nat.reduceAdd, Nat.reduceSub, Nat.reduceLeDiff]
  refine CALL_det hf (.inl rfl) ?_
  simp (maxSteps := 1000000) (disch := omega) only [go_sem, eq_self, decide_true, decide_false, not_true_eq_false, not_false_eq_true, reduceIte, reduceCtorEq, Nat.reduceEqDiff, Nat.reduceAdd, Nat.reduceSub, Nat.reduceLeDiff]
  rfl
theorem min_bad (dv mg : Int) (l : List Smp) (hl : l.length ≤ 4611686018427387904) (h : dsF dv mg l ≠ 0) : FC Try.prog 31 none [twoV dv mg, smps false l] (fun _ r => r = .tu [ints true [], iv (dsF dv mg l)]) := by
  refine fc_minimum (by simp +arith) ?_
  have hcd := checkDoor_fc dv mg
  have hcs := checkSeries_fc l hl
  have hf := first_fc false [excF dv mg, serFault l] (by simp)
  rw [dsF_or] at hf
  unfold C_minimum
  generalize dsF dv mg l = y at *
  simp (maxSteps := 1000000) (disch := omega) only [go_sem, eq_self, decide_true, decide_false, not_true_eq_false, not_false_eq_true, reduceIte, reduceCtorEq, Nat.reduceEqDiff, Nat.reduceAdd, Nat.reduceSub, Nat.reduceLeDiff]
  refine CALL_det hcd (.inl rfl) ?_
  simp (maxSteps := 1000000) (disch := omega) only [go_sem, eq_self, decide_true, decide_false, not_true_eq_false, not_false_eq_true, reduceIte, reduceCtorEq, Nat.reduceEqDiff, Nat.reduceAdd, Nat.reduceSub, Nat.reduceLeDiff]
  refine CALL_det hcs (.inl rfl) ?_
  simp (maxSteps := 1000000) (disch := omega) only [go_sem, eq_self, decide_true, decide_false, not_true_eq_false, not_false_eq_true, reduceIte, reduceCtorEq, Nat.reduceEqDiff, Nat.reduceAdd, Nat.reduceSub, Nat.reduceLeDiff]
  refine CALL_det hf (.inl rfl) ?_
  simp (maxSteps := 1000000) (disch := omega) only [go_sem, eq_self, decide_true, decide_false, not_true_eq_false, not_false_eq_true, reduceIte, reduceCtorEq, Nat.reduceEqDiff, Nat.reduceAdd, Nat.reduceSub, Nat.reduceLeDiff]
  rfl
end Go.Proofs.Ytggbcgldnjmobaa

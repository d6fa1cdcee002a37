
/-
  Counters: Counters (the generator), Total, Count, and the reference's: their answers are one.
-/
import Derived.Test.YtmbpfhpdicjpcaaPts
import Derived.Test.YtmbpfhpdicjpcaaGenB
namespace Go.Proofs.Ytmbpfhpdicjpcaa
open Go Go.Ai
set_option linter.unusedSimpArgs false
set_option linter.unusedVariables false
set_option maxHeartbeats 4000000
def A_baseIn : List Ann := [⟨(some ⟨[1,2], [2], []⟩), [], [], [], []⟩, ⟨(some ⟨[4], [], []⟩), [], [], [], []⟩]
def C_baseIn : AC := (.seq (.reg false [⟨(some 2), none, .box (.t 0)⟩, ⟨(some 4), none, .mv (.v (.bool false))⟩] (some ⟨[1,2], [2], []⟩))
  (.seq (.reg false [⟨(some 5), none, .mv (.t 1)⟩, ⟨(some 6), none, .fadr 0 (.t 2)⟩, ⟨(some 7), none, .load false 1 (.t 6)⟩, ⟨(some 8), none, .bin .geq (.t 5) (.t 7)⟩, ⟨(some 9), none, .mv (.t 8)⟩, ⟨(some 10), (some (9, true)), .mv (.t 1)⟩, ⟨(some 11), (some (9, true)), .fadr 1 (.t 2)⟩, ⟨(some 12), (some (9, true)), .load false 1 (.t 11)⟩, ⟨(some 13), (some (9, true)), .bin .lss (.t 10) (.t 12)⟩, ⟨(some 14), none, .pick (.t 9) (.t 13) (.v (.bool false))⟩, ⟨(some 4), none, .mv (.t 14)⟩] (some ⟨[4], [], []⟩))
  .ret))
theorem c_baseIn : compileCode Try.prog Try.f147.ntmps (Try.f147.body.getD .skip) A_baseIn = some (C_baseIn, []) := by kernel_rfl
theorem r_baseIn : compileRes Try.prog Try.f147.results.toList = some [.t 4] := by kernel_rfl
theorem b_baseIn : Try.f147.body = some (Try.f147.body.getD .skip) := by kernel_rfl
theorem n_baseIn : (Try.f147.name == "runtime.NumGoroutine") = false := by kernel_rfl
theorem fc_baseIn {xt : Option (List Cel)} {args : List Val} {R : List Cel → Val → Prop} (hn : (if xt.isSome then 1 else 0) + args.length ≤ Try.f147.ntmps) (h : ex Try.prog C_baseIn [] (fpost xt [.t 4] R) (initSt xt args)) : FC Try.prog 147 xt args R :=
  fc_of_awp Try.func147 b_baseIn n_baseIn c_baseIn r_baseIn (of_decide_eq_true (by kernel_rfl)) hn h

def A_inside : List Ann := [⟨(some ⟨[0,2,4], [4], []⟩), [], [], [], []⟩, ⟨(some ⟨[0,2,4,7], [4], []⟩), [(7, 60, 3)], [], [], []⟩, ⟨(some ⟨[2,4,7,10,11,12], [4], [7]⟩), [], [], [], []⟩, ⟨(some ⟨[2,4,7,10,11,12,13], [4], [7]⟩), [], [], [], []⟩, ⟨(some ⟨[2,4,7,9,10,11,12], [4,9], [7]⟩), [], [], [], []⟩, ⟨(some ⟨[2,4,7,9,10,11,12,29], [4,9], [7]⟩), [], [], [], []⟩, ⟨(some ⟨[2,4,7,10,11,12], [4], [7]⟩), [], [], [], []⟩, ⟨(some ⟨[2,4,7,10,11,12], [4], [7]⟩), [], [], [], []⟩, ⟨(some ⟨[6], [], []⟩), [], [], [], []⟩]
def C_inside : AC := (.seq (.reg false [⟨(some 4), none, .box (.t 1)⟩, ⟨(some 6), none, .mv (.v (.slice none 0 0))⟩] (some ⟨[0,2,4], [4], []⟩))
  (.seq (.seq (.reg false [⟨(some 7), none, .mv (.v (.slice none 0 0))⟩] (some ⟨[0,2,4,7], [4], []⟩))
  (.own 7 60 3))
  (.seq (.seq (.reg false [⟨(some 10), none, .mv (.t 0)⟩, ⟨(some 11), none, .len (.t 10)⟩, ⟨(some 12), none, .mv (.v (.int .i64 (0)))⟩] (some ⟨[2,4,7,10,11,12], [4], [7]⟩))
  (.block 0 (.loop (.seq (.reg false [⟨(some 13), none, .bin .lss (.t 12) (.t 11)⟩] (some ⟨[2,4,7,10,11,12,13], [4], [7]⟩))
  (.seq (.cond (.t 13)
  .skip
  (.exit 0))
  (.seq (.block 1 (.seq (.reg false [⟨(some 14), none, .iadr 3 (.t 10) (.t 12)⟩, ⟨(some 15), none, .load true 3 (.t 14)⟩, ⟨(some 9), none, .alloc [(.int .i64 (0)), (.int .i64 (0)), (.int .i64 (0))]⟩, ⟨none, none, .store 3 (.t 9) (.t 15)⟩] (some ⟨[2,4,7,9,10,11,12], [4,9], [7]⟩))
  (.seq (.reg false [⟨(some 16), none, .load true 2 (.t 4)⟩, ⟨(some 17), none, .fadr 0 (.t 9)⟩, ⟨(some 18), none, .load false 1 (.t 17)⟩, ⟨(some 19), none, .call (.f 147) [(.t 16), (.t 18)]⟩, ⟨(some 20), none, .mv (.t 19)⟩, ⟨(some 21), (some (20, false)), .mv (.t 2)⟩, ⟨(some 22), (some (20, false)), .mv (.t 21)⟩, ⟨(some 23), (some (22, true)), .fadr 0 (.t 9)⟩, ⟨(some 24), (some (22, true)), .load false 1 (.t 23)⟩, ⟨(some 25), (some (22, true)), .fadr 1 (.t 4)⟩, ⟨(some 26), (some (22, true)), .load false 1 (.t 25)⟩, ⟨(some 27), (some (22, true)), .bin .eql (.t 24) (.t 26)⟩, ⟨(some 28), (some (20, false)), .pick (.t 22) (.t 27) (.v (.bool false))⟩, ⟨(some 29), none, .pick (.t 20) (.v (.bool true)) (.t 28)⟩] (some ⟨[2,4,7,9,10,11,12,29], [4,9], [7]⟩))
  (.cond (.t 29)
  (.reg false [⟨(some 30), none, .mv (.t 7)⟩, ⟨(some 31), none, .load true 3 (.t 9)⟩, ⟨(some 32), none, .bslice 3 1 [(.t 31)]⟩, ⟨(some 33), none, .append 60 3 24 (.t 30) (.t 32)⟩, ⟨(some 7), none, .mv (.t 33)⟩] (some ⟨[2,4,7,10,11,12], [4], [7]⟩))
  .skip))))
  (.reg false [⟨(some 34), none, .bin .add (.t 12) (.v (.int .i64 (1)))⟩, ⟨(some 12), none, .mv (.t 34)⟩] (some ⟨[2,4,7,10,11,12], [4], [7]⟩))))))))
  (.seq (.reg false [⟨(some 35), none, .mv (.t 7)⟩, ⟨(some 6), none, .mv (.t 35)⟩] (some ⟨[6], [], []⟩))
  .ret))))
theorem c_inside : compileCode Try.prog Try.f137.ntmps (Try.f137.body.getD .skip) A_inside = some (C_inside, []) := by kernel_rfl
theorem r_inside : compileRes Try.prog Try.f137.results.toList = some [.t 6] := by kernel_rfl
theorem b_inside : Try.f137.body = some (Try.f137.body.getD .skip) := by kernel_rfl
theorem n_inside : (Try.f137.name == "runtime.NumGoroutine") = false := by kernel_rfl
theorem fc_inside {xt : Option (List Cel)} {args : List Val} {R : List Cel → Val → Prop} (hn : (if xt.isSome then 1 else 0) + args.length ≤ Try.f137.ntmps) (h : ex Try.prog C_inside [] (fpost xt [.t 6] R) (initSt xt args)) : FC Try.prog 137 xt args R :=
  fc_of_awp Try.func137 b_inside n_inside c_inside r_inside (of_decide_eq_true (by kernel_rfl)) hn h

def A_count : List Ann := [⟨(some ⟨[0,2,4], [4], []⟩), [], [], [], []⟩, ⟨(some ⟨[0,2,4,8], [4], []⟩), [], [], [], []⟩, ⟨(some ⟨[0,2,4,8,16], [4], []⟩), [], [], [], []⟩, ⟨(some ⟨[6,7], [], []⟩), [], [], [], []⟩, ⟨(some ⟨[0,2,4,19], [4], []⟩), [], [], [], []⟩, ⟨(some ⟨[6,7], [], []⟩), [], [], [], []⟩, ⟨(some ⟨[0,2,4,9], [4], []⟩), [], [], [], []⟩, ⟨(some ⟨[2,9,22,23,24], [], []⟩), [], [], [], []⟩, ⟨(some ⟨[2,9,22,23,24,25], [], []⟩), [], [], [], []⟩, ⟨(some ⟨[2,9,11,22,23,24], [11], []⟩), [], [], [], []⟩, ⟨(some ⟨[2,9,22,23,24,31], [], []⟩), [], [], [], []⟩, ⟨(some ⟨[2,9,22,23,24], [], []⟩), [], [], [], []⟩, ⟨(some ⟨[2,9,22,23,24], [], []⟩), [], [], [], []⟩, ⟨(some ⟨[6,7], [], []⟩), [], [], [], []⟩]
def C_count : AC := (.seq (.reg false [⟨(some 4), none, .box (.t 1)⟩, ⟨(some 6), none, .mv (.v (.int .i64 (0)))⟩, ⟨(some 7), none, .mv (.v (.int .i64 (0)))⟩] (some ⟨[0,2,4], [4], []⟩))
  (.seq (.seq (.reg false [⟨(some 12), none, .mv (.t 0)⟩, ⟨(some 13), none, .load true 2 (.t 4)⟩, ⟨(some 14), none, .call (.f 136) [(.t 12), (.t 13)]⟩, ⟨(some 8), none, .mv (.t 14)⟩] (some ⟨[0,2,4,8], [4], []⟩))
  (.seq (.reg false [⟨(some 15), none, .mv (.t 8)⟩, ⟨(some 16), none, .bin .neq (.t 15) (.v (.int .i64 (0)))⟩] (some ⟨[0,2,4,8,16], [4], []⟩))
  (.cond (.t 16)
  (.seq (.reg false [⟨(some 17), none, .mv (.t 8)⟩, ⟨(some 6), none, .mv (.v (.int .i64 (0)))⟩, ⟨(some 7), none, .mv (.t 17)⟩] (some ⟨[6,7], [], []⟩))
  .ret)
  .skip)))
  (.seq (.seq (.reg false [⟨(some 18), none, .mv (.t 2)⟩, ⟨(some 19), none, .call (.f 96) [(.t 18), (.v (.int .i64 (0))), (.v (.int .i64 (2)))]⟩] (some ⟨[0,2,4,19], [4], []⟩))
  (.cond (.t 19)
  (.seq (.reg false [⟨(some 6), none, .mv (.v (.int .i64 (0)))⟩, ⟨(some 7), none, .mv (.v (.int .i64 (4)))⟩] (some ⟨[6,7], [], []⟩))
  .ret)
  .skip))
  (.seq (.reg false [⟨(some 9), none, .mv (.v (.int .i64 (0)))⟩] (some ⟨[0,2,4,9], [4], []⟩))
  (.seq (.seq (.reg false [⟨(some 20), none, .mv (.t 0)⟩, ⟨(some 21), none, .load true 2 (.t 4)⟩, ⟨(some 22), none, .call (.f 137) [(.t 20), (.t 21), (.v (.bool false))]⟩, ⟨(some 23), none, .len (.t 22)⟩, ⟨(some 24), none, .mv (.v (.int .i64 (0)))⟩] (some ⟨[2,9,22,23,24], [], []⟩))
  (.block 0 (.loop (.seq (.reg false [⟨(some 25), none, .bin .lss (.t 24) (.t 23)⟩] (some ⟨[2,9,22,23,24,25], [], []⟩))
  (.seq (.cond (.t 25)
  .skip
  (.exit 0))
  (.seq (.block 1 (.seq (.reg false [⟨(some 26), none, .iadr 3 (.t 22) (.t 24)⟩, ⟨(some 27), none, .load true 3 (.t 26)⟩, ⟨(some 11), none, .alloc [(.int .i64 (0)), (.int .i64 (0)), (.int .i64 (0))]⟩, ⟨none, none, .store 3 (.t 11) (.t 27)⟩] (some ⟨[2,9,11,22,23,24], [11], []⟩))
  (.seq (.reg false [⟨(some 28), none, .fadr 2 (.t 11)⟩, ⟨(some 29), none, .load false 1 (.t 28)⟩, ⟨(some 30), none, .mv (.t 2)⟩, ⟨(some 31), none, .bin .eql (.t 29) (.t 30)⟩] (some ⟨[2,9,22,23,24,31], [], []⟩))
  (.cond (.t 31)
  (.reg false [⟨(some 32), none, .mv (.t 9)⟩, ⟨(some 33), none, .bin .add (.t 32) (.v (.int .i64 (1)))⟩, ⟨(some 9), none, .mv (.t 33)⟩] (some ⟨[2,9,22,23,24], [], []⟩))
  .skip))))
  (.reg false [⟨(some 34), none, .bin .add (.t 24) (.v (.int .i64 (1)))⟩, ⟨(some 24), none, .mv (.t 34)⟩] (some ⟨[2,9,22,23,24], [], []⟩))))))))
  (.seq (.reg false [⟨(some 35), none, .mv (.t 9)⟩, ⟨(some 6), none, .mv (.t 35)⟩, ⟨(some 7), none, .mv (.v (.int .i64 (0)))⟩] (some ⟨[6,7], [], []⟩))
  .ret))))))
theorem c_count : compileCode Try.prog Try.f75.ntmps (Try.f75.body.getD .skip) A_count = some (C_count, []) := by kernel_rfl
theorem r_count : compileRes Try.prog Try.f75.results.toList = some [.t 6, .t 7] := by kernel_rfl
theorem b_count : Try.f75.body = some (Try.f75.body.getD .skip) := by kernel_rfl
theorem n_count : (Try.f75.name == "runtime.NumGoroutine") = false := by kernel_rfl
theorem fc_count {xt : Option (List Cel)} {args : List Val} {R : List Cel → Val → Prop} (hn : (if xt.isSome then 1 else 0) + args.length ≤ Try.f75.ntmps) (h : ex Try.prog C_count [] (fpost xt [.t 6, .t 7] R) (initSt xt args)) : FC Try.prog 75 xt args R :=
  fc_of_awp Try.func75 b_count n_count c_count r_count (of_decide_eq_true (by kernel_rfl)) hn h

def A_when : List Ann := [⟨(some ⟨[0,1], [], []⟩), [], [], [], []⟩, ⟨(some ⟨[1,5], [], []⟩), [], [], [], []⟩, ⟨(some ⟨[4], [], []⟩), [], [], [], []⟩, ⟨(some ⟨[4], [], []⟩), [], [], [], []⟩]
def C_when : AC := (.seq (.reg false [⟨(some 4), none, .mv (.v (.int .i64 (0)))⟩] (some ⟨[0,1], [], []⟩))
  (.seq (.seq (.reg false [⟨(some 5), none, .mv (.t 0)⟩] (some ⟨[1,5], [], []⟩))
  (.cond (.t 5)
  (.seq (.reg false [⟨(some 6), none, .mv (.t 1)⟩, ⟨(some 4), none, .mv (.t 6)⟩] (some ⟨[4], [], []⟩))
  .ret)
  .skip))
  (.seq (.reg false [⟨(some 4), none, .mv (.v (.int .i64 (0)))⟩] (some ⟨[4], [], []⟩))
  .ret)))
theorem c_when : compileCode Try.prog Try.f68.ntmps (Try.f68.body.getD .skip) A_when = some (C_when, []) := by kernel_rfl
theorem r_when : compileRes Try.prog Try.f68.results.toList = some [.t 4] := by kernel_rfl
theorem b_when : Try.f68.body = some (Try.f68.body.getD .skip) := by kernel_rfl
theorem n_when : (Try.f68.name == "runtime.NumGoroutine") = false := by kernel_rfl
theorem fc_when {xt : Option (List Cel)} {args : List Val} {R : List Cel → Val → Prop} (hn : (if xt.isSome then 1 else 0) + args.length ≤ Try.f68.ntmps) (h : ex Try.prog C_when [] (fpost xt [.t 4] R) (initSt xt args)) : FC Try.prog 68 xt args R :=
  fc_of_awp Try.func68 b_when n_when c_when r_when (of_decide_eq_true (by kernel_rfl)) hn h



theorem baseIn_fc (f t a : Int) : FC Try.prog 147 none [winV f t, iv a] (fun _ r => r = bv (decide (f ≤ a ∧ a < t))) := by
  refine fc_baseIn (by simp +arith) ?_
  unfold C_baseIn
  by_cases h : f ≤ a
  · simp (maxSteps := 1000000) (disch := omega) only [go_sem, eq_self, decide_true, decide_false, not_true_eq_false, not_false_eq_true, reduceIte, reduceCtorEq, Nat.reduceEqDiff, Nat.reduceAdd, Nat.reduceSub, Nat.reduceLeDiff]
    exact bv_congr (by simp [h])
  · simp (maxSteps := 1000000) (disch := omega) only [go_sem, eq_self, decide_true, decide_false, not_true_eq_false, not_false_eq_true, reduceIte, reduceCtorEq, Nat.reduceEqDiff, Nat.reduceAdd, Nat.reduceSub, Nat.reduceLeDiff]
    exact bv_congr (by simp [h])
/-- The samples within a window; with its end, if b. -/
def insP (f t : Int) (b : Bool) (x : Smp) : Bool := decide (f ≤ x.a ∧ x.a < t) || (b && decide (x.a = t))
def ins (l : List Smp) (f t : Int) (b : Bool) : List Smp := l.filter (insP f t b)
def insSt (l : List Smp) (f t : Int) (b : Bool) (x : Int × List Smp) : AS := ⟨tabV [(2, bv b), (4, .one (.bx 4 0)), (7, .one (.ow 7 0)), (10, smps false l), (11, iv l.length), (12, iv x.1)], tabO [(4, [.g (.int .i64 f), .g (.int .i64 t)])], tabO [(7, ⟨0, 60, 3, x.2.map smpC⟩)]⟩
theorem inside_fc (l : List Smp) (hl : l.length ≤ 5000) (f t : Int) (b : Bool) : FC Try.prog 137 none [smps false l, winV f t, bv b] (fun _ r => r = smps true (ins l f t b)) := by
  refine fc_inside (by simp +arith) ?_
  unfold C_inside
  simp (maxSteps := 1000000) (disch := omega) only [go_sem, eq_self, decide_true, decide_false, not_true_eq_false, not_false_eq_true, reduceIte, reduceCtorEq, Nat.reduceEqDiff, Nat.reduceAdd, Nat.reduceSub, Nat.reduceLeDiff]
  refine ex_loopI (insSt l f t b) (fun x => 0 ≤ x.1 ∧ x.1 ≤ l.length ∧ x.2.length ≤ x.1 ∧ x.2 ++ (l.drop x.1.toNat).filter (insP f t b) = ins l f t b) (fun x => (l.length - x.1).toNat) (0, []) ⟨by simp, by simp only; omega, by simp, by simp [ins]⟩ rfl ?_
  rintro ⟨i, acc⟩ ⟨g1, g2, g3, g4⟩
  simp only at g1 g2 g3 g4
  unfold insSt
  by_cases hi : i < l.length
  · rw [drop_cons l i.toNat (by omega), List.filter_cons] at g4
    have e2 : (i + 1).toNat = i.toNat + 1 := by omega
    simp (maxSteps := 1000000) (disch := omega) only [go_sem, eq_self, decide_true, decide_false, not_true_eq_false, not_false_eq_true, reduceIte, reduceCtorEq, Nat.reduceEqDiff, Nat.reduceAdd, Nat.reduceSub, Nat.reduceLeDiff]
    refine CALL_det (baseIn_fc f t _) (.inl rfl) ?_
    by_cases h1 : f ≤ (l.getD i.toNat default).a ∧ (l.getD i.toNat default).a < t
    · have h2 : insP f t b (l.getD i.toNat default) = true := by simp only [insP, decide_eq_true h1, Bool.true_or]
      rw [if_pos h2] at g4
      simp (maxSteps := 1000000) (disch := omega) only [go_sem, eq_self, decide_true, decide_false, not_true_eq_false, not_false_eq_true, reduceIte, reduceCtorEq, Nat.reduceEqDiff, Nat.reduceAdd, Nat.reduceSub, Nat.reduceLeDiff]
      refine ⟨(i + 1, acc ++ [l.getD i.toNat default]), ⟨by simp only; omega, by simp only; omega, by simp; omega, by simp only [e2]; simpa using g4⟩, by simp [insSt, smpC], by simp only; omega⟩
    · cases b with
      | false =>
        have h2 : insP f t false (l.getD i.toNat default) = false := by simp only [insP, h1]; rfl
        rw [h2] at g4
        simp (maxSteps := 1000000) (disch := omega) only [go_sem, eq_self, decide_true, decide_false, not_true_eq_false, not_false_eq_true, reduceIte, reduceCtorEq, Nat.reduceEqDiff, Nat.reduceAdd, Nat.reduceSub, Nat.reduceLeDiff]
        exact ⟨(i + 1, acc), ⟨by simp only; omega, by simp only; omega, by simp only; omega, by simp only [e2]; simpa using g4⟩, rfl, by simp only; omega⟩
      | true =>
        by_cases h3 : (l.getD i.toNat default).a = t
        · have h2 : insP f t true (l.getD i.toNat default) = true := by simp only [insP, decide_eq_true h3, Bool.or_true, Bool.true_and]
          rw [if_pos h2] at g4
          simp (maxSteps := 1000000) (disch := omega) only [go_sem, eq_self, decide_true, decide_false, not_true_eq_false, not_false_eq_true, reduceIte, reduceCtorEq, Nat.reduceEqDiff, Nat.reduceAdd, Nat.reduceSub, Nat.reduceLeDiff]
          refine ⟨(i + 1, acc ++ [l.getD i.toNat default]), ⟨by simp only; omega, by simp only; omega, by simp; omega, by simp only [e2]; simpa using g4⟩, by simp [insSt, smpC], by simp only; omega⟩
        · have h2 : insP f t true (l.getD i.toNat default) = false := by simp only [insP, h1, h3]; rfl
          rw [h2] at g4
          simp (maxSteps := 1000000) (disch := omega) only [go_sem, eq_self, decide_true, decide_false, not_true_eq_false, not_false_eq_true, reduceIte, reduceCtorEq, Nat.reduceEqDiff, Nat.reduceAdd, Nat.reduceSub, Nat.reduceLeDiff]
          exact ⟨(i + 1, acc), ⟨by simp only; omega, by simp only; omega, by simp only; omega, by simp only [e2]; simpa using g4⟩, rfl, by simp only; omega⟩
  · simp (maxSteps := 1000000) (disch := omega) only [go_sem, eq_self, decide_true, decide_false, not_true_eq_false, not_false_eq_true, reduceIte, reduceCtorEq, Nat.reduceEqDiff, Nat.reduceAdd, Nat.reduceSub, Nat.reduceLeDiff]
    rw [List.drop_eq_nil_of_le (by omega), List.filter_nil, List.append_nil] at g4
    rw [g4]
theorem ins_len (l : List Smp) (f t : Int) (b : Bool) : (ins l f t b).length ≤ l.length := List.length_filter_le _ _
/-- One step of a counter's total. -/
def totStep (roll b s v : Int) : Int := if 0 ≤ b then s + (if v - b < 0 then v - b + roll else v - b) else s
def totGo (roll : Int) : Int → Int → List Int → Int
  | _, s, [] => s
  | b, s, v :: l => totGo roll v (totStep roll b s v) l
def badC (roll v : Int) : Bool := decide (v < 0 ∨ v > roll - 1)
def totS (roll : Int) : Int → Int → List Smp → Int × Int
  | _, s, [] => (s, 0)
  | b, s, x :: l => if x.q = 2 then totS roll b s l else if badC roll x.v = true then (0, 16) else totS roll x.v (totStep roll b s x.v) l
/-- The values that count. -/
def cnt (l : List Smp) (f t : Int) : List Int := (l.filter fun x => decide (f ≤ x.a ∧ x.a ≤ t) && decide (x.q ≠ 2)).map Smp.v
theorem totStep_bd {roll b s v i : Int} (h1 : 1 ≤ roll) (h2 : roll ≤ 2000000000) (h3 : -1 ≤ b) (h4 : b < roll) (h5 : badC roll v = false) (h6 : 0 ≤ s) (h7 : s ≤ i * 2000000000) : 0 ≤ totStep roll b s v ∧ totStep roll b s v ≤ (i + 1) * 2000000000 := by
  simp only [badC, decide_eq_false_iff_not] at h5
  unfold totStep
  split
  · split <;> omega
  · omega
def totSt (roll : Int) (m : List Smp) (x : Int × Int × Int) : AS := ⟨tabV [(2, iv roll), (9, iv x.2.2), (10, iv x.2.1), (24, smps true m), (25, iv m.length), (26, iv x.1)], tabO [], tabO []⟩
def totSp (l : List Smp) (f t roll : Int) : Int × Int :=
  if bothFault l f t ≠ 0 then (0, bothFault l f t) else if roll < 1 ∨ roll > 2000000000 then (0, 1) else totS roll (-1) 0 (ins l f t true)
def cntN (q : Int) : List Smp → Int
  | [] => 0
  | x :: l => (if x.q = q then 1 else 0) + cntN q l
theorem cntN_bd (q : Int) : ∀ l : List Smp, 0 ≤ cntN q l ∧ cntN q l ≤ l.length
  | [] => by simp [cntN]
  | x :: l => by have := cntN_bd q l; simp only [cntN, List.length_cons]; split <;> omega
def cntSp (l : List Smp) (f t q : Int) : Int × Int :=
  if bothFault l f t ≠ 0 then (0, bothFault l f t) else if q < 0 ∨ q > 2 then (0, 4) else (cntN q (ins l f t false), 0)
def cntSt (q : Int) (m : List Smp) (x : Int × Int) : AS := ⟨tabV [(2, iv q), (9, iv x.2), (22, smps true m), (23, iv m.length), (24, iv x.1)], tabO [], tabO []⟩
theorem count_fc (l : List Smp) (hl : l.length ≤ 4611686018427387904) (f t q : Int) : FC Try.prog 75 none [smps false l, winV f t, iv q] (fun _ r => r = .tu [iv (cntSp l f t q).1, iv (cntSp l f t q).2]) := by
  refine fc_count (by simp +arith) ?_
  unfold C_count
  simp (maxSteps := 1000000) (disch := omega) only [go_sem, eq_self, decide_true, decide_false, not_true_eq_false, not_false_eq_true, reduceIte, reduceCtorEq, Nat.reduceEqDiff, Nat.reduceAdd, Nat.reduceSub, Nat.reduceLeDiff]
  refine CALL_det (fault_fc l hl f t) (.inl rfl) ?_
  by_cases h1 : bothFault l f t = 0
  · simp (maxSteps := 1000000) (disch := omega) only [go_sem, eq_self, decide_true, decide_false, not_true_eq_false, not_false_eq_true, reduceIte, reduceCtorEq, Nat.reduceEqDiff, Nat.reduceAdd, Nat.reduceSub, Nat.reduceLeDiff]
    obtain ⟨h2, h3⟩ := bothFault_ok h1
    have hg := good_of h2
    have hlen := hg.len
    refine CALL_det (out_fc _ _ _) (.inl rfl) ?_
    by_cases h4 : q < 0 ∨ q > 2
    · have e : cntSp l f t q = (0, 4) := by unfold cntSp; rw [if_neg (by omega), if_pos h4]
      rw [e]
      simp (maxSteps := 1000000) (disch := omega) only [go_sem, eq_self, decide_true, decide_false, not_true_eq_false, not_false_eq_true, reduceIte, reduceCtorEq, Nat.reduceEqDiff, Nat.reduceAdd, Nat.reduceSub, Nat.reduceLeDiff]
    · have e : cntSp l f t q = (cntN q (ins l f t false), 0) := by unfold cntSp; rw [if_neg (by omega), if_neg h4]
      rw [e]
      simp (maxSteps := 1000000) (disch := omega) only [go_sem, eq_self, decide_true, decide_false, not_true_eq_false, not_false_eq_true, reduceIte, reduceCtorEq, Nat.reduceEqDiff, Nat.reduceAdd, Nat.reduceSub, Nat.reduceLeDiff]
      refine CALL_det (inside_fc l (by omega) f t false) (.inl rfl) ?_
      have hm := ins_len l f t false
      generalize ins l f t false = m at hm ⊢
      simp (maxSteps := 1000000) (disch := omega) only [go_sem, eq_self, decide_true, decide_false, not_true_eq_false, not_false_eq_true, reduceIte, reduceCtorEq, Nat.reduceEqDiff, Nat.reduceAdd, Nat.reduceSub, Nat.reduceLeDiff]
      refine ex_loopI (cntSt q m) (fun x => 0 ≤ x.1 ∧ x.1 ≤ m.length ∧ 0 ≤ x.2 ∧ x.2 ≤ x.1 ∧ x.2 + cntN q (m.drop x.1.toNat) = cntN q m) (fun x => (m.length - x.1).toNat) (0, 0) ⟨by simp, by simp only; omega, by simp, by simp, by simp⟩ rfl ?_
      rintro ⟨i, n⟩ ⟨g1, g2, g3, g4, g5⟩
      simp only at g1 g2 g3 g4 g5
      unfold cntSt
      by_cases hi : i < m.length
      · rw [drop_cons m i.toNat (by omega), cntN] at g5
        have e2 : (i + 1).toNat = i.toNat + 1 := by omega
        by_cases h5 : (m.getD i.toNat default).q = q
        · rw [if_pos h5] at g5
          simp (maxSteps := 1000000) (disch := omega) only [go_sem, eq_self, decide_true, decide_false, not_true_eq_false, not_false_eq_true, reduceIte, reduceCtorEq, Nat.reduceEqDiff, Nat.reduceAdd, Nat.reduceSub, Nat.reduceLeDiff]
          exact ⟨(i + 1, n + 1), ⟨by simp only; omega, by simp only; omega, by simp only; omega, by simp only; omega, by simp only [e2]; omega⟩, rfl, by simp only; omega⟩
        · rw [if_neg h5] at g5
          simp (maxSteps := 1000000) (disch := omega) only [go_sem, eq_self, decide_true, decide_false, not_true_eq_false, not_false_eq_true, reduceIte, reduceCtorEq, Nat.reduceEqDiff, Nat.reduceAdd, Nat.reduceSub, Nat.reduceLeDiff]
          exact ⟨(i + 1, n), ⟨by simp only; omega, by simp only; omega, by simp only; omega, by simp only; omega, by simp only [e2]; omega⟩, rfl, by simp only; omega⟩
      · rw [List.drop_eq_nil_of_le (by omega), cntN] at g5
        simp (maxSteps := 1000000) (disch := omega) only [go_sem, eq_self, decide_true, decide_false, not_true_eq_false, not_false_eq_true, reduceIte, reduceCtorEq, Nat.reduceEqDiff, Nat.reduceAdd, Nat.reduceSub, Nat.reduceLeDiff]
        rw [← g5, Int.add_zero]
  · simp (maxSteps := 1000000) (disch := omega) only [go_sem, eq_self, decide_true, decide_false, not_true_eq_false, not_false_eq_true, reduceIte, reduceCtorEq, Nat.reduceEqDiff, Nat.reduceAdd, Nat.reduceSub, Nat.reduceLeDiff]
    have e : cntSp l f t q = (0, bothFault l f t) := by unfold cntSp; rw [if_pos h1]
    rw [e]
def cowSt (l : List Smp) (f t q : Int) (x : Int × Int) : AS := ⟨tabV [(2, iv q), (4, .one (.bx 4 0)), (7, iv x.2), (10, smps false l), (11, iv l.length), (12, iv x.1)], tabO [(4, [.g (.int .i64 f), .g (.int .i64 t)])], tabO []⟩
end Go.Proofs.Ytmbpfhpdicjpcaa

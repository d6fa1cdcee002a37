
/-
  Steps, and what is kept of a series.
-/
import Derived.Test.YtggbcgldnjmobaaRep
namespace Go.Proofs.Ytggbcgldnjmobaa
open Go Go.Ai
set_option linter.unusedSimpArgs false
set_option linter.unusedVariables false
set_option maxHeartbeats 4000000
def A_steps : List Ann := [⟨(some ⟨[0], [], []⟩), [], [], [], []⟩, ⟨(some ⟨[0,4], [], []⟩), [], [], [], []⟩, ⟨(some ⟨[0,4,11], [], []⟩), [], [], [], []⟩, ⟨(some ⟨[2,3], [], []⟩), [], [], [(2, 1)], []⟩, ⟨(some ⟨[0,5], [], []⟩), [(5, 3, 1)], [], [], []⟩, ⟨(some ⟨[0,5,13,14,15], [], [5]⟩), [], [], [], []⟩, ⟨(some ⟨[0,5,13,14,15,16], [], [5]⟩), [], [], [], []⟩, ⟨(some ⟨[0,5,6,7,13,14,15], [7], [5]⟩), [], [], [], []⟩, ⟨(some ⟨[0,5,6,13,14,15,50], [], [5]⟩), [], [], [], []⟩, ⟨(some ⟨[0,5,13,14,15], [], [5]⟩), [], [], [], []⟩, ⟨(some ⟨[0,5,13,14,15], [], [5]⟩), [], [], [], []⟩, ⟨(some ⟨[2,3], [], []⟩), [], [], [], []⟩]
def C_steps : AC := (.seq (.reg false [⟨(some 2), none, .mv (.v (.slice none 0 0))⟩, ⟨(some 3), none, .mv (.v (.int .i64 (0)))⟩] (some ⟨[0], [], []⟩))
  (.seq (.seq (.reg false [⟨(some 8), none, .mv (.t 0)⟩, ⟨(some 9), none, .call (.f 85) [(.t 8)]⟩, ⟨(some 4), none, .mv (.t 9)⟩] (some ⟨[0,4], [], []⟩))
  (.seq (.reg false [⟨(some 10), none, .mv (.t 4)⟩, ⟨(some 11), none, .bin .neq (.t 10) (.v (.int .i64 (0)))⟩] (some ⟨[0,4,11], [], []⟩))
  (.cond (.t 11)
  (.seq (.seq (.reg false [⟨(some 12), none, .mv (.t 4)⟩, ⟨(some 2), none, .mv (.v (.slice none 0 0))⟩, ⟨(some 3), none, .mv (.t 12)⟩] (some ⟨[2,3], [], []⟩))
  (.ty 2 1))
  .ret)
  .skip)))
  (.seq (.seq (.reg false [⟨(some 5), none, .mv (.v (.slice none 0 0))⟩] (some ⟨[0,5], [], []⟩))
  (.own 5 3 1))
  (.seq (.seq (.reg false [⟨(some 13), none, .mv (.t 0)⟩, ⟨(some 14), none, .len (.t 13)⟩, ⟨(some 15), none, .mv (.v (.int .i64 (0)))⟩] (some ⟨[0,5,13,14,15], [], [5]⟩))
  (.block 0 (.loop (.seq (.reg false [⟨(some 16), none, .bin .lss (.t 15) (.t 14)⟩] (some ⟨[0,5,13,14,15,16], [], [5]⟩))
  (.seq (.cond (.t 16)
  .skip
  (.exit 0))
  (.seq (.block 1 (.seq (.reg false [⟨(some 17), none, .mv (.t 15)⟩, ⟨(some 18), none, .iadr 3 (.t 13) (.t 15)⟩, ⟨(some 19), none, .load true 3 (.t 18)⟩, ⟨(some 7), none, .alloc [(.int .i64 (0)), (.int .i64 (0)), (.int .i64 (0))]⟩, ⟨(some 6), none, .mv (.t 17)⟩, ⟨none, none, .store 3 (.t 7) (.t 19)⟩] (some ⟨[0,5,6,7,13,14,15], [7], [5]⟩))
  (.seq (.reg true [⟨(some 20), none, .mv (.t 6)⟩, ⟨(some 21), none, .bin .eql (.t 20) (.v (.int .i64 (0)))⟩, ⟨(some 22), none, .mv (.t 21)⟩, ⟨(some 23), (some (22, false)), .mv (.t 6)⟩, ⟨(some 24), (some (22, false)), .mv (.t 0)⟩, ⟨(some 25), (some (22, false)), .len (.t 24)⟩, ⟨(some 26), (some (22, false)), .bin .sub (.t 25) (.v (.int .i64 (1)))⟩, ⟨(some 27), (some (22, false)), .bin .eql (.t 23) (.t 26)⟩, ⟨(some 28), none, .pick (.t 22) (.v (.bool true)) (.t 27)⟩, ⟨(some 29), none, .mv (.t 28)⟩, ⟨(some 30), (some (29, false)), .fadr 1 (.t 7)⟩, ⟨(some 31), (some (29, false)), .load false 1 (.t 30)⟩, ⟨(some 32), (some (29, false)), .mv (.t 0)⟩, ⟨(some 33), (some (29, false)), .mv (.t 6)⟩, ⟨(some 34), (some (29, false)), .bin .sub (.t 33) (.v (.int .i64 (1)))⟩, ⟨(some 35), (some (29, false)), .iadr 3 (.t 32) (.t 34)⟩, ⟨(some 36), (some (29, false)), .fadr 1 (.t 35)⟩, ⟨(some 37), (some (29, false)), .load false 1 (.t 36)⟩, ⟨(some 38), (some (29, false)), .bin .neq (.t 31) (.t 37)⟩, ⟨(some 39), none, .pick (.t 29) (.v (.bool true)) (.t 38)⟩, ⟨(some 40), none, .mv (.t 39)⟩, ⟨(some 41), (some (40, false)), .fadr 2 (.t 7)⟩, ⟨(some 42), (some (40, false)), .load false 1 (.t 41)⟩, ⟨(some 43), (some (40, false)), .mv (.t 0)⟩, ⟨(some 44), (some (40, false)), .mv (.t 6)⟩, ⟨(some 45), (some (40, false)), .bin .sub (.t 44) (.v (.int .i64 (1)))⟩, ⟨(some 46), (some (40, false)), .iadr 3 (.t 43) (.t 45)⟩, ⟨(some 47), (some (40, false)), .fadr 2 (.t 46)⟩, ⟨(some 48), (some (40, false)), .load false 1 (.t 47)⟩, ⟨(some 49), (some (40, false)), .bin .neq (.t 42) (.t 48)⟩, ⟨(some 50), none, .pick (.t 40) (.v (.bool true)) (.t 49)⟩] (some ⟨[0,5,6,13,14,15,50], [], [5]⟩))
  (.cond (.t 50)
  (.reg false [⟨(some 51), none, .mv (.t 5)⟩, ⟨(some 52), none, .mv (.t 6)⟩, ⟨(some 53), none, .bslice 1 1 [(.t 52)]⟩, ⟨(some 54), none, .append 3 1 8 (.t 51) (.t 53)⟩, ⟨(some 5), none, .mv (.t 54)⟩] (some ⟨[0,5,13,14,15], [], [5]⟩))
  .skip))))
  (.reg false [⟨(some 55), none, .bin .add (.t 15) (.v (.int .i64 (1)))⟩, ⟨(some 15), none, .mv (.t 55)⟩] (some ⟨[0,5,13,14,15], [], [5]⟩))))))))
  (.seq (.reg false [⟨(some 56), none, .mv (.t 5)⟩, ⟨(some 2), none, .mv (.t 56)⟩, ⟨(some 3), none, .mv (.v (.int .i64 (0)))⟩] (some ⟨[2,3], [], []⟩))
  .ret)))))
theorem c_steps : compileCode Try.prog Try.f32.ntmps (Try.f32.body.getD .skip) A_steps = some (C_steps, []) := by kernel_rfl
theorem r_steps : compileRes Try.prog Try.f32.results.toList = some [.t 2, .t 3] := by kernel_rfl
theorem b_steps : Try.f32.body = some (Try.f32.body.getD .skip) := by kernel_rfl
theorem n_steps : (Try.f32.name == "runtime.NumGoroutine") = false := by kernel_rfl
theorem fc_steps {xt : Option (List Cel)} {args : List Val} {R : List Cel → Val → Prop} (hn : (if xt.isSome then 1 else 0) + args.length ≤ Try.f32.ntmps) (h : ex Try.prog C_steps [] (fpost xt [.t 2, .t 3] R) (initSt xt args)) : FC Try.prog 32 xt args R :=
  fc_of_awp Try.func32 b_steps n_steps c_steps r_steps (of_decide_eq_true (by kernel_rfl)) hn h

def A_keptFault : List Ann := [⟨(some ⟨[0,1], [], []⟩), [], [], [], []⟩, ⟨(some ⟨[0,1,5], [], []⟩), [], [], [], []⟩, ⟨(some ⟨[0,1,5,11], [], []⟩), [], [], [], []⟩, ⟨(some ⟨[4], [], []⟩), [], [], [], []⟩, ⟨(some ⟨[0,1,17], [], []⟩), [], [], [], []⟩, ⟨(some ⟨[4], [], []⟩), [], [], [], []⟩, ⟨(some ⟨[0,1,18,19,20], [], []⟩), [], [], [], []⟩, ⟨(some ⟨[0,1,18,19,20,21], [], []⟩), [], [], [], []⟩, ⟨(some ⟨[0,1,6,7,18,19,20], [], []⟩), [], [], [], []⟩, ⟨(some ⟨[0,1,6,7,18,19,20,29], [], []⟩), [], [], [], []⟩, ⟨(some ⟨[4], [], []⟩), [], [], [], []⟩, ⟨(some ⟨[0,1,18,19,20,40], [], []⟩), [], [], [], []⟩, ⟨(some ⟨[4], [], []⟩), [], [], [], []⟩, ⟨(some ⟨[0,1,18,19,20], [], []⟩), [], [], [], []⟩, ⟨(some ⟨[4], [], []⟩), [], [], [], []⟩]
def C_keptFault : AC := (.seq (.reg false [⟨(some 4), none, .mv (.v (.int .i64 (0)))⟩] (some ⟨[0,1], [], []⟩))
  (.seq (.seq (.reg false [⟨(some 8), none, .mv (.t 0)⟩, ⟨(some 9), none, .call (.f 85) [(.t 8)]⟩, ⟨(some 5), none, .mv (.t 9)⟩] (some ⟨[0,1,5], [], []⟩))
  (.seq (.reg false [⟨(some 10), none, .mv (.t 5)⟩, ⟨(some 11), none, .bin .neq (.t 10) (.v (.int .i64 (0)))⟩] (some ⟨[0,1,5,11], [], []⟩))
  (.cond (.t 11)
  (.seq (.reg false [⟨(some 12), none, .mv (.t 5)⟩, ⟨(some 4), none, .mv (.t 12)⟩] (some ⟨[4], [], []⟩))
  .ret)
  .skip)))
  (.seq (.seq (.reg false [⟨(some 13), none, .mv (.t 1)⟩, ⟨(some 14), none, .len (.t 13)⟩, ⟨(some 15), none, .mv (.t 0)⟩, ⟨(some 16), none, .len (.t 15)⟩, ⟨(some 17), none, .bin .gtr (.t 14) (.t 16)⟩] (some ⟨[0,1,17], [], []⟩))
  (.cond (.t 17)
  (.seq (.reg false [⟨(some 4), none, .mv (.v (.int .i64 (2)))⟩] (some ⟨[4], [], []⟩))
  .ret)
  .skip))
  (.seq (.seq (.reg false [⟨(some 18), none, .mv (.t 1)⟩, ⟨(some 19), none, .len (.t 18)⟩, ⟨(some 20), none, .mv (.v (.int .i64 (0)))⟩] (some ⟨[0,1,18,19,20], [], []⟩))
  (.block 0 (.loop (.seq (.reg false [⟨(some 21), none, .bin .lss (.t 20) (.t 19)⟩] (some ⟨[0,1,18,19,20,21], [], []⟩))
  (.seq (.cond (.t 21)
  .skip
  (.exit 0))
  (.seq (.block 1 (.seq (.reg false [⟨(some 22), none, .mv (.t 20)⟩, ⟨(some 23), none, .iadr 1 (.t 18) (.t 20)⟩, ⟨(some 24), none, .load false 1 (.t 23)⟩, ⟨(some 6), none, .mv (.t 22)⟩, ⟨(some 7), none, .mv (.t 24)⟩] (some ⟨[0,1,6,7,18,19,20], [], []⟩))
  (.seq (.seq (.reg false [⟨(some 25), none, .mv (.t 7)⟩, ⟨(some 26), none, .mv (.t 0)⟩, ⟨(some 27), none, .len (.t 26)⟩, ⟨(some 28), none, .bin .sub (.t 27) (.v (.int .i64 (1)))⟩, ⟨(some 29), none, .call (.f 97) [(.t 25), (.v (.int .i64 (0))), (.t 28)]⟩] (some ⟨[0,1,6,7,18,19,20,29], [], []⟩))
  (.cond (.t 29)
  (.seq (.reg false [⟨(some 4), none, .mv (.v (.int .i64 (1)))⟩] (some ⟨[4], [], []⟩))
  .ret)
  .skip))
  (.seq (.reg false [⟨(some 30), none, .mv (.t 6)⟩, ⟨(some 31), none, .bin .gtr (.t 30) (.v (.int .i64 (0)))⟩, ⟨(some 32), none, .mv (.t 31)⟩, ⟨(some 33), (some (32, true)), .mv (.t 7)⟩, ⟨(some 34), (some (32, true)), .mv (.t 1)⟩, ⟨(some 35), (some (32, true)), .mv (.t 6)⟩, ⟨(some 36), (some (32, true)), .bin .sub (.t 35) (.v (.int .i64 (1)))⟩, ⟨(some 37), (some (32, true)), .iadr 1 (.t 34) (.t 36)⟩, ⟨(some 38), (some (32, true)), .load false 1 (.t 37)⟩, ⟨(some 39), (some (32, true)), .bin .leq (.t 33) (.t 38)⟩, ⟨(some 40), none, .pick (.t 32) (.t 39) (.v (.bool false))⟩] (some ⟨[0,1,18,19,20,40], [], []⟩))
  (.cond (.t 40)
  (.seq (.reg false [⟨(some 4), none, .mv (.v (.int .i64 (7)))⟩] (some ⟨[4], [], []⟩))
  .ret)
  .skip)))))
  (.reg false [⟨(some 41), none, .bin .add (.t 20) (.v (.int .i64 (1)))⟩, ⟨(some 20), none, .mv (.t 41)⟩] (some ⟨[0,1,18,19,20], [], []⟩))))))))
  (.seq (.reg false [⟨(some 4), none, .mv (.v (.int .i64 (0)))⟩] (some ⟨[4], [], []⟩))
  .ret)))))
theorem c_keptFault : compileCode Try.prog Try.f86.ntmps (Try.f86.body.getD .skip) A_keptFault = some (C_keptFault, []) := by kernel_rfl
theorem r_keptFault : compileRes Try.prog Try.f86.results.toList = some [.t 4] := by kernel_rfl
theorem b_keptFault : Try.f86.body = some (Try.f86.body.getD .skip) := by kernel_rfl
theorem n_keptFault : (Try.f86.name == "runtime.NumGoroutine") = false := by kernel_rfl
theorem fc_keptFault {xt : Option (List Cel)} {args : List Val} {R : List Cel → Val → Prop} (hn : (if xt.isSome then 1 else 0) + args.length ≤ Try.f86.ntmps) (h : ex Try.prog C_keptFault [] (fpost xt [.t 4] R) (initSt xt args)) : FC Try.prog 86 xt args R :=
  fc_of_awp Try.func86 b_keptFault n_keptFault c_keptFault r_keptFault (of_decide_eq_true (by kernel_rfl)) hn h

def A_keep : List Ann := [⟨(some ⟨[0,1], [], []⟩), [], [], [], []⟩, ⟨(some ⟨[0,1,5], [], []⟩), [(5, 38, 3)], [], [], []⟩, ⟨(some ⟨[0,5,8,9,10], [], [5]⟩), [], [], [], []⟩, ⟨(some ⟨[0,5,8,9,10,11], [], [5]⟩), [], [], [], []⟩, ⟨(some ⟨[0,5,7,8,9,10], [], [5]⟩), [], [], [], []⟩, ⟨(some ⟨[0,5,8,9,10], [], [5]⟩), [], [], [], []⟩, ⟨(some ⟨[0,5,8,9,10], [], [5]⟩), [], [], [], []⟩, ⟨(some ⟨[4], [], []⟩), [], [], [], []⟩]
def C_keep : AC := (.seq (.reg false [⟨(some 4), none, .mv (.v (.slice none 0 0))⟩] (some ⟨[0,1], [], []⟩))
  (.seq (.seq (.reg false [⟨(some 5), none, .mv (.v (.slice none 0 0))⟩] (some ⟨[0,1,5], [], []⟩))
  (.own 5 38 3))
  (.seq (.seq (.reg false [⟨(some 8), none, .mv (.t 1)⟩, ⟨(some 9), none, .len (.t 8)⟩, ⟨(some 10), none, .mv (.v (.int .i64 (0)))⟩] (some ⟨[0,5,8,9,10], [], [5]⟩))
  (.block 0 (.loop (.seq (.reg false [⟨(some 11), none, .bin .lss (.t 10) (.t 9)⟩] (some ⟨[0,5,8,9,10,11], [], [5]⟩))
  (.seq (.cond (.t 11)
  .skip
  (.exit 0))
  (.seq (.block 1 (.seq (.reg false [⟨(some 12), none, .iadr 1 (.t 8) (.t 10)⟩, ⟨(some 13), none, .load false 1 (.t 12)⟩, ⟨(some 7), none, .mv (.t 13)⟩] (some ⟨[0,5,7,8,9,10], [], [5]⟩))
  (.reg false [⟨(some 14), none, .mv (.t 5)⟩, ⟨(some 15), none, .mv (.t 0)⟩, ⟨(some 16), none, .mv (.t 7)⟩, ⟨(some 17), none, .iadr 3 (.t 15) (.t 16)⟩, ⟨(some 18), none, .load true 3 (.t 17)⟩, ⟨(some 19), none, .bslice 3 1 [(.t 18)]⟩, ⟨(some 20), none, .append 38 3 24 (.t 14) (.t 19)⟩, ⟨(some 5), none, .mv (.t 20)⟩] (some ⟨[0,5,8,9,10], [], [5]⟩))))
  (.reg false [⟨(some 21), none, .bin .add (.t 10) (.v (.int .i64 (1)))⟩, ⟨(some 10), none, .mv (.t 21)⟩] (some ⟨[0,5,8,9,10], [], [5]⟩))))))))
  (.seq (.reg false [⟨(some 22), none, .mv (.t 5)⟩, ⟨(some 4), none, .mv (.t 22)⟩] (some ⟨[4], [], []⟩))
  .ret))))
theorem c_keep : compileCode Try.prog Try.f109.ntmps (Try.f109.body.getD .skip) A_keep = some (C_keep, []) := by kernel_rfl
theorem r_keep : compileRes Try.prog Try.f109.results.toList = some [.t 4] := by kernel_rfl
theorem b_keep : Try.f109.body = some (Try.f109.body.getD .skip) := by kernel_rfl
theorem n_keep : (Try.f109.name == "runtime.NumGoroutine") = false := by kernel_rfl
theorem fc_keep {xt : Option (List Cel)} {args : List Val} {R : List Cel → Val → Prop} (hn : (if xt.isSome then 1 else 0) + args.length ≤ Try.f109.ntmps) (h : ex Try.prog C_keep [] (fpost xt [.t 4] R) (initSt xt args)) : FC Try.prog 109 xt args R :=
  fc_of_awp Try.func109 b_keep n_keep c_keep r_keep (of_decide_eq_true (by kernel_rfl)) hn h

def A_keepP : List Ann := [⟨(some ⟨[0,1], [], []⟩), [], [], [], []⟩, ⟨(some ⟨[0,1,6], [], []⟩), [], [], [], []⟩, ⟨(some ⟨[0,1,6,11], [], []⟩), [], [], [], []⟩, ⟨(some ⟨[4,5], [], []⟩), [], [], [(4, 3)], []⟩, ⟨(some ⟨[4,5], [], []⟩), [], [], [], []⟩]
def C_keepP : AC := (.seq (.reg false [⟨(some 4), none, .mv (.v (.slice none 0 0))⟩, ⟨(some 5), none, .mv (.v (.int .i64 (0)))⟩] (some ⟨[0,1], [], []⟩))
  (.seq (.seq (.reg false [⟨(some 7), none, .mv (.t 0)⟩, ⟨(some 8), none, .mv (.t 1)⟩, ⟨(some 9), none, .call (.f 86) [(.t 7), (.t 8)]⟩, ⟨(some 6), none, .mv (.t 9)⟩] (some ⟨[0,1,6], [], []⟩))
  (.seq (.reg false [⟨(some 10), none, .mv (.t 6)⟩, ⟨(some 11), none, .bin .neq (.t 10) (.v (.int .i64 (0)))⟩] (some ⟨[0,1,6,11], [], []⟩))
  (.cond (.t 11)
  (.seq (.seq (.reg false [⟨(some 12), none, .mv (.t 6)⟩, ⟨(some 4), none, .mv (.v (.slice none 0 0))⟩, ⟨(some 5), none, .mv (.t 12)⟩] (some ⟨[4,5], [], []⟩))
  (.ty 4 3))
  .ret)
  .skip)))
  (.seq (.reg false [⟨(some 13), none, .mv (.t 0)⟩, ⟨(some 14), none, .mv (.t 1)⟩, ⟨(some 15), none, .call (.f 109) [(.t 13), (.t 14)]⟩, ⟨(some 4), none, .mv (.t 15)⟩, ⟨(some 5), none, .mv (.v (.int .i64 (0)))⟩] (some ⟨[4,5], [], []⟩))
  .ret)))
theorem c_keepP : compileCode Try.prog Try.f50.ntmps (Try.f50.body.getD .skip) A_keepP = some (C_keepP, []) := by kernel_rfl
theorem r_keepP : compileRes Try.prog Try.f50.results.toList = some [.t 4, .t 5] := by kernel_rfl
theorem b_keepP : Try.f50.body = some (Try.f50.body.getD .skip) := by kernel_rfl
theorem n_keepP : (Try.f50.name == "runtime.NumGoroutine") = false := by kernel_rfl
theorem fc_keepP {xt : Option (List Cel)} {args : List Val} {R : List Cel → Val → Prop} (hn : (if xt.isSome then 1 else 0) + args.length ≤ Try.f50.ntmps) (h : ex Try.prog C_keepP [] (fpost xt [.t 4, .t 5] R) (initSt xt args)) : FC Try.prog 50 xt args R :=
  fc_of_awp Try.func50 b_keepP n_keepP c_keepP r_keepP (of_decide_eq_true (by kernel_rfl)) hn h


/-- A stepped tag needs sample number i. -/
def stepB (l : List Smp) (i : Int) : Bool := decide (i = 0 ∨ i = l.length - 1 ∨ (l.getD i.toNat default).v ≠ (l.getD (i - 1).toNat default).v ∨ (l.getD i.toNat default).q ≠ (l.getD (i - 1).toNat default).q)
def stpW (l : List Smp) : Nat → List Int
  | 0 => []
  | n + 1 => stpW l n ++ (if stepB l n = true then [(n : Int)] else [])
theorem stpW_len (l : List Smp) : ∀ n, (stpW l n).length ≤ n
  | 0 => by simp [stpW]
  | n + 1 => by have := stpW_len l n; rw [stpW, List.length_append]; split <;> simp <;> omega
def stpSt (l : List Smp) (i : Int) (out : List Int) : AS := ⟨tabV [(0, smps false l), (5, .one (.ow 5 0)), (13, smps false l), (14, iv l.length), (15, iv i)], tabO [], tabO [(5, ⟨0, 3, 1, out.map intC⟩)]⟩
def stpSp (l : List Smp) : List Int × Int := if serFault l ≠ 0 then ([], serFault l) else (stpW l l.length, 0)
theorem steps_fc (l : List Smp) (hl : l.length ≤ 4611686018427387904) : FC Try.prog 32 none [smps false l] (fun _ r => r = .tu [ints true (stpSp l).1, iv (stpSp l).2]) := by
  refine fc_steps (by simp +arith) ?_
  unfold C_steps stpSp
  simp (maxSteps := 1000000) (disch := omega) only [go_sem, eq_self, decide_true, decide_false, not_true_eq_false, not_false_eq_true, reduceIte, reduceCtorEq, Nat.reduceEqDiff, Nat.reduceAdd, Nat.reduceSub, Nat.reduceLeDiff]
  refine CALL_det (checkSeries_fc l hl) (.inl rfl) ?_
  by_cases h1 : serFault l = 0
  · rw [if_neg (show ¬(serFault l ≠ 0) by omega), h1]
    have hg := good_of h1
    have hlen := hg.len
    simp (maxSteps := 1000000) (disch := omega) only [go_sem, eq_self, decide_true, decide_false, not_true_eq_false, not_false_eq_true, reduceIte, reduceCtorEq, Nat.reduceEqDiff, Nat.reduceAdd, Nat.reduceSub, Nat.reduceLeDiff]
    refine ⟨by omega, ?_⟩
    refine ex_loop1 (fun i => stpSt l i (stpW l i.toNat)) (fun i => 0 ≤ i ∧ i ≤ l.length) (fun i => (l.length - i).toNat) 0 ⟨by omega, by omega⟩ rfl ?_
    rintro i ⟨g1, g2⟩
    have hsl := stpW_len l i.toNat
    have e2 : (i + 1).toNat = i.toNat + 1 := by omega
    have ei : ((i.toNat : Nat) : Int) = i := by omega
    have e3 : stpW l (i + 1).toNat = stpW l i.toNat ++ (if stepB l i = true then [i] else []) := by rw [e2, stpW, ei]
    unfold stpSt
    by_cases hi : i < l.length
    · have em := getD_map_at smpC l i [] g1 hi
      by_cases c1 : i = 0
      · have hb : stepB l i = true := decide_eq_true (.inl c1)
        rw [if_pos hb] at e3
        simp (maxSteps := 1000000) (disch := omega) only [go_sem, eq_self, decide_true, decide_false, not_true_eq_false, not_false_eq_true, reduceIte, reduceCtorEq, Nat.reduceEqDiff, Nat.reduceAdd, Nat.reduceSub, Nat.reduceLeDiff]
        exact ⟨i + 1, by simp only [e3, List.map_append, List.map_cons, List.map_nil, intC_eq], ⟨by omega, by omega⟩, by omega⟩
      by_cases c2 : i = l.length - 1
      · have hb : stepB l i = true := decide_eq_true (.inr (.inl c2))
        rw [if_pos hb] at e3
        simp (maxSteps := 1000000) (disch := omega) only [go_sem, eq_self, decide_true, decide_false, not_true_eq_false, not_false_eq_true, reduceIte, reduceCtorEq, Nat.reduceEqDiff, Nat.reduceAdd, Nat.reduceSub, Nat.reduceLeDiff]
        exact ⟨i + 1, by simp only [e3, List.map_append, List.map_cons, List.map_nil, intC_eq], ⟨by omega, by omega⟩, by omega⟩
      have ep := getD_map_at smpC l (i - 1) [] (by omega) (by omega)
      by_cases c3 : (l.getD i.toNat default).v = (l.getD (i - 1).toNat default).v
      · by_cases c4 : (l.getD i.toNat default).q = (l.getD (i - 1).toNat default).q
        · have hb : ¬stepB l i = true := by unfold stepB; rw [decide_eq_true_eq]; omega
          rw [if_neg hb, List.append_nil] at e3
          simp (maxSteps := 1000000) (disch := omega) only [go_sem, eq_self, decide_true, decide_false, not_true_eq_false, not_false_eq_true, reduceIte, reduceCtorEq, Nat.reduceEqDiff, Nat.reduceAdd, Nat.reduceSub, Nat.reduceLeDiff]
          exact ⟨i + 1, by simp only [e3], ⟨by omega, by omega⟩, by omega⟩
        · have hb : stepB l i = true := decide_eq_true (.inr (.inr (.inr c4)))
          rw [if_pos hb] at e3
          simp (maxSteps := 1000000) (disch := omega) only [go_sem, eq_self, decide_true, decide_false, not_true_eq_false, not_false_eq_true, reduceIte, reduceCtorEq, Nat.reduceEqDiff, Nat.reduceAdd, Nat.reduceSub, Nat.reduceLeDiff]
          exact ⟨i + 1, by simp only [e3, List.map_append, List.map_cons, List.map_nil, intC_eq], ⟨by omega, by omega⟩, by omega⟩
      · have hb : stepB l i = true := decide_eq_true (.inr (.inr (.inl c3)))
        rw [if_pos hb] at e3
        simp (maxSteps := 1000000) (disch := omega) only [go_sem, eq_self, decide_true, decide_false, not_true_eq_false, not_false_eq_true, reduceIte, reduceCtorEq, Nat.reduceEqDiff, Nat.reduceAdd, Nat.reduceSub, Nat.reduceLeDiff]
        exact ⟨i + 1, by simp only [e3, List.map_append, List.map_cons, List.map_nil, intC_eq], ⟨by omega, by omega⟩, by omega⟩
    · have hi' : i.toNat = l.length := by omega
      rw [hi']
      simp (maxSteps := 1000000) (disch := omega) only [go_sem, eq_self, decide_true, decide_false, not_true_eq_false, not_false_eq_true, reduceIte, reduceCtorEq, Nat.reduceEqDiff, Nat.reduceAdd, Nat.reduceSub, Nat.reduceLeDiff]
  · rw [if_pos (show serFault l ≠ 0 by omega)]
    simp (maxSteps := 1000000) (disch := omega) only [go_sem, eq_self, decide_true, decide_false, not_true_eq_false, not_false_eq_true, reduceIte, reduceCtorEq, Nat.reduceEqDiff, Nat.reduceAdd, Nat.reduceSub, Nat.reduceLeDiff]
    rfl
/-- What is wrong with indices of n samples, behind another one. -/
def leO (k : Int) : Option Int → Bool
  | none => false
  | some j => decide (k ≤ j)
def kfGo (n : Int) : Option Int → List Int → Int
  | _, [] => 0
  | p, k :: r => if k < 0 ∨ k > n - 1 then 1 else if leO k p = true then 7 else kfGo n (some k) r
def prvI (l : List Int) (i : Int) : Option Int := if i = 0 then none else some (l.getD (i - 1).toNat default)
theorem kfGo_step (n : Int) (l : List Int) (i : Int) (h0 : 0 ≤ i) (h : i < l.length) : kfGo n (prvI l i) (l.drop i.toNat) = if l.getD i.toNat default < 0 ∨ l.getD i.toNat default > n - 1 then 1 else if 0 < i ∧ l.getD i.toNat default ≤ l.getD (i - 1).toNat default then 7 else kfGo n (prvI l (i + 1)) (l.drop (i + 1).toNat) := by
  have e2 : (i + 1).toNat = i.toNat + 1 := by omega
  rw [drop_cons l i.toNat (by omega), kfGo, e2]
  by_cases hi : i = 0
  · subst hi; simp [prvI, leO]
  · have h1 : 0 < i := by omega
    have h2 : ¬ i + 1 = 0 := by omega
    have h3 : i + 1 - 1 = i := by omega
    simp [prvI, leO, hi, h1, h2, h3]
def kptF (l : List Smp) (kept : List Int) : Int := if serFault l ≠ 0 then serFault l else if kept.length > l.length then 2 else kfGo l.length none kept
def kpfSt (l : List Smp) (kept : List Int) (i : Int) : AS := ⟨tabV [(0, smps false l), (1, ints false kept), (18, ints false kept), (19, iv kept.length), (20, iv i)], tabO [], tabO []⟩
theorem keptFault_fc (l : List Smp) (hl : l.length ≤ 4611686018427387904) (kept : List Int) (hk : kept.length ≤ 4611686018427387904) : FC Try.prog 86 none [smps false l, ints false kept] (fun _ r => r = iv (kptF l kept)) := by
  refine fc_keptFault (by simp +arith) ?_
  unfold C_keptFault kptF
  simp (maxSteps := 1000000) (disch := omega) only [go_sem, eq_self, decide_true, decide_false, not_true_eq_false, not_false_eq_true, reduceIte, reduceCtorEq, Nat.reduceEqDiff, Nat.reduceAdd, Nat.reduceSub, Nat.reduceLeDiff]
  refine CALL_det (checkSeries_fc l hl) (.inl rfl) ?_
  by_cases h1 : serFault l = 0
  · rw [if_neg (show ¬(serFault l ≠ 0) by omega), h1]
    have hlen := (good_of h1).len
    by_cases h2 : kept.length > l.length
    · rw [if_pos h2]
      simp (maxSteps := 1000000) (disch := omega) only [go_sem, eq_self, decide_true, decide_false, not_true_eq_false, not_false_eq_true, reduceIte, reduceCtorEq, Nat.reduceEqDiff, Nat.reduceAdd, Nat.reduceSub, Nat.reduceLeDiff]
    · rw [if_neg h2]
      simp (maxSteps := 1000000) (disch := omega) only [go_sem, eq_self, decide_true, decide_false, not_true_eq_false, not_false_eq_true, reduceIte, reduceCtorEq, Nat.reduceEqDiff, Nat.reduceAdd, Nat.reduceSub, Nat.reduceLeDiff]
      refine ex_loop1 (kpfSt l kept) (fun i => 0 ≤ i ∧ i ≤ kept.length ∧ kfGo l.length (prvI kept i) (kept.drop i.toNat) = kfGo l.length none kept) (fun i => (kept.length - i).toNat) 0 ⟨by omega, by omega, rfl⟩ rfl ?_
      rintro i ⟨g1, g2, g3⟩
      unfold kpfSt
      by_cases hi : i < kept.length
      · rw [kfGo_step _ kept i g1 hi] at g3
        have em := getD_map_at intC kept i [] g1 hi
        simp (maxSteps := 1000000) (disch := omega) only [go_sem, eq_self, decide_true, decide_false, not_true_eq_false, not_false_eq_true, reduceIte, reduceCtorEq, Nat.reduceEqDiff, Nat.reduceAdd, Nat.reduceSub, Nat.reduceLeDiff]
        refine CALL_det (out_fc _ _ _) (.inl rfl) ?_
        by_cases c1 : kept.getD i.toNat default < 0 ∨ kept.getD i.toNat default > l.length - 1
        · rw [if_pos c1] at g3
          rw [decide_eq_true c1, ← g3]
          simp (maxSteps := 1000000) (disch := omega) only [go_sem, eq_self, decide_true, decide_false, not_true_eq_false, not_false_eq_true, reduceIte, reduceCtorEq, Nat.reduceEqDiff, Nat.reduceAdd, Nat.reduceSub, Nat.reduceLeDiff]
        · rw [if_neg c1] at g3
          rw [decide_eq_false c1]
          by_cases c2 : 0 < i
          · have ep := getD_map_at intC kept (i - 1) [] (by omega) (by omega)
            by_cases c3 : kept.getD i.toNat default ≤ kept.getD (i - 1).toNat default
            · rw [if_pos ⟨c2, c3⟩] at g3
              rw [← g3]
              simp (maxSteps := 1000000) (disch := omega) only [go_sem, eq_self, decide_true, decide_false, not_true_eq_false, not_false_eq_true, reduceIte, reduceCtorEq, Nat.reduceEqDiff, Nat.reduceAdd, Nat.reduceSub, Nat.reduceLeDiff]
            · rw [if_neg (fun h => c3 h.2)] at g3
              simp (maxSteps := 1000000) (disch := omega) only [go_sem, eq_self, decide_true, decide_false, not_true_eq_false, not_false_eq_true, reduceIte, reduceCtorEq, Nat.reduceEqDiff, Nat.reduceAdd, Nat.reduceSub, Nat.reduceLeDiff]
              exact ⟨_, rfl, ⟨by omega, by omega, g3⟩, by omega⟩
          · rw [if_neg (fun h => c2 h.1)] at g3
            simp (maxSteps := 1000000) (disch := omega) only [go_sem, eq_self, decide_true, decide_false, not_true_eq_false, not_false_eq_true, reduceIte, reduceCtorEq, Nat.reduceEqDiff, Nat.reduceAdd, Nat.reduceSub, Nat.reduceLeDiff]
            exact ⟨_, rfl, ⟨by omega, by omega, g3⟩, by omega⟩
      · rw [List.drop_eq_nil_of_le (by omega), kfGo] at g3
        rw [← g3]
        simp (maxSteps := 1000000) (disch := omega) only [go_sem, eq_self, decide_true, decide_false, not_true_eq_false, not_false_eq_true, reduceIte, reduceCtorEq, Nat.reduceEqDiff, Nat.reduceAdd, Nat.reduceSub, Nat.reduceLeDiff]
  · rw [if_pos (show serFault l ≠ 0 by omega)]
    simp (maxSteps := 1000000) (disch := omega) only [go_sem, eq_self, decide_true, decide_false, not_true_eq_false, not_false_eq_true, reduceIte, reduceCtorEq, Nat.reduceEqDiff, Nat.reduceAdd, Nat.reduceSub, Nat.reduceLeDiff]
theorem kfGo_ok (n : Int) : ∀ (l : List Int) (p : Option Int), kfGo n p l = 0 → ∀ k ∈ l, 0 ≤ k ∧ k < n
  | [], p, _, k, hk => by cases hk
  | x :: r, p, h, k, hk => by
    rw [kfGo] at h
    split at h
    · omega
    · split at h
      · omega
      · simp only [List.mem_cons] at hk
        rcases hk with rfl | hk
        · omega
        · exact kfGo_ok n r _ h k hk
def kep (l : List Smp) (kept : List Int) : List Smp := kept.map fun k => l.getD k.toNat default
def kepSt (l : List Smp) (kept : List Int) (i : Int) (out : List Smp) : AS := ⟨tabV [(0, smps false l), (5, .one (.ow 5 0)), (8, ints false kept), (9, iv kept.length), (10, iv i)], tabO [], tabO [(5, ⟨0, 38, 3, out.map smpC⟩)]⟩
theorem keep_fc (l : List Smp) (hl : l.length ≤ 5000) (kept : List Int) (hk : kept.length ≤ l.length) (hin : ∀ k ∈ kept, 0 ≤ k ∧ k < l.length) : FC Try.prog 109 none [smps false l, ints false kept] (fun _ r => r = smps true (kep l kept)) := by
  refine fc_keep (by simp +arith) ?_
  unfold C_keep
  simp (maxSteps := 1000000) (disch := omega) only [go_sem, eq_self, decide_true, decide_false, not_true_eq_false, not_false_eq_true, reduceIte, reduceCtorEq, Nat.reduceEqDiff, Nat.reduceAdd, Nat.reduceSub, Nat.reduceLeDiff]
  refine ex_loop2 (kepSt l kept) (fun i out => 0 ≤ i ∧ i ≤ kept.length ∧ out.length = i ∧ out ++ kep l (kept.drop i.toNat) = kep l kept) (fun i _ => (kept.length - i).toNat) 0 [] ⟨by omega, by omega, by simp, by simp⟩ rfl ?_
  rintro i out ⟨g1, g2, g3, g4⟩
  unfold kepSt
  by_cases hi : i < kept.length
  · have e2 : (i + 1).toNat = i.toNat + 1 := by omega
    have em := getD_map_at intC kept i [] g1 hi
    obtain ⟨k1, k2⟩ := hin _ (getD_mem kept i.toNat (by omega))
    have ek := getD_map_at smpC l (kept.getD i.toNat default) [] k1 k2
    rw [drop_cons kept i.toNat (by omega), ← e2] at g4
    unfold kep at g4 ⊢
    rw [List.map_cons] at g4
    simp (maxSteps := 1000000) (disch := omega) only [go_sem, eq_self, decide_true, decide_false, not_true_eq_false, not_false_eq_true, reduceIte, reduceCtorEq, Nat.reduceEqDiff, Nat.reduceAdd, Nat.reduceSub, Nat.reduceLeDiff]
    exact ⟨i + 1, out ++ [l.getD (kept.getD i.toNat default).toNat default], by simp only [kepSt, List.map_append, List.map_cons, List.map_nil, smpC_eq], ⟨by omega, by omega, by simp; omega, by simpa using g4⟩, by omega⟩
  · rw [List.drop_eq_nil_of_le (by omega)] at g4
    simp only [kep, List.map_nil, List.append_nil] at g4
    simp (maxSteps := 1000000) (disch := omega) only [go_sem, eq_self, decide_true, decide_false, not_true_eq_false, not_false_eq_true, reduceIte, reduceCtorEq, Nat.reduceEqDiff, Nat.reduceAdd, Nat.reduceSub, Nat.reduceLeDiff]
    rw [g4]; rfl
def kepSp (l : List Smp) (kept : List Int) : List Smp × Int := if kptF l kept ≠ 0 then ([], kptF l kept) else (kep l kept, 0)
theorem kptF_ok {l : List Smp} {kept : List Int} (h : kptF l kept = 0) : serFault l = 0 ∧ kept.length ≤ l.length ∧ kfGo l.length none kept = 0 := by
  unfold kptF at h
  split at h
  · omega
  · split at h
    · omega
    · exact ⟨by omega, by omega, h⟩
theorem keepP_fc (l : List Smp) (hl : l.length ≤ 4611686018427387904) (kept : List Int) (hk : kept.length ≤ 4611686018427387904) : FC Try.prog 50 none [smps false l, ints false kept] (fun _ r => r = .tu [smps true (kepSp l kept).1, iv (kepSp l kept).2]) := by
  refine fc_keepP (by simp +arith) ?_
  unfold C_keepP kepSp
  simp (maxSteps := 1000000) (disch := omega) only [go_sem, eq_self, decide_true, decide_false, not_true_eq_false, not_false_eq_true, reduceIte, reduceCtorEq, Nat.reduceEqDiff, Nat.reduceAdd, Nat.reduceSub, Nat.reduceLeDiff]
  refine CALL_det (keptFault_fc l hl kept hk) (.inl rfl) ?_
  by_cases h1 : kptF l kept = 0
  · rw [if_neg (show ¬(kptF l kept ≠ 0) by omega), h1]
    obtain ⟨h2, h3, h4⟩ := kptF_ok h1
    simp (maxSteps := 1000000) (disch := omega) only [go_sem, eq_self, decide_true, decide_false, not_true_eq_false, not_false_eq_true, reduceIte, reduceCtorEq, Nat.reduceEqDiff, Nat.reduceAdd, Nat.reduceSub, Nat.reduceLeDiff]
    refine CALL_det (keep_fc l (good_of h2).len kept h3 (kfGo_ok _ kept none h4)) (.inl rfl) ?_
    simp (maxSteps := 1000000) (disch := omega) only [go_sem, eq_self, decide_true, decide_false, not_true_eq_false, not_false_eq_true, reduceIte, reduceCtorEq, Nat.reduceEqDiff, Nat.reduceAdd, Nat.reduceSub, Nat.reduceLeDiff]
  · rw [if_pos (show kptF l kept ≠ 0 by omega)]
    simp (maxSteps := 1000000) (disch := omega) only [go_sem, eq_self, decide_true, decide_false, not_true_eq_false, not_false_eq_true, reduceIte, reduceCtorEq, Nat.reduceEqDiff, Nat.reduceAdd, Nat.reduceSub, Nat.reduceLeDiff]
    rfl
end Go.Proofs.Ytggbcgldnjmobaa

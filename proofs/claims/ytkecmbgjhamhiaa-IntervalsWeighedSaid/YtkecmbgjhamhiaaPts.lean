/-
  Values at moments and at equal distances: the program's answers and the reference's are one; so the statement ValuesBetween holds.
-/
import Derived.Test.YtkecmbgjhamhiaaVal
import Derived.Test.YtkecmbgjhamhiaaGenB
namespace Go.Proofs.Ytkecmbgjhamhiaa
open Go Go.Ai
set_option linter.unusedSimpArgs false
set_option linter.unusedVariables false
set_option maxHeartbeats 4000000
def A_bvalueAt : List Ann := [⟨(some ⟨[0,1,2,6], [6], []⟩), [], [], [], []⟩, ⟨(some ⟨[0,1,2,6,9], [6], []⟩), [], [], [], []⟩, ⟨(some ⟨[0,1,2,6,9,15], [6], []⟩), [], [], [], []⟩, ⟨(some ⟨[6,7,8], [6], []⟩), [], [], [], []⟩, ⟨(some ⟨[0,1,2,6,20], [6], []⟩), [], [], [], []⟩, ⟨(some ⟨[6,7,8], [6], []⟩), [], [], [], []⟩, ⟨(some ⟨[6,10,11], [6,10], []⟩), [], [], [], []⟩, ⟨(some ⟨[6,7,8], [6], []⟩), [], [], [], []⟩]
def C_bvalueAt : AC := (.seq (.reg false [⟨(some 6), none, .alloc [(.int .i64 (0)), (.int .i64 (0)), (.int .i64 (0)), (.int .i64 (0))]⟩, ⟨(some 7), none, .mv (.v (.bool false))⟩, ⟨(some 8), none, .mv (.v (.int .i64 (0)))⟩] (some ⟨[0,1,2,6], [6], []⟩))
  (.seq (.seq (.reg false [⟨(some 12), none, .mv (.t 0)⟩, ⟨(some 13), none, .call (.f 85) [(.t 12)]⟩, ⟨(some 9), none, .mv (.t 13)⟩] (some ⟨[0,1,2,6,9], [6], []⟩))
  (.seq (.reg false [⟨(some 14), none, .mv (.t 9)⟩, ⟨(some 15), none, .bin .neq (.t 14) (.v (.int .i64 (0)))⟩] (some ⟨[0,1,2,6,9,15], [6], []⟩))
  (.cond (.t 15)
  (.seq (.reg false [⟨(some 16), none, .build [(.int .i64 (0)), (.int .i64 (0)), (.int .i64 (0)), (.int .i64 (0))] []⟩, ⟨(some 17), none, .mv (.t 9)⟩, ⟨none, none, .store 4 (.t 6) (.t 16)⟩, ⟨(some 7), none, .mv (.v (.bool false))⟩, ⟨(some 8), none, .mv (.t 17)⟩] (some ⟨[6,7,8], [6], []⟩))
  .ret)
  .skip)))
  (.seq (.seq (.reg false [⟨(some 18), none, .mv (.t 2)⟩, ⟨(some 19), none, .call (.f 86) [(.t 18)]⟩, ⟨(some 20), none, .un .not (.t 19)⟩] (some ⟨[0,1,2,6,20], [6], []⟩))
  (.cond (.t 20)
  (.seq (.reg false [⟨(some 21), none, .build [(.int .i64 (0)), (.int .i64 (0)), (.int .i64 (0)), (.int .i64 (0))] []⟩, ⟨none, none, .store 4 (.t 6) (.t 21)⟩, ⟨(some 7), none, .mv (.v (.bool false))⟩, ⟨(some 8), none, .mv (.v (.int .i64 (1)))⟩] (some ⟨[6,7,8], [6], []⟩))
  .ret)
  .skip))
  (.seq (.reg false [⟨(some 23), none, .mv (.t 0)⟩, ⟨(some 24), none, .mv (.t 1)⟩, ⟨(some 25), none, .mv (.t 2)⟩, ⟨(some 26), none, .call (.f 87) [(.t 23), (.t 24), (.t 25)]⟩, ⟨(some 22), none, .mv (.t 26)⟩, ⟨(some 27), none, .extr (.t 22) 0⟩, ⟨(some 28), none, .extr (.t 22) 1⟩, ⟨(some 10), none, .alloc [(.int .i64 (0)), (.int .i64 (0)), (.int .i64 (0)), (.int .i64 (0))]⟩, ⟨none, none, .store 4 (.t 10) (.t 27)⟩, ⟨(some 11), none, .mv (.t 28)⟩] (some ⟨[6,10,11], [6,10], []⟩))
  (.seq (.reg false [⟨(some 29), none, .load true 4 (.t 10)⟩, ⟨(some 30), none, .mv (.t 11)⟩, ⟨none, none, .store 4 (.t 6) (.t 29)⟩, ⟨(some 7), none, .mv (.t 30)⟩, ⟨(some 8), none, .mv (.v (.int .i64 (0)))⟩] (some ⟨[6,7,8], [6], []⟩))
  .ret)))))
theorem c_bvalueAt : compileCode Try.prog Try.f21.ntmps (Try.f21.body.getD .skip) A_bvalueAt = some (C_bvalueAt, []) := by kernel_rfl
theorem r_bvalueAt : compileRes Try.prog Try.f21.results.toList = some [.cell 6 true 4, .t 7, .t 8] := by kernel_rfl
theorem b_bvalueAt : Try.f21.body = some (Try.f21.body.getD .skip) := by kernel_rfl
theorem n_bvalueAt : (Try.f21.name == "runtime.NumGoroutine") = false := by kernel_rfl
theorem fc_bvalueAt {xt : Option (List Cel)} {args : List Val} {R : List Cel → Val → Prop} (hn : (if xt.isSome then 1 else 0) + args.length ≤ Try.f21.ntmps) (h : ex Try.prog C_bvalueAt [] (fpost xt [.cell 6 true 4, .t 7, .t 8] R) (initSt xt args)) : FC Try.prog 21 xt args R :=
  fc_of_awp Try.func21 b_bvalueAt n_bvalueAt c_bvalueAt r_bvalueAt (of_decide_eq_true (by kernel_rfl)) hn h

def A_points : List Ann := [⟨(some ⟨[0,1,3,6], [6], []⟩), [], [], [], []⟩, ⟨(some ⟨[0,1,3,6,10], [6], []⟩), [], [], [], []⟩, ⟨(some ⟨[0,1,3,6,10,20], [6], []⟩), [], [], [], []⟩, ⟨(some ⟨[8,9], [], []⟩), [], [], [(8, 4)], []⟩, ⟨(some ⟨[0,1,3,6,11], [6], []⟩), [], [], [], []⟩, ⟨(some ⟨[0,1,3,6,11,26], [6], []⟩), [], [], [], []⟩, ⟨(some ⟨[8,9], [], []⟩), [], [], [(8, 4)], []⟩, ⟨(some ⟨[0,1,3,6,12], [6], []⟩), [(12, 39, 4)], [], [], []⟩, ⟨(some ⟨[0,1,3,6,12,13], [6], [12]⟩), [], [], [], []⟩, ⟨(some ⟨[0,1,3,6,12,13,33], [6], [12]⟩), [], [], [], []⟩, ⟨(some ⟨[0,1,3,6,12,13,14,15], [6,14], [12]⟩), [], [], [], []⟩, ⟨(some ⟨[0,1,3,6,12,13,14,44], [6,14], [12]⟩), [], [], [], []⟩, ⟨(some ⟨[0,1,3,6,12,13], [6], [12]⟩), [], [], [], []⟩, ⟨(some ⟨[0,1,3,6,12,13], [6], [12]⟩), [], [], [], []⟩, ⟨(some ⟨[8,9], [], []⟩), [], [], [], []⟩]
def C_points : AC := (.seq (.reg false [⟨(some 6), none, .box (.t 2)⟩, ⟨(some 8), none, .mv (.v (.slice none 0 0))⟩, ⟨(some 9), none, .mv (.v (.int .i64 (0)))⟩] (some ⟨[0,1,3,6], [6], []⟩))
  (.seq (.seq (.reg false [⟨(some 16), none, .mv (.t 0)⟩, ⟨(some 17), none, .load true 2 (.t 6)⟩, ⟨(some 18), none, .call (.f 88) [(.t 16), (.t 17)]⟩, ⟨(some 10), none, .mv (.t 18)⟩] (some ⟨[0,1,3,6,10], [6], []⟩))
  (.seq (.reg false [⟨(some 19), none, .mv (.t 10)⟩, ⟨(some 20), none, .bin .neq (.t 19) (.v (.int .i64 (0)))⟩] (some ⟨[0,1,3,6,10,20], [6], []⟩))
  (.cond (.t 20)
  (.seq (.seq (.reg false [⟨(some 21), none, .mv (.t 10)⟩, ⟨(some 8), none, .mv (.v (.slice none 0 0))⟩, ⟨(some 9), none, .mv (.t 21)⟩] (some ⟨[8,9], [], []⟩))
  (.ty 8 4))
  .ret)
  .skip)))
  (.seq (.seq (.reg false [⟨(some 22), none, .load true 2 (.t 6)⟩, ⟨(some 23), none, .mv (.t 3)⟩, ⟨(some 24), none, .call (.f 89) [(.t 22), (.t 23)]⟩, ⟨(some 11), none, .mv (.t 24)⟩] (some ⟨[0,1,3,6,11], [6], []⟩))
  (.seq (.reg false [⟨(some 25), none, .mv (.t 11)⟩, ⟨(some 26), none, .bin .neq (.t 25) (.v (.int .i64 (0)))⟩] (some ⟨[0,1,3,6,11,26], [6], []⟩))
  (.cond (.t 26)
  (.seq (.seq (.reg false [⟨(some 27), none, .mv (.t 11)⟩, ⟨(some 8), none, .mv (.v (.slice none 0 0))⟩, ⟨(some 9), none, .mv (.t 27)⟩] (some ⟨[8,9], [], []⟩))
  (.ty 8 4))
  .ret)
  .skip)))
  (.seq (.seq (.reg false [⟨(some 12), none, .mv (.v (.slice none 0 0))⟩] (some ⟨[0,1,3,6,12], [6], []⟩))
  (.own 12 39 4))
  (.seq (.seq (.reg false [⟨(some 28), none, .fadr 0 (.t 6)⟩, ⟨(some 29), none, .load false 1 (.t 28)⟩, ⟨(some 13), none, .mv (.t 29)⟩] (some ⟨[0,1,3,6,12,13], [6], [12]⟩))
  (.block 0 (.loop (.seq (.seq (.reg false [⟨(some 30), none, .mv (.t 13)⟩, ⟨(some 31), none, .fadr 1 (.t 6)⟩, ⟨(some 32), none, .load false 1 (.t 31)⟩, ⟨(some 33), none, .bin .lss (.t 30) (.t 32)⟩] (some ⟨[0,1,3,6,12,13,33], [6], [12]⟩))
  (.cond (.t 33)
  .skip
  (.exit 0)))
  (.seq (.block 1 (.seq (.reg false [⟨(some 38), none, .mv (.t 0)⟩, ⟨(some 39), none, .mv (.t 1)⟩, ⟨(some 40), none, .mv (.t 13)⟩, ⟨(some 41), none, .call (.f 87) [(.t 38), (.t 39), (.t 40)]⟩, ⟨(some 37), none, .mv (.t 41)⟩, ⟨(some 42), none, .extr (.t 37) 0⟩, ⟨(some 43), none, .extr (.t 37) 1⟩, ⟨(some 14), none, .alloc [(.int .i64 (0)), (.int .i64 (0)), (.int .i64 (0)), (.int .i64 (0))]⟩, ⟨none, none, .store 4 (.t 14) (.t 42)⟩, ⟨(some 15), none, .mv (.t 43)⟩] (some ⟨[0,1,3,6,12,13,14,15], [6,14], [12]⟩))
  (.seq (.reg false [⟨(some 44), none, .mv (.t 15)⟩] (some ⟨[0,1,3,6,12,13,14,44], [6,14], [12]⟩))
  (.cond (.t 44)
  (.reg false [⟨(some 45), none, .mv (.t 12)⟩, ⟨(some 46), none, .load true 4 (.t 14)⟩, ⟨(some 47), none, .bslice 4 1 [(.t 46)]⟩, ⟨(some 48), none, .append 39 4 32 (.t 45) (.t 47)⟩, ⟨(some 12), none, .mv (.t 48)⟩] (some ⟨[0,1,3,6,12,13], [6], [12]⟩))
  .skip))))
  (.reg false [⟨(some 34), none, .mv (.t 13)⟩, ⟨(some 35), none, .mv (.t 3)⟩, ⟨(some 36), none, .bin .add (.t 34) (.t 35)⟩, ⟨(some 13), none, .mv (.t 36)⟩] (some ⟨[0,1,3,6,12,13], [6], [12]⟩)))))))
  (.seq (.reg false [⟨(some 49), none, .mv (.t 12)⟩, ⟨(some 8), none, .mv (.t 49)⟩, ⟨(some 9), none, .mv (.v (.int .i64 (0)))⟩] (some ⟨[8,9], [], []⟩))
  .ret))))))
theorem c_points : compileCode Try.prog Try.f22.ntmps (Try.f22.body.getD .skip) A_points = some (C_points, []) := by kernel_rfl
theorem r_points : compileRes Try.prog Try.f22.results.toList = some [.t 8, .t 9] := by kernel_rfl
theorem b_points : Try.f22.body = some (Try.f22.body.getD .skip) := by kernel_rfl
theorem n_points : (Try.f22.name == "runtime.NumGoroutine") = false := by kernel_rfl
theorem fc_points {xt : Option (List Cel)} {args : List Val} {R : List Cel → Val → Prop} (hn : (if xt.isSome then 1 else 0) + args.length ≤ Try.f22.ntmps) (h : ex Try.prog C_points [] (fpost xt [.t 8, .t 9] R) (initSt xt args)) : FC Try.prog 22 xt args R :=
  fc_of_awp Try.func22 b_points n_points c_points r_points (of_decide_eq_true (by kernel_rfl)) hn h

def A_pointsOf : List Ann := [⟨(some ⟨[0,1,3,6], [6], []⟩), [], [], [], []⟩, ⟨(some ⟨[0,1,3,6,9], [6], []⟩), [(9, 39, 4)], [], [], []⟩, ⟨(some ⟨[0,1,3,6,9,10], [6], [9]⟩), [], [], [], []⟩, ⟨(some ⟨[0,1,3,6,9,10,18], [6], [9]⟩), [], [], [], []⟩, ⟨(some ⟨[0,1,3,6,9,10,11,12], [6,11], [9]⟩), [], [], [], []⟩, ⟨(some ⟨[0,1,3,6,9,10,11,29], [6,11], [9]⟩), [], [], [], []⟩, ⟨(some ⟨[0,1,3,6,9,10], [6], [9]⟩), [], [], [], []⟩, ⟨(some ⟨[0,1,3,6,9,10], [6], [9]⟩), [], [], [], []⟩, ⟨(some ⟨[8], [], []⟩), [], [], [], []⟩]
def C_pointsOf : AC := (.seq (.reg false [⟨(some 6), none, .box (.t 2)⟩, ⟨(some 8), none, .mv (.v (.slice none 0 0))⟩] (some ⟨[0,1,3,6], [6], []⟩))
  (.seq (.seq (.reg false [⟨(some 9), none, .mv (.v (.slice none 0 0))⟩] (some ⟨[0,1,3,6,9], [6], []⟩))
  (.own 9 39 4))
  (.seq (.seq (.reg false [⟨(some 13), none, .fadr 0 (.t 6)⟩, ⟨(some 14), none, .load false 1 (.t 13)⟩, ⟨(some 10), none, .mv (.t 14)⟩] (some ⟨[0,1,3,6,9,10], [6], [9]⟩))
  (.block 0 (.loop (.seq (.seq (.reg false [⟨(some 15), none, .mv (.t 10)⟩, ⟨(some 16), none, .fadr 1 (.t 6)⟩, ⟨(some 17), none, .load false 1 (.t 16)⟩, ⟨(some 18), none, .bin .lss (.t 15) (.t 17)⟩] (some ⟨[0,1,3,6,9,10,18], [6], [9]⟩))
  (.cond (.t 18)
  .skip
  (.exit 0)))
  (.seq (.block 1 (.seq (.reg false [⟨(some 23), none, .mv (.t 0)⟩, ⟨(some 24), none, .mv (.t 1)⟩, ⟨(some 25), none, .mv (.t 10)⟩, ⟨(some 26), none, .call (.f 27) [(.t 23), (.t 24), (.t 25)]⟩, ⟨(some 22), none, .mv (.t 26)⟩, ⟨(some 27), none, .extr (.t 22) 0⟩, ⟨(some 28), none, .extr (.t 22) 1⟩, ⟨(some 11), none, .alloc [(.int .i64 (0)), (.int .i64 (0)), (.int .i64 (0)), (.int .i64 (0))]⟩, ⟨none, none, .store 4 (.t 11) (.t 27)⟩, ⟨(some 12), none, .mv (.t 28)⟩] (some ⟨[0,1,3,6,9,10,11,12], [6,11], [9]⟩))
  (.seq (.reg false [⟨(some 29), none, .mv (.t 12)⟩] (some ⟨[0,1,3,6,9,10,11,29], [6,11], [9]⟩))
  (.cond (.t 29)
  (.reg false [⟨(some 30), none, .mv (.t 9)⟩, ⟨(some 31), none, .load true 4 (.t 11)⟩, ⟨(some 32), none, .bslice 4 1 [(.t 31)]⟩, ⟨(some 33), none, .append 39 4 32 (.t 30) (.t 32)⟩, ⟨(some 9), none, .mv (.t 33)⟩] (some ⟨[0,1,3,6,9,10], [6], [9]⟩))
  .skip))))
  (.reg false [⟨(some 19), none, .mv (.t 10)⟩, ⟨(some 20), none, .mv (.t 3)⟩, ⟨(some 21), none, .bin .add (.t 19) (.t 20)⟩, ⟨(some 10), none, .mv (.t 21)⟩] (some ⟨[0,1,3,6,9,10], [6], [9]⟩)))))))
  (.seq (.reg false [⟨(some 34), none, .mv (.t 9)⟩, ⟨(some 8), none, .mv (.t 34)⟩] (some ⟨[8], [], []⟩))
  .ret))))
theorem c_pointsOf : compileCode Try.prog Try.f28.ntmps (Try.f28.body.getD .skip) A_pointsOf = some (C_pointsOf, []) := by kernel_rfl
theorem r_pointsOf : compileRes Try.prog Try.f28.results.toList = some [.t 8] := by kernel_rfl
theorem b_pointsOf : Try.f28.body = some (Try.f28.body.getD .skip) := by kernel_rfl
theorem n_pointsOf : (Try.f28.name == "runtime.NumGoroutine") = false := by kernel_rfl
theorem fc_pointsOf {xt : Option (List Cel)} {args : List Val} {R : List Cel → Val → Prop} (hn : (if xt.isSome then 1 else 0) + args.length ≤ Try.f28.ntmps) (h : ex Try.prog C_pointsOf [] (fpost xt [.t 8] R) (initSt xt args)) : FC Try.prog 28 xt args R :=
  fc_of_awp Try.func28 b_pointsOf n_pointsOf c_pointsOf r_pointsOf (of_decide_eq_true (by kernel_rfl)) hn h

def A_queried : List Ann := [⟨(some ⟨[], [], []⟩), [], [], [], []⟩, ⟨(some ⟨[1,2,3], [1], []⟩), [], [], [], []⟩, ⟨(some ⟨[0], [], []⟩), [], [], [], []⟩]
def C_queried : AC := (.seq (.reg false [⟨(some 0), none, .mv (.v (.bool false))⟩] (some ⟨[], [], []⟩))
  (.seq (.reg false [⟨(some 5), none, .build [(.int .i64 (0)), (.int .i64 (0)), (.int .i64 (0))] [(0, 1, (.v (.int .i64 (0)))), (1, 1, (.v (.int .i64 (0))))]⟩, ⟨(some 6), none, .build [(.int .i64 (0)), (.int .i64 (0)), (.int .i64 (0))] [(0, 1, (.v (.int .i64 (4)))), (1, 1, (.v (.int .i64 (2))))]⟩, ⟨(some 7), none, .bslice 3 2 [(.t 5), (.t 6)]⟩, ⟨(some 8), none, .call (.f 21) [(.t 7), (.v (.bool false)), (.v (.int .i64 (1)))]⟩, ⟨(some 4), none, .mv (.t 8)⟩, ⟨(some 9), none, .extr (.t 4) 0⟩, ⟨(some 10), none, .extr (.t 4) 1⟩, ⟨(some 11), none, .extr (.t 4) 2⟩, ⟨(some 1), none, .alloc [(.int .i64 (0)), (.int .i64 (0)), (.int .i64 (0)), (.int .i64 (0))]⟩, ⟨none, none, .store 4 (.t 1) (.t 9)⟩, ⟨(some 2), none, .mv (.t 10)⟩, ⟨(some 3), none, .mv (.t 11)⟩] (some ⟨[1,2,3], [1], []⟩))
  (.seq (.reg false [⟨(some 12), none, .mv (.t 3)⟩, ⟨(some 13), none, .bin .eql (.t 12) (.v (.int .i64 (0)))⟩, ⟨(some 14), none, .mv (.t 13)⟩, ⟨(some 15), (some (14, true)), .mv (.t 2)⟩, ⟨(some 16), none, .pick (.t 14) (.t 15) (.v (.bool false))⟩, ⟨(some 17), none, .mv (.t 16)⟩, ⟨(some 18), (some (17, true)), .load true 4 (.t 1)⟩, ⟨(some 19), (some (17, true)), .build [(.int .i64 (0)), (.int .i64 (0))] [(0, 1, (.v (.int .i64 (1)))), (1, 1, (.v (.int .i64 (2))))]⟩, ⟨(some 20), (some (17, true)), .build [(.int .i64 (0)), (.int .i64 (0)), (.int .i64 (0)), (.int .i64 (0))] [(0, 1, (.v (.int .i64 (1)))), (1, 2, (.t 19))]⟩, ⟨(some 21), (some (17, true)), .eqs false true [.i .i64, .i .i64, .i .i64, .i .i64] (.t 18) (.t 20)⟩, ⟨(some 22), none, .pick (.t 17) (.t 21) (.v (.bool false))⟩, ⟨(some 0), none, .mv (.t 22)⟩] (some ⟨[0], [], []⟩))
  .ret)))
theorem c_queried : compileCode Try.prog Try.f30.ntmps (Try.f30.body.getD .skip) A_queried = some (C_queried, []) := by kernel_rfl
theorem r_queried : compileRes Try.prog Try.f30.results.toList = some [.t 0] := by kernel_rfl
theorem b_queried : Try.f30.body = some (Try.f30.body.getD .skip) := by kernel_rfl
theorem n_queried : (Try.f30.name == "runtime.NumGoroutine") = false := by kernel_rfl
theorem fc_queried {xt : Option (List Cel)} {args : List Val} {R : List Cel → Val → Prop} (hn : (if xt.isSome then 1 else 0) + args.length ≤ Try.f30.ntmps) (h : ex Try.prog C_queried [] (fpost xt [.t 0] R) (initSt xt args)) : FC Try.prog 30 xt args R :=
  fc_of_awp Try.func30 b_queried n_queried c_queried r_queried (of_decide_eq_true (by kernel_rfl)) hn h

def A_orE : List Ann := [⟨(some ⟨[0], [], []⟩), [], [], [], []⟩, ⟨(some ⟨[0,3], [], []⟩), [], [], [], []⟩, ⟨(some ⟨[3,6,7,8], [], []⟩), [], [], [], []⟩, ⟨(some ⟨[3,6,7,8,9], [], []⟩), [], [], [], []⟩, ⟨(some ⟨[3,5,6,7,8], [], []⟩), [], [], [], []⟩, ⟨(some ⟨[3,5,6,7,8,14], [], []⟩), [], [], [], []⟩, ⟨(some ⟨[2], [], []⟩), [], [], [], []⟩, ⟨(some ⟨[3,6,7,8], [], []⟩), [], [], [], []⟩, ⟨(some ⟨[2], [], []⟩), [], [], [], []⟩]
def C_orE : AC := (.seq (.reg false [⟨(some 2), none, .mv (.v (.int .i64 (0)))⟩] (some ⟨[0], [], []⟩))
  (.seq (.reg false [⟨(some 3), none, .mv (.v (.int .i64 (0)))⟩] (some ⟨[0,3], [], []⟩))
  (.seq (.seq (.reg false [⟨(some 6), none, .mv (.t 0)⟩, ⟨(some 7), none, .len (.t 6)⟩, ⟨(some 8), none, .mv (.v (.int .i64 (0)))⟩] (some ⟨[3,6,7,8], [], []⟩))
  (.block 0 (.loop (.seq (.reg false [⟨(some 9), none, .bin .lss (.t 8) (.t 7)⟩] (some ⟨[3,6,7,8,9], [], []⟩))
  (.seq (.cond (.t 9)
  .skip
  (.exit 0))
  (.seq (.block 1 (.seq (.reg false [⟨(some 10), none, .iadr 1 (.t 6) (.t 8)⟩, ⟨(some 11), none, .load false 1 (.t 10)⟩, ⟨(some 5), none, .mv (.t 11)⟩] (some ⟨[3,5,6,7,8], [], []⟩))
  (.seq (.reg false [⟨(some 12), none, .mv (.t 5)⟩, ⟨(some 13), none, .mv (.t 3)⟩, ⟨(some 14), none, .bin .neq (.t 12) (.t 13)⟩] (some ⟨[3,5,6,7,8,14], [], []⟩))
  (.cond (.t 14)
  (.seq (.reg false [⟨(some 15), none, .mv (.t 5)⟩, ⟨(some 2), none, .mv (.t 15)⟩] (some ⟨[2], [], []⟩))
  .ret)
  .skip))))
  (.reg false [⟨(some 16), none, .bin .add (.t 8) (.v (.int .i64 (1)))⟩, ⟨(some 8), none, .mv (.t 16)⟩] (some ⟨[3,6,7,8], [], []⟩))))))))
  (.seq (.reg false [⟨(some 17), none, .mv (.t 3)⟩, ⟨(some 2), none, .mv (.t 17)⟩] (some ⟨[2], [], []⟩))
  .ret))))
theorem c_orE : compileCode Try.prog Try.f23.ntmps (Try.f23.body.getD .skip) A_orE = some (C_orE, []) := by kernel_rfl
theorem r_orE : compileRes Try.prog Try.f23.results.toList = some [.t 2] := by kernel_rfl
theorem b_orE : Try.f23.body = some (Try.f23.body.getD .skip) := by kernel_rfl
theorem n_orE : (Try.f23.name == "runtime.NumGoroutine") = false := by kernel_rfl
theorem fc_orE {xt : Option (List Cel)} {args : List Val} {R : List Cel → Val → Prop} (hn : (if xt.isSome then 1 else 0) + args.length ≤ Try.f23.ntmps) (h : ex Try.prog C_orE [] (fpost xt [.t 2] R) (initSt xt args)) : FC Try.prog 23 xt args R :=
  fc_of_awp Try.func23 b_orE n_orE c_orE r_orE (of_decide_eq_true (by kernel_rfl)) hn h

def A_eqPt : List Ann := [⟨(some ⟨[0,1], [], []⟩), [], [], [], []⟩, ⟨(some ⟨[0,1,10], [], []⟩), [], [], [], []⟩, ⟨(some ⟨[4], [], []⟩), [], [], [], []⟩, ⟨(some ⟨[0,1,12,13], [], []⟩), [], [], [], []⟩, ⟨(some ⟨[0,1,12,13,14], [], []⟩), [], [], [], []⟩, ⟨(some ⟨[0,1,5,12,13], [], []⟩), [], [], [], []⟩, ⟨(some ⟨[0,1,12,13,24], [], []⟩), [], [], [], []⟩, ⟨(some ⟨[4], [], []⟩), [], [], [], []⟩, ⟨(some ⟨[0,1,12,13], [], []⟩), [], [], [], []⟩, ⟨(some ⟨[4], [], []⟩), [], [], [], []⟩]
def C_eqPt : AC := (.seq (.reg false [⟨(some 4), none, .mv (.v (.bool false))⟩] (some ⟨[0,1], [], []⟩))
  (.seq (.seq (.reg false [⟨(some 6), none, .mv (.t 0)⟩, ⟨(some 7), none, .len (.t 6)⟩, ⟨(some 8), none, .mv (.t 1)⟩, ⟨(some 9), none, .len (.t 8)⟩, ⟨(some 10), none, .bin .neq (.t 7) (.t 9)⟩] (some ⟨[0,1,10], [], []⟩))
  (.cond (.t 10)
  (.seq (.reg false [⟨(some 4), none, .mv (.v (.bool false))⟩] (some ⟨[4], [], []⟩))
  .ret)
  .skip))
  (.seq (.seq (.reg false [⟨(some 11), none, .mv (.t 0)⟩, ⟨(some 12), none, .len (.t 11)⟩, ⟨(some 13), none, .mv (.v (.int .i64 (0)))⟩] (some ⟨[0,1,12,13], [], []⟩))
  (.block 0 (.loop (.seq (.reg false [⟨(some 14), none, .bin .lss (.t 13) (.t 12)⟩] (some ⟨[0,1,12,13,14], [], []⟩))
  (.seq (.cond (.t 14)
  .skip
  (.exit 0))
  (.seq (.block 1 (.seq (.reg false [⟨(some 15), none, .mv (.t 13)⟩, ⟨(some 5), none, .mv (.t 15)⟩] (some ⟨[0,1,5,12,13], [], []⟩))
  (.seq (.reg true [⟨(some 16), none, .mv (.t 0)⟩, ⟨(some 17), none, .mv (.t 5)⟩, ⟨(some 18), none, .iadr 4 (.t 16) (.t 17)⟩, ⟨(some 19), none, .load true 4 (.t 18)⟩, ⟨(some 20), none, .mv (.t 1)⟩, ⟨(some 21), none, .mv (.t 5)⟩, ⟨(some 22), none, .iadr 4 (.t 20) (.t 21)⟩, ⟨(some 23), none, .load true 4 (.t 22)⟩, ⟨(some 24), none, .eqs true true [.i .i64, .i .i64, .i .i64, .i .i64] (.t 19) (.t 23)⟩] (some ⟨[0,1,12,13,24], [], []⟩))
  (.cond (.t 24)
  (.seq (.reg false [⟨(some 4), none, .mv (.v (.bool false))⟩] (some ⟨[4], [], []⟩))
  .ret)
  .skip))))
  (.reg false [⟨(some 25), none, .bin .add (.t 13) (.v (.int .i64 (1)))⟩, ⟨(some 13), none, .mv (.t 25)⟩] (some ⟨[0,1,12,13], [], []⟩))))))))
  (.seq (.reg false [⟨(some 4), none, .mv (.v (.bool true))⟩] (some ⟨[4], [], []⟩))
  .ret))))
theorem c_eqPt : compileCode Try.prog Try.f29.ntmps (Try.f29.body.getD .skip) A_eqPt = some (C_eqPt, []) := by kernel_rfl
theorem r_eqPt : compileRes Try.prog Try.f29.results.toList = some [.t 4] := by kernel_rfl
theorem b_eqPt : Try.f29.body = some (Try.f29.body.getD .skip) := by kernel_rfl
theorem n_eqPt : (Try.f29.name == "runtime.NumGoroutine") = false := by kernel_rfl
theorem fc_eqPt {xt : Option (List Cel)} {args : List Val} {R : List Cel → Val → Prop} (hn : (if xt.isSome then 1 else 0) + args.length ≤ Try.f29.ntmps) (h : ex Try.prog C_eqPt [] (fpost xt [.t 4] R) (initSt xt args)) : FC Try.prog 29 xt args R :=
  fc_of_awp Try.func29 b_eqPt n_eqPt c_eqPt r_eqPt (of_decide_eq_true (by kernel_rfl)) hn h

def A_vb : List Ann := [⟨(some ⟨[0], [], []⟩), [], [], [], []⟩, ⟨(some ⟨[3,22], [22], []⟩), [], [], [], []⟩, ⟨(some ⟨[4,5,6,7,8], [7], []⟩), [], [], [], []⟩, ⟨(some ⟨[4,5,6,7,8,9], [7], []⟩), [], [], [], []⟩, ⟨(some ⟨[4,5,6,7,8,9,10,11,12], [7,10], []⟩), [], [], [], []⟩, ⟨(some ⟨[4,5,6,7,8,9,10,11,12,13,14], [7,10], []⟩), [], [], [], []⟩, ⟨(some ⟨[4,5,6,7,8,10,11,12,13,14,15,16], [7,10], []⟩), [], [], [], []⟩, ⟨(some ⟨[4,5,6,7,8,10,11,12,13,14,15,16,63], [7,10], []⟩), [], [], [], []⟩, ⟨(some ⟨[4,5,6,7,8,10,11,12,13,14,15,16], [7,10], []⟩), [], [], [], []⟩, ⟨(some ⟨[4,5,6,7,8,10,11,12,13,14,15,16,17], [7,10,17], []⟩), [], [], [], []⟩, ⟨(some ⟨[4,5,6,7,8,10,11,12,13,14,15,16,17,18], [7,10,17], []⟩), [], [], [(18, 4)], []⟩, ⟨(some ⟨[4,5,6,7,8,10,11,12,13,14,15,16,17,18,19], [7,10,17], []⟩), [], [], [], []⟩, ⟨(some ⟨[4,5,6,7,8,10,11,12,13,14,15,16,17,18,19,68], [7,10,17], []⟩), [], [], [], []⟩, ⟨(some ⟨[4,5,7,8,10,11,12,13,14,15,16,17,18,19], [7,10,17], []⟩), [], [], [], []⟩, ⟨(some ⟨[4,5,7,8,10,11,12,13,14,15,16,17,18,19,77], [7,10,17], []⟩), [], [], [], []⟩, ⟨(some ⟨[10,11,12,13,14,15,16,17,18,19], [10,17], []⟩), [], [], [], []⟩, ⟨(some ⟨[2], [], []⟩), [], [], [], []⟩]
def C_vb : AC := (.seq (.reg false [⟨(some 2), none, .mv (.v (.bool false))⟩] (some ⟨[0], [], []⟩))
  (.seq (.reg false [⟨(some 20), none, .mv (.t 0)⟩, ⟨(some 21), none, .build [(.slice none 0 0), (.int .i64 (0))] [(0, 1, (.t 20))]⟩, ⟨(some 22), none, .box (.t 21)⟩, ⟨(some 3), none, .mv (.t 22)⟩] (some ⟨[3,22], [22], []⟩))
  (.seq (.reg false [⟨(some 23), none, .mv (.t 3)⟩, ⟨(some 24), none, .callx (.f 15) [(.t 23), (.v (.int .i64 (9)))]⟩, ⟨(some 25), none, .mv (.t 3)⟩, ⟨(some 26), none, .callx (.f 16) [(.t 25), (.v (.int .i64 (2)))]⟩, ⟨(some 27), none, .mv (.t 3)⟩, ⟨(some 28), none, .callx (.f 17) [(.t 27)]⟩, ⟨(some 29), none, .mv (.t 3)⟩, ⟨(some 30), none, .callx (.f 18) [(.t 29)]⟩, ⟨(some 31), none, .mv (.t 3)⟩, ⟨(some 32), none, .bslice 1 6 [(.v (.int .i64 (1))), (.v (.int .i64 (3))), (.v (.int .i64 (10))), (.v (.int .i64 (50))), (.v (.int .i64 (0))), (.v (.int .i64 (86400001)))]⟩, ⟨(some 33), none, .callx (.f 19) [(.t 31), (.t 32)]⟩, ⟨(some 7), none, .alloc [(.int .i64 (0)), (.int .i64 (0))]⟩, ⟨(some 4), none, .mv (.t 24)⟩, ⟨(some 5), none, .mv (.t 26)⟩, ⟨(some 6), none, .mv (.t 28)⟩, ⟨none, none, .store 2 (.t 7) (.t 30)⟩, ⟨(some 8), none, .mv (.t 33)⟩] (some ⟨[4,5,6,7,8], [7], []⟩))
  (.seq (.reg false [⟨(some 34), none, .mv (.t 4)⟩, ⟨(some 35), none, .call (.f 20) [(.t 34)]⟩, ⟨(some 9), none, .mv (.t 35)⟩] (some ⟨[4,5,6,7,8,9], [7], []⟩))
  (.seq (.reg false [⟨(some 37), none, .mv (.t 4)⟩, ⟨(some 38), none, .mv (.t 5)⟩, ⟨(some 39), none, .mv (.t 6)⟩, ⟨(some 40), none, .call (.f 21) [(.t 37), (.t 38), (.t 39)]⟩, ⟨(some 36), none, .mv (.t 40)⟩, ⟨(some 41), none, .extr (.t 36) 0⟩, ⟨(some 42), none, .extr (.t 36) 1⟩, ⟨(some 43), none, .extr (.t 36) 2⟩, ⟨(some 10), none, .alloc [(.int .i64 (0)), (.int .i64 (0)), (.int .i64 (0)), (.int .i64 (0))]⟩, ⟨none, none, .store 4 (.t 10) (.t 41)⟩, ⟨(some 11), none, .mv (.t 42)⟩, ⟨(some 12), none, .mv (.t 43)⟩] (some ⟨[4,5,6,7,8,9,10,11,12], [7,10], []⟩))
  (.seq (.reg false [⟨(some 45), none, .mv (.t 4)⟩, ⟨(some 46), none, .mv (.t 5)⟩, ⟨(some 47), none, .load true 2 (.t 7)⟩, ⟨(some 48), none, .mv (.t 8)⟩, ⟨(some 49), none, .call (.f 22) [(.t 45), (.t 46), (.t 47), (.t 48)]⟩, ⟨(some 44), none, .mv (.t 49)⟩, ⟨(some 50), none, .extr (.t 44) 0⟩, ⟨(some 51), none, .extr (.t 44) 1⟩, ⟨(some 13), none, .mv (.t 50)⟩, ⟨(some 14), none, .mv (.t 51)⟩] (some ⟨[4,5,6,7,8,9,10,11,12,13,14], [7,10], []⟩))
  (.seq (.reg true [⟨(some 52), none, .mv (.t 9)⟩, ⟨(some 53), none, .mv (.t 6)⟩, ⟨(some 54), none, .call (.f 24) [(.t 53)]⟩, ⟨(some 55), none, .bslice 1 2 [(.t 52), (.t 54)]⟩, ⟨(some 56), none, .call (.f 23) [(.t 55)]⟩, ⟨(some 57), none, .mv (.t 9)⟩, ⟨(some 58), none, .load true 2 (.t 7)⟩, ⟨(some 59), none, .call (.f 25) [(.t 58)]⟩, ⟨(some 60), none, .bslice 1 2 [(.t 57), (.t 59)]⟩, ⟨(some 61), none, .call (.f 23) [(.t 60)]⟩, ⟨(some 15), none, .mv (.t 56)⟩, ⟨(some 16), none, .mv (.t 61)⟩] (some ⟨[4,5,6,7,8,10,11,12,13,14,15,16], [7,10], []⟩))
  (.seq (.seq (.reg false [⟨(some 62), none, .mv (.t 16)⟩, ⟨(some 63), none, .bin .eql (.t 62) (.v (.int .i64 (0)))⟩] (some ⟨[4,5,6,7,8,10,11,12,13,14,15,16,63], [7,10], []⟩))
  (.cond (.t 63)
  (.reg false [⟨(some 64), none, .load true 2 (.t 7)⟩, ⟨(some 65), none, .mv (.t 8)⟩, ⟨(some 66), none, .call (.f 26) [(.t 64), (.t 65)]⟩, ⟨(some 16), none, .mv (.t 66)⟩] (some ⟨[4,5,6,7,8,10,11,12,13,14,15,16], [7,10], []⟩))
  .skip))
  (.seq (.reg false [⟨(some 17), none, .alloc [(.int .i64 (0)), (.int .i64 (0)), (.int .i64 (0)), (.int .i64 (0))]⟩] (some ⟨[4,5,6,7,8,10,11,12,13,14,15,16,17], [7,10,17], []⟩))
  (.seq (.seq (.reg false [⟨(some 18), none, .mv (.v (.slice none 0 0))⟩] (some ⟨[4,5,6,7,8,10,11,12,13,14,15,16,17,18], [7,10,17], []⟩))
  (.ty 18 4))
  (.seq (.reg false [⟨(some 19), none, .mv (.v (.bool false))⟩] (some ⟨[4,5,6,7,8,10,11,12,13,14,15,16,17,18,19], [7,10,17], []⟩))
  (.seq (.seq (.reg false [⟨(some 67), none, .mv (.t 15)⟩, ⟨(some 68), none, .bin .eql (.t 67) (.v (.int .i64 (0)))⟩] (some ⟨[4,5,6,7,8,10,11,12,13,14,15,16,17,18,19,68], [7,10,17], []⟩))
  (.cond (.t 68)
  (.reg false [⟨(some 70), none, .mv (.t 4)⟩, ⟨(some 71), none, .mv (.t 5)⟩, ⟨(some 72), none, .mv (.t 6)⟩, ⟨(some 73), none, .call (.f 27) [(.t 70), (.t 71), (.t 72)]⟩, ⟨(some 69), none, .mv (.t 73)⟩, ⟨(some 74), none, .extr (.t 69) 0⟩, ⟨(some 75), none, .extr (.t 69) 1⟩, ⟨none, none, .store 4 (.t 17) (.t 74)⟩, ⟨(some 19), none, .mv (.t 75)⟩] (some ⟨[4,5,7,8,10,11,12,13,14,15,16,17,18,19], [7,10,17], []⟩))
  .skip))
  (.seq (.seq (.reg false [⟨(some 76), none, .mv (.t 16)⟩, ⟨(some 77), none, .bin .eql (.t 76) (.v (.int .i64 (0)))⟩] (some ⟨[4,5,7,8,10,11,12,13,14,15,16,17,18,19,77], [7,10,17], []⟩))
  (.cond (.t 77)
  (.reg false [⟨(some 78), none, .mv (.t 4)⟩, ⟨(some 79), none, .mv (.t 5)⟩, ⟨(some 80), none, .load true 2 (.t 7)⟩, ⟨(some 81), none, .mv (.t 8)⟩, ⟨(some 82), none, .call (.f 28) [(.t 78), (.t 79), (.t 80), (.t 81)]⟩, ⟨(some 18), none, .mv (.t 82)⟩] (some ⟨[10,11,12,13,14,15,16,17,18,19], [10,17], []⟩))
  .skip))
  (.seq (.reg false [⟨(some 83), none, .mv (.t 12)⟩, ⟨(some 84), none, .mv (.t 15)⟩, ⟨(some 85), none, .bin .eql (.t 83) (.t 84)⟩, ⟨(some 86), none, .mv (.t 85)⟩, ⟨(some 87), (some (86, true)), .load true 4 (.t 10)⟩, ⟨(some 88), (some (86, true)), .load true 4 (.t 17)⟩, ⟨(some 89), (some (86, true)), .eqs false true [.i .i64, .i .i64, .i .i64, .i .i64] (.t 87) (.t 88)⟩, ⟨(some 90), none, .pick (.t 86) (.t 89) (.v (.bool false))⟩, ⟨(some 91), none, .mv (.t 90)⟩, ⟨(some 92), (some (91, true)), .mv (.t 11)⟩, ⟨(some 93), (some (91, true)), .mv (.t 19)⟩, ⟨(some 94), (some (91, true)), .eqs false false [.b] (.t 92) (.t 93)⟩, ⟨(some 95), none, .pick (.t 91) (.t 94) (.v (.bool false))⟩, ⟨(some 96), none, .mv (.t 95)⟩, ⟨(some 97), (some (96, true)), .mv (.t 14)⟩, ⟨(some 98), (some (96, true)), .mv (.t 16)⟩, ⟨(some 99), (some (96, true)), .bin .eql (.t 97) (.t 98)⟩, ⟨(some 100), none, .pick (.t 96) (.t 99) (.v (.bool false))⟩, ⟨(some 101), none, .mv (.t 100)⟩, ⟨(some 102), (some (101, true)), .mv (.t 13)⟩, ⟨(some 103), (some (101, true)), .mv (.t 18)⟩, ⟨(some 104), (some (101, true)), .call (.f 29) [(.t 102), (.t 103)]⟩, ⟨(some 105), none, .pick (.t 101) (.t 104) (.v (.bool false))⟩, ⟨(some 106), none, .mv (.t 105)⟩, ⟨(some 107), (some (106, true)), .call (.f 30) []⟩, ⟨(some 108), none, .pick (.t 106) (.t 107) (.v (.bool false))⟩, ⟨(some 2), none, .mv (.t 108)⟩] (some ⟨[2], [], []⟩))
  .ret))))))))))))))
theorem c_vb : compileCode Try.prog Try.f3.ntmps (Try.f3.body.getD .skip) A_vb = some (C_vb, []) := by kernel_rfl
theorem r_vb : compileRes Try.prog Try.f3.results.toList = some [.t 2] := by kernel_rfl
theorem b_vb : Try.f3.body = some (Try.f3.body.getD .skip) := by kernel_rfl
theorem n_vb : (Try.f3.name == "runtime.NumGoroutine") = false := by kernel_rfl
theorem fc_vb {xt : Option (List Cel)} {args : List Val} {R : List Cel → Val → Prop} (hn : (if xt.isSome then 1 else 0) + args.length ≤ Try.f3.ntmps) (h : ex Try.prog C_vb [] (fpost xt [.t 2] R) (initSt xt args)) : FC Try.prog 3 xt args R :=
  fc_of_awp Try.func3 b_vb n_vb c_vb r_vb (of_decide_eq_true (by kernel_rfl)) hn h



def vaSp (l : List Smp) (st : Bool) (at_ : Int) : Pt × Bool × Int :=
  if serFault l ≠ 0 then (ptZ, false, serFault l) else if momFault at_ ≠ 0 then (ptZ, false, 1) else ((valSp l st at_).1, (valSp l st at_).2, 0)
theorem momFault_ok {n : Int} (h : momFault n = 0) : 0 ≤ n ∧ n ≤ 345686399999 := by
  unfold momFault at h; split at h <;> omega
theorem momFault_01 (n : Int) : momFault n = 0 ∨ momFault n = 1 := by
  unfold momFault; split <;> omega
theorem bvalueAt_fc (l : List Smp) (hl : l.length ≤ 4611686018427387904) (st : Bool) (at_ : Int) : FC Try.prog 21 none [smps false l, bv st, iv at_] (fun _ r => r = .tu [ptV (vaSp l st at_).1, bv (vaSp l st at_).2.1, iv (vaSp l st at_).2.2]) := by
  refine fc_bvalueAt (by simp +arith) ?_
  unfold C_bvalueAt
  simp (maxSteps := 1000000) (disch := omega) only [go_sem, eq_self, decide_true, decide_false, not_true_eq_false, not_false_eq_true, reduceIte, reduceCtorEq, Nat.reduceEqDiff, Nat.reduceAdd, Nat.reduceSub, Nat.reduceLeDiff]
  refine CALL_det (checkSeries_fc l hl) (.inl rfl) ?_
  by_cases h1 : serFault l = 0
  · simp (maxSteps := 1000000) (disch := omega) only [go_sem, eq_self, decide_true, decide_false, not_true_eq_false, not_false_eq_true, reduceIte, reduceCtorEq, Nat.reduceEqDiff, Nat.reduceAdd, Nat.reduceSub, Nat.reduceLeDiff]
    refine CALL_det (moment_fc at_) (.inl rfl) ?_
    have hg := good_of h1
    by_cases h2 : momFault at_ = 0
    · have h3 := momFault_ok h2
      simp (maxSteps := 1000000) (disch := omega) only [go_sem, eq_self, decide_true, decide_false, not_true_eq_false, not_false_eq_true, reduceIte, reduceCtorEq, Nat.reduceEqDiff, Nat.reduceAdd, Nat.reduceSub, Nat.reduceLeDiff]
      refine CALL_det (valueAt_fc l st at_ hg ⟨h3.1, by omega⟩) (.inl rfl) ?_
      simp (maxSteps := 1000000) (disch := omega) only [go_sem, eq_self, decide_true, decide_false, not_true_eq_false, not_false_eq_true, reduceIte, reduceCtorEq, Nat.reduceEqDiff, Nat.reduceAdd, Nat.reduceSub, Nat.reduceLeDiff]
      simp only [vaSp, h1, h2]; rfl
    · have h3 : ¬(0 ≤ at_ ∧ at_ ≤ 345686399999) := fun h => h2 (by unfold momFault; rw [if_pos h])
      simp (maxSteps := 1000000) (disch := omega) only [go_sem, eq_self, decide_true, decide_false, not_true_eq_false, not_false_eq_true, reduceIte, reduceCtorEq, Nat.reduceEqDiff, Nat.reduceAdd, Nat.reduceSub, Nat.reduceLeDiff]
      have e : vaSp l st at_ = (ptZ, false, 1) := by simp [vaSp, h1, h2]
      rw [e]; rfl
  · simp (maxSteps := 1000000) (disch := omega) only [go_sem, eq_self, decide_true, decide_false, not_true_eq_false, not_false_eq_true, reduceIte, reduceCtorEq, Nat.reduceEqDiff, Nat.reduceAdd, Nat.reduceSub, Nat.reduceLeDiff]
    have e : vaSp l st at_ = (ptZ, false, serFault l) := by simp [vaSp, h1]
    rw [e]; rfl
def ptsGo (l : List Smp) (st : Bool) (ev to : Int) : Nat → Int → List Pt
  | 0, _ => []
  | n + 1, a => if a < to then (if (valSp l st a).2 then [(valSp l st a).1] else []) ++ ptsGo l st ev to n (a + ev) else []
theorem ptsGo_fuel (l : List Smp) (st : Bool) (ev to : Int) (he : 1 ≤ ev) : ∀ (n m : Nat) (a : Int), (to - a).toNat ≤ n → (to - a).toNat ≤ m → ptsGo l st ev to n a = ptsGo l st ev to m a
  | 0, 0, _, _, _ => rfl
  | 0, m + 1, a, h, _ => by rw [ptsGo, ptsGo, if_neg (by omega)]
  | n + 1, 0, a, _, h => by rw [ptsGo, ptsGo, if_neg (by omega)]
  | n + 1, m + 1, a, h, h' => by
    rw [ptsGo, ptsGo]
    by_cases ha : a < to
    · rw [if_pos ha, if_pos ha, ptsGo_fuel l st ev to he n m (a + ev) (by omega) (by omega)]
    · rw [if_neg ha, if_neg ha]
/-- The values at a window's equal distances. -/
def pts (l : List Smp) (st : Bool) (f t ev : Int) : List Pt := ptsGo l st ev t (t - f).toNat f
theorem pts_step (l : List Smp) (st : Bool) (ev to a : Int) (he : 1 ≤ ev) (h : a < to) : pts l st a to ev = (if (valSp l st a).2 then [(valSp l st a).1] else []) ++ pts l st (a + ev) to ev := by
  unfold pts
  obtain ⟨n, hn⟩ : ∃ n, (to - a).toNat = n + 1 := ⟨(to - a).toNat - 1, by omega⟩
  rw [hn, ptsGo, if_pos h]
  congr 1
  exact ptsGo_fuel l st ev to he _ _ _ (by omega) (by omega)
theorem pts_end (l : List Smp) (st : Bool) (ev to a : Int) (h : ¬ a < to) : pts l st a to ev = [] := by
  unfold pts
  have : (to - a).toNat = 0 := by omega
  rw [this, ptsGo]
abbrev ptsV (fr : Bool) (l : List Pt) : Val := .one (.sl fr 4 (l.map ptC))
def ptsFault (l : List Smp) (f t ev : Int) : Int := if bothFault l f t ≠ 0 then bothFault l f t else evFault f t ev
def pntSt (l : List Smp) (st : Bool) (f t ev : Int) (x : Int × List Pt) : AS := ⟨tabV [(0, smps false l), (1, bv st), (3, iv ev), (6, .one (.bx 6 0)), (12, .one (.ow 12 0)), (13, iv x.1)], tabO [(6, [.g (.int .i64 f), .g (.int .i64 t)])], tabO [(12, ⟨0, 39, 4, x.2.map ptC⟩)]⟩
theorem bothFault_ok {l : List Smp} {f t : Int} (h : bothFault l f t = 0) : serFault l = 0 ∧ winFault f t = 0 := by
  unfold bothFault at h; split at h <;> omega
theorem winFault_ok {f t : Int} (h : winFault f t = 0) : 0 ≤ f ∧ f ≤ t ∧ t ≤ 345686400000 := by
  unfold winFault at h; split at h <;> omega
theorem evFault_ok {f t e : Int} (h : evFault f t e = 0) : 1 ≤ e ∧ e ≤ 86400000 := by
  unfold evFault at h; split at h <;> omega
theorem points_fc (l : List Smp) (hl : l.length ≤ 4611686018427387904) (st : Bool) (f t ev : Int) : FC Try.prog 22 none [smps false l, bv st, winV f t, iv ev] (fun _ r => r = .tu [ptsV true (if ptsFault l f t ev = 0 then pts l st f t ev else []), iv (ptsFault l f t ev)]) := by
  refine fc_points (by simp +arith) ?_
  unfold C_points
  simp (maxSteps := 1000000) (disch := omega) only [go_sem, eq_self, decide_true, decide_false, not_true_eq_false, not_false_eq_true, reduceIte, reduceCtorEq, Nat.reduceEqDiff, Nat.reduceAdd, Nat.reduceSub, Nat.reduceLeDiff]
  refine CALL_det (fault_fc l hl f t) (.inl rfl) ?_
  by_cases h1 : bothFault l f t = 0
  · simp (maxSteps := 1000000) (disch := omega) only [go_sem, eq_self, decide_true, decide_false, not_true_eq_false, not_false_eq_true, reduceIte, reduceCtorEq, Nat.reduceEqDiff, Nat.reduceAdd, Nat.reduceSub, Nat.reduceLeDiff]
    obtain ⟨h2, h3⟩ := bothFault_ok h1
    have hg := good_of h2
    have hw := winFault_ok h3
    refine CALL_det (everyFault_fc f t ev h3) (.inl rfl) ?_
    by_cases h4 : evFault f t ev = 0
    · have he := evFault_ok h4
      have h5 : ptsFault l f t ev = 0 := by unfold ptsFault; rw [if_neg (by omega), h4]
      rw [h5, if_pos rfl]
      simp (maxSteps := 1000000) (disch := omega) only [go_sem, eq_self, decide_true, decide_false, not_true_eq_false, not_false_eq_true, reduceIte, reduceCtorEq, Nat.reduceEqDiff, Nat.reduceAdd, Nat.reduceSub, Nat.reduceLeDiff]
      refine ex_loopI (pntSt l st f t ev) (fun x => f ≤ x.1 ∧ x.1 ≤ t + ev ∧ x.2.length ≤ x.1 - f ∧ x.2 ++ pts l st x.1 t ev = pts l st f t ev) (fun x => (t - x.1).toNat) (f, []) ⟨by simp, by simp only; omega, by simp, by simp⟩ rfl ?_
      rintro ⟨a, acc⟩ ⟨g1, g2, g3, g4⟩
      simp only at g1 g2 g3 g4
      unfold pntSt
      by_cases ha : a < t
      · rw [pts_step l st ev t a (by omega) ha] at g4
        simp (maxSteps := 1000000) (disch := omega) only [go_sem, eq_self, decide_true, decide_false, not_true_eq_false, not_false_eq_true, reduceIte, reduceCtorEq, Nat.reduceEqDiff, Nat.reduceAdd, Nat.reduceSub, Nat.reduceLeDiff]
        refine CALL_det (valueAt_fc l st a hg ⟨by omega, by omega⟩) (.inl rfl) ?_
        cases hb : (valSp l st a).2 with
        | true =>
          simp (maxSteps := 1000000) (disch := omega) only [go_sem, eq_self, decide_true, decide_false, not_true_eq_false, not_false_eq_true, reduceIte, reduceCtorEq, Nat.reduceEqDiff, Nat.reduceAdd, Nat.reduceSub, Nat.reduceLeDiff]
          rw [hb] at g4
          refine ⟨(a + ev, acc ++ [(valSp l st a).1]), ⟨by simp only; omega, by simp only; omega, by simp; omega, by simpa using g4⟩, by simp [pntSt, ptC], by simp only; omega⟩
        | false =>
          simp (maxSteps := 1000000) (disch := omega) only [go_sem, eq_self, decide_true, decide_false, not_true_eq_false, not_false_eq_true, reduceIte, reduceCtorEq, Nat.reduceEqDiff, Nat.reduceAdd, Nat.reduceSub, Nat.reduceLeDiff]
          rw [hb] at g4
          exact ⟨(a + ev, acc), ⟨by simp only; omega, by simp only; omega, by simp only; omega, by simpa using g4⟩, rfl, by simp only; omega⟩
      · simp (maxSteps := 1000000) (disch := omega) only [go_sem, eq_self, decide_true, decide_false, not_true_eq_false, not_false_eq_true, reduceIte, reduceCtorEq, Nat.reduceEqDiff, Nat.reduceAdd, Nat.reduceSub, Nat.reduceLeDiff]
        rw [pts_end l st ev t a ha, List.append_nil] at g4
        rw [g4]
    · have h5 : ptsFault l f t ev = evFault f t ev := by unfold ptsFault; rw [if_neg (by omega)]
      simp (maxSteps := 1000000) (disch := omega) only [go_sem, eq_self, decide_true, decide_false, not_true_eq_false, not_false_eq_true, reduceIte, reduceCtorEq, Nat.reduceEqDiff, Nat.reduceAdd, Nat.reduceSub, Nat.reduceLeDiff]
      rw [h5, if_neg h4]; rfl
  · simp (maxSteps := 1000000) (disch := omega) only [go_sem, eq_self, decide_true, decide_false, not_true_eq_false, not_false_eq_true, reduceIte, reduceCtorEq, Nat.reduceEqDiff, Nat.reduceAdd, Nat.reduceSub, Nat.reduceLeDiff]
    have h5 : ptsFault l f t ev = bothFault l f t := by unfold ptsFault; rw [if_pos h1]
    rw [h5, if_neg h1]; rfl
def pntOfSt (l : List Smp) (st : Bool) (f t ev : Int) (x : Int × List Pt) : AS := ⟨tabV [(0, smps false l), (1, bv st), (3, iv ev), (6, .one (.bx 6 0)), (9, .one (.ow 9 0)), (10, iv x.1)], tabO [(6, [.g (.int .i64 f), .g (.int .i64 t)])], tabO [(9, ⟨0, 39, 4, x.2.map ptC⟩)]⟩
theorem pointsOf_fc (l : List Smp) (hg : Good l) (st : Bool) (f t ev : Int) (hw : 0 ≤ f ∧ f ≤ t ∧ t ≤ 345686400000) (he : 1 ≤ ev ∧ ev ≤ 86400000) : FC Try.prog 28 none [smps false l, bv st, winV f t, iv ev] (fun _ r => r = ptsV true (pts l st f t ev)) := by
  refine fc_pointsOf (by simp +arith) ?_
  unfold C_pointsOf
  simp (maxSteps := 1000000) (disch := omega) only [go_sem, eq_self, decide_true, decide_false, not_true_eq_false, not_false_eq_true, reduceIte, reduceCtorEq, Nat.reduceEqDiff, Nat.reduceAdd, Nat.reduceSub, Nat.reduceLeDiff]
  refine ex_loopI (pntOfSt l st f t ev) (fun x => f ≤ x.1 ∧ x.1 ≤ t + ev ∧ x.2.length ≤ x.1 - f ∧ x.2 ++ pts l st x.1 t ev = pts l st f t ev) (fun x => (t - x.1).toNat) (f, []) ⟨by simp, by simp only; omega, by simp, by simp⟩ rfl ?_
  rintro ⟨a, acc⟩ ⟨g1, g2, g3, g4⟩
  simp only at g1 g2 g3 g4
  unfold pntOfSt
  by_cases ha : a < t
  · rw [pts_step l st ev t a (by omega) ha] at g4
    simp (maxSteps := 1000000) (disch := omega) only [go_sem, eq_self, decide_true, decide_false, not_true_eq_false, not_false_eq_true, reduceIte, reduceCtorEq, Nat.reduceEqDiff, Nat.reduceAdd, Nat.reduceSub, Nat.reduceLeDiff]
    refine CALL_det (valueOf_fc l st a hg ⟨by omega, by omega⟩) (.inl rfl) ?_
    cases hb : (valSp l st a).2 with
    | true =>
      simp (maxSteps := 1000000) (disch := omega) only [go_sem, eq_self, decide_true, decide_false, not_true_eq_false, not_false_eq_true, reduceIte, reduceCtorEq, Nat.reduceEqDiff, Nat.reduceAdd, Nat.reduceSub, Nat.reduceLeDiff]
      rw [hb] at g4
      refine ⟨(a + ev, acc ++ [(valSp l st a).1]), ⟨by simp only; omega, by simp only; omega, by simp; omega, by simpa using g4⟩, by simp [pntOfSt, ptC], by simp only; omega⟩
    | false =>
      simp (maxSteps := 1000000) (disch := omega) only [go_sem, eq_self, decide_true, decide_false, not_true_eq_false, not_false_eq_true, reduceIte, reduceCtorEq, Nat.reduceEqDiff, Nat.reduceAdd, Nat.reduceSub, Nat.reduceLeDiff]
      rw [hb] at g4
      exact ⟨(a + ev, acc), ⟨by simp only; omega, by simp only; omega, by simp only; omega, by simpa using g4⟩, rfl, by simp only; omega⟩
  · simp (maxSteps := 1000000) (disch := omega) only [go_sem, eq_self, decide_true, decide_false, not_true_eq_false, not_false_eq_true, reduceIte, reduceCtorEq, Nat.reduceEqDiff, Nat.reduceAdd, Nat.reduceSub, Nat.reduceLeDiff]
    rw [pts_end l st ev t a ha, List.append_nil] at g4
    rw [g4]
theorem queried_fc : FC Try.prog 30 none [] (fun _ r => r = bv true) := by
  refine fc_queried (by simp +arith) ?_
  unfold C_queried
  simp (maxSteps := 1000000) (disch := omega) only [go_sem, eq_self, decide_true, decide_false, not_true_eq_false, not_false_eq_true, reduceIte, reduceCtorEq, Nat.reduceEqDiff, Nat.reduceAdd, Nat.reduceSub, Nat.reduceLeDiff]
  refine CALL_det (bvalueAt_fc [⟨0, 0, 0⟩, ⟨4, 2, 0⟩] (by simp) false 1) (.inl rfl) ?_
  have e : vaSp [⟨0, 0, 0⟩, ⟨4, 2, 0⟩] false 1 = (⟨1, 1, 2, 0⟩, true, 0) := by kernel_rfl
  rw [e]
  simp (maxSteps := 1000000) (disch := omega) only [go_sem, eq_self, decide_true, decide_false, not_true_eq_false, not_false_eq_true, reduceIte, reduceCtorEq, Nat.reduceEqDiff, Nat.reduceAdd, Nat.reduceSub, Nat.reduceLeDiff]
def orSp : List Int → Int
  | [] => 0
  | x :: l => if x ≠ 0 then x else orSp l
def orSt (fr : Bool) (l : List Int) (i : Int) : AS := ⟨tabV [(3, iv 0), (6, ints fr l), (7, iv l.length), (8, iv i)], tabO [], tabO []⟩
theorem orE_fc (fr : Bool) (l : List Int) (hl : l.length ≤ 4611686018427387904) : FC Try.prog 23 none [ints fr l] (fun _ r => r = iv (orSp l)) := by
  refine fc_orE (by simp +arith) ?_
  unfold C_orE
  simp (maxSteps := 1000000) (disch := omega) only [go_sem, eq_self, decide_true, decide_false, not_true_eq_false, not_false_eq_true, reduceIte, reduceCtorEq, Nat.reduceEqDiff, Nat.reduceAdd, Nat.reduceSub, Nat.reduceLeDiff]
  refine ex_loopI (orSt fr l) (fun i => 0 ≤ i ∧ i ≤ l.length ∧ orSp (l.drop i.toNat) = orSp l) (fun i => (l.length - i).toNat) 0 ⟨by omega, by omega, rfl⟩ rfl ?_
  rintro i ⟨g1, g2, g3⟩
  unfold orSt
  by_cases hi : i < l.length
  · rw [drop_cons l i.toNat (by omega), orSp] at g3
    have e2 : (i + 1).toNat = i.toNat + 1 := by omega
    simp (maxSteps := 1000000) (disch := omega) only [go_sem, eq_self, decide_true, decide_false, not_true_eq_false, not_false_eq_true, reduceIte, reduceCtorEq, Nat.reduceEqDiff, Nat.reduceAdd, Nat.reduceSub, Nat.reduceLeDiff]
    refine ⟨fun h => ?_, fun h => ⟨i + 1, ⟨by omega, by omega, ?_⟩, rfl, by omega⟩⟩
    · rw [if_pos h] at g3; rw [g3]
    · rw [if_neg h] at g3; rw [e2]; exact g3
  · simp (maxSteps := 1000000) (disch := omega) only [go_sem, eq_self, decide_true, decide_false, not_true_eq_false, not_false_eq_true, reduceIte, reduceCtorEq, Nat.reduceEqDiff, Nat.reduceAdd, Nat.reduceSub, Nat.reduceLeDiff]
    rw [← g3, List.drop_eq_nil_of_le (by omega)]
    rfl
def eqSt (fr fr' : Bool) (l : List Pt) (i : Int) : AS := ⟨tabV [(0, ptsV fr l), (1, ptsV fr' l), (12, iv l.length), (13, iv i)], tabO [], tabO []⟩
theorem eqPt_fc (fr fr' : Bool) (l : List Pt) (hl : l.length ≤ 4611686018427387904) : FC Try.prog 29 none [ptsV fr l, ptsV fr' l] (fun _ r => r = bv true) := by
  refine fc_eqPt (by simp +arith) ?_
  unfold C_eqPt
  simp (maxSteps := 1000000) (disch := omega) only [go_sem, eq_self, decide_true, decide_false, not_true_eq_false, not_false_eq_true, reduceIte, reduceCtorEq, Nat.reduceEqDiff, Nat.reduceAdd, Nat.reduceSub, Nat.reduceLeDiff]
  refine ex_loopI (eqSt fr fr' l) (fun i => 0 ≤ i ∧ i ≤ l.length) (fun i => (l.length - i).toNat) 0 ⟨by omega, by omega⟩ rfl ?_
  rintro i ⟨g1, g2⟩
  unfold eqSt
  by_cases hi : i < l.length
  · simp (maxSteps := 1000000) (disch := omega) only [go_sem, eq_self, decide_true, decide_false, not_true_eq_false, not_false_eq_true, reduceIte, reduceCtorEq, Nat.reduceEqDiff, Nat.reduceAdd, Nat.reduceSub, Nat.reduceLeDiff]
    exact ⟨i + 1, ⟨by omega, by omega⟩, rfl, by omega⟩
  · simp (maxSteps := 1000000) (disch := omega) only [go_sem, eq_self, decide_true, decide_false, not_true_eq_false, not_false_eq_true, reduceIte, reduceCtorEq, Nat.reduceEqDiff, Nat.reduceAdd, Nat.reduceSub, Nat.reduceLeDiff]
theorem vaSp_ok {l : List Smp} {at_ : Int} (st : Bool) (h : orSp [serFault l, momFault at_] = 0) : vaSp l st at_ = ((valSp l st at_).1, (valSp l st at_).2, 0) := by
  simp only [orSp] at h
  have h1 : serFault l = 0 := by by_cases e : serFault l = 0; exact e; rw [if_pos e] at h; exact h
  have h2 : momFault at_ = 0 := by rw [if_neg (by omega)] at h; by_cases e : momFault at_ = 0; exact e; rw [if_pos e] at h; exact h
  simp [vaSp, h1, h2]
theorem vaSp_no {l : List Smp} {at_ : Int} (st : Bool) (h : ¬ orSp [serFault l, momFault at_] = 0) : vaSp l st at_ = (ptZ, false, orSp [serFault l, momFault at_]) := by
  simp only [orSp] at h ⊢
  by_cases e : serFault l = 0
  · rw [if_neg (by omega)] at h ⊢
    have h2 : momFault at_ ≠ 0 := fun e2 => by rw [e2] at h; simp at h
    rw [if_pos h2]
    have := momFault_01 at_
    have h3 : momFault at_ = 1 := by omega
    simp [vaSp, e, h3]
  · simp [vaSp, e]
theorem one_ok {l : List Smp} {at_ : Int} (h : orSp [serFault l, momFault at_] = 0) : Good l ∧ 0 ≤ at_ ∧ at_ ≤ 345686399999 := by
  simp only [orSp] at h
  have h1 : serFault l = 0 := by by_cases e : serFault l = 0; exact e; rw [if_pos e] at h; exact h
  have h2 : momFault at_ = 0 := by rw [if_neg (by omega)] at h; by_cases e : momFault at_ = 0; exact e; rw [if_pos e] at h; exact h
  exact ⟨good_of h1, momFault_ok h2⟩
theorem ptsGo_len (l : List Smp) (st : Bool) (ev to : Int) : ∀ (n : Nat) (a : Int), (ptsGo l st ev to n a).length ≤ n
  | 0, _ => by simp [ptsGo]
  | n + 1, a => by
    rw [ptsGo]
    have := ptsGo_len l st ev to n (a + ev)
    split
    · cases (valSp l st a).2 <;> simp <;> omega
    · simp
theorem pts_len (l : List Smp) (st : Bool) (f t ev : Int) (_ : 1 ≤ ev) : (pts l st f t ev).length ≤ (t - f).toNat := ptsGo_len l st ev t _ f
theorem bothFault_or (l : List Smp) (f t : Int) : orSp [serFault l, winFault f t] = bothFault l f t := by
  simp only [orSp, bothFault]; (repeat' split) <;> omega
theorem vb_fc (L : List Int) (hL : ∀ x ∈ L, I64 x) (hl : L.length ≤ 9223372036854775807) : FC Try.prog 3 none [ints false L] (fun _ r => r = bv true) := by
  refine fc_vb (by simp +arith) ?_
  unfold C_vb
  simp (maxSteps := 1000000) (disch := omega) only [go_sem, eq_self, decide_true, decide_false, not_true_eq_false, not_false_eq_true, reduceIte, reduceCtorEq, Nat.reduceEqDiff, Nat.reduceAdd, Nat.reduceSub, Nat.reduceLeDiff]
  refine callx_gen (p := 0) (curve_fc 9 (by omega) (by omega)) hL hl (by omega) (by omega) ⟨_, [], by simp, by simp, rfl⟩ ?_
  rintro pa r ha1 ha2 ⟨l, hll, hl64, rfl⟩
  refine ⟨rfl, ?_⟩
  unfold strm
  simp (maxSteps := 1000000) (disch := omega) only [go_sem, eq_self, decide_true, decide_false, not_true_eq_false, not_false_eq_true, reduceIte, reduceCtorEq, Nat.reduceEqDiff, Nat.reduceAdd, Nat.reduceSub, Nat.reduceLeDiff]
  refine callx_gen (flip_fc 2 (by omega) (by omega)) hL hl (by omega) (by omega) ⟨_, true, rfl⟩ ?_
  rintro pb r hab hbb ⟨bb, rfl⟩
  refine ⟨rfl, ?_⟩
  unfold strm
  simp (maxSteps := 1000000) (disch := omega) only [go_sem, eq_self, decide_true, decide_false, not_true_eq_false, not_false_eq_true, reduceIte, reduceCtorEq, Nat.reduceEqDiff, Nat.reduceAdd, Nat.reduceSub, Nat.reduceLeDiff]
  refine callx_gen amoment_fc hL hl (by omega) (by omega) ⟨_, 0, by simp [I64], rfl⟩ ?_
  rintro pc r hac hbc ⟨at_, hat, rfl⟩
  refine ⟨rfl, ?_⟩
  unfold strm
  simp (maxSteps := 1000000) (disch := omega) only [go_sem, eq_self, decide_true, decide_false, not_true_eq_false, not_false_eq_true, reduceIte, reduceCtorEq, Nat.reduceEqDiff, Nat.reduceAdd, Nat.reduceSub, Nat.reduceLeDiff]
  refine callx_gen aspan_fc hL hl (by omega) (by omega) ⟨_, 0, 0, by simp [I64], by simp [I64], rfl⟩ ?_
  rintro pd r had hbd ⟨f, t, hf, ht, rfl⟩
  refine ⟨rfl, ?_⟩
  unfold strm
  simp (maxSteps := 1000000) (disch := omega) only [go_sem, eq_self, decide_true, decide_false, not_true_eq_false, not_false_eq_true, reduceIte, reduceCtorEq, Nat.reduceEqDiff, Nat.reduceAdd, Nat.reduceSub, Nat.reduceLeDiff]
  refine callx_gen (pick_fc false [1, 3, 10, 50, 0, 86400001] (by simp) (by simp)) hL hl (by omega) (by omega) ⟨_, 1, by simp, rfl⟩ ?_
  rintro pe r hae hbe ⟨ze, hze, rfl⟩
  refine ⟨rfl, ?_⟩
  unfold strm
  simp only [List.mem_cons, List.not_mem_nil, or_false] at hze
  simp (maxSteps := 1000000) (disch := omega) only [go_sem, eq_self, decide_true, decide_false, not_true_eq_false, not_false_eq_true, reduceIte, reduceCtorEq, Nat.reduceEqDiff, Nat.reduceAdd, Nat.reduceSub, Nat.reduceLeDiff]
  refine CALL_det (seriesFault_fc l (by omega)) (.inl rfl) ?_
  simp (maxSteps := 1000000) (disch := omega) only [go_sem, eq_self, decide_true, decide_false, not_true_eq_false, not_false_eq_true, reduceIte, reduceCtorEq, Nat.reduceEqDiff, Nat.reduceAdd, Nat.reduceSub, Nat.reduceLeDiff]
  refine CALL_det (bvalueAt_fc l (by omega) bb at_) (.inl rfl) ?_
  simp (maxSteps := 1000000) (disch := omega) only [go_sem, eq_self, decide_true, decide_false, not_true_eq_false, not_false_eq_true, reduceIte, reduceCtorEq, Nat.reduceEqDiff, Nat.reduceAdd, Nat.reduceSub, Nat.reduceLeDiff]
  refine CALL_det (points_fc l (by omega) bb f t ze) (.inl rfl) ?_
  simp (maxSteps := 1000000) (disch := omega) only [go_sem, eq_self, decide_true, decide_false, not_true_eq_false, not_false_eq_true, reduceIte, reduceCtorEq, Nat.reduceEqDiff, Nat.reduceAdd, Nat.reduceSub, Nat.reduceLeDiff]
  refine CALL_det (momentFault1_fc at_) (.inl rfl) ?_
  simp (maxSteps := 1000000) (disch := omega) only [go_sem, eq_self, decide_true, decide_false, not_true_eq_false, not_false_eq_true, reduceIte, reduceCtorEq, Nat.reduceEqDiff, Nat.reduceAdd, Nat.reduceSub, Nat.reduceLeDiff]
  refine CALL_det (orE_fc false [serFault l, momFault at_] (by simp)) (.inl rfl) ?_
  simp (maxSteps := 1000000) (disch := omega) only [go_sem, eq_self, decide_true, decide_false, not_true_eq_false, not_false_eq_true, reduceIte, reduceCtorEq, Nat.reduceEqDiff, Nat.reduceAdd, Nat.reduceSub, Nat.reduceLeDiff]
  refine CALL_det (windowFault_fc f t) (.inl rfl) ?_
  simp (maxSteps := 1000000) (disch := omega) only [go_sem, eq_self, decide_true, decide_false, not_true_eq_false, not_false_eq_true, reduceIte, reduceCtorEq, Nat.reduceEqDiff, Nat.reduceAdd, Nat.reduceSub, Nat.reduceLeDiff]
  refine CALL_det (orE_fc false [serFault l, winFault f t] (by simp)) (.inl rfl) ?_
  rw [bothFault_or]
  by_cases h1 : orSp [serFault l, momFault at_] = 0
  · rw [vaSp_ok bb h1]
    by_cases h2 : bothFault l f t = 0
    · obtain ⟨h3, h4⟩ := bothFault_ok h2
      have hg := good_of h3
      have hw := winFault_ok h4
      have h6 : ptsFault l f t ze = evFault f t ze := by unfold ptsFault; rw [if_neg (by omega)]
      rw [h6]
      by_cases h5 : evFault f t ze = 0
      · rw [if_pos h5]
        simp (maxSteps := 1000000) (disch := omega) only [go_sem, eq_self, decide_true, decide_false, not_true_eq_false, not_false_eq_true, reduceIte, reduceCtorEq, Nat.reduceEqDiff, Nat.reduceAdd, Nat.reduceSub, Nat.reduceLeDiff]
        refine CALL_det (everyFault1_fc f t ze h4) (.inl rfl) ?_
        simp (maxSteps := 1000000) (disch := omega) only [go_sem, eq_self, decide_true, decide_false, not_true_eq_false, not_false_eq_true, reduceIte, reduceCtorEq, Nat.reduceEqDiff, Nat.reduceAdd, Nat.reduceSub, Nat.reduceLeDiff]
        obtain ⟨hg1, ha1'⟩ := one_ok h1
        refine CALL_det (valueOf_fc l bb at_ hg1 ⟨ha1'.1, by omega⟩) (.inl rfl) ?_
        simp (maxSteps := 1000000) (disch := omega) only [go_sem, eq_self, decide_true, decide_false, not_true_eq_false, not_false_eq_true, reduceIte, reduceCtorEq, Nat.reduceEqDiff, Nat.reduceAdd, Nat.reduceSub, Nat.reduceLeDiff]
        refine CALL_det (pointsOf_fc l hg bb f t ze hw (evFault_ok h5)) (.inl rfl) ?_
        simp (maxSteps := 1000000) (disch := omega) only [go_sem, eq_self, decide_true, decide_false, not_true_eq_false, not_false_eq_true, reduceIte, reduceCtorEq, Nat.reduceEqDiff, Nat.reduceAdd, Nat.reduceSub, Nat.reduceLeDiff]
        refine CALL_det (eqPt_fc false false (pts l bb f t ze) (by have := pts_len l bb f t ze (evFault_ok h5).1; omega)) (.inl rfl) ?_
        simp (maxSteps := 1000000) (disch := omega) only [go_sem, eq_self, decide_true, decide_false, not_true_eq_false, not_false_eq_true, reduceIte, reduceCtorEq, Nat.reduceEqDiff, Nat.reduceAdd, Nat.reduceSub, Nat.reduceLeDiff]
        refine CALL_det queried_fc (.inl rfl) ?_
        simp (maxSteps := 1000000) (disch := omega) only [go_sem, eq_self, decide_true, decide_false, not_true_eq_false, not_false_eq_true, reduceIte, reduceCtorEq, Nat.reduceEqDiff, Nat.reduceAdd, Nat.reduceSub, Nat.reduceLeDiff]
      · rw [if_neg h5]
        simp (maxSteps := 1000000) (disch := omega) only [go_sem, eq_self, decide_true, decide_false, not_true_eq_false, not_false_eq_true, reduceIte, reduceCtorEq, Nat.reduceEqDiff, Nat.reduceAdd, Nat.reduceSub, Nat.reduceLeDiff]
        refine CALL_det (everyFault1_fc f t ze h4) (.inl rfl) ?_
        simp (maxSteps := 1000000) (disch := omega) only [go_sem, eq_self, decide_true, decide_false, not_true_eq_false, not_false_eq_true, reduceIte, reduceCtorEq, Nat.reduceEqDiff, Nat.reduceAdd, Nat.reduceSub, Nat.reduceLeDiff]
        obtain ⟨hg1, ha1'⟩ := one_ok h1
        refine CALL_det (valueOf_fc l bb at_ hg1 ⟨ha1'.1, by omega⟩) (.inl rfl) ?_
        simp (maxSteps := 1000000) (disch := omega) only [go_sem, eq_self, decide_true, decide_false, not_true_eq_false, not_false_eq_true, reduceIte, reduceCtorEq, Nat.reduceEqDiff, Nat.reduceAdd, Nat.reduceSub, Nat.reduceLeDiff]
        refine CALL_det (eqPt_fc false false [] (by simp)) (.inl rfl) ?_
        simp (maxSteps := 1000000) (disch := omega) only [go_sem, eq_self, decide_true, decide_false, not_true_eq_false, not_false_eq_true, reduceIte, reduceCtorEq, Nat.reduceEqDiff, Nat.reduceAdd, Nat.reduceSub, Nat.reduceLeDiff]
        refine CALL_det queried_fc (.inl rfl) ?_
        simp (maxSteps := 1000000) (disch := omega) only [go_sem, eq_self, decide_true, decide_false, not_true_eq_false, not_false_eq_true, reduceIte, reduceCtorEq, Nat.reduceEqDiff, Nat.reduceAdd, Nat.reduceSub, Nat.reduceLeDiff]
    · have h6 : ptsFault l f t ze = bothFault l f t := by unfold ptsFault; rw [if_pos h2]
      rw [h6, if_neg h2]
      simp (maxSteps := 1000000) (disch := omega) only [go_sem, eq_self, decide_true, decide_false, not_true_eq_false, not_false_eq_true, reduceIte, reduceCtorEq, Nat.reduceEqDiff, Nat.reduceAdd, Nat.reduceSub, Nat.reduceLeDiff]
      obtain ⟨hg1, ha1'⟩ := one_ok h1
      refine CALL_det (valueOf_fc l bb at_ hg1 ⟨ha1'.1, by omega⟩) (.inl rfl) ?_
      simp (maxSteps := 1000000) (disch := omega) only [go_sem, eq_self, decide_true, decide_false, not_true_eq_false, not_false_eq_true, reduceIte, reduceCtorEq, Nat.reduceEqDiff, Nat.reduceAdd, Nat.reduceSub, Nat.reduceLeDiff]
      refine CALL_det (eqPt_fc false false [] (by simp)) (.inl rfl) ?_
      simp (maxSteps := 1000000) (disch := omega) only [go_sem, eq_self, decide_true, decide_false, not_true_eq_false, not_false_eq_true, reduceIte, reduceCtorEq, Nat.reduceEqDiff, Nat.reduceAdd, Nat.reduceSub, Nat.reduceLeDiff]
      refine CALL_det queried_fc (.inl rfl) ?_
      simp (maxSteps := 1000000) (disch := omega) only [go_sem, eq_self, decide_true, decide_false, not_true_eq_false, not_false_eq_true, reduceIte, reduceCtorEq, Nat.reduceEqDiff, Nat.reduceAdd, Nat.reduceSub, Nat.reduceLeDiff]
  · rw [vaSp_no bb h1]
    by_cases h2 : bothFault l f t = 0
    · obtain ⟨h3, h4⟩ := bothFault_ok h2
      have hg := good_of h3
      have hw := winFault_ok h4
      have h6 : ptsFault l f t ze = evFault f t ze := by unfold ptsFault; rw [if_neg (by omega)]
      rw [h6]
      by_cases h5 : evFault f t ze = 0
      · rw [if_pos h5]
        simp (maxSteps := 1000000) (disch := omega) only [go_sem, eq_self, decide_true, decide_false, not_true_eq_false, not_false_eq_true, reduceIte, reduceCtorEq, Nat.reduceEqDiff, Nat.reduceAdd, Nat.reduceSub, Nat.reduceLeDiff]
        refine CALL_det (everyFault1_fc f t ze h4) (.inl rfl) ?_
        simp (maxSteps := 1000000) (disch := omega) only [go_sem, eq_self, decide_true, decide_false, not_true_eq_false, not_false_eq_true, reduceIte, reduceCtorEq, Nat.reduceEqDiff, Nat.reduceAdd, Nat.reduceSub, Nat.reduceLeDiff]
        refine CALL_det (pointsOf_fc l hg bb f t ze hw (evFault_ok h5)) (.inl rfl) ?_
        simp (maxSteps := 1000000) (disch := omega) only [go_sem, eq_self, decide_true, decide_false, not_true_eq_false, not_false_eq_true, reduceIte, reduceCtorEq, Nat.reduceEqDiff, Nat.reduceAdd, Nat.reduceSub, Nat.reduceLeDiff]
        refine CALL_det (eqPt_fc false false (pts l bb f t ze) (by have := pts_len l bb f t ze (evFault_ok h5).1; omega)) (.inl rfl) ?_
        simp (maxSteps := 1000000) (disch := omega) only [go_sem, eq_self, decide_true, decide_false, not_true_eq_false, not_false_eq_true, reduceIte, reduceCtorEq, Nat.reduceEqDiff, Nat.reduceAdd, Nat.reduceSub, Nat.reduceLeDiff]
        refine CALL_det queried_fc (.inl rfl) ?_
        simp (maxSteps := 1000000) (disch := omega) only [go_sem, eq_self, decide_true, decide_false, not_true_eq_false, not_false_eq_true, reduceIte, reduceCtorEq, Nat.reduceEqDiff, Nat.reduceAdd, Nat.reduceSub, Nat.reduceLeDiff]
      · rw [if_neg h5]
        simp (maxSteps := 1000000) (disch := omega) only [go_sem, eq_self, decide_true, decide_false, not_true_eq_false, not_false_eq_true, reduceIte, reduceCtorEq, Nat.reduceEqDiff, Nat.reduceAdd, Nat.reduceSub, Nat.reduceLeDiff]
        refine CALL_det (everyFault1_fc f t ze h4) (.inl rfl) ?_
        simp (maxSteps := 1000000) (disch := omega) only [go_sem, eq_self, decide_true, decide_false, not_true_eq_false, not_false_eq_true, reduceIte, reduceCtorEq, Nat.reduceEqDiff, Nat.reduceAdd, Nat.reduceSub, Nat.reduceLeDiff]
        refine CALL_det (eqPt_fc false false [] (by simp)) (.inl rfl) ?_
        simp (maxSteps := 1000000) (disch := omega) only [go_sem, eq_self, decide_true, decide_false, not_true_eq_false, not_false_eq_true, reduceIte, reduceCtorEq, Nat.reduceEqDiff, Nat.reduceAdd, Nat.reduceSub, Nat.reduceLeDiff]
        refine CALL_det queried_fc (.inl rfl) ?_
        simp (maxSteps := 1000000) (disch := omega) only [go_sem, eq_self, decide_true, decide_false, not_true_eq_false, not_false_eq_true, reduceIte, reduceCtorEq, Nat.reduceEqDiff, Nat.reduceAdd, Nat.reduceSub, Nat.reduceLeDiff]
    · have h6 : ptsFault l f t ze = bothFault l f t := by unfold ptsFault; rw [if_pos h2]
      rw [h6, if_neg h2]
      simp (maxSteps := 1000000) (disch := omega) only [go_sem, eq_self, decide_true, decide_false, not_true_eq_false, not_false_eq_true, reduceIte, reduceCtorEq, Nat.reduceEqDiff, Nat.reduceAdd, Nat.reduceSub, Nat.reduceLeDiff]
      refine CALL_det (eqPt_fc false false [] (by simp)) (.inl rfl) ?_
      simp (maxSteps := 1000000) (disch := omega) only [go_sem, eq_self, decide_true, decide_false, not_true_eq_false, not_false_eq_true, reduceIte, reduceCtorEq, Nat.reduceEqDiff, Nat.reduceAdd, Nat.reduceSub, Nat.reduceLeDiff]
      refine CALL_det queried_fc (.inl rfl) ?_
      simp (maxSteps := 1000000) (disch := omega) only [go_sem, eq_self, decide_true, decide_false, not_true_eq_false, not_false_eq_true, reduceIte, reduceCtorEq, Nat.reduceEqDiff, Nat.reduceAdd, Nat.reduceSub, Nat.reduceLeDiff]
end Go.Proofs.Ytkecmbgjhamhiaa

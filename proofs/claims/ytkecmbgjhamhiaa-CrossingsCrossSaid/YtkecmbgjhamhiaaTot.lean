/-
  Counters: Counters (the generator), Total, Count, and the reference's: their answers are one.
-/
import Derived.Test.YtkecmbgjhamhiaaPts
import Derived.Test.YtkecmbgjhamhiaaGenB
namespace Go.Proofs.Ytkecmbgjhamhiaa
open Go Go.Ai
set_option linter.unusedSimpArgs false
set_option linter.unusedVariables false
set_option maxHeartbeats 4000000
def A_counters : List Ann := [⟨(some ⟨[0], [0], []⟩), [], [], [], []⟩, ⟨(some ⟨[0,3], [0], []⟩), [(3, 111, 3)], [], [], []⟩, ⟨(some ⟨[0,3,4,5], [0], [3]⟩), [], [], [], []⟩, ⟨(some ⟨[0,3,4,5,13,14], [0], [3]⟩), [], [], [], []⟩, ⟨(some ⟨[0,3,4,5,13,14,15], [0], [3]⟩), [], [], [], []⟩, ⟨(some ⟨[0,3,4,5,6,13,14], [0,6], [3]⟩), [], [], [], []⟩, ⟨(some ⟨[0,3,4,5,6,13,14,24], [0,6], [3]⟩), [], [], [], []⟩, ⟨(some ⟨[0,3,4,5,6,13,14], [0,6], [3]⟩), [], [], [], []⟩, ⟨(some ⟨[0,3,4,5,13,14], [0], [3]⟩), [], [], [], []⟩, ⟨(some ⟨[0,3,4,5,13,14], [0], [3]⟩), [], [], [], []⟩, ⟨(some ⟨[0,3,4,5,13,14], [0], [3]⟩), [], [], [], []⟩, ⟨(some ⟨[0,3,4,5,13,14], [0], [3]⟩), [], [], [], []⟩, ⟨(some ⟨[2], [0], []⟩), [], [], [], []⟩]
def C_counters : AC := (.seq (.reg false [⟨(some 2), none, .mv (.v (.slice none 0 0))⟩] (some ⟨[0], [0], []⟩))
  (.seq (.seq (.reg false [⟨(some 3), none, .mv (.v (.slice none 0 0))⟩] (some ⟨[0,3], [0], []⟩))
  (.own 3 111 3))
  (.seq (.reg false [⟨(some 7), none, .mv (.t 0)⟩, ⟨(some 8), none, .bslice 1 2 [(.v (.int .i64 (0))), (.v (.int .i64 (5)))]⟩, ⟨(some 9), none, .callx (.f 19) [(.t 7), (.t 8)]⟩, ⟨(some 10), none, .mv (.t 0)⟩, ⟨(some 11), none, .callx (.f 65) [(.t 10), (.v (.int .i64 (0))), (.v (.int .i64 (9)))]⟩, ⟨(some 4), none, .mv (.t 9)⟩, ⟨(some 5), none, .mv (.t 11)⟩] (some ⟨[0,3,4,5], [0], [3]⟩))
  (.seq (.seq (.reg false [⟨(some 12), none, .mv (.t 0)⟩, ⟨(some 13), none, .callx (.f 65) [(.t 12), (.v (.int .i64 (0))), (.v (.int .i64 (9)))]⟩, ⟨(some 14), none, .mv (.v (.int .i64 (0)))⟩] (some ⟨[0,3,4,5,13,14], [0], [3]⟩))
  (.block 0 (.loop (.seq (.reg false [⟨(some 15), none, .bin .lss (.t 14) (.t 13)⟩] (some ⟨[0,3,4,5,13,14,15], [0], [3]⟩))
  (.seq (.cond (.t 15)
  .skip
  (.exit 0))
  (.seq (.block 1 (.seq (.reg false [⟨(some 16), none, .mv (.t 4)⟩, ⟨(some 17), none, .mv (.t 5)⟩, ⟨(some 18), none, .mv (.t 0)⟩, ⟨(some 19), none, .bslice 1 5 [(.v (.int .i64 (0))), (.v (.int .i64 (0))), (.v (.int .i64 (0))), (.v (.int .i64 (1))), (.v (.int .i64 (2)))]⟩, ⟨(some 20), none, .callx (.f 19) [(.t 18), (.t 19)]⟩, ⟨(some 21), none, .build [(.int .i64 (0)), (.int .i64 (0)), (.int .i64 (0))] [(0, 1, (.t 16)), (1, 1, (.t 17)), (2, 1, (.t 20))]⟩, ⟨(some 6), none, .alloc [(.int .i64 (0)), (.int .i64 (0)), (.int .i64 (0))]⟩, ⟨none, none, .store 3 (.t 6) (.t 21)⟩] (some ⟨[0,3,4,5,6,13,14], [0,6], [3]⟩))
  (.seq (.seq (.reg false [⟨(some 22), none, .fadr 2 (.t 6)⟩, ⟨(some 23), none, .load false 1 (.t 22)⟩, ⟨(some 24), none, .bin .eql (.t 23) (.v (.int .i64 (2)))⟩] (some ⟨[0,3,4,5,6,13,14,24], [0,6], [3]⟩))
  (.cond (.t 24)
  (.reg false [⟨(some 25), none, .fadr 1 (.t 6)⟩, ⟨none, none, .store 1 (.t 25) (.v (.int .i64 (0)))⟩] (some ⟨[0,3,4,5,6,13,14], [0,6], [3]⟩))
  .skip))
  (.seq (.reg false [⟨(some 26), none, .mv (.t 3)⟩, ⟨(some 27), none, .load true 3 (.t 6)⟩, ⟨(some 28), none, .bslice 3 1 [(.t 27)]⟩, ⟨(some 29), none, .append 111 3 24 (.t 26) (.t 28)⟩, ⟨(some 3), none, .mv (.t 29)⟩] (some ⟨[0,3,4,5,13,14], [0], [3]⟩))
  (.seq (.reg false [⟨(some 30), none, .mv (.t 4)⟩, ⟨(some 31), none, .mv (.t 0)⟩, ⟨(some 32), none, .bslice 1 3 [(.v (.int .i64 (1))), (.v (.int .i64 (5))), (.v (.int .i64 (20)))]⟩, ⟨(some 33), none, .callx (.f 19) [(.t 31), (.t 32)]⟩, ⟨(some 34), none, .bin .add (.t 30) (.t 33)⟩, ⟨(some 4), none, .mv (.t 34)⟩] (some ⟨[0,3,4,5,13,14], [0], [3]⟩))
  (.reg false [⟨(some 35), none, .mv (.t 5)⟩, ⟨(some 36), none, .mv (.t 0)⟩, ⟨(some 37), none, .bslice 1 4 [(.v (.int .i64 (0))), (.v (.int .i64 (1))), (.v (.int .i64 (3))), (.v (.int .i64 (8)))]⟩, ⟨(some 38), none, .callx (.f 19) [(.t 36), (.t 37)]⟩, ⟨(some 39), none, .bin .add (.t 35) (.t 38)⟩, ⟨(some 40), none, .bin .rem (.t 39) (.v (.int .i64 (10)))⟩, ⟨(some 5), none, .mv (.t 40)⟩] (some ⟨[0,3,4,5,13,14], [0], [3]⟩)))))))
  (.reg false [⟨(some 41), none, .bin .add (.t 14) (.v (.int .i64 (1)))⟩, ⟨(some 14), none, .mv (.t 41)⟩] (some ⟨[0,3,4,5,13,14], [0], [3]⟩))))))))
  (.seq (.reg false [⟨(some 42), none, .mv (.t 3)⟩, ⟨(some 2), none, .mv (.t 42)⟩] (some ⟨[2], [0], []⟩))
  .ret)))))
theorem c_counters : compileCode Try.prog Try.f41.ntmps (Try.f41.body.getD .skip) A_counters = some (C_counters, []) := by kernel_rfl
theorem r_counters : compileRes Try.prog Try.f41.results.toList = some [.t 2] := by kernel_rfl
theorem b_counters : Try.f41.body = some (Try.f41.body.getD .skip) := by kernel_rfl
theorem n_counters : (Try.f41.name == "runtime.NumGoroutine") = false := by kernel_rfl
theorem fc_counters {xt : Option (List Cel)} {args : List Val} {R : List Cel → Val → Prop} (hn : (if xt.isSome then 1 else 0) + args.length ≤ Try.f41.ntmps) (h : ex Try.prog C_counters [] (fpost xt [.t 2] R) (initSt xt args)) : FC Try.prog 41 xt args R :=
  fc_of_awp Try.func41 b_counters n_counters c_counters r_counters (of_decide_eq_true (by kernel_rfl)) hn h

def A_baseIn : List Ann := [⟨(some ⟨[1,2], [2], []⟩), [], [], [], []⟩, ⟨(some ⟨[4], [], []⟩), [], [], [], []⟩]
def C_baseIn : AC := (.seq (.reg false [⟨(some 2), none, .box (.t 0)⟩, ⟨(some 4), none, .mv (.v (.bool false))⟩] (some ⟨[1,2], [2], []⟩))
  (.seq (.reg false [⟨(some 5), none, .mv (.t 1)⟩, ⟨(some 6), none, .fadr 0 (.t 2)⟩, ⟨(some 7), none, .load false 1 (.t 6)⟩, ⟨(some 8), none, .bin .geq (.t 5) (.t 7)⟩, ⟨(some 9), none, .mv (.t 8)⟩, ⟨(some 10), (some (9, true)), .mv (.t 1)⟩, ⟨(some 11), (some (9, true)), .fadr 1 (.t 2)⟩, ⟨(some 12), (some (9, true)), .load false 1 (.t 11)⟩, ⟨(some 13), (some (9, true)), .bin .lss (.t 10) (.t 12)⟩, ⟨(some 14), none, .pick (.t 9) (.t 13) (.v (.bool false))⟩, ⟨(some 4), none, .mv (.t 14)⟩] (some ⟨[4], [], []⟩))
  .ret))
theorem c_baseIn : compileCode Try.prog Try.f136.ntmps (Try.f136.body.getD .skip) A_baseIn = some (C_baseIn, []) := by kernel_rfl
theorem r_baseIn : compileRes Try.prog Try.f136.results.toList = some [.t 4] := by kernel_rfl
theorem b_baseIn : Try.f136.body = some (Try.f136.body.getD .skip) := by kernel_rfl
theorem n_baseIn : (Try.f136.name == "runtime.NumGoroutine") = false := by kernel_rfl
theorem fc_baseIn {xt : Option (List Cel)} {args : List Val} {R : List Cel → Val → Prop} (hn : (if xt.isSome then 1 else 0) + args.length ≤ Try.f136.ntmps) (h : ex Try.prog C_baseIn [] (fpost xt [.t 4] R) (initSt xt args)) : FC Try.prog 136 xt args R :=
  fc_of_awp Try.func136 b_baseIn n_baseIn c_baseIn r_baseIn (of_decide_eq_true (by kernel_rfl)) hn h

def A_inside : List Ann := [⟨(some ⟨[0,2,4], [4], []⟩), [], [], [], []⟩, ⟨(some ⟨[0,2,4,7], [4], []⟩), [(7, 111, 3)], [], [], []⟩, ⟨(some ⟨[2,4,7,10,11,12], [4], [7]⟩), [], [], [], []⟩, ⟨(some ⟨[2,4,7,10,11,12,13], [4], [7]⟩), [], [], [], []⟩, ⟨(some ⟨[2,4,7,9,10,11,12], [4,9], [7]⟩), [], [], [], []⟩, ⟨(some ⟨[2,4,7,9,10,11,12,29], [4,9], [7]⟩), [], [], [], []⟩, ⟨(some ⟨[2,4,7,10,11,12], [4], [7]⟩), [], [], [], []⟩, ⟨(some ⟨[2,4,7,10,11,12], [4], [7]⟩), [], [], [], []⟩, ⟨(some ⟨[6], [], []⟩), [], [], [], []⟩]
def C_inside : AC := (.seq (.reg false [⟨(some 4), none, .box (.t 1)⟩, ⟨(some 6), none, .mv (.v (.slice none 0 0))⟩] (some ⟨[0,2,4], [4], []⟩))
  (.seq (.seq (.reg false [⟨(some 7), none, .mv (.v (.slice none 0 0))⟩] (some ⟨[0,2,4,7], [4], []⟩))
  (.own 7 111 3))
  (.seq (.seq (.reg false [⟨(some 10), none, .mv (.t 0)⟩, ⟨(some 11), none, .len (.t 10)⟩, ⟨(some 12), none, .mv (.v (.int .i64 (0)))⟩] (some ⟨[2,4,7,10,11,12], [4], [7]⟩))
  (.block 0 (.loop (.seq (.reg false [⟨(some 13), none, .bin .lss (.t 12) (.t 11)⟩] (some ⟨[2,4,7,10,11,12,13], [4], [7]⟩))
  (.seq (.cond (.t 13)
  .skip
  (.exit 0))
  (.seq (.block 1 (.seq (.reg false [⟨(some 14), none, .iadr 3 (.t 10) (.t 12)⟩, ⟨(some 15), none, .load true 3 (.t 14)⟩, ⟨(some 9), none, .alloc [(.int .i64 (0)), (.int .i64 (0)), (.int .i64 (0))]⟩, ⟨none, none, .store 3 (.t 9) (.t 15)⟩] (some ⟨[2,4,7,9,10,11,12], [4,9], [7]⟩))
  (.seq (.reg false [⟨(some 16), none, .load true 2 (.t 4)⟩, ⟨(some 17), none, .fadr 0 (.t 9)⟩, ⟨(some 18), none, .load false 1 (.t 17)⟩, ⟨(some 19), none, .call (.f 136) [(.t 16), (.t 18)]⟩, ⟨(some 20), none, .mv (.t 19)⟩, ⟨(some 21), (some (20, false)), .mv (.t 2)⟩, ⟨(some 22), (some (20, false)), .mv (.t 21)⟩, ⟨(some 23), (some (22, true)), .fadr 0 (.t 9)⟩, ⟨(some 24), (some (22, true)), .load false 1 (.t 23)⟩, ⟨(some 25), (some (22, true)), .fadr 1 (.t 4)⟩, ⟨(some 26), (some (22, true)), .load false 1 (.t 25)⟩, ⟨(some 27), (some (22, true)), .bin .eql (.t 24) (.t 26)⟩, ⟨(some 28), (some (20, false)), .pick (.t 22) (.t 27) (.v (.bool false))⟩, ⟨(some 29), none, .pick (.t 20) (.v (.bool true)) (.t 28)⟩] (some ⟨[2,4,7,9,10,11,12,29], [4,9], [7]⟩))
  (.cond (.t 29)
  (.reg false [⟨(some 30), none, .mv (.t 7)⟩, ⟨(some 31), none, .load true 3 (.t 9)⟩, ⟨(some 32), none, .bslice 3 1 [(.t 31)]⟩, ⟨(some 33), none, .append 111 3 24 (.t 30) (.t 32)⟩, ⟨(some 7), none, .mv (.t 33)⟩] (some ⟨[2,4,7,10,11,12], [4], [7]⟩))
  .skip))))
  (.reg false [⟨(some 34), none, .bin .add (.t 12) (.v (.int .i64 (1)))⟩, ⟨(some 12), none, .mv (.t 34)⟩] (some ⟨[2,4,7,10,11,12], [4], [7]⟩))))))))
  (.seq (.reg false [⟨(some 35), none, .mv (.t 7)⟩, ⟨(some 6), none, .mv (.t 35)⟩] (some ⟨[6], [], []⟩))
  .ret))))
theorem c_inside : compileCode Try.prog Try.f98.ntmps (Try.f98.body.getD .skip) A_inside = some (C_inside, []) := by kernel_rfl
theorem r_inside : compileRes Try.prog Try.f98.results.toList = some [.t 6] := by kernel_rfl
theorem b_inside : Try.f98.body = some (Try.f98.body.getD .skip) := by kernel_rfl
theorem n_inside : (Try.f98.name == "runtime.NumGoroutine") = false := by kernel_rfl
theorem fc_inside {xt : Option (List Cel)} {args : List Val} {R : List Cel → Val → Prop} (hn : (if xt.isSome then 1 else 0) + args.length ≤ Try.f98.ntmps) (h : ex Try.prog C_inside [] (fpost xt [.t 6] R) (initSt xt args)) : FC Try.prog 98 xt args R :=
  fc_of_awp Try.func98 b_inside n_inside c_inside r_inside (of_decide_eq_true (by kernel_rfl)) hn h

def A_total : List Ann := [⟨(some ⟨[0,2,4], [4], []⟩), [], [], [], []⟩, ⟨(some ⟨[0,2,4,8], [4], []⟩), [], [], [], []⟩, ⟨(some ⟨[0,2,4,8,18], [4], []⟩), [], [], [], []⟩, ⟨(some ⟨[6,7], [], []⟩), [], [], [], []⟩, ⟨(some ⟨[0,2,4,21], [4], []⟩), [], [], [], []⟩, ⟨(some ⟨[6,7], [], []⟩), [], [], [], []⟩, ⟨(some ⟨[0,2,4,9,10], [4], []⟩), [], [], [], []⟩, ⟨(some ⟨[2,9,10,24,25,26], [], []⟩), [], [], [], []⟩, ⟨(some ⟨[2,9,10,24,25,26,27], [], []⟩), [], [], [], []⟩, ⟨(some ⟨[2,9,10,12,24,25,26], [12], []⟩), [], [], [], []⟩, ⟨(some ⟨[2,9,10,12,24,25,26,32], [12], []⟩), [], [], [], []⟩, ⟨(some ⟨[2,9,10,12,24,25,26,37], [12], []⟩), [], [], [], []⟩, ⟨(some ⟨[6,7], [], []⟩), [], [], [], []⟩, ⟨(some ⟨[2,9,10,12,24,25,26,39], [12], []⟩), [], [], [], []⟩, ⟨(some ⟨[2,9,12,13,24,25,26], [12], []⟩), [], [], [], []⟩, ⟨(some ⟨[2,9,12,13,24,25,26,45], [12], []⟩), [], [], [], []⟩, ⟨(some ⟨[2,9,12,13,24,25,26], [12], []⟩), [], [], [], []⟩, ⟨(some ⟨[2,9,12,24,25,26], [12], []⟩), [], [], [], []⟩, ⟨(some ⟨[2,9,10,24,25,26], [], []⟩), [], [], [], []⟩, ⟨(some ⟨[2,9,10,24,25,26], [], []⟩), [], [], [], []⟩, ⟨(some ⟨[6,7], [], []⟩), [], [], [], []⟩]
def C_total : AC := (.seq (.reg false [⟨(some 4), none, .box (.t 1)⟩, ⟨(some 6), none, .mv (.v (.int .i64 (0)))⟩, ⟨(some 7), none, .mv (.v (.int .i64 (0)))⟩] (some ⟨[0,2,4], [4], []⟩))
  (.seq (.seq (.reg false [⟨(some 14), none, .mv (.t 0)⟩, ⟨(some 15), none, .load true 2 (.t 4)⟩, ⟨(some 16), none, .call (.f 88) [(.t 14), (.t 15)]⟩, ⟨(some 8), none, .mv (.t 16)⟩] (some ⟨[0,2,4,8], [4], []⟩))
  (.seq (.reg false [⟨(some 17), none, .mv (.t 8)⟩, ⟨(some 18), none, .bin .neq (.t 17) (.v (.int .i64 (0)))⟩] (some ⟨[0,2,4,8,18], [4], []⟩))
  (.cond (.t 18)
  (.seq (.reg false [⟨(some 19), none, .mv (.t 8)⟩, ⟨(some 6), none, .mv (.v (.int .i64 (0)))⟩, ⟨(some 7), none, .mv (.t 19)⟩] (some ⟨[6,7], [], []⟩))
  .ret)
  .skip)))
  (.seq (.seq (.reg false [⟨(some 20), none, .mv (.t 2)⟩, ⟨(some 21), none, .call (.f 93) [(.t 20), (.v (.int .i64 (1))), (.v (.int .i64 (2000000000)))]⟩] (some ⟨[0,2,4,21], [4], []⟩))
  (.cond (.t 21)
  (.seq (.reg false [⟨(some 6), none, .mv (.v (.int .i64 (0)))⟩, ⟨(some 7), none, .mv (.v (.int .i64 (1)))⟩] (some ⟨[6,7], [], []⟩))
  .ret)
  .skip))
  (.seq (.reg false [⟨(some 9), none, .mv (.v (.int .i64 (0)))⟩, ⟨(some 10), none, .mv (.v (.int .i64 (-1)))⟩] (some ⟨[0,2,4,9,10], [4], []⟩))
  (.seq (.seq (.reg false [⟨(some 22), none, .mv (.t 0)⟩, ⟨(some 23), none, .load true 2 (.t 4)⟩, ⟨(some 24), none, .call (.f 98) [(.t 22), (.t 23), (.v (.bool true))]⟩, ⟨(some 25), none, .len (.t 24)⟩, ⟨(some 26), none, .mv (.v (.int .i64 (0)))⟩] (some ⟨[2,9,10,24,25,26], [], []⟩))
  (.block 0 (.loop (.seq (.reg false [⟨(some 27), none, .bin .lss (.t 26) (.t 25)⟩] (some ⟨[2,9,10,24,25,26,27], [], []⟩))
  (.seq (.cond (.t 27)
  .skip
  (.exit 0))
  (.seq (.block 1 (.seq (.reg false [⟨(some 28), none, .iadr 3 (.t 24) (.t 26)⟩, ⟨(some 29), none, .load true 3 (.t 28)⟩, ⟨(some 12), none, .alloc [(.int .i64 (0)), (.int .i64 (0)), (.int .i64 (0))]⟩, ⟨none, none, .store 3 (.t 12) (.t 29)⟩] (some ⟨[2,9,10,12,24,25,26], [12], []⟩))
  (.seq (.seq (.reg false [⟨(some 30), none, .fadr 2 (.t 12)⟩, ⟨(some 31), none, .load false 1 (.t 30)⟩, ⟨(some 32), none, .bin .eql (.t 31) (.v (.int .i64 (2)))⟩] (some ⟨[2,9,10,12,24,25,26,32], [12], []⟩))
  (.cond (.t 32)
  (.exit 1)
  .skip))
  (.seq (.seq (.reg false [⟨(some 33), none, .fadr 1 (.t 12)⟩, ⟨(some 34), none, .load false 1 (.t 33)⟩, ⟨(some 35), none, .mv (.t 2)⟩, ⟨(some 36), none, .bin .sub (.t 35) (.v (.int .i64 (1)))⟩, ⟨(some 37), none, .call (.f 93) [(.t 34), (.v (.int .i64 (0))), (.t 36)]⟩] (some ⟨[2,9,10,12,24,25,26,37], [12], []⟩))
  (.cond (.t 37)
  (.seq (.reg false [⟨(some 6), none, .mv (.v (.int .i64 (0)))⟩, ⟨(some 7), none, .mv (.v (.int .i64 (16)))⟩] (some ⟨[6,7], [], []⟩))
  .ret)
  .skip))
  (.seq (.seq (.reg false [⟨(some 38), none, .mv (.t 10)⟩, ⟨(some 39), none, .bin .geq (.t 38) (.v (.int .i64 (0)))⟩] (some ⟨[2,9,10,12,24,25,26,39], [12], []⟩))
  (.cond (.t 39)
  (.seq (.reg false [⟨(some 40), none, .fadr 1 (.t 12)⟩, ⟨(some 41), none, .load false 1 (.t 40)⟩, ⟨(some 42), none, .mv (.t 10)⟩, ⟨(some 43), none, .bin .sub (.t 41) (.t 42)⟩, ⟨(some 13), none, .mv (.t 43)⟩] (some ⟨[2,9,12,13,24,25,26], [12], []⟩))
  (.seq (.seq (.reg false [⟨(some 44), none, .mv (.t 13)⟩, ⟨(some 45), none, .bin .lss (.t 44) (.v (.int .i64 (0)))⟩] (some ⟨[2,9,12,13,24,25,26,45], [12], []⟩))
  (.cond (.t 45)
  (.reg false [⟨(some 46), none, .mv (.t 13)⟩, ⟨(some 47), none, .mv (.t 2)⟩, ⟨(some 48), none, .bin .add (.t 46) (.t 47)⟩, ⟨(some 13), none, .mv (.t 48)⟩] (some ⟨[2,9,12,13,24,25,26], [12], []⟩))
  .skip))
  (.reg false [⟨(some 49), none, .mv (.t 9)⟩, ⟨(some 50), none, .mv (.t 13)⟩, ⟨(some 51), none, .bin .add (.t 49) (.t 50)⟩, ⟨(some 9), none, .mv (.t 51)⟩] (some ⟨[2,9,12,24,25,26], [12], []⟩))))
  .skip))
  (.reg false [⟨(some 52), none, .fadr 1 (.t 12)⟩, ⟨(some 53), none, .load false 1 (.t 52)⟩, ⟨(some 10), none, .mv (.t 53)⟩] (some ⟨[2,9,10,24,25,26], [], []⟩)))))))
  (.reg false [⟨(some 54), none, .bin .add (.t 26) (.v (.int .i64 (1)))⟩, ⟨(some 26), none, .mv (.t 54)⟩] (some ⟨[2,9,10,24,25,26], [], []⟩))))))))
  (.seq (.reg false [⟨(some 55), none, .mv (.t 9)⟩, ⟨(some 6), none, .mv (.t 55)⟩, ⟨(some 7), none, .mv (.v (.int .i64 (0)))⟩] (some ⟨[6,7], [], []⟩))
  .ret))))))
theorem c_total : compileCode Try.prog Try.f42.ntmps (Try.f42.body.getD .skip) A_total = some (C_total, []) := by kernel_rfl
theorem r_total : compileRes Try.prog Try.f42.results.toList = some [.t 6, .t 7] := by kernel_rfl
theorem b_total : Try.f42.body = some (Try.f42.body.getD .skip) := by kernel_rfl
theorem n_total : (Try.f42.name == "runtime.NumGoroutine") = false := by kernel_rfl
theorem fc_total {xt : Option (List Cel)} {args : List Val} {R : List Cel → Val → Prop} (hn : (if xt.isSome then 1 else 0) + args.length ≤ Try.f42.ntmps) (h : ex Try.prog C_total [] (fpost xt [.t 6, .t 7] R) (initSt xt args)) : FC Try.prog 42 xt args R :=
  fc_of_awp Try.func42 b_total n_total c_total r_total (of_decide_eq_true (by kernel_rfl)) hn h

def A_count : List Ann := [⟨(some ⟨[0,2,4], [4], []⟩), [], [], [], []⟩, ⟨(some ⟨[0,2,4,8], [4], []⟩), [], [], [], []⟩, ⟨(some ⟨[0,2,4,8,16], [4], []⟩), [], [], [], []⟩, ⟨(some ⟨[6,7], [], []⟩), [], [], [], []⟩, ⟨(some ⟨[0,2,4,19], [4], []⟩), [], [], [], []⟩, ⟨(some ⟨[6,7], [], []⟩), [], [], [], []⟩, ⟨(some ⟨[0,2,4,9], [4], []⟩), [], [], [], []⟩, ⟨(some ⟨[2,9,22,23,24], [], []⟩), [], [], [], []⟩, ⟨(some ⟨[2,9,22,23,24,25], [], []⟩), [], [], [], []⟩, ⟨(some ⟨[2,9,11,22,23,24], [11], []⟩), [], [], [], []⟩, ⟨(some ⟨[2,9,22,23,24,31], [], []⟩), [], [], [], []⟩, ⟨(some ⟨[2,9,22,23,24], [], []⟩), [], [], [], []⟩, ⟨(some ⟨[2,9,22,23,24], [], []⟩), [], [], [], []⟩, ⟨(some ⟨[6,7], [], []⟩), [], [], [], []⟩]
def C_count : AC := (.seq (.reg false [⟨(some 4), none, .box (.t 1)⟩, ⟨(some 6), none, .mv (.v (.int .i64 (0)))⟩, ⟨(some 7), none, .mv (.v (.int .i64 (0)))⟩] (some ⟨[0,2,4], [4], []⟩))
  (.seq (.seq (.reg false [⟨(some 12), none, .mv (.t 0)⟩, ⟨(some 13), none, .load true 2 (.t 4)⟩, ⟨(some 14), none, .call (.f 88) [(.t 12), (.t 13)]⟩, ⟨(some 8), none, .mv (.t 14)⟩] (some ⟨[0,2,4,8], [4], []⟩))
  (.seq (.reg false [⟨(some 15), none, .mv (.t 8)⟩, ⟨(some 16), none, .bin .neq (.t 15) (.v (.int .i64 (0)))⟩] (some ⟨[0,2,4,8,16], [4], []⟩))
  (.cond (.t 16)
  (.seq (.reg false [⟨(some 17), none, .mv (.t 8)⟩, ⟨(some 6), none, .mv (.v (.int .i64 (0)))⟩, ⟨(some 7), none, .mv (.t 17)⟩] (some ⟨[6,7], [], []⟩))
  .ret)
  .skip)))
  (.seq (.seq (.reg false [⟨(some 18), none, .mv (.t 2)⟩, ⟨(some 19), none, .call (.f 93) [(.t 18), (.v (.int .i64 (0))), (.v (.int .i64 (2)))]⟩] (some ⟨[0,2,4,19], [4], []⟩))
  (.cond (.t 19)
  (.seq (.reg false [⟨(some 6), none, .mv (.v (.int .i64 (0)))⟩, ⟨(some 7), none, .mv (.v (.int .i64 (4)))⟩] (some ⟨[6,7], [], []⟩))
  .ret)
  .skip))
  (.seq (.reg false [⟨(some 9), none, .mv (.v (.int .i64 (0)))⟩] (some ⟨[0,2,4,9], [4], []⟩))
  (.seq (.seq (.reg false [⟨(some 20), none, .mv (.t 0)⟩, ⟨(some 21), none, .load true 2 (.t 4)⟩, ⟨(some 22), none, .call (.f 98) [(.t 20), (.t 21), (.v (.bool false))]⟩, ⟨(some 23), none, .len (.t 22)⟩, ⟨(some 24), none, .mv (.v (.int .i64 (0)))⟩] (some ⟨[2,9,22,23,24], [], []⟩))
  (.block 0 (.loop (.seq (.reg false [⟨(some 25), none, .bin .lss (.t 24) (.t 23)⟩] (some ⟨[2,9,22,23,24,25], [], []⟩))
  (.seq (.cond (.t 25)
  .skip
  (.exit 0))
  (.seq (.block 1 (.seq (.reg false [⟨(some 26), none, .iadr 3 (.t 22) (.t 24)⟩, ⟨(some 27), none, .load true 3 (.t 26)⟩, ⟨(some 11), none, .alloc [(.int .i64 (0)), (.int .i64 (0)), (.int .i64 (0))]⟩, ⟨none, none, .store 3 (.t 11) (.t 27)⟩] (some ⟨[2,9,11,22,23,24], [11], []⟩))
  (.seq (.reg false [⟨(some 28), none, .fadr 2 (.t 11)⟩, ⟨(some 29), none, .load false 1 (.t 28)⟩, ⟨(some 30), none, .mv (.t 2)⟩, ⟨(some 31), none, .bin .eql (.t 29) (.t 30)⟩] (some ⟨[2,9,22,23,24,31], [], []⟩))
  (.cond (.t 31)
  (.reg false [⟨(some 32), none, .mv (.t 9)⟩, ⟨(some 33), none, .bin .add (.t 32) (.v (.int .i64 (1)))⟩, ⟨(some 9), none, .mv (.t 33)⟩] (some ⟨[2,9,22,23,24], [], []⟩))
  .skip))))
  (.reg false [⟨(some 34), none, .bin .add (.t 24) (.v (.int .i64 (1)))⟩, ⟨(some 24), none, .mv (.t 34)⟩] (some ⟨[2,9,22,23,24], [], []⟩))))))))
  (.seq (.reg false [⟨(some 35), none, .mv (.t 9)⟩, ⟨(some 6), none, .mv (.t 35)⟩, ⟨(some 7), none, .mv (.v (.int .i64 (0)))⟩] (some ⟨[6,7], [], []⟩))
  .ret))))))
theorem c_count : compileCode Try.prog Try.f43.ntmps (Try.f43.body.getD .skip) A_count = some (C_count, []) := by kernel_rfl
theorem r_count : compileRes Try.prog Try.f43.results.toList = some [.t 6, .t 7] := by kernel_rfl
theorem b_count : Try.f43.body = some (Try.f43.body.getD .skip) := by kernel_rfl
theorem n_count : (Try.f43.name == "runtime.NumGoroutine") = false := by kernel_rfl
theorem fc_count {xt : Option (List Cel)} {args : List Val} {R : List Cel → Val → Prop} (hn : (if xt.isSome then 1 else 0) + args.length ≤ Try.f43.ntmps) (h : ex Try.prog C_count [] (fpost xt [.t 6, .t 7] R) (initSt xt args)) : FC Try.prog 43 xt args R :=
  fc_of_awp Try.func43 b_count n_count c_count r_count (of_decide_eq_true (by kernel_rfl)) hn h

def A_counted : List Ann := [⟨(some ⟨[0,3], [3], []⟩), [], [], [], []⟩, ⟨(some ⟨[0,3,5], [3], []⟩), [(5, 3, 1)], [], [], []⟩, ⟨(some ⟨[3,5,8,9,10], [3], [5]⟩), [], [], [], []⟩, ⟨(some ⟨[3,5,8,9,10,11], [3], [5]⟩), [], [], [], []⟩, ⟨(some ⟨[3,5,7,8,9,10], [3,7], [5]⟩), [], [], [], []⟩, ⟨(some ⟨[3,5,7,8,9,10,25], [3,7], [5]⟩), [], [], [], []⟩, ⟨(some ⟨[3,5,8,9,10], [3], [5]⟩), [], [], [], []⟩, ⟨(some ⟨[3,5,8,9,10], [3], [5]⟩), [], [], [], []⟩, ⟨(some ⟨[4], [], []⟩), [], [], [], []⟩]
def C_counted : AC := (.seq (.reg false [⟨(some 3), none, .box (.t 1)⟩, ⟨(some 4), none, .mv (.v (.slice none 0 0))⟩] (some ⟨[0,3], [3], []⟩))
  (.seq (.seq (.reg false [⟨(some 5), none, .mv (.v (.slice none 0 0))⟩] (some ⟨[0,3,5], [3], []⟩))
  (.own 5 3 1))
  (.seq (.seq (.reg false [⟨(some 8), none, .mv (.t 0)⟩, ⟨(some 9), none, .len (.t 8)⟩, ⟨(some 10), none, .mv (.v (.int .i64 (0)))⟩] (some ⟨[3,5,8,9,10], [3], [5]⟩))
  (.block 0 (.loop (.seq (.reg false [⟨(some 11), none, .bin .lss (.t 10) (.t 9)⟩] (some ⟨[3,5,8,9,10,11], [3], [5]⟩))
  (.seq (.cond (.t 11)
  .skip
  (.exit 0))
  (.seq (.block 1 (.seq (.reg false [⟨(some 12), none, .iadr 3 (.t 8) (.t 10)⟩, ⟨(some 13), none, .load true 3 (.t 12)⟩, ⟨(some 7), none, .alloc [(.int .i64 (0)), (.int .i64 (0)), (.int .i64 (0))]⟩, ⟨none, none, .store 3 (.t 7) (.t 13)⟩] (some ⟨[3,5,7,8,9,10], [3,7], [5]⟩))
  (.seq (.reg false [⟨(some 14), none, .fadr 0 (.t 7)⟩, ⟨(some 15), none, .load false 1 (.t 14)⟩, ⟨(some 16), none, .fadr 0 (.t 3)⟩, ⟨(some 17), none, .load false 1 (.t 16)⟩, ⟨(some 18), none, .fadr 1 (.t 3)⟩, ⟨(some 19), none, .load false 1 (.t 18)⟩, ⟨(some 20), none, .call (.f 102) [(.t 15), (.t 17), (.t 19)]⟩, ⟨(some 21), none, .mv (.t 20)⟩, ⟨(some 22), (some (21, true)), .fadr 2 (.t 7)⟩, ⟨(some 23), (some (21, true)), .load false 1 (.t 22)⟩, ⟨(some 24), (some (21, true)), .bin .neq (.t 23) (.v (.int .i64 (2)))⟩, ⟨(some 25), none, .pick (.t 21) (.t 24) (.v (.bool false))⟩] (some ⟨[3,5,7,8,9,10,25], [3,7], [5]⟩))
  (.cond (.t 25)
  (.reg false [⟨(some 26), none, .mv (.t 5)⟩, ⟨(some 27), none, .fadr 1 (.t 7)⟩, ⟨(some 28), none, .load false 1 (.t 27)⟩, ⟨(some 29), none, .bslice 1 1 [(.t 28)]⟩, ⟨(some 30), none, .append 3 1 8 (.t 26) (.t 29)⟩, ⟨(some 5), none, .mv (.t 30)⟩] (some ⟨[3,5,8,9,10], [3], [5]⟩))
  .skip))))
  (.reg false [⟨(some 31), none, .bin .add (.t 10) (.v (.int .i64 (1)))⟩, ⟨(some 10), none, .mv (.t 31)⟩] (some ⟨[3,5,8,9,10], [3], [5]⟩))))))))
  (.seq (.reg false [⟨(some 32), none, .mv (.t 5)⟩, ⟨(some 4), none, .mv (.t 32)⟩] (some ⟨[4], [], []⟩))
  .ret))))
theorem c_counted : compileCode Try.prog Try.f100.ntmps (Try.f100.body.getD .skip) A_counted = some (C_counted, []) := by kernel_rfl
theorem r_counted : compileRes Try.prog Try.f100.results.toList = some [.t 4] := by kernel_rfl
theorem b_counted : Try.f100.body = some (Try.f100.body.getD .skip) := by kernel_rfl
theorem n_counted : (Try.f100.name == "runtime.NumGoroutine") = false := by kernel_rfl
theorem fc_counted {xt : Option (List Cel)} {args : List Val} {R : List Cel → Val → Prop} (hn : (if xt.isSome then 1 else 0) + args.length ≤ Try.f100.ntmps) (h : ex Try.prog C_counted [] (fpost xt [.t 4] R) (initSt xt args)) : FC Try.prog 100 xt args R :=
  fc_of_awp Try.func100 b_counted n_counted c_counted r_counted (of_decide_eq_true (by kernel_rfl)) hn h

def A_totClos : List Ann := [⟨(some ⟨[0,1], [], []⟩), [], [], [], []⟩, ⟨(some ⟨[3], [], []⟩), [], [], [], []⟩]
def C_totClos : AC := (.seq (.reg false [⟨(some 3), none, .mv (.v (.bool false))⟩] (some ⟨[0,1], [], []⟩))
  (.seq (.reg false [⟨(some 4), none, .mv (.t 0)⟩, ⟨(some 5), none, .load false 1 (.t 1)⟩, ⟨(some 6), none, .bin .sub (.t 5) (.v (.int .i64 (1)))⟩, ⟨(some 7), none, .call (.f 102) [(.t 4), (.v (.int .i64 (0))), (.t 6)]⟩, ⟨(some 8), none, .un .not (.t 7)⟩, ⟨(some 3), none, .mv (.t 8)⟩] (some ⟨[3], [], []⟩))
  .ret))
theorem c_totClos : compileCode Try.prog Try.f101.ntmps (Try.f101.body.getD .skip) A_totClos = some (C_totClos, []) := by kernel_rfl
theorem r_totClos : compileRes Try.prog Try.f101.results.toList = some [.t 3] := by kernel_rfl
theorem b_totClos : Try.f101.body = some (Try.f101.body.getD .skip) := by kernel_rfl
theorem n_totClos : (Try.f101.name == "runtime.NumGoroutine") = false := by kernel_rfl
theorem fc_totClos {xt : Option (List Cel)} {args : List Val} {R : List Cel → Val → Prop} (hn : (if xt.isSome then 1 else 0) + args.length ≤ Try.f101.ntmps) (h : ex Try.prog C_totClos [] (fpost xt [.t 3] R) (initSt xt args)) : FC Try.prog 101 xt args R :=
  fc_of_awp Try.func101 b_totClos n_totClos c_totClos r_totClos (of_decide_eq_true (by kernel_rfl)) hn h

def A_contInt : List Ann := [⟨(some ⟨[0,1], [], []⟩), [], [], [], []⟩, ⟨(some ⟨[4], [], []⟩), [], [], [], []⟩]
def C_contInt : AC := (.seq (.reg false [⟨(some 4), none, .mv (.v (.bool false))⟩] (some ⟨[0,1], [], []⟩))
  (.seq (.reg false [⟨(some 5), none, .mv (.t 0)⟩, ⟨(some 6), none, .mv (.t 1)⟩, ⟨(some 7), none, .call (.f 137) [(.t 5), (.t 6)]⟩, ⟨(some 8), none, .bin .geq (.t 7) (.v (.int .i64 (0)))⟩, ⟨(some 4), none, .mv (.t 8)⟩] (some ⟨[4], [], []⟩))
  .ret))
theorem c_contInt : compileCode Try.prog Try.f99.ntmps (Try.f99.body.getD .skip) A_contInt = some (C_contInt, []) := by kernel_rfl
theorem r_contInt : compileRes Try.prog Try.f99.results.toList = some [.t 4] := by kernel_rfl
theorem b_contInt : Try.f99.body = some (Try.f99.body.getD .skip) := by kernel_rfl
theorem n_contInt : (Try.f99.name == "runtime.NumGoroutine") = false := by kernel_rfl
theorem fc_contInt {xt : Option (List Cel)} {args : List Val} {R : List Cel → Val → Prop} (hn : (if xt.isSome then 1 else 0) + args.length ≤ Try.f99.ntmps) (h : ex Try.prog C_contInt [] (fpost xt [.t 4] R) (initSt xt args)) : FC Try.prog 99 xt args R :=
  fc_of_awp Try.func99 b_contInt n_contInt c_contInt r_contInt (of_decide_eq_true (by kernel_rfl)) hn h

def A_idxInt : List Ann := [⟨(some ⟨[0,1], [], []⟩), [], [], [], []⟩, ⟨(some ⟨[0,1,7,8], [], []⟩), [], [], [], []⟩, ⟨(some ⟨[0,1,7,8,9], [], []⟩), [], [], [], []⟩, ⟨(some ⟨[0,1,5,7,8], [], []⟩), [], [], [], []⟩, ⟨(some ⟨[0,1,5,7,8,16], [], []⟩), [], [], [], []⟩, ⟨(some ⟨[4], [], []⟩), [], [], [], []⟩, ⟨(some ⟨[0,1,7,8], [], []⟩), [], [], [], []⟩, ⟨(some ⟨[4], [], []⟩), [], [], [], []⟩]
def C_idxInt : AC := (.seq (.reg false [⟨(some 4), none, .mv (.v (.int .i64 (0)))⟩] (some ⟨[0,1], [], []⟩))
  (.seq (.seq (.reg false [⟨(some 6), none, .mv (.t 0)⟩, ⟨(some 7), none, .len (.t 6)⟩, ⟨(some 8), none, .mv (.v (.int .i64 (0)))⟩] (some ⟨[0,1,7,8], [], []⟩))
  (.block 0 (.loop (.seq (.reg false [⟨(some 9), none, .bin .lss (.t 8) (.t 7)⟩] (some ⟨[0,1,7,8,9], [], []⟩))
  (.seq (.cond (.t 9)
  .skip
  (.exit 0))
  (.seq (.block 1 (.seq (.reg false [⟨(some 10), none, .mv (.t 8)⟩, ⟨(some 5), none, .mv (.t 10)⟩] (some ⟨[0,1,5,7,8], [], []⟩))
  (.seq (.reg false [⟨(some 11), none, .mv (.t 1)⟩, ⟨(some 12), none, .mv (.t 0)⟩, ⟨(some 13), none, .mv (.t 5)⟩, ⟨(some 14), none, .iadr 1 (.t 12) (.t 13)⟩, ⟨(some 15), none, .load false 1 (.t 14)⟩, ⟨(some 16), none, .call (.t 11) [(.t 15)]⟩] (some ⟨[0,1,5,7,8,16], [], []⟩))
  (.cond (.t 16)
  (.seq (.reg false [⟨(some 17), none, .mv (.t 5)⟩, ⟨(some 4), none, .mv (.t 17)⟩] (some ⟨[4], [], []⟩))
  .ret)
  .skip))))
  (.reg false [⟨(some 18), none, .bin .add (.t 8) (.v (.int .i64 (1)))⟩, ⟨(some 8), none, .mv (.t 18)⟩] (some ⟨[0,1,7,8], [], []⟩))))))))
  (.seq (.reg false [⟨(some 4), none, .mv (.v (.int .i64 (-1)))⟩] (some ⟨[4], [], []⟩))
  .ret)))
theorem c_idxInt : compileCode Try.prog Try.f137.ntmps (Try.f137.body.getD .skip) A_idxInt = some (C_idxInt, []) := by kernel_rfl
theorem r_idxInt : compileRes Try.prog Try.f137.results.toList = some [.t 4] := by kernel_rfl
theorem b_idxInt : Try.f137.body = some (Try.f137.body.getD .skip) := by kernel_rfl
theorem n_idxInt : (Try.f137.name == "runtime.NumGoroutine") = false := by kernel_rfl
theorem fc_idxInt {xt : Option (List Cel)} {args : List Val} {R : List Cel → Val → Prop} (hn : (if xt.isSome then 1 else 0) + args.length ≤ Try.f137.ntmps) (h : ex Try.prog C_idxInt [] (fpost xt [.t 4] R) (initSt xt args)) : FC Try.prog 137 xt args R :=
  fc_of_awp Try.func137 b_idxInt n_idxInt c_idxInt r_idxInt (of_decide_eq_true (by kernel_rfl)) hn h

def A_totalFault : List Ann := [⟨(some ⟨[0,4,5], [4,5], []⟩), [], [], [], []⟩, ⟨(some ⟨[0,4,5,7], [4,5], []⟩), [], [], [], []⟩, ⟨(some ⟨[0,4,5,7,11], [4,5], []⟩), [], [], [], []⟩, ⟨(some ⟨[6], [], []⟩), [], [], [], []⟩, ⟨(some ⟨[17], [], []⟩), [], [], [], []⟩, ⟨(some ⟨[6], [], []⟩), [], [], [], []⟩, ⟨(some ⟨[6], [], []⟩), [], [], [], []⟩]
def C_totalFault : AC := (.seq (.reg false [⟨(some 4), none, .box (.t 1)⟩, ⟨(some 5), none, .box (.t 2)⟩, ⟨(some 6), none, .mv (.v (.int .i64 (0)))⟩] (some ⟨[0,4,5], [4,5], []⟩))
  (.seq (.seq (.reg false [⟨(some 8), none, .load false 1 (.t 5)⟩, ⟨(some 9), none, .call (.f 58) [(.t 8), (.v (.int .i64 (1))), (.v (.int .i64 (2000000000)))]⟩, ⟨(some 7), none, .mv (.t 9)⟩] (some ⟨[0,4,5,7], [4,5], []⟩))
  (.seq (.reg false [⟨(some 10), none, .mv (.t 7)⟩, ⟨(some 11), none, .bin .neq (.t 10) (.v (.int .i64 (0)))⟩] (some ⟨[0,4,5,7,11], [4,5], []⟩))
  (.cond (.t 11)
  (.seq (.reg false [⟨(some 12), none, .mv (.t 7)⟩, ⟨(some 6), none, .mv (.t 12)⟩] (some ⟨[6], [], []⟩))
  .ret)
  .skip)))
  (.seq (.seq (.reg false [⟨(some 13), none, .mv (.t 0)⟩, ⟨(some 14), none, .load true 2 (.t 4)⟩, ⟨(some 15), none, .call (.f 100) [(.t 13), (.t 14)]⟩, ⟨(some 16), none, .mkfn 101 [(.t 5)]⟩, ⟨(some 17), none, .call (.f 99) [(.t 15), (.t 16)]⟩] (some ⟨[17], [], []⟩))
  (.cond (.t 17)
  (.seq (.reg false [⟨(some 6), none, .mv (.v (.int .i64 (16)))⟩] (some ⟨[6], [], []⟩))
  .ret)
  .skip))
  (.seq (.reg false [⟨(some 6), none, .mv (.v (.int .i64 (0)))⟩] (some ⟨[6], [], []⟩))
  .ret))))
theorem c_totalFault : compileCode Try.prog Try.f45.ntmps (Try.f45.body.getD .skip) A_totalFault = some (C_totalFault, []) := by kernel_rfl
theorem r_totalFault : compileRes Try.prog Try.f45.results.toList = some [.t 6] := by kernel_rfl
theorem b_totalFault : Try.f45.body = some (Try.f45.body.getD .skip) := by kernel_rfl
theorem n_totalFault : (Try.f45.name == "runtime.NumGoroutine") = false := by kernel_rfl
theorem fc_totalFault {xt : Option (List Cel)} {args : List Val} {R : List Cel → Val → Prop} (hn : (if xt.isSome then 1 else 0) + args.length ≤ Try.f45.ntmps) (h : ex Try.prog C_totalFault [] (fpost xt [.t 6] R) (initSt xt args)) : FC Try.prog 45 xt args R :=
  fc_of_awp Try.func45 b_totalFault n_totalFault c_totalFault r_totalFault (of_decide_eq_true (by kernel_rfl)) hn h

def A_totalOf : List Ann := [⟨(some ⟨[0,2,4], [4], []⟩), [], [], [], []⟩, ⟨(some ⟨[0,2,4,7,8], [4], []⟩), [], [], [], []⟩, ⟨(some ⟨[2,7,8,13,14,15], [], []⟩), [], [], [], []⟩, ⟨(some ⟨[2,7,8,13,14,15,16], [], []⟩), [], [], [], []⟩, ⟨(some ⟨[2,7,8,10,13,14,15], [], []⟩), [], [], [], []⟩, ⟨(some ⟨[2,7,8,10,13,14,15,20], [], []⟩), [], [], [], []⟩, ⟨(some ⟨[2,7,8,10,13,14,15], [], []⟩), [], [], [], []⟩, ⟨(some ⟨[2,7,10,13,14,15,28], [], []⟩), [], [], [], []⟩, ⟨(some ⟨[2,7,10,13,14,15], [], []⟩), [], [], [], []⟩, ⟨(some ⟨[2,7,8,13,14,15], [], []⟩), [], [], [], []⟩, ⟨(some ⟨[2,7,8,13,14,15], [], []⟩), [], [], [], []⟩, ⟨(some ⟨[6], [], []⟩), [], [], [], []⟩]
def C_totalOf : AC := (.seq (.reg false [⟨(some 4), none, .box (.t 1)⟩, ⟨(some 6), none, .mv (.v (.int .i64 (0)))⟩] (some ⟨[0,2,4], [4], []⟩))
  (.seq (.reg false [⟨(some 7), none, .mv (.v (.int .i64 (0)))⟩, ⟨(some 8), none, .mv (.v (.int .i64 (-1)))⟩] (some ⟨[0,2,4,7,8], [4], []⟩))
  (.seq (.seq (.reg false [⟨(some 11), none, .mv (.t 0)⟩, ⟨(some 12), none, .load true 2 (.t 4)⟩, ⟨(some 13), none, .call (.f 100) [(.t 11), (.t 12)]⟩, ⟨(some 14), none, .len (.t 13)⟩, ⟨(some 15), none, .mv (.v (.int .i64 (0)))⟩] (some ⟨[2,7,8,13,14,15], [], []⟩))
  (.block 0 (.loop (.seq (.reg false [⟨(some 16), none, .bin .lss (.t 15) (.t 14)⟩] (some ⟨[2,7,8,13,14,15,16], [], []⟩))
  (.seq (.cond (.t 16)
  .skip
  (.exit 0))
  (.seq (.block 1 (.seq (.reg false [⟨(some 17), none, .iadr 1 (.t 13) (.t 15)⟩, ⟨(some 18), none, .load false 1 (.t 17)⟩, ⟨(some 10), none, .mv (.t 18)⟩] (some ⟨[2,7,8,10,13,14,15], [], []⟩))
  (.seq (.seq (.reg false [⟨(some 19), none, .mv (.t 8)⟩, ⟨(some 20), none, .bin .geq (.t 19) (.v (.int .i64 (0)))⟩] (some ⟨[2,7,8,10,13,14,15,20], [], []⟩))
  (.cond (.t 20)
  (.reg false [⟨(some 21), none, .mv (.t 7)⟩, ⟨(some 22), none, .mv (.t 10)⟩, ⟨(some 23), none, .mv (.t 8)⟩, ⟨(some 24), none, .bin .sub (.t 22) (.t 23)⟩, ⟨(some 25), none, .bin .add (.t 21) (.t 24)⟩, ⟨(some 7), none, .mv (.t 25)⟩] (some ⟨[2,7,8,10,13,14,15], [], []⟩))
  .skip))
  (.seq (.seq (.reg false [⟨(some 26), none, .mv (.t 8)⟩, ⟨(some 27), none, .mv (.t 10)⟩, ⟨(some 28), none, .bin .gtr (.t 26) (.t 27)⟩] (some ⟨[2,7,10,13,14,15,28], [], []⟩))
  (.cond (.t 28)
  (.reg false [⟨(some 29), none, .mv (.t 7)⟩, ⟨(some 30), none, .mv (.t 2)⟩, ⟨(some 31), none, .bin .add (.t 29) (.t 30)⟩, ⟨(some 7), none, .mv (.t 31)⟩] (some ⟨[2,7,10,13,14,15], [], []⟩))
  .skip))
  (.reg false [⟨(some 32), none, .mv (.t 10)⟩, ⟨(some 8), none, .mv (.t 32)⟩] (some ⟨[2,7,8,13,14,15], [], []⟩))))))
  (.reg false [⟨(some 33), none, .bin .add (.t 15) (.v (.int .i64 (1)))⟩, ⟨(some 15), none, .mv (.t 33)⟩] (some ⟨[2,7,8,13,14,15], [], []⟩))))))))
  (.seq (.reg false [⟨(some 34), none, .mv (.t 7)⟩, ⟨(some 6), none, .mv (.t 34)⟩] (some ⟨[6], [], []⟩))
  .ret))))
theorem c_totalOf : compileCode Try.prog Try.f46.ntmps (Try.f46.body.getD .skip) A_totalOf = some (C_totalOf, []) := by kernel_rfl
theorem r_totalOf : compileRes Try.prog Try.f46.results.toList = some [.t 6] := by kernel_rfl
theorem b_totalOf : Try.f46.body = some (Try.f46.body.getD .skip) := by kernel_rfl
theorem n_totalOf : (Try.f46.name == "runtime.NumGoroutine") = false := by kernel_rfl
theorem fc_totalOf {xt : Option (List Cel)} {args : List Val} {R : List Cel → Val → Prop} (hn : (if xt.isSome then 1 else 0) + args.length ≤ Try.f46.ntmps) (h : ex Try.prog C_totalOf [] (fpost xt [.t 6] R) (initSt xt args)) : FC Try.prog 46 xt args R :=
  fc_of_awp Try.func46 b_totalOf n_totalOf c_totalOf r_totalOf (of_decide_eq_true (by kernel_rfl)) hn h

def A_countedOf : List Ann := [⟨(some ⟨[0,2,4], [4], []⟩), [], [], [], []⟩, ⟨(some ⟨[0,2,4,7], [4], []⟩), [], [], [], []⟩, ⟨(some ⟨[2,4,7,10,11,12], [4], []⟩), [], [], [], []⟩, ⟨(some ⟨[2,4,7,10,11,12,13], [4], []⟩), [], [], [], []⟩, ⟨(some ⟨[2,4,7,9,10,11,12], [4,9], []⟩), [], [], [], []⟩, ⟨(some ⟨[2,4,7,10,11,12,29], [4], []⟩), [], [], [], []⟩, ⟨(some ⟨[2,4,7,10,11,12], [4], []⟩), [], [], [], []⟩, ⟨(some ⟨[2,4,7,10,11,12], [4], []⟩), [], [], [], []⟩, ⟨(some ⟨[6], [], []⟩), [], [], [], []⟩]
def C_countedOf : AC := (.seq (.reg false [⟨(some 4), none, .box (.t 1)⟩, ⟨(some 6), none, .mv (.v (.int .i64 (0)))⟩] (some ⟨[0,2,4], [4], []⟩))
  (.seq (.reg false [⟨(some 7), none, .mv (.v (.int .i64 (0)))⟩] (some ⟨[0,2,4,7], [4], []⟩))
  (.seq (.seq (.reg false [⟨(some 10), none, .mv (.t 0)⟩, ⟨(some 11), none, .len (.t 10)⟩, ⟨(some 12), none, .mv (.v (.int .i64 (0)))⟩] (some ⟨[2,4,7,10,11,12], [4], []⟩))
  (.block 0 (.loop (.seq (.reg false [⟨(some 13), none, .bin .lss (.t 12) (.t 11)⟩] (some ⟨[2,4,7,10,11,12,13], [4], []⟩))
  (.seq (.cond (.t 13)
  .skip
  (.exit 0))
  (.seq (.block 1 (.seq (.reg false [⟨(some 14), none, .iadr 3 (.t 10) (.t 12)⟩, ⟨(some 15), none, .load true 3 (.t 14)⟩, ⟨(some 9), none, .alloc [(.int .i64 (0)), (.int .i64 (0)), (.int .i64 (0))]⟩, ⟨none, none, .store 3 (.t 9) (.t 15)⟩] (some ⟨[2,4,7,9,10,11,12], [4,9], []⟩))
  (.seq (.reg false [⟨(some 16), none, .fadr 0 (.t 9)⟩, ⟨(some 17), none, .load false 1 (.t 16)⟩, ⟨(some 18), none, .fadr 0 (.t 4)⟩, ⟨(some 19), none, .load false 1 (.t 18)⟩, ⟨(some 20), none, .fadr 1 (.t 4)⟩, ⟨(some 21), none, .load false 1 (.t 20)⟩, ⟨(some 22), none, .bin .sub (.t 21) (.v (.int .i64 (1)))⟩, ⟨(some 23), none, .call (.f 102) [(.t 17), (.t 19), (.t 22)]⟩, ⟨(some 24), none, .mv (.t 23)⟩, ⟨(some 25), (some (24, true)), .fadr 2 (.t 9)⟩, ⟨(some 26), (some (24, true)), .load false 1 (.t 25)⟩, ⟨(some 27), (some (24, true)), .mv (.t 2)⟩, ⟨(some 28), (some (24, true)), .bin .eql (.t 26) (.t 27)⟩, ⟨(some 29), none, .pick (.t 24) (.t 28) (.v (.bool false))⟩] (some ⟨[2,4,7,10,11,12,29], [4], []⟩))
  (.cond (.t 29)
  (.reg false [⟨(some 30), none, .mv (.t 7)⟩, ⟨(some 31), none, .bin .add (.t 30) (.v (.int .i64 (1)))⟩, ⟨(some 7), none, .mv (.t 31)⟩] (some ⟨[2,4,7,10,11,12], [4], []⟩))
  .skip))))
  (.reg false [⟨(some 32), none, .bin .add (.t 12) (.v (.int .i64 (1)))⟩, ⟨(some 12), none, .mv (.t 32)⟩] (some ⟨[2,4,7,10,11,12], [4], []⟩))))))))
  (.seq (.reg false [⟨(some 33), none, .mv (.t 7)⟩, ⟨(some 6), none, .mv (.t 33)⟩] (some ⟨[6], [], []⟩))
  .ret))))
theorem c_countedOf : compileCode Try.prog Try.f47.ntmps (Try.f47.body.getD .skip) A_countedOf = some (C_countedOf, []) := by kernel_rfl
theorem r_countedOf : compileRes Try.prog Try.f47.results.toList = some [.t 6] := by kernel_rfl
theorem b_countedOf : Try.f47.body = some (Try.f47.body.getD .skip) := by kernel_rfl
theorem n_countedOf : (Try.f47.name == "runtime.NumGoroutine") = false := by kernel_rfl
theorem fc_countedOf {xt : Option (List Cel)} {args : List Val} {R : List Cel → Val → Prop} (hn : (if xt.isSome then 1 else 0) + args.length ≤ Try.f47.ntmps) (h : ex Try.prog C_countedOf [] (fpost xt [.t 6] R) (initSt xt args)) : FC Try.prog 47 xt args R :=
  fc_of_awp Try.func47 b_countedOf n_countedOf c_countedOf r_countedOf (of_decide_eq_true (by kernel_rfl)) hn h

def A_when : List Ann := [⟨(some ⟨[0,1], [], []⟩), [], [], [], []⟩, ⟨(some ⟨[1,5], [], []⟩), [], [], [], []⟩, ⟨(some ⟨[4], [], []⟩), [], [], [], []⟩, ⟨(some ⟨[4], [], []⟩), [], [], [], []⟩]
def C_when : AC := (.seq (.reg false [⟨(some 4), none, .mv (.v (.int .i64 (0)))⟩] (some ⟨[0,1], [], []⟩))
  (.seq (.seq (.reg false [⟨(some 5), none, .mv (.t 0)⟩] (some ⟨[1,5], [], []⟩))
  (.cond (.t 5)
  (.seq (.reg false [⟨(some 6), none, .mv (.t 1)⟩, ⟨(some 4), none, .mv (.t 6)⟩] (some ⟨[4], [], []⟩))
  .ret)
  .skip))
  (.seq (.reg false [⟨(some 4), none, .mv (.v (.int .i64 (0)))⟩] (some ⟨[4], [], []⟩))
  .ret)))
theorem c_when : compileCode Try.prog Try.f44.ntmps (Try.f44.body.getD .skip) A_when = some (C_when, []) := by kernel_rfl
theorem r_when : compileRes Try.prog Try.f44.results.toList = some [.t 4] := by kernel_rfl
theorem b_when : Try.f44.body = some (Try.f44.body.getD .skip) := by kernel_rfl
theorem n_when : (Try.f44.name == "runtime.NumGoroutine") = false := by kernel_rfl
theorem fc_when {xt : Option (List Cel)} {args : List Val} {R : List Cel → Val → Prop} (hn : (if xt.isSome then 1 else 0) + args.length ≤ Try.f44.ntmps) (h : ex Try.prog C_when [] (fpost xt [.t 4] R) (initSt xt args)) : FC Try.prog 44 xt args R :=
  fc_of_awp Try.func44 b_when n_when c_when r_when (of_decide_eq_true (by kernel_rfl)) hn h

def A_ct : List Ann := [⟨(some ⟨[0], [], []⟩), [], [], [], []⟩, ⟨(some ⟨[3,19], [19], []⟩), [], [], [], []⟩, ⟨(some ⟨[3,4,5,6,7,19], [5,19], []⟩), [], [], [], []⟩, ⟨(some ⟨[3,4,5,6,7,19,31], [5,19], []⟩), [], [], [], []⟩, ⟨(some ⟨[4,5,6,7], [5], []⟩), [], [], [], []⟩, ⟨(some ⟨[4,5,6,7,8], [5], []⟩), [], [], [], []⟩, ⟨(some ⟨[4,5,6,7,8,9,10], [5], []⟩), [], [], [], []⟩, ⟨(some ⟨[4,5,6,7,8,9,10,11,12], [5], []⟩), [], [], [], []⟩, ⟨(some ⟨[4,5,6,7,9,10,11,12,13,14], [5], []⟩), [], [], [], []⟩, ⟨(some ⟨[4,5,6,7,9,10,11,12,13,14,15,16], [5], []⟩), [], [], [], []⟩, ⟨(some ⟨[4,5,6,7,9,10,11,12,13,14,15,16,66], [5], []⟩), [], [], [], []⟩, ⟨(some ⟨[4,5,6,7,9,10,11,12,13,14,15,16], [5], []⟩), [], [], [], []⟩, ⟨(some ⟨[4,5,6,7,9,10,11,12,13,14,15,16,72], [5], []⟩), [], [], [], []⟩, ⟨(some ⟨[4,5,7,9,10,11,12,13,14,15,16], [5], []⟩), [], [], [], []⟩, ⟨(some ⟨[4,5,7,9,10,11,12,13,14,15,16,78], [5], []⟩), [], [], [], []⟩, ⟨(some ⟨[9,10,11,12,13,14,15,16], [], []⟩), [], [], [], []⟩, ⟨(some ⟨[2], [], []⟩), [], [], [], []⟩]
def C_ct : AC := (.seq (.reg false [⟨(some 2), none, .mv (.v (.bool false))⟩] (some ⟨[0], [], []⟩))
  (.seq (.reg false [⟨(some 17), none, .mv (.t 0)⟩, ⟨(some 18), none, .build [(.slice none 0 0), (.int .i64 (0))] [(0, 1, (.t 17))]⟩, ⟨(some 19), none, .box (.t 18)⟩, ⟨(some 3), none, .mv (.t 19)⟩] (some ⟨[3,19], [19], []⟩))
  (.seq (.reg false [⟨(some 20), none, .mv (.t 3)⟩, ⟨(some 21), none, .callx (.f 41) [(.t 20)]⟩, ⟨(some 22), none, .mv (.t 3)⟩, ⟨(some 23), none, .callx (.f 18) [(.t 22)]⟩, ⟨(some 24), none, .mv (.t 3)⟩, ⟨(some 25), none, .bslice 1 6 [(.v (.int .i64 (10))), (.v (.int .i64 (10))), (.v (.int .i64 (10))), (.v (.int .i64 (5))), (.v (.int .i64 (0))), (.v (.int .i64 (2000000001)))]⟩, ⟨(some 26), none, .callx (.f 19) [(.t 24), (.t 25)]⟩, ⟨(some 27), none, .mv (.t 3)⟩, ⟨(some 28), none, .bslice 1 4 [(.v (.int .i64 (0))), (.v (.int .i64 (1))), (.v (.int .i64 (2))), (.v (.int .i64 (3)))]⟩, ⟨(some 29), none, .callx (.f 19) [(.t 27), (.t 28)]⟩, ⟨(some 5), none, .alloc [(.int .i64 (0)), (.int .i64 (0))]⟩, ⟨(some 4), none, .mv (.t 21)⟩, ⟨none, none, .store 2 (.t 5) (.t 23)⟩, ⟨(some 6), none, .mv (.t 26)⟩, ⟨(some 7), none, .mv (.t 29)⟩] (some ⟨[3,4,5,6,7,19], [5,19], []⟩))
  (.seq (.seq (.reg false [⟨(some 30), none, .mv (.t 3)⟩, ⟨(some 31), none, .callx (.f 16) [(.t 30), (.v (.int .i64 (5)))]⟩] (some ⟨[3,4,5,6,7,19,31], [5,19], []⟩))
  (.cond (.t 31)
  (.reg false [⟨(some 32), none, .mv (.t 3)⟩, ⟨(some 33), none, .callx (.f 15) [(.t 32), (.v (.int .i64 (8)))]⟩, ⟨(some 4), none, .mv (.t 33)⟩] (some ⟨[4,5,6,7], [5], []⟩))
  .skip))
  (.seq (.reg true [⟨(some 34), none, .mv (.t 4)⟩, ⟨(some 35), none, .call (.f 20) [(.t 34)]⟩, ⟨(some 36), none, .load true 2 (.t 5)⟩, ⟨(some 37), none, .call (.f 25) [(.t 36)]⟩, ⟨(some 38), none, .bslice 1 2 [(.t 35), (.t 37)]⟩, ⟨(some 39), none, .call (.f 23) [(.t 38)]⟩, ⟨(some 8), none, .mv (.t 39)⟩] (some ⟨[4,5,6,7,8], [5], []⟩))
  (.seq (.reg false [⟨(some 41), none, .mv (.t 4)⟩, ⟨(some 42), none, .load true 2 (.t 5)⟩, ⟨(some 43), none, .mv (.t 6)⟩, ⟨(some 44), none, .call (.f 42) [(.t 41), (.t 42), (.t 43)]⟩, ⟨(some 40), none, .mv (.t 44)⟩, ⟨(some 45), none, .extr (.t 40) 0⟩, ⟨(some 46), none, .extr (.t 40) 1⟩, ⟨(some 9), none, .mv (.t 45)⟩, ⟨(some 10), none, .mv (.t 46)⟩] (some ⟨[4,5,6,7,8,9,10], [5], []⟩))
  (.seq (.reg false [⟨(some 48), none, .mv (.t 4)⟩, ⟨(some 49), none, .load true 2 (.t 5)⟩, ⟨(some 50), none, .mv (.t 7)⟩, ⟨(some 51), none, .call (.f 43) [(.t 48), (.t 49), (.t 50)]⟩, ⟨(some 47), none, .mv (.t 51)⟩, ⟨(some 52), none, .extr (.t 47) 0⟩, ⟨(some 53), none, .extr (.t 47) 1⟩, ⟨(some 11), none, .mv (.t 52)⟩, ⟨(some 12), none, .mv (.t 53)⟩] (some ⟨[4,5,6,7,8,9,10,11,12], [5], []⟩))
  (.seq (.reg false [⟨(some 54), none, .mv (.t 8)⟩, ⟨(some 55), none, .mv (.t 8)⟩, ⟨(some 56), none, .mv (.t 7)⟩, ⟨(some 57), none, .bin .lss (.t 56) (.v (.int .i64 (0)))⟩, ⟨(some 58), none, .mv (.t 57)⟩, ⟨(some 59), (some (58, false)), .mv (.t 7)⟩, ⟨(some 60), (some (58, false)), .bin .gtr (.t 59) (.v (.int .i64 (2)))⟩, ⟨(some 61), none, .pick (.t 58) (.v (.bool true)) (.t 60)⟩, ⟨(some 62), none, .call (.f 44) [(.t 61), (.v (.int .i64 (4)))]⟩, ⟨(some 63), none, .bslice 1 2 [(.t 55), (.t 62)]⟩, ⟨(some 64), none, .call (.f 23) [(.t 63)]⟩, ⟨(some 13), none, .mv (.t 54)⟩, ⟨(some 14), none, .mv (.t 64)⟩] (some ⟨[4,5,6,7,9,10,11,12,13,14], [5], []⟩))
  (.seq (.reg false [⟨(some 15), none, .mv (.v (.int .i64 (0)))⟩, ⟨(some 16), none, .mv (.v (.int .i64 (0)))⟩] (some ⟨[4,5,6,7,9,10,11,12,13,14,15,16], [5], []⟩))
  (.seq (.seq (.reg false [⟨(some 65), none, .mv (.t 13)⟩, ⟨(some 66), none, .bin .eql (.t 65) (.v (.int .i64 (0)))⟩] (some ⟨[4,5,6,7,9,10,11,12,13,14,15,16,66], [5], []⟩))
  (.cond (.t 66)
  (.seq (.reg false [⟨(some 67), none, .mv (.t 4)⟩, ⟨(some 68), none, .load true 2 (.t 5)⟩, ⟨(some 69), none, .mv (.t 6)⟩, ⟨(some 70), none, .call (.f 45) [(.t 67), (.t 68), (.t 69)]⟩, ⟨(some 13), none, .mv (.t 70)⟩] (some ⟨[4,5,6,7,9,10,11,12,13,14,15,16], [5], []⟩))
  (.seq (.reg false [⟨(some 71), none, .mv (.t 13)⟩, ⟨(some 72), none, .bin .eql (.t 71) (.v (.int .i64 (0)))⟩] (some ⟨[4,5,6,7,9,10,11,12,13,14,15,16,72], [5], []⟩))
  (.cond (.t 72)
  (.reg false [⟨(some 73), none, .mv (.t 4)⟩, ⟨(some 74), none, .load true 2 (.t 5)⟩, ⟨(some 75), none, .mv (.t 6)⟩, ⟨(some 76), none, .call (.f 46) [(.t 73), (.t 74), (.t 75)]⟩, ⟨(some 15), none, .mv (.t 76)⟩] (some ⟨[4,5,7,9,10,11,12,13,14,15,16], [5], []⟩))
  .skip)))
  .skip))
  (.seq (.seq (.reg false [⟨(some 77), none, .mv (.t 14)⟩, ⟨(some 78), none, .bin .eql (.t 77) (.v (.int .i64 (0)))⟩] (some ⟨[4,5,7,9,10,11,12,13,14,15,16,78], [5], []⟩))
  (.cond (.t 78)
  (.reg false [⟨(some 79), none, .mv (.t 4)⟩, ⟨(some 80), none, .load true 2 (.t 5)⟩, ⟨(some 81), none, .mv (.t 7)⟩, ⟨(some 82), none, .call (.f 47) [(.t 79), (.t 80), (.t 81)]⟩, ⟨(some 16), none, .mv (.t 82)⟩] (some ⟨[9,10,11,12,13,14,15,16], [], []⟩))
  .skip))
  (.seq (.reg false [⟨(some 83), none, .mv (.t 10)⟩, ⟨(some 84), none, .mv (.t 13)⟩, ⟨(some 85), none, .bin .eql (.t 83) (.t 84)⟩, ⟨(some 86), none, .mv (.t 85)⟩, ⟨(some 87), (some (86, true)), .mv (.t 9)⟩, ⟨(some 88), (some (86, true)), .mv (.t 15)⟩, ⟨(some 89), (some (86, true)), .bin .eql (.t 87) (.t 88)⟩, ⟨(some 90), none, .pick (.t 86) (.t 89) (.v (.bool false))⟩, ⟨(some 91), none, .mv (.t 90)⟩, ⟨(some 92), (some (91, true)), .mv (.t 12)⟩, ⟨(some 93), (some (91, true)), .mv (.t 14)⟩, ⟨(some 94), (some (91, true)), .bin .eql (.t 92) (.t 93)⟩, ⟨(some 95), none, .pick (.t 91) (.t 94) (.v (.bool false))⟩, ⟨(some 96), none, .mv (.t 95)⟩, ⟨(some 97), (some (96, true)), .mv (.t 11)⟩, ⟨(some 98), (some (96, true)), .mv (.t 16)⟩, ⟨(some 99), (some (96, true)), .bin .eql (.t 97) (.t 98)⟩, ⟨(some 100), none, .pick (.t 96) (.t 99) (.v (.bool false))⟩, ⟨(some 101), none, .mv (.t 100)⟩, ⟨(some 102), (some (101, true)), .call (.f 30) []⟩, ⟨(some 103), none, .pick (.t 101) (.t 102) (.v (.bool false))⟩, ⟨(some 2), none, .mv (.t 103)⟩] (some ⟨[2], [], []⟩))
  .ret))))))))))))
theorem c_ct : compileCode Try.prog Try.f5.ntmps (Try.f5.body.getD .skip) A_ct = some (C_ct, []) := by kernel_rfl
theorem r_ct : compileRes Try.prog Try.f5.results.toList = some [.t 2] := by kernel_rfl
theorem b_ct : Try.f5.body = some (Try.f5.body.getD .skip) := by kernel_rfl
theorem n_ct : (Try.f5.name == "runtime.NumGoroutine") = false := by kernel_rfl
theorem fc_ct {xt : Option (List Cel)} {args : List Val} {R : List Cel → Val → Prop} (hn : (if xt.isSome then 1 else 0) + args.length ≤ Try.f5.ntmps) (h : ex Try.prog C_ct [] (fpost xt [.t 2] R) (initSt xt args)) : FC Try.prog 5 xt args R :=
  fc_of_awp Try.func5 b_ct n_ct c_ct r_ct (of_decide_eq_true (by kernel_rfl)) hn h



theorem baseIn_fc (f t a : Int) : FC Try.prog 136 none [winV f t, iv a] (fun _ r => r = bv (decide (f ≤ a ∧ a < t))) := by
  refine fc_baseIn (by simp +arith) ?_
  unfold C_baseIn
  by_cases h : f ≤ a
  · simp (maxSteps := 1000000) (disch := omega) only [go_sem, eq_self, decide_true, decide_false, not_true_eq_false, not_false_eq_true, reduceIte, reduceCtorEq, Nat.reduceEqDiff, Nat.reduceAdd, Nat.reduceSub, Nat.reduceLeDiff]
    exact bv_congr (by simp [h])
  · simp (maxSteps := 1000000) (disch := omega) only [go_sem, eq_self, decide_true, decide_false, not_true_eq_false, not_false_eq_true, reduceIte, reduceCtorEq, Nat.reduceEqDiff, Nat.reduceAdd, Nat.reduceSub, Nat.reduceLeDiff]
    exact bv_congr (by simp [h])
/-- The samples within a window; with its end, if b. -/
def insP (f t : Int) (b : Bool) (x : Smp) : Bool := decide (f ≤ x.a ∧ x.a < t) || (b && decide (x.a = t))
def ins (l : List Smp) (f t : Int) (b : Bool) : List Smp := l.filter (insP f t b)
def insSt (l : List Smp) (f t : Int) (b : Bool) (x : Int × List Smp) : AS := ⟨tabV [(2, bv b), (4, .one (.bx 4 0)), (7, .one (.ow 7 0)), (10, smps false l), (11, iv l.length), (12, iv x.1)], tabO [(4, [.g (.int .i64 f), .g (.int .i64 t)])], tabO [(7, ⟨0, 111, 3, x.2.map smpC⟩)]⟩
theorem inside_fc (l : List Smp) (hl : l.length ≤ 5000) (f t : Int) (b : Bool) : FC Try.prog 98 none [smps false l, winV f t, bv b] (fun _ r => r = smps true (ins l f t b)) := by
  refine fc_inside (by simp +arith) ?_
  unfold C_inside
  simp (maxSteps := 1000000) (disch := omega) only [go_sem, eq_self, decide_true, decide_false, not_true_eq_false, not_false_eq_true, reduceIte, reduceCtorEq, Nat.reduceEqDiff, Nat.reduceAdd, Nat.reduceSub, Nat.reduceLeDiff]
  refine ex_loopI (insSt l f t b) (fun x => 0 ≤ x.1 ∧ x.1 ≤ l.length ∧ x.2.length ≤ x.1 ∧ x.2 ++ (l.drop x.1.toNat).filter (insP f t b) = ins l f t b) (fun x => (l.length - x.1).toNat) (0, []) ⟨by simp, by simp only; omega, by simp, by simp [ins]⟩ rfl ?_
  rintro ⟨i, acc⟩ ⟨g1, g2, g3, g4⟩
  simp only at g1 g2 g3 g4
  unfold insSt
  by_cases hi : i < l.length
  · rw [drop_cons l i.toNat (by omega), List.filter_cons] at g4
    have e2 : (i + 1).toNat = i.toNat + 1 := by omega
    simp (maxSteps := 1000000) (disch := omega) only [go_sem, eq_self, decide_true, decide_false, not_true_eq_false, not_false_eq_true, reduceIte, reduceCtorEq, Nat.reduceEqDiff, Nat.reduceAdd, Nat.reduceSub, Nat.reduceLeDiff]
    refine CALL_det (baseIn_fc f t _) (.inl rfl) ?_
    by_cases h1 : f ≤ (l.getD i.toNat default).a ∧ (l.getD i.toNat default).a < t
    · have h2 : insP f t b (l.getD i.toNat default) = true := by simp only [insP, decide_eq_true h1, Bool.true_or]
      rw [if_pos h2] at g4
      simp (maxSteps := 1000000) (disch := omega) only [go_sem, eq_self, decide_true, decide_false, not_true_eq_false, not_false_eq_true, reduceIte, reduceCtorEq, Nat.reduceEqDiff, Nat.reduceAdd, Nat.reduceSub, Nat.reduceLeDiff]
      refine ⟨(i + 1, acc ++ [l.getD i.toNat default]), ⟨by simp only; omega, by simp only; omega, by simp; omega, by simp only [e2]; simpa using g4⟩, by simp [insSt, smpC], by simp only; omega⟩
    · cases b with
      | false =>
        have h2 : insP f t false (l.getD i.toNat default) = false := by simp only [insP, h1]; rfl
        rw [h2] at g4
        simp (maxSteps := 1000000) (disch := omega) only [go_sem, eq_self, decide_true, decide_false, not_true_eq_false, not_false_eq_true, reduceIte, reduceCtorEq, Nat.reduceEqDiff, Nat.reduceAdd, Nat.reduceSub, Nat.reduceLeDiff]
        exact ⟨(i + 1, acc), ⟨by simp only; omega, by simp only; omega, by simp only; omega, by simp only [e2]; simpa using g4⟩, rfl, by simp only; omega⟩
      | true =>
        by_cases h3 : (l.getD i.toNat default).a = t
        · have h2 : insP f t true (l.getD i.toNat default) = true := by simp only [insP, decide_eq_true h3, Bool.or_true, Bool.true_and]
          rw [if_pos h2] at g4
          simp (maxSteps := 1000000) (disch := omega) only [go_sem, eq_self, decide_true, decide_false, not_true_eq_false, not_false_eq_true, reduceIte, reduceCtorEq, Nat.reduceEqDiff, Nat.reduceAdd, Nat.reduceSub, Nat.reduceLeDiff]
          refine ⟨(i + 1, acc ++ [l.getD i.toNat default]), ⟨by simp only; omega, by simp only; omega, by simp; omega, by simp only [e2]; simpa using g4⟩, by simp [insSt, smpC], by simp only; omega⟩
        · have h2 : insP f t true (l.getD i.toNat default) = false := by simp only [insP, h1, h3]; rfl
          rw [h2] at g4
          simp (maxSteps := 1000000) (disch := omega) only [go_sem, eq_self, decide_true, decide_false, not_true_eq_false, not_false_eq_true, reduceIte, reduceCtorEq, Nat.reduceEqDiff, Nat.reduceAdd, Nat.reduceSub, Nat.reduceLeDiff]
          exact ⟨(i + 1, acc), ⟨by simp only; omega, by simp only; omega, by simp only; omega, by simp only [e2]; simpa using g4⟩, rfl, by simp only; omega⟩
  · simp (maxSteps := 1000000) (disch := omega) only [go_sem, eq_self, decide_true, decide_false, not_true_eq_false, not_false_eq_true, reduceIte, reduceCtorEq, Nat.reduceEqDiff, Nat.reduceAdd, Nat.reduceSub, Nat.reduceLeDiff]
    rw [List.drop_eq_nil_of_le (by omega), List.filter_nil, List.append_nil] at g4
    rw [g4]
theorem ins_len (l : List Smp) (f t : Int) (b : Bool) : (ins l f t b).length ≤ l.length := List.length_filter_le _ _
/-- One step of a counter's total. -/
def totStep (roll b s v : Int) : Int := if 0 ≤ b then s + (if v - b < 0 then v - b + roll else v - b) else s
def totGo (roll : Int) : Int → Int → List Int → Int
  | _, s, [] => s
  | b, s, v :: l => totGo roll v (totStep roll b s v) l
def badC (roll v : Int) : Bool := decide (v < 0 ∨ v > roll - 1)
def totS (roll : Int) : Int → Int → List Smp → Int × Int
  | _, s, [] => (s, 0)
  | b, s, x :: l => if x.q = 2 then totS roll b s l else if badC roll x.v = true then (0, 16) else totS roll x.v (totStep roll b s x.v) l
/-- The values that count. -/
def cnt (l : List Smp) (f t : Int) : List Int := (l.filter fun x => decide (f ≤ x.a ∧ x.a ≤ t) && decide (x.q ≠ 2)).map Smp.v
theorem totStep_bd {roll b s v i : Int} (h1 : 1 ≤ roll) (h2 : roll ≤ 2000000000) (h3 : -1 ≤ b) (h4 : b < roll) (h5 : badC roll v = false) (h6 : 0 ≤ s) (h7 : s ≤ i * 2000000000) : 0 ≤ totStep roll b s v ∧ totStep roll b s v ≤ (i + 1) * 2000000000 := by
  simp only [badC, decide_eq_false_iff_not] at h5
  unfold totStep
  split
  · split <;> omega
  · omega
def totSt (roll : Int) (m : List Smp) (x : Int × Int × Int) : AS := ⟨tabV [(2, iv roll), (9, iv x.2.2), (10, iv x.2.1), (24, smps true m), (25, iv m.length), (26, iv x.1)], tabO [], tabO []⟩
def totSp (l : List Smp) (f t roll : Int) : Int × Int :=
  if bothFault l f t ≠ 0 then (0, bothFault l f t) else if roll < 1 ∨ roll > 2000000000 then (0, 1) else totS roll (-1) 0 (ins l f t true)
theorem total_fc (l : List Smp) (hl : l.length ≤ 4611686018427387904) (f t roll : Int) : FC Try.prog 42 none [smps false l, winV f t, iv roll] (fun _ r => r = .tu [iv (totSp l f t roll).1, iv (totSp l f t roll).2]) := by
  refine fc_total (by simp +arith) ?_
  unfold C_total
  simp (maxSteps := 1000000) (disch := omega) only [go_sem, eq_self, decide_true, decide_false, not_true_eq_false, not_false_eq_true, reduceIte, reduceCtorEq, Nat.reduceEqDiff, Nat.reduceAdd, Nat.reduceSub, Nat.reduceLeDiff]
  refine CALL_det (fault_fc l hl f t) (.inl rfl) ?_
  by_cases h1 : bothFault l f t = 0
  · simp (maxSteps := 1000000) (disch := omega) only [go_sem, eq_self, decide_true, decide_false, not_true_eq_false, not_false_eq_true, reduceIte, reduceCtorEq, Nat.reduceEqDiff, Nat.reduceAdd, Nat.reduceSub, Nat.reduceLeDiff]
    obtain ⟨h2, h3⟩ := bothFault_ok h1
    have hg := good_of h2
    have hlen := hg.len
    refine CALL_det (out_fc _ _ _) (.inl rfl) ?_
    by_cases h4 : roll < 1 ∨ roll > 2000000000
    · have e : totSp l f t roll = (0, 1) := by unfold totSp; rw [if_neg (by omega), if_pos h4]
      rw [e]
      simp (maxSteps := 1000000) (disch := omega) only [go_sem, eq_self, decide_true, decide_false, not_true_eq_false, not_false_eq_true, reduceIte, reduceCtorEq, Nat.reduceEqDiff, Nat.reduceAdd, Nat.reduceSub, Nat.reduceLeDiff]
    · have e : totSp l f t roll = totS roll (-1) 0 (ins l f t true) := by unfold totSp; rw [if_neg (by omega), if_neg h4]
      rw [e]
      simp (maxSteps := 1000000) (disch := omega) only [go_sem, eq_self, decide_true, decide_false, not_true_eq_false, not_false_eq_true, reduceIte, reduceCtorEq, Nat.reduceEqDiff, Nat.reduceAdd, Nat.reduceSub, Nat.reduceLeDiff]
      refine CALL_det (inside_fc l (by omega) f t true) (.inl rfl) ?_
      have hm := ins_len l f t true
      generalize ins l f t true = m at hm ⊢
      simp (maxSteps := 1000000) (disch := omega) only [go_sem, eq_self, decide_true, decide_false, not_true_eq_false, not_false_eq_true, reduceIte, reduceCtorEq, Nat.reduceEqDiff, Nat.reduceAdd, Nat.reduceSub, Nat.reduceLeDiff]
      refine ex_loopI (totSt roll m) (fun x => 0 ≤ x.1 ∧ x.1 ≤ m.length ∧ -1 ≤ x.2.1 ∧ x.2.1 < roll ∧ 0 ≤ x.2.2 ∧ x.2.2 ≤ x.1 * 2000000000 ∧ totS roll x.2.1 x.2.2 (m.drop x.1.toNat) = totS roll (-1) 0 m) (fun x => (m.length - x.1).toNat) (0, -1, 0) ⟨by simp, by simp only; omega, by simp, by simp only; omega, by simp, by simp, rfl⟩ rfl ?_
      rintro ⟨i, b, su⟩ ⟨g1, g2, g3, g4, g5, g6, g7⟩
      simp only at g1 g2 g3 g4 g5 g6 g7
      unfold totSt
      by_cases hi : i < m.length
      · rw [drop_cons m i.toNat (by omega), totS] at g7
        have e2 : (i + 1).toNat = i.toNat + 1 := by omega
        by_cases h5 : (m.getD i.toNat default).q = 2
        · rw [if_pos h5] at g7
          simp (maxSteps := 1000000) (disch := omega) only [go_sem, eq_self, decide_true, decide_false, not_true_eq_false, not_false_eq_true, reduceIte, reduceCtorEq, Nat.reduceEqDiff, Nat.reduceAdd, Nat.reduceSub, Nat.reduceLeDiff]
          exact ⟨(i + 1, b, su), ⟨by simp only; omega, by simp only; omega, g3, g4, g5, by simp only; omega, by simp only [e2]; exact g7⟩, rfl, by simp only; omega⟩
        · rw [if_neg h5] at g7
          simp (maxSteps := 1000000) (disch := omega) only [go_sem, eq_self, decide_true, decide_false, not_true_eq_false, not_false_eq_true, reduceIte, reduceCtorEq, Nat.reduceEqDiff, Nat.reduceAdd, Nat.reduceSub, Nat.reduceLeDiff]
          refine CALL_det (out_fc _ _ _) (.inl rfl) ?_
          by_cases h6 : badC roll (m.getD i.toNat default).v = true
          · rw [if_pos h6] at g7
            simp only [badC, decide_eq_true_eq] at h6
            rw [← g7]
            simp (maxSteps := 1000000) (disch := omega) only [go_sem, eq_self, decide_true, decide_false, not_true_eq_false, not_false_eq_true, reduceIte, reduceCtorEq, Nat.reduceEqDiff, Nat.reduceAdd, Nat.reduceSub, Nat.reduceLeDiff]
          · have h7 := totStep_bd (by omega) (by omega) g3 g4 (Bool.eq_false_iff.2 h6) g5 g6
            rw [if_neg h6] at g7
            simp only [badC, decide_eq_true_eq] at h6
            generalize m.getD i.toNat default = x at *
            by_cases h8 : 0 ≤ b
            · by_cases h9 : x.v - b < 0
              · have h10 : totStep roll b su x.v = su + (x.v - b + roll) := by unfold totStep; rw [if_pos h8, if_pos h9]
                rw [h10] at g7 h7
                simp (maxSteps := 1000000) (disch := omega) only [go_sem, eq_self, decide_true, decide_false, not_true_eq_false, not_false_eq_true, reduceIte, reduceCtorEq, Nat.reduceEqDiff, Nat.reduceAdd, Nat.reduceSub, Nat.reduceLeDiff]
                exact ⟨(i + 1, x.v, su + (x.v - b + roll)), ⟨by simp only; omega, by simp only; omega, by simp only; omega, by simp only; omega, by simp only; omega, by simp only; omega, by simp only [e2]; exact g7⟩, rfl, by simp only; omega⟩
              · have h10 : totStep roll b su x.v = su + (x.v - b) := by unfold totStep; rw [if_pos h8, if_neg h9]
                rw [h10] at g7 h7
                simp (maxSteps := 1000000) (disch := omega) only [go_sem, eq_self, decide_true, decide_false, not_true_eq_false, not_false_eq_true, reduceIte, reduceCtorEq, Nat.reduceEqDiff, Nat.reduceAdd, Nat.reduceSub, Nat.reduceLeDiff]
                exact ⟨(i + 1, x.v, su + (x.v - b)), ⟨by simp only; omega, by simp only; omega, by simp only; omega, by simp only; omega, by simp only; omega, by simp only; omega, by simp only [e2]; exact g7⟩, rfl, by simp only; omega⟩
            · have h10 : totStep roll b su x.v = su := by unfold totStep; rw [if_neg h8]
              rw [h10] at g7 h7
              simp (maxSteps := 1000000) (disch := omega) only [go_sem, eq_self, decide_true, decide_false, not_true_eq_false, not_false_eq_true, reduceIte, reduceCtorEq, Nat.reduceEqDiff, Nat.reduceAdd, Nat.reduceSub, Nat.reduceLeDiff]
              exact ⟨(i + 1, x.v, su), ⟨by simp only; omega, by simp only; omega, by simp only; omega, by simp only; omega, by simp only; omega, by simp only; omega, by simp only [e2]; exact g7⟩, rfl, by simp only; omega⟩
      · rw [List.drop_eq_nil_of_le (by omega), totS] at g7
        rw [← g7]
        simp (maxSteps := 1000000) (disch := omega) only [go_sem, eq_self, decide_true, decide_false, not_true_eq_false, not_false_eq_true, reduceIte, reduceCtorEq, Nat.reduceEqDiff, Nat.reduceAdd, Nat.reduceSub, Nat.reduceLeDiff]
  · simp (maxSteps := 1000000) (disch := omega) only [go_sem, eq_self, decide_true, decide_false, not_true_eq_false, not_false_eq_true, reduceIte, reduceCtorEq, Nat.reduceEqDiff, Nat.reduceAdd, Nat.reduceSub, Nat.reduceLeDiff]
    have e : totSp l f t roll = (0, bothFault l f t) := by unfold totSp; rw [if_pos h1]
    rw [e]
def cntN (q : Int) : List Smp → Int
  | [] => 0
  | x :: l => (if x.q = q then 1 else 0) + cntN q l
theorem cntN_bd (q : Int) : ∀ l : List Smp, 0 ≤ cntN q l ∧ cntN q l ≤ l.length
  | [] => by simp [cntN]
  | x :: l => by have := cntN_bd q l; simp only [cntN, List.length_cons]; split <;> omega
def cntSp (l : List Smp) (f t q : Int) : Int × Int :=
  if bothFault l f t ≠ 0 then (0, bothFault l f t) else if q < 0 ∨ q > 2 then (0, 4) else (cntN q (ins l f t false), 0)
def cntSt (q : Int) (m : List Smp) (x : Int × Int) : AS := ⟨tabV [(2, iv q), (9, iv x.2), (22, smps true m), (23, iv m.length), (24, iv x.1)], tabO [], tabO []⟩
theorem count_fc (l : List Smp) (hl : l.length ≤ 4611686018427387904) (f t q : Int) : FC Try.prog 43 none [smps false l, winV f t, iv q] (fun _ r => r = .tu [iv (cntSp l f t q).1, iv (cntSp l f t q).2]) := by
  refine fc_count (by simp +arith) ?_
  unfold C_count
  simp (maxSteps := 1000000) (disch := omega) only [go_sem, eq_self, decide_true, decide_false, not_true_eq_false, not_false_eq_true, reduceIte, reduceCtorEq, Nat.reduceEqDiff, Nat.reduceAdd, Nat.reduceSub, Nat.reduceLeDiff]
  refine CALL_det (fault_fc l hl f t) (.inl rfl) ?_
  by_cases h1 : bothFault l f t = 0
  · simp (maxSteps := 1000000) (disch := omega) only [go_sem, eq_self, decide_true, decide_false, not_true_eq_false, not_false_eq_true, reduceIte, reduceCtorEq, Nat.reduceEqDiff, Nat.reduceAdd, Nat.reduceSub, Nat.reduceLeDiff]
    obtain ⟨h2, h3⟩ := bothFault_ok h1
    have hg := good_of h2
    have hlen := hg.len
    refine CALL_det (out_fc _ _ _) (.inl rfl) ?_
    by_cases h4 : q < 0 ∨ q > 2
    · have e : cntSp l f t q = (0, 4) := by unfold cntSp; rw [if_neg (by omega), if_pos h4]
      rw [e]
      simp (maxSteps := 1000000) (disch := omega) only [go_sem, eq_self, decide_true, decide_false, not_true_eq_false, not_false_eq_true, reduceIte, reduceCtorEq, Nat.reduceEqDiff, Nat.reduceAdd, Nat.reduceSub, Nat.reduceLeDiff]
    · have e : cntSp l f t q = (cntN q (ins l f t false), 0) := by unfold cntSp; rw [if_neg (by omega), if_neg h4]
      rw [e]
      simp (maxSteps := 1000000) (disch := omega) only [go_sem, eq_self, decide_true, decide_false, not_true_eq_false, not_false_eq_true, reduceIte, reduceCtorEq, Nat.reduceEqDiff, Nat.reduceAdd, Nat.reduceSub, Nat.reduceLeDiff]
      refine CALL_det (inside_fc l (by omega) f t false) (.inl rfl) ?_
      have hm := ins_len l f t false
      generalize ins l f t false = m at hm ⊢
      simp (maxSteps := 1000000) (disch := omega) only [go_sem, eq_self, decide_true, decide_false, not_true_eq_false, not_false_eq_true, reduceIte, reduceCtorEq, Nat.reduceEqDiff, Nat.reduceAdd, Nat.reduceSub, Nat.reduceLeDiff]
      refine ex_loopI (cntSt q m) (fun x => 0 ≤ x.1 ∧ x.1 ≤ m.length ∧ 0 ≤ x.2 ∧ x.2 ≤ x.1 ∧ x.2 + cntN q (m.drop x.1.toNat) = cntN q m) (fun x => (m.length - x.1).toNat) (0, 0) ⟨by simp, by simp only; omega, by simp, by simp, by simp⟩ rfl ?_
      rintro ⟨i, n⟩ ⟨g1, g2, g3, g4, g5⟩
      simp only at g1 g2 g3 g4 g5
      unfold cntSt
      by_cases hi : i < m.length
      · rw [drop_cons m i.toNat (by omega), cntN] at g5
        have e2 : (i + 1).toNat = i.toNat + 1 := by omega
        by_cases h5 : (m.getD i.toNat default).q = q
        · rw [if_pos h5] at g5
          simp (maxSteps := 1000000) (disch := omega) only [go_sem, eq_self, decide_true, decide_false, not_true_eq_false, not_false_eq_true, reduceIte, reduceCtorEq, Nat.reduceEqDiff, Nat.reduceAdd, Nat.reduceSub, Nat.reduceLeDiff]
          exact ⟨(i + 1, n + 1), ⟨by simp only; omega, by simp only; omega, by simp only; omega, by simp only; omega, by simp only [e2]; omega⟩, rfl, by simp only; omega⟩
        · rw [if_neg h5] at g5
          simp (maxSteps := 1000000) (disch := omega) only [go_sem, eq_self, decide_true, decide_false, not_true_eq_false, not_false_eq_true, reduceIte, reduceCtorEq, Nat.reduceEqDiff, Nat.reduceAdd, Nat.reduceSub, Nat.reduceLeDiff]
          exact ⟨(i + 1, n), ⟨by simp only; omega, by simp only; omega, by simp only; omega, by simp only; omega, by simp only [e2]; omega⟩, rfl, by simp only; omega⟩
      · rw [List.drop_eq_nil_of_le (by omega), cntN] at g5
        simp (maxSteps := 1000000) (disch := omega) only [go_sem, eq_self, decide_true, decide_false, not_true_eq_false, not_false_eq_true, reduceIte, reduceCtorEq, Nat.reduceEqDiff, Nat.reduceAdd, Nat.reduceSub, Nat.reduceLeDiff]
        rw [← g5, Int.add_zero]
  · simp (maxSteps := 1000000) (disch := omega) only [go_sem, eq_self, decide_true, decide_false, not_true_eq_false, not_false_eq_true, reduceIte, reduceCtorEq, Nat.reduceEqDiff, Nat.reduceAdd, Nat.reduceSub, Nat.reduceLeDiff]
    have e : cntSp l f t q = (0, bothFault l f t) := by unfold cntSp; rw [if_pos h1]
    rw [e]
def cowSt (l : List Smp) (f t q : Int) (x : Int × Int) : AS := ⟨tabV [(2, iv q), (4, .one (.bx 4 0)), (7, iv x.2), (10, smps false l), (11, iv l.length), (12, iv x.1)], tabO [(4, [.g (.int .i64 f), .g (.int .i64 t)])], tabO []⟩
theorem countedOf_fc (l : List Smp) (hl : l.length ≤ 5000) (f t q : Int) (hw : 0 ≤ f ∧ f ≤ t ∧ t ≤ 345686400000) : FC Try.prog 47 none [smps false l, winV f t, iv q] (fun _ r => r = iv (cntN q (ins l f t false))) := by
  refine fc_countedOf (by simp +arith) ?_
  unfold C_countedOf
  simp (maxSteps := 1000000) (disch := omega) only [go_sem, eq_self, decide_true, decide_false, not_true_eq_false, not_false_eq_true, reduceIte, reduceCtorEq, Nat.reduceEqDiff, Nat.reduceAdd, Nat.reduceSub, Nat.reduceLeDiff]
  refine ex_loopI (cowSt l f t q) (fun x => 0 ≤ x.1 ∧ x.1 ≤ l.length ∧ 0 ≤ x.2 ∧ x.2 ≤ x.1 ∧ x.2 + cntN q ((l.drop x.1.toNat).filter (insP f t false)) = cntN q (ins l f t false)) (fun x => (l.length - x.1).toNat) (0, 0) ⟨by simp, by simp only; omega, by simp, by simp, by simp [ins]⟩ rfl ?_
  rintro ⟨i, n⟩ ⟨g1, g2, g3, g4, g5⟩
  simp only at g1 g2 g3 g4 g5
  unfold cowSt
  by_cases hi : i < l.length
  · rw [drop_cons l i.toNat (by omega), List.filter_cons] at g5
    have e2 : (i + 1).toNat = i.toNat + 1 := by omega
    simp (maxSteps := 1000000) (disch := omega) only [go_sem, eq_self, decide_true, decide_false, not_true_eq_false, not_false_eq_true, reduceIte, reduceCtorEq, Nat.reduceEqDiff, Nat.reduceAdd, Nat.reduceSub, Nat.reduceLeDiff]
    refine CALL_det (rin1_fc _ _ _) (.inl rfl) ?_
    by_cases h1 : f ≤ (l.getD i.toNat default).a ∧ (l.getD i.toNat default).a ≤ t - 1
    · have h2 : insP f t false (l.getD i.toNat default) = true := by
        simp only [insP, Bool.false_and, Bool.or_false, decide_eq_true_eq]; omega
      rw [if_pos h2, cntN] at g5
      by_cases h5 : (l.getD i.toNat default).q = q
      · rw [if_pos h5] at g5
        simp (maxSteps := 1000000) (disch := omega) only [go_sem, eq_self, decide_true, decide_false, not_true_eq_false, not_false_eq_true, reduceIte, reduceCtorEq, Nat.reduceEqDiff, Nat.reduceAdd, Nat.reduceSub, Nat.reduceLeDiff]
        exact ⟨(i + 1, n + 1), ⟨by simp only; omega, by simp only; omega, by simp only; omega, by simp only; omega, by simp only [e2]; omega⟩, rfl, by simp only; omega⟩
      · rw [if_neg h5] at g5
        simp (maxSteps := 1000000) (disch := omega) only [go_sem, eq_self, decide_true, decide_false, not_true_eq_false, not_false_eq_true, reduceIte, reduceCtorEq, Nat.reduceEqDiff, Nat.reduceAdd, Nat.reduceSub, Nat.reduceLeDiff]
        exact ⟨(i + 1, n), ⟨by simp only; omega, by simp only; omega, by simp only; omega, by simp only; omega, by simp only [e2]; omega⟩, rfl, by simp only; omega⟩
    · have h2 : ¬ insP f t false (l.getD i.toNat default) = true := by
        simp only [insP, Bool.false_and, Bool.or_false, decide_eq_true_eq]; omega
      rw [if_neg h2] at g5
      simp (maxSteps := 1000000) (disch := omega) only [go_sem, eq_self, decide_true, decide_false, not_true_eq_false, not_false_eq_true, reduceIte, reduceCtorEq, Nat.reduceEqDiff, Nat.reduceAdd, Nat.reduceSub, Nat.reduceLeDiff]
      exact ⟨(i + 1, n), ⟨by simp only; omega, by simp only; omega, by simp only; omega, by simp only; omega, by simp only [e2]; omega⟩, rfl, by simp only; omega⟩
  · rw [List.drop_eq_nil_of_le (by omega), List.filter_nil, cntN] at g5
    simp (maxSteps := 1000000) (disch := omega) only [go_sem, eq_self, decide_true, decide_false, not_true_eq_false, not_false_eq_true, reduceIte, reduceCtorEq, Nat.reduceEqDiff, Nat.reduceAdd, Nat.reduceSub, Nat.reduceLeDiff]
    rw [← g5, Int.add_zero]
end Go.Proofs.Ytkecmbgjhamhiaa

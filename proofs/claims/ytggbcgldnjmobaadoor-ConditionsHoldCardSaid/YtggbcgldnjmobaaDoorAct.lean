
/-
  Alarms: what is wrong with one, whether its condition holds, and when it is active.
-/
import Derived.Test.YtggbcgldnjmobaaDoorFrm
import Derived.Test.YtggbcgldnjmobaaDoorKey
namespace Go.Proofs.YtggbcgldnjmobaaDoor
open Go Go.Ai
set_option linter.unusedSimpArgs false
set_option linter.unusedVariables false
set_option maxHeartbeats 4000000
def A_alarmFault : List Ann := [⟨(some ⟨[1], [1], []⟩), [], [], [], []⟩, ⟨(some ⟨[1,3], [1], []⟩), [], [], [], []⟩, ⟨(some ⟨[2], [], []⟩), [], [], [], []⟩, ⟨(some ⟨[1,14], [1], []⟩), [], [], [], []⟩, ⟨(some ⟨[2], [], []⟩), [], [], [], []⟩, ⟨(some ⟨[1,18], [1], []⟩), [], [], [], []⟩, ⟨(some ⟨[2], [], []⟩), [], [], [], []⟩, ⟨(some ⟨[42], [], []⟩), [], [], [], []⟩, ⟨(some ⟨[2], [], []⟩), [], [], [], []⟩, ⟨(some ⟨[2], [], []⟩), [], [], [], []⟩]
def C_alarmFault : AC := (.seq (.reg false [⟨(some 1), none, .box (.t 0)⟩, ⟨(some 2), none, .mv (.v (.int .i64 (0)))⟩] (some ⟨[1], [1], []⟩))
  (.seq (.block 0 (.seq (.reg false [⟨(some 4), none, .fadr 0 (.t 1)⟩, ⟨(some 5), none, .load false 1 (.t 4)⟩, ⟨(some 6), none, .call (.f 44) [(.t 5)]⟩, ⟨(some 7), none, .un .not (.t 6)⟩, ⟨(some 8), none, .mv (.t 7)⟩, ⟨(some 9), (some (8, false)), .fadr 1 (.t 1)⟩, ⟨(some 10), (some (8, false)), .load false 1 (.t 9)⟩, ⟨(some 11), (some (8, false)), .call (.f 44) [(.t 10)]⟩, ⟨(some 12), (some (8, false)), .un .not (.t 11)⟩, ⟨(some 13), none, .pick (.t 8) (.v (.bool true)) (.t 12)⟩, ⟨(some 3), none, .mv (.t 13)⟩] (some ⟨[1,3], [1], []⟩))
  (.cond (.t 3)
  (.seq (.reg false [⟨(some 2), none, .mv (.v (.int .i64 (5)))⟩] (some ⟨[2], [], []⟩))
  .ret)
  (.seq (.reg false [⟨(some 15), none, .fadr 2 (.t 1)⟩, ⟨(some 16), none, .load false 1 (.t 15)⟩, ⟨(some 17), none, .call (.f 30) [(.t 16), (.v (.int .i64 (1))), (.v (.int .i64 (3)))]⟩, ⟨(some 14), none, .mv (.t 17)⟩] (some ⟨[1,14], [1], []⟩))
  (.cond (.t 14)
  (.seq (.reg false [⟨(some 2), none, .mv (.v (.int .i64 (4)))⟩] (some ⟨[2], [], []⟩))
  .ret)
  (.seq (.reg false [⟨(some 19), none, .fadr 3 (.t 1)⟩, ⟨(some 20), none, .load false 1 (.t 19)⟩, ⟨(some 21), none, .call (.f 30) [(.t 20), (.v (.int .i64 (-1000000))), (.v (.int .i64 (1000000)))]⟩, ⟨(some 22), none, .mv (.t 21)⟩, ⟨(some 23), (some (22, false)), .fadr 4 (.t 1)⟩, ⟨(some 24), (some (22, false)), .load false 1 (.t 23)⟩, ⟨(some 25), (some (22, false)), .call (.f 30) [(.t 24), (.v (.int .i64 (0))), (.v (.int .i64 (2000000)))]⟩, ⟨(some 26), none, .pick (.t 22) (.v (.bool true)) (.t 25)⟩, ⟨(some 27), none, .mv (.t 26)⟩, ⟨(some 28), (some (27, false)), .fadr 5 (.t 1)⟩, ⟨(some 29), (some (27, false)), .load false 1 (.t 28)⟩, ⟨(some 30), (some (27, false)), .call (.f 30) [(.t 29), (.v (.int .i64 (0))), (.v (.int .i64 (86400000)))]⟩, ⟨(some 31), none, .pick (.t 27) (.v (.bool true)) (.t 30)⟩, ⟨(some 32), none, .mv (.t 31)⟩, ⟨(some 33), (some (32, false)), .fadr 6 (.t 1)⟩, ⟨(some 34), (some (32, false)), .load false 1 (.t 33)⟩, ⟨(some 35), (some (32, false)), .call (.f 30) [(.t 34), (.v (.int .i64 (0))), (.v (.int .i64 (86400000)))]⟩, ⟨(some 36), none, .pick (.t 32) (.v (.bool true)) (.t 35)⟩, ⟨(some 37), none, .mv (.t 36)⟩, ⟨(some 38), (some (37, false)), .fadr 7 (.t 1)⟩, ⟨(some 39), (some (37, false)), .load false 1 (.t 38)⟩, ⟨(some 40), (some (37, false)), .call (.f 30) [(.t 39), (.v (.int .i64 (1))), (.v (.int .i64 (1000)))]⟩, ⟨(some 41), none, .pick (.t 37) (.v (.bool true)) (.t 40)⟩, ⟨(some 18), none, .mv (.t 41)⟩] (some ⟨[1,18], [1], []⟩))
  (.cond (.t 18)
  (.seq (.reg false [⟨(some 2), none, .mv (.v (.int .i64 (1)))⟩] (some ⟨[2], [], []⟩))
  .ret)
  (.seq (.reg false [⟨(some 43), none, .fadr 2 (.t 1)⟩, ⟨(some 44), none, .load false 1 (.t 43)⟩, ⟨(some 45), none, .bin .eql (.t 44) (.v (.int .i64 (3)))⟩, ⟨(some 46), none, .mv (.t 45)⟩, ⟨(some 47), (some (46, true)), .fadr 3 (.t 1)⟩, ⟨(some 48), (some (46, true)), .load false 1 (.t 47)⟩, ⟨(some 49), (some (46, true)), .bin .neq (.t 48) (.v (.int .i64 (0)))⟩, ⟨(some 50), (some (46, true)), .mv (.t 49)⟩, ⟨(some 51), (some (50, false)), .fadr 4 (.t 1)⟩, ⟨(some 52), (some (50, false)), .load false 1 (.t 51)⟩, ⟨(some 53), (some (50, false)), .bin .neq (.t 52) (.v (.int .i64 (0)))⟩, ⟨(some 54), (some (46, true)), .pick (.t 50) (.v (.bool true)) (.t 53)⟩, ⟨(some 55), none, .pick (.t 46) (.t 54) (.v (.bool false))⟩, ⟨(some 42), none, .mv (.t 55)⟩] (some ⟨[42], [], []⟩))
  (.cond (.t 42)
  (.seq (.reg false [⟨(some 2), none, .mv (.v (.int .i64 (3)))⟩] (some ⟨[2], [], []⟩))
  .ret)
  .skip)))))))))
  (.seq (.reg false [⟨(some 2), none, .mv (.v (.int .i64 (0)))⟩] (some ⟨[2], [], []⟩))
  .ret)))
theorem c_alarmFault : compileCode Tryd.prog Tryd.f28.ntmps (Tryd.f28.body.getD .skip) A_alarmFault = some (C_alarmFault, []) := by kernel_rfl
theorem r_alarmFault : compileRes Tryd.prog Tryd.f28.results.toList = some [.t 2] := by kernel_rfl
theorem b_alarmFault : Tryd.f28.body = some (Tryd.f28.body.getD .skip) := by kernel_rfl
theorem n_alarmFault : (Tryd.f28.name == "runtime.NumGoroutine") = false := by kernel_rfl
theorem fc_alarmFault {xt : Option (List Cel)} {args : List Val} {R : List Cel → Val → Prop} (hn : (if xt.isSome then 1 else 0) + args.length ≤ Tryd.f28.ntmps) (h : ex Tryd.prog C_alarmFault [] (fpost xt [.t 2] R) (initSt xt args)) : FC Tryd.prog 28 xt args R :=
  fc_of_awp Tryd.func28 b_alarmFault n_alarmFault c_alarmFault r_alarmFault (of_decide_eq_true (by kernel_rfl)) hn h

def A_untilFault : List Ann := [⟨(some ⟨[1,2,3], [3], []⟩), [], [], [], []⟩, ⟨(some ⟨[2,7], [], []⟩), [], [], [], []⟩, ⟨(some ⟨[7,19], [], []⟩), [], [], [], []⟩, ⟨(some ⟨[7], [], []⟩), [], [], [], []⟩, ⟨(some ⟨[6], [], []⟩), [], [], [], []⟩]
def C_untilFault : AC := (.seq (.reg false [⟨(some 3), none, .box (.t 0)⟩, ⟨(some 6), none, .mv (.v (.int .i64 (0)))⟩] (some ⟨[1,2,3], [3], []⟩))
  (.seq (.reg false [⟨(some 8), none, .load true 10 (.t 3)⟩, ⟨(some 9), none, .call (.f 28) [(.t 8)]⟩, ⟨(some 10), none, .mv (.t 1)⟩, ⟨(some 11), none, .call (.f 29) [(.t 10)]⟩, ⟨(some 12), none, .bslice 1 2 [(.t 9), (.t 11)]⟩, ⟨(some 13), none, .call (.f 27) [(.t 12)]⟩, ⟨(some 7), none, .mv (.t 13)⟩] (some ⟨[2,7], [], []⟩))
  (.seq (.seq (.reg false [⟨(some 14), none, .mv (.t 7)⟩, ⟨(some 15), none, .bin .eql (.t 14) (.v (.int .i64 (0)))⟩, ⟨(some 16), none, .mv (.t 15)⟩, ⟨(some 17), (some (16, true)), .mv (.t 2)⟩, ⟨(some 18), (some (16, true)), .call (.f 30) [(.t 17), (.v (.int .i64 (0))), (.v (.int .i64 (345686400000)))]⟩, ⟨(some 19), none, .pick (.t 16) (.t 18) (.v (.bool false))⟩] (some ⟨[7,19], [], []⟩))
  (.cond (.t 19)
  (.reg false [⟨(some 7), none, .mv (.v (.int .i64 (1)))⟩] (some ⟨[7], [], []⟩))
  .skip))
  (.seq (.reg false [⟨(some 20), none, .mv (.t 7)⟩, ⟨(some 6), none, .mv (.t 20)⟩] (some ⟨[6], [], []⟩))
  .ret))))
theorem c_untilFault : compileCode Tryd.prog Tryd.f25.ntmps (Tryd.f25.body.getD .skip) A_untilFault = some (C_untilFault, []) := by kernel_rfl
theorem r_untilFault : compileRes Tryd.prog Tryd.f25.results.toList = some [.t 6] := by kernel_rfl
theorem b_untilFault : Tryd.f25.body = some (Tryd.f25.body.getD .skip) := by kernel_rfl
theorem n_untilFault : (Tryd.f25.name == "runtime.NumGoroutine") = false := by kernel_rfl
theorem fc_untilFault {xt : Option (List Cel)} {args : List Val} {R : List Cel → Val → Prop} (hn : (if xt.isSome then 1 else 0) + args.length ≤ Tryd.f25.ntmps) (h : ex Tryd.prog C_untilFault [] (fpost xt [.t 6] R) (initSt xt args)) : FC Tryd.prog 25 xt args R :=
  fc_of_awp Tryd.func25 b_untilFault n_untilFault c_untilFault r_untilFault (of_decide_eq_true (by kernel_rfl)) hn h

def A_hold_ : List Ann := [⟨(some ⟨[2,3], [2,3], []⟩), [], [], [], []⟩, ⟨(some ⟨[2,3,6], [2,3], []⟩), [], [], [], []⟩, ⟨(some ⟨[2,3,6,11], [2,3], []⟩), [], [], [], []⟩, ⟨(some ⟨[2,3,6,11,12], [2,3], []⟩), [], [], [], []⟩, ⟨(some ⟨[4,5], [], []⟩), [], [], [], []⟩, ⟨(some ⟨[2,3,6,35], [2,3], []⟩), [], [], [], []⟩, ⟨(some ⟨[4,5], [], []⟩), [], [], [], []⟩, ⟨(some ⟨[4,5], [], []⟩), [], [], [], []⟩]
def C_hold_ : AC := (.seq (.reg false [⟨(some 2), none, .box (.t 0)⟩, ⟨(some 3), none, .box (.t 1)⟩, ⟨(some 4), none, .mv (.v (.bool false))⟩, ⟨(some 5), none, .mv (.v (.bool false))⟩] (some ⟨[2,3], [2,3], []⟩))
  (.seq (.reg false [⟨(some 7), none, .fadr 2 (.t 3)⟩, ⟨(some 8), none, .load false 1 (.t 7)⟩, ⟨(some 9), none, .bin .eql (.t 8) (.v (.int .i64 (2)))⟩, ⟨(some 6), none, .mv (.t 9)⟩] (some ⟨[2,3,6], [2,3], []⟩))
  (.seq (.seq (.reg false [⟨(some 10), none, .fadr 2 (.t 2)⟩, ⟨(some 11), none, .load false 1 (.t 10)⟩] (some ⟨[2,3,6,11], [2,3], []⟩))
  (.block 0 (.seq (.reg false [⟨(some 13), none, .bin .eql (.t 11) (.v (.int .i64 (1)))⟩, ⟨(some 12), none, .mv (.t 13)⟩] (some ⟨[2,3,6,11,12], [2,3], []⟩))
  (.cond (.t 12)
  (.seq (.reg true [⟨(some 14), none, .mv (.t 6)⟩, ⟨(some 15), none, .un .not (.t 14)⟩, ⟨(some 16), none, .mv (.t 15)⟩, ⟨(some 17), (some (16, true)), .fadr 1 (.t 3)⟩, ⟨(some 18), (some (16, true)), .load false 1 (.t 17)⟩, ⟨(some 19), (some (16, true)), .fadr 3 (.t 2)⟩, ⟨(some 20), (some (16, true)), .load false 1 (.t 19)⟩, ⟨(some 21), (some (16, true)), .bin .gtr (.t 18) (.t 20)⟩, ⟨(some 22), none, .pick (.t 16) (.t 21) (.v (.bool false))⟩, ⟨(some 23), none, .mv (.t 6)⟩, ⟨(some 24), none, .un .not (.t 23)⟩, ⟨(some 25), none, .mv (.t 24)⟩, ⟨(some 26), (some (25, true)), .fadr 1 (.t 3)⟩, ⟨(some 27), (some (25, true)), .load false 1 (.t 26)⟩, ⟨(some 28), (some (25, true)), .fadr 3 (.t 2)⟩, ⟨(some 29), (some (25, true)), .load false 1 (.t 28)⟩, ⟨(some 30), (some (25, true)), .fadr 4 (.t 2)⟩, ⟨(some 31), (some (25, true)), .load false 1 (.t 30)⟩, ⟨(some 32), (some (25, true)), .bin .sub (.t 29) (.t 31)⟩, ⟨(some 33), (some (25, true)), .bin .leq (.t 27) (.t 32)⟩, ⟨(some 34), none, .pick (.t 25) (.t 33) (.v (.bool false))⟩, ⟨(some 4), none, .mv (.t 22)⟩, ⟨(some 5), none, .mv (.t 34)⟩] (some ⟨[4,5], [], []⟩))
  .ret)
  (.seq (.reg false [⟨(some 36), none, .bin .eql (.t 11) (.v (.int .i64 (2)))⟩, ⟨(some 35), none, .mv (.t 36)⟩] (some ⟨[2,3,6,35], [2,3], []⟩))
  (.cond (.t 35)
  (.seq (.reg true [⟨(some 37), none, .mv (.t 6)⟩, ⟨(some 38), none, .un .not (.t 37)⟩, ⟨(some 39), none, .mv (.t 38)⟩, ⟨(some 40), (some (39, true)), .fadr 1 (.t 3)⟩, ⟨(some 41), (some (39, true)), .load false 1 (.t 40)⟩, ⟨(some 42), (some (39, true)), .fadr 3 (.t 2)⟩, ⟨(some 43), (some (39, true)), .load false 1 (.t 42)⟩, ⟨(some 44), (some (39, true)), .bin .lss (.t 41) (.t 43)⟩, ⟨(some 45), none, .pick (.t 39) (.t 44) (.v (.bool false))⟩, ⟨(some 46), none, .mv (.t 6)⟩, ⟨(some 47), none, .un .not (.t 46)⟩, ⟨(some 48), none, .mv (.t 47)⟩, ⟨(some 49), (some (48, true)), .fadr 1 (.t 3)⟩, ⟨(some 50), (some (48, true)), .load false 1 (.t 49)⟩, ⟨(some 51), (some (48, true)), .fadr 3 (.t 2)⟩, ⟨(some 52), (some (48, true)), .load false 1 (.t 51)⟩, ⟨(some 53), (some (48, true)), .fadr 4 (.t 2)⟩, ⟨(some 54), (some (48, true)), .load false 1 (.t 53)⟩, ⟨(some 55), (some (48, true)), .bin .add (.t 52) (.t 54)⟩, ⟨(some 56), (some (48, true)), .bin .geq (.t 50) (.t 55)⟩, ⟨(some 57), none, .pick (.t 48) (.t 56) (.v (.bool false))⟩, ⟨(some 4), none, .mv (.t 45)⟩, ⟨(some 5), none, .mv (.t 57)⟩] (some ⟨[4,5], [], []⟩))
  .ret)
  .skip))))))
  (.seq (.reg false [⟨(some 58), none, .mv (.t 6)⟩, ⟨(some 59), none, .mv (.t 6)⟩, ⟨(some 60), none, .un .not (.t 59)⟩, ⟨(some 4), none, .mv (.t 58)⟩, ⟨(some 5), none, .mv (.t 60)⟩] (some ⟨[4,5], [], []⟩))
  .ret))))
theorem c_hold_ : compileCode Tryd.prog Tryd.f43.ntmps (Tryd.f43.body.getD .skip) A_hold_ = some (C_hold_, []) := by kernel_rfl
theorem r_hold_ : compileRes Tryd.prog Tryd.f43.results.toList = some [.t 4, .t 5] := by kernel_rfl
theorem b_hold_ : Tryd.f43.body = some (Tryd.f43.body.getD .skip) := by kernel_rfl
theorem n_hold_ : (Tryd.f43.name == "runtime.NumGoroutine") = false := by kernel_rfl
theorem fc_hold_ {xt : Option (List Cel)} {args : List Val} {R : List Cel → Val → Prop} (hn : (if xt.isSome then 1 else 0) + args.length ≤ Tryd.f43.ntmps) (h : ex Tryd.prog C_hold_ [] (fpost xt [.t 4, .t 5] R) (initSt xt args)) : FC Tryd.prog 43 xt args R :=
  fc_of_awp Tryd.func43 b_hold_ n_hold_ c_hold_ r_hold_ (of_decide_eq_true (by kernel_rfl)) hn h

def A_active : List Ann := [⟨(some ⟨[1,2,3], [3], []⟩), [], [], [], []⟩, ⟨(some ⟨[1,2,3,7], [3], []⟩), [(7, 46, 2)], [], [], []⟩, ⟨(some ⟨[1,2,3,7,8], [3], [7]⟩), [], [], [], []⟩, ⟨(some ⟨[1,2,3,7,8,9,10], [3], [7]⟩), [], [], [], []⟩, ⟨(some ⟨[1,2,3,7,8,9,10,11,12], [3], [7]⟩), [], [], [], []⟩, ⟨(some ⟨[1,2,3,7,8,9,10,11,12,20,21,22], [3], [7]⟩), [], [], [], []⟩, ⟨(some ⟨[1,2,3,7,8,9,10,11,12,20,21,22,23], [3], [7]⟩), [], [], [], []⟩, ⟨(some ⟨[1,2,3,7,8,9,10,11,12,13,14,20,21,22], [3,14], [7]⟩), [], [], [], []⟩, ⟨(some ⟨[1,2,3,7,8,9,10,11,12,13,14,15,20,21,22], [3,14], [7]⟩), [], [], [], []⟩, ⟨(some ⟨[1,2,3,7,8,9,10,11,12,13,14,15,20,21,22,31], [3,14], [7]⟩), [], [], [], []⟩, ⟨(some ⟨[1,2,3,7,8,9,10,11,12,14,15,20,21,22], [3,14], [7]⟩), [], [], [], []⟩, ⟨(some ⟨[1,2,3,7,8,9,10,11,12,14,15,16,17,20,21,22], [3,14], [7]⟩), [], [], [], []⟩, ⟨(some ⟨[1,2,3,7,8,9,10,12,14,15,16,17,20,21,22,48], [3,14], [7]⟩), [], [], [], []⟩, ⟨(some ⟨[1,2,3,7,8,9,10,12,14,15,16,17,20,21,22], [3,14], [7]⟩), [], [], [], []⟩, ⟨(some ⟨[1,2,3,7,8,9,10,14,15,16,17,20,21,22,55], [3,14], [7]⟩), [], [], [], []⟩, ⟨(some ⟨[1,2,3,7,8,9,10,14,15,16,17,20,21,22], [3,14], [7]⟩), [], [], [], []⟩, ⟨(some ⟨[1,2,3,7,8,9,10,11,12,14,15,16,17,20,21,22], [3,14], [7]⟩), [], [], [], []⟩, ⟨(some ⟨[1,2,3,7,8,9,10,11,12,14,15,16,17,18,20,21,22], [3,14], [7]⟩), [], [], [], []⟩, ⟨(some ⟨[1,2,3,7,8,9,10,11,12,14,15,17,18,20,21,22,81], [3,14], [7]⟩), [], [], [], []⟩, ⟨(some ⟨[1,2,3,7,8,9,10,11,12,14,15,17,18,20,21,22], [3,14], [7]⟩), [], [], [], []⟩, ⟨(some ⟨[1,2,3,7,8,9,10,11,12,14,15,17,20,21,22], [3,14], [7]⟩), [], [], [], []⟩, ⟨(some ⟨[1,2,3,7,8,9,10,11,12,15,17,19,20,21,22], [3], [7]⟩), [], [], [], []⟩, ⟨(some ⟨[1,2,3,7,8,9,10,11,12,19,20,21,22,108], [3], [7]⟩), [], [], [], []⟩, ⟨(some ⟨[1,2,3,7,8,9,10,11,12,19,20,21,22], [3], [7]⟩), [], [], [], []⟩, ⟨(some ⟨[1,2,3,7,8,9,10,11,12,20,21,22], [3], [7]⟩), [], [], [], []⟩, ⟨(some ⟨[1,2,3,7,8,9,10,11,12,20,21,22], [3], [7]⟩), [], [], [], []⟩, ⟨(some ⟨[6], [], []⟩), [], [], [], []⟩]
def C_active : AC := (.seq (.reg false [⟨(some 3), none, .box (.t 0)⟩, ⟨(some 6), none, .mv (.v (.slice none 0 0))⟩] (some ⟨[1,2,3], [3], []⟩))
  (.seq (.seq (.reg false [⟨(some 7), none, .mv (.v (.slice none 0 0))⟩] (some ⟨[1,2,3,7], [3], []⟩))
  (.own 7 46 2))
  (.seq (.reg false [⟨(some 8), none, .mv (.v (.bool false))⟩] (some ⟨[1,2,3,7,8], [3], [7]⟩))
  (.seq (.reg false [⟨(some 9), none, .mv (.v (.int .i64 (0)))⟩, ⟨(some 10), none, .mv (.v (.int .i64 (0)))⟩] (some ⟨[1,2,3,7,8,9,10], [3], [7]⟩))
  (.seq (.reg false [⟨(some 11), none, .mv (.v (.bool false))⟩, ⟨(some 12), none, .mv (.v (.bool false))⟩] (some ⟨[1,2,3,7,8,9,10,11,12], [3], [7]⟩))
  (.seq (.seq (.reg false [⟨(some 20), none, .mv (.t 1)⟩, ⟨(some 21), none, .len (.t 20)⟩, ⟨(some 22), none, .mv (.v (.int .i64 (0)))⟩] (some ⟨[1,2,3,7,8,9,10,11,12,20,21,22], [3], [7]⟩))
  (.block 0 (.loop (.seq (.reg false [⟨(some 23), none, .bin .lss (.t 22) (.t 21)⟩] (some ⟨[1,2,3,7,8,9,10,11,12,20,21,22,23], [3], [7]⟩))
  (.seq (.cond (.t 23)
  .skip
  (.exit 0))
  (.seq (.block 1 (.seq (.reg false [⟨(some 24), none, .mv (.t 22)⟩, ⟨(some 25), none, .iadr 3 (.t 20) (.t 22)⟩, ⟨(some 26), none, .load true 3 (.t 25)⟩, ⟨(some 14), none, .alloc [(.int .i64 (0)), (.int .i64 (0)), (.int .i64 (0))]⟩, ⟨(some 13), none, .mv (.t 24)⟩, ⟨none, none, .store 3 (.t 14) (.t 26)⟩] (some ⟨[1,2,3,7,8,9,10,11,12,13,14,20,21,22], [3,14], [7]⟩))
  (.seq (.reg false [⟨(some 15), none, .mv (.v (.int .i64 (345686400000)))⟩] (some ⟨[1,2,3,7,8,9,10,11,12,13,14,15,20,21,22], [3,14], [7]⟩))
  (.seq (.seq (.reg false [⟨(some 27), none, .mv (.t 13)⟩, ⟨(some 28), none, .bin .add (.t 27) (.v (.int .i64 (1)))⟩, ⟨(some 29), none, .mv (.t 1)⟩, ⟨(some 30), none, .len (.t 29)⟩, ⟨(some 31), none, .bin .lss (.t 28) (.t 30)⟩] (some ⟨[1,2,3,7,8,9,10,11,12,13,14,15,20,21,22,31], [3,14], [7]⟩))
  (.cond (.t 31)
  (.reg false [⟨(some 32), none, .mv (.t 1)⟩, ⟨(some 33), none, .mv (.t 13)⟩, ⟨(some 34), none, .bin .add (.t 33) (.v (.int .i64 (1)))⟩, ⟨(some 35), none, .iadr 3 (.t 32) (.t 34)⟩, ⟨(some 36), none, .fadr 0 (.t 35)⟩, ⟨(some 37), none, .load false 1 (.t 36)⟩, ⟨(some 15), none, .mv (.t 37)⟩] (some ⟨[1,2,3,7,8,9,10,11,12,14,15,20,21,22], [3,14], [7]⟩))
  .skip))
  (.seq (.reg false [⟨(some 39), none, .load true 10 (.t 3)⟩, ⟨(some 40), none, .load true 3 (.t 14)⟩, ⟨(some 41), none, .call (.f 43) [(.t 39), (.t 40)]⟩, ⟨(some 38), none, .mv (.t 41)⟩, ⟨(some 42), none, .extr (.t 38) 0⟩, ⟨(some 43), none, .extr (.t 38) 1⟩, ⟨(some 16), none, .mv (.t 42)⟩, ⟨(some 17), none, .mv (.t 43)⟩] (some ⟨[1,2,3,7,8,9,10,11,12,14,15,16,17,20,21,22], [3,14], [7]⟩))
  (.seq (.seq (.reg false [⟨(some 44), none, .mv (.t 16)⟩, ⟨(some 45), none, .mv (.t 44)⟩, ⟨(some 46), (some (45, true)), .mv (.t 11)⟩, ⟨(some 47), (some (45, true)), .un .not (.t 46)⟩, ⟨(some 48), none, .pick (.t 45) (.t 47) (.v (.bool false))⟩] (some ⟨[1,2,3,7,8,9,10,12,14,15,16,17,20,21,22,48], [3,14], [7]⟩))
  (.cond (.t 48)
  (.reg false [⟨(some 49), none, .fadr 0 (.t 14)⟩, ⟨(some 50), none, .load false 1 (.t 49)⟩, ⟨(some 9), none, .mv (.t 50)⟩] (some ⟨[1,2,3,7,8,9,10,12,14,15,16,17,20,21,22], [3,14], [7]⟩))
  .skip))
  (.seq (.seq (.reg false [⟨(some 51), none, .mv (.t 17)⟩, ⟨(some 52), none, .mv (.t 51)⟩, ⟨(some 53), (some (52, true)), .mv (.t 12)⟩, ⟨(some 54), (some (52, true)), .un .not (.t 53)⟩, ⟨(some 55), none, .pick (.t 52) (.t 54) (.v (.bool false))⟩] (some ⟨[1,2,3,7,8,9,10,14,15,16,17,20,21,22,55], [3,14], [7]⟩))
  (.cond (.t 55)
  (.reg false [⟨(some 56), none, .fadr 0 (.t 14)⟩, ⟨(some 57), none, .load false 1 (.t 56)⟩, ⟨(some 10), none, .mv (.t 57)⟩] (some ⟨[1,2,3,7,8,9,10,14,15,16,17,20,21,22], [3,14], [7]⟩))
  .skip))
  (.seq (.reg false [⟨(some 58), none, .mv (.t 16)⟩, ⟨(some 59), none, .mv (.t 17)⟩, ⟨(some 11), none, .mv (.t 58)⟩, ⟨(some 12), none, .mv (.t 59)⟩] (some ⟨[1,2,3,7,8,9,10,11,12,14,15,16,17,20,21,22], [3,14], [7]⟩))
  (.seq (.seq (.reg false [⟨(some 60), none, .fadr 0 (.t 14)⟩, ⟨(some 61), none, .load false 1 (.t 60)⟩, ⟨(some 62), none, .mv (.t 9)⟩, ⟨(some 63), none, .fadr 5 (.t 3)⟩, ⟨(some 64), none, .load false 1 (.t 63)⟩, ⟨(some 65), none, .bin .add (.t 62) (.t 64)⟩, ⟨(some 66), none, .mnx true (.t 61) (.t 65)⟩, ⟨(some 18), none, .mv (.t 66)⟩] (some ⟨[1,2,3,7,8,9,10,11,12,14,15,16,17,18,20,21,22], [3,14], [7]⟩))
  (.seq (.reg false [⟨(some 67), none, .mv (.t 16)⟩, ⟨(some 68), none, .mv (.t 67)⟩, ⟨(some 69), (some (68, true)), .mv (.t 8)⟩, ⟨(some 70), (some (68, true)), .un .not (.t 69)⟩, ⟨(some 71), none, .pick (.t 68) (.t 70) (.v (.bool false))⟩, ⟨(some 72), none, .mv (.t 71)⟩, ⟨(some 73), (some (72, true)), .mv (.t 18)⟩, ⟨(some 74), (some (72, true)), .mv (.t 15)⟩, ⟨(some 75), (some (72, true)), .bin .lss (.t 73) (.t 74)⟩, ⟨(some 76), none, .pick (.t 72) (.t 75) (.v (.bool false))⟩, ⟨(some 77), none, .mv (.t 76)⟩, ⟨(some 78), (some (77, true)), .mv (.t 18)⟩, ⟨(some 79), (some (77, true)), .mv (.t 2)⟩, ⟨(some 80), (some (77, true)), .bin .lss (.t 78) (.t 79)⟩, ⟨(some 81), none, .pick (.t 77) (.t 80) (.v (.bool false))⟩] (some ⟨[1,2,3,7,8,9,10,11,12,14,15,17,18,20,21,22,81], [3,14], [7]⟩))
  (.cond (.t 81)
  (.seq (.reg false [⟨(some 8), none, .mv (.v (.bool true))⟩] (some ⟨[1,2,3,7,8,9,10,11,12,14,15,17,18,20,21,22], [3,14], [7]⟩))
  (.reg false [⟨(some 82), none, .mv (.t 7)⟩, ⟨(some 83), none, .mv (.t 18)⟩, ⟨(some 84), none, .mv (.t 2)⟩, ⟨(some 85), none, .build [(.int .i64 (0)), (.int .i64 (0))] [(0, 1, (.t 83)), (1, 1, (.t 84))]⟩, ⟨(some 86), none, .bslice 2 1 [(.t 85)]⟩, ⟨(some 87), none, .append 46 2 16 (.t 82) (.t 86)⟩, ⟨(some 7), none, .mv (.t 87)⟩] (some ⟨[1,2,3,7,8,9,10,11,12,14,15,17,20,21,22], [3,14], [7]⟩)))
  .skip)))
  (.seq (.reg false [⟨(some 88), none, .fadr 0 (.t 14)⟩, ⟨(some 89), none, .load false 1 (.t 88)⟩, ⟨(some 90), none, .mv (.t 10)⟩, ⟨(some 91), none, .fadr 6 (.t 3)⟩, ⟨(some 92), none, .load false 1 (.t 91)⟩, ⟨(some 93), none, .bin .add (.t 90) (.t 92)⟩, ⟨(some 94), none, .mnx true (.t 89) (.t 93)⟩, ⟨(some 19), none, .mv (.t 94)⟩] (some ⟨[1,2,3,7,8,9,10,11,12,15,17,19,20,21,22], [3], [7]⟩))
  (.seq (.reg false [⟨(some 95), none, .mv (.t 17)⟩, ⟨(some 96), none, .mv (.t 95)⟩, ⟨(some 97), (some (96, true)), .mv (.t 8)⟩, ⟨(some 98), none, .pick (.t 96) (.t 97) (.v (.bool false))⟩, ⟨(some 99), none, .mv (.t 98)⟩, ⟨(some 100), (some (99, true)), .mv (.t 19)⟩, ⟨(some 101), (some (99, true)), .mv (.t 15)⟩, ⟨(some 102), (some (99, true)), .bin .lss (.t 100) (.t 101)⟩, ⟨(some 103), none, .pick (.t 99) (.t 102) (.v (.bool false))⟩, ⟨(some 104), none, .mv (.t 103)⟩, ⟨(some 105), (some (104, true)), .mv (.t 19)⟩, ⟨(some 106), (some (104, true)), .mv (.t 2)⟩, ⟨(some 107), (some (104, true)), .bin .lss (.t 105) (.t 106)⟩, ⟨(some 108), none, .pick (.t 104) (.t 107) (.v (.bool false))⟩] (some ⟨[1,2,3,7,8,9,10,11,12,19,20,21,22,108], [3], [7]⟩))
  (.cond (.t 108)
  (.seq (.reg false [⟨(some 8), none, .mv (.v (.bool false))⟩] (some ⟨[1,2,3,7,8,9,10,11,12,19,20,21,22], [3], [7]⟩))
  (.reg false [⟨(some 109), none, .mv (.t 7)⟩, ⟨(some 110), none, .mv (.t 7)⟩, ⟨(some 111), none, .len (.t 110)⟩, ⟨(some 112), none, .bin .sub (.t 111) (.v (.int .i64 (1)))⟩, ⟨(some 113), none, .mv (.t 19)⟩, ⟨(some 114), none, .iadr 2 (.t 109) (.t 112)⟩, ⟨(some 115), none, .fadr 1 (.t 114)⟩, ⟨none, none, .store 1 (.t 115) (.t 113)⟩] (some ⟨[1,2,3,7,8,9,10,11,12,20,21,22], [3], [7]⟩)))
  .skip))))))))))))
  (.reg false [⟨(some 116), none, .bin .add (.t 22) (.v (.int .i64 (1)))⟩, ⟨(some 22), none, .mv (.t 116)⟩] (some ⟨[1,2,3,7,8,9,10,11,12,20,21,22], [3], [7]⟩))))))))
  (.seq (.reg false [⟨(some 117), none, .mv (.t 7)⟩, ⟨(some 6), none, .mv (.t 117)⟩] (some ⟨[6], [], []⟩))
  .ret)))))))
theorem c_active : compileCode Tryd.prog Tryd.f26.ntmps (Tryd.f26.body.getD .skip) A_active = some (C_active, []) := by kernel_rfl
theorem r_active : compileRes Tryd.prog Tryd.f26.results.toList = some [.t 6] := by kernel_rfl
theorem b_active : Tryd.f26.body = some (Tryd.f26.body.getD .skip) := by kernel_rfl
theorem n_active : (Tryd.f26.name == "runtime.NumGoroutine") = false := by kernel_rfl
theorem fc_active {xt : Option (List Cel)} {args : List Val} {R : List Cel → Val → Prop} (hn : (if xt.isSome then 1 else 0) + args.length ≤ Tryd.f26.ntmps) (h : ex Tryd.prog C_active [] (fpost xt [.t 6] R) (initSt xt args)) : FC Tryd.prog 26 xt args R :=
  fc_of_awp Tryd.func26 b_active n_active c_active r_active (of_decide_eq_true (by kernel_rfl)) hn h

def A_activeP : List Ann := [⟨(some ⟨[1,2,3], [3], []⟩), [], [], [], []⟩, ⟨(some ⟨[1,2,3,8], [3], []⟩), [], [], [], []⟩, ⟨(some ⟨[1,2,3,8,14], [3], []⟩), [], [], [], []⟩, ⟨(some ⟨[6,7], [], []⟩), [], [], [(6, 2)], []⟩, ⟨(some ⟨[6,7], [], []⟩), [], [], [], []⟩]
def C_activeP : AC := (.seq (.reg false [⟨(some 3), none, .box (.t 0)⟩, ⟨(some 6), none, .mv (.v (.slice none 0 0))⟩, ⟨(some 7), none, .mv (.v (.int .i64 (0)))⟩] (some ⟨[1,2,3], [3], []⟩))
  (.seq (.seq (.reg false [⟨(some 9), none, .load true 10 (.t 3)⟩, ⟨(some 10), none, .mv (.t 1)⟩, ⟨(some 11), none, .mv (.t 2)⟩, ⟨(some 12), none, .call (.f 25) [(.t 9), (.t 10), (.t 11)]⟩, ⟨(some 8), none, .mv (.t 12)⟩] (some ⟨[1,2,3,8], [3], []⟩))
  (.seq (.reg false [⟨(some 13), none, .mv (.t 8)⟩, ⟨(some 14), none, .bin .neq (.t 13) (.v (.int .i64 (0)))⟩] (some ⟨[1,2,3,8,14], [3], []⟩))
  (.cond (.t 14)
  (.seq (.seq (.reg false [⟨(some 15), none, .mv (.t 8)⟩, ⟨(some 6), none, .mv (.v (.slice none 0 0))⟩, ⟨(some 7), none, .mv (.t 15)⟩] (some ⟨[6,7], [], []⟩))
  (.ty 6 2))
  .ret)
  .skip)))
  (.seq (.reg false [⟨(some 16), none, .load true 10 (.t 3)⟩, ⟨(some 17), none, .mv (.t 1)⟩, ⟨(some 18), none, .mv (.t 2)⟩, ⟨(some 19), none, .call (.f 26) [(.t 16), (.t 17), (.t 18)]⟩, ⟨(some 6), none, .mv (.t 19)⟩, ⟨(some 7), none, .mv (.v (.int .i64 (0)))⟩] (some ⟨[6,7], [], []⟩))
  .ret)))
theorem c_activeP : compileCode Tryd.prog Tryd.f13.ntmps (Tryd.f13.body.getD .skip) A_activeP = some (C_activeP, []) := by kernel_rfl
theorem r_activeP : compileRes Tryd.prog Tryd.f13.results.toList = some [.t 6, .t 7] := by kernel_rfl
theorem b_activeP : Tryd.f13.body = some (Tryd.f13.body.getD .skip) := by kernel_rfl
theorem n_activeP : (Tryd.f13.name == "runtime.NumGoroutine") = false := by kernel_rfl
theorem fc_activeP {xt : Option (List Cel)} {args : List Val} {R : List Cel → Val → Prop} (hn : (if xt.isSome then 1 else 0) + args.length ≤ Tryd.f13.ntmps) (h : ex Tryd.prog C_activeP [] (fpost xt [.t 6, .t 7] R) (initSt xt args)) : FC Tryd.prog 13 xt args R :=
  fc_of_awp Tryd.func13 b_activeP n_activeP c_activeP r_activeP (of_decide_eq_true (by kernel_rfl)) hn h


abbrev almC (kb tb pb : ByteArray) (lt : Bool) (kd lim db on off pr : Int) : List Cel := [.g (.string kb), .g (.string tb), .g (.int .i64 kd), .g (.int .i64 lim), .g (.int .i64 db), .g (.int .i64 on), .g (.int .i64 off), .g (.int .i64 pr), .g (.bool lt), .g (.string pb)]
abbrev almK (kb tb pb : ByteArray) (lt : Bool) (kd lim db on off pr : Int) : Val := .ag [.g (.string kb), .g (.string tb), .g (.int .i64 kd), .g (.int .i64 lim), .g (.int .i64 db), .g (.int .i64 on), .g (.int .i64 off), .g (.int .i64 pr), .g (.bool lt), .g (.string pb)]
def almF (kd lim db on off pr : Int) : Int := if kd < 1 ∨ kd > 3 then 4 else if ¬((-1000000 ≤ lim ∧ lim ≤ 1000000) ∧ (0 ≤ db ∧ db ≤ 2000000) ∧ (0 ≤ on ∧ on ≤ 86400000) ∧ (0 ≤ off ∧ off ≤ 86400000) ∧ (1 ≤ pr ∧ pr ≤ 1000)) then 1 else if kd = 3 ∧ (lim ≠ 0 ∨ db ≠ 0) then 3 else 0
/-- The fault of an alarm whose key and tag are keys, or not. -/
def almG (kk : Bool) (kd lim db on off pr : Int) : Int := if kk = false then 5 else almF kd lim db on off pr
theorem alarmFault_fc (kb tb pb : ByteArray) (lt : Bool) (hkb : kb.size ≤ 9223372036854775807) (htb : tb.size ≤ 9223372036854775807) (kd lim db on off pr : Int) : FC Tryd.prog 28 none [almK kb tb pb lt kd lim db on off pr] (fun _ r => r = iv (almG (keyOk kb && keyOk tb) kd lim db on off pr)) := by
  refine fc_alarmFault (by simp +arith) ?_
  unfold C_alarmFault
  simp (maxSteps := 1000000) (disch := omega) only [go_sem, eq_self, decide_true, decide_false, not_true_eq_false, not_false_eq_true, reduceIte, reduceCtorEq, Nat.reduceEqDiff, Nat.reduceAdd, Nat.reduceSub, Nat.reduceLeDiff]
  refine CALL_det (key_fc kb hkb) (.inl rfl) ?_
  cases hk1 : keyOk kb with
  | false =>
    rw [Bool.false_and]
    simp (maxSteps := 1000000) (disch := omega) only [go_sem, eq_self, decide_true, decide_false, not_true_eq_false, not_false_eq_true, reduceIte, reduceCtorEq, Nat.reduceEqDiff, Nat.reduceAdd, Nat.reduceSub, Nat.reduceLeDiff]
    exact iv_congr (by unfold almG; rw [if_pos rfl])
  | true =>
  rw [Bool.true_and]
  simp (maxSteps := 1000000) (disch := omega) only [go_sem, eq_self, decide_true, decide_false, not_true_eq_false, not_false_eq_true, reduceIte, reduceCtorEq, Nat.reduceEqDiff, Nat.reduceAdd, Nat.reduceSub, Nat.reduceLeDiff]
  refine CALL_det (key_fc tb htb) (.inl rfl) ?_
  cases hk2 : keyOk tb with
  | false =>
    simp (maxSteps := 1000000) (disch := omega) only [go_sem, eq_self, decide_true, decide_false, not_true_eq_false, not_false_eq_true, reduceIte, reduceCtorEq, Nat.reduceEqDiff, Nat.reduceAdd, Nat.reduceSub, Nat.reduceLeDiff]
    exact iv_congr (by unfold almG; rw [if_pos rfl])
  | true =>
  have eg : almG true kd lim db on off pr = almF kd lim db on off pr := by unfold almG; rw [if_neg (by simp)]
  rw [eg]
  simp (maxSteps := 1000000) (disch := omega) only [go_sem, eq_self, decide_true, decide_false, not_true_eq_false, not_false_eq_true, reduceIte, reduceCtorEq, Nat.reduceEqDiff, Nat.reduceAdd, Nat.reduceSub, Nat.reduceLeDiff]
  refine CALL_det (out_fc _ _ _) (.inl rfl) ?_
  by_cases h0 : kd < 1 ∨ kd > 3
  · rw [decide_eq_true h0]
    simp (maxSteps := 1000000) (disch := omega) only [go_sem, eq_self, decide_true, decide_false, not_true_eq_false, not_false_eq_true, reduceIte, reduceCtorEq, Nat.reduceEqDiff, Nat.reduceAdd, Nat.reduceSub, Nat.reduceLeDiff]
    exact iv_congr (by unfold almF; rw [if_pos h0])
  rw [decide_eq_false h0]
  simp (maxSteps := 1000000) (disch := omega) only [go_sem, eq_self, decide_true, decide_false, not_true_eq_false, not_false_eq_true, reduceIte, reduceCtorEq, Nat.reduceEqDiff, Nat.reduceAdd, Nat.reduceSub, Nat.reduceLeDiff]
  refine CALL_det (out_fc _ _ _) (.inl rfl) ?_
  by_cases h1 : lim < -1000000 ∨ lim > 1000000
  · rw [decide_eq_true h1]
    simp (maxSteps := 1000000) (disch := omega) only [go_sem, eq_self, decide_true, decide_false, not_true_eq_false, not_false_eq_true, reduceIte, reduceCtorEq, Nat.reduceEqDiff, Nat.reduceAdd, Nat.reduceSub, Nat.reduceLeDiff]
    exact iv_congr (by unfold almF; rw [if_neg h0, if_pos (by omega)])
  rw [decide_eq_false h1]
  simp (maxSteps := 1000000) (disch := omega) only [go_sem, eq_self, decide_true, decide_false, not_true_eq_false, not_false_eq_true, reduceIte, reduceCtorEq, Nat.reduceEqDiff, Nat.reduceAdd, Nat.reduceSub, Nat.reduceLeDiff]
  refine CALL_det (out_fc _ _ _) (.inl rfl) ?_
  by_cases h2 : db < 0 ∨ db > 2000000
  · rw [decide_eq_true h2]
    simp (maxSteps := 1000000) (disch := omega) only [go_sem, eq_self, decide_true, decide_false, not_true_eq_false, not_false_eq_true, reduceIte, reduceCtorEq, Nat.reduceEqDiff, Nat.reduceAdd, Nat.reduceSub, Nat.reduceLeDiff]
    exact iv_congr (by unfold almF; rw [if_neg h0, if_pos (by omega)])
  rw [decide_eq_false h2]
  simp (maxSteps := 1000000) (disch := omega) only [go_sem, eq_self, decide_true, decide_false, not_true_eq_false, not_false_eq_true, reduceIte, reduceCtorEq, Nat.reduceEqDiff, Nat.reduceAdd, Nat.reduceSub, Nat.reduceLeDiff]
  refine CALL_det (out_fc _ _ _) (.inl rfl) ?_
  by_cases h3 : on < 0 ∨ on > 86400000
  · rw [decide_eq_true h3]
    simp (maxSteps := 1000000) (disch := omega) only [go_sem, eq_self, decide_true, decide_false, not_true_eq_false, not_false_eq_true, reduceIte, reduceCtorEq, Nat.reduceEqDiff, Nat.reduceAdd, Nat.reduceSub, Nat.reduceLeDiff]
    exact iv_congr (by unfold almF; rw [if_neg h0, if_pos (by omega)])
  rw [decide_eq_false h3]
  simp (maxSteps := 1000000) (disch := omega) only [go_sem, eq_self, decide_true, decide_false, not_true_eq_false, not_false_eq_true, reduceIte, reduceCtorEq, Nat.reduceEqDiff, Nat.reduceAdd, Nat.reduceSub, Nat.reduceLeDiff]
  refine CALL_det (out_fc _ _ _) (.inl rfl) ?_
  by_cases h4 : off < 0 ∨ off > 86400000
  · rw [decide_eq_true h4]
    simp (maxSteps := 1000000) (disch := omega) only [go_sem, eq_self, decide_true, decide_false, not_true_eq_false, not_false_eq_true, reduceIte, reduceCtorEq, Nat.reduceEqDiff, Nat.reduceAdd, Nat.reduceSub, Nat.reduceLeDiff]
    exact iv_congr (by unfold almF; rw [if_neg h0, if_pos (by omega)])
  rw [decide_eq_false h4]
  simp (maxSteps := 1000000) (disch := omega) only [go_sem, eq_self, decide_true, decide_false, not_true_eq_false, not_false_eq_true, reduceIte, reduceCtorEq, Nat.reduceEqDiff, Nat.reduceAdd, Nat.reduceSub, Nat.reduceLeDiff]
  refine CALL_det (out_fc _ _ _) (.inl rfl) ?_
  by_cases h5 : pr < 1 ∨ pr > 1000
  · rw [decide_eq_true h5]
    simp (maxSteps := 1000000) (disch := omega) only [go_sem, eq_self, decide_true, decide_false, not_true_eq_false, not_false_eq_true, reduceIte, reduceCtorEq, Nat.reduceEqDiff, Nat.reduceAdd, Nat.reduceSub, Nat.reduceLeDiff]
    exact iv_congr (by unfold almF; rw [if_neg h0, if_pos (by omega)])
  rw [decide_eq_false h5]
  have e : almF kd lim db on off pr = if kd = 3 ∧ (lim ≠ 0 ∨ db ≠ 0) then 3 else 0 := by unfold almF; rw [if_neg h0, if_neg (by omega)]
  rw [e]
  by_cases h6 : kd = 3
  · by_cases h7 : lim = 0
    · by_cases h8 : db = 0
      · rw [if_neg (by omega)]
        simp (maxSteps := 1000000) (disch := omega) only [go_sem, eq_self, decide_true, decide_false, not_true_eq_false, not_false_eq_true, reduceIte, reduceCtorEq, Nat.reduceEqDiff, Nat.reduceAdd, Nat.reduceSub, Nat.reduceLeDiff]
      · rw [if_pos (by omega)]
        simp (maxSteps := 1000000) (disch := omega) only [go_sem, eq_self, decide_true, decide_false, not_true_eq_false, not_false_eq_true, reduceIte, reduceCtorEq, Nat.reduceEqDiff, Nat.reduceAdd, Nat.reduceSub, Nat.reduceLeDiff]
    · rw [if_pos (by omega)]
      simp (maxSteps := 1000000) (disch := omega) only [go_sem, eq_self, decide_true, decide_false, not_true_eq_false, not_false_eq_true, reduceIte, reduceCtorEq, Nat.reduceEqDiff, Nat.reduceAdd, Nat.reduceSub, Nat.reduceLeDiff]
  · rw [if_neg (by omega)]
    simp (maxSteps := 1000000) (disch := omega) only [go_sem, eq_self, decide_true, decide_false, not_true_eq_false, not_false_eq_true, reduceIte, reduceCtorEq, Nat.reduceEqDiff, Nat.reduceAdd, Nat.reduceSub, Nat.reduceLeDiff]
def unF (kk : Bool) (kd lim db on off pr : Int) (l : List Smp) (un : Int) : Int := if orSp [almG kk kd lim db on off pr, serFault l] = 0 ∧ (un < 0 ∨ un > 345686400000) then 1 else orSp [almG kk kd lim db on off pr, serFault l]
theorem untilFault_fc (kb tb pb : ByteArray) (lt : Bool) (hkb : kb.size ≤ 9223372036854775807) (htb : tb.size ≤ 9223372036854775807) (kd lim db on off pr : Int) (l : List Smp) (hl : l.length ≤ 4611686018427387904) (un : Int) : FC Tryd.prog 25 none [almK kb tb pb lt kd lim db on off pr, smps false l, iv un] (fun _ r => r = iv (unF (keyOk kb && keyOk tb) kd lim db on off pr l un)) := by
  refine fc_untilFault (by simp +arith) ?_
  have hca := alarmFault_fc kb tb pb lt hkb htb kd lim db on off pr
  generalize (keyOk kb && keyOk tb) = kk at *
  unfold C_untilFault
  simp (maxSteps := 1000000) (disch := omega) only [go_sem, eq_self, decide_true, decide_false, not_true_eq_false, not_false_eq_true, reduceIte, reduceCtorEq, Nat.reduceEqDiff, Nat.reduceAdd, Nat.reduceSub, Nat.reduceLeDiff]
  refine CALL_det hca (.inl rfl) ?_
  simp (maxSteps := 1000000) (disch := omega) only [go_sem, eq_self, decide_true, decide_false, not_true_eq_false, not_false_eq_true, reduceIte, reduceCtorEq, Nat.reduceEqDiff, Nat.reduceAdd, Nat.reduceSub, Nat.reduceLeDiff]
  refine CALL_det (checkSeries_fc l hl) (.inl rfl) ?_
  simp (maxSteps := 1000000) (disch := omega) only [go_sem, eq_self, decide_true, decide_false, not_true_eq_false, not_false_eq_true, reduceIte, reduceCtorEq, Nat.reduceEqDiff, Nat.reduceAdd, Nat.reduceSub, Nat.reduceLeDiff]
  refine CALL_det (first_fc false [almG kk kd lim db on off pr, serFault l] (by simp)) (.inl rfl) ?_
  unfold unF
  generalize orSp [almG kk kd lim db on off pr, serFault l] = e
  by_cases h1 : e = 0
  · simp (maxSteps := 1000000) (disch := omega) only [go_sem, eq_self, decide_true, decide_false, not_true_eq_false, not_false_eq_true, reduceIte, reduceCtorEq, Nat.reduceEqDiff, Nat.reduceAdd, Nat.reduceSub, Nat.reduceLeDiff]
    refine CALL_det (out_fc _ _ _) (.inl rfl) ?_
    by_cases h2 : un < 0 ∨ un > 345686400000
    · rw [decide_eq_true h2, if_pos ⟨h1, h2⟩]
      simp (maxSteps := 1000000) (disch := omega) only [go_sem, eq_self, decide_true, decide_false, not_true_eq_false, not_false_eq_true, reduceIte, reduceCtorEq, Nat.reduceEqDiff, Nat.reduceAdd, Nat.reduceSub, Nat.reduceLeDiff]
    · rw [decide_eq_false h2, if_neg (fun h => h2 h.2)]
      simp (maxSteps := 1000000) (disch := omega) only [go_sem, eq_self, decide_true, decide_false, not_true_eq_false, not_false_eq_true, reduceIte, reduceCtorEq, Nat.reduceEqDiff, Nat.reduceAdd, Nat.reduceSub, Nat.reduceLeDiff]
  · rw [if_neg (fun h => h1 h.1)]
    simp (maxSteps := 1000000) (disch := omega) only [go_sem, eq_self, decide_true, decide_false, not_true_eq_false, not_false_eq_true, reduceIte, reduceCtorEq, Nat.reduceEqDiff, Nat.reduceAdd, Nat.reduceSub, Nat.reduceLeDiff]
/-- Whether the condition of an alarm holds for a sample, and whether it holds no more. -/
def hldSp (kd lim db : Int) (s : Smp) : Bool × Bool :=
  if kd = 1 then (decide (¬s.q = 2 ∧ s.v > lim), decide (¬s.q = 2 ∧ s.v ≤ lim - db)) else if kd = 2 then (decide (¬s.q = 2 ∧ s.v < lim), decide (¬s.q = 2 ∧ s.v ≥ lim + db)) else (decide (s.q = 2), decide (¬s.q = 2))
theorem hold_fc (kb tb pb : ByteArray) (lt : Bool) (kd lim db on off pr : Int) (s : Smp) (hs : okSmp s) (h1 : -1000000 ≤ lim ∧ lim ≤ 1000000) (h2 : 0 ≤ db ∧ db ≤ 2000000) : FC Tryd.prog 43 none [almK kb tb pb lt kd lim db on off pr, smpV s] (fun _ r => r = .tu [bv (hldSp kd lim db s).1, bv (hldSp kd lim db s).2]) := by
  refine fc_hold_ (by simp +arith) ?_
  unfold C_hold_ hldSp
  by_cases c1 : kd = 1
  · rw [if_pos c1]
    by_cases c2 : s.q = 2
    · rw [decide_eq_false (fun h => h.1 c2), decide_eq_false (fun h => h.1 c2)]
      simp (maxSteps := 1000000) (disch := omega) only [go_sem, eq_self, decide_true, decide_false, not_true_eq_false, not_false_eq_true, reduceIte, reduceCtorEq, Nat.reduceEqDiff, Nat.reduceAdd, Nat.reduceSub, Nat.reduceLeDiff]
    · simp (maxSteps := 1000000) (disch := omega) only [go_sem, eq_self, decide_true, decide_false, not_true_eq_false, not_false_eq_true, reduceIte, reduceCtorEq, Nat.reduceEqDiff, Nat.reduceAdd, Nat.reduceSub, Nat.reduceLeDiff]
      exact tu2_congr (bv_dec (by simp [c2])) (bv_dec (by simp [c2]))
  rw [if_neg c1]
  by_cases c3 : kd = 2
  · rw [if_pos c3]
    by_cases c2 : s.q = 2
    · rw [decide_eq_false (fun h => h.1 c2), decide_eq_false (fun h => h.1 c2)]
      simp (maxSteps := 1000000) (disch := omega) only [go_sem, eq_self, decide_true, decide_false, not_true_eq_false, not_false_eq_true, reduceIte, reduceCtorEq, Nat.reduceEqDiff, Nat.reduceAdd, Nat.reduceSub, Nat.reduceLeDiff]
    · simp (maxSteps := 1000000) (disch := omega) only [go_sem, eq_self, decide_true, decide_false, not_true_eq_false, not_false_eq_true, reduceIte, reduceCtorEq, Nat.reduceEqDiff, Nat.reduceAdd, Nat.reduceSub, Nat.reduceLeDiff]
      exact tu2_congr (bv_dec (by simp [c2])) (bv_dec (by simp [c2]))
  rw [if_neg c3]
  simp (maxSteps := 1000000) (disch := omega) only [go_sem, eq_self, decide_true, decide_false, not_true_eq_false, not_false_eq_true, reduceIte, reduceCtorEq, Nat.reduceEqDiff, Nat.reduceAdd, Nat.reduceSub, Nat.reduceLeDiff]
/-- Where the search for active windows is. -/
structure ActX where
  out : List (Int × Int)
  act : Bool
  t1 : Int
  t2 : Int
  h1 : Bool
  h2 : Bool
def actOn (on off un nx : Int) (a : Int) (x y : Bool) (s : ActX) : ActX :=
  let t1 := if x = true ∧ s.h1 = false then a else s.t1
  let t2 := if y = true ∧ s.h2 = false then a else s.t2
  let up := x = true ∧ s.act = false ∧ max a (t1 + on) < nx ∧ max a (t1 + on) < un
  let act1 := if up then true else s.act
  let out1 := if up then s.out ++ [(max a (t1 + on), un)] else s.out
  let dn := y = true ∧ act1 = true ∧ max a (t2 + off) < nx ∧ max a (t2 + off) < un
  ⟨if dn then setTo out1 (max a (t2 + off)) else out1, if dn then false else act1, t1, t2, x, y⟩
def actGo (kd lim db on off un : Int) : List Smp → ActX → ActX
  | [], s => s
  | [x], s => actOn on off un 345686400000 x.a (hldSp kd lim db x).1 (hldSp kd lim db x).2 s
  | x :: y :: r, s => actGo kd lim db on off un (y :: r) (actOn on off un y.a x.a (hldSp kd lim db x).1 (hldSp kd lim db x).2 s)
def nxA (l : List Smp) (i : Nat) : Int := if i + 1 < l.length then (l.getD (i + 1) default).a else 345686400000
theorem actGo_step (kd lim db on off un : Int) (l : List Smp) (i : Nat) (h : i < l.length) (s : ActX) : actGo kd lim db on off un (l.drop i) s = actGo kd lim db on off un (l.drop (i + 1)) (actOn on off un (nxA l i) (l.getD i default).a (hldSp kd lim db (l.getD i default)).1 (hldSp kd lim db (l.getD i default)).2 s) := by
  unfold nxA
  rw [drop_cons l i h]
  by_cases h2 : i + 1 < l.length
  · rw [drop_cons l (i + 1) h2, actGo, if_pos h2]
  · rw [List.drop_eq_nil_of_le (by omega), actGo, if_neg h2, actGo]
def actW (kd lim db on off un : Int) (l : List Smp) : List (Int × Int) := (actGo kd lim db on off un l ⟨[], false, 0, 0, false, false⟩).out
def actSt (kb tb pb : ByteArray) (lt : Bool) (kd lim db on off pr un : Int) (l : List Smp) (i : Int) (x : ActX) : AS := ⟨tabV [(1, smps false l), (2, iv un), (3, .one (.bx 3 0)), (7, .one (.ow 7 0)), (8, bv x.act), (9, iv x.t1), (10, iv x.t2), (11, bv x.h1), (12, bv x.h2), (20, smps false l), (21, iv l.length), (22, iv i)], tabO [(3, [.g (.string kb), .g (.string tb), .g (.int .i64 kd), .g (.int .i64 lim), .g (.int .i64 db), .g (.int .i64 on), .g (.int .i64 off), .g (.int .i64 pr), .g (.bool lt), .g (.string pb)])], tabO [(7, winRow x.out)]⟩
structure ActI (kd lim db on off un : Int) (l : List Smp) (i : Int) (x : ActX) : Prop where
  a : 0 ≤ i
  b : i ≤ l.length
  c : x.out.length ≤ i
  d : x.act = true → 1 ≤ x.out.length
  e : 0 ≤ x.t1 ∧ x.t1 ≤ 345686400000
  f : 0 ≤ x.t2 ∧ x.t2 ≤ 345686400000
  g : actGo kd lim db on off un (l.drop i.toNat) x = actGo kd lim db on off un l ⟨[], false, 0, 0, false, false⟩
theorem ActI.next {kd lim db on off un : Int} {l : List Smp} {i : Int} {x y : ActX} (h : ActI kd lim db on off un l i x) (hi : i < l.length) (ha : 0 ≤ (l.getD i.toNat default).a ∧ (l.getD i.toNat default).a ≤ 345686400000) (hy : y = actOn on off un (nxA l i.toNat) (l.getD i.toNat default).a (hldSp kd lim db (l.getD i.toNat default)).1 (hldSp kd lim db (l.getD i.toNat default)).2 x) : ActI kd lim db on off un l (i + 1) y := by
  have h1 := h.a
  have h2 := h.c
  have h3 := h.d
  have h4 := h.e
  have h5 := h.f
  have h6 := h.g
  have e2 : (i + 1).toNat = i.toNat + 1 := by omega
  rw [actGo_step kd lim db on off un l i.toNat (by omega), ← hy, ← e2] at h6
  refine ⟨by omega, by omega, ?_, ?_, ?_, ?_, h6⟩
  · rw [hy]; unfold actOn; simp only []
    (repeat' split) <;> (first | omega | (simp only [setTo_len, List.length_append, List.length_singleton]; omega))
  · rw [hy]; unfold actOn; simp only []
    (repeat' split) <;> intro h <;> (first | (cases h; done) | (simp only [setTo_len, List.length_append, List.length_singleton]; omega) | (have := h3 h; omega) | (have := h3 h; simp only [setTo_len, List.length_append, List.length_singleton]; omega))
  · rw [hy]; unfold actOn; simp only []; split
    · exact ha
    · exact h4
  · rw [hy]; unfold actOn; simp only []; split
    · exact ha
    · exact h5
end Go.Proofs.YtggbcgldnjmobaaDoor


/-
  The reference's recipes and phases, and its search.
-/
import Derived.Test.YtmbpfhpdicjpcaaFpl
namespace Go.Proofs.Ytmbpfhpdicjpcaa
open Go Go.Ai
set_option linter.unusedSimpArgs false
set_option linter.unusedVariables false
set_option maxHeartbeats 4000000
def A_rrClos : List Ann := [⟨(some ⟨[1,2], [2], []⟩), [], [], [], []⟩, ⟨(some ⟨[3], [], []⟩), [], [], [], []⟩]
def C_rrClos : AC := (.seq (.reg false [⟨(some 2), none, .box (.t 0)⟩, ⟨(some 3), none, .mv (.v (.bool false))⟩] (some ⟨[1,2], [2], []⟩))
  (.seq (.reg false [⟨(some 4), none, .fadr 0 (.t 2)⟩, ⟨(some 5), none, .load false 1 (.t 4)⟩, ⟨(some 6), none, .fadr 0 (.t 1)⟩, ⟨(some 7), none, .load false 1 (.t 6)⟩, ⟨(some 8), none, .bin .eql (.t 5) (.t 7)⟩, ⟨(some 3), none, .mv (.t 8)⟩] (some ⟨[3], [], []⟩))
  .ret))
theorem c_rrClos : compileCode Try.prog Try.f139.ntmps (Try.f139.body.getD .skip) A_rrClos = some (C_rrClos, []) := by kernel_rfl
theorem r_rrClos : compileRes Try.prog Try.f139.results.toList = some [.t 3] := by kernel_rfl
theorem b_rrClos : Try.f139.body = some (Try.f139.body.getD .skip) := by kernel_rfl
theorem n_rrClos : (Try.f139.name == "runtime.NumGoroutine") = false := by kernel_rfl
theorem fc_rrClos {xt : Option (List Cel)} {args : List Val} {R : List Cel → Val → Prop} (hn : (if xt.isSome then 1 else 0) + args.length ≤ Try.f139.ntmps) (h : ex Try.prog C_rrClos [] (fpost xt [.t 3] R) (initSt xt args)) : FC Try.prog 139 xt args R :=
  fc_of_awp Try.func139 b_rrClos n_rrClos c_rrClos r_rrClos (of_decide_eq_true (by kernel_rfl)) hn h

def A_recipeFault : List Ann := [⟨(some ⟨[0], [], []⟩), [], [], [], []⟩, ⟨(some ⟨[0,6], [], []⟩), [], [], [], []⟩, ⟨(some ⟨[2], [], []⟩), [], [], [], []⟩, ⟨(some ⟨[0,10], [], []⟩), [], [], [], []⟩, ⟨(some ⟨[2], [], []⟩), [], [], [], []⟩, ⟨(some ⟨[0,3], [], []⟩), [], [], [], []⟩, ⟨(some ⟨[0,3,14,15,16], [], []⟩), [], [], [], []⟩, ⟨(some ⟨[0,3,14,15,16,17], [], []⟩), [], [], [], []⟩, ⟨(some ⟨[0,3,4,5,14,15,16], [5], []⟩), [], [], [], []⟩, ⟨(some ⟨[0,3,4,5,14,15,16,30], [5], []⟩), [], [], [], []⟩, ⟨(some ⟨[2], [], []⟩), [], [], [], []⟩, ⟨(some ⟨[0,3,14,15,16], [], []⟩), [], [], [], []⟩, ⟨(some ⟨[0,3,14,15,16], [], []⟩), [], [], [], []⟩, ⟨(some ⟨[40], [], []⟩), [], [], [], []⟩, ⟨(some ⟨[2], [], []⟩), [], [], [], []⟩, ⟨(some ⟨[2], [], []⟩), [], [], [], []⟩]
def C_recipeFault : AC := (.seq (.reg false [⟨(some 2), none, .mv (.v (.int .i64 (0)))⟩] (some ⟨[0], [], []⟩))
  (.seq (.block 0 (.seq (.reg false [⟨(some 7), none, .mv (.t 0)⟩, ⟨(some 8), none, .len (.t 7)⟩, ⟨(some 9), none, .bin .eql (.t 8) (.v (.int .i64 (0)))⟩, ⟨(some 6), none, .mv (.t 9)⟩] (some ⟨[0,6], [], []⟩))
  (.cond (.t 6)
  (.seq (.reg false [⟨(some 2), none, .mv (.v (.int .i64 (8)))⟩] (some ⟨[2], [], []⟩))
  .ret)
  (.seq (.reg false [⟨(some 11), none, .mv (.t 0)⟩, ⟨(some 12), none, .len (.t 11)⟩, ⟨(some 13), none, .bin .gtr (.t 12) (.v (.int .i64 (100)))⟩, ⟨(some 10), none, .mv (.t 13)⟩] (some ⟨[0,10], [], []⟩))
  (.cond (.t 10)
  (.seq (.reg false [⟨(some 2), none, .mv (.v (.int .i64 (2)))⟩] (some ⟨[2], [], []⟩))
  .ret)
  .skip)))))
  (.seq (.reg false [⟨(some 3), none, .mv (.v (.bool false))⟩] (some ⟨[0,3], [], []⟩))
  (.seq (.seq (.reg false [⟨(some 14), none, .mv (.t 0)⟩, ⟨(some 15), none, .len (.t 14)⟩, ⟨(some 16), none, .mv (.v (.int .i64 (0)))⟩] (some ⟨[0,3,14,15,16], [], []⟩))
  (.block 1 (.loop (.seq (.reg false [⟨(some 17), none, .bin .lss (.t 16) (.t 15)⟩] (some ⟨[0,3,14,15,16,17], [], []⟩))
  (.seq (.cond (.t 17)
  .skip
  (.exit 1))
  (.seq (.block 2 (.seq (.reg false [⟨(some 18), none, .mv (.t 16)⟩, ⟨(some 19), none, .iadr 3 (.t 14) (.t 16)⟩, ⟨(some 20), none, .load true 3 (.t 19)⟩, ⟨(some 5), none, .alloc [(.int .i64 (0)), (.bool false), (.int .i64 (0))]⟩, ⟨(some 4), none, .mv (.t 18)⟩, ⟨none, none, .store 3 (.t 5) (.t 20)⟩] (some ⟨[0,3,4,5,14,15,16], [5], []⟩))
  (.seq (.seq (.reg false [⟨(some 21), none, .fadr 0 (.t 5)⟩, ⟨(some 22), none, .load false 1 (.t 21)⟩, ⟨(some 23), none, .call (.f 95) [(.t 22), (.v (.int .i64 (0))), (.v (.int .i64 (1000)))]⟩, ⟨(some 24), none, .un .not (.t 23)⟩, ⟨(some 25), none, .mv (.t 24)⟩, ⟨(some 26), (some (25, false)), .fadr 2 (.t 5)⟩, ⟨(some 27), (some (25, false)), .load false 1 (.t 26)⟩, ⟨(some 28), (some (25, false)), .call (.f 95) [(.t 27), (.v (.int .i64 (1))), (.v (.int .i64 (100)))]⟩, ⟨(some 29), (some (25, false)), .un .not (.t 28)⟩, ⟨(some 30), none, .pick (.t 25) (.v (.bool true)) (.t 29)⟩] (some ⟨[0,3,4,5,14,15,16,30], [5], []⟩))
  (.cond (.t 30)
  (.seq (.reg false [⟨(some 2), none, .mv (.v (.int .i64 (1)))⟩] (some ⟨[2], [], []⟩))
  .ret)
  .skip))
  (.reg false [⟨(some 31), none, .mv (.t 3)⟩, ⟨(some 32), none, .mv (.t 31)⟩, ⟨(some 33), (some (32, false)), .mv (.t 0)⟩, ⟨(some 34), (some (32, false)), .mv (.t 4)⟩, ⟨(some 35), (some (32, false)), .slc 3 (.t 33) none (some (.t 34))⟩, ⟨(some 36), (some (32, false)), .mkfn 139 [(.t 5)]⟩, ⟨(some 37), (some (32, false)), .call (.f 138) [(.t 35), (.t 36)]⟩, ⟨(some 38), none, .pick (.t 32) (.v (.bool true)) (.t 37)⟩, ⟨(some 3), none, .mv (.t 38)⟩] (some ⟨[0,3,14,15,16], [], []⟩)))))
  (.reg false [⟨(some 39), none, .bin .add (.t 16) (.v (.int .i64 (1)))⟩, ⟨(some 16), none, .mv (.t 39)⟩] (some ⟨[0,3,14,15,16], [], []⟩))))))))
  (.seq (.seq (.reg false [⟨(some 40), none, .mv (.t 3)⟩] (some ⟨[40], [], []⟩))
  (.cond (.t 40)
  (.seq (.reg false [⟨(some 2), none, .mv (.v (.int .i64 (6)))⟩] (some ⟨[2], [], []⟩))
  .ret)
  .skip))
  (.seq (.reg false [⟨(some 2), none, .mv (.v (.int .i64 (0)))⟩] (some ⟨[2], [], []⟩))
  .ret))))))
theorem c_recipeFault : compileCode Try.prog Try.f80.ntmps (Try.f80.body.getD .skip) A_recipeFault = some (C_recipeFault, []) := by kernel_rfl
theorem r_recipeFault : compileRes Try.prog Try.f80.results.toList = some [.t 2] := by kernel_rfl
theorem b_recipeFault : Try.f80.body = some (Try.f80.body.getD .skip) := by kernel_rfl
theorem n_recipeFault : (Try.f80.name == "runtime.NumGoroutine") = false := by kernel_rfl
theorem fc_recipeFault {xt : Option (List Cel)} {args : List Val} {R : List Cel → Val → Prop} (hn : (if xt.isSome then 1 else 0) + args.length ≤ Try.f80.ntmps) (h : ex Try.prog C_recipeFault [] (fpost xt [.t 2] R) (initSt xt args)) : FC Try.prog 80 xt args R :=
  fc_of_awp Try.func80 b_recipeFault n_recipeFault c_recipeFault r_recipeFault (of_decide_eq_true (by kernel_rfl)) hn h

def A_rphasesFault : List Ann := [⟨(some ⟨[0], [], []⟩), [], [], [], []⟩, ⟨(some ⟨[0,8], [], []⟩), [], [], [], []⟩, ⟨(some ⟨[2], [], []⟩), [], [], [], []⟩, ⟨(some ⟨[0,3], [], []⟩), [(3, 49, 2)], [], [], []⟩, ⟨(some ⟨[3,9,10,11], [], [3]⟩), [], [], [], []⟩, ⟨(some ⟨[3,9,10,11,12], [], [3]⟩), [], [], [], []⟩, ⟨(some ⟨[3,5,9,10,11], [5], [3]⟩), [], [], [], []⟩, ⟨(some ⟨[3,5,9,10,11,18], [5], [3]⟩), [], [], [], []⟩, ⟨(some ⟨[2], [], []⟩), [], [], [], []⟩, ⟨(some ⟨[3,9,10,11], [], [3]⟩), [], [], [], []⟩, ⟨(some ⟨[3,9,10,11], [], [3]⟩), [], [], [], []⟩, ⟨(some ⟨[2], [], []⟩), [], [], [], []⟩]
def C_rphasesFault : AC := (.seq (.reg false [⟨(some 2), none, .mv (.v (.int .i64 (0)))⟩] (some ⟨[0], [], []⟩))
  (.seq (.seq (.reg false [⟨(some 6), none, .mv (.t 0)⟩, ⟨(some 7), none, .len (.t 6)⟩, ⟨(some 8), none, .bin .gtr (.t 7) (.v (.int .i64 (5000)))⟩] (some ⟨[0,8], [], []⟩))
  (.cond (.t 8)
  (.seq (.reg false [⟨(some 2), none, .mv (.v (.int .i64 (2)))⟩] (some ⟨[2], [], []⟩))
  .ret)
  .skip))
  (.seq (.seq (.reg false [⟨(some 3), none, .mv (.v (.slice none 0 0))⟩] (some ⟨[0,3], [], []⟩))
  (.own 3 49 2))
  (.seq (.seq (.reg false [⟨(some 9), none, .mv (.t 0)⟩, ⟨(some 10), none, .len (.t 9)⟩, ⟨(some 11), none, .mv (.v (.int .i64 (0)))⟩] (some ⟨[3,9,10,11], [], [3]⟩))
  (.block 0 (.loop (.seq (.reg false [⟨(some 12), none, .bin .lss (.t 11) (.t 10)⟩] (some ⟨[3,9,10,11,12], [], [3]⟩))
  (.seq (.cond (.t 12)
  .skip
  (.exit 0))
  (.seq (.block 1 (.seq (.reg false [⟨(some 13), none, .iadr 3 (.t 9) (.t 11)⟩, ⟨(some 14), none, .load true 3 (.t 13)⟩, ⟨(some 5), none, .alloc [(.int .i64 (0)), (.int .i64 (0)), (.int .i64 (0))]⟩, ⟨none, none, .store 3 (.t 5) (.t 14)⟩] (some ⟨[3,5,9,10,11], [5], [3]⟩))
  (.seq (.seq (.reg false [⟨(some 15), none, .fadr 0 (.t 5)⟩, ⟨(some 16), none, .load false 1 (.t 15)⟩, ⟨(some 17), none, .call (.f 95) [(.t 16), (.v (.int .i64 (0))), (.v (.int .i64 (1000)))]⟩, ⟨(some 18), none, .un .not (.t 17)⟩] (some ⟨[3,5,9,10,11,18], [5], [3]⟩))
  (.cond (.t 18)
  (.seq (.reg false [⟨(some 2), none, .mv (.v (.int .i64 (1)))⟩] (some ⟨[2], [], []⟩))
  .ret)
  .skip))
  (.reg false [⟨(some 19), none, .mv (.t 3)⟩, ⟨(some 20), none, .fadr 1 (.t 5)⟩, ⟨(some 21), none, .load true 2 (.t 20)⟩, ⟨(some 22), none, .bslice 2 1 [(.t 21)]⟩, ⟨(some 23), none, .append 49 2 16 (.t 19) (.t 22)⟩, ⟨(some 3), none, .mv (.t 23)⟩] (some ⟨[3,9,10,11], [], [3]⟩)))))
  (.reg false [⟨(some 24), none, .bin .add (.t 11) (.v (.int .i64 (1)))⟩, ⟨(some 11), none, .mv (.t 24)⟩] (some ⟨[3,9,10,11], [], [3]⟩))))))))
  (.seq (.reg false [⟨(some 25), none, .mv (.t 3)⟩, ⟨(some 26), none, .call (.f 20) [(.t 25)]⟩, ⟨(some 2), none, .mv (.t 26)⟩] (some ⟨[2], [], []⟩))
  .ret)))))
theorem c_rphasesFault : compileCode Try.prog Try.f81.ntmps (Try.f81.body.getD .skip) A_rphasesFault = some (C_rphasesFault, []) := by kernel_rfl
theorem r_rphasesFault : compileRes Try.prog Try.f81.results.toList = some [.t 2] := by kernel_rfl
theorem b_rphasesFault : Try.f81.body = some (Try.f81.body.getD .skip) := by kernel_rfl
theorem n_rphasesFault : (Try.f81.name == "runtime.NumGoroutine") = false := by kernel_rfl
theorem fc_rphasesFault {xt : Option (List Cel)} {args : List Val} {R : List Cel → Val → Prop} (hn : (if xt.isSome then 1 else 0) + args.length ≤ Try.f81.ntmps) (h : ex Try.prog C_rphasesFault [] (fpost xt [.t 2] R) (initSt xt args)) : FC Try.prog 81 xt args R :=
  fc_of_awp Try.func81 b_rphasesFault n_rphasesFault c_rphasesFault r_rphasesFault (of_decide_eq_true (by kernel_rfl)) hn h

def A_begins : List Ann := [⟨(some ⟨[0,1,2,3,4], [], []⟩), [], [], [], []⟩, ⟨(some ⟨[0,1,2,3,4,18], [], []⟩), [], [], [], []⟩, ⟨(some ⟨[10], [], []⟩), [], [], [], []⟩, ⟨(some ⟨[0,1,2,3,4,22], [], []⟩), [], [], [], []⟩, ⟨(some ⟨[10], [], []⟩), [], [], [], []⟩, ⟨(some ⟨[0,1,2,3,4,11], [11], []⟩), [], [], [], []⟩, ⟨(some ⟨[0,1,2,3,4,11,57], [11], []⟩), [], [], [], []⟩, ⟨(some ⟨[10], [], []⟩), [], [], [], []⟩, ⟨(some ⟨[10], [], []⟩), [], [], [], []⟩]
def C_begins : AC := (.seq (.reg false [⟨(some 10), none, .mv (.v (.bool false))⟩] (some ⟨[0,1,2,3,4], [], []⟩))
  (.seq (.seq (.reg false [⟨(some 12), none, .mv (.t 1)⟩, ⟨(some 13), none, .len (.t 12)⟩, ⟨(some 14), none, .bin .eql (.t 13) (.v (.int .i64 (0)))⟩, ⟨(some 15), none, .mv (.t 14)⟩, ⟨(some 16), (some (15, true)), .mv (.t 4)⟩, ⟨(some 17), (some (15, true)), .un .not (.t 16)⟩, ⟨(some 18), none, .pick (.t 15) (.t 17) (.v (.bool false))⟩] (some ⟨[0,1,2,3,4,18], [], []⟩))
  (.cond (.t 18)
  (.seq (.reg false [⟨(some 10), none, .mv (.v (.bool true))⟩] (some ⟨[10], [], []⟩))
  .ret)
  .skip))
  (.seq (.seq (.reg false [⟨(some 19), none, .mv (.t 2)⟩, ⟨(some 20), none, .mv (.t 0)⟩, ⟨(some 21), none, .len (.t 20)⟩, ⟨(some 22), none, .bin .eql (.t 19) (.t 21)⟩] (some ⟨[0,1,2,3,4,22], [], []⟩))
  (.cond (.t 22)
  (.seq (.reg false [⟨(some 23), none, .mv (.t 1)⟩, ⟨(some 24), none, .len (.t 23)⟩, ⟨(some 25), none, .bin .eql (.t 24) (.v (.int .i64 (0)))⟩, ⟨(some 10), none, .mv (.t 25)⟩] (some ⟨[10], [], []⟩))
  .ret)
  .skip))
  (.seq (.reg false [⟨(some 26), none, .mv (.t 0)⟩, ⟨(some 27), none, .mv (.t 2)⟩, ⟨(some 28), none, .iadr 3 (.t 26) (.t 27)⟩, ⟨(some 29), none, .load true 3 (.t 28)⟩, ⟨(some 11), none, .alloc [(.int .i64 (0)), (.bool false), (.int .i64 (0))]⟩, ⟨none, none, .store 3 (.t 11) (.t 29)⟩] (some ⟨[0,1,2,3,4,11], [11], []⟩))
  (.seq (.seq (.reg true [⟨(some 30), none, .mv (.t 1)⟩, ⟨(some 31), none, .len (.t 30)⟩, ⟨(some 32), none, .bin .gtr (.t 31) (.v (.int .i64 (0)))⟩, ⟨(some 33), none, .mv (.t 32)⟩, ⟨(some 34), (some (33, true)), .mv (.t 1)⟩, ⟨(some 35), (some (33, true)), .iadr 3 (.t 34) (.v (.int .i64 (0)))⟩, ⟨(some 36), (some (33, true)), .fadr 0 (.t 35)⟩, ⟨(some 37), (some (33, true)), .load false 1 (.t 36)⟩, ⟨(some 38), (some (33, true)), .fadr 0 (.t 11)⟩, ⟨(some 39), (some (33, true)), .load false 1 (.t 38)⟩, ⟨(some 40), (some (33, true)), .bin .eql (.t 37) (.t 39)⟩, ⟨(some 41), none, .pick (.t 33) (.t 40) (.v (.bool false))⟩, ⟨(some 42), none, .mv (.t 41)⟩, ⟨(some 43), (some (42, true)), .mv (.t 3)⟩, ⟨(some 44), (some (42, true)), .fadr 2 (.t 11)⟩, ⟨(some 45), (some (42, true)), .load false 1 (.t 44)⟩, ⟨(some 46), (some (42, true)), .bin .lss (.t 43) (.t 45)⟩, ⟨(some 47), none, .pick (.t 42) (.t 46) (.v (.bool false))⟩, ⟨(some 48), none, .mv (.t 47)⟩, ⟨(some 49), (some (48, true)), .mv (.t 0)⟩, ⟨(some 50), (some (48, true)), .mv (.t 1)⟩, ⟨(some 51), (some (48, true)), .slc 3 (.t 50) (some (.v (.int .i64 (1)))) none⟩, ⟨(some 52), (some (48, true)), .mv (.t 2)⟩, ⟨(some 53), (some (48, true)), .mv (.t 3)⟩, ⟨(some 54), (some (48, true)), .bin .add (.t 53) (.v (.int .i64 (1)))⟩, ⟨(some 55), (some (48, true)), .mv (.t 4)⟩, ⟨(some 56), (some (48, true)), .call (.f 150) [(.t 49), (.t 51), (.t 52), (.t 54), (.t 55)]⟩, ⟨(some 57), none, .pick (.t 48) (.t 56) (.v (.bool false))⟩] (some ⟨[0,1,2,3,4,11,57], [11], []⟩))
  (.cond (.t 57)
  (.seq (.reg false [⟨(some 10), none, .mv (.v (.bool true))⟩] (some ⟨[10], [], []⟩))
  .ret)
  .skip))
  (.seq (.reg false [⟨(some 58), none, .mv (.t 3)⟩, ⟨(some 59), none, .bin .gtr (.t 58) (.v (.int .i64 (0)))⟩, ⟨(some 60), none, .mv (.t 59)⟩, ⟨(some 61), (some (60, false)), .fadr 1 (.t 11)⟩, ⟨(some 62), (some (60, false)), .load false 1 (.t 61)⟩, ⟨(some 63), none, .pick (.t 60) (.v (.bool true)) (.t 62)⟩, ⟨(some 64), none, .mv (.t 63)⟩, ⟨(some 65), (some (64, true)), .mv (.t 0)⟩, ⟨(some 66), (some (64, true)), .mv (.t 1)⟩, ⟨(some 67), (some (64, true)), .mv (.t 2)⟩, ⟨(some 68), (some (64, true)), .bin .add (.t 67) (.v (.int .i64 (1)))⟩, ⟨(some 69), (some (64, true)), .mv (.t 4)⟩, ⟨(some 70), (some (64, true)), .call (.f 150) [(.t 65), (.t 66), (.t 68), (.v (.int .i64 (0))), (.t 69)]⟩, ⟨(some 71), none, .pick (.t 64) (.t 70) (.v (.bool false))⟩, ⟨(some 10), none, .mv (.t 71)⟩] (some ⟨[10], [], []⟩))
  .ret))))))
theorem c_begins : compileCode Try.prog Try.f150.ntmps (Try.f150.body.getD .skip) A_begins = some (C_begins, []) := by kernel_rfl
theorem r_begins : compileRes Try.prog Try.f150.results.toList = some [.t 10] := by kernel_rfl
theorem b_begins : Try.f150.body = some (Try.f150.body.getD .skip) := by kernel_rfl
theorem n_begins : (Try.f150.name == "runtime.NumGoroutine") = false := by kernel_rfl
theorem fc_begins {xt : Option (List Cel)} {args : List Val} {R : List Cel → Val → Prop} (hn : (if xt.isSome then 1 else 0) + args.length ≤ Try.f150.ntmps) (h : ex Try.prog C_begins [] (fpost xt [.t 10] R) (initSt xt args)) : FC Try.prog 150 xt args R :=
  fc_of_awp Try.func150 b_begins n_begins c_begins r_begins (of_decide_eq_true (by kernel_rfl)) hn h

def A_followsOf : List Ann := [⟨(some ⟨[0,1], [], []⟩), [], [], [], []⟩, ⟨(some ⟨[0,1,9], [], []⟩), [], [], [], []⟩, ⟨(some ⟨[4,5], [], []⟩), [], [], [], []⟩, ⟨(some ⟨[0,1,11,12], [], []⟩), [], [], [], []⟩, ⟨(some ⟨[0,1,11,12,13], [], []⟩), [], [], [], []⟩, ⟨(some ⟨[0,1,6,11,12], [], []⟩), [], [], [], []⟩, ⟨(some ⟨[0,1,6,11,12,21], [], []⟩), [], [], [], []⟩, ⟨(some ⟨[4,5], [], []⟩), [], [], [], []⟩, ⟨(some ⟨[0,1,11,12], [], []⟩), [], [], [], []⟩, ⟨(some ⟨[4,5], [], []⟩), [], [], [], []⟩]
def C_followsOf : AC := (.seq (.reg false [⟨(some 4), none, .mv (.v (.bool false))⟩, ⟨(some 5), none, .mv (.v (.int .i64 (0)))⟩] (some ⟨[0,1], [], []⟩))
  (.seq (.seq (.reg false [⟨(some 7), none, .mv (.t 0)⟩, ⟨(some 8), none, .mv (.t 1)⟩, ⟨(some 9), none, .call (.f 150) [(.t 7), (.t 8), (.v (.int .i64 (0))), (.v (.int .i64 (0))), (.v (.bool true))]⟩] (some ⟨[0,1,9], [], []⟩))
  (.cond (.t 9)
  (.seq (.reg false [⟨(some 4), none, .mv (.v (.bool true))⟩, ⟨(some 5), none, .mv (.v (.int .i64 (0)))⟩] (some ⟨[4,5], [], []⟩))
  .ret)
  .skip))
  (.seq (.seq (.reg false [⟨(some 10), none, .mv (.t 1)⟩, ⟨(some 11), none, .len (.t 10)⟩, ⟨(some 12), none, .mv (.v (.int .i64 (0)))⟩] (some ⟨[0,1,11,12], [], []⟩))
  (.block 0 (.loop (.seq (.reg false [⟨(some 13), none, .bin .lss (.t 12) (.t 11)⟩] (some ⟨[0,1,11,12,13], [], []⟩))
  (.seq (.cond (.t 13)
  .skip
  (.exit 0))
  (.seq (.block 1 (.seq (.reg false [⟨(some 14), none, .mv (.t 12)⟩, ⟨(some 6), none, .mv (.t 14)⟩] (some ⟨[0,1,6,11,12], [], []⟩))
  (.seq (.reg false [⟨(some 15), none, .mv (.t 0)⟩, ⟨(some 16), none, .mv (.t 1)⟩, ⟨(some 17), none, .mv (.t 6)⟩, ⟨(some 18), none, .bin .add (.t 17) (.v (.int .i64 (1)))⟩, ⟨(some 19), none, .slc 3 (.t 16) none (some (.t 18))⟩, ⟨(some 20), none, .call (.f 150) [(.t 15), (.t 19), (.v (.int .i64 (0))), (.v (.int .i64 (0))), (.v (.bool false))]⟩, ⟨(some 21), none, .un .not (.t 20)⟩] (some ⟨[0,1,6,11,12,21], [], []⟩))
  (.cond (.t 21)
  (.seq (.reg false [⟨(some 22), none, .mv (.t 6)⟩, ⟨(some 4), none, .mv (.v (.bool false))⟩, ⟨(some 5), none, .mv (.t 22)⟩] (some ⟨[4,5], [], []⟩))
  .ret)
  .skip))))
  (.reg false [⟨(some 23), none, .bin .add (.t 12) (.v (.int .i64 (1)))⟩, ⟨(some 12), none, .mv (.t 23)⟩] (some ⟨[0,1,11,12], [], []⟩))))))))
  (.seq (.reg false [⟨(some 24), none, .mv (.t 1)⟩, ⟨(some 25), none, .len (.t 24)⟩, ⟨(some 4), none, .mv (.v (.bool false))⟩, ⟨(some 5), none, .mv (.t 25)⟩] (some ⟨[4,5], [], []⟩))
  .ret))))
theorem c_followsOf : compileCode Try.prog Try.f87.ntmps (Try.f87.body.getD .skip) A_followsOf = some (C_followsOf, []) := by kernel_rfl
theorem r_followsOf : compileRes Try.prog Try.f87.results.toList = some [.t 4, .t 5] := by kernel_rfl
theorem b_followsOf : Try.f87.body = some (Try.f87.body.getD .skip) := by kernel_rfl
theorem n_followsOf : (Try.f87.name == "runtime.NumGoroutine") = false := by kernel_rfl
theorem fc_followsOf {xt : Option (List Cel)} {args : List Val} {R : List Cel → Val → Prop} (hn : (if xt.isSome then 1 else 0) + args.length ≤ Try.f87.ntmps) (h : ex Try.prog C_followsOf [] (fpost xt [.t 4, .t 5] R) (initSt xt args)) : FC Try.prog 87 xt args R :=
  fc_of_awp Try.func87 b_followsOf n_followsOf c_followsOf r_followsOf (of_decide_eq_true (by kernel_rfl)) hn h


theorem rrClos_fc (s x : Sg) : FC Try.prog 139 none [.ag (sgC x), .one (.ep (sgC s))] (fun _ r => r = bv (sameB s.n x)) := by
  refine fc_rrClos (by simp +arith) ?_
  unfold C_rrClos sameB
  simp (maxSteps := 1000000) (disch := omega) only [go_sem, eq_self, decide_true, decide_false, not_true_eq_false, not_false_eq_true, reduceIte, reduceCtorEq, Nat.reduceEqDiff, Nat.reduceAdd, Nat.reduceSub, Nat.reduceLeDiff]
def rr1St (r : List Sg) (i : Int) (b : Bool) : AS := ⟨tabV [(0, sgsV false r), (3, bv b), (14, sgsV false r), (15, iv r.length), (16, iv i)], tabO [], tabO []⟩
theorem recipeFault_fc (r : List Sg) (hl : r.length ≤ 4611686018427387904) : FC Try.prog 80 none [sgsV false r] (fun _ x => x = iv (rcF r)) := by
  refine fc_recipeFault (by simp +arith) ?_
  unfold C_recipeFault rcF
  by_cases h1 : r.length = 0
  · rw [if_pos h1]
    simp (maxSteps := 1000000) (disch := omega) only [go_sem, eq_self, decide_true, decide_false, not_true_eq_false, not_false_eq_true, reduceIte, reduceCtorEq, Nat.reduceEqDiff, Nat.reduceAdd, Nat.reduceSub, Nat.reduceLeDiff]
  rw [if_neg h1]
  by_cases h2 : r.length > 100
  · rw [if_pos h2]
    simp (maxSteps := 1000000) (disch := omega) only [go_sem, eq_self, decide_true, decide_false, not_true_eq_false, not_false_eq_true, reduceIte, reduceCtorEq, Nat.reduceEqDiff, Nat.reduceAdd, Nat.reduceSub, Nat.reduceLeDiff]
  rw [if_neg h2]
  simp (maxSteps := 1000000) (disch := omega) only [go_sem, eq_self, decide_true, decide_false, not_true_eq_false, not_false_eq_true, reduceIte, reduceCtorEq, Nat.reduceEqDiff, Nat.reduceAdd, Nat.reduceSub, Nat.reduceLeDiff]
  refine ex_loop2 (rr1St r) (fun i b => 0 ≤ i ∧ i ≤ r.length ∧ (r.drop i.toNat).any badS = r.any badS ∧ b = dupB r i.toNat) (fun i _ => (r.length - i).toNat) 0 false ⟨by omega, by omega, rfl, rfl⟩ rfl ?_
  rintro i b ⟨g1, g2, g3, g4⟩
  unfold rr1St
  by_cases hi : i < r.length
  · have e2 : (i + 1).toNat = i.toNat + 1 := by omega
    have em := getD_map_at sgC r i [] g1 hi
    have et : (r.map sgC).take i.toNat = (r.take i.toNat).map sgC := by rw [List.map_take]
    rw [drop_cons r i.toNat (by omega), ← e2, List.any_cons] at g3
    have hbn : badS (r.getD i.toNat default) = decide (((r.getD i.toNat default).n < 0 ∨ (r.getD i.toNat default).n > 1000) ∨ ((r.getD i.toNat default).k < 1 ∨ (r.getD i.toNat default).k > 100)) := rfl
    rw [hbn] at g3
    by_cases c : 0 ≤ (r.getD i.toNat default).n ∧ (r.getD i.toNat default).n ≤ 1000
    · by_cases d : 1 ≤ (r.getD i.toNat default).k ∧ (r.getD i.toNat default).k ≤ 100
      · rw [decide_eq_false (by omega), Bool.false_or] at g3
        simp (maxSteps := 1000000) (disch := omega) only [go_sem, eq_self, decide_true, decide_false, not_true_eq_false, not_false_eq_true, reduceIte, reduceCtorEq, Nat.reduceEqDiff, Nat.reduceAdd, Nat.reduceSub, Nat.reduceLeDiff]
        refine CALL_det (rin1_fc _ _ _) (.inl rfl) ?_
        rw [decide_eq_true c]
        simp (maxSteps := 1000000) (disch := omega) only [go_sem, eq_self, decide_true, decide_false, not_true_eq_false, not_false_eq_true, reduceIte, reduceCtorEq, Nat.reduceEqDiff, Nat.reduceAdd, Nat.reduceSub, Nat.reduceLeDiff]
        refine CALL_det (rin1_fc _ _ _) (.inl rfl) ?_
        rw [decide_eq_true d]
        cases b with
        | true =>
          simp (maxSteps := 1000000) (disch := omega) only [go_sem, eq_self, decide_true, decide_false, not_true_eq_false, not_false_eq_true, reduceIte, reduceCtorEq, Nat.reduceEqDiff, Nat.reduceAdd, Nat.reduceSub, Nat.reduceLeDiff]
          exact ⟨i + 1, true, rfl, ⟨by omega, by omega, g3, by rw [e2, dupB, ← g4, Bool.true_or]⟩, by omega⟩
        | false =>
          simp (maxSteps := 1000000) (disch := omega) only [go_sem, eq_self, decide_true, decide_false, not_true_eq_false, not_false_eq_true, reduceIte, reduceCtorEq, Nat.reduceEqDiff, Nat.reduceAdd, Nat.reduceSub, Nat.reduceLeDiff]
          rw [et]
          refine CALL_det (contSg1_fc 139 (sgC (r.getD i.toNat default)) (sameB (r.getD i.toNat default).n) (r.take i.toNat) (by rw [List.length_take]; omega) (fun x => rrClos_fc (r.getD i.toNat default) x)) (.inl rfl) ?_
          simp (maxSteps := 1000000) (disch := omega) only [go_sem, eq_self, decide_true, decide_false, not_true_eq_false, not_false_eq_true, reduceIte, reduceCtorEq, Nat.reduceEqDiff, Nat.reduceAdd, Nat.reduceSub, Nat.reduceLeDiff]
          exact ⟨i + 1, (r.take i.toNat).any (sameB (r.getD i.toNat default).n), rfl, ⟨by omega, by omega, g3, by rw [e2, dupB, ← g4, Bool.false_or]⟩, by omega⟩
      · rw [decide_eq_true (by omega), Bool.true_or] at g3
        rw [← g3]
        simp (maxSteps := 1000000) (disch := omega) only [go_sem, eq_self, decide_true, decide_false, not_true_eq_false, not_false_eq_true, reduceIte, reduceCtorEq, Nat.reduceEqDiff, Nat.reduceAdd, Nat.reduceSub, Nat.reduceLeDiff]
        refine CALL_det (rin1_fc _ _ _) (.inl rfl) ?_
        rw [decide_eq_true c]
        simp (maxSteps := 1000000) (disch := omega) only [go_sem, eq_self, decide_true, decide_false, not_true_eq_false, not_false_eq_true, reduceIte, reduceCtorEq, Nat.reduceEqDiff, Nat.reduceAdd, Nat.reduceSub, Nat.reduceLeDiff]
        refine CALL_det (rin1_fc _ _ _) (.inl rfl) ?_
        rw [decide_eq_false d]
        simp (maxSteps := 1000000) (disch := omega) only [go_sem, eq_self, decide_true, decide_false, not_true_eq_false, not_false_eq_true, reduceIte, reduceCtorEq, Nat.reduceEqDiff, Nat.reduceAdd, Nat.reduceSub, Nat.reduceLeDiff]
    · rw [decide_eq_true (by omega), Bool.true_or] at g3
      rw [← g3]
      simp (maxSteps := 1000000) (disch := omega) only [go_sem, eq_self, decide_true, decide_false, not_true_eq_false, not_false_eq_true, reduceIte, reduceCtorEq, Nat.reduceEqDiff, Nat.reduceAdd, Nat.reduceSub, Nat.reduceLeDiff]
      refine CALL_det (rin1_fc _ _ _) (.inl rfl) ?_
      rw [decide_eq_false c]
      simp (maxSteps := 1000000) (disch := omega) only [go_sem, eq_self, decide_true, decide_false, not_true_eq_false, not_false_eq_true, reduceIte, reduceCtorEq, Nat.reduceEqDiff, Nat.reduceAdd, Nat.reduceSub, Nat.reduceLeDiff]
  · rw [List.drop_eq_nil_of_le (by omega), List.any_nil] at g3
    have e : i.toNat = r.length := by omega
    rw [e] at g4
    rw [← g3, if_neg (show ¬(false = true) by simp), ← g4]
    cases b with
    | true => simp (maxSteps := 1000000) (disch := omega) only [go_sem, eq_self, decide_true, decide_false, not_true_eq_false, not_false_eq_true, reduceIte, reduceCtorEq, Nat.reduceEqDiff, Nat.reduceAdd, Nat.reduceSub, Nat.reduceLeDiff]
    | false => simp (maxSteps := 1000000) (disch := omega) only [go_sem, eq_self, decide_true, decide_false, not_true_eq_false, not_false_eq_true, reduceIte, reduceCtorEq, Nat.reduceEqDiff, Nat.reduceAdd, Nat.reduceSub, Nat.reduceLeDiff]
def rp1St (p : List Ph) (i : Int) (w : List (Int × Int)) : AS := ⟨tabV [(3, .one (.ow 3 0)), (9, phsV false p), (10, iv p.length), (11, iv i)], tabO [], tabO [(3, winRow w)]⟩
theorem rphasesFault_fc (p : List Ph) (hl : p.length ≤ 4611686018427387904) : FC Try.prog 81 none [phsV false p] (fun _ r => r = iv (phF p)) := by
  refine fc_rphasesFault (by simp +arith) ?_
  unfold C_rphasesFault phF
  by_cases h1 : p.length > 5000
  · rw [if_pos h1]
    simp (maxSteps := 1000000) (disch := omega) only [go_sem, eq_self, decide_true, decide_false, not_true_eq_false, not_false_eq_true, reduceIte, reduceCtorEq, Nat.reduceEqDiff, Nat.reduceAdd, Nat.reduceSub, Nat.reduceLeDiff]
  rw [if_neg h1]
  simp (maxSteps := 1000000) (disch := omega) only [go_sem, eq_self, decide_true, decide_false, not_true_eq_false, not_false_eq_true, reduceIte, reduceCtorEq, Nat.reduceEqDiff, Nat.reduceAdd, Nat.reduceSub, Nat.reduceLeDiff]
  refine ex_loop2 (rp1St p) (fun i w => 0 ≤ i ∧ i ≤ p.length ∧ (p.drop i.toNat).any badN = p.any badN ∧ w.length = i ∧ w ++ (p.drop i.toNat).map winP = p.map winP) (fun i _ => (p.length - i).toNat) 0 [] ⟨by omega, by omega, rfl, by simp, rfl⟩ rfl ?_
  rintro i w ⟨g1, g2, g3, g4, g5⟩
  unfold rp1St
  by_cases hi : i < p.length
  · have e2 : (i + 1).toNat = i.toNat + 1 := by omega
    have em := getD_map_at phC p i [] g1 hi
    rw [drop_cons p i.toNat (by omega), ← e2, List.any_cons] at g3
    rw [drop_cons p i.toNat (by omega), ← e2, List.map_cons, List.append_cons] at g5
    have hbn : badN (p.getD i.toNat default) = decide ((p.getD i.toNat default).n < 0 ∨ (p.getD i.toNat default).n > 1000) := rfl
    rw [hbn] at g3
    by_cases c : 0 ≤ (p.getD i.toNat default).n ∧ (p.getD i.toNat default).n ≤ 1000
    · rw [decide_eq_false (by omega), Bool.false_or] at g3
      simp (maxSteps := 1000000) (disch := omega) only [go_sem, eq_self, decide_true, decide_false, not_true_eq_false, not_false_eq_true, reduceIte, reduceCtorEq, Nat.reduceEqDiff, Nat.reduceAdd, Nat.reduceSub, Nat.reduceLeDiff]
      refine CALL_det (rin1_fc _ _ _) (.inl rfl) ?_
      rw [decide_eq_true c]
      simp (maxSteps := 1000000) (disch := omega) only [go_sem, eq_self, decide_true, decide_false, not_true_eq_false, not_false_eq_true, reduceIte, reduceCtorEq, Nat.reduceEqDiff, Nat.reduceAdd, Nat.reduceSub, Nat.reduceLeDiff]
      exact ⟨i + 1, w ++ [winP (p.getD i.toNat default)], by simp only [rp1St, winRow, winP, List.map_append, List.map_cons, List.map_nil, frC_eq], ⟨by omega, by omega, g3, by simp; omega, g5⟩, by omega⟩
    · rw [decide_eq_true (by omega), Bool.true_or] at g3
      rw [← g3]
      simp (maxSteps := 1000000) (disch := omega) only [go_sem, eq_self, decide_true, decide_false, not_true_eq_false, not_false_eq_true, reduceIte, reduceCtorEq, Nat.reduceEqDiff, Nat.reduceAdd, Nat.reduceSub, Nat.reduceLeDiff]
      refine CALL_det (rin1_fc _ _ _) (.inl rfl) ?_
      rw [decide_eq_false c]
      simp (maxSteps := 1000000) (disch := omega) only [go_sem, eq_self, decide_true, decide_false, not_true_eq_false, not_false_eq_true, reduceIte, reduceCtorEq, Nat.reduceEqDiff, Nat.reduceAdd, Nat.reduceSub, Nat.reduceLeDiff]
  · rw [List.drop_eq_nil_of_le (by omega), List.any_nil] at g3
    rw [List.drop_eq_nil_of_le (by omega), List.map_nil, List.append_nil] at g5
    rw [← g3, if_neg (by simp), ← g5]
    simp (maxSteps := 1000000) (disch := omega) only [go_sem, eq_self, decide_true, decide_false, not_true_eq_false, not_false_eq_true, reduceIte, reduceCtorEq, Nat.reduceEqDiff, Nat.reduceAdd, Nat.reduceSub, Nat.reduceLeDiff]
    refine CALL_det (frameFault_fc w (by omega)) (.inl rfl) ?_
    simp (maxSteps := 1000000) (disch := omega) only [go_sem, eq_self, decide_true, decide_false, not_true_eq_false, not_false_eq_true, reduceIte, reduceCtorEq, Nat.reduceEqDiff, Nat.reduceAdd, Nat.reduceSub, Nat.reduceLeDiff]
theorem beg_st (w : Bool) (r : List Sg) (i : Int) (p : List Ph) (m : Int) (h0 : 0 ≤ i) (hi : i < r.length) (hp : 0 < p.length) : begG w (r.drop i.toNat) p m = ((decide ((p.getD (0 : Int).toNat default).n = (r.getD i.toNat default).n) && (decide (m < (r.getD i.toNat default).k) && begG w (r.drop i.toNat) (p.drop 1) (m + 1))) || ((decide (m > 0) || (r.getD i.toNat default).o) && begG w (r.drop (i + 1).toNat) p 0)) := by
  have e2 : (i + 1).toNat = i.toNat + 1 := by omega
  cases p with
  | nil => simp at hp
  | cons x q => rw [e2, drop_cons r i.toNat (by omega), begG]; rfl
theorem beg_sn (r : List Sg) (i : Int) (m : Int) (h0 : 0 ≤ i) (hi : i < r.length) : begG true (r.drop i.toNat) [] m = ((decide (m > 0) || (r.getD i.toNat default).o) && begG true (r.drop (i + 1).toNat) [] 0) := by
  have e2 : (i + 1).toNat = i.toNat + 1 := by omega
  rw [e2, drop_cons r i.toNat (by omega), beg_nil]
set_option maxHeartbeats 4000000 in
theorem begins_fc (r : List Sg) (hr : r.length ≤ 1000) (w : Bool) : ∀ (n : Nat) (i : Int) (p : List Ph) (m : Int), 0 ≤ i → i ≤ r.length → (r.length - i).toNat + p.length = n → 0 ≤ m → p.length ≤ 6000 → m + p.length ≤ 6000 → FC Try.prog 150 none [sgsV false r, phsV false p, iv i, iv m, bv w] (fun _ x => x = bv (begG w (r.drop i.toNat) p m)) := by
  intro n
  induction n using Nat.strongRecOn with
  | _ n ih =>
  intro i p m g1 g2 g3 g4 g6 g5
  refine fc_begins (by simp +arith) ?_
  unfold C_begins
  by_cases hp : 0 < p.length
  · by_cases hi : i < r.length
    · have er := getD_map_at sgC r i [] g1 hi
      have ep := getD_map_at phC p 0 [] (by omega) (by omega)
      have ed : (p.map phC).drop (1 : Int).toNat = (p.drop 1).map phC := List.map_drop.symm
      have hd : (p.drop 1).length = p.length - 1 := by rw [List.length_drop]
      have c2 := ih ((r.length - (i + 1)).toNat + p.length) (by omega) (i + 1) p 0 (by omega) (by omega) rfl (by omega) (by omega) (by omega)
      rw [beg_st w r i p m g1 hi hp]
      generalize begG w (r.drop (i + 1).toNat) p 0 = b2 at *
      by_cases cn : (p.getD (0 : Int).toNat default).n = (r.getD i.toNat default).n
      · by_cases ck : m < (r.getD i.toNat default).k
        · have c1 := ih ((r.length - i).toNat + (p.drop 1).length) (by omega) i (p.drop 1) (m + 1) (by omega) (by omega) rfl (by omega) (by omega) (by omega)
          rw [decide_eq_true cn, decide_eq_true ck, Bool.true_and, Bool.true_and]
          generalize begG w (r.drop i.toNat) (p.drop 1) (m + 1) = b1 at *
          by_cases cm : m > 0
          · rw [decide_eq_true cm, Bool.true_or, Bool.true_and]
            cases b1 with
            | true =>
              rw [Bool.true_or]
              simp (maxSteps := 1000000) (disch := omega) only [go_sem, eq_self, decide_true, decide_false, not_true_eq_false, not_false_eq_true, reduceIte, reduceCtorEq, Nat.reduceEqDiff, Nat.reduceAdd, Nat.reduceSub, Nat.reduceLeDiff]
              rw [ed]
              refine CALL_det c1 (.inl rfl) ?_
              simp (maxSteps := 1000000) (disch := omega) only [go_sem, eq_self, decide_true, decide_false, not_true_eq_false, not_false_eq_true, reduceIte, reduceCtorEq, Nat.reduceEqDiff, Nat.reduceAdd, Nat.reduceSub, Nat.reduceLeDiff]
            | false =>
              rw [Bool.false_or]
              simp (maxSteps := 1000000) (disch := omega) only [go_sem, eq_self, decide_true, decide_false, not_true_eq_false, not_false_eq_true, reduceIte, reduceCtorEq, Nat.reduceEqDiff, Nat.reduceAdd, Nat.reduceSub, Nat.reduceLeDiff]
              rw [ed]
              refine CALL_det c1 (.inl rfl) ?_
              simp (maxSteps := 1000000) (disch := omega) only [go_sem, eq_self, decide_true, decide_false, not_true_eq_false, not_false_eq_true, reduceIte, reduceCtorEq, Nat.reduceEqDiff, Nat.reduceAdd, Nat.reduceSub, Nat.reduceLeDiff]
              refine CALL_det c2 (.inl rfl) ?_
              simp (maxSteps := 1000000) (disch := omega) only [go_sem, eq_self, decide_true, decide_false, not_true_eq_false, not_false_eq_true, reduceIte, reduceCtorEq, Nat.reduceEqDiff, Nat.reduceAdd, Nat.reduceSub, Nat.reduceLeDiff]
          · rw [decide_eq_false cm, Bool.false_or]
            cases b1 with
            | true =>
              rw [Bool.true_or]
              simp (maxSteps := 1000000) (disch := omega) only [go_sem, eq_self, decide_true, decide_false, not_true_eq_false, not_false_eq_true, reduceIte, reduceCtorEq, Nat.reduceEqDiff, Nat.reduceAdd, Nat.reduceSub, Nat.reduceLeDiff]
              rw [ed]
              refine CALL_det c1 (.inl rfl) ?_
              simp (maxSteps := 1000000) (disch := omega) only [go_sem, eq_self, decide_true, decide_false, not_true_eq_false, not_false_eq_true, reduceIte, reduceCtorEq, Nat.reduceEqDiff, Nat.reduceAdd, Nat.reduceSub, Nat.reduceLeDiff]
            | false =>
              rw [Bool.false_or]
              cases ho : (r.getD i.toNat default).o with
              | true =>
                rw [Bool.true_and]
                simp (maxSteps := 1000000) (disch := omega) only [go_sem, eq_self, decide_true, decide_false, not_true_eq_false, not_false_eq_true, reduceIte, reduceCtorEq, Nat.reduceEqDiff, Nat.reduceAdd, Nat.reduceSub, Nat.reduceLeDiff]
                rw [ed]
                refine CALL_det c1 (.inl rfl) ?_
                simp (maxSteps := 1000000) (disch := omega) only [go_sem, eq_self, decide_true, decide_false, not_true_eq_false, not_false_eq_true, reduceIte, reduceCtorEq, Nat.reduceEqDiff, Nat.reduceAdd, Nat.reduceSub, Nat.reduceLeDiff]
                refine ⟨fun _ => ?_, fun hh => (by rw [ho] at hh; simp at hh)⟩
                refine CALL_det c2 (.inl rfl) ?_
                simp (maxSteps := 1000000) (disch := omega) only [go_sem, eq_self, decide_true, decide_false, not_true_eq_false, not_false_eq_true, reduceIte, reduceCtorEq, Nat.reduceEqDiff, Nat.reduceAdd, Nat.reduceSub, Nat.reduceLeDiff]
              | false =>
                rw [Bool.false_and]
                simp (maxSteps := 1000000) (disch := omega) only [go_sem, eq_self, decide_true, decide_false, not_true_eq_false, not_false_eq_true, reduceIte, reduceCtorEq, Nat.reduceEqDiff, Nat.reduceAdd, Nat.reduceSub, Nat.reduceLeDiff]
                rw [ed]
                refine CALL_det c1 (.inl rfl) ?_
                simp (maxSteps := 1000000) (disch := omega) only [go_sem, eq_self, decide_true, decide_false, not_true_eq_false, not_false_eq_true, reduceIte, reduceCtorEq, Nat.reduceEqDiff, Nat.reduceAdd, Nat.reduceSub, Nat.reduceLeDiff]
                exact fun hh => (by rw [ho] at hh; simp at hh)
        · rw [decide_eq_false ck, Bool.false_and, Bool.and_false, Bool.false_or]
          by_cases cm : m > 0
          · rw [decide_eq_true cm, Bool.true_or, Bool.true_and]
            simp (maxSteps := 1000000) (disch := omega) only [go_sem, eq_self, decide_true, decide_false, not_true_eq_false, not_false_eq_true, reduceIte, reduceCtorEq, Nat.reduceEqDiff, Nat.reduceAdd, Nat.reduceSub, Nat.reduceLeDiff]
            refine CALL_det c2 (.inl rfl) ?_
            simp (maxSteps := 1000000) (disch := omega) only [go_sem, eq_self, decide_true, decide_false, not_true_eq_false, not_false_eq_true, reduceIte, reduceCtorEq, Nat.reduceEqDiff, Nat.reduceAdd, Nat.reduceSub, Nat.reduceLeDiff]
          · rw [decide_eq_false cm, Bool.false_or]
            cases ho : (r.getD i.toNat default).o with
            | true =>
              rw [Bool.true_and]
              simp (maxSteps := 1000000) (disch := omega) only [go_sem, eq_self, decide_true, decide_false, not_true_eq_false, not_false_eq_true, reduceIte, reduceCtorEq, Nat.reduceEqDiff, Nat.reduceAdd, Nat.reduceSub, Nat.reduceLeDiff]
              refine ⟨fun _ => ?_, fun hh => (by rw [ho] at hh; simp at hh)⟩
              refine CALL_det c2 (.inl rfl) ?_
              simp (maxSteps := 1000000) (disch := omega) only [go_sem, eq_self, decide_true, decide_false, not_true_eq_false, not_false_eq_true, reduceIte, reduceCtorEq, Nat.reduceEqDiff, Nat.reduceAdd, Nat.reduceSub, Nat.reduceLeDiff]
            | false =>
              rw [Bool.false_and]
              simp (maxSteps := 1000000) (disch := omega) only [go_sem, eq_self, decide_true, decide_false, not_true_eq_false, not_false_eq_true, reduceIte, reduceCtorEq, Nat.reduceEqDiff, Nat.reduceAdd, Nat.reduceSub, Nat.reduceLeDiff]
              exact fun hh => (by rw [ho] at hh; simp at hh)
      · rw [decide_eq_false cn, Bool.false_and, Bool.false_or]
        by_cases cm : m > 0
        · rw [decide_eq_true cm, Bool.true_or, Bool.true_and]
          simp (maxSteps := 1000000) (disch := omega) only [go_sem, eq_self, decide_true, decide_false, not_true_eq_false, not_false_eq_true, reduceIte, reduceCtorEq, Nat.reduceEqDiff, Nat.reduceAdd, Nat.reduceSub, Nat.reduceLeDiff]
          refine CALL_det c2 (.inl rfl) ?_
          simp (maxSteps := 1000000) (disch := omega) only [go_sem, eq_self, decide_true, decide_false, not_true_eq_false, not_false_eq_true, reduceIte, reduceCtorEq, Nat.reduceEqDiff, Nat.reduceAdd, Nat.reduceSub, Nat.reduceLeDiff]
        · rw [decide_eq_false cm, Bool.false_or]
          cases ho : (r.getD i.toNat default).o with
          | true =>
            rw [Bool.true_and]
            simp (maxSteps := 1000000) (disch := omega) only [go_sem, eq_self, decide_true, decide_false, not_true_eq_false, not_false_eq_true, reduceIte, reduceCtorEq, Nat.reduceEqDiff, Nat.reduceAdd, Nat.reduceSub, Nat.reduceLeDiff]
            refine ⟨fun _ => ?_, fun hh => (by rw [ho] at hh; simp at hh)⟩
            refine CALL_det c2 (.inl rfl) ?_
            simp (maxSteps := 1000000) (disch := omega) only [go_sem, eq_self, decide_true, decide_false, not_true_eq_false, not_false_eq_true, reduceIte, reduceCtorEq, Nat.reduceEqDiff, Nat.reduceAdd, Nat.reduceSub, Nat.reduceLeDiff]
          | false =>
            rw [Bool.false_and]
            simp (maxSteps := 1000000) (disch := omega) only [go_sem, eq_self, decide_true, decide_false, not_true_eq_false, not_false_eq_true, reduceIte, reduceCtorEq, Nat.reduceEqDiff, Nat.reduceAdd, Nat.reduceSub, Nat.reduceLeDiff]
            exact fun hh => (by rw [ho] at hh; simp at hh)
    · have e : begG w (r.drop i.toNat) p m = false := by
        rw [List.drop_eq_nil_of_le (by omega)]
        cases p with
        | nil => simp at hp
        | cons x q => rw [begG]
      rw [e, ← decide_eq_false (show ¬(p.length : Int) = 0 by omega)]
      simp (maxSteps := 1000000) (disch := omega) only [go_sem, eq_self, decide_true, decide_false, not_true_eq_false, not_false_eq_true, reduceIte, reduceCtorEq, Nat.reduceEqDiff, Nat.reduceAdd, Nat.reduceSub, Nat.reduceLeDiff]
  · have ep : p = [] := List.length_eq_zero_iff.1 (by omega)
    subst ep
    cases w with
    | false =>
      rw [begG_f]
      simp (maxSteps := 1000000) (disch := omega) only [go_sem, eq_self, decide_true, decide_false, not_true_eq_false, not_false_eq_true, reduceIte, reduceCtorEq, Nat.reduceEqDiff, Nat.reduceAdd, Nat.reduceSub, Nat.reduceLeDiff]
    | true =>
      by_cases hi : i < r.length
      · have er := getD_map_at sgC r i [] g1 hi
        have c2 := ih ((r.length - (i + 1)).toNat + ([] : List Ph).length) (by omega) (i + 1) [] 0 (by omega) (by omega) rfl (by omega) (by omega) (by omega)
        rw [beg_sn r i m g1 hi]
        generalize begG true (r.drop (i + 1).toNat) [] 0 = b2 at *
        by_cases cm : m > 0
        · rw [decide_eq_true cm, Bool.true_or, Bool.true_and]
          simp (maxSteps := 1000000) (disch := omega) only [go_sem, eq_self, decide_true, decide_false, not_true_eq_false, not_false_eq_true, reduceIte, reduceCtorEq, Nat.reduceEqDiff, Nat.reduceAdd, Nat.reduceSub, Nat.reduceLeDiff]
          refine CALL_det c2 (.inl rfl) ?_
          simp (maxSteps := 1000000) (disch := omega) only [go_sem, eq_self, decide_true, decide_false, not_true_eq_false, not_false_eq_true, reduceIte, reduceCtorEq, Nat.reduceEqDiff, Nat.reduceAdd, Nat.reduceSub, Nat.reduceLeDiff]
        · rw [decide_eq_false cm, Bool.false_or]
          cases ho : (r.getD i.toNat default).o with
          | true =>
            rw [Bool.true_and]
            simp (maxSteps := 1000000) (disch := omega) only [go_sem, eq_self, decide_true, decide_false, not_true_eq_false, not_false_eq_true, reduceIte, reduceCtorEq, Nat.reduceEqDiff, Nat.reduceAdd, Nat.reduceSub, Nat.reduceLeDiff]
            refine ⟨fun _ => ?_, fun hh => (by rw [ho] at hh; simp at hh)⟩
            refine CALL_det c2 (.inl rfl) ?_
            simp (maxSteps := 1000000) (disch := omega) only [go_sem, eq_self, decide_true, decide_false, not_true_eq_false, not_false_eq_true, reduceIte, reduceCtorEq, Nat.reduceEqDiff, Nat.reduceAdd, Nat.reduceSub, Nat.reduceLeDiff]
          | false =>
            rw [Bool.false_and]
            simp (maxSteps := 1000000) (disch := omega) only [go_sem, eq_self, decide_true, decide_false, not_true_eq_false, not_false_eq_true, reduceIte, reduceCtorEq, Nat.reduceEqDiff, Nat.reduceAdd, Nat.reduceSub, Nat.reduceLeDiff]
            exact fun hh => (by rw [ho] at hh; simp at hh)
      · have e : begG true (r.drop i.toNat) [] m = true := by rw [List.drop_eq_nil_of_le (by omega), begG]
        rw [e]
        simp (maxSteps := 1000000) (disch := omega) only [go_sem, eq_self, decide_true, decide_false, not_true_eq_false, not_false_eq_true, reduceIte, reduceCtorEq, Nat.reduceEqDiff, Nat.reduceAdd, Nat.reduceSub, Nat.reduceLeDiff]
        rfl
theorem begins0_fc (r : List Sg) (hr : r.length ≤ 1000) (w : Bool) (p : List Ph) (hp : p.length ≤ 6000) : FC Try.prog 150 none [sgsV false r, phsV false p, iv 0, iv 0, bv w] (fun _ x => x = bv (begG w r p 0)) := begins_fc r hr w _ 0 p 0 (by omega) (by omega) rfl (by omega) hp (by omega)
def fooSt (r : List Sg) (p : List Ph) (i : Int) : AS := ⟨tabV [(0, sgsV false r), (1, phsV false p), (11, iv p.length), (12, iv i)], tabO [], tabO []⟩
theorem followsOf_fc (r : List Sg) (p : List Ph) (h : rcF r = 0) (hp : p.length ≤ 5000) : FC Try.prog 87 none [sgsV false r, phsV false p] (fun _ x => x = .tu [bv (flGo r p.length (-1) 0 0 p).1, iv (flGo r p.length (-1) 0 0 p).2]) := by
  refine fc_followsOf (by simp +arith) ?_
  have hrl := rcF_len h
  obtain ⟨f1, f2⟩ := follows_is h p
  unfold C_followsOf
  simp (maxSteps := 1000000) (disch := omega) only [go_sem, eq_self, decide_true, decide_false, not_true_eq_false, not_false_eq_true, reduceIte, reduceCtorEq, Nat.reduceEqDiff, Nat.reduceAdd, Nat.reduceSub, Nat.reduceLeDiff]
  refine CALL_det (begins0_fc r (by omega) true p (by omega)) (.inl rfl) ?_
  cases hb : begG true r p 0 with
  | true =>
    rw [f1 hb]
    simp (maxSteps := 1000000) (disch := omega) only [go_sem, eq_self, decide_true, decide_false, not_true_eq_false, not_false_eq_true, reduceIte, reduceCtorEq, Nat.reduceEqDiff, Nat.reduceAdd, Nat.reduceSub, Nat.reduceLeDiff]
  | false =>
    obtain ⟨f3, f4⟩ := f2 hb
    simp (maxSteps := 1000000) (disch := omega) only [go_sem, eq_self, decide_true, decide_false, not_true_eq_false, not_false_eq_true, reduceIte, reduceCtorEq, Nat.reduceEqDiff, Nat.reduceAdd, Nat.reduceSub, Nat.reduceLeDiff]
    refine ex_loop1 (fooSt r p) (fun i => 0 ≤ i ∧ i ≤ p.length ∧ ∀ j : Nat, j < i.toNat → begG false r (p.take (j + 1)) 0 = true) (fun i => (p.length - i).toNat) 0 ⟨by omega, by omega, by simp⟩ rfl ?_
    rintro i ⟨g1, g2, g3⟩
    unfold fooSt
    by_cases hi : i < p.length
    · have e2 : (i + 1).toNat = i.toNat + 1 := by omega
      have et : (p.map phC).take (i + 1).toNat = (p.take (i + 1).toNat).map phC := by rw [List.map_take]
      simp (maxSteps := 1000000) (disch := omega) only [go_sem, eq_self, decide_true, decide_false, not_true_eq_false, not_false_eq_true, reduceIte, reduceCtorEq, Nat.reduceEqDiff, Nat.reduceAdd, Nat.reduceSub, Nat.reduceLeDiff]
      rw [et]
      refine CALL_det (begins0_fc r (by omega) false (p.take (i + 1).toNat) (by rw [List.length_take]; omega)) (.inl rfl) ?_
      cases hc : begG false r (p.take (i + 1).toNat) 0 with
      | true =>
        simp (maxSteps := 1000000) (disch := omega) only [go_sem, eq_self, decide_true, decide_false, not_true_eq_false, not_false_eq_true, reduceIte, reduceCtorEq, Nat.reduceEqDiff, Nat.reduceAdd, Nat.reduceSub, Nat.reduceLeDiff]
        refine ⟨i + 1, rfl, ⟨by omega, by omega, fun j hj => ?_⟩, by omega⟩
        by_cases hj2 : j < i.toNat
        · exact g3 j hj2
        · rw [show j + 1 = (i + 1).toNat by omega]
          exact hc
      | false =>
        rw [e2] at hc
        rw [f3 i.toNat (by omega) g3 hc, show ((i.toNat : Nat) : Int) = i by omega]
        simp (maxSteps := 1000000) (disch := omega) only [go_sem, eq_self, decide_true, decide_false, not_true_eq_false, not_false_eq_true, reduceIte, reduceCtorEq, Nat.reduceEqDiff, Nat.reduceAdd, Nat.reduceSub, Nat.reduceLeDiff]
    · rw [f4 (fun j hj => g3 j (by omega))]
      simp (maxSteps := 1000000) (disch := omega) only [go_sem, eq_self, decide_true, decide_false, not_true_eq_false, not_false_eq_true, reduceIte, reduceCtorEq, Nat.reduceEqDiff, Nat.reduceAdd, Nat.reduceSub, Nat.reduceLeDiff]
end Go.Proofs.Ytmbpfhpdicjpcaa

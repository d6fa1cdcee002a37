
/-
  The reference's error of kept samples; Ratio.
-/
import Derived.Test.YtmbpfhpdicjpcaaErr
import Derived.Test.YtmbpfhpdicjpcaaSra
namespace Go.Proofs.Ytmbpfhpdicjpcaa
open Go Go.Ai
set_option linter.unusedSimpArgs false
set_option linter.unusedVariables false
set_option maxHeartbeats 4000000
def A_keptOf : List Ann := [⟨(some ⟨[0,1], [], []⟩), [], [], [], []⟩, ⟨(some ⟨[0,1,5], [], []⟩), [(5, 60, 3)], [], [], []⟩, ⟨(some ⟨[0,5,8,9,10], [], [5]⟩), [], [], [], []⟩, ⟨(some ⟨[0,5,8,9,10,11], [], [5]⟩), [], [], [], []⟩, ⟨(some ⟨[0,5,7,8,9,10], [], [5]⟩), [], [], [], []⟩, ⟨(some ⟨[0,5,8,9,10], [], [5]⟩), [], [], [], []⟩, ⟨(some ⟨[0,5,8,9,10], [], [5]⟩), [], [], [], []⟩, ⟨(some ⟨[4], [], []⟩), [], [], [], []⟩]
def C_keptOf : AC := (.seq (.reg false [⟨(some 4), none, .mv (.v (.slice none 0 0))⟩] (some ⟨[0,1], [], []⟩))
  (.seq (.seq (.reg false [⟨(some 5), none, .mv (.v (.slice none 0 0))⟩] (some ⟨[0,1,5], [], []⟩))
  (.own 5 60 3))
  (.seq (.seq (.reg false [⟨(some 8), none, .mv (.t 1)⟩, ⟨(some 9), none, .len (.t 8)⟩, ⟨(some 10), none, .mv (.v (.int .i64 (0)))⟩] (some ⟨[0,5,8,9,10], [], [5]⟩))
  (.block 0 (.loop (.seq (.reg false [⟨(some 11), none, .bin .lss (.t 10) (.t 9)⟩] (some ⟨[0,5,8,9,10,11], [], [5]⟩))
  (.seq (.cond (.t 11)
  .skip
  (.exit 0))
  (.seq (.block 1 (.seq (.reg false [⟨(some 12), none, .iadr 1 (.t 8) (.t 10)⟩, ⟨(some 13), none, .load false 1 (.t 12)⟩, ⟨(some 7), none, .mv (.t 13)⟩] (some ⟨[0,5,7,8,9,10], [], [5]⟩))
  (.reg false [⟨(some 14), none, .mv (.t 5)⟩, ⟨(some 15), none, .mv (.t 0)⟩, ⟨(some 16), none, .mv (.t 7)⟩, ⟨(some 17), none, .iadr 3 (.t 15) (.t 16)⟩, ⟨(some 18), none, .load true 3 (.t 17)⟩, ⟨(some 19), none, .bslice 3 1 [(.t 18)]⟩, ⟨(some 20), none, .append 60 3 24 (.t 14) (.t 19)⟩, ⟨(some 5), none, .mv (.t 20)⟩] (some ⟨[0,5,8,9,10], [], [5]⟩))))
  (.reg false [⟨(some 21), none, .bin .add (.t 10) (.v (.int .i64 (1)))⟩, ⟨(some 10), none, .mv (.t 21)⟩] (some ⟨[0,5,8,9,10], [], [5]⟩))))))))
  (.seq (.reg false [⟨(some 22), none, .mv (.t 5)⟩, ⟨(some 4), none, .mv (.t 22)⟩] (some ⟨[4], [], []⟩))
  .ret))))
theorem c_keptOf : compileCode Try.prog Try.f41.ntmps (Try.f41.body.getD .skip) A_keptOf = some (C_keptOf, []) := by kernel_rfl
theorem r_keptOf : compileRes Try.prog Try.f41.results.toList = some [.t 4] := by kernel_rfl
theorem b_keptOf : Try.f41.body = some (Try.f41.body.getD .skip) := by kernel_rfl
theorem n_keptOf : (Try.f41.name == "runtime.NumGoroutine") = false := by kernel_rfl
theorem fc_keptOf {xt : Option (List Cel)} {args : List Val} {R : List Cel → Val → Prop} (hn : (if xt.isSome then 1 else 0) + args.length ≤ Try.f41.ntmps) (h : ex Try.prog C_keptOf [] (fpost xt [.t 4] R) (initSt xt args)) : FC Try.prog 41 xt args R :=
  fc_of_awp Try.func41 b_keptOf n_keptOf c_keptOf r_keptOf (of_decide_eq_true (by kernel_rfl)) hn h

def A_offs : List Ann := [⟨(some ⟨[0,1], [], []⟩), [], [], [], []⟩, ⟨(some ⟨[0,6], [], []⟩), [], [], [], []⟩, ⟨(some ⟨[0,6,7], [], []⟩), [(7, 74, 2)], [], [], []⟩, ⟨(some ⟨[0,6,7,8], [], [7]⟩), [(8, 4, 1)], [], [], []⟩, ⟨(some ⟨[6,7,8,16,17,18], [], [7,8]⟩), [], [], [], []⟩, ⟨(some ⟨[6,7,8,16,17,18,19], [], [7,8]⟩), [], [], [], []⟩, ⟨(some ⟨[6,7,8,10,16,17,18], [10], [7,8]⟩), [], [], [], []⟩, ⟨(some ⟨[6,7,8,10,11,12,16,17,18], [10,11], [7,8]⟩), [], [], [], []⟩, ⟨(some ⟨[6,7,8,10,11,12,16,17,18], [10,11], [7,8]⟩), [], [], [], []⟩, ⟨(some ⟨[6,7,8,10,11,12,16,17,18,35], [10,11], [7,8]⟩), [], [], [], []⟩, ⟨(some ⟨[6,7,8,11,12,16,17,18], [11], [7,8]⟩), [], [], [], []⟩, ⟨(some ⟨[6,7,8,11,12,16,17,18], [11], [7,8]⟩), [], [], [], []⟩, ⟨(some ⟨[6,7,8,16,17,18], [], [7,8]⟩), [], [], [], []⟩, ⟨(some ⟨[6,7,8,16,17,18], [], [7,8]⟩), [], [], [], []⟩, ⟨(some ⟨[4,5], [], []⟩), [], [], [], []⟩]
def C_offs : AC := (.seq (.reg false [⟨(some 4), none, .mv (.v (.slice none 0 0))⟩, ⟨(some 5), none, .mv (.v (.slice none 0 0))⟩] (some ⟨[0,1], [], []⟩))
  (.seq (.reg false [⟨(some 13), none, .mv (.t 0)⟩, ⟨(some 14), none, .mv (.t 1)⟩, ⟨(some 15), none, .call (.f 41) [(.t 13), (.t 14)]⟩, ⟨(some 6), none, .mv (.t 15)⟩] (some ⟨[0,6], [], []⟩))
  (.seq (.seq (.reg false [⟨(some 7), none, .mv (.v (.slice none 0 0))⟩] (some ⟨[0,6,7], [], []⟩))
  (.own 7 74 2))
  (.seq (.seq (.reg false [⟨(some 8), none, .mv (.v (.slice none 0 0))⟩] (some ⟨[0,6,7,8], [], [7]⟩))
  (.own 8 4 1))
  (.seq (.seq (.reg false [⟨(some 16), none, .mv (.t 0)⟩, ⟨(some 17), none, .len (.t 16)⟩, ⟨(some 18), none, .mv (.v (.int .i64 (0)))⟩] (some ⟨[6,7,8,16,17,18], [], [7,8]⟩))
  (.block 0 (.loop (.seq (.reg false [⟨(some 19), none, .bin .lss (.t 18) (.t 17)⟩] (some ⟨[6,7,8,16,17,18,19], [], [7,8]⟩))
  (.seq (.cond (.t 19)
  .skip
  (.exit 0))
  (.seq (.block 1 (.seq (.reg false [⟨(some 20), none, .iadr 3 (.t 16) (.t 18)⟩, ⟨(some 21), none, .load true 3 (.t 20)⟩, ⟨(some 10), none, .alloc [(.int .i64 (0)), (.int .i64 (0)), (.int .i64 (0))]⟩, ⟨none, none, .store 3 (.t 10) (.t 21)⟩] (some ⟨[6,7,8,10,16,17,18], [10], [7,8]⟩))
  (.seq (.reg false [⟨(some 23), none, .mv (.t 6)⟩, ⟨(some 24), none, .fadr 0 (.t 10)⟩, ⟨(some 25), none, .load false 1 (.t 24)⟩, ⟨(some 26), none, .call (.f 51) [(.t 23), (.t 25)]⟩, ⟨(some 22), none, .mv (.t 26)⟩, ⟨(some 27), none, .extr (.t 22) 0⟩, ⟨(some 28), none, .extr (.t 22) 1⟩, ⟨(some 11), none, .alloc [(.int .i64 (0)), (.int .i64 (0))]⟩, ⟨none, none, .store 2 (.t 11) (.t 27)⟩, ⟨(some 12), none, .mv (.t 28)⟩] (some ⟨[6,7,8,10,11,12,16,17,18], [10,11], [7,8]⟩))
  (.seq (.reg false [⟨(some 29), none, .mv (.t 12)⟩, ⟨(some 30), none, .mv (.t 29)⟩, ⟨(some 31), (some (30, true)), .fadr 2 (.t 10)⟩, ⟨(some 32), (some (30, true)), .load false 1 (.t 31)⟩, ⟨(some 33), (some (30, true)), .bin .neq (.t 32) (.v (.int .i64 (2)))⟩, ⟨(some 34), none, .pick (.t 30) (.t 33) (.v (.bool false))⟩, ⟨(some 12), none, .mv (.t 34)⟩] (some ⟨[6,7,8,10,11,12,16,17,18], [10,11], [7,8]⟩))
  (.seq (.seq (.reg false [⟨(some 35), none, .mv (.t 12)⟩] (some ⟨[6,7,8,10,11,12,16,17,18,35], [10,11], [7,8]⟩))
  (.cond (.t 35)
  (.reg true [⟨(some 36), none, .fadr 0 (.t 11)⟩, ⟨(some 37), none, .load false 1 (.t 36)⟩, ⟨(some 38), none, .fadr 1 (.t 10)⟩, ⟨(some 39), none, .load false 1 (.t 38)⟩, ⟨(some 40), none, .fadr 1 (.t 11)⟩, ⟨(some 41), none, .load false 1 (.t 40)⟩, ⟨(some 42), none, .bin .mul (.t 39) (.t 41)⟩, ⟨(some 43), none, .call (.f 132) [(.t 37), (.t 42)]⟩, ⟨(some 44), none, .fadr 1 (.t 11)⟩, ⟨(some 45), none, .load false 1 (.t 44)⟩, ⟨(some 46), none, .call (.f 53) [(.t 43), (.t 45)]⟩, ⟨none, none, .store 2 (.t 11) (.t 46)⟩] (some ⟨[6,7,8,11,12,16,17,18], [11], [7,8]⟩))
  (.reg false [⟨(some 47), none, .build [(.int .i64 (0)), (.int .i64 (0))] [(1, 1, (.v (.int .i64 (1))))]⟩, ⟨none, none, .store 2 (.t 11) (.t 47)⟩] (some ⟨[6,7,8,11,12,16,17,18], [11], [7,8]⟩))))
  (.reg false [⟨(some 48), none, .mv (.t 7)⟩, ⟨(some 49), none, .load true 2 (.t 11)⟩, ⟨(some 50), none, .bslice 2 1 [(.t 49)]⟩, ⟨(some 51), none, .append 74 2 16 (.t 48) (.t 50)⟩, ⟨(some 52), none, .mv (.t 8)⟩, ⟨(some 53), none, .mv (.t 12)⟩, ⟨(some 54), none, .bslice 1 1 [(.t 53)]⟩, ⟨(some 55), none, .append 4 1 1 (.t 52) (.t 54)⟩, ⟨(some 7), none, .mv (.t 51)⟩, ⟨(some 8), none, .mv (.t 55)⟩] (some ⟨[6,7,8,16,17,18], [], [7,8]⟩)))))))
  (.reg false [⟨(some 56), none, .bin .add (.t 18) (.v (.int .i64 (1)))⟩, ⟨(some 18), none, .mv (.t 56)⟩] (some ⟨[6,7,8,16,17,18], [], [7,8]⟩))))))))
  (.seq (.reg false [⟨(some 57), none, .mv (.t 7)⟩, ⟨(some 58), none, .mv (.t 8)⟩, ⟨(some 4), none, .mv (.t 57)⟩, ⟨(some 5), none, .mv (.t 58)⟩] (some ⟨[4,5], [], []⟩))
  .ret))))))
theorem c_offs : compileCode Try.prog Try.f120.ntmps (Try.f120.body.getD .skip) A_offs = some (C_offs, []) := by kernel_rfl
theorem r_offs : compileRes Try.prog Try.f120.results.toList = some [.t 4, .t 5] := by kernel_rfl
theorem b_offs : Try.f120.body = some (Try.f120.body.getD .skip) := by kernel_rfl
theorem n_offs : (Try.f120.name == "runtime.NumGoroutine") = false := by kernel_rfl
theorem fc_offs {xt : Option (List Cel)} {args : List Val} {R : List Cel → Val → Prop} (hn : (if xt.isSome then 1 else 0) + args.length ≤ Try.f120.ntmps) (h : ex Try.prog C_offs [] (fpost xt [.t 4, .t 5] R) (initSt xt args)) : FC Try.prog 120 xt args R :=
  fc_of_awp Try.func120 b_offs n_offs c_offs r_offs (of_decide_eq_true (by kernel_rfl)) hn h

def A_mulLess : List Ann := [⟨(some ⟨[0,1,2,3], [], []⟩), [], [], [], []⟩, ⟨(some ⟨[2,3,9,10], [], []⟩), [], [], [], []⟩, ⟨(some ⟨[9,10,11,12], [], []⟩), [], [], [], []⟩, ⟨(some ⟨[8], [], []⟩), [], [], [], []⟩]
def C_mulLess : AC := (.seq (.reg false [⟨(some 8), none, .mv (.v (.bool false))⟩] (some ⟨[0,1,2,3], [], []⟩))
  (.seq (.reg false [⟨(some 14), none, .mv (.t 0)⟩, ⟨(some 15), none, .conv .u64 (.t 14)⟩, ⟨(some 16), none, .mv (.t 1)⟩, ⟨(some 17), none, .conv .u64 (.t 16)⟩, ⟨(some 18), none, .call (.f 177) [(.t 15), (.t 17)]⟩, ⟨(some 13), none, .mv (.t 18)⟩, ⟨(some 19), none, .extr (.t 13) 0⟩, ⟨(some 20), none, .extr (.t 13) 1⟩, ⟨(some 9), none, .mv (.t 19)⟩, ⟨(some 10), none, .mv (.t 20)⟩] (some ⟨[2,3,9,10], [], []⟩))
  (.seq (.reg false [⟨(some 22), none, .mv (.t 2)⟩, ⟨(some 23), none, .conv .u64 (.t 22)⟩, ⟨(some 24), none, .mv (.t 3)⟩, ⟨(some 25), none, .conv .u64 (.t 24)⟩, ⟨(some 26), none, .call (.f 177) [(.t 23), (.t 25)]⟩, ⟨(some 21), none, .mv (.t 26)⟩, ⟨(some 27), none, .extr (.t 21) 0⟩, ⟨(some 28), none, .extr (.t 21) 1⟩, ⟨(some 11), none, .mv (.t 27)⟩, ⟨(some 12), none, .mv (.t 28)⟩] (some ⟨[9,10,11,12], [], []⟩))
  (.seq (.reg false [⟨(some 29), none, .mv (.t 9)⟩, ⟨(some 30), none, .mv (.t 11)⟩, ⟨(some 31), none, .bin .lss (.t 29) (.t 30)⟩, ⟨(some 32), none, .mv (.t 31)⟩, ⟨(some 33), (some (32, false)), .mv (.t 9)⟩, ⟨(some 34), (some (32, false)), .mv (.t 11)⟩, ⟨(some 35), (some (32, false)), .bin .eql (.t 33) (.t 34)⟩, ⟨(some 36), (some (32, false)), .mv (.t 35)⟩, ⟨(some 37), (some (36, true)), .mv (.t 10)⟩, ⟨(some 38), (some (36, true)), .mv (.t 12)⟩, ⟨(some 39), (some (36, true)), .bin .lss (.t 37) (.t 38)⟩, ⟨(some 40), (some (32, false)), .pick (.t 36) (.t 39) (.v (.bool false))⟩, ⟨(some 41), none, .pick (.t 32) (.v (.bool true)) (.t 40)⟩, ⟨(some 8), none, .mv (.t 41)⟩] (some ⟨[8], [], []⟩))
  .ret))))
theorem c_mulLess : compileCode Try.prog Try.f168.ntmps (Try.f168.body.getD .skip) A_mulLess = some (C_mulLess, []) := by kernel_rfl
theorem r_mulLess : compileRes Try.prog Try.f168.results.toList = some [.t 8] := by kernel_rfl
theorem b_mulLess : Try.f168.body = some (Try.f168.body.getD .skip) := by kernel_rfl
theorem n_mulLess : (Try.f168.name == "runtime.NumGoroutine") = false := by kernel_rfl
theorem fc_mulLess {xt : Option (List Cel)} {args : List Val} {R : List Cel → Val → Prop} (hn : (if xt.isSome then 1 else 0) + args.length ≤ Try.f168.ntmps) (h : ex Try.prog C_mulLess [] (fpost xt [.t 8] R) (initSt xt args)) : FC Try.prog 168 xt args R :=
  fc_of_awp Try.func168 b_mulLess n_mulLess c_mulLess r_mulLess (of_decide_eq_true (by kernel_rfl)) hn h

def A_lessThan : List Ann := [⟨(some ⟨[2,3], [2,3], []⟩), [], [], [], []⟩, ⟨(some ⟨[2,3,5,6], [2,3], []⟩), [], [], [], []⟩, ⟨(some ⟨[2,3,5,6,19], [2,3], []⟩), [], [], [], []⟩, ⟨(some ⟨[4], [], []⟩), [], [], [], []⟩, ⟨(some ⟨[4], [], []⟩), [], [], [], []⟩]
def C_lessThan : AC := (.seq (.reg false [⟨(some 2), none, .box (.t 0)⟩, ⟨(some 3), none, .box (.t 1)⟩, ⟨(some 4), none, .mv (.v (.bool false))⟩] (some ⟨[2,3], [2,3], []⟩))
  (.seq (.seq (.reg true [⟨(some 7), none, .fadr 0 (.t 2)⟩, ⟨(some 8), none, .load false 1 (.t 7)⟩, ⟨(some 9), none, .fadr 1 (.t 2)⟩, ⟨(some 10), none, .load false 1 (.t 9)⟩, ⟨(some 11), none, .bin .quo (.t 8) (.t 10)⟩, ⟨(some 12), none, .fadr 0 (.t 3)⟩, ⟨(some 13), none, .load false 1 (.t 12)⟩, ⟨(some 14), none, .fadr 1 (.t 3)⟩, ⟨(some 15), none, .load false 1 (.t 14)⟩, ⟨(some 16), none, .bin .quo (.t 13) (.t 15)⟩, ⟨(some 5), none, .mv (.t 11)⟩, ⟨(some 6), none, .mv (.t 16)⟩] (some ⟨[2,3,5,6], [2,3], []⟩))
  (.seq (.reg false [⟨(some 17), none, .mv (.t 5)⟩, ⟨(some 18), none, .mv (.t 6)⟩, ⟨(some 19), none, .bin .neq (.t 17) (.t 18)⟩] (some ⟨[2,3,5,6,19], [2,3], []⟩))
  (.cond (.t 19)
  (.seq (.reg false [⟨(some 20), none, .mv (.t 5)⟩, ⟨(some 21), none, .mv (.t 6)⟩, ⟨(some 22), none, .bin .lss (.t 20) (.t 21)⟩, ⟨(some 4), none, .mv (.t 22)⟩] (some ⟨[4], [], []⟩))
  .ret)
  .skip)))
  (.seq (.reg true [⟨(some 23), none, .fadr 0 (.t 2)⟩, ⟨(some 24), none, .load false 1 (.t 23)⟩, ⟨(some 25), none, .fadr 1 (.t 2)⟩, ⟨(some 26), none, .load false 1 (.t 25)⟩, ⟨(some 27), none, .bin .rem (.t 24) (.t 26)⟩, ⟨(some 28), none, .fadr 1 (.t 3)⟩, ⟨(some 29), none, .load false 1 (.t 28)⟩, ⟨(some 30), none, .fadr 0 (.t 3)⟩, ⟨(some 31), none, .load false 1 (.t 30)⟩, ⟨(some 32), none, .fadr 1 (.t 3)⟩, ⟨(some 33), none, .load false 1 (.t 32)⟩, ⟨(some 34), none, .bin .rem (.t 31) (.t 33)⟩, ⟨(some 35), none, .fadr 1 (.t 2)⟩, ⟨(some 36), none, .load false 1 (.t 35)⟩, ⟨(some 37), none, .call (.f 168) [(.t 27), (.t 29), (.t 34), (.t 36)]⟩, ⟨(some 4), none, .mv (.t 37)⟩] (some ⟨[4], [], []⟩))
  .ret)))
theorem c_lessThan : compileCode Try.prog Try.f121.ntmps (Try.f121.body.getD .skip) A_lessThan = some (C_lessThan, []) := by kernel_rfl
theorem r_lessThan : compileRes Try.prog Try.f121.results.toList = some [.t 4] := by kernel_rfl
theorem b_lessThan : Try.f121.body = some (Try.f121.body.getD .skip) := by kernel_rfl
theorem n_lessThan : (Try.f121.name == "runtime.NumGoroutine") = false := by kernel_rfl
theorem fc_lessThan {xt : Option (List Cel)} {args : List Val} {R : List Cel → Val → Prop} (hn : (if xt.isSome then 1 else 0) + args.length ≤ Try.f121.ntmps) (h : ex Try.prog C_lessThan [] (fpost xt [.t 4] R) (initSt xt args)) : FC Try.prog 121 xt args R :=
  fc_of_awp Try.func121 b_lessThan n_lessThan c_lessThan r_lessThan (of_decide_eq_true (by kernel_rfl)) hn h

def A_errorOf : List Ann := [⟨(some ⟨[0,1,4], [4], []⟩), [], [], [], []⟩, ⟨(some ⟨[4,7,8], [4], []⟩), [], [], [], []⟩, ⟨(some ⟨[4,7,8,9], [4], []⟩), [], [], [], []⟩, ⟨(some ⟨[4,7,8,9,18,19], [4], []⟩), [], [], [], []⟩, ⟨(some ⟨[4,7,8,9,18,19,20], [4], []⟩), [], [], [], []⟩, ⟨(some ⟨[4,7,8,9,10,18,19], [4], []⟩), [], [], [], []⟩, ⟨(some ⟨[4,7,8,9,10,18,19,40], [4], []⟩), [], [], [], []⟩, ⟨(some ⟨[4,7,8,9,18,19], [4], []⟩), [], [], [], []⟩, ⟨(some ⟨[4,7,8,9,18,19], [4], []⟩), [], [], [], []⟩, ⟨(some ⟨[4,7,9,44], [4], []⟩), [], [], [], []⟩, ⟨(some ⟨[4,5,6], [4], []⟩), [], [], [], []⟩, ⟨(some ⟨[4,5,6], [4], []⟩), [], [], [], []⟩]
def C_errorOf : AC := (.seq (.reg false [⟨(some 4), none, .alloc [(.int .i64 (0)), (.int .i64 (0))]⟩, ⟨(some 5), none, .mv (.v (.int .i64 (0)))⟩, ⟨(some 6), none, .mv (.v (.bool false))⟩] (some ⟨[0,1,4], [4], []⟩))
  (.seq (.reg false [⟨(some 12), none, .mv (.t 0)⟩, ⟨(some 13), none, .mv (.t 1)⟩, ⟨(some 14), none, .call (.f 120) [(.t 12), (.t 13)]⟩, ⟨(some 11), none, .mv (.t 14)⟩, ⟨(some 15), none, .extr (.t 11) 0⟩, ⟨(some 16), none, .extr (.t 11) 1⟩, ⟨(some 7), none, .mv (.t 15)⟩, ⟨(some 8), none, .mv (.t 16)⟩] (some ⟨[4,7,8], [4], []⟩))
  (.seq (.reg false [⟨(some 9), none, .mv (.v (.int .i64 (-1)))⟩] (some ⟨[4,7,8,9], [4], []⟩))
  (.seq (.seq (.reg false [⟨(some 17), none, .mv (.t 7)⟩, ⟨(some 18), none, .len (.t 17)⟩, ⟨(some 19), none, .mv (.v (.int .i64 (0)))⟩] (some ⟨[4,7,8,9,18,19], [4], []⟩))
  (.block 0 (.loop (.seq (.reg false [⟨(some 20), none, .bin .lss (.t 19) (.t 18)⟩] (some ⟨[4,7,8,9,18,19,20], [4], []⟩))
  (.seq (.cond (.t 20)
  .skip
  (.exit 0))
  (.seq (.block 1 (.seq (.reg false [⟨(some 21), none, .mv (.t 19)⟩, ⟨(some 10), none, .mv (.t 21)⟩] (some ⟨[4,7,8,9,10,18,19], [4], []⟩))
  (.seq (.reg true [⟨(some 22), none, .mv (.t 8)⟩, ⟨(some 23), none, .mv (.t 10)⟩, ⟨(some 24), none, .iadr 1 (.t 22) (.t 23)⟩, ⟨(some 25), none, .load false 1 (.t 24)⟩, ⟨(some 26), none, .mv (.t 25)⟩, ⟨(some 27), (some (26, true)), .mv (.t 9)⟩, ⟨(some 28), (some (26, true)), .bin .lss (.t 27) (.v (.int .i64 (0)))⟩, ⟨(some 29), (some (26, true)), .mv (.t 28)⟩, ⟨(some 30), (some (29, false)), .mv (.t 7)⟩, ⟨(some 31), (some (29, false)), .mv (.t 9)⟩, ⟨(some 32), (some (29, false)), .iadr 2 (.t 30) (.t 31)⟩, ⟨(some 33), (some (29, false)), .load true 2 (.t 32)⟩, ⟨(some 34), (some (29, false)), .mv (.t 7)⟩, ⟨(some 35), (some (29, false)), .mv (.t 10)⟩, ⟨(some 36), (some (29, false)), .iadr 2 (.t 34) (.t 35)⟩, ⟨(some 37), (some (29, false)), .load true 2 (.t 36)⟩, ⟨(some 38), (some (29, false)), .call (.f 121) [(.t 33), (.t 37)]⟩, ⟨(some 39), (some (26, true)), .pick (.t 29) (.v (.bool true)) (.t 38)⟩, ⟨(some 40), none, .pick (.t 26) (.t 39) (.v (.bool false))⟩] (some ⟨[4,7,8,9,10,18,19,40], [4], []⟩))
  (.cond (.t 40)
  (.reg false [⟨(some 41), none, .mv (.t 10)⟩, ⟨(some 9), none, .mv (.t 41)⟩] (some ⟨[4,7,8,9,18,19], [4], []⟩))
  .skip))))
  (.reg false [⟨(some 42), none, .bin .add (.t 19) (.v (.int .i64 (1)))⟩, ⟨(some 19), none, .mv (.t 42)⟩] (some ⟨[4,7,8,9,18,19], [4], []⟩))))))))
  (.seq (.seq (.reg false [⟨(some 43), none, .mv (.t 9)⟩, ⟨(some 44), none, .bin .lss (.t 43) (.v (.int .i64 (0)))⟩] (some ⟨[4,7,9,44], [4], []⟩))
  (.cond (.t 44)
  (.seq (.reg false [⟨(some 45), none, .build [(.int .i64 (0)), (.int .i64 (0))] []⟩, ⟨none, none, .store 2 (.t 4) (.t 45)⟩, ⟨(some 5), none, .mv (.v (.int .i64 (0)))⟩, ⟨(some 6), none, .mv (.v (.bool false))⟩] (some ⟨[4,5,6], [4], []⟩))
  .ret)
  .skip))
  (.seq (.reg false [⟨(some 46), none, .mv (.t 7)⟩, ⟨(some 47), none, .mv (.t 9)⟩, ⟨(some 48), none, .iadr 2 (.t 46) (.t 47)⟩, ⟨(some 49), none, .load true 2 (.t 48)⟩, ⟨(some 50), none, .mv (.t 9)⟩, ⟨none, none, .store 2 (.t 4) (.t 49)⟩, ⟨(some 5), none, .mv (.t 50)⟩, ⟨(some 6), none, .mv (.v (.bool true))⟩] (some ⟨[4,5,6], [4], []⟩))
  .ret))))))
theorem c_errorOf : compileCode Try.prog Try.f52.ntmps (Try.f52.body.getD .skip) A_errorOf = some (C_errorOf, []) := by kernel_rfl
theorem r_errorOf : compileRes Try.prog Try.f52.results.toList = some [.cell 4 true 2, .t 5, .t 6] := by kernel_rfl
theorem b_errorOf : Try.f52.body = some (Try.f52.body.getD .skip) := by kernel_rfl
theorem n_errorOf : (Try.f52.name == "runtime.NumGoroutine") = false := by kernel_rfl
theorem fc_errorOf {xt : Option (List Cel)} {args : List Val} {R : List Cel → Val → Prop} (hn : (if xt.isSome then 1 else 0) + args.length ≤ Try.f52.ntmps) (h : ex Try.prog C_errorOf [] (fpost xt [.cell 4 true 2, .t 5, .t 6] R) (initSt xt args)) : FC Try.prog 52 xt args R :=
  fc_of_awp Try.func52 b_errorOf n_errorOf c_errorOf r_errorOf (of_decide_eq_true (by kernel_rfl)) hn h

def A_ratio : List Ann := [⟨(some ⟨[0,1,4], [4], []⟩), [], [], [], []⟩, ⟨(some ⟨[0,1,4,7], [4], []⟩), [], [], [], []⟩, ⟨(some ⟨[0,1,4,7,12], [4], []⟩), [], [], [], []⟩, ⟨(some ⟨[4,5,6], [4], []⟩), [], [], [], []⟩, ⟨(some ⟨[0,1,4,17], [4], []⟩), [], [], [], []⟩, ⟨(some ⟨[4,5,6], [4], []⟩), [], [], [], []⟩, ⟨(some ⟨[4,5,6], [4], []⟩), [], [], [], []⟩]
def C_ratio : AC := (.seq (.reg false [⟨(some 4), none, .alloc [(.int .i64 (0)), (.int .i64 (0))]⟩, ⟨(some 5), none, .mv (.v (.bool false))⟩, ⟨(some 6), none, .mv (.v (.int .i64 (0)))⟩] (some ⟨[0,1,4], [4], []⟩))
  (.seq (.seq (.reg false [⟨(some 8), none, .mv (.t 0)⟩, ⟨(some 9), none, .mv (.t 1)⟩, ⟨(some 10), none, .call (.f 111) [(.t 8), (.t 9)]⟩, ⟨(some 7), none, .mv (.t 10)⟩] (some ⟨[0,1,4,7], [4], []⟩))
  (.seq (.reg false [⟨(some 11), none, .mv (.t 7)⟩, ⟨(some 12), none, .bin .neq (.t 11) (.v (.int .i64 (0)))⟩] (some ⟨[0,1,4,7,12], [4], []⟩))
  (.cond (.t 12)
  (.seq (.reg false [⟨(some 13), none, .build [(.int .i64 (0)), (.int .i64 (0))] []⟩, ⟨(some 14), none, .mv (.t 7)⟩, ⟨none, none, .store 2 (.t 4) (.t 13)⟩, ⟨(some 5), none, .mv (.v (.bool false))⟩, ⟨(some 6), none, .mv (.t 14)⟩] (some ⟨[4,5,6], [4], []⟩))
  .ret)
  .skip)))
  (.seq (.seq (.reg false [⟨(some 15), none, .mv (.t 1)⟩, ⟨(some 16), none, .len (.t 15)⟩, ⟨(some 17), none, .bin .eql (.t 16) (.v (.int .i64 (0)))⟩] (some ⟨[0,1,4,17], [4], []⟩))
  (.cond (.t 17)
  (.seq (.reg false [⟨(some 18), none, .build [(.int .i64 (0)), (.int .i64 (0))] []⟩, ⟨none, none, .store 2 (.t 4) (.t 18)⟩, ⟨(some 5), none, .mv (.v (.bool false))⟩, ⟨(some 6), none, .mv (.v (.int .i64 (0)))⟩] (some ⟨[4,5,6], [4], []⟩))
  .ret)
  .skip))
  (.seq (.reg false [⟨(some 19), none, .mv (.t 0)⟩, ⟨(some 20), none, .len (.t 19)⟩, ⟨(some 21), none, .mv (.t 1)⟩, ⟨(some 22), none, .len (.t 21)⟩, ⟨(some 23), none, .call (.f 115) [(.t 20), (.t 22)]⟩, ⟨none, none, .store 2 (.t 4) (.t 23)⟩, ⟨(some 5), none, .mv (.v (.bool true))⟩, ⟨(some 6), none, .mv (.v (.int .i64 (0)))⟩] (some ⟨[4,5,6], [4], []⟩))
  .ret))))
theorem c_ratio : compileCode Try.prog Try.f49.ntmps (Try.f49.body.getD .skip) A_ratio = some (C_ratio, []) := by kernel_rfl
theorem r_ratio : compileRes Try.prog Try.f49.results.toList = some [.cell 4 true 2, .t 5, .t 6] := by kernel_rfl
theorem b_ratio : Try.f49.body = some (Try.f49.body.getD .skip) := by kernel_rfl
theorem n_ratio : (Try.f49.name == "runtime.NumGoroutine") = false := by kernel_rfl
theorem fc_ratio {xt : Option (List Cel)} {args : List Val} {R : List Cel → Val → Prop} (hn : (if xt.isSome then 1 else 0) + args.length ≤ Try.f49.ntmps) (h : ex Try.prog C_ratio [] (fpost xt [.cell 4 true 2, .t 5, .t 6] R) (initSt xt args)) : FC Try.prog 49 xt args R :=
  fc_of_awp Try.func49 b_ratio n_ratio c_ratio r_ratio (of_decide_eq_true (by kernel_rfl)) hn h

def A_noneFault : List Ann := [⟨(some ⟨[0], [], []⟩), [], [], [], []⟩, ⟨(some ⟨[3], [], []⟩), [], [], [], []⟩, ⟨(some ⟨[2], [], []⟩), [], [], [], []⟩, ⟨(some ⟨[2], [], []⟩), [], [], [], []⟩]
def C_noneFault : AC := (.seq (.reg false [⟨(some 2), none, .mv (.v (.int .i64 (0)))⟩] (some ⟨[0], [], []⟩))
  (.seq (.seq (.reg false [⟨(some 3), none, .mv (.t 0)⟩] (some ⟨[3], [], []⟩))
  (.cond (.t 3)
  (.seq (.reg false [⟨(some 2), none, .mv (.v (.int .i64 (8)))⟩] (some ⟨[2], [], []⟩))
  .ret)
  .skip))
  (.seq (.reg false [⟨(some 2), none, .mv (.v (.int .i64 (0)))⟩] (some ⟨[2], [], []⟩))
  .ret)))
theorem c_noneFault : compileCode Try.prog Try.f54.ntmps (Try.f54.body.getD .skip) A_noneFault = some (C_noneFault, []) := by kernel_rfl
theorem r_noneFault : compileRes Try.prog Try.f54.results.toList = some [.t 2] := by kernel_rfl
theorem b_noneFault : Try.f54.body = some (Try.f54.body.getD .skip) := by kernel_rfl
theorem n_noneFault : (Try.f54.name == "runtime.NumGoroutine") = false := by kernel_rfl
theorem fc_noneFault {xt : Option (List Cel)} {args : List Val} {R : List Cel → Val → Prop} (hn : (if xt.isSome then 1 else 0) + args.length ≤ Try.f54.ntmps) (h : ex Try.prog C_noneFault [] (fpost xt [.t 2] R) (initSt xt args)) : FC Try.prog 54 xt args R :=
  fc_of_awp Try.func54 b_noneFault n_noneFault c_noneFault r_noneFault (of_decide_eq_true (by kernel_rfl)) hn h


theorem lowG_mul {g A B : Int} (hg : 1 ≤ g) (hA : 0 ≤ A) (hB : 1 ≤ B) : lowG (g * A) (g * B) = g * lowG A B := by
  obtain ⟨g, rfl⟩ := Int.eq_ofNat_of_zero_le (show 0 ≤ g by omega)
  obtain ⟨A, rfl⟩ := Int.eq_ofNat_of_zero_le hA
  obtain ⟨B, rfl⟩ := Int.eq_ofNat_of_zero_le (show 0 ≤ B by omega)
  unfold lowG
  rw [← Int.natCast_mul, ← Int.natCast_mul]
  have e1 : (max ((g * A : Nat) : Int) (0 - ((g * A : Nat) : Int))).toNat = g * A := by omega
  have e2 : (max (A : Int) (0 - (A : Int))).toNat = A := by omega
  rw [e1, e2, Int.toNat_natCast, Int.toNat_natCast, Nat.gcd_mul_left, Int.natCast_mul]
theorem low_mul {g A B : Int} (hg : 1 ≤ g) (hA : 0 ≤ A) (hB : 1 ≤ B) : lowN (g * A) (g * B) = lowN A B ∧ lowD (g * A) (g * B) = lowD A B := by
  unfold lowN lowD
  rw [lowG_mul hg hA hB, Int.mul_tdiv_mul_of_pos _ _ (by omega), Int.mul_tdiv_mul_of_pos _ _ (by omega)]
  exact ⟨rfl, rfl⟩
theorem low_lt {a b c d : Int} (hb : 1 ≤ b) (hd : 1 ≤ d) : lowN a b * lowD c d < lowN c d * lowD a b ↔ a * d < c * b := by
  obtain ⟨e1, e2, h1, _⟩ := low_eq a b hb
  obtain ⟨e3, e4, h2, _⟩ := low_eq c d hd
  generalize lowN a b = F1 at *
  generalize lowD a b = F2 at *
  generalize lowN c d = G1 at *
  generalize lowD c d = G2 at *
  generalize lowG a b = g at *
  generalize lowG c d = h at *
  subst e1; subst e2; subst e3; subst e4
  have e5 : g * F1 * (h * G2) = g * h * (F1 * G2) := by
    rw [Int.mul_assoc, Int.mul_left_comm F1 h G2, ← Int.mul_assoc]
  have e6 : h * G1 * (g * F2) = g * h * (G1 * F2) := by
    rw [Int.mul_assoc, Int.mul_left_comm G1 g F2, ← Int.mul_assoc, Int.mul_comm h g]
  rw [e5, e6]
  exact (Int.mul_lt_mul_left (Int.mul_pos (by omega) (by omega))).symm
theorem low_pos {n d : Int} (hn : 0 ≤ n) (hd : 1 ≤ d) : 0 ≤ lowN n d ∧ lowN n d ≤ n ∧ 1 ≤ lowD n d ∧ lowD n d ≤ d := by
  obtain ⟨_, _, h1, h2⟩ := low_eq n d hd
  refine ⟨Int.tdiv_nonneg hn (by omega), Int.tdiv_le_self _ hn, h2, Int.tdiv_le_self _ (by omega)⟩
def ofB (k : List Smp) (s : Smp) : Bool := (rfSp k s.a).2 && decide (¬s.q = 2)
def ofF (k : List Smp) (s : Smp) : Int × Int := if ofB k s = true then (lowN (max ((rfSp k s.a).1.1 - s.v * (rfSp k s.a).1.2) (s.v * (rfSp k s.a).1.2 - (rfSp k s.a).1.1)) (rfSp k s.a).1.2, lowD (max ((rfSp k s.a).1.1 - s.v * (rfSp k s.a).1.2) (s.v * (rfSp k s.a).1.2 - (rfSp k s.a).1.1)) (rfSp k s.a).1.2) else (0, 1)
theorem of_ap {k : List Smp} (hg : Good k) {s : Smp} (hs : okSmp s) : ofB k s = (apSp k s).2 ∧ ((apSp k s).2 = true → ofF k s = (lowN (apSp k s).1.1 (apSp k s).1.2, lowD (apSp k s).1.1 (apSp k s).1.2)) := by
  unfold okSmp at hs
  have hb := recSp_bd hg (at_ := s.a) (by omega)
  unfold ofF ofB rfSp apSp
  generalize recSp k s.a = x at *
  obtain ⟨⟨n, d⟩, b⟩ := x
  cases b with
  | false => simp
  | true =>
    obtain ⟨h1, h2⟩ := hb rfl
    simp only at h1 h2
    by_cases q : s.q = 2
    · simp [q]
    · have e0 : ¬(((n, d), true).2 = false ∨ s.q = 2) := by simp [q]
      rw [if_neg (show ¬((((n, d), true) : (Int × Int) × Bool).2 = false) by simp), if_neg e0]
      refine ⟨by simp [q], fun _ => ?_⟩
      rw [if_pos (by simp [q])]
      simp only
      obtain ⟨e1, e2, e3, e4⟩ := low_eq n d (by omega)
      generalize lowN n d = N at *
      generalize lowD n d = D at *
      generalize lowG n d = g at *
      subst e1; subst e2
      have e5 : s.v * (g * D) - g * N = g * (s.v * D - N) := by rw [Int.mul_left_comm, ← Int.mul_sub]
      have e6 : max (s.v * (g * D) - g * N) (0 - (s.v * (g * D) - g * N)) = g * max (N - s.v * D) (s.v * D - N) := by
        rw [e5]
        by_cases h : 0 ≤ s.v * D - N
        · have := Int.mul_nonneg (show 0 ≤ g by omega) h
          rw [show max (N - s.v * D) (s.v * D - N) = s.v * D - N by omega]; omega
        · have := Int.mul_nonneg (show 0 ≤ g by omega) (show 0 ≤ -(s.v * D - N) by omega)
          rw [show max (N - s.v * D) (s.v * D - N) = -(s.v * D - N) by omega, Int.mul_neg]
          rw [Int.mul_neg] at this; omega
      rw [e6]
      obtain ⟨m1, m2⟩ := low_mul (A := max (N - s.v * D) (s.v * D - N)) e3 (by omega) e4
      rw [m1, m2]
theorem keptOf_fc (l : List Smp) (hl : l.length ≤ 5000) (kept : List Int) (hk : kept.length ≤ l.length) (hin : ∀ k ∈ kept, 0 ≤ k ∧ k < l.length) : FC Try.prog 41 none [smps false l, ints false kept] (fun _ r => r = smps true (kep l kept)) := by
  refine fc_keptOf (by simp +arith) ?_
  unfold C_keptOf
  simp (maxSteps := 1000000) (disch := omega) only [go_sem, eq_self, decide_true, decide_false, not_true_eq_false, not_false_eq_true, reduceIte, reduceCtorEq, Nat.reduceEqDiff, Nat.reduceAdd, Nat.reduceSub, Nat.reduceLeDiff]
  refine ex_loop2 (fun i out => (⟨tabV [(0, smps false l), (5, .one (.ow 5 0)), (8, ints false kept), (9, iv kept.length), (10, iv i)], tabO [], tabO [(5, ⟨0, 60, 3, out.map smpC⟩)]⟩ : AS)) (fun i out => 0 ≤ i ∧ i ≤ kept.length ∧ out.length = i ∧ out ++ kep l (kept.drop i.toNat) = kep l kept) (fun i _ => (kept.length - i).toNat) 0 [] ⟨by omega, by omega, by simp, rfl⟩ rfl ?_
  rintro i out ⟨g1, g2, g3, g4⟩
  by_cases hi : i < kept.length
  · have e2 : (i + 1).toNat = i.toNat + 1 := by omega
    have em := getD_map_at intC kept i [] g1 hi
    have hm := hin _ (getD_mem kept i.toNat (by omega))
    rw [drop_cons kept i.toNat (by omega), ← e2] at g4
    have e3 : kep l (kept.getD i.toNat default :: kept.drop (i + 1).toNat) = [l.getD (kept.getD i.toNat default).toNat default] ++ kep l (kept.drop (i + 1).toNat) := rfl
    rw [e3, ← List.append_assoc] at g4
    simp (maxSteps := 1000000) (disch := omega) only [go_sem, eq_self, decide_true, decide_false, not_true_eq_false, not_false_eq_true, reduceIte, reduceCtorEq, Nat.reduceEqDiff, Nat.reduceAdd, Nat.reduceSub, Nat.reduceLeDiff]
    exact ⟨i + 1, out ++ [_], by simp only [List.map_append, List.map_cons, List.map_nil, smpC_eq], ⟨by omega, by omega, by simp; omega, g4⟩, by omega⟩
  · rw [List.drop_eq_nil_of_le (by omega)] at g4
    have e3 : kep l [] = [] := rfl
    rw [e3, List.append_nil] at g4
    rw [← g4]
    simp (maxSteps := 1000000) (disch := omega) only [go_sem, eq_self, decide_true, decide_false, not_true_eq_false, not_false_eq_true, reduceIte, reduceCtorEq, Nat.reduceEqDiff, Nat.reduceAdd, Nat.reduceSub, Nat.reduceLeDiff]
def bC (b : Bool) : List Cel := [.g (.bool b)]
theorem bC_eq (b : Bool) : bC b = [.g (.bool b)] := (rfl)
theorem frE_b (l : List Bool) : frE (l.map bC) = true := frE_map (fun _ => rfl) l
theorem datE_b (l : List Bool) : datE (l.map bC) = l.map bC := datE_map (fun _ => rfl) l
theorem tofE_b (l : List Bool) : tofE (l.map bC) = l.map bC := tofE_map (fun _ => rfl) l
attribute [go_sem] bC_eq frE_b datE_b tofE_b
abbrev boolsV (fr : Bool) (l : List Bool) : Val := .one (.sl fr 1 (l.map bC))
def osSt (k l : List Smp) (i : Int) (f : List (Int × Int)) (h : List Bool) : AS := ⟨tabV [(6, smps true k), (7, .one (.ow 7 0)), (8, .one (.ow 8 0)), (16, smps false l), (17, iv l.length), (18, iv i)], tabO [], tabO [(7, ⟨0, 74, 2, f.map frC⟩), (8, ⟨0, 4, 1, h.map bC⟩)]⟩
theorem offs_fc (l : List Smp) (hs : serFault l = 0) (kept : List Int) (hk : kept.length ≤ l.length) (hin : ∀ k ∈ kept, 0 ≤ k ∧ k < l.length) (hgk : Good (kep l kept)) : FC Try.prog 120 none [smps false l, ints false kept] (fun _ r => r = .tu [frsV true (l.map (ofF (kep l kept))), boolsV true (l.map (ofB (kep l kept)))]) := by
  refine fc_offs (by simp +arith) ?_
  have hg := good_of hs
  have hlen := hg.len
  unfold C_offs
  simp (maxSteps := 1000000) (disch := omega) only [go_sem, eq_self, decide_true, decide_false, not_true_eq_false, not_false_eq_true, reduceIte, reduceCtorEq, Nat.reduceEqDiff, Nat.reduceAdd, Nat.reduceSub, Nat.reduceLeDiff]
  refine CALL_det (keptOf_fc l hlen kept hk hin) (.inl rfl) ?_
  generalize kep l kept = k at *
  simp (maxSteps := 1000000) (disch := omega) only [go_sem, eq_self, decide_true, decide_false, not_true_eq_false, not_false_eq_true, reduceIte, reduceCtorEq, Nat.reduceEqDiff, Nat.reduceAdd, Nat.reduceSub, Nat.reduceLeDiff]
  refine ⟨by omega, ?_⟩
  refine ex_loop3 (osSt k l) (fun i f h => 0 ≤ i ∧ i ≤ l.length ∧ f.length = i ∧ h.length = i ∧ f ++ (l.drop i.toNat).map (ofF k) = l.map (ofF k) ∧ h ++ (l.drop i.toNat).map (ofB k) = l.map (ofB k)) (fun i _ _ => (l.length - i).toNat) 0 [] [] ⟨by omega, by omega, by simp, by simp, rfl, rfl⟩ rfl ?_
  rintro i f h ⟨g1, g2, g3, g4, g5, g6⟩
  unfold osSt
  by_cases hi : i < l.length
  · have e2 : (i + 1).toNat = i.toNat + 1 := by omega
    have em := getD_map_at smpC l i [] g1 hi
    have ho := hg.ok i.toNat (by omega)
    rw [drop_cons l i.toNat (by omega), ← e2, List.map_cons] at g5 g6
    rw [List.append_cons] at g5 g6
    have ho2 := ho
    unfold okSmp at ho2
    have hb := recSp_bd hgk (at_ := (l.getD i.toNat default).a) (by omega)
    have eF : ofF k (l.getD i.toNat default) = ofF k (l.getD i.toNat default) := rfl
    have eB : ofB k (l.getD i.toNat default) = ofB k (l.getD i.toNat default) := rfl
    conv at eF => rhs; unfold ofF
    conv at eB => rhs; unfold ofB
    simp (maxSteps := 1000000) (disch := omega) only [go_sem, eq_self, decide_true, decide_false, not_true_eq_false, not_false_eq_true, reduceIte, reduceCtorEq, Nat.reduceEqDiff, Nat.reduceAdd, Nat.reduceSub, Nat.reduceLeDiff]
    refine CALL_det (reconstructedOf_fc k hgk _ (by omega)) (.inl rfl) ?_
    have hr : rfSp k (l.getD i.toNat default).a = if (recSp k (l.getD i.toNat default).a).2 = false then ((0, 0), false) else ((lowN (recSp k (l.getD i.toNat default).a).1.1 (recSp k (l.getD i.toNat default).a).1.2, lowD (recSp k (l.getD i.toNat default).a).1.1 (recSp k (l.getD i.toNat default).a).1.2), true) := rfl
    generalize recSp k (l.getD i.toNat default).a = x at *
    obtain ⟨⟨n, d⟩, b⟩ := x
    cases b with
    | false =>
      rw [if_pos rfl] at hr
      rw [hr] at eB
      simp only [Bool.false_and] at eB
      rw [eB, if_neg (by simp)] at eF
      rw [eF] at g5
      rw [eB] at g6
      rw [hr]
      simp (maxSteps := 1000000) (disch := omega) only [go_sem, eq_self, decide_true, decide_false, not_true_eq_false, not_false_eq_true, reduceIte, reduceCtorEq, Nat.reduceEqDiff, Nat.reduceAdd, Nat.reduceSub, Nat.reduceLeDiff]
      exact ⟨i + 1, f ++ [(0, 1)], h ++ [false], by simp only [osSt, List.map_append, List.map_cons, List.map_nil, frC_eq, bC_eq], ⟨by omega, by omega, by simp; omega, by simp; omega, g5, g6⟩, by omega⟩
    | true =>
      obtain ⟨h1, h2⟩ := hb rfl
      simp only at h1 h2
      rw [if_neg (by simp)] at hr
      simp only at hr
      obtain ⟨e3, e4, e5, e6⟩ := low_eq n d (by omega)
      have hN := tdiv_bd (n := n) (g := lowG n d) (B := 2000000000000000000) e5 h1.1 h1.2
      have hD := tdiv_bd (n := d) (g := lowG n d) (B := 345686400000) e5 (by omega) h2.2
      change _ ∧ lowN n d ≤ _ at hN
      change _ ∧ lowD n d ≤ _ at hD
      have hN1 : -2000000000000000000 ≤ lowN n d := hN.1
      clear e3 e4 hb
      rw [hr] at eB
      simp only [Bool.true_and] at eB
      rw [hr]
      generalize lowN n d = N at *
      generalize lowD n d = D at *
      by_cases q : (l.getD i.toNat default).q = 2
      · have e9 : decide ((l.getD i.toNat default).q ≠ 2) = false := decide_eq_false (by omega)
        rw [decide_eq_false (by omega)] at eB
        rw [eB, if_neg (by simp)] at eF
        rw [eF] at g5
        rw [eB] at g6
        simp (maxSteps := 1000000) (disch := omega) only [go_sem, eq_self, decide_true, decide_false, not_true_eq_false, not_false_eq_true, reduceIte, reduceCtorEq, Nat.reduceEqDiff, Nat.reduceAdd, Nat.reduceSub, Nat.reduceLeDiff]
        exact ⟨i + 1, f ++ [(0, 1)], h ++ [false], by simp only [e9, osSt, List.map_append, List.map_cons, List.map_nil, frC_eq, bC_eq], ⟨by omega, by omega, by simp; omega, by simp; omega, g5, g6⟩, by omega⟩
      · have e9 : decide ((l.getD i.toNat default).q ≠ 2) = true := decide_eq_true q
        rw [decide_eq_true q] at eB
        rw [eB, if_pos rfl, hr] at eF
        rw [eF] at g5
        rw [eB] at g6
        have hm := mul_bd (a := (l.getD i.toNat default).v) (b := D) (A := 1000000) (B := 345686400000) (by omega) (by omega)
        simp (maxSteps := 1000000) (disch := omega) only [go_sem, eq_self, decide_true, decide_false, not_true_eq_false, not_false_eq_true, reduceIte, reduceCtorEq, Nat.reduceEqDiff, Nat.reduceAdd, Nat.reduceSub, Nat.reduceLeDiff]
        refine CALL_det (far_fc N ((l.getD i.toNat default).v * D) (by omega) (by omega)) (.inl rfl) ?_
        simp (maxSteps := 1000000) (disch := omega) only [go_sem, eq_self, decide_true, decide_false, not_true_eq_false, not_false_eq_true, reduceIte, reduceCtorEq, Nat.reduceEqDiff, Nat.reduceAdd, Nat.reduceSub, Nat.reduceLeDiff]
        refine CALL_det (lowest_fc (max (N - (l.getD i.toNat default).v * D) ((l.getD i.toNat default).v * D - N)) D (by omega) (by omega) (by omega)) (.inl rfl) ?_
        simp (maxSteps := 1000000) (disch := omega) only [go_sem, eq_self, decide_true, decide_false, not_true_eq_false, not_false_eq_true, reduceIte, reduceCtorEq, Nat.reduceEqDiff, Nat.reduceAdd, Nat.reduceSub, Nat.reduceLeDiff]
        exact ⟨i + 1, f ++ [_], h ++ [true], by simp only [e9, osSt, List.map_append, List.map_cons, List.map_nil, frC_eq, bC_eq], ⟨by omega, by omega, by simp; omega, by simp; omega, g5, g6⟩, by omega⟩
  · rw [List.drop_eq_nil_of_le (by omega), List.map_nil, List.append_nil] at g5 g6
    rw [← g5, ← g6]
    simp (maxSteps := 1000000) (disch := omega) only [go_sem, eq_self, decide_true, decide_false, not_true_eq_false, not_false_eq_true, reduceIte, reduceCtorEq, Nat.reduceEqDiff, Nat.reduceAdd, Nat.reduceSub, Nat.reduceLeDiff]
theorem mulLess_fc (a b c d : Int) (ha : 0 ≤ a ∧ a ≤ 9223372036854775807) (hb : 0 ≤ b ∧ b ≤ 9223372036854775807) (hc : 0 ≤ c ∧ c ≤ 9223372036854775807) (hd : 0 ≤ d ∧ d ≤ 9223372036854775807) : FC Try.prog 168 none [iv a, iv b, iv c, iv d] (fun _ r => r = bv (decide (a * b < c * d))) := by
  obtain ⟨a, rfl⟩ := Int.eq_ofNat_of_zero_le ha.1
  obtain ⟨b, rfl⟩ := Int.eq_ofNat_of_zero_le hb.1
  obtain ⟨c, rfl⟩ := Int.eq_ofNat_of_zero_le hc.1
  obtain ⟨d, rfl⟩ := Int.eq_ofNat_of_zero_le hd.1
  have e1 := mul64_fc a b (by omega) (by omega)
  have e2 := mul64_fc c d (by omega) (by omega)
  rw [← Int.natCast_mul, ← Int.natCast_mul]
  refine fc_mulLess (by simp +arith) ?_
  generalize a * b = x at *
  generalize c * d = y at *
  unfold C_mulLess
  simp (maxSteps := 1000000) (disch := omega) only [go_sem, eq_self, decide_true, decide_false, not_true_eq_false, not_false_eq_true, reduceIte, reduceCtorEq, Nat.reduceEqDiff, Nat.reduceAdd, Nat.reduceSub, Nat.reduceLeDiff]
  refine CALL_det e1 (.inl rfl) ?_
  simp (maxSteps := 1000000) (disch := omega) only [go_sem, eq_self, decide_true, decide_false, not_true_eq_false, not_false_eq_true, reduceIte, reduceCtorEq, Nat.reduceEqDiff, Nat.reduceAdd, Nat.reduceSub, Nat.reduceLeDiff]
  refine CALL_det e2 (.inl rfl) ?_
  by_cases c1 : x / 18446744073709551616 < y / 18446744073709551616
  · rw [decide_eq_true (show (x : Int) < (y : Int) by omega)]
    simp (maxSteps := 1000000) (disch := omega) only [go_sem, eq_self, decide_true, decide_false, not_true_eq_false, not_false_eq_true, reduceIte, reduceCtorEq, Nat.reduceEqDiff, Nat.reduceAdd, Nat.reduceSub, Nat.reduceLeDiff]
  by_cases c2 : x / 18446744073709551616 = y / 18446744073709551616
  · by_cases c3 : x % 18446744073709551616 < y % 18446744073709551616
    · rw [decide_eq_true (show (x : Int) < (y : Int) by omega)]
      simp (maxSteps := 1000000) (disch := omega) only [go_sem, eq_self, decide_true, decide_false, not_true_eq_false, not_false_eq_true, reduceIte, reduceCtorEq, Nat.reduceEqDiff, Nat.reduceAdd, Nat.reduceSub, Nat.reduceLeDiff]
      rw [decide_eq_true (by omega)]
    · rw [decide_eq_false (show ¬(x : Int) < (y : Int) by omega)]
      simp (maxSteps := 1000000) (disch := omega) only [go_sem, eq_self, decide_true, decide_false, not_true_eq_false, not_false_eq_true, reduceIte, reduceCtorEq, Nat.reduceEqDiff, Nat.reduceAdd, Nat.reduceSub, Nat.reduceLeDiff]
      rw [decide_eq_false (by omega)]
  · rw [decide_eq_false (show ¬(x : Int) < (y : Int) by omega)]
    simp (maxSteps := 1000000) (disch := omega) only [go_sem, eq_self, decide_true, decide_false, not_true_eq_false, not_false_eq_true, reduceIte, reduceCtorEq, Nat.reduceEqDiff, Nat.reduceAdd, Nat.reduceSub, Nat.reduceLeDiff]
theorem lt_law {b d x r y t : Int} (hb : 1 ≤ b) (hd : 1 ≤ d) (hr : 0 ≤ r ∧ r < b) (ht : 0 ≤ t ∧ t < d) : (b * x + r) * d < (d * y + t) * b ↔ (x < y ∨ (x = y ∧ r * d < t * b)) := by
  have e1 : (b * x + r) * d = b * d * x + r * d := by rw [Int.add_mul, Int.mul_right_comm]
  have e2 : (d * y + t) * b = b * d * y + t * b := by rw [Int.add_mul, Int.mul_right_comm, Int.mul_comm d b]
  have h1 : r * d < b * d := Int.mul_lt_mul_of_pos_right hr.2 (by omega)
  have h2 : t * b < b * d := by rw [Int.mul_comm b d]; exact Int.mul_lt_mul_of_pos_right ht.2 (by omega)
  have h3 : 0 ≤ r * d := Int.mul_nonneg hr.1 (by omega)
  have h4 : 0 ≤ t * b := Int.mul_nonneg ht.1 (by omega)
  rw [e1, e2]
  rcases Int.lt_trichotomy x y with h | h | h
  · have := Int.mul_le_mul_of_nonneg_left (show x + 1 ≤ y by omega) (show 0 ≤ b * d by omega)
    rw [Int.mul_add, Int.mul_one] at this
    exact ⟨fun _ => .inl h, fun _ => by omega⟩
  · subst h
    exact ⟨fun h => .inr ⟨rfl, by omega⟩, fun h => by omega⟩
  · have := Int.mul_le_mul_of_nonneg_left (show y + 1 ≤ x by omega) (show 0 ≤ b * d by omega)
    rw [Int.mul_add, Int.mul_one] at this
    exact ⟨fun h => by omega, fun h' => by omega⟩
theorem lessThan_fc (a b c d : Int) (ha : 0 ≤ a ∧ a ≤ 9223372036854775807) (hb : 1 ≤ b ∧ b ≤ 9223372036854775807) (hc : 0 ≤ c ∧ c ≤ 9223372036854775807) (hd : 1 ≤ d ∧ d ≤ 9223372036854775807) : FC Try.prog 121 none [.ag (frC (a, b)), .ag (frC (c, d))] (fun _ r => r = bv (decide (a * d < c * b))) := by
  refine fc_lessThan (by simp +arith) ?_
  have q1 := Int.tdiv_le_self b ha.1
  have q2 := Int.tdiv_nonneg ha.1 (show 0 ≤ b by omega)
  have q3 := Int.tdiv_le_self d hc.1
  have q4 := Int.tdiv_nonneg hc.1 (show 0 ≤ d by omega)
  have r1 := Int.tmod_nonneg b ha.1
  have r2 := Int.tmod_lt_of_pos a (show 0 < b by omega)
  have r3 := Int.tmod_nonneg d hc.1
  have r4 := Int.tmod_lt_of_pos c (show 0 < d by omega)
  have e1 := Int.mul_tdiv_add_tmod a b
  have e2 := Int.mul_tdiv_add_tmod c d
  have hl := lt_law (b := b) (d := d) (x := a.tdiv b) (r := a.tmod b) (y := c.tdiv d) (t := c.tmod d) (by omega) (by omega) (by omega) (by omega)
  rw [e1, e2] at hl
  unfold C_lessThan
  by_cases c1 : a.tdiv b = c.tdiv d
  · simp (maxSteps := 1000000) (disch := omega) only [go_sem, eq_self, decide_true, decide_false, not_true_eq_false, not_false_eq_true, reduceIte, reduceCtorEq, Nat.reduceEqDiff, Nat.reduceAdd, Nat.reduceSub, Nat.reduceLeDiff]
    refine CALL_det (mulLess_fc (a.tmod b) d (c.tmod d) b (by omega) (by omega) (by omega) (by omega)) (.inl rfl) ?_
    simp (maxSteps := 1000000) (disch := omega) only [go_sem, eq_self, decide_true, decide_false, not_true_eq_false, not_false_eq_true, reduceIte, reduceCtorEq, Nat.reduceEqDiff, Nat.reduceAdd, Nat.reduceSub, Nat.reduceLeDiff]
    exact bv_dec ⟨fun h => hl.2 (.inr ⟨c1, h⟩), fun h => by rcases hl.1 h with h | h; omega; exact h.2⟩
  · simp (maxSteps := 1000000) (disch := omega) only [go_sem, eq_self, decide_true, decide_false, not_true_eq_false, not_false_eq_true, reduceIte, reduceCtorEq, Nat.reduceEqDiff, Nat.reduceAdd, Nat.reduceSub, Nat.reduceLeDiff]
    exact bv_dec ⟨fun h => hl.2 (.inl h), fun h => by rcases hl.1 h with h | h; exact h; omega⟩
def eoSp (l k : List Smp) : (Int × Int) × Int × Bool := if (erGo k 0 ((0, 0), -1) l).2 < 0 then ((0, 0), 0, false) else ((lowN (erGo k 0 ((0, 0), -1) l).1.1 (erGo k 0 ((0, 0), -1) l).1.2, lowD (erGo k 0 ((0, 0), -1) l).1.1 (erGo k 0 ((0, 0), -1) l).1.2), (erGo k 0 ((0, 0), -1) l).2, true)
def eoSt (n : Nat) (f : List (Int × Int)) (h : List Bool) (i best : Int) : AS := ⟨tabV [(4, .one (.bx 4 0)), (7, frsV true f), (8, boolsV true h), (9, iv best), (18, iv n), (19, iv i)], tabO [(4, [.g (.int .i64 0), .g (.int .i64 0)])], tabO []⟩
theorem errorOf_fc (l : List Smp) (hs : serFault l = 0) (kept : List Int) (hk : kept.length ≤ l.length) (hin : ∀ k ∈ kept, 0 ≤ k ∧ k < l.length) (hgk : Good (kep l kept)) : FC Try.prog 52 none [smps false l, ints false kept] (fun _ r => r = .tu [.ag (frC (eoSp l (kep l kept)).1), iv (eoSp l (kep l kept)).2.1, bv (eoSp l (kep l kept)).2.2]) := by
  refine fc_errorOf (by simp +arith) ?_
  have hg := good_of hs
  have hlen := hg.len
  unfold C_errorOf eoSp
  simp (maxSteps := 1000000) (disch := omega) only [go_sem, eq_self, decide_true, decide_false, not_true_eq_false, not_false_eq_true, reduceIte, reduceCtorEq, Nat.reduceEqDiff, Nat.reduceAdd, Nat.reduceSub, Nat.reduceLeDiff]
  refine CALL_det (offs_fc l hs kept hk hin hgk) (.inl rfl) ?_
  generalize kep l kept = k at *
  have hf : ∀ i : Nat, i < l.length → (l.map (ofF k)).getD i default = ofF k (l.getD i default) := fun i hi => getD_map_in (ofF k) l i default hi
  have hh : ∀ i : Nat, i < l.length → (l.map (ofB k)).getD i default = ofB k (l.getD i default) := fun i hi => getD_map_in (ofB k) l i default hi
  have lf : (l.map (ofF k)).length = l.length := List.length_map _
  have lh : (l.map (ofB k)).length = l.length := List.length_map _
  generalize l.map (ofF k) = f at *
  generalize l.map (ofB k) = h at *
  have hof := fun (i : Nat) (hi : i < l.length) => of_ap hgk (hg.ok i hi)
  have hap := fun (i : Nat) (hi : i < l.length) => apSp_bd hgk (hg.ok i hi)
  simp (maxSteps := 1000000) (disch := omega) only [go_sem, eq_self, decide_true, decide_false, not_true_eq_false, not_false_eq_true, reduceIte, reduceCtorEq, Nat.reduceEqDiff, Nat.reduceAdd, Nat.reduceSub, Nat.reduceLeDiff]
  refine ex_loop2 (fun i (x : (Int × Int) × Int) => eoSt f.length f h i x.2) (fun i x => 0 ≤ i ∧ i ≤ l.length ∧ erGo k i x (l.drop i.toNat) = erGo k 0 ((0, 0), -1) l ∧ -1 ≤ x.2 ∧ x.2 < i ∧ (0 ≤ x.2 → x.1 = (apSp k (l.getD x.2.toNat default)).1 ∧ (apSp k (l.getD x.2.toNat default)).2 = true)) (fun i _ => (l.length - i).toNat) 0 ((0, 0), -1) ⟨by omega, by omega, rfl, by simp, by simp, by simp⟩ rfl ?_
  rintro i ⟨⟨n, d⟩, best⟩ ⟨g1, g2, g3, g4, g5, g6⟩
  simp only at g4 g5 g6
  unfold eoSt
  by_cases hi : i < l.length
  · have e2 : (i + 1).toNat = i.toNat + 1 := by omega
    have eh := hh i.toNat (by omega)
    have ef := hf i.toNat (by omega)
    obtain ⟨o1, o2⟩ := hof i.toNat (by omega)
    have o3 := hap i.toNat (by omega)
    rw [o1] at eh
    rw [drop_cons l i.toNat (by omega), ← e2, erGo] at g3
    unfold erStep at g3
    cases hb : (apSp k (l.getD i.toNat default)).2 with
    | false =>
      rw [hb] at eh g3
      rw [if_neg (by simp)] at g3
      simp (maxSteps := 1000000) (disch := omega) only [go_sem, eq_self, decide_true, decide_false, not_true_eq_false, not_false_eq_true, reduceIte, reduceCtorEq, Nat.reduceEqDiff, Nat.reduceAdd, Nat.reduceSub, Nat.reduceLeDiff]
      rw [eh]
      simp (maxSteps := 1000000) (disch := omega) only [go_sem, eq_self, decide_true, decide_false, not_true_eq_false, not_false_eq_true, reduceIte, reduceCtorEq, Nat.reduceEqDiff, Nat.reduceAdd, Nat.reduceSub, Nat.reduceLeDiff]
      exact ⟨i + 1, ((n, d), best), rfl, ⟨by omega, by omega, g3, by omega, by simp only; omega, g6⟩, by omega⟩
    | true =>
      rw [hb] at eh
      have o4 := o2 hb
      have o5 := o3 hb
      by_cases c1 : best < 0
      · rw [if_pos ⟨hb, .inl c1⟩] at g3
        simp (maxSteps := 1000000) (disch := omega) only [go_sem, eq_self, decide_true, decide_false, not_true_eq_false, not_false_eq_true, reduceIte, reduceCtorEq, Nat.reduceEqDiff, Nat.reduceAdd, Nat.reduceSub, Nat.reduceLeDiff]
        rw [eh]
        simp (maxSteps := 1000000) (disch := omega) only [go_sem, eq_self, decide_true, decide_false, not_true_eq_false, not_false_eq_true, reduceIte, reduceCtorEq, Nat.reduceEqDiff, Nat.reduceAdd, Nat.reduceSub, Nat.reduceLeDiff]
        exact ⟨i + 1, ((apSp k (l.getD i.toNat default)).1, i), rfl, ⟨by omega, by omega, g3, by simp only; omega, by simp only; omega, fun _ => ⟨rfl, hb⟩⟩, by omega⟩
      · obtain ⟨g7, g8⟩ := g6 (by omega)
        have p1 := hf best.toNat (by omega)
        have p2 := (hof best.toNat (by omega)).2 g8
        have p3 := hap best.toNat (by omega) g8
        rw [← g7] at p2 p3
        simp only at p2 p3
        rw [p2] at p1
        rw [o4] at ef
        have w1 := low_pos p3.1.1 p3.2.1
        have w2 := low_pos o5.1.1 o5.2.1
        have hlt := low_lt (a := n) (b := d) (c := (apSp k (l.getD i.toNat default)).1.1) (d := (apSp k (l.getD i.toNat default)).1.2) p3.2.1 o5.2.1
        generalize hA : apSp k (l.getD i.toNat default) = A at *
        obtain ⟨⟨an, ad⟩, ab⟩ := A
        simp only at hb o5 w2 hlt ef g3
        subst hb
        simp (maxSteps := 1000000) (disch := omega) only [go_sem, eq_self, decide_true, decide_false, not_true_eq_false, not_false_eq_true, reduceIte, reduceCtorEq, Nat.reduceEqDiff, Nat.reduceAdd, Nat.reduceSub, Nat.reduceLeDiff]
        rw [eh]
        simp (maxSteps := 1000000) (disch := omega) only [go_sem, eq_self, decide_true, decide_false, not_true_eq_false, not_false_eq_true, reduceIte, reduceCtorEq, Nat.reduceEqDiff, Nat.reduceAdd, Nat.reduceSub, Nat.reduceLeDiff]
        rw [p1, ef]
        simp (maxSteps := 1000000) (disch := omega) only [go_sem, eq_self, decide_true, decide_false, not_true_eq_false, not_false_eq_true, reduceIte, reduceCtorEq, Nat.reduceEqDiff, Nat.reduceAdd, Nat.reduceSub, Nat.reduceLeDiff]
        refine CALL_det (lessThan_fc (lowN n d) (lowD n d) (lowN an ad) (lowD an ad) (by omega) (by omega) (by omega) (by omega)) (.inl rfl) ?_
        by_cases c2 : n * ad < an * d
        · rw [if_pos ⟨rfl, .inr c2⟩] at g3
          rw [decide_eq_true (hlt.2 c2)]
          simp (maxSteps := 1000000) (disch := omega) only [go_sem, eq_self, decide_true, decide_false, not_true_eq_false, not_false_eq_true, reduceIte, reduceCtorEq, Nat.reduceEqDiff, Nat.reduceAdd, Nat.reduceSub, Nat.reduceLeDiff]
          exact ⟨i + 1, ((an, ad), i), rfl, ⟨by omega, by omega, g3, by simp only; omega, by simp only; omega, fun _ => by simp only; rw [hA]; exact ⟨rfl, rfl⟩⟩, by omega⟩
        · rw [if_neg (by rintro ⟨_, h | h⟩; exact c1 h; exact c2 h)] at g3
          rw [decide_eq_false (fun h => c2 (hlt.1 h))]
          simp (maxSteps := 1000000) (disch := omega) only [go_sem, eq_self, decide_true, decide_false, not_true_eq_false, not_false_eq_true, reduceIte, reduceCtorEq, Nat.reduceEqDiff, Nat.reduceAdd, Nat.reduceSub, Nat.reduceLeDiff]
          exact ⟨i + 1, ((n, d), best), rfl, ⟨by omega, by omega, g3, by omega, by simp only; omega, fun _ => ⟨g7, g8⟩⟩, by omega⟩
  · rw [List.drop_eq_nil_of_le (by omega), erGo] at g3
    rw [← g3]
    by_cases c1 : best < 0
    · rw [if_pos c1]
      simp (maxSteps := 1000000) (disch := omega) only [go_sem, eq_self, decide_true, decide_false, not_true_eq_false, not_false_eq_true, reduceIte, reduceCtorEq, Nat.reduceEqDiff, Nat.reduceAdd, Nat.reduceSub, Nat.reduceLeDiff]
    · obtain ⟨g7, g8⟩ := g6 (by omega)
      have p1 := hf best.toNat (by omega)
      have p2 := (hof best.toNat (by omega)).2 g8
      rw [← g7] at p2
      simp only at p2
      rw [p2] at p1
      rw [if_neg c1]
      simp (maxSteps := 1000000) (disch := omega) only [go_sem, eq_self, decide_true, decide_false, not_true_eq_false, not_false_eq_true, reduceIte, reduceCtorEq, Nat.reduceEqDiff, Nat.reduceAdd, Nat.reduceSub, Nat.reduceLeDiff]
      rw [p1]
def rtSp (l : List Smp) (kept : List Int) : (Int × Int) × Bool × Int := if kptF l kept ≠ 0 then ((0, 0), false, kptF l kept) else if kept.length = 0 then ((0, 0), false, 0) else ((lowN l.length kept.length, lowD l.length kept.length), true, 0)
theorem ratio_fc (l : List Smp) (hl : l.length ≤ 4611686018427387904) (kept : List Int) (hk : kept.length ≤ 4611686018427387904) : FC Try.prog 49 none [smps false l, ints false kept] (fun _ r => r = .tu [.ag (frC (rtSp l kept).1), bv (rtSp l kept).2.1, iv (rtSp l kept).2.2]) := by
  refine fc_ratio (by simp +arith) ?_
  unfold C_ratio rtSp
  simp (maxSteps := 1000000) (disch := omega) only [go_sem, eq_self, decide_true, decide_false, not_true_eq_false, not_false_eq_true, reduceIte, reduceCtorEq, Nat.reduceEqDiff, Nat.reduceAdd, Nat.reduceSub, Nat.reduceLeDiff]
  refine CALL_det (keptFault_fc l hl kept hk) (.inl rfl) ?_
  by_cases h1 : kptF l kept = 0
  · rw [if_neg (show ¬(kptF l kept ≠ 0) by omega), h1]
    by_cases h2 : kept.length = 0
    · rw [if_pos h2]
      simp (maxSteps := 1000000) (disch := omega) only [go_sem, eq_self, decide_true, decide_false, not_true_eq_false, not_false_eq_true, reduceIte, reduceCtorEq, Nat.reduceEqDiff, Nat.reduceAdd, Nat.reduceSub, Nat.reduceLeDiff]
    · rw [if_neg h2]
      simp (maxSteps := 1000000) (disch := omega) only [go_sem, eq_self, decide_true, decide_false, not_true_eq_false, not_false_eq_true, reduceIte, reduceCtorEq, Nat.reduceEqDiff, Nat.reduceAdd, Nat.reduceSub, Nat.reduceLeDiff]
      refine CALL_det (fraction_fc l.length kept.length (by omega) (by omega) (by omega)) (.inl rfl) ?_
      simp (maxSteps := 1000000) (disch := omega) only [go_sem, eq_self, decide_true, decide_false, not_true_eq_false, not_false_eq_true, reduceIte, reduceCtorEq, Nat.reduceEqDiff, Nat.reduceAdd, Nat.reduceSub, Nat.reduceLeDiff]
  · rw [if_pos (show kptF l kept ≠ 0 by omega)]
    simp (maxSteps := 1000000) (disch := omega) only [go_sem, eq_self, decide_true, decide_false, not_true_eq_false, not_false_eq_true, reduceIte, reduceCtorEq, Nat.reduceEqDiff, Nat.reduceAdd, Nat.reduceSub, Nat.reduceLeDiff]
theorem noneFault_fc (b : Bool) : FC Try.prog 54 none [bv b] (fun _ r => r = iv (if b = true then 8 else 0)) := by
  refine fc_noneFault (by simp +arith) ?_
  unfold C_noneFault
  cases b with
  | false => simp (maxSteps := 1000000) (disch := omega) only [go_sem, eq_self, decide_true, decide_false, not_true_eq_false, not_false_eq_true, reduceIte, reduceCtorEq, Nat.reduceEqDiff, Nat.reduceAdd, Nat.reduceSub, Nat.reduceLeDiff]
  | true => simp (maxSteps := 1000000) (disch := omega) only [go_sem, eq_self, decide_true, decide_false, not_true_eq_false, not_false_eq_true, reduceIte, reduceCtorEq, Nat.reduceEqDiff, Nat.reduceAdd, Nat.reduceSub, Nat.reduceLeDiff]
end Go.Proofs.Ytmbpfhpdicjpcaa


/-
  How far kept samples are from all: apart, Error, and the comparison of fractions.
-/
import Derived.Test.YtggbcgldnjmobaaStp
import Derived.Laws.Bits64b
import Derived.Lib.Mul64
namespace Go.Proofs.Ytggbcgldnjmobaa
open Go Go.Ai
set_option linter.unusedSimpArgs false
set_option linter.unusedVariables false
set_option maxHeartbeats 4000000
def A_mul64 : List Ann := [⟨(some ⟨[0,1], [], []⟩), [], [], [], []⟩, ⟨(some ⟨[0,1,6], [], []⟩), [], [], [], []⟩, ⟨(some ⟨[0,1,6,7], [], []⟩), [], [], [], []⟩, ⟨(some ⟨[0,1,6,7,8], [], []⟩), [], [], [], []⟩, ⟨(some ⟨[0,1,6,7,8,9], [], []⟩), [], [], [], []⟩, ⟨(some ⟨[0,1,6,7,8,9,10], [], []⟩), [], [], [], []⟩, ⟨(some ⟨[0,1,6,7,9,11], [], []⟩), [], [], [], []⟩, ⟨(some ⟨[0,1,6,7,9,11,12], [], []⟩), [], [], [], []⟩, ⟨(some ⟨[0,1,6,7,9,12,13], [], []⟩), [], [], [], []⟩, ⟨(some ⟨[0,1,7,9,12,13], [], []⟩), [], [], [], []⟩, ⟨(some ⟨[0,1,4], [], []⟩), [], [], [], []⟩, ⟨(some ⟨[4,5], [], []⟩), [], [], [], []⟩]
def C_mul64 : AC := (.seq (.reg false [⟨(some 4), none, .mv (.v (.int .u64 (0)))⟩, ⟨(some 5), none, .mv (.v (.int .u64 (0)))⟩] (some ⟨[0,1], [], []⟩))
  (.seq (.reg false [⟨(some 14), none, .mv (.t 0)⟩, ⟨(some 15), none, .bin .and (.t 14) (.v (.int .u64 (4294967295)))⟩, ⟨(some 6), none, .mv (.t 15)⟩] (some ⟨[0,1,6], [], []⟩))
  (.seq (.reg false [⟨(some 16), none, .mv (.t 0)⟩, ⟨(some 17), none, .bin .shr (.t 16) (.v (.int .u64 (32)))⟩, ⟨(some 7), none, .mv (.t 17)⟩] (some ⟨[0,1,6,7], [], []⟩))
  (.seq (.reg false [⟨(some 18), none, .mv (.t 1)⟩, ⟨(some 19), none, .bin .and (.t 18) (.v (.int .u64 (4294967295)))⟩, ⟨(some 8), none, .mv (.t 19)⟩] (some ⟨[0,1,6,7,8], [], []⟩))
  (.seq (.reg false [⟨(some 20), none, .mv (.t 1)⟩, ⟨(some 21), none, .bin .shr (.t 20) (.v (.int .u64 (32)))⟩, ⟨(some 9), none, .mv (.t 21)⟩] (some ⟨[0,1,6,7,8,9], [], []⟩))
  (.seq (.reg false [⟨(some 22), none, .mv (.t 6)⟩, ⟨(some 23), none, .mv (.t 8)⟩, ⟨(some 24), none, .bin .mul (.t 22) (.t 23)⟩, ⟨(some 10), none, .mv (.t 24)⟩] (some ⟨[0,1,6,7,8,9,10], [], []⟩))
  (.seq (.reg false [⟨(some 25), none, .mv (.t 7)⟩, ⟨(some 26), none, .mv (.t 8)⟩, ⟨(some 27), none, .bin .mul (.t 25) (.t 26)⟩, ⟨(some 28), none, .mv (.t 10)⟩, ⟨(some 29), none, .bin .shr (.t 28) (.v (.int .u64 (32)))⟩, ⟨(some 30), none, .bin .add (.t 27) (.t 29)⟩, ⟨(some 11), none, .mv (.t 30)⟩] (some ⟨[0,1,6,7,9,11], [], []⟩))
  (.seq (.reg false [⟨(some 31), none, .mv (.t 11)⟩, ⟨(some 32), none, .bin .and (.t 31) (.v (.int .u64 (4294967295)))⟩, ⟨(some 12), none, .mv (.t 32)⟩] (some ⟨[0,1,6,7,9,11,12], [], []⟩))
  (.seq (.reg false [⟨(some 33), none, .mv (.t 11)⟩, ⟨(some 34), none, .bin .shr (.t 33) (.v (.int .u64 (32)))⟩, ⟨(some 13), none, .mv (.t 34)⟩] (some ⟨[0,1,6,7,9,12,13], [], []⟩))
  (.seq (.reg false [⟨(some 35), none, .mv (.t 12)⟩, ⟨(some 36), none, .mv (.t 6)⟩, ⟨(some 37), none, .mv (.t 9)⟩, ⟨(some 38), none, .bin .mul (.t 36) (.t 37)⟩, ⟨(some 39), none, .bin .add (.t 35) (.t 38)⟩, ⟨(some 12), none, .mv (.t 39)⟩] (some ⟨[0,1,7,9,12,13], [], []⟩))
  (.seq (.reg false [⟨(some 40), none, .mv (.t 7)⟩, ⟨(some 41), none, .mv (.t 9)⟩, ⟨(some 42), none, .bin .mul (.t 40) (.t 41)⟩, ⟨(some 43), none, .mv (.t 13)⟩, ⟨(some 44), none, .bin .add (.t 42) (.t 43)⟩, ⟨(some 45), none, .mv (.t 12)⟩, ⟨(some 46), none, .bin .shr (.t 45) (.v (.int .u64 (32)))⟩, ⟨(some 47), none, .bin .add (.t 44) (.t 46)⟩, ⟨(some 4), none, .mv (.t 47)⟩] (some ⟨[0,1,4], [], []⟩))
  (.seq (.reg false [⟨(some 48), none, .mv (.t 0)⟩, ⟨(some 49), none, .mv (.t 1)⟩, ⟨(some 50), none, .bin .mul (.t 48) (.t 49)⟩, ⟨(some 5), none, .mv (.t 50)⟩] (some ⟨[4,5], [], []⟩))
  .ret))))))))))))
theorem c_mul64 : compileCode Try.prog Try.f154.ntmps (Try.f154.body.getD .skip) A_mul64 = some (C_mul64, []) := by kernel_rfl
theorem r_mul64 : compileRes Try.prog Try.f154.results.toList = some [.t 4, .t 5] := by kernel_rfl
theorem b_mul64 : Try.f154.body = some (Try.f154.body.getD .skip) := by kernel_rfl
theorem n_mul64 : (Try.f154.name == "runtime.NumGoroutine") = false := by kernel_rfl
theorem fc_mul64 {xt : Option (List Cel)} {args : List Val} {R : List Cel → Val → Prop} (hn : (if xt.isSome then 1 else 0) + args.length ≤ Try.f154.ntmps) (h : ex Try.prog C_mul64 [] (fpost xt [.t 4, .t 5] R) (initSt xt args)) : FC Try.prog 154 xt args R :=
  fc_of_awp Try.func154 b_mul64 n_mul64 c_mul64 r_mul64 (of_decide_eq_true (by kernel_rfl)) hn h

def A_compareProducts : List Ann := [⟨(some ⟨[0,1,2,3], [], []⟩), [], [], [], []⟩, ⟨(some ⟨[2,3,9,10], [], []⟩), [], [], [], []⟩, ⟨(some ⟨[9,10,11,12], [], []⟩), [], [], [], []⟩, ⟨(some ⟨[9,10,11,12,29], [], []⟩), [], [], [], []⟩, ⟨(some ⟨[9,10,11,12,29], [], []⟩), [], [], [], []⟩, ⟨(some ⟨[8], [], []⟩), [], [], [], []⟩, ⟨(some ⟨[46], [], []⟩), [], [], [], []⟩, ⟨(some ⟨[8], [], []⟩), [], [], [], []⟩, ⟨(some ⟨[8], [], []⟩), [], [], [], []⟩]
def C_compareProducts : AC := (.seq (.reg false [⟨(some 8), none, .mv (.v (.int .i64 (0)))⟩] (some ⟨[0,1,2,3], [], []⟩))
  (.seq (.reg false [⟨(some 14), none, .mv (.t 0)⟩, ⟨(some 15), none, .conv .u64 (.t 14)⟩, ⟨(some 16), none, .mv (.t 1)⟩, ⟨(some 17), none, .conv .u64 (.t 16)⟩, ⟨(some 18), none, .call (.f 154) [(.t 15), (.t 17)]⟩, ⟨(some 13), none, .mv (.t 18)⟩, ⟨(some 19), none, .extr (.t 13) 0⟩, ⟨(some 20), none, .extr (.t 13) 1⟩, ⟨(some 9), none, .mv (.t 19)⟩, ⟨(some 10), none, .mv (.t 20)⟩] (some ⟨[2,3,9,10], [], []⟩))
  (.seq (.reg false [⟨(some 22), none, .mv (.t 2)⟩, ⟨(some 23), none, .conv .u64 (.t 22)⟩, ⟨(some 24), none, .mv (.t 3)⟩, ⟨(some 25), none, .conv .u64 (.t 24)⟩, ⟨(some 26), none, .call (.f 154) [(.t 23), (.t 25)]⟩, ⟨(some 21), none, .mv (.t 26)⟩, ⟨(some 27), none, .extr (.t 21) 0⟩, ⟨(some 28), none, .extr (.t 21) 1⟩, ⟨(some 11), none, .mv (.t 27)⟩, ⟨(some 12), none, .mv (.t 28)⟩] (some ⟨[9,10,11,12], [], []⟩))
  (.seq (.block 0 (.seq (.seq (.reg false [⟨(some 30), none, .mv (.t 9)⟩, ⟨(some 31), none, .mv (.t 11)⟩, ⟨(some 32), none, .bin .neq (.t 30) (.t 31)⟩, ⟨(some 33), none, .mv (.t 32)⟩, ⟨(some 34), (some (33, true)), .mv (.t 9)⟩, ⟨(some 35), (some (33, true)), .mv (.t 11)⟩, ⟨(some 36), (some (33, true)), .bin .lss (.t 34) (.t 35)⟩, ⟨(some 37), none, .pick (.t 33) (.t 36) (.v (.bool false))⟩, ⟨(some 29), none, .mv (.t 37)⟩] (some ⟨[9,10,11,12,29], [], []⟩))
  (.cond (.t 29)
  .skip
  (.reg false [⟨(some 38), none, .mv (.t 9)⟩, ⟨(some 39), none, .mv (.t 11)⟩, ⟨(some 40), none, .bin .eql (.t 38) (.t 39)⟩, ⟨(some 41), none, .mv (.t 40)⟩, ⟨(some 42), (some (41, true)), .mv (.t 10)⟩, ⟨(some 43), (some (41, true)), .mv (.t 12)⟩, ⟨(some 44), (some (41, true)), .bin .lss (.t 42) (.t 43)⟩, ⟨(some 45), none, .pick (.t 41) (.t 44) (.v (.bool false))⟩, ⟨(some 29), none, .mv (.t 45)⟩] (some ⟨[9,10,11,12,29], [], []⟩))))
  (.cond (.t 29)
  (.seq (.reg false [⟨(some 8), none, .mv (.v (.int .i64 (-1)))⟩] (some ⟨[8], [], []⟩))
  .ret)
  (.seq (.reg false [⟨(some 47), none, .mv (.t 9)⟩, ⟨(some 48), none, .mv (.t 11)⟩, ⟨(some 49), none, .bin .eql (.t 47) (.t 48)⟩, ⟨(some 50), none, .mv (.t 49)⟩, ⟨(some 51), (some (50, true)), .mv (.t 10)⟩, ⟨(some 52), (some (50, true)), .mv (.t 12)⟩, ⟨(some 53), (some (50, true)), .bin .eql (.t 51) (.t 52)⟩, ⟨(some 54), none, .pick (.t 50) (.t 53) (.v (.bool false))⟩, ⟨(some 46), none, .mv (.t 54)⟩] (some ⟨[46], [], []⟩))
  (.cond (.t 46)
  (.seq (.reg false [⟨(some 8), none, .mv (.v (.int .i64 (0)))⟩] (some ⟨[8], [], []⟩))
  .ret)
  .skip)))))
  (.seq (.reg false [⟨(some 8), none, .mv (.v (.int .i64 (1)))⟩] (some ⟨[8], [], []⟩))
  .ret)))))
theorem c_compareProducts : compileCode Try.prog Try.f165.ntmps (Try.f165.body.getD .skip) A_compareProducts = some (C_compareProducts, []) := by kernel_rfl
theorem r_compareProducts : compileRes Try.prog Try.f165.results.toList = some [.t 8] := by kernel_rfl
theorem b_compareProducts : Try.f165.body = some (Try.f165.body.getD .skip) := by kernel_rfl
theorem n_compareProducts : (Try.f165.name == "runtime.NumGoroutine") = false := by kernel_rfl
theorem fc_compareProducts {xt : Option (List Cel)} {args : List Val} {R : List Cel → Val → Prop} (hn : (if xt.isSome then 1 else 0) + args.length ≤ Try.f165.ntmps) (h : ex Try.prog C_compareProducts [] (fpost xt [.t 8] R) (initSt xt args)) : FC Try.prog 165 xt args R :=
  fc_of_awp Try.func165 b_compareProducts n_compareProducts c_compareProducts r_compareProducts (of_decide_eq_true (by kernel_rfl)) hn h

def A_compare : List Ann := [⟨(some ⟨[2,3], [2,3], []⟩), [], [], [], []⟩, ⟨(some ⟨[2,3,12], [2,3], []⟩), [], [], [], []⟩, ⟨(some ⟨[4], [], []⟩), [], [], [], []⟩, ⟨(some ⟨[2,3,33], [2,3], []⟩), [], [], [], []⟩, ⟨(some ⟨[4], [], []⟩), [], [], [], []⟩, ⟨(some ⟨[4], [], []⟩), [], [], [], []⟩]
def C_compare : AC := (.seq (.reg false [⟨(some 2), none, .box (.t 0)⟩, ⟨(some 3), none, .box (.t 1)⟩, ⟨(some 4), none, .mv (.v (.int .i64 (0)))⟩] (some ⟨[2,3], [2,3], []⟩))
  (.seq (.seq (.reg false [⟨(some 5), none, .fadr 0 (.t 2)⟩, ⟨(some 6), none, .load false 1 (.t 5)⟩, ⟨(some 7), none, .bin .lss (.t 6) (.v (.int .i64 (0)))⟩, ⟨(some 8), none, .mv (.t 7)⟩, ⟨(some 9), (some (8, true)), .fadr 0 (.t 3)⟩, ⟨(some 10), (some (8, true)), .load false 1 (.t 9)⟩, ⟨(some 11), (some (8, true)), .bin .lss (.t 10) (.v (.int .i64 (0)))⟩, ⟨(some 12), none, .pick (.t 8) (.t 11) (.v (.bool false))⟩] (some ⟨[2,3,12], [2,3], []⟩))
  (.cond (.t 12)
  (.seq (.reg false [⟨(some 13), none, .fadr 0 (.t 3)⟩, ⟨(some 14), none, .load false 1 (.t 13)⟩, ⟨(some 15), none, .un .neg (.t 14)⟩, ⟨(some 16), none, .fadr 1 (.t 3)⟩, ⟨(some 17), none, .load false 1 (.t 16)⟩, ⟨(some 18), none, .build [(.int .i64 (0)), (.int .i64 (0))] [(0, 1, (.t 15)), (1, 1, (.t 17))]⟩, ⟨(some 19), none, .fadr 0 (.t 2)⟩, ⟨(some 20), none, .load false 1 (.t 19)⟩, ⟨(some 21), none, .un .neg (.t 20)⟩, ⟨(some 22), none, .fadr 1 (.t 2)⟩, ⟨(some 23), none, .load false 1 (.t 22)⟩, ⟨(some 24), none, .build [(.int .i64 (0)), (.int .i64 (0))] [(0, 1, (.t 21)), (1, 1, (.t 23))]⟩, ⟨(some 25), none, .call (.f 120) [(.t 18), (.t 24)]⟩, ⟨(some 4), none, .mv (.t 25)⟩] (some ⟨[4], [], []⟩))
  .ret)
  .skip))
  (.seq (.seq (.reg false [⟨(some 26), none, .fadr 0 (.t 2)⟩, ⟨(some 27), none, .load false 1 (.t 26)⟩, ⟨(some 28), none, .bin .lss (.t 27) (.v (.int .i64 (0)))⟩, ⟨(some 29), none, .mv (.t 28)⟩, ⟨(some 30), (some (29, false)), .fadr 0 (.t 3)⟩, ⟨(some 31), (some (29, false)), .load false 1 (.t 30)⟩, ⟨(some 32), (some (29, false)), .bin .lss (.t 31) (.v (.int .i64 (0)))⟩, ⟨(some 33), none, .pick (.t 29) (.v (.bool true)) (.t 32)⟩] (some ⟨[2,3,33], [2,3], []⟩))
  (.cond (.t 33)
  (.seq (.reg false [⟨(some 34), none, .fadr 0 (.t 2)⟩, ⟨(some 35), none, .load false 1 (.t 34)⟩, ⟨(some 36), none, .fadr 0 (.t 3)⟩, ⟨(some 37), none, .load false 1 (.t 36)⟩, ⟨(some 38), none, .call (.f 93) [(.t 35), (.t 37)]⟩, ⟨(some 4), none, .mv (.t 38)⟩] (some ⟨[4], [], []⟩))
  .ret)
  .skip))
  (.seq (.reg false [⟨(some 39), none, .fadr 0 (.t 2)⟩, ⟨(some 40), none, .load false 1 (.t 39)⟩, ⟨(some 41), none, .fadr 1 (.t 3)⟩, ⟨(some 42), none, .load false 1 (.t 41)⟩, ⟨(some 43), none, .fadr 0 (.t 3)⟩, ⟨(some 44), none, .load false 1 (.t 43)⟩, ⟨(some 45), none, .fadr 1 (.t 2)⟩, ⟨(some 46), none, .load false 1 (.t 45)⟩, ⟨(some 47), none, .call (.f 165) [(.t 40), (.t 42), (.t 44), (.t 46)]⟩, ⟨(some 4), none, .mv (.t 47)⟩] (some ⟨[4], [], []⟩))
  .ret))))
theorem c_compare : compileCode Try.prog Try.f120.ntmps (Try.f120.body.getD .skip) A_compare = some (C_compare, []) := by kernel_rfl
theorem r_compare : compileRes Try.prog Try.f120.results.toList = some [.t 4] := by kernel_rfl
theorem b_compare : Try.f120.body = some (Try.f120.body.getD .skip) := by kernel_rfl
theorem n_compare : (Try.f120.name == "runtime.NumGoroutine") = false := by kernel_rfl
theorem fc_compare {xt : Option (List Cel)} {args : List Val} {R : List Cel → Val → Prop} (hn : (if xt.isSome then 1 else 0) + args.length ≤ Try.f120.ntmps) (h : ex Try.prog C_compare [] (fpost xt [.t 4] R) (initSt xt args)) : FC Try.prog 120 xt args R :=
  fc_of_awp Try.func120 b_compare n_compare c_compare r_compare (of_decide_eq_true (by kernel_rfl)) hn h

def A_apart : List Ann := [⟨(some ⟨[0,3,4], [3,4], []⟩), [], [], [], []⟩, ⟨(some ⟨[3,4,6,7], [3,4,6], []⟩), [], [], [], []⟩, ⟨(some ⟨[3,4,6,22], [3,4,6], []⟩), [], [], [], []⟩, ⟨(some ⟨[4,5], [4], []⟩), [], [], [], []⟩, ⟨(some ⟨[4,6,8], [4,6], []⟩), [], [], [], []⟩, ⟨(some ⟨[4,5], [4], []⟩), [], [], [], []⟩]
def C_apart : AC := (.seq (.reg false [⟨(some 3), none, .box (.t 1)⟩, ⟨(some 4), none, .alloc [(.int .i64 (0)), (.int .i64 (0))]⟩, ⟨(some 5), none, .mv (.v (.bool false))⟩] (some ⟨[0,3,4], [3,4], []⟩))
  (.seq (.reg false [⟨(some 10), none, .mv (.t 0)⟩, ⟨(some 11), none, .fadr 0 (.t 3)⟩, ⟨(some 12), none, .load false 1 (.t 11)⟩, ⟨(some 13), none, .call (.f 137) [(.t 10), (.t 12)]⟩, ⟨(some 9), none, .mv (.t 13)⟩, ⟨(some 14), none, .extr (.t 9) 0⟩, ⟨(some 15), none, .extr (.t 9) 1⟩, ⟨(some 6), none, .alloc [(.int .i64 (0)), (.int .i64 (0))]⟩, ⟨none, none, .store 2 (.t 6) (.t 14)⟩, ⟨(some 7), none, .mv (.t 15)⟩] (some ⟨[3,4,6,7], [3,4,6], []⟩))
  (.seq (.seq (.reg false [⟨(some 16), none, .mv (.t 7)⟩, ⟨(some 17), none, .un .not (.t 16)⟩, ⟨(some 18), none, .mv (.t 17)⟩, ⟨(some 19), (some (18, false)), .fadr 2 (.t 3)⟩, ⟨(some 20), (some (18, false)), .load false 1 (.t 19)⟩, ⟨(some 21), (some (18, false)), .bin .eql (.t 20) (.v (.int .i64 (2)))⟩, ⟨(some 22), none, .pick (.t 18) (.v (.bool true)) (.t 21)⟩] (some ⟨[3,4,6,22], [3,4,6], []⟩))
  (.cond (.t 22)
  (.seq (.reg false [⟨(some 23), none, .build [(.int .i64 (0)), (.int .i64 (0))] []⟩, ⟨none, none, .store 2 (.t 4) (.t 23)⟩, ⟨(some 5), none, .mv (.v (.bool false))⟩] (some ⟨[4,5], [4], []⟩))
  .ret)
  .skip))
  (.seq (.reg false [⟨(some 24), none, .fadr 1 (.t 3)⟩, ⟨(some 25), none, .load false 1 (.t 24)⟩, ⟨(some 26), none, .fadr 1 (.t 6)⟩, ⟨(some 27), none, .load false 1 (.t 26)⟩, ⟨(some 28), none, .bin .mul (.t 25) (.t 27)⟩, ⟨(some 29), none, .fadr 0 (.t 6)⟩, ⟨(some 30), none, .load false 1 (.t 29)⟩, ⟨(some 31), none, .bin .sub (.t 28) (.t 30)⟩, ⟨(some 8), none, .mv (.t 31)⟩] (some ⟨[4,6,8], [4,6], []⟩))
  (.seq (.reg false [⟨(some 32), none, .mv (.t 8)⟩, ⟨(some 33), none, .mv (.t 8)⟩, ⟨(some 34), none, .un .neg (.t 33)⟩, ⟨(some 35), none, .mnx true (.t 32) (.t 34)⟩, ⟨(some 36), none, .fadr 1 (.t 6)⟩, ⟨(some 37), none, .load false 1 (.t 36)⟩, ⟨(some 38), none, .build [(.int .i64 (0)), (.int .i64 (0))] [(0, 1, (.t 35)), (1, 1, (.t 37))]⟩, ⟨none, none, .store 2 (.t 4) (.t 38)⟩, ⟨(some 5), none, .mv (.v (.bool true))⟩] (some ⟨[4,5], [4], []⟩))
  .ret)))))
theorem c_apart : compileCode Try.prog Try.f119.ntmps (Try.f119.body.getD .skip) A_apart = some (C_apart, []) := by kernel_rfl
theorem r_apart : compileRes Try.prog Try.f119.results.toList = some [.cell 4 true 2, .t 5] := by kernel_rfl
theorem b_apart : Try.f119.body = some (Try.f119.body.getD .skip) := by kernel_rfl
theorem n_apart : (Try.f119.name == "runtime.NumGoroutine") = false := by kernel_rfl
theorem fc_apart {xt : Option (List Cel)} {args : List Val} {R : List Cel → Val → Prop} (hn : (if xt.isSome then 1 else 0) + args.length ≤ Try.f119.ntmps) (h : ex Try.prog C_apart [] (fpost xt [.cell 4 true 2, .t 5] R) (initSt xt args)) : FC Try.prog 119 xt args R :=
  fc_of_awp Try.func119 b_apart n_apart c_apart r_apart (of_decide_eq_true (by kernel_rfl)) hn h

def A_error : List Ann := [⟨(some ⟨[0,1,4], [4], []⟩), [], [], [], []⟩, ⟨(some ⟨[0,1,4,7], [4], []⟩), [], [], [], []⟩, ⟨(some ⟨[0,1,4,7,19], [4], []⟩), [], [], [], []⟩, ⟨(some ⟨[4,5,6], [4], []⟩), [], [], [], []⟩, ⟨(some ⟨[0,4,8], [4], []⟩), [], [], [], []⟩, ⟨(some ⟨[0,4,8,9,10], [4,9], []⟩), [], [], [], []⟩, ⟨(some ⟨[4,8,9,10,26,27,28], [4,9], []⟩), [], [], [], []⟩, ⟨(some ⟨[4,8,9,10,26,27,28,29], [4,9], []⟩), [], [], [], []⟩, ⟨(some ⟨[4,8,9,10,11,12,26,27,28], [4,9,12], []⟩), [], [], [], []⟩, ⟨(some ⟨[4,8,9,10,11,13,14,26,27,28], [4,9,13], []⟩), [], [], [], []⟩, ⟨(some ⟨[4,8,9,10,11,13,26,27,28,49], [4,9,13], []⟩), [], [], [], []⟩, ⟨(some ⟨[4,8,9,10,26,27,28], [4,9], []⟩), [], [], [], []⟩, ⟨(some ⟨[4,8,9,10,26,27,28], [4,9], []⟩), [], [], [], []⟩, ⟨(some ⟨[4,9,10,54], [4,9], []⟩), [], [], [], []⟩, ⟨(some ⟨[4,5,6], [4], []⟩), [], [], [], []⟩, ⟨(some ⟨[4,5,6], [4], []⟩), [], [], [], []⟩]
def C_error : AC := (.seq (.reg false [⟨(some 4), none, .alloc [(.int .i64 (0)), (.int .i64 (0))]⟩, ⟨(some 5), none, .mv (.v (.int .i64 (0)))⟩, ⟨(some 6), none, .mv (.v (.int .i64 (0)))⟩] (some ⟨[0,1,4], [4], []⟩))
  (.seq (.seq (.reg false [⟨(some 15), none, .mv (.t 0)⟩, ⟨(some 16), none, .mv (.t 1)⟩, ⟨(some 17), none, .call (.f 86) [(.t 15), (.t 16)]⟩, ⟨(some 7), none, .mv (.t 17)⟩] (some ⟨[0,1,4,7], [4], []⟩))
  (.seq (.reg false [⟨(some 18), none, .mv (.t 7)⟩, ⟨(some 19), none, .bin .neq (.t 18) (.v (.int .i64 (0)))⟩] (some ⟨[0,1,4,7,19], [4], []⟩))
  (.cond (.t 19)
  (.seq (.reg false [⟨(some 20), none, .build [(.int .i64 (0)), (.int .i64 (0))] []⟩, ⟨(some 21), none, .mv (.t 7)⟩, ⟨none, none, .store 2 (.t 4) (.t 20)⟩, ⟨(some 5), none, .mv (.v (.int .i64 (0)))⟩, ⟨(some 6), none, .mv (.t 21)⟩] (some ⟨[4,5,6], [4], []⟩))
  .ret)
  .skip)))
  (.seq (.reg false [⟨(some 22), none, .mv (.t 0)⟩, ⟨(some 23), none, .mv (.t 1)⟩, ⟨(some 24), none, .call (.f 109) [(.t 22), (.t 23)]⟩, ⟨(some 8), none, .mv (.t 24)⟩] (some ⟨[0,4,8], [4], []⟩))
  (.seq (.reg false [⟨(some 25), none, .build [(.int .i64 (0)), (.int .i64 (0))] []⟩, ⟨(some 9), none, .alloc [(.int .i64 (0)), (.int .i64 (0))]⟩, ⟨none, none, .store 2 (.t 9) (.t 25)⟩, ⟨(some 10), none, .mv (.v (.int .i64 (-1)))⟩] (some ⟨[0,4,8,9,10], [4,9], []⟩))
  (.seq (.seq (.reg false [⟨(some 26), none, .mv (.t 0)⟩, ⟨(some 27), none, .len (.t 26)⟩, ⟨(some 28), none, .mv (.v (.int .i64 (0)))⟩] (some ⟨[4,8,9,10,26,27,28], [4,9], []⟩))
  (.block 0 (.loop (.seq (.reg false [⟨(some 29), none, .bin .lss (.t 28) (.t 27)⟩] (some ⟨[4,8,9,10,26,27,28,29], [4,9], []⟩))
  (.seq (.cond (.t 29)
  .skip
  (.exit 0))
  (.seq (.block 1 (.seq (.reg false [⟨(some 30), none, .mv (.t 28)⟩, ⟨(some 31), none, .iadr 3 (.t 26) (.t 28)⟩, ⟨(some 32), none, .load true 3 (.t 31)⟩, ⟨(some 12), none, .alloc [(.int .i64 (0)), (.int .i64 (0)), (.int .i64 (0))]⟩, ⟨(some 11), none, .mv (.t 30)⟩, ⟨none, none, .store 3 (.t 12) (.t 32)⟩] (some ⟨[4,8,9,10,11,12,26,27,28], [4,9,12], []⟩))
  (.seq (.reg false [⟨(some 34), none, .mv (.t 8)⟩, ⟨(some 35), none, .load true 3 (.t 12)⟩, ⟨(some 36), none, .call (.f 119) [(.t 34), (.t 35)]⟩, ⟨(some 33), none, .mv (.t 36)⟩, ⟨(some 37), none, .extr (.t 33) 0⟩, ⟨(some 38), none, .extr (.t 33) 1⟩, ⟨(some 13), none, .alloc [(.int .i64 (0)), (.int .i64 (0))]⟩, ⟨none, none, .store 2 (.t 13) (.t 37)⟩, ⟨(some 14), none, .mv (.t 38)⟩] (some ⟨[4,8,9,10,11,13,14,26,27,28], [4,9,13], []⟩))
  (.seq (.reg false [⟨(some 39), none, .mv (.t 14)⟩, ⟨(some 40), none, .mv (.t 39)⟩, ⟨(some 41), (some (40, true)), .mv (.t 10)⟩, ⟨(some 42), (some (40, true)), .bin .lss (.t 41) (.v (.int .i64 (0)))⟩, ⟨(some 43), (some (40, true)), .mv (.t 42)⟩, ⟨(some 44), (some (43, false)), .load true 2 (.t 13)⟩, ⟨(some 45), (some (43, false)), .load true 2 (.t 9)⟩, ⟨(some 46), (some (43, false)), .call (.f 120) [(.t 44), (.t 45)]⟩, ⟨(some 47), (some (43, false)), .bin .gtr (.t 46) (.v (.int .i64 (0)))⟩, ⟨(some 48), (some (40, true)), .pick (.t 43) (.v (.bool true)) (.t 47)⟩, ⟨(some 49), none, .pick (.t 40) (.t 48) (.v (.bool false))⟩] (some ⟨[4,8,9,10,11,13,26,27,28,49], [4,9,13], []⟩))
  (.cond (.t 49)
  (.reg false [⟨(some 50), none, .load true 2 (.t 13)⟩, ⟨(some 51), none, .mv (.t 11)⟩, ⟨none, none, .store 2 (.t 9) (.t 50)⟩, ⟨(some 10), none, .mv (.t 51)⟩] (some ⟨[4,8,9,10,26,27,28], [4,9], []⟩))
  .skip)))))
  (.reg false [⟨(some 52), none, .bin .add (.t 28) (.v (.int .i64 (1)))⟩, ⟨(some 28), none, .mv (.t 52)⟩] (some ⟨[4,8,9,10,26,27,28], [4,9], []⟩))))))))
  (.seq (.seq (.reg false [⟨(some 53), none, .mv (.t 10)⟩, ⟨(some 54), none, .bin .lss (.t 53) (.v (.int .i64 (0)))⟩] (some ⟨[4,9,10,54], [4,9], []⟩))
  (.cond (.t 54)
  (.seq (.reg false [⟨(some 55), none, .build [(.int .i64 (0)), (.int .i64 (0))] []⟩, ⟨none, none, .store 2 (.t 4) (.t 55)⟩, ⟨(some 5), none, .mv (.v (.int .i64 (0)))⟩, ⟨(some 6), none, .mv (.v (.int .i64 (8)))⟩] (some ⟨[4,5,6], [4], []⟩))
  .ret)
  .skip))
  (.seq (.reg false [⟨(some 56), none, .fadr 0 (.t 9)⟩, ⟨(some 57), none, .load false 1 (.t 56)⟩, ⟨(some 58), none, .fadr 1 (.t 9)⟩, ⟨(some 59), none, .load false 1 (.t 58)⟩, ⟨(some 60), none, .call (.f 116) [(.t 57), (.t 59)]⟩, ⟨(some 61), none, .mv (.t 10)⟩, ⟨none, none, .store 2 (.t 4) (.t 60)⟩, ⟨(some 5), none, .mv (.t 61)⟩, ⟨(some 6), none, .mv (.v (.int .i64 (0)))⟩] (some ⟨[4,5,6], [4], []⟩))
  .ret)))))))
theorem c_error : compileCode Try.prog Try.f56.ntmps (Try.f56.body.getD .skip) A_error = some (C_error, []) := by kernel_rfl
theorem r_error : compileRes Try.prog Try.f56.results.toList = some [.cell 4 true 2, .t 5, .t 6] := by kernel_rfl
theorem b_error : Try.f56.body = some (Try.f56.body.getD .skip) := by kernel_rfl
theorem n_error : (Try.f56.name == "runtime.NumGoroutine") = false := by kernel_rfl
theorem fc_error {xt : Option (List Cel)} {args : List Val} {R : List Cel → Val → Prop} (hn : (if xt.isSome then 1 else 0) + args.length ≤ Try.f56.ntmps) (h : ex Try.prog C_error [] (fpost xt [.cell 4 true 2, .t 5, .t 6] R) (initSt xt args)) : FC Try.prog 56 xt args R :=
  fc_of_awp Try.func56 b_error n_error c_error r_error (of_decide_eq_true (by kernel_rfl)) hn h


abbrev uv (n : Int) : Val := .one (.g (.int .u64 n))
theorem maskN (a : Nat) (ha : a < 18446744073709551616) : bits .and .u64 (a : Int) 4294967295 = ((a % 4294967296 : Nat) : Int) := by
  have h := bits_and_u64_nat a 4294967295 ha (by omega)
  have e : a &&& 4294967295 = a % 4294967296 := Nat.and_two_pow_sub_one_eq_mod a 32
  rw [e] at h
  exact h
theorem shr32 (a : Nat) : (a : Int).fdiv (2 ^ (min (Int.toNat 32) 64)) = ((a / 4294967296 : Nat) : Int) := by
  have e : (2 : Int) ^ (min (Int.toNat 32) 64) = 4294967296 := by decide
  rw [e, Int.fdiv_eq_ediv_of_nonneg _ (by omega)]; omega
theorem mulN (a b : Nat) : (a : Int) * (b : Int) = ((a * b : Nat) : Int) := (Int.natCast_mul a b).symm
theorem addN (a b : Nat) : (a : Int) + (b : Int) = ((a + b : Nat) : Int) := (Int.natCast_add a b).symm
theorem wrapN (a : Nat) (ha : a < 18446744073709551616) : IntKind.u64.wrap (a : Int) = (a : Int) := by rw [IntKind.wrap_u64]; omega
theorem wrapM (a : Nat) : IntKind.u64.wrap (a : Int) = ((a % 18446744073709551616 : Nat) : Int) := by rw [IntKind.wrap_u64]; omega
theorem mul64_fc (x y : Nat) (hx : x < 18446744073709551616) (hy : y < 18446744073709551616) : FC Try.prog 154 none [uv x, uv y] (fun _ r => r = .tu [uv ((x * y / 18446744073709551616 : Nat) : Int), uv ((x * y % 18446744073709551616 : Nat) : Int)]) := by
  obtain ⟨bd, bt, bw, hhi⟩ := Lib.mul64_hi x y hx hy
  have ba := Lib.half_mul_le (a := x / 4294967296) (b := y / 4294967296) (by omega) (by omega)
  have bb := Lib.half_mul_le (a := x / 4294967296) (b := y % 4294967296) (by omega) (by omega)
  have bc := Lib.half_mul_le (a := x % 4294967296) (b := y / 4294967296) (by omega) (by omega)
  have ba' : x / 4294967296 * (y / 4294967296) < 18446744073709551616 := by omega
  have bb' : x / 4294967296 * (y % 4294967296) < 18446744073709551616 := by omega
  have bc' : x % 4294967296 * (y / 4294967296) < 18446744073709551616 := by omega
  have bh1 : x / 4294967296 * (y / 4294967296) + (x / 4294967296 * (y % 4294967296) + x % 4294967296 * (y % 4294967296) / 4294967296) / 4294967296 < 18446744073709551616 := by omega
  have bh : x / 4294967296 * (y / 4294967296) + (x / 4294967296 * (y % 4294967296) + x % 4294967296 * (y % 4294967296) / 4294967296) / 4294967296 + ((x / 4294967296 * (y % 4294967296) + x % 4294967296 * (y % 4294967296) / 4294967296) % 4294967296 + x % 4294967296 * (y / 4294967296)) / 4294967296 < 18446744073709551616 := by omega
  refine fc_mul64 (by simp +arith) ?_
  unfold C_mul64
  simp (maxSteps := 1000000) (disch := omega) only [go_sem, eq_self, decide_true, decide_false, not_true_eq_false, not_false_eq_true, reduceIte, reduceCtorEq, Nat.reduceEqDiff, Nat.reduceAdd, Nat.reduceSub, Nat.reduceLeDiff]
  simp only [maskN x hx, maskN y hy, shr32, mulN, addN, wrapN _ bd, wrapN _ bb', wrapN _ bt, maskN _ bt, wrapN _ bc', wrapN _ bw, wrapN _ ba', wrapN _ bh1, wrapN _ bh, wrapM (x * y)]
  rw [hhi]
/-- How two numbers compare. -/
def cmpI (x y : Int) : Int := if x < y then -1 else if x = y then 0 else 1
theorem compareProducts_fc (a b c d : Int) (ha : 0 ≤ a ∧ a ≤ 9223372036854775807) (hb : 0 ≤ b ∧ b ≤ 9223372036854775807) (hc : 0 ≤ c ∧ c ≤ 9223372036854775807) (hd : 0 ≤ d ∧ d ≤ 9223372036854775807) : FC Try.prog 165 none [iv a, iv b, iv c, iv d] (fun _ r => r = iv (cmpI (a * b) (c * d))) := by
  obtain ⟨a, rfl⟩ := Int.eq_ofNat_of_zero_le ha.1
  obtain ⟨b, rfl⟩ := Int.eq_ofNat_of_zero_le hb.1
  obtain ⟨c, rfl⟩ := Int.eq_ofNat_of_zero_le hc.1
  obtain ⟨d, rfl⟩ := Int.eq_ofNat_of_zero_le hd.1
  have e1 := mul64_fc a b (by omega) (by omega)
  have e2 := mul64_fc c d (by omega) (by omega)
  rw [← Int.natCast_mul, ← Int.natCast_mul]
  refine fc_compareProducts (by simp +arith) ?_
  generalize a * b = x at *
  generalize c * d = y at *
  unfold C_compareProducts cmpI
  simp (maxSteps := 1000000) (disch := omega) only [go_sem, eq_self, decide_true, decide_false, not_true_eq_false, not_false_eq_true, reduceIte, reduceCtorEq, Nat.reduceEqDiff, Nat.reduceAdd, Nat.reduceSub, Nat.reduceLeDiff]
  refine CALL_det e1 (.inl rfl) ?_
  simp (maxSteps := 1000000) (disch := omega) only [go_sem, eq_self, decide_true, decide_false, not_true_eq_false, not_false_eq_true, reduceIte, reduceCtorEq, Nat.reduceEqDiff, Nat.reduceAdd, Nat.reduceSub, Nat.reduceLeDiff]
  refine CALL_det e2 (.inl rfl) ?_
  by_cases c1 : x / 18446744073709551616 < y / 18446744073709551616
  · rw [if_pos (by omega)]
    simp (maxSteps := 1000000) (disch := omega) only [go_sem, eq_self, decide_true, decide_false, not_true_eq_false, not_false_eq_true, reduceIte, reduceCtorEq, Nat.reduceEqDiff, Nat.reduceAdd, Nat.reduceSub, Nat.reduceLeDiff]
  by_cases c2 : x / 18446744073709551616 = y / 18446744073709551616
  · by_cases c3 : x % 18446744073709551616 < y % 18446744073709551616
    · rw [if_pos (by omega)]
      simp (maxSteps := 1000000) (disch := omega) only [go_sem, eq_self, decide_true, decide_false, not_true_eq_false, not_false_eq_true, reduceIte, reduceCtorEq, Nat.reduceEqDiff, Nat.reduceAdd, Nat.reduceSub, Nat.reduceLeDiff]
    by_cases c4 : x % 18446744073709551616 = y % 18446744073709551616
    · rw [if_neg (by omega), if_pos (by omega)]
      simp (maxSteps := 1000000) (disch := omega) only [go_sem, eq_self, decide_true, decide_false, not_true_eq_false, not_false_eq_true, reduceIte, reduceCtorEq, Nat.reduceEqDiff, Nat.reduceAdd, Nat.reduceSub, Nat.reduceLeDiff]
    · rw [if_neg (by omega), if_neg (by omega)]
      simp (maxSteps := 1000000) (disch := omega) only [go_sem, eq_self, decide_true, decide_false, not_true_eq_false, not_false_eq_true, reduceIte, reduceCtorEq, Nat.reduceEqDiff, Nat.reduceAdd, Nat.reduceSub, Nat.reduceLeDiff]
  · rw [if_neg (by omega), if_neg (by omega)]
    simp (maxSteps := 1000000) (disch := omega) only [go_sem, eq_self, decide_true, decide_false, not_true_eq_false, not_false_eq_true, reduceIte, reduceCtorEq, Nat.reduceEqDiff, Nat.reduceAdd, Nat.reduceSub, Nat.reduceLeDiff]
theorem compare_fc (n d m e : Int) (hn : 0 ≤ n ∧ n ≤ 9223372036854775807) (hd : 0 ≤ d ∧ d ≤ 9223372036854775807) (hm : 0 ≤ m ∧ m ≤ 9223372036854775807) (he : 0 ≤ e ∧ e ≤ 9223372036854775807) : FC Try.prog 120 none [.ag (frC (n, d)), .ag (frC (m, e))] (fun _ r => r = iv (cmpI (n * e) (m * d))) := by
  refine fc_compare (by simp +arith) ?_
  unfold C_compare
  simp (maxSteps := 1000000) (disch := omega) only [go_sem, eq_self, decide_true, decide_false, not_true_eq_false, not_false_eq_true, reduceIte, reduceCtorEq, Nat.reduceEqDiff, Nat.reduceAdd, Nat.reduceSub, Nat.reduceLeDiff]
  refine CALL_det (compareProducts_fc n e m d hn he hm hd) (.inl rfl) ?_
  simp (maxSteps := 1000000) (disch := omega) only [go_sem, eq_self, decide_true, decide_false, not_true_eq_false, not_false_eq_true, reduceIte, reduceCtorEq, Nat.reduceEqDiff, Nat.reduceAdd, Nat.reduceSub, Nat.reduceLeDiff]
/-- By how much a sample differs from the reconstruction; false: there is none. -/
def apSp (k : List Smp) (s : Smp) : (Int × Int) × Bool := if (recSp k s.a).2 = false ∨ s.q = 2 then ((0, 0), false) else ((max (s.v * (recSp k s.a).1.2 - (recSp k s.a).1.1) (0 - (s.v * (recSp k s.a).1.2 - (recSp k s.a).1.1)), (recSp k s.a).1.2), true)
theorem apart_fc (k : List Smp) (hg : Good k) (s : Smp) (hs : okSmp s) : FC Try.prog 119 none [smps false k, .ag (smpC s)] (fun _ r => r = .tu [.ag (frC (apSp k s).1), bv (apSp k s).2]) := by
  refine fc_apart (by simp +arith) ?_
  unfold okSmp at hs
  have hb := recSp_bd hg (at_ := s.a) (by omega)
  unfold C_apart apSp
  simp (maxSteps := 1000000) (disch := omega) only [go_sem, eq_self, decide_true, decide_false, not_true_eq_false, not_false_eq_true, reduceIte, reduceCtorEq, Nat.reduceEqDiff, Nat.reduceAdd, Nat.reduceSub, Nat.reduceLeDiff]
  refine CALL_det (rec_fc k s.a hg (by omega)) (.inl rfl) ?_
  generalize recSp k s.a = x at *
  obtain ⟨⟨n, d⟩, b⟩ := x
  cases b with
  | false =>
    rw [if_pos (.inl rfl)]
    simp (maxSteps := 1000000) (disch := omega) only [go_sem, eq_self, decide_true, decide_false, not_true_eq_false, not_false_eq_true, reduceIte, reduceCtorEq, Nat.reduceEqDiff, Nat.reduceAdd, Nat.reduceSub, Nat.reduceLeDiff]
  | true =>
    obtain ⟨h1, h2⟩ := hb rfl
    simp only at h1 h2
    by_cases c1 : s.q = 2
    · rw [if_pos (.inr c1)]
      simp (maxSteps := 1000000) (disch := omega) only [go_sem, eq_self, decide_true, decide_false, not_true_eq_false, not_false_eq_true, reduceIte, reduceCtorEq, Nat.reduceEqDiff, Nat.reduceAdd, Nat.reduceSub, Nat.reduceLeDiff]
    · rw [if_neg (by simp [c1])]
      have hm := mul_bd (a := s.v) (b := d) (A := 1000000) (B := 345686400000) (by omega) (by omega)
      simp (maxSteps := 1000000) (disch := omega) only [go_sem, eq_self, decide_true, decide_false, not_true_eq_false, not_false_eq_true, reduceIte, reduceCtorEq, Nat.reduceEqDiff, Nat.reduceAdd, Nat.reduceSub, Nat.reduceLeDiff]
theorem apSp_bd {k : List Smp} (hg : Good k) {s : Smp} (hs : okSmp s) (h : (apSp k s).2 = true) : (0 ≤ (apSp k s).1.1 ∧ (apSp k s).1.1 ≤ 3000000000000000000) ∧ 1 ≤ (apSp k s).1.2 ∧ (apSp k s).1.2 ≤ 345686400000 := by
  unfold okSmp at hs
  have hb := recSp_bd hg (at_ := s.a) (by omega)
  unfold apSp at h ⊢
  by_cases c1 : (recSp k s.a).2 = false ∨ s.q = 2
  · rw [if_pos c1] at h; cases h
  · rw [if_neg c1] at h ⊢
    have h1 : (recSp k s.a).2 = true := by
      cases hh : (recSp k s.a).2 with
      | false => exact absurd (.inl hh) c1
      | true => rfl
    obtain ⟨h2, h3⟩ := hb h1
    have hm := mul_bd (a := s.v) (b := (recSp k s.a).1.2) (A := 1000000) (B := 345686400000) (by omega) (by omega)
    simp only
    omega
def erStep (k : List Smp) (x : (Int × Int) × Int) (i : Int) (s : Smp) : (Int × Int) × Int :=
  if (apSp k s).2 = true ∧ (x.2 < 0 ∨ x.1.1 * (apSp k s).1.2 < (apSp k s).1.1 * x.1.2) then ((apSp k s).1, i) else x
def erGo (k : List Smp) : Int → (Int × Int) × Int → List Smp → (Int × Int) × Int
  | _, x, [] => x
  | i, x, s :: r => erGo k (i + 1) (erStep k x i s) r
def errSp (l : List Smp) (kept : List Int) : (Int × Int) × Int × Int :=
  if kptF l kept ≠ 0 then ((0, 0), 0, kptF l kept) else if (erGo (kep l kept) 0 ((0, 0), -1) l).2 < 0 then ((0, 0), 0, 8) else
  ((lowN (erGo (kep l kept) 0 ((0, 0), -1) l).1.1 (erGo (kep l kept) 0 ((0, 0), -1) l).1.2, lowD (erGo (kep l kept) 0 ((0, 0), -1) l).1.1 (erGo (kep l kept) 0 ((0, 0), -1) l).1.2), (erGo (kep l kept) 0 ((0, 0), -1) l).2, 0)
def erSt (l k : List Smp) (i : Int) (x : (Int × Int) × Int) : AS := ⟨tabV [(4, .one (.bx 4 0)), (8, smps true k), (9, .one (.bx 9 0)), (10, iv x.2), (26, smps false l), (27, iv l.length), (28, iv i)], tabO [(4, [.g (.int .i64 0), .g (.int .i64 0)]), (9, frC x.1)], tabO []⟩
theorem cmpI_gt (x y : Int) : (0 < cmpI x y) ↔ y < x := by
  unfold cmpI; split
  · omega
  · split <;> omega
theorem error_fc (l : List Smp) (hl : l.length ≤ 4611686018427387904) (kept : List Int) (hk : kept.length ≤ 4611686018427387904) (hgk : kptF l kept = 0 → Good (kep l kept)) : FC Try.prog 56 none [smps false l, ints false kept] (fun _ r => r = .tu [.ag (frC (errSp l kept).1), iv (errSp l kept).2.1, iv (errSp l kept).2.2]) := by
  refine fc_error (by simp +arith) ?_
  unfold C_error errSp
  simp (maxSteps := 1000000) (disch := omega) only [go_sem, eq_self, decide_true, decide_false, not_true_eq_false, not_false_eq_true, reduceIte, reduceCtorEq, Nat.reduceEqDiff, Nat.reduceAdd, Nat.reduceSub, Nat.reduceLeDiff]
  refine CALL_det (keptFault_fc l hl kept hk) (.inl rfl) ?_
  by_cases h1 : kptF l kept = 0
  · rw [if_neg (show ¬(kptF l kept ≠ 0) by omega), h1]
    obtain ⟨h2, h3, h4⟩ := kptF_ok h1
    have hg := good_of h2
    have hlen := hg.len
    have hg2 := hgk h1
    simp (maxSteps := 1000000) (disch := omega) only [go_sem, eq_self, decide_true, decide_false, not_true_eq_false, not_false_eq_true, reduceIte, reduceCtorEq, Nat.reduceEqDiff, Nat.reduceAdd, Nat.reduceSub, Nat.reduceLeDiff]
    refine CALL_det (keep_fc l hlen kept h3 (kfGo_ok _ kept none h4)) (.inl rfl) ?_
    generalize kep l kept = k at *
    simp (maxSteps := 1000000) (disch := omega) only [go_sem, eq_self, decide_true, decide_false, not_true_eq_false, not_false_eq_true, reduceIte, reduceCtorEq, Nat.reduceEqDiff, Nat.reduceAdd, Nat.reduceSub, Nat.reduceLeDiff]
    refine ex_loop2 (erSt l k) (fun i x => 0 ≤ i ∧ i ≤ l.length ∧ erGo k i x (l.drop i.toNat) = erGo k 0 ((0, 0), -1) l ∧ -1 ≤ x.2 ∧ x.2 < i ∧ (0 ≤ x.2 → (0 ≤ x.1.1 ∧ x.1.1 ≤ 3000000000000000000) ∧ 1 ≤ x.1.2 ∧ x.1.2 ≤ 345686400000)) (fun i _ => (l.length - i).toNat) 0 ((0, 0), -1) ⟨by omega, by omega, rfl, by simp, by simp, by simp⟩ rfl ?_
    rintro i ⟨⟨n, d⟩, at_⟩ ⟨g1, g2, g3, g4, g5, g6⟩
    simp only at g4 g5 g6
    unfold erSt
    by_cases hi : i < l.length
    · have e2 : (i + 1).toNat = i.toNat + 1 := by omega
      have em := getD_map_at smpC l i [] g1 hi
      have hs := hg.ok i.toNat (by omega)
      have hap := apSp_bd hg2 hs
      rw [drop_cons l i.toNat (by omega), ← e2, erGo] at g3
      unfold erStep at g3
      simp (maxSteps := 1000000) (disch := omega) only [go_sem, eq_self, decide_true, decide_false, not_true_eq_false, not_false_eq_true, reduceIte, reduceCtorEq, Nat.reduceEqDiff, Nat.reduceAdd, Nat.reduceSub, Nat.reduceLeDiff]
      refine CALL_det (apart_fc k hg2 _ hs) (.inl rfl) ?_
      generalize hx : apSp k (l.getD i.toNat default) = x at *
      obtain ⟨⟨fn, fd⟩, b⟩ := x
      cases b with
      | false =>
        rw [if_neg (by simp)] at g3
        simp (maxSteps := 1000000) (disch := omega) only [go_sem, eq_self, decide_true, decide_false, not_true_eq_false, not_false_eq_true, reduceIte, reduceCtorEq, Nat.reduceEqDiff, Nat.reduceAdd, Nat.reduceSub, Nat.reduceLeDiff]
        exact ⟨i + 1, ((n, d), at_), rfl, ⟨by omega, by omega, g3, by omega, by simp only; omega, g6⟩, by omega⟩
      | true =>
        have hap2 := hap rfl
        simp only at hap2
        by_cases c1 : at_ < 0
        · rw [if_pos ⟨rfl, .inl c1⟩] at g3
          simp (maxSteps := 1000000) (disch := omega) only [go_sem, eq_self, decide_true, decide_false, not_true_eq_false, not_false_eq_true, reduceIte, reduceCtorEq, Nat.reduceEqDiff, Nat.reduceAdd, Nat.reduceSub, Nat.reduceLeDiff]
          exact ⟨i + 1, ((fn, fd), i), rfl, ⟨by omega, by omega, g3, by simp only; omega, by simp only; omega, fun _ => hap2⟩, by omega⟩
        · have g7 := g6 (by omega)
          simp (maxSteps := 1000000) (disch := omega) only [go_sem, eq_self, decide_true, decide_false, not_true_eq_false, not_false_eq_true, reduceIte, reduceCtorEq, Nat.reduceEqDiff, Nat.reduceAdd, Nat.reduceSub, Nat.reduceLeDiff]
          refine CALL_det (compare_fc fn fd n d (by omega) (by omega) (by omega) (by omega)) (.inl rfl) ?_
          have hc := cmpI_gt (fn * d) (n * fd)
          by_cases c2 : n * fd < fn * d
          · rw [if_pos ⟨rfl, .inr c2⟩] at g3
            have c3 := hc.2 c2
            simp (maxSteps := 1000000) (disch := omega) only [go_sem, eq_self, decide_true, decide_false, not_true_eq_false, not_false_eq_true, reduceIte, reduceCtorEq, Nat.reduceEqDiff, Nat.reduceAdd, Nat.reduceSub, Nat.reduceLeDiff]
            exact ⟨i + 1, ((fn, fd), i), rfl, ⟨by omega, by omega, g3, by simp only; omega, by simp only; omega, fun _ => hap2⟩, by omega⟩
          · rw [if_neg (by rintro ⟨_, h | h⟩; exact c1 h; exact c2 h)] at g3
            have c3 : ¬0 < cmpI (fn * d) (n * fd) := fun h => c2 (hc.1 h)
            simp (maxSteps := 1000000) (disch := omega) only [go_sem, eq_self, decide_true, decide_false, not_true_eq_false, not_false_eq_true, reduceIte, reduceCtorEq, Nat.reduceEqDiff, Nat.reduceAdd, Nat.reduceSub, Nat.reduceLeDiff]
            exact ⟨i + 1, ((n, d), at_), rfl, ⟨by omega, by omega, g3, by omega, by simp only; omega, g6⟩, by omega⟩
    · rw [List.drop_eq_nil_of_le (by omega), erGo] at g3
      rw [← g3]
      by_cases c1 : at_ < 0
      · rw [if_pos c1]
        simp (maxSteps := 1000000) (disch := omega) only [go_sem, eq_self, decide_true, decide_false, not_true_eq_false, not_false_eq_true, reduceIte, reduceCtorEq, Nat.reduceEqDiff, Nat.reduceAdd, Nat.reduceSub, Nat.reduceLeDiff]
      · have g7 := g6 (by omega)
        rw [if_neg c1]
        simp (maxSteps := 1000000) (disch := omega) only [go_sem, eq_self, decide_true, decide_false, not_true_eq_false, not_false_eq_true, reduceIte, reduceCtorEq, Nat.reduceEqDiff, Nat.reduceAdd, Nat.reduceSub, Nat.reduceLeDiff]
        refine CALL_det (fraction_fc n d (by omega) (by omega) (by omega)) (.inl rfl) ?_
        simp (maxSteps := 1000000) (disch := omega) only [go_sem, eq_self, decide_true, decide_false, not_true_eq_false, not_false_eq_true, reduceIte, reduceCtorEq, Nat.reduceEqDiff, Nat.reduceAdd, Nat.reduceSub, Nat.reduceLeDiff]
  · rw [if_pos (show kptF l kept ≠ 0 by omega)]
    simp (maxSteps := 1000000) (disch := omega) only [go_sem, eq_self, decide_true, decide_false, not_true_eq_false, not_false_eq_true, reduceIte, reduceCtorEq, Nat.reduceEqDiff, Nat.reduceAdd, Nat.reduceSub, Nat.reduceLeDiff]
end Go.Proofs.Ytggbcgldnjmobaa

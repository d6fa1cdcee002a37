/-
  Crossings of a limit: Crossings and the reference's answer are one.
-/
import Derived.Test.YtkecmbgjhamhiaaVal
import Derived.Test.YtkecmbgjhamhiaaGenB
namespace Go.Proofs.Ytkecmbgjhamhiaa
open Go Go.Ai
set_option linter.unusedSimpArgs false
set_option linter.unusedVariables false
set_option maxHeartbeats 4000000
def A_alimit : List Ann := [⟨(some ⟨[0], [0], []⟩), [], [], [], []⟩, ⟨(some ⟨[2], [0], []⟩), [], [], [], []⟩]
def C_alimit : AC := (.seq (.reg false [⟨(some 2), none, .mv (.v (.int .i64 (0)))⟩] (some ⟨[0], [0], []⟩))
  (.seq (.reg false [⟨(some 3), none, .mv (.t 0)⟩, ⟨(some 4), none, .mv (.t 0)⟩, ⟨(some 5), none, .bslice 1 2 [(.v (.int .i64 (-1000001))), (.v (.int .i64 (1000001)))]⟩, ⟨(some 6), none, .callx (.f 19) [(.t 4), (.t 5)]⟩, ⟨(some 7), none, .bslice 1 8 [(.v (.int .i64 (0))), (.v (.int .i64 (1))), (.v (.int .i64 (3))), (.v (.int .i64 (5))), (.v (.int .i64 (8))), (.v (.int .i64 (-2))), (.v (.int .i64 (10))), (.t 6)]⟩, ⟨(some 8), none, .callx (.f 19) [(.t 3), (.t 7)]⟩, ⟨(some 2), none, .mv (.t 8)⟩] (some ⟨[2], [0], []⟩))
  .ret))
theorem c_alimit : compileCode Try.prog Try.f48.ntmps (Try.f48.body.getD .skip) A_alimit = some (C_alimit, []) := by kernel_rfl
theorem r_alimit : compileRes Try.prog Try.f48.results.toList = some [.t 2] := by kernel_rfl
theorem b_alimit : Try.f48.body = some (Try.f48.body.getD .skip) := by kernel_rfl
theorem n_alimit : (Try.f48.name == "runtime.NumGoroutine") = false := by kernel_rfl
theorem fc_alimit {xt : Option (List Cel)} {args : List Val} {R : List Cel → Val → Prop} (hn : (if xt.isSome then 1 else 0) + args.length ≤ Try.f48.ntmps) (h : ex Try.prog C_alimit [] (fpost xt [.t 2] R) (initSt xt args)) : FC Try.prog 48 xt args R :=
  fc_of_awp Try.func48 b_alimit n_alimit c_alimit r_alimit (of_decide_eq_true (by kernel_rfl)) hn h

def A_side : List Ann := [⟨(some ⟨[1,2], [2], []⟩), [], [], [], []⟩, ⟨(some ⟨[1,2,5], [2], []⟩), [], [], [], []⟩, ⟨(some ⟨[4], [], []⟩), [], [], [], []⟩, ⟨(some ⟨[10], [], []⟩), [], [], [], []⟩, ⟨(some ⟨[4], [], []⟩), [], [], [], []⟩, ⟨(some ⟨[4], [], []⟩), [], [], [], []⟩]
def C_side : AC := (.seq (.reg false [⟨(some 2), none, .box (.t 0)⟩, ⟨(some 4), none, .mv (.v (.int .i64 (0)))⟩] (some ⟨[1,2], [2], []⟩))
  (.seq (.block 0 (.seq (.reg false [⟨(some 6), none, .fadr 1 (.t 2)⟩, ⟨(some 7), none, .load false 1 (.t 6)⟩, ⟨(some 8), none, .mv (.t 1)⟩, ⟨(some 9), none, .bin .lss (.t 7) (.t 8)⟩, ⟨(some 5), none, .mv (.t 9)⟩] (some ⟨[1,2,5], [2], []⟩))
  (.cond (.t 5)
  (.seq (.reg false [⟨(some 4), none, .mv (.v (.int .i64 (-1)))⟩] (some ⟨[4], [], []⟩))
  .ret)
  (.seq (.reg false [⟨(some 11), none, .fadr 1 (.t 2)⟩, ⟨(some 12), none, .load false 1 (.t 11)⟩, ⟨(some 13), none, .mv (.t 1)⟩, ⟨(some 14), none, .bin .gtr (.t 12) (.t 13)⟩, ⟨(some 10), none, .mv (.t 14)⟩] (some ⟨[10], [], []⟩))
  (.cond (.t 10)
  (.seq (.reg false [⟨(some 4), none, .mv (.v (.int .i64 (1)))⟩] (some ⟨[4], [], []⟩))
  .ret)
  .skip)))))
  (.seq (.reg false [⟨(some 4), none, .mv (.v (.int .i64 (0)))⟩] (some ⟨[4], [], []⟩))
  .ret)))
theorem c_side : compileCode Try.prog Try.f103.ntmps (Try.f103.body.getD .skip) A_side = some (C_side, []) := by kernel_rfl
theorem r_side : compileRes Try.prog Try.f103.results.toList = some [.t 4] := by kernel_rfl
theorem b_side : Try.f103.body = some (Try.f103.body.getD .skip) := by kernel_rfl
theorem n_side : (Try.f103.name == "runtime.NumGoroutine") = false := by kernel_rfl
theorem fc_side {xt : Option (List Cel)} {args : List Val} {R : List Cel → Val → Prop} (hn : (if xt.isSome then 1 else 0) + args.length ≤ Try.f103.ntmps) (h : ex Try.prog C_side [] (fpost xt [.t 4] R) (initSt xt args)) : FC Try.prog 103 xt args R :=
  fc_of_awp Try.func103 b_side n_side c_side r_side (of_decide_eq_true (by kernel_rfl)) hn h

def A_cmpInt : List Ann := [⟨(some ⟨[0,1], [], []⟩), [], [], [], []⟩, ⟨(some ⟨[0,1,5], [], []⟩), [], [], [], []⟩, ⟨(some ⟨[0,1,5,6], [], []⟩), [], [], [], []⟩, ⟨(some ⟨[0,1,6,11], [], []⟩), [], [], [], []⟩, ⟨(some ⟨[12], [], []⟩), [], [], [], []⟩, ⟨(some ⟨[4], [], []⟩), [], [], [], []⟩, ⟨(some ⟨[4], [], []⟩), [], [], [], []⟩, ⟨(some ⟨[0,1,13], [], []⟩), [], [], [], []⟩, ⟨(some ⟨[4], [], []⟩), [], [], [], []⟩, ⟨(some ⟨[0,1,16], [], []⟩), [], [], [], []⟩, ⟨(some ⟨[4], [], []⟩), [], [], [], []⟩, ⟨(some ⟨[19], [], []⟩), [], [], [], []⟩, ⟨(some ⟨[4], [], []⟩), [], [], [], []⟩, ⟨(some ⟨[4], [], []⟩), [], [], [], []⟩]
def C_cmpInt : AC := (.seq (.reg false [⟨(some 4), none, .mv (.v (.int .i64 (0)))⟩] (some ⟨[0,1], [], []⟩))
  (.seq (.reg false [⟨(some 7), none, .mv (.t 0)⟩, ⟨(some 8), none, .call (.f 141) [(.t 7)]⟩, ⟨(some 5), none, .mv (.t 8)⟩] (some ⟨[0,1,5], [], []⟩))
  (.seq (.reg false [⟨(some 9), none, .mv (.t 1)⟩, ⟨(some 10), none, .call (.f 141) [(.t 9)]⟩, ⟨(some 6), none, .mv (.t 10)⟩] (some ⟨[0,1,5,6], [], []⟩))
  (.seq (.seq (.reg false [⟨(some 11), none, .mv (.t 5)⟩] (some ⟨[0,1,6,11], [], []⟩))
  (.cond (.t 11)
  (.seq (.seq (.reg false [⟨(some 12), none, .mv (.t 6)⟩] (some ⟨[12], [], []⟩))
  (.cond (.t 12)
  (.seq (.reg false [⟨(some 4), none, .mv (.v (.int .i64 (0)))⟩] (some ⟨[4], [], []⟩))
  .ret)
  .skip))
  (.seq (.reg false [⟨(some 4), none, .mv (.v (.int .i64 (-1)))⟩] (some ⟨[4], [], []⟩))
  .ret))
  .skip))
  (.seq (.seq (.reg false [⟨(some 13), none, .mv (.t 6)⟩] (some ⟨[0,1,13], [], []⟩))
  (.cond (.t 13)
  (.seq (.reg false [⟨(some 4), none, .mv (.v (.int .i64 (1)))⟩] (some ⟨[4], [], []⟩))
  .ret)
  .skip))
  (.seq (.seq (.reg false [⟨(some 14), none, .mv (.t 0)⟩, ⟨(some 15), none, .mv (.t 1)⟩, ⟨(some 16), none, .bin .lss (.t 14) (.t 15)⟩] (some ⟨[0,1,16], [], []⟩))
  (.cond (.t 16)
  (.seq (.reg false [⟨(some 4), none, .mv (.v (.int .i64 (-1)))⟩] (some ⟨[4], [], []⟩))
  .ret)
  .skip))
  (.seq (.seq (.reg false [⟨(some 17), none, .mv (.t 0)⟩, ⟨(some 18), none, .mv (.t 1)⟩, ⟨(some 19), none, .bin .gtr (.t 17) (.t 18)⟩] (some ⟨[19], [], []⟩))
  (.cond (.t 19)
  (.seq (.reg false [⟨(some 4), none, .mv (.v (.int .i64 (1)))⟩] (some ⟨[4], [], []⟩))
  .ret)
  .skip))
  (.seq (.reg false [⟨(some 4), none, .mv (.v (.int .i64 (0)))⟩] (some ⟨[4], [], []⟩))
  .ret))))))))
theorem c_cmpInt : compileCode Try.prog Try.f109.ntmps (Try.f109.body.getD .skip) A_cmpInt = some (C_cmpInt, []) := by kernel_rfl
theorem r_cmpInt : compileRes Try.prog Try.f109.results.toList = some [.t 4] := by kernel_rfl
theorem b_cmpInt : Try.f109.body = some (Try.f109.body.getD .skip) := by kernel_rfl
theorem n_cmpInt : (Try.f109.name == "runtime.NumGoroutine") = false := by kernel_rfl
theorem fc_cmpInt {xt : Option (List Cel)} {args : List Val} {R : List Cel → Val → Prop} (hn : (if xt.isSome then 1 else 0) + args.length ≤ Try.f109.ntmps) (h : ex Try.prog C_cmpInt [] (fpost xt [.t 4] R) (initSt xt args)) : FC Try.prog 109 xt args R :=
  fc_of_awp Try.func109 b_cmpInt n_cmpInt c_cmpInt r_cmpInt (of_decide_eq_true (by kernel_rfl)) hn h

def A_isNaN : List Ann := [⟨(some ⟨[0], [], []⟩), [], [], [], []⟩, ⟨(some ⟨[2], [], []⟩), [], [], [], []⟩]
def C_isNaN : AC := (.seq (.reg false [⟨(some 2), none, .mv (.v (.bool false))⟩] (some ⟨[0], [], []⟩))
  (.seq (.reg false [⟨(some 3), none, .mv (.t 0)⟩, ⟨(some 4), none, .mv (.t 0)⟩, ⟨(some 5), none, .bin .neq (.t 3) (.t 4)⟩, ⟨(some 2), none, .mv (.t 5)⟩] (some ⟨[2], [], []⟩))
  .ret))
theorem c_isNaN : compileCode Try.prog Try.f141.ntmps (Try.f141.body.getD .skip) A_isNaN = some (C_isNaN, []) := by kernel_rfl
theorem r_isNaN : compileRes Try.prog Try.f141.results.toList = some [.t 2] := by kernel_rfl
theorem b_isNaN : Try.f141.body = some (Try.f141.body.getD .skip) := by kernel_rfl
theorem n_isNaN : (Try.f141.name == "runtime.NumGoroutine") = false := by kernel_rfl
theorem fc_isNaN {xt : Option (List Cel)} {args : List Val} {R : List Cel → Val → Prop} (hn : (if xt.isSome then 1 else 0) + args.length ≤ Try.f141.ntmps) (h : ex Try.prog C_isNaN [] (fpost xt [.t 2] R) (initSt xt args)) : FC Try.prog 141 xt args R :=
  fc_of_awp Try.func141 b_isNaN n_isNaN c_isNaN r_isNaN (of_decide_eq_true (by kernel_rfl)) hn h

def A_far : List Ann := [⟨(some ⟨[0,1], [], []⟩), [], [], [], []⟩, ⟨(some ⟨[4], [], []⟩), [], [], [], []⟩]
def C_far : AC := (.seq (.reg false [⟨(some 4), none, .mv (.v (.int .i64 (0)))⟩] (some ⟨[0,1], [], []⟩))
  (.seq (.reg false [⟨(some 5), none, .mv (.t 0)⟩, ⟨(some 6), none, .mv (.t 1)⟩, ⟨(some 7), none, .bin .sub (.t 5) (.t 6)⟩, ⟨(some 8), none, .mv (.t 1)⟩, ⟨(some 9), none, .mv (.t 0)⟩, ⟨(some 10), none, .bin .sub (.t 8) (.t 9)⟩, ⟨(some 11), none, .mnx true (.t 7) (.t 10)⟩, ⟨(some 4), none, .mv (.t 11)⟩] (some ⟨[4], [], []⟩))
  .ret))
theorem c_far : compileCode Try.prog Try.f96.ntmps (Try.f96.body.getD .skip) A_far = some (C_far, []) := by kernel_rfl
theorem r_far : compileRes Try.prog Try.f96.results.toList = some [.t 4] := by kernel_rfl
theorem b_far : Try.f96.body = some (Try.f96.body.getD .skip) := by kernel_rfl
theorem n_far : (Try.f96.name == "runtime.NumGoroutine") = false := by kernel_rfl
theorem fc_far {xt : Option (List Cel)} {args : List Val} {R : List Cel → Val → Prop} (hn : (if xt.isSome then 1 else 0) + args.length ≤ Try.f96.ntmps) (h : ex Try.prog C_far [] (fpost xt [.t 4] R) (initSt xt args)) : FC Try.prog 96 xt args R :=
  fc_of_awp Try.func96 b_far n_far c_far r_far (of_decide_eq_true (by kernel_rfl)) hn h

def A_crossed : List Ann := [⟨(some ⟨[0,1,2,3,8], [8], []⟩), [], [], [], []⟩, ⟨(some ⟨[0,1,2,3,8,15], [8], []⟩), [], [], [], []⟩, ⟨(some ⟨[8], [8], []⟩), [], [], [], []⟩, ⟨(some ⟨[3,8,9,10], [8,9,10], []⟩), [], [(2, none), (3, none), (6, none), (7, none)], [], []⟩, ⟨(some ⟨[3,8,9,10,11], [8,9,10], []⟩), [], [], [], []⟩, ⟨(some ⟨[3,8,9,10,11,37], [8,9,10], []⟩), [], [], [], []⟩, ⟨(some ⟨[8], [8], []⟩), [], [], [], []⟩, ⟨(some ⟨[8], [8], []⟩), [], [], [], []⟩]
def C_crossed : AC := (.seq (.reg false [⟨(some 8), none, .alloc [(.int .i64 (0)), (.int .i64 (0))]⟩] (some ⟨[0,1,2,3,8], [8], []⟩))
  (.seq (.seq (.reg false [⟨(some 12), none, .mv (.t 2)⟩, ⟨(some 13), none, .mv (.t 1)⟩, ⟨(some 14), none, .bin .add (.t 13) (.v (.int .i64 (1)))⟩, ⟨(some 15), none, .bin .gtr (.t 12) (.t 14)⟩] (some ⟨[0,1,2,3,8,15], [8], []⟩))
  (.cond (.t 15)
  (.seq (.reg false [⟨(some 16), none, .mv (.t 0)⟩, ⟨(some 17), none, .mv (.t 1)⟩, ⟨(some 18), none, .bin .add (.t 17) (.v (.int .i64 (1)))⟩, ⟨(some 19), none, .iadr 3 (.t 16) (.t 18)⟩, ⟨(some 20), none, .fadr 0 (.t 19)⟩, ⟨(some 21), none, .load false 1 (.t 20)⟩, ⟨(some 22), none, .build [(.int .i64 (0)), (.int .i64 (0))] [(0, 1, (.t 21)), (1, 1, (.v (.int .i64 (1))))]⟩, ⟨none, none, .store 2 (.t 8) (.t 22)⟩] (some ⟨[8], [8], []⟩))
  .ret)
  .skip))
  (.seq (.reg true [⟨(some 23), none, .mv (.t 0)⟩, ⟨(some 24), none, .mv (.t 1)⟩, ⟨none, none, .chk (.t 23) none⟩, ⟨(some 25), none, .iadr 3 (.t 23) (.t 24)⟩, ⟨none, none, .chk (.t 25) none⟩, ⟨(some 26), none, .load true 3 (.t 25)⟩, ⟨(some 27), none, .mv (.t 0)⟩, ⟨(some 28), none, .mv (.t 2)⟩, ⟨none, none, .chk (.t 27) none⟩, ⟨(some 29), none, .iadr 3 (.t 27) (.t 28)⟩, ⟨none, none, .chk (.t 29) none⟩, ⟨(some 30), none, .load true 3 (.t 29)⟩, ⟨(some 9), none, .alloc [(.int .i64 (0)), (.int .i64 (0)), (.int .i64 (0))]⟩, ⟨(some 10), none, .alloc [(.int .i64 (0)), (.int .i64 (0)), (.int .i64 (0))]⟩, ⟨none, none, .store 3 (.t 9) (.t 26)⟩, ⟨none, none, .store 3 (.t 10) (.t 30)⟩] (some ⟨[3,8,9,10], [8,9,10], []⟩))
  (.seq (.reg false [⟨(some 31), none, .fadr 1 (.t 10)⟩, ⟨(some 32), none, .load false 1 (.t 31)⟩, ⟨(some 33), none, .fadr 1 (.t 9)⟩, ⟨(some 34), none, .load false 1 (.t 33)⟩, ⟨(some 35), none, .bin .sub (.t 32) (.t 34)⟩, ⟨(some 11), none, .mv (.t 35)⟩] (some ⟨[3,8,9,10,11], [8,9,10], []⟩))
  (.seq (.seq (.reg false [⟨(some 36), none, .mv (.t 11)⟩, ⟨(some 37), none, .bin .lss (.t 36) (.v (.int .i64 (0)))⟩] (some ⟨[3,8,9,10,11,37], [8,9,10], []⟩))
  (.cond (.t 37)
  (.seq (.reg false [⟨(some 38), none, .fadr 0 (.t 9)⟩, ⟨(some 39), none, .load false 1 (.t 38)⟩, ⟨(some 40), none, .mv (.t 11)⟩, ⟨(some 41), none, .un .neg (.t 40)⟩, ⟨(some 42), none, .bin .mul (.t 39) (.t 41)⟩, ⟨(some 43), none, .fadr 1 (.t 9)⟩, ⟨(some 44), none, .load false 1 (.t 43)⟩, ⟨(some 45), none, .mv (.t 3)⟩, ⟨(some 46), none, .bin .sub (.t 44) (.t 45)⟩, ⟨(some 47), none, .fadr 0 (.t 10)⟩, ⟨(some 48), none, .load false 1 (.t 47)⟩, ⟨(some 49), none, .fadr 0 (.t 9)⟩, ⟨(some 50), none, .load false 1 (.t 49)⟩, ⟨(some 51), none, .bin .sub (.t 48) (.t 50)⟩, ⟨(some 52), none, .bin .mul (.t 46) (.t 51)⟩, ⟨(some 53), none, .bin .add (.t 42) (.t 52)⟩, ⟨(some 54), none, .mv (.t 11)⟩, ⟨(some 55), none, .un .neg (.t 54)⟩, ⟨(some 56), none, .build [(.int .i64 (0)), (.int .i64 (0))] [(0, 1, (.t 53)), (1, 1, (.t 55))]⟩, ⟨none, none, .store 2 (.t 8) (.t 56)⟩] (some ⟨[8], [8], []⟩))
  .ret)
  .skip))
  (.seq (.reg false [⟨(some 57), none, .fadr 0 (.t 9)⟩, ⟨(some 58), none, .load false 1 (.t 57)⟩, ⟨(some 59), none, .mv (.t 11)⟩, ⟨(some 60), none, .bin .mul (.t 58) (.t 59)⟩, ⟨(some 61), none, .mv (.t 3)⟩, ⟨(some 62), none, .fadr 1 (.t 9)⟩, ⟨(some 63), none, .load false 1 (.t 62)⟩, ⟨(some 64), none, .bin .sub (.t 61) (.t 63)⟩, ⟨(some 65), none, .fadr 0 (.t 10)⟩, ⟨(some 66), none, .load false 1 (.t 65)⟩, ⟨(some 67), none, .fadr 0 (.t 9)⟩, ⟨(some 68), none, .load false 1 (.t 67)⟩, ⟨(some 69), none, .bin .sub (.t 66) (.t 68)⟩, ⟨(some 70), none, .bin .mul (.t 64) (.t 69)⟩, ⟨(some 71), none, .bin .add (.t 60) (.t 70)⟩, ⟨(some 72), none, .mv (.t 11)⟩, ⟨(some 73), none, .build [(.int .i64 (0)), (.int .i64 (0))] [(0, 1, (.t 71)), (1, 1, (.t 72))]⟩, ⟨none, none, .store 2 (.t 8) (.t 73)⟩] (some ⟨[8], [8], []⟩))
  .ret))))))
theorem c_crossed : compileCode Try.prog Try.f104.ntmps (Try.f104.body.getD .skip) A_crossed = some (C_crossed, []) := by kernel_rfl
theorem r_crossed : compileRes Try.prog Try.f104.results.toList = some [.cell 8 true 2] := by kernel_rfl
theorem b_crossed : Try.f104.body = some (Try.f104.body.getD .skip) := by kernel_rfl
theorem n_crossed : (Try.f104.name == "runtime.NumGoroutine") = false := by kernel_rfl
theorem fc_crossed {xt : Option (List Cel)} {args : List Val} {R : List Cel → Val → Prop} (hn : (if xt.isSome then 1 else 0) + args.length ≤ Try.f104.ntmps) (h : ex Try.prog C_crossed [] (fpost xt [.cell 8 true 2] R) (initSt xt args)) : FC Try.prog 104 xt args R :=
  fc_of_awp Try.func104 b_crossed n_crossed c_crossed r_crossed (of_decide_eq_true (by kernel_rfl)) hn h

def A_crossings : List Ann := [⟨(some ⟨[0,2,4], [4], []⟩), [], [], [], []⟩, ⟨(some ⟨[0,2,4,8], [4], []⟩), [], [], [], []⟩, ⟨(some ⟨[0,2,4,8,19], [4], []⟩), [], [], [], []⟩, ⟨(some ⟨[6,7], [], []⟩), [], [], [(6, 2)], []⟩, ⟨(some ⟨[0,2,4,22], [4], []⟩), [], [], [], []⟩, ⟨(some ⟨[6,7], [], []⟩), [], [], [(6, 2)], []⟩, ⟨(some ⟨[0,2,4,9], [4], []⟩), [(9, 37, 2)], [], [], []⟩, ⟨(some ⟨[0,2,4,9,10], [4], [9]⟩), [], [], [], []⟩, ⟨(some ⟨[0,2,4,9,10,23,24,25], [4], [9]⟩), [], [], [], []⟩, ⟨(some ⟨[0,2,4,9,10,23,24,25,26], [4], [9]⟩), [], [], [], []⟩, ⟨(some ⟨[0,2,4,9,10,11,12,23,24,25], [4,12], [9]⟩), [], [], [], []⟩, ⟨(some ⟨[0,2,4,9,10,11,12,13,23,24,25], [4,12], [9]⟩), [], [], [], []⟩, ⟨(some ⟨[0,2,4,9,10,11,13,23,24,25,33], [4], [9]⟩), [], [], [], []⟩, ⟨(some ⟨[0,2,4,9,10,23,24,25], [4], [9]⟩), [], [], [], []⟩, ⟨(some ⟨[0,2,4,9,10,11,13,23,24,25,37], [4], [9]⟩), [], [], [], []⟩, ⟨(some ⟨[0,2,4,9,10,11,23,24,25,51], [4], [9]⟩), [], [], [], []⟩, ⟨(some ⟨[0,2,4,9,11,14,23,24,25], [4,14], [9]⟩), [], [], [], []⟩, ⟨(some ⟨[0,2,4,9,11,14,23,24,25,74], [4,14], [9]⟩), [], [], [], []⟩, ⟨(some ⟨[0,2,4,9,11,23,24,25], [4], [9]⟩), [], [], [], []⟩, ⟨(some ⟨[0,2,4,9,10,23,24,25], [4], [9]⟩), [], [], [], []⟩, ⟨(some ⟨[0,2,4,9,10,23,24,25], [4], [9]⟩), [], [], [], []⟩, ⟨(some ⟨[6,7], [], []⟩), [], [], [], []⟩]
def C_crossings : AC := (.seq (.reg false [⟨(some 4), none, .box (.t 1)⟩, ⟨(some 6), none, .mv (.v (.slice none 0 0))⟩, ⟨(some 7), none, .mv (.v (.int .i64 (0)))⟩] (some ⟨[0,2,4], [4], []⟩))
  (.seq (.seq (.reg false [⟨(some 15), none, .mv (.t 0)⟩, ⟨(some 16), none, .load true 2 (.t 4)⟩, ⟨(some 17), none, .call (.f 88) [(.t 15), (.t 16)]⟩, ⟨(some 8), none, .mv (.t 17)⟩] (some ⟨[0,2,4,8], [4], []⟩))
  (.seq (.reg false [⟨(some 18), none, .mv (.t 8)⟩, ⟨(some 19), none, .bin .neq (.t 18) (.v (.int .i64 (0)))⟩] (some ⟨[0,2,4,8,19], [4], []⟩))
  (.cond (.t 19)
  (.seq (.seq (.reg false [⟨(some 20), none, .mv (.t 8)⟩, ⟨(some 6), none, .mv (.v (.slice none 0 0))⟩, ⟨(some 7), none, .mv (.t 20)⟩] (some ⟨[6,7], [], []⟩))
  (.ty 6 2))
  .ret)
  .skip)))
  (.seq (.seq (.reg false [⟨(some 21), none, .mv (.t 2)⟩, ⟨(some 22), none, .call (.f 93) [(.t 21), (.v (.int .i64 (-1000000))), (.v (.int .i64 (1000000)))]⟩] (some ⟨[0,2,4,22], [4], []⟩))
  (.cond (.t 22)
  (.seq (.seq (.reg false [⟨(some 6), none, .mv (.v (.slice none 0 0))⟩, ⟨(some 7), none, .mv (.v (.int .i64 (1)))⟩] (some ⟨[6,7], [], []⟩))
  (.ty 6 2))
  .ret)
  .skip))
  (.seq (.seq (.reg false [⟨(some 9), none, .mv (.v (.slice none 0 0))⟩] (some ⟨[0,2,4,9], [4], []⟩))
  (.own 9 37 2))
  (.seq (.reg false [⟨(some 10), none, .mv (.v (.int .i64 (-1)))⟩] (some ⟨[0,2,4,9,10], [4], [9]⟩))
  (.seq (.seq (.reg false [⟨(some 23), none, .mv (.t 0)⟩, ⟨(some 24), none, .len (.t 23)⟩, ⟨(some 25), none, .mv (.v (.int .i64 (0)))⟩] (some ⟨[0,2,4,9,10,23,24,25], [4], [9]⟩))
  (.block 0 (.loop (.seq (.reg false [⟨(some 26), none, .bin .lss (.t 25) (.t 24)⟩] (some ⟨[0,2,4,9,10,23,24,25,26], [4], [9]⟩))
  (.seq (.cond (.t 26)
  .skip
  (.exit 0))
  (.seq (.block 1 (.seq (.reg false [⟨(some 27), none, .mv (.t 25)⟩, ⟨(some 28), none, .iadr 3 (.t 23) (.t 25)⟩, ⟨(some 29), none, .load true 3 (.t 28)⟩, ⟨(some 12), none, .alloc [(.int .i64 (0)), (.int .i64 (0)), (.int .i64 (0))]⟩, ⟨(some 11), none, .mv (.t 27)⟩, ⟨none, none, .store 3 (.t 12) (.t 29)⟩] (some ⟨[0,2,4,9,10,11,12,23,24,25], [4,12], [9]⟩))
  (.seq (.reg false [⟨(some 30), none, .load true 3 (.t 12)⟩, ⟨(some 31), none, .mv (.t 2)⟩, ⟨(some 32), none, .call (.f 103) [(.t 30), (.t 31)]⟩, ⟨(some 13), none, .mv (.t 32)⟩] (some ⟨[0,2,4,9,10,11,12,13,23,24,25], [4,12], [9]⟩))
  (.block 2 (.seq (.reg false [⟨(some 34), none, .fadr 2 (.t 12)⟩, ⟨(some 35), none, .load false 1 (.t 34)⟩, ⟨(some 36), none, .bin .eql (.t 35) (.v (.int .i64 (2)))⟩, ⟨(some 33), none, .mv (.t 36)⟩] (some ⟨[0,2,4,9,10,11,13,23,24,25,33], [4], [9]⟩))
  (.cond (.t 33)
  (.reg false [⟨(some 10), none, .mv (.v (.int .i64 (-1)))⟩] (some ⟨[0,2,4,9,10,23,24,25], [4], [9]⟩))
  (.seq (.reg false [⟨(some 38), none, .mv (.t 13)⟩, ⟨(some 39), none, .bin .neq (.t 38) (.v (.int .i64 (0)))⟩, ⟨(some 37), none, .mv (.t 39)⟩] (some ⟨[0,2,4,9,10,11,13,23,24,25,37], [4], [9]⟩))
  (.cond (.t 37)
  (.seq (.seq (.reg false [⟨(some 40), none, .mv (.t 10)⟩, ⟨(some 41), none, .bin .geq (.t 40) (.v (.int .i64 (0)))⟩, ⟨(some 42), none, .mv (.t 41)⟩, ⟨(some 43), (some (42, true)), .mv (.t 13)⟩, ⟨(some 44), (some (42, true)), .mv (.t 0)⟩, ⟨(some 45), (some (42, true)), .mv (.t 10)⟩, ⟨(some 46), (some (42, true)), .iadr 3 (.t 44) (.t 45)⟩, ⟨(some 47), (some (42, true)), .load true 3 (.t 46)⟩, ⟨(some 48), (some (42, true)), .mv (.t 2)⟩, ⟨(some 49), (some (42, true)), .call (.f 103) [(.t 47), (.t 48)]⟩, ⟨(some 50), (some (42, true)), .bin .neq (.t 43) (.t 49)⟩, ⟨(some 51), none, .pick (.t 42) (.t 50) (.v (.bool false))⟩] (some ⟨[0,2,4,9,10,11,23,24,25,51], [4], [9]⟩))
  (.cond (.t 51)
  (.seq (.reg false [⟨(some 52), none, .mv (.t 0)⟩, ⟨(some 53), none, .mv (.t 10)⟩, ⟨(some 54), none, .mv (.t 11)⟩, ⟨(some 55), none, .mv (.t 2)⟩, ⟨(some 56), none, .call (.f 104) [(.t 52), (.t 53), (.t 54), (.t 55)]⟩, ⟨(some 14), none, .alloc [(.int .i64 (0)), (.int .i64 (0))]⟩, ⟨none, none, .store 2 (.t 14) (.t 56)⟩] (some ⟨[0,2,4,9,11,14,23,24,25], [4,14], [9]⟩))
  (.seq (.reg false [⟨(some 57), none, .fadr 0 (.t 14)⟩, ⟨(some 58), none, .load false 1 (.t 57)⟩, ⟨(some 59), none, .fadr 0 (.t 4)⟩, ⟨(some 60), none, .load false 1 (.t 59)⟩, ⟨(some 61), none, .fadr 1 (.t 14)⟩, ⟨(some 62), none, .load false 1 (.t 61)⟩, ⟨(some 63), none, .bin .mul (.t 60) (.t 62)⟩, ⟨(some 64), none, .bin .geq (.t 58) (.t 63)⟩, ⟨(some 65), none, .mv (.t 64)⟩, ⟨(some 66), (some (65, true)), .fadr 0 (.t 14)⟩, ⟨(some 67), (some (65, true)), .load false 1 (.t 66)⟩, ⟨(some 68), (some (65, true)), .fadr 1 (.t 4)⟩, ⟨(some 69), (some (65, true)), .load false 1 (.t 68)⟩, ⟨(some 70), (some (65, true)), .fadr 1 (.t 14)⟩, ⟨(some 71), (some (65, true)), .load false 1 (.t 70)⟩, ⟨(some 72), (some (65, true)), .bin .mul (.t 69) (.t 71)⟩, ⟨(some 73), (some (65, true)), .bin .lss (.t 67) (.t 72)⟩, ⟨(some 74), none, .pick (.t 65) (.t 73) (.v (.bool false))⟩] (some ⟨[0,2,4,9,11,14,23,24,25,74], [4,14], [9]⟩))
  (.cond (.t 74)
  (.reg false [⟨(some 75), none, .mv (.t 9)⟩, ⟨(some 76), none, .fadr 0 (.t 14)⟩, ⟨(some 77), none, .load false 1 (.t 76)⟩, ⟨(some 78), none, .fadr 1 (.t 14)⟩, ⟨(some 79), none, .load false 1 (.t 78)⟩, ⟨(some 80), none, .call (.f 105) [(.t 77), (.t 79)]⟩, ⟨(some 81), none, .bslice 2 1 [(.t 80)]⟩, ⟨(some 82), none, .append 37 2 16 (.t 75) (.t 81)⟩, ⟨(some 9), none, .mv (.t 82)⟩] (some ⟨[0,2,4,9,11,23,24,25], [4], [9]⟩))
  .skip)))
  .skip))
  (.reg false [⟨(some 83), none, .mv (.t 11)⟩, ⟨(some 10), none, .mv (.t 83)⟩] (some ⟨[0,2,4,9,10,23,24,25], [4], [9]⟩)))
  .skip))))))))
  (.reg false [⟨(some 84), none, .bin .add (.t 25) (.v (.int .i64 (1)))⟩, ⟨(some 25), none, .mv (.t 84)⟩] (some ⟨[0,2,4,9,10,23,24,25], [4], [9]⟩))))))))
  (.seq (.reg false [⟨(some 85), none, .mv (.t 9)⟩, ⟨(some 6), none, .mv (.t 85)⟩, ⟨(some 7), none, .mv (.v (.int .i64 (0)))⟩] (some ⟨[6,7], [], []⟩))
  .ret)))))))
theorem c_crossings : compileCode Try.prog Try.f49.ntmps (Try.f49.body.getD .skip) A_crossings = some (C_crossings, []) := by kernel_rfl
theorem r_crossings : compileRes Try.prog Try.f49.results.toList = some [.t 6, .t 7] := by kernel_rfl
theorem b_crossings : Try.f49.body = some (Try.f49.body.getD .skip) := by kernel_rfl
theorem n_crossings : (Try.f49.name == "runtime.NumGoroutine") = false := by kernel_rfl
theorem fc_crossings {xt : Option (List Cel)} {args : List Val} {R : List Cel → Val → Prop} (hn : (if xt.isSome then 1 else 0) + args.length ≤ Try.f49.ntmps) (h : ex Try.prog C_crossings [] (fpost xt [.t 6, .t 7] R) (initSt xt args)) : FC Try.prog 49 xt args R :=
  fc_of_awp Try.func49 b_crossings n_crossings c_crossings r_crossings (of_decide_eq_true (by kernel_rfl)) hn h

def A_limitFault : List Ann := [⟨(some ⟨[0], [], []⟩), [], [], [], []⟩, ⟨(some ⟨[2], [], []⟩), [], [], [], []⟩]
def C_limitFault : AC := (.seq (.reg false [⟨(some 2), none, .mv (.v (.int .i64 (0)))⟩] (some ⟨[0], [], []⟩))
  (.seq (.reg false [⟨(some 3), none, .mv (.t 0)⟩, ⟨(some 4), none, .call (.f 58) [(.t 3), (.v (.int .i64 (-1000000))), (.v (.int .i64 (1000000)))]⟩, ⟨(some 2), none, .mv (.t 4)⟩] (some ⟨[2], [], []⟩))
  .ret))
theorem c_limitFault : compileCode Try.prog Try.f51.ntmps (Try.f51.body.getD .skip) A_limitFault = some (C_limitFault, []) := by kernel_rfl
theorem r_limitFault : compileRes Try.prog Try.f51.results.toList = some [.t 2] := by kernel_rfl
theorem b_limitFault : Try.f51.body = some (Try.f51.body.getD .skip) := by kernel_rfl
theorem n_limitFault : (Try.f51.name == "runtime.NumGoroutine") = false := by kernel_rfl
theorem fc_limitFault {xt : Option (List Cel)} {args : List Val} {R : List Cel → Val → Prop} (hn : (if xt.isSome then 1 else 0) + args.length ≤ Try.f51.ntmps) (h : ex Try.prog C_limitFault [] (fpost xt [.t 2] R) (initSt xt args)) : FC Try.prog 51 xt args R :=
  fc_of_awp Try.func51 b_limitFault n_limitFault c_limitFault r_limitFault (of_decide_eq_true (by kernel_rfl)) hn h



theorem alimit_fc : Gen Try.prog 48 [] 2 (fun r => ∃ x, I64 x ∧ r = iv x) := by
  intro L p hL hl h0 hp
  refine fc_alimit (by simp +arith) ?_
  unfold C_alimit strm
  simp (maxSteps := 1000000) (disch := omega) only [go_sem, eq_self, decide_true, decide_false, not_true_eq_false, not_false_eq_true, reduceIte, reduceCtorEq, Nat.reduceEqDiff, Nat.reduceAdd, Nat.reduceSub, Nat.reduceLeDiff]
  refine callx_gen (pick_fc false [-1000001, 1000001] (by simp) (by simp)) hL hl (by omega) (by omega) ⟨_, (-1000001), by simp, rfl⟩ ?_
  rintro pa r haa hba ⟨za, hza, rfl⟩
  refine ⟨rfl, ?_⟩
  unfold strm
  simp only [List.mem_cons, List.not_mem_nil, or_false] at hza
  simp (maxSteps := 1000000) (disch := omega) only [go_sem, eq_self, decide_true, decide_false, not_true_eq_false, not_false_eq_true, reduceIte, reduceCtorEq, Nat.reduceEqDiff, Nat.reduceAdd, Nat.reduceSub, Nat.reduceLeDiff]
  refine callx_gen (pick_fc false [0, 1, 3, 5, 8, -2, 10, za] (by simp) (by simp)) hL hl (by omega) (by omega) ⟨_, 0, by simp, rfl⟩ ?_
  rintro p'' r h6 h7 ⟨y, hy, rfl⟩
  refine ⟨rfl, ?_⟩
  unfold strm
  simp (maxSteps := 1000000) (disch := omega) only [go_sem, eq_self, decide_true, decide_false, not_true_eq_false, not_false_eq_true, reduceIte, reduceCtorEq, Nat.reduceEqDiff, Nat.reduceAdd, Nat.reduceSub, Nat.reduceLeDiff]
  refine ⟨⟨p'', by omega, by omega, rfl⟩, _, ?_, rfl⟩
  simp only [List.mem_cons, List.not_mem_nil, or_false] at hy
  unfold I64; omega
/-- On which side of a limit a value is. -/
def sd (L v : Int) : Int := if v < L then -1 else if v > L then 1 else 0
theorem sd_cases (L v : Int) : (v < L ∧ sd L v = -1) ∨ (v > L ∧ sd L v = 1) ∨ (v = L ∧ sd L v = 0) := by
  unfold sd; split
  · left; exact ⟨by omega, rfl⟩
  · split
    · right; left; exact ⟨by omega, rfl⟩
    · right; right; exact ⟨by omega, rfl⟩
theorem side_fc (x : Smp) (L : Int) : FC Try.prog 103 none [smpV x, iv L] (fun _ r => r = iv (sd L x.v)) := by
  refine fc_side (by simp +arith) ?_
  unfold C_side
  simp (maxSteps := 1000000) (disch := omega) only [go_sem, eq_self, decide_true, decide_false, not_true_eq_false, not_false_eq_true, reduceIte, reduceCtorEq, Nat.reduceEqDiff, Nat.reduceAdd, Nat.reduceSub, Nat.reduceLeDiff]
  (repeat' (first | apply And.intro | intro _)) <;> first | rfl | omega | exact iv_congr (by first | omega | ((try simp only [sd]); (repeat' split) <;> (first | omega | (simp_all; done) | (simp_all; omega)))) | exact bv_dec (by first | omega | ((try simp only [sd]); (repeat' split) <;> omega)) | exact bv_ndec (by first | omega | ((try simp only [sd]); (repeat' split) <;> omega)) | exact bv_f (by first | omega | ((try simp only [sd]); (repeat' split) <;> omega)) | exact bv_t (by first | omega | ((try simp only [sd]); (repeat' split) <;> omega))
theorem isNaN_fc (n : Int) : FC Try.prog 141 none [iv n] (fun _ r => r = bv false) := by
  refine fc_isNaN (by simp +arith) ?_
  unfold C_isNaN
  simp (maxSteps := 1000000) (disch := omega) only [go_sem, eq_self, decide_true, decide_false, not_true_eq_false, not_false_eq_true, reduceIte, reduceCtorEq, Nat.reduceEqDiff, Nat.reduceAdd, Nat.reduceSub, Nat.reduceLeDiff]
  rw [decide_eq_false (by simp)]
theorem cmpInt_fc (a b : Int) : FC Try.prog 109 none [iv a, iv b] (fun _ r => r = iv (sd b a)) := by
  refine fc_cmpInt (by simp +arith) ?_
  unfold C_cmpInt
  simp (maxSteps := 1000000) (disch := omega) only [go_sem, eq_self, decide_true, decide_false, not_true_eq_false, not_false_eq_true, reduceIte, reduceCtorEq, Nat.reduceEqDiff, Nat.reduceAdd, Nat.reduceSub, Nat.reduceLeDiff]
  refine CALL_det (isNaN_fc _) (.inl rfl) ?_
  simp (maxSteps := 1000000) (disch := omega) only [go_sem, eq_self, decide_true, decide_false, not_true_eq_false, not_false_eq_true, reduceIte, reduceCtorEq, Nat.reduceEqDiff, Nat.reduceAdd, Nat.reduceSub, Nat.reduceLeDiff]
  refine CALL_det (isNaN_fc _) (.inl rfl) ?_
  simp (maxSteps := 1000000) (disch := omega) only [go_sem, eq_self, decide_true, decide_false, not_true_eq_false, not_false_eq_true, reduceIte, reduceCtorEq, Nat.reduceEqDiff, Nat.reduceAdd, Nat.reduceSub, Nat.reduceLeDiff]
  (repeat' (first | apply And.intro | intro _)) <;> first | rfl | omega | exact iv_congr (by first | omega | ((try simp only [sd]); (repeat' split) <;> (first | omega | (simp_all; done) | (simp_all; omega)))) | exact bv_dec (by first | omega | ((try simp only [sd]); (repeat' split) <;> omega)) | exact bv_ndec (by first | omega | ((try simp only [sd]); (repeat' split) <;> omega)) | exact bv_f (by first | omega | ((try simp only [sd]); (repeat' split) <;> omega)) | exact bv_t (by first | omega | ((try simp only [sd]); (repeat' split) <;> omega))
theorem far_fc (a b : Int) (h1 : -4611686018427387904 ≤ a - b) (h2 : a - b ≤ 4611686018427387904) : FC Try.prog 96 none [iv a, iv b] (fun _ r => r = iv (max (a - b) (b - a))) := by
  refine fc_far (by simp +arith) ?_
  unfold C_far
  simp (maxSteps := 1000000) (disch := omega) only [go_sem, eq_self, decide_true, decide_false, not_true_eq_false, not_false_eq_true, reduceIte, reduceCtorEq, Nat.reduceEqDiff, Nat.reduceAdd, Nat.reduceSub, Nat.reduceLeDiff]
def frC (x : Int × Int) : List Cel := [.g (.int .i64 x.1), .g (.int .i64 x.2)]
theorem frC_eq (x : Int × Int) : frC x = [.g (.int .i64 x.1), .g (.int .i64 x.2)] := (rfl)
theorem frE_fr (l : List (Int × Int)) : frE (l.map frC) = true := frE_map (fun _ => rfl) l
theorem datE_fr (l : List (Int × Int)) : datE (l.map frC) = l.map frC := datE_map (fun _ => rfl) l
theorem tofE_fr (l : List (Int × Int)) : tofE (l.map frC) = l.map frC := tofE_map (fun _ => rfl) l
attribute [go_sem] frC_eq frE_fr datE_fr tofE_fr
abbrev frsV (fr : Bool) (l : List (Int × Int)) : Val := .one (.sl fr 2 (l.map frC))
/-- The crossing between two samples of which the second one is on the other side. -/
def crN (L : Int) (a b : Smp) : Int := a.a * max (b.v - a.v) (a.v - b.v) + (b.a - a.a) * max (L - a.v) (a.v - L)
def crD (a b : Smp) : Int := max (b.v - a.v) (a.v - b.v)
def crP (L : Int) (a : Smp) (nx : Option Int) (b : Smp) : Int × Int :=
  match nx with
  | some t => (t, 1)
  | none => (crN L a b, crD a b)
def emit (L f t : Int) (a : Smp) (nx : Option Int) (b : Smp) : List (Int × Int) :=
  if a.q ≠ 2 ∧ b.q ≠ 2 ∧ sd L a.v * sd L b.v < 0 then (if f * (crP L a nx b).2 ≤ (crP L a nx b).1 ∧ (crP L a nx b).1 < t * (crP L a nx b).2 then [(lowN (crP L a nx b).1 (crP L a nx b).2, lowD (crP L a nx b).1 (crP L a nx b).2)] else []) else []
def emitO (L f t : Int) : Option (Smp × Option Int) → Smp → List (Int × Int)
  | none, _ => []
  | some p, s => emit L f t p.1 p.2 s
def crGo (L f t : Int) : Option (Smp × Option Int) → List Smp → List (Int × Int)
  | _, [] => []
  | st, s :: r => if s.q = 2 then crGo L f t none r else if sd L s.v ≠ 0 then emitO L f t st s ++ crGo L f t (some (s, none)) r
    else crGo L f t (st.map fun p => (p.1, some (p.2.getD s.a))) r
def inn (L f t : Int) (a : Smp) : Option Int → List Smp → List (Int × Int)
  | _, [] => []
  | nx, b :: r => if b.q ≠ 2 ∧ b.v = L then inn L f t a (some (nx.getD b.a)) r else emit L f t a nx b
def refGo (L f t : Int) : List Smp → List (Int × Int)
  | [] => []
  | a :: r => inn L f t a none r ++ refGo L f t r
theorem inn_nil {L f t : Int} {a : Smp} (h : a.q = 2 ∨ sd L a.v = 0) : ∀ (l : List Smp) (nx : Option Int), inn L f t a nx l = []
  | [], nx => rfl
  | b :: r, nx => by
    rw [inn, inn_nil h r]
    split
    · rfl
    · unfold emit; rw [if_neg]
      rintro ⟨h1, h2, h3⟩
      rcases h with h | h
      · exact h1 h
      · rw [h, Int.zero_mul] at h3; omega
theorem crGo_eq (L f t : Int) : ∀ (l : List Smp) (st : Option (Smp × Option Int)), (∀ p, st = some p → p.1.q ≠ 2 ∧ sd L p.1.v ≠ 0) → crGo L f t st l = (match st with | none => [] | some p => inn L f t p.1 p.2 l) ++ refGo L f t l
  | [], st, h => by cases st <;> rfl
  | s :: r, st, h => by
    rw [crGo, refGo]
    by_cases h1 : s.q = 2
    · rw [if_pos h1, crGo_eq L f t r none (fun p hp => by cases hp), inn_nil (.inl h1)]
      cases st with
      | none => rfl
      | some p =>
        have e : emit L f t p.1 p.2 s = [] := by unfold emit; rw [if_neg]; rintro ⟨_, h2, _⟩; exact h2 h1
        have e2 : inn L f t p.1 p.2 (s :: r) = [] := by rw [inn, if_neg (fun h2 => h2.1 h1), e]
        simp only [e2, List.nil_append]
    · rw [if_neg h1]
      by_cases h2 : sd L s.v ≠ 0
      · rw [if_pos h2, crGo_eq L f t r (some (s, none)) (fun p hp => by injection hp with hp; subst hp; exact ⟨h1, h2⟩)]
        cases st with
        | none => rfl
        | some p =>
          have e2 : inn L f t p.1 p.2 (s :: r) = emit L f t p.1 p.2 s := by
            rw [inn, if_neg]; rintro ⟨_, h3⟩; apply h2; unfold sd; rw [if_neg (by omega), if_neg (by omega)]
          simp only [e2, emitO]
      · rw [if_neg h2, inn_nil (.inr (by omega))]
        have h3 : s.v = L := by rcases sd_cases L s.v with h | h | h <;> omega
        cases st with
        | none => rw [Option.map_none, crGo_eq L f t r none (fun p hp => by cases hp)]; rfl
        | some p =>
          rw [Option.map_some, crGo_eq L f t r _ (fun q hq => by injection hq with hq; subst hq; exact h p rfl)]
          have e2 : inn L f t p.1 p.2 (s :: r) = inn L f t p.1 (some (p.2.getD s.a)) r := by rw [inn, if_pos ⟨h1, h3⟩]
          simp only [e2, List.nil_append]
theorem cr_ref (L f t : Int) (l : List Smp) : crGo L f t none l = refGo L f t l := crGo_eq L f t l none (fun p hp => by cases hp)
/-- What lies behind sample number i, if k is further on. -/
def nxt (l : List Smp) (i k : Int) : Option Int := if k > i + 1 then some (l.getD (i + 1).toNat default).a else none
def opp (L : Int) (a b : Smp) : Prop := (a.v < L ∧ L < b.v) ∨ (L < a.v ∧ b.v < L)
theorem opp_of {L : Int} {a b : Smp} (h : sd L a.v * sd L b.v < 0) : opp L a b := by
  unfold opp
  rcases sd_cases L a.v with ⟨h1, e1⟩ | ⟨h1, e1⟩ | ⟨h1, e1⟩ <;> rcases sd_cases L b.v with ⟨h2, e2⟩ | ⟨h2, e2⟩ | ⟨h2, e2⟩ <;> rw [e1, e2] at h <;> omega
theorem crN_bd {L : Int} {a b : Smp} (ha : okSmp a) (hb : okSmp b) (hL : -1000000 ≤ L ∧ L ≤ 1000000) (hlt : a.a < b.a) (ho : opp L a b) :
    (0 ≤ a.a * crD a b ∧ a.a * crD a b ≤ 700000000000000000) ∧ (0 ≤ (b.a - a.a) * max (L - a.v) (a.v - L) ∧ (b.a - a.a) * max (L - a.v) (a.v - L) ≤ 700000000000000000) ∧ 1 ≤ crD a b ∧ crD a b ≤ 2000000 := by
  obtain ⟨a1, a2, a3, a4, a5, a6⟩ := ha
  obtain ⟨b1, b2, b3, b4, b5, b6⟩ := hb
  have hd : 1 ≤ crD a b ∧ crD a b ≤ 2000000 := by unfold crD; unfold opp at ho; omega
  have e1 := mul_bd (a := a.a) (b := crD a b) (A := 345686400000) (B := 2000000) ⟨by omega, by omega⟩ ⟨by omega, by omega⟩
  have e2 := mul_bd (a := b.a - a.a) (b := max (L - a.v) (a.v - L)) (A := 345686400000) (B := 2000000) ⟨by omega, by omega⟩ ⟨by omega, by omega⟩
  have e3 : 0 ≤ a.a * crD a b := Int.mul_nonneg a1 (by omega)
  have e4 : 0 ≤ (b.a - a.a) * max (L - a.v) (a.v - L) := Int.mul_nonneg (by omega) (by omega)
  omega
theorem crossed_fc (l : List Smp) (hg : Good l) (L i k : Int) (hL : -1000000 ≤ L ∧ L ≤ 1000000) (hi : 0 ≤ i) (hk : i < k) (hk2 : k < l.length) (ho : opp L (l.getD i.toNat default) (l.getD k.toNat default)) :
    FC Try.prog 104 none [smps false l, iv i, iv k, iv L] (fun _ r => r = .ag (frC (crP L (l.getD i.toNat default) (nxt l i k) (l.getD k.toNat default)))) := by
  refine fc_crossed (by simp +arith) ?_
  have hl := hg.len
  unfold C_crossed
  by_cases h : k > i + 1
  · rw [nxt, if_pos h]
    simp (maxSteps := 1000000) (disch := omega) only [go_sem, eq_self, decide_true, decide_false, not_true_eq_false, not_false_eq_true, reduceIte, reduceCtorEq, Nat.reduceEqDiff, Nat.reduceAdd, Nat.reduceSub, Nat.reduceLeDiff]
    rfl
  · rw [nxt, if_neg h]
    have ha := hg.ok i.toNat (by omega)
    have hb := hg.ok k.toNat (by omega)
    have hlt := hg.up i.toNat k.toNat (by omega) (by omega)
    have hbd := crN_bd ha hb hL hlt ho
    unfold okSmp at ha hb
    simp only [crP]
    unfold crN
    unfold opp at ho
    by_cases h2 : (l.getD k.toNat default).v - (l.getD i.toNat default).v < 0
    · have e3 : crD (l.getD i.toNat default) (l.getD k.toNat default) = 0 - ((l.getD k.toNat default).v - (l.getD i.toNat default).v) := by unfold crD; omega
      have e4 : max (L - (l.getD i.toNat default).v) ((l.getD i.toNat default).v - L) = (l.getD i.toNat default).v - L := by omega
      have e5 : max ((l.getD k.toNat default).v - (l.getD i.toNat default).v) ((l.getD i.toNat default).v - (l.getD k.toNat default).v) = 0 - ((l.getD k.toNat default).v - (l.getD i.toNat default).v) := by omega
      rw [e4] at hbd
      rw [e3, e4, e5]
      rw [e3] at hbd
      rw [Int.mul_comm ((l.getD k.toNat default).a - (l.getD i.toNat default).a)] at hbd ⊢
      simp (maxSteps := 1000000) (disch := omega) only [go_sem, eq_self, decide_true, decide_false, not_true_eq_false, not_false_eq_true, reduceIte, reduceCtorEq, Nat.reduceEqDiff, Nat.reduceAdd, Nat.reduceSub, Nat.reduceLeDiff]
    · have e3 : crD (l.getD i.toNat default) (l.getD k.toNat default) = (l.getD k.toNat default).v - (l.getD i.toNat default).v := by unfold crD; omega
      have e4 : max (L - (l.getD i.toNat default).v) ((l.getD i.toNat default).v - L) = L - (l.getD i.toNat default).v := by omega
      have e5 : max ((l.getD k.toNat default).v - (l.getD i.toNat default).v) ((l.getD i.toNat default).v - (l.getD k.toNat default).v) = (l.getD k.toNat default).v - (l.getD i.toNat default).v := by omega
      rw [e4] at hbd
      rw [e3, e4, e5]
      rw [e3] at hbd
      rw [Int.mul_comm ((l.getD k.toNat default).a - (l.getD i.toNat default).a)] at hbd ⊢
      simp (maxSteps := 1000000) (disch := omega) only [go_sem, eq_self, decide_true, decide_false, not_true_eq_false, not_false_eq_true, reduceIte, reduceCtorEq, Nat.reduceEqDiff, Nat.reduceAdd, Nat.reduceSub, Nat.reduceLeDiff]
end Go.Proofs.Ytkecmbgjhamhiaa

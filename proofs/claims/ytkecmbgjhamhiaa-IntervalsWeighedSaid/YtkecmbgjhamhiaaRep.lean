/-
  Reports: exceptions, doors, Report and the reference's: their answers are one.
-/
import Derived.Test.YtkecmbgjhamhiaaRec
import Derived.Test.YtkecmbgjhamhiaaCrossb
import Derived.Test.YtkecmbgjhamhiaaPts
namespace Go.Proofs.Ytkecmbgjhamhiaa
open Go Go.Ai
set_option linter.unusedSimpArgs false
set_option linter.unusedVariables false
set_option maxHeartbeats 4000000
def A_exceptionOf : List Ann := [⟨(some ⟨[0,2], [0,2], []⟩), [], [], [], []⟩, ⟨(some ⟨[0,2,3], [0,2,3], []⟩), [], [], [], []⟩, ⟨(some ⟨[0,2,3,12], [0,2,3], []⟩), [], [], [], []⟩, ⟨(some ⟨[2,3], [0,2,3], []⟩), [], [], [], []⟩, ⟨(some ⟨[2], [0,2], []⟩), [], [], [], []⟩]
def C_exceptionOf : AC := (.seq (.reg false [⟨(some 2), none, .alloc [(.int .i64 (0)), (.int .i64 (0))]⟩] (some ⟨[0,2], [0,2], []⟩))
  (.seq (.reg false [⟨(some 4), none, .mv (.t 0)⟩, ⟨(some 5), none, .bslice 1 4 [(.v (.int .i64 (0))), (.v (.int .i64 (1))), (.v (.int .i64 (2))), (.v (.int .i64 (5)))]⟩, ⟨(some 6), none, .callx (.f 19) [(.t 4), (.t 5)]⟩, ⟨(some 7), none, .mv (.t 0)⟩, ⟨(some 8), none, .bslice 1 4 [(.v (.int .i64 (1))), (.v (.int .i64 (10))), (.v (.int .i64 (30))), (.v (.int .i64 (1000)))]⟩, ⟨(some 9), none, .callx (.f 19) [(.t 7), (.t 8)]⟩, ⟨(some 10), none, .build [(.int .i64 (0)), (.int .i64 (0))] [(0, 1, (.t 6)), (1, 1, (.t 9))]⟩, ⟨(some 3), none, .alloc [(.int .i64 (0)), (.int .i64 (0))]⟩, ⟨none, none, .store 2 (.t 3) (.t 10)⟩] (some ⟨[0,2,3], [0,2,3], []⟩))
  (.seq (.seq (.reg false [⟨(some 11), none, .mv (.t 0)⟩, ⟨(some 12), none, .callx (.f 16) [(.t 11), (.v (.int .i64 (15)))]⟩] (some ⟨[0,2,3,12], [0,2,3], []⟩))
  (.cond (.t 12)
  (.reg false [⟨(some 13), none, .mv (.t 0)⟩, ⟨(some 14), none, .callx (.f 83) [(.t 13), (.v (.int .i64 (0))), (.v (.int .i64 (2000000)))]⟩, ⟨(some 15), none, .mv (.t 0)⟩, ⟨(some 16), none, .callx (.f 83) [(.t 15), (.v (.int .i64 (1))), (.v (.int .i64 (34560000000)))]⟩, ⟨(some 17), none, .fadr 0 (.t 3)⟩, ⟨none, none, .store 1 (.t 17) (.t 14)⟩, ⟨(some 18), none, .fadr 1 (.t 3)⟩, ⟨none, none, .store 1 (.t 18) (.t 16)⟩] (some ⟨[2,3], [0,2,3], []⟩))
  .skip))
  (.seq (.reg false [⟨(some 19), none, .load true 2 (.t 3)⟩, ⟨none, none, .store 2 (.t 2) (.t 19)⟩] (some ⟨[2], [0,2], []⟩))
  .ret))))
theorem c_exceptionOf : compileCode Try.prog Try.f31.ntmps (Try.f31.body.getD .skip) A_exceptionOf = some (C_exceptionOf, []) := by kernel_rfl
theorem r_exceptionOf : compileRes Try.prog Try.f31.results.toList = some [.cell 2 true 2] := by kernel_rfl
theorem b_exceptionOf : Try.f31.body = some (Try.f31.body.getD .skip) := by kernel_rfl
theorem n_exceptionOf : (Try.f31.name == "runtime.NumGoroutine") = false := by kernel_rfl
theorem fc_exceptionOf {xt : Option (List Cel)} {args : List Val} {R : List Cel → Val → Prop} (hn : (if xt.isSome then 1 else 0) + args.length ≤ Try.f31.ntmps) (h : ex Try.prog C_exceptionOf [] (fpost xt [.cell 2 true 2] R) (initSt xt args)) : FC Try.prog 31 xt args R :=
  fc_of_awp Try.func31 b_exceptionOf n_exceptionOf c_exceptionOf r_exceptionOf (of_decide_eq_true (by kernel_rfl)) hn h

def A_doorOf : List Ann := [⟨(some ⟨[0,2], [0,2], []⟩), [], [], [], []⟩, ⟨(some ⟨[0,2,3], [0,2,3], []⟩), [], [], [], []⟩, ⟨(some ⟨[0,2,3,12], [0,2,3], []⟩), [], [], [], []⟩, ⟨(some ⟨[2,3], [0,2,3], []⟩), [], [], [], []⟩, ⟨(some ⟨[2], [0,2], []⟩), [], [], [], []⟩]
def C_doorOf : AC := (.seq (.reg false [⟨(some 2), none, .alloc [(.int .i64 (0)), (.int .i64 (0))]⟩] (some ⟨[0,2], [0,2], []⟩))
  (.seq (.reg false [⟨(some 4), none, .mv (.t 0)⟩, ⟨(some 5), none, .bslice 1 5 [(.v (.int .i64 (0))), (.v (.int .i64 (1))), (.v (.int .i64 (1))), (.v (.int .i64 (2))), (.v (.int .i64 (4)))]⟩, ⟨(some 6), none, .callx (.f 19) [(.t 4), (.t 5)]⟩, ⟨(some 7), none, .mv (.t 0)⟩, ⟨(some 8), none, .bslice 1 5 [(.v (.int .i64 (1))), (.v (.int .i64 (10))), (.v (.int .i64 (30))), (.v (.int .i64 (1000))), (.v (.int .i64 (1000)))]⟩, ⟨(some 9), none, .callx (.f 19) [(.t 7), (.t 8)]⟩, ⟨(some 10), none, .build [(.int .i64 (0)), (.int .i64 (0))] [(0, 1, (.t 6)), (1, 1, (.t 9))]⟩, ⟨(some 3), none, .alloc [(.int .i64 (0)), (.int .i64 (0))]⟩, ⟨none, none, .store 2 (.t 3) (.t 10)⟩] (some ⟨[0,2,3], [0,2,3], []⟩))
  (.seq (.seq (.reg false [⟨(some 11), none, .mv (.t 0)⟩, ⟨(some 12), none, .callx (.f 16) [(.t 11), (.v (.int .i64 (15)))]⟩] (some ⟨[0,2,3,12], [0,2,3], []⟩))
  (.cond (.t 12)
  (.reg false [⟨(some 13), none, .mv (.t 0)⟩, ⟨(some 14), none, .callx (.f 83) [(.t 13), (.v (.int .i64 (0))), (.v (.int .i64 (2000000)))]⟩, ⟨(some 15), none, .mv (.t 0)⟩, ⟨(some 16), none, .callx (.f 83) [(.t 15), (.v (.int .i64 (1))), (.v (.int .i64 (34560000000)))]⟩, ⟨(some 17), none, .fadr 0 (.t 3)⟩, ⟨none, none, .store 1 (.t 17) (.t 14)⟩, ⟨(some 18), none, .fadr 1 (.t 3)⟩, ⟨none, none, .store 1 (.t 18) (.t 16)⟩] (some ⟨[2,3], [0,2,3], []⟩))
  .skip))
  (.seq (.reg false [⟨(some 19), none, .load true 2 (.t 3)⟩, ⟨none, none, .store 2 (.t 2) (.t 19)⟩] (some ⟨[2], [0,2], []⟩))
  .ret))))
theorem c_doorOf : compileCode Try.prog Try.f32.ntmps (Try.f32.body.getD .skip) A_doorOf = some (C_doorOf, []) := by kernel_rfl
theorem r_doorOf : compileRes Try.prog Try.f32.results.toList = some [.cell 2 true 2] := by kernel_rfl
theorem b_doorOf : Try.f32.body = some (Try.f32.body.getD .skip) := by kernel_rfl
theorem n_doorOf : (Try.f32.name == "runtime.NumGoroutine") = false := by kernel_rfl
theorem fc_doorOf {xt : Option (List Cel)} {args : List Val} {R : List Cel → Val → Prop} (hn : (if xt.isSome then 1 else 0) + args.length ≤ Try.f32.ntmps) (h : ex Try.prog C_doorOf [] (fpost xt [.cell 2 true 2] R) (initSt xt args)) : FC Try.prog 32 xt args R :=
  fc_of_awp Try.func32 b_doorOf n_doorOf c_doorOf r_doorOf (of_decide_eq_true (by kernel_rfl)) hn h

def A_checkException : List Ann := [⟨(some ⟨[1], [1], []⟩), [], [], [], []⟩, ⟨(some ⟨[10], [], []⟩), [], [], [], []⟩, ⟨(some ⟨[2], [], []⟩), [], [], [], []⟩, ⟨(some ⟨[2], [], []⟩), [], [], [], []⟩]
def C_checkException : AC := (.seq (.reg false [⟨(some 1), none, .box (.t 0)⟩, ⟨(some 2), none, .mv (.v (.int .i64 (0)))⟩] (some ⟨[1], [1], []⟩))
  (.seq (.seq (.reg false [⟨(some 3), none, .fadr 0 (.t 1)⟩, ⟨(some 4), none, .load false 1 (.t 3)⟩, ⟨(some 5), none, .call (.f 93) [(.t 4), (.v (.int .i64 (0))), (.v (.int .i64 (2000000)))]⟩, ⟨(some 6), none, .mv (.t 5)⟩, ⟨(some 7), (some (6, false)), .fadr 1 (.t 1)⟩, ⟨(some 8), (some (6, false)), .load false 1 (.t 7)⟩, ⟨(some 9), (some (6, false)), .call (.f 93) [(.t 8), (.v (.int .i64 (1))), (.v (.int .i64 (34560000000)))]⟩, ⟨(some 10), none, .pick (.t 6) (.v (.bool true)) (.t 9)⟩] (some ⟨[10], [], []⟩))
  (.cond (.t 10)
  (.seq (.reg false [⟨(some 2), none, .mv (.v (.int .i64 (1)))⟩] (some ⟨[2], [], []⟩))
  .ret)
  .skip))
  (.seq (.reg false [⟨(some 2), none, .mv (.v (.int .i64 (0)))⟩] (some ⟨[2], [], []⟩))
  .ret)))
theorem c_checkException : compileCode Try.prog Try.f33.ntmps (Try.f33.body.getD .skip) A_checkException = some (C_checkException, []) := by kernel_rfl
theorem r_checkException : compileRes Try.prog Try.f33.results.toList = some [.t 2] := by kernel_rfl
theorem b_checkException : Try.f33.body = some (Try.f33.body.getD .skip) := by kernel_rfl
theorem n_checkException : (Try.f33.name == "runtime.NumGoroutine") = false := by kernel_rfl
theorem fc_checkException {xt : Option (List Cel)} {args : List Val} {R : List Cel → Val → Prop} (hn : (if xt.isSome then 1 else 0) + args.length ≤ Try.f33.ntmps) (h : ex Try.prog C_checkException [] (fpost xt [.t 2] R) (initSt xt args)) : FC Try.prog 33 xt args R :=
  fc_of_awp Try.func33 b_checkException n_checkException c_checkException r_checkException (of_decide_eq_true (by kernel_rfl)) hn h

def A_exceptionFault : List Ann := [⟨(some ⟨[1], [1], []⟩), [], [], [], []⟩, ⟨(some ⟨[2], [], []⟩), [], [], [], []⟩]
def C_exceptionFault : AC := (.seq (.reg false [⟨(some 1), none, .box (.t 0)⟩, ⟨(some 2), none, .mv (.v (.int .i64 (0)))⟩] (some ⟨[1], [1], []⟩))
  (.seq (.reg true [⟨(some 3), none, .fadr 0 (.t 1)⟩, ⟨(some 4), none, .load false 1 (.t 3)⟩, ⟨(some 5), none, .call (.f 58) [(.t 4), (.v (.int .i64 (0))), (.v (.int .i64 (2000000)))]⟩, ⟨(some 6), none, .fadr 1 (.t 1)⟩, ⟨(some 7), none, .load false 1 (.t 6)⟩, ⟨(some 8), none, .call (.f 58) [(.t 7), (.v (.int .i64 (1))), (.v (.int .i64 (34560000000)))]⟩, ⟨(some 9), none, .bslice 1 2 [(.t 5), (.t 8)]⟩, ⟨(some 10), none, .call (.f 23) [(.t 9)]⟩, ⟨(some 2), none, .mv (.t 10)⟩] (some ⟨[2], [], []⟩))
  .ret))
theorem c_exceptionFault : compileCode Try.prog Try.f34.ntmps (Try.f34.body.getD .skip) A_exceptionFault = some (C_exceptionFault, []) := by kernel_rfl
theorem r_exceptionFault : compileRes Try.prog Try.f34.results.toList = some [.t 2] := by kernel_rfl
theorem b_exceptionFault : Try.f34.body = some (Try.f34.body.getD .skip) := by kernel_rfl
theorem n_exceptionFault : (Try.f34.name == "runtime.NumGoroutine") = false := by kernel_rfl
theorem fc_exceptionFault {xt : Option (List Cel)} {args : List Val} {R : List Cel → Val → Prop} (hn : (if xt.isSome then 1 else 0) + args.length ≤ Try.f34.ntmps) (h : ex Try.prog C_exceptionFault [] (fpost xt [.t 2] R) (initSt xt args)) : FC Try.prog 34 xt args R :=
  fc_of_awp Try.func34 b_exceptionFault n_exceptionFault c_exceptionFault r_exceptionFault (of_decide_eq_true (by kernel_rfl)) hn h

def A_checkDoor : List Ann := [⟨(some ⟨[1], [1], []⟩), [], [], [], []⟩, ⟨(some ⟨[10], [], []⟩), [], [], [], []⟩, ⟨(some ⟨[2], [], []⟩), [], [], [], []⟩, ⟨(some ⟨[2], [], []⟩), [], [], [], []⟩]
def C_checkDoor : AC := (.seq (.reg false [⟨(some 1), none, .box (.t 0)⟩, ⟨(some 2), none, .mv (.v (.int .i64 (0)))⟩] (some ⟨[1], [1], []⟩))
  (.seq (.seq (.reg false [⟨(some 3), none, .fadr 0 (.t 1)⟩, ⟨(some 4), none, .load false 1 (.t 3)⟩, ⟨(some 5), none, .call (.f 93) [(.t 4), (.v (.int .i64 (0))), (.v (.int .i64 (2000000)))]⟩, ⟨(some 6), none, .mv (.t 5)⟩, ⟨(some 7), (some (6, false)), .fadr 1 (.t 1)⟩, ⟨(some 8), (some (6, false)), .load false 1 (.t 7)⟩, ⟨(some 9), (some (6, false)), .call (.f 93) [(.t 8), (.v (.int .i64 (1))), (.v (.int .i64 (34560000000)))]⟩, ⟨(some 10), none, .pick (.t 6) (.v (.bool true)) (.t 9)⟩] (some ⟨[10], [], []⟩))
  (.cond (.t 10)
  (.seq (.reg false [⟨(some 2), none, .mv (.v (.int .i64 (1)))⟩] (some ⟨[2], [], []⟩))
  .ret)
  .skip))
  (.seq (.reg false [⟨(some 2), none, .mv (.v (.int .i64 (0)))⟩] (some ⟨[2], [], []⟩))
  .ret)))
theorem c_checkDoor : compileCode Try.prog Try.f35.ntmps (Try.f35.body.getD .skip) A_checkDoor = some (C_checkDoor, []) := by kernel_rfl
theorem r_checkDoor : compileRes Try.prog Try.f35.results.toList = some [.t 2] := by kernel_rfl
theorem b_checkDoor : Try.f35.body = some (Try.f35.body.getD .skip) := by kernel_rfl
theorem n_checkDoor : (Try.f35.name == "runtime.NumGoroutine") = false := by kernel_rfl
theorem fc_checkDoor {xt : Option (List Cel)} {args : List Val} {R : List Cel → Val → Prop} (hn : (if xt.isSome then 1 else 0) + args.length ≤ Try.f35.ntmps) (h : ex Try.prog C_checkDoor [] (fpost xt [.t 2] R) (initSt xt args)) : FC Try.prog 35 xt args R :=
  fc_of_awp Try.func35 b_checkDoor n_checkDoor c_checkDoor r_checkDoor (of_decide_eq_true (by kernel_rfl)) hn h

def A_doorFault : List Ann := [⟨(some ⟨[1], [1], []⟩), [], [], [], []⟩, ⟨(some ⟨[2], [], []⟩), [], [], [], []⟩]
def C_doorFault : AC := (.seq (.reg false [⟨(some 1), none, .box (.t 0)⟩, ⟨(some 2), none, .mv (.v (.int .i64 (0)))⟩] (some ⟨[1], [1], []⟩))
  (.seq (.reg true [⟨(some 3), none, .fadr 0 (.t 1)⟩, ⟨(some 4), none, .load false 1 (.t 3)⟩, ⟨(some 5), none, .call (.f 58) [(.t 4), (.v (.int .i64 (0))), (.v (.int .i64 (2000000)))]⟩, ⟨(some 6), none, .fadr 1 (.t 1)⟩, ⟨(some 7), none, .load false 1 (.t 6)⟩, ⟨(some 8), none, .call (.f 58) [(.t 7), (.v (.int .i64 (1))), (.v (.int .i64 (34560000000)))]⟩, ⟨(some 9), none, .bslice 1 2 [(.t 5), (.t 8)]⟩, ⟨(some 10), none, .call (.f 23) [(.t 9)]⟩, ⟨(some 2), none, .mv (.t 10)⟩] (some ⟨[2], [], []⟩))
  .ret))
theorem c_doorFault : compileCode Try.prog Try.f36.ntmps (Try.f36.body.getD .skip) A_doorFault = some (C_doorFault, []) := by kernel_rfl
theorem r_doorFault : compileRes Try.prog Try.f36.results.toList = some [.t 2] := by kernel_rfl
theorem b_doorFault : Try.f36.body = some (Try.f36.body.getD .skip) := by kernel_rfl
theorem n_doorFault : (Try.f36.name == "runtime.NumGoroutine") = false := by kernel_rfl
theorem fc_doorFault {xt : Option (List Cel)} {args : List Val} {R : List Cel → Val → Prop} (hn : (if xt.isSome then 1 else 0) + args.length ≤ Try.f36.ntmps) (h : ex Try.prog C_doorFault [] (fpost xt [.t 2] R) (initSt xt args)) : FC Try.prog 36 xt args R :=
  fc_of_awp Try.func36 b_doorFault n_doorFault c_doorFault r_doorFault (of_decide_eq_true (by kernel_rfl)) hn h

def A_report : List Ann := [⟨(some ⟨[1,2], [2], []⟩), [], [], [], []⟩, ⟨(some ⟨[1,2,6], [2], []⟩), [], [], [], []⟩, ⟨(some ⟨[1,2,6,20], [2], []⟩), [], [], [], []⟩, ⟨(some ⟨[4,5], [], []⟩), [], [], [(4, 1)], []⟩, ⟨(some ⟨[1,2,7], [2], []⟩), [(7, 3, 1)], [], [], []⟩, ⟨(some ⟨[1,2,7,22,23,24], [2], [7]⟩), [], [], [], []⟩, ⟨(some ⟨[1,2,7,22,23,24,25], [2], [7]⟩), [], [], [], []⟩, ⟨(some ⟨[1,2,7,8,9,22,23,24], [2,9], [7]⟩), [], [], [], []⟩, ⟨(some ⟨[1,2,7,8,9,22,23,24,30], [2,9], [7]⟩), [], [], [], []⟩, ⟨(some ⟨[1,2,7,22,23,24], [2], [7]⟩), [], [], [], []⟩, ⟨(some ⟨[1,2,7,8,9,10,22,23,24], [2,9], [7]⟩), [], [], [], []⟩, ⟨(some ⟨[1,2,7,8,9,10,11,22,23,24], [2,9,11], [7]⟩), [], [], [], []⟩, ⟨(some ⟨[1,2,7,8,9,10,11,12,22,23,24], [2,9,11], [7]⟩), [], [], [], []⟩, ⟨(some ⟨[1,2,7,8,10,22,23,24,72], [2], [7]⟩), [], [], [], []⟩, ⟨(some ⟨[1,2,7,8,22,23,24,76], [2], [7]⟩), [], [], [], []⟩, ⟨(some ⟨[1,2,7,8,22,23,24], [2], [7]⟩), [], [], [], []⟩, ⟨(some ⟨[1,2,7,22,23,24], [2], [7]⟩), [], [], [], []⟩, ⟨(some ⟨[1,2,7,8,22,23,24,90], [2], [7]⟩), [], [], [], []⟩, ⟨(some ⟨[1,2,7,22,23,24], [2], [7]⟩), [], [], [], []⟩, ⟨(some ⟨[1,2,7,22,23,24], [2], [7]⟩), [], [], [], []⟩, ⟨(some ⟨[4,5], [], []⟩), [], [], [], []⟩]
def C_report : AC := (.seq (.reg false [⟨(some 2), none, .box (.t 0)⟩, ⟨(some 4), none, .mv (.v (.slice none 0 0))⟩, ⟨(some 5), none, .mv (.v (.int .i64 (0)))⟩] (some ⟨[1,2], [2], []⟩))
  (.seq (.seq (.reg false [⟨(some 13), none, .load true 2 (.t 2)⟩, ⟨(some 14), none, .call (.f 33) [(.t 13)]⟩, ⟨(some 15), none, .mv (.t 1)⟩, ⟨(some 16), none, .call (.f 85) [(.t 15)]⟩, ⟨(some 17), none, .bslice 1 2 [(.t 14), (.t 16)]⟩, ⟨(some 18), none, .call (.f 94) [(.t 17)]⟩, ⟨(some 6), none, .mv (.t 18)⟩] (some ⟨[1,2,6], [2], []⟩))
  (.seq (.reg false [⟨(some 19), none, .mv (.t 6)⟩, ⟨(some 20), none, .bin .neq (.t 19) (.v (.int .i64 (0)))⟩] (some ⟨[1,2,6,20], [2], []⟩))
  (.cond (.t 20)
  (.seq (.seq (.reg false [⟨(some 21), none, .mv (.t 6)⟩, ⟨(some 4), none, .mv (.v (.slice none 0 0))⟩, ⟨(some 5), none, .mv (.t 21)⟩] (some ⟨[4,5], [], []⟩))
  (.ty 4 1))
  .ret)
  .skip)))
  (.seq (.seq (.reg false [⟨(some 7), none, .mv (.v (.slice none 0 0))⟩] (some ⟨[1,2,7], [2], []⟩))
  (.own 7 3 1))
  (.seq (.seq (.reg false [⟨(some 22), none, .mv (.t 1)⟩, ⟨(some 23), none, .len (.t 22)⟩, ⟨(some 24), none, .mv (.v (.int .i64 (0)))⟩] (some ⟨[1,2,7,22,23,24], [2], [7]⟩))
  (.block 0 (.loop (.seq (.reg false [⟨(some 25), none, .bin .lss (.t 24) (.t 23)⟩] (some ⟨[1,2,7,22,23,24,25], [2], [7]⟩))
  (.seq (.cond (.t 25)
  .skip
  (.exit 0))
  (.seq (.block 1 (.seq (.reg false [⟨(some 26), none, .mv (.t 24)⟩, ⟨(some 27), none, .iadr 3 (.t 22) (.t 24)⟩, ⟨(some 28), none, .load true 3 (.t 27)⟩, ⟨(some 9), none, .alloc [(.int .i64 (0)), (.int .i64 (0)), (.int .i64 (0))]⟩, ⟨(some 8), none, .mv (.t 26)⟩, ⟨none, none, .store 3 (.t 9) (.t 28)⟩] (some ⟨[1,2,7,8,9,22,23,24], [2,9], [7]⟩))
  (.seq (.seq (.reg false [⟨(some 29), none, .mv (.t 8)⟩, ⟨(some 30), none, .bin .eql (.t 29) (.v (.int .i64 (0)))⟩] (some ⟨[1,2,7,8,9,22,23,24,30], [2,9], [7]⟩))
  (.cond (.t 30)
  (.seq (.reg false [⟨(some 31), none, .mv (.t 7)⟩, ⟨(some 32), none, .bslice 1 1 [(.v (.int .i64 (0)))]⟩, ⟨(some 33), none, .append 3 1 8 (.t 31) (.t 32)⟩, ⟨(some 7), none, .mv (.t 33)⟩] (some ⟨[1,2,7,22,23,24], [2], [7]⟩))
  (.exit 1))
  .skip))
  (.seq (.reg false [⟨(some 34), none, .mv (.t 7)⟩, ⟨(some 35), none, .mv (.t 7)⟩, ⟨(some 36), none, .len (.t 35)⟩, ⟨(some 37), none, .bin .sub (.t 36) (.v (.int .i64 (1)))⟩, ⟨(some 38), none, .iadr 1 (.t 34) (.t 37)⟩, ⟨(some 39), none, .load false 1 (.t 38)⟩, ⟨(some 10), none, .mv (.t 39)⟩] (some ⟨[1,2,7,8,9,10,22,23,24], [2,9], [7]⟩))
  (.seq (.reg false [⟨(some 40), none, .mv (.t 1)⟩, ⟨(some 41), none, .mv (.t 10)⟩, ⟨(some 42), none, .iadr 3 (.t 40) (.t 41)⟩, ⟨(some 43), none, .load true 3 (.t 42)⟩, ⟨(some 11), none, .alloc [(.int .i64 (0)), (.int .i64 (0)), (.int .i64 (0))]⟩, ⟨none, none, .store 3 (.t 11) (.t 43)⟩] (some ⟨[1,2,7,8,9,10,11,22,23,24], [2,9,11], [7]⟩))
  (.seq (.reg false [⟨(some 44), none, .fadr 1 (.t 9)⟩, ⟨(some 45), none, .load false 1 (.t 44)⟩, ⟨(some 46), none, .fadr 1 (.t 11)⟩, ⟨(some 47), none, .load false 1 (.t 46)⟩, ⟨(some 48), none, .bin .sub (.t 45) (.t 47)⟩, ⟨(some 12), none, .mv (.t 48)⟩] (some ⟨[1,2,7,8,9,10,11,12,22,23,24], [2,9,11], [7]⟩))
  (.seq (.reg false [⟨(some 49), none, .fadr 2 (.t 9)⟩, ⟨(some 50), none, .load false 1 (.t 49)⟩, ⟨(some 51), none, .fadr 2 (.t 11)⟩, ⟨(some 52), none, .load false 1 (.t 51)⟩, ⟨(some 53), none, .bin .neq (.t 50) (.t 52)⟩, ⟨(some 54), none, .mv (.t 53)⟩, ⟨(some 55), (some (54, false)), .mv (.t 12)⟩, ⟨(some 56), (some (54, false)), .mv (.t 12)⟩, ⟨(some 57), (some (54, false)), .un .neg (.t 56)⟩, ⟨(some 58), (some (54, false)), .mnx true (.t 55) (.t 57)⟩, ⟨(some 59), (some (54, false)), .fadr 0 (.t 2)⟩, ⟨(some 60), (some (54, false)), .load false 1 (.t 59)⟩, ⟨(some 61), (some (54, false)), .bin .gtr (.t 58) (.t 60)⟩, ⟨(some 62), none, .pick (.t 54) (.v (.bool true)) (.t 61)⟩, ⟨(some 63), none, .mv (.t 62)⟩, ⟨(some 64), (some (63, false)), .fadr 0 (.t 9)⟩, ⟨(some 65), (some (63, false)), .load false 1 (.t 64)⟩, ⟨(some 66), (some (63, false)), .fadr 0 (.t 11)⟩, ⟨(some 67), (some (63, false)), .load false 1 (.t 66)⟩, ⟨(some 68), (some (63, false)), .bin .sub (.t 65) (.t 67)⟩, ⟨(some 69), (some (63, false)), .fadr 1 (.t 2)⟩, ⟨(some 70), (some (63, false)), .load false 1 (.t 69)⟩, ⟨(some 71), (some (63, false)), .bin .geq (.t 68) (.t 70)⟩, ⟨(some 72), none, .pick (.t 63) (.v (.bool true)) (.t 71)⟩] (some ⟨[1,2,7,8,10,22,23,24,72], [2], [7]⟩))
  (.cond (.t 72)
  (.seq (.seq (.reg false [⟨(some 73), none, .mv (.t 10)⟩, ⟨(some 74), none, .mv (.t 8)⟩, ⟨(some 75), none, .bin .sub (.t 74) (.v (.int .i64 (1)))⟩, ⟨(some 76), none, .bin .lss (.t 73) (.t 75)⟩] (some ⟨[1,2,7,8,22,23,24,76], [2], [7]⟩))
  (.cond (.t 76)
  (.reg false [⟨(some 77), none, .mv (.t 7)⟩, ⟨(some 78), none, .mv (.t 8)⟩, ⟨(some 79), none, .bin .sub (.t 78) (.v (.int .i64 (1)))⟩, ⟨(some 80), none, .bslice 1 1 [(.t 79)]⟩, ⟨(some 81), none, .append 3 1 8 (.t 77) (.t 80)⟩, ⟨(some 7), none, .mv (.t 81)⟩] (some ⟨[1,2,7,8,22,23,24], [2], [7]⟩))
  .skip))
  (.reg false [⟨(some 82), none, .mv (.t 7)⟩, ⟨(some 83), none, .mv (.t 8)⟩, ⟨(some 84), none, .bslice 1 1 [(.t 83)]⟩, ⟨(some 85), none, .append 3 1 8 (.t 82) (.t 84)⟩, ⟨(some 7), none, .mv (.t 85)⟩] (some ⟨[1,2,7,22,23,24], [2], [7]⟩)))
  (.seq (.reg false [⟨(some 86), none, .mv (.t 8)⟩, ⟨(some 87), none, .mv (.t 1)⟩, ⟨(some 88), none, .len (.t 87)⟩, ⟨(some 89), none, .bin .sub (.t 88) (.v (.int .i64 (1)))⟩, ⟨(some 90), none, .bin .eql (.t 86) (.t 89)⟩] (some ⟨[1,2,7,8,22,23,24,90], [2], [7]⟩))
  (.cond (.t 90)
  (.reg false [⟨(some 91), none, .mv (.t 7)⟩, ⟨(some 92), none, .mv (.t 8)⟩, ⟨(some 93), none, .bslice 1 1 [(.t 92)]⟩, ⟨(some 94), none, .append 3 1 8 (.t 91) (.t 93)⟩, ⟨(some 7), none, .mv (.t 94)⟩] (some ⟨[1,2,7,22,23,24], [2], [7]⟩))
  .skip))))))))))
  (.reg false [⟨(some 95), none, .bin .add (.t 24) (.v (.int .i64 (1)))⟩, ⟨(some 24), none, .mv (.t 95)⟩] (some ⟨[1,2,7,22,23,24], [2], [7]⟩))))))))
  (.seq (.reg false [⟨(some 96), none, .mv (.t 7)⟩, ⟨(some 4), none, .mv (.t 96)⟩, ⟨(some 5), none, .mv (.v (.int .i64 (0)))⟩] (some ⟨[4,5], [], []⟩))
  .ret)))))
theorem c_report : compileCode Try.prog Try.f37.ntmps (Try.f37.body.getD .skip) A_report = some (C_report, []) := by kernel_rfl
theorem r_report : compileRes Try.prog Try.f37.results.toList = some [.t 4, .t 5] := by kernel_rfl
theorem b_report : Try.f37.body = some (Try.f37.body.getD .skip) := by kernel_rfl
theorem n_report : (Try.f37.name == "runtime.NumGoroutine") = false := by kernel_rfl
theorem fc_report {xt : Option (List Cel)} {args : List Val} {R : List Cel → Val → Prop} (hn : (if xt.isSome then 1 else 0) + args.length ≤ Try.f37.ntmps) (h : ex Try.prog C_report [] (fpost xt [.t 4, .t 5] R) (initSt xt args)) : FC Try.prog 37 xt args R :=
  fc_of_awp Try.func37 b_report n_report c_report r_report (of_decide_eq_true (by kernel_rfl)) hn h

def A_reportOf : List Ann := [⟨(some ⟨[1,2], [2], []⟩), [], [], [], []⟩, ⟨(some ⟨[1,2,5], [2], []⟩), [(5, 3, 1)], [], [], []⟩, ⟨(some ⟨[1,2,5,6], [2], [5]⟩), [], [], [], []⟩, ⟨(some ⟨[1,2,5,6,10,11,12], [2], [5]⟩), [], [], [], []⟩, ⟨(some ⟨[1,2,5,6,10,11,12,13], [2], [5]⟩), [], [], [], []⟩, ⟨(some ⟨[1,2,5,6,7,8,10,11,12], [2,8], [5]⟩), [], [], [], []⟩, ⟨(some ⟨[1,2,5,6,7,8,9,10,11,12], [2,8,9], [5]⟩), [], [], [], []⟩, ⟨(some ⟨[1,2,5,6,7,8,9,10,11,12,21], [2,8,9], [5]⟩), [], [], [], []⟩, ⟨(some ⟨[1,2,5,6,7,10,11,12,24], [2], [5]⟩), [], [], [], []⟩, ⟨(some ⟨[1,2,5,7,10,11,12,54], [2], [5]⟩), [], [], [], []⟩, ⟨(some ⟨[1,2,5,7,10,11,12], [2], [5]⟩), [], [], [], []⟩, ⟨(some ⟨[1,2,5,6,7,10,11,12], [2], [5]⟩), [], [], [], []⟩, ⟨(some ⟨[1,2,5,6,7,10,11,12,61], [2], [5]⟩), [], [], [], []⟩, ⟨(some ⟨[1,2,5,6,10,11,12], [2], [5]⟩), [], [], [], []⟩, ⟨(some ⟨[1,2,5,6,10,11,12], [2], [5]⟩), [], [], [], []⟩, ⟨(some ⟨[4], [], []⟩), [], [], [], []⟩]
def C_reportOf : AC := (.seq (.reg false [⟨(some 2), none, .box (.t 0)⟩, ⟨(some 4), none, .mv (.v (.slice none 0 0))⟩] (some ⟨[1,2], [2], []⟩))
  (.seq (.seq (.reg false [⟨(some 5), none, .mv (.v (.slice none 0 0))⟩] (some ⟨[1,2,5], [2], []⟩))
  (.own 5 3 1))
  (.seq (.reg false [⟨(some 6), none, .mv (.v (.int .i64 (0)))⟩] (some ⟨[1,2,5,6], [2], [5]⟩))
  (.seq (.seq (.reg false [⟨(some 10), none, .mv (.t 1)⟩, ⟨(some 11), none, .len (.t 10)⟩, ⟨(some 12), none, .mv (.v (.int .i64 (0)))⟩] (some ⟨[1,2,5,6,10,11,12], [2], [5]⟩))
  (.block 0 (.loop (.seq (.reg false [⟨(some 13), none, .bin .lss (.t 12) (.t 11)⟩] (some ⟨[1,2,5,6,10,11,12,13], [2], [5]⟩))
  (.seq (.cond (.t 13)
  .skip
  (.exit 0))
  (.seq (.block 1 (.seq (.reg false [⟨(some 14), none, .mv (.t 12)⟩, ⟨(some 15), none, .iadr 3 (.t 10) (.t 12)⟩, ⟨(some 16), none, .load true 3 (.t 15)⟩, ⟨(some 8), none, .alloc [(.int .i64 (0)), (.int .i64 (0)), (.int .i64 (0))]⟩, ⟨(some 7), none, .mv (.t 14)⟩, ⟨none, none, .store 3 (.t 8) (.t 16)⟩] (some ⟨[1,2,5,6,7,8,10,11,12], [2,8], [5]⟩))
  (.seq (.reg false [⟨(some 17), none, .mv (.t 1)⟩, ⟨(some 18), none, .mv (.t 6)⟩, ⟨(some 19), none, .iadr 3 (.t 17) (.t 18)⟩, ⟨(some 20), none, .load true 3 (.t 19)⟩, ⟨(some 9), none, .alloc [(.int .i64 (0)), (.int .i64 (0)), (.int .i64 (0))]⟩, ⟨none, none, .store 3 (.t 9) (.t 20)⟩] (some ⟨[1,2,5,6,7,8,9,10,11,12], [2,8,9], [5]⟩))
  (.seq (.block 2 (.seq (.reg false [⟨(some 22), none, .mv (.t 7)⟩, ⟨(some 23), none, .bin .eql (.t 22) (.v (.int .i64 (0)))⟩, ⟨(some 21), none, .mv (.t 23)⟩] (some ⟨[1,2,5,6,7,8,9,10,11,12,21], [2,8,9], [5]⟩))
  (.cond (.t 21)
  .skip
  (.seq (.reg true [⟨(some 25), none, .fadr 2 (.t 8)⟩, ⟨(some 26), none, .load false 1 (.t 25)⟩, ⟨(some 27), none, .fadr 2 (.t 9)⟩, ⟨(some 28), none, .load false 1 (.t 27)⟩, ⟨(some 29), none, .bin .neq (.t 26) (.t 28)⟩, ⟨(some 30), none, .mv (.t 29)⟩, ⟨(some 31), (some (30, false)), .fadr 1 (.t 8)⟩, ⟨(some 32), (some (30, false)), .load false 1 (.t 31)⟩, ⟨(some 33), (some (30, false)), .fadr 1 (.t 9)⟩, ⟨(some 34), (some (30, false)), .load false 1 (.t 33)⟩, ⟨(some 35), (some (30, false)), .call (.f 96) [(.t 32), (.t 34)]⟩, ⟨(some 36), (some (30, false)), .fadr 0 (.t 2)⟩, ⟨(some 37), (some (30, false)), .load false 1 (.t 36)⟩, ⟨(some 38), (some (30, false)), .bin .gtr (.t 35) (.t 37)⟩, ⟨(some 39), none, .pick (.t 30) (.v (.bool true)) (.t 38)⟩, ⟨(some 40), none, .mv (.t 39)⟩, ⟨(some 41), (some (40, false)), .fadr 0 (.t 8)⟩, ⟨(some 42), (some (40, false)), .load false 1 (.t 41)⟩, ⟨(some 43), (some (40, false)), .fadr 0 (.t 9)⟩, ⟨(some 44), (some (40, false)), .load false 1 (.t 43)⟩, ⟨(some 45), (some (40, false)), .bin .sub (.t 42) (.t 44)⟩, ⟨(some 46), (some (40, false)), .fadr 1 (.t 2)⟩, ⟨(some 47), (some (40, false)), .load false 1 (.t 46)⟩, ⟨(some 48), (some (40, false)), .bin .geq (.t 45) (.t 47)⟩, ⟨(some 49), none, .pick (.t 40) (.v (.bool true)) (.t 48)⟩, ⟨(some 24), none, .mv (.t 49)⟩] (some ⟨[1,2,5,6,7,10,11,12,24], [2], [5]⟩))
  (.cond (.t 24)
  (.seq (.seq (.reg false [⟨(some 50), none, .mv (.t 5)⟩, ⟨(some 51), none, .mv (.t 7)⟩, ⟨(some 52), none, .bin .sub (.t 51) (.v (.int .i64 (1)))⟩, ⟨(some 53), none, .call (.f 97) [(.t 50), (.t 52)]⟩, ⟨(some 54), none, .un .not (.t 53)⟩] (some ⟨[1,2,5,7,10,11,12,54], [2], [5]⟩))
  (.cond (.t 54)
  (.reg false [⟨(some 55), none, .mv (.t 5)⟩, ⟨(some 56), none, .mv (.t 7)⟩, ⟨(some 57), none, .bin .sub (.t 56) (.v (.int .i64 (1)))⟩, ⟨(some 58), none, .bslice 1 1 [(.t 57)]⟩, ⟨(some 59), none, .append 3 1 8 (.t 55) (.t 58)⟩, ⟨(some 5), none, .mv (.t 59)⟩] (some ⟨[1,2,5,7,10,11,12], [2], [5]⟩))
  .skip))
  (.reg false [⟨(some 60), none, .mv (.t 7)⟩, ⟨(some 6), none, .mv (.t 60)⟩] (some ⟨[1,2,5,6,7,10,11,12], [2], [5]⟩)))
  (.seq (.reg false [⟨(some 62), none, .mv (.t 7)⟩, ⟨(some 63), none, .mv (.t 1)⟩, ⟨(some 64), none, .len (.t 63)⟩, ⟨(some 65), none, .bin .sub (.t 64) (.v (.int .i64 (1)))⟩, ⟨(some 66), none, .bin .eql (.t 62) (.t 65)⟩, ⟨(some 61), none, .mv (.t 66)⟩] (some ⟨[1,2,5,6,7,10,11,12,61], [2], [5]⟩))
  (.cond (.t 61)
  .skip
  (.exit 1))))))))
  (.reg false [⟨(some 67), none, .mv (.t 5)⟩, ⟨(some 68), none, .mv (.t 7)⟩, ⟨(some 69), none, .bslice 1 1 [(.t 68)]⟩, ⟨(some 70), none, .append 3 1 8 (.t 67) (.t 69)⟩, ⟨(some 5), none, .mv (.t 70)⟩] (some ⟨[1,2,5,6,10,11,12], [2], [5]⟩))))))
  (.reg false [⟨(some 71), none, .bin .add (.t 12) (.v (.int .i64 (1)))⟩, ⟨(some 12), none, .mv (.t 71)⟩] (some ⟨[1,2,5,6,10,11,12], [2], [5]⟩))))))))
  (.seq (.reg false [⟨(some 72), none, .mv (.t 5)⟩, ⟨(some 4), none, .mv (.t 72)⟩] (some ⟨[4], [], []⟩))
  .ret)))))
theorem c_reportOf : compileCode Try.prog Try.f40.ntmps (Try.f40.body.getD .skip) A_reportOf = some (C_reportOf, []) := by kernel_rfl
theorem r_reportOf : compileRes Try.prog Try.f40.results.toList = some [.t 4] := by kernel_rfl
theorem b_reportOf : Try.f40.body = some (Try.f40.body.getD .skip) := by kernel_rfl
theorem n_reportOf : (Try.f40.name == "runtime.NumGoroutine") = false := by kernel_rfl
theorem fc_reportOf {xt : Option (List Cel)} {args : List Val} {R : List Cel → Val → Prop} (hn : (if xt.isSome then 1 else 0) + args.length ≤ Try.f40.ntmps) (h : ex Try.prog C_reportOf [] (fpost xt [.t 4] R) (initSt xt args)) : FC Try.prog 40 xt args R :=
  fc_of_awp Try.func40 b_reportOf n_reportOf c_reportOf r_reportOf (of_decide_eq_true (by kernel_rfl)) hn h

def A_first : List Ann := [⟨(some ⟨[0], [], []⟩), [], [], [], []⟩, ⟨(some ⟨[5,6,7], [], []⟩), [], [], [], []⟩, ⟨(some ⟨[5,6,7,8], [], []⟩), [], [], [], []⟩, ⟨(some ⟨[4,5,6,7], [], []⟩), [], [], [], []⟩, ⟨(some ⟨[4,5,6,7,12], [], []⟩), [], [], [], []⟩, ⟨(some ⟨[2], [], []⟩), [], [], [], []⟩, ⟨(some ⟨[5,6,7], [], []⟩), [], [], [], []⟩, ⟨(some ⟨[2], [], []⟩), [], [], [], []⟩]
def C_first : AC := (.seq (.reg false [⟨(some 2), none, .mv (.v (.int .i64 (0)))⟩] (some ⟨[0], [], []⟩))
  (.seq (.seq (.reg false [⟨(some 5), none, .mv (.t 0)⟩, ⟨(some 6), none, .len (.t 5)⟩, ⟨(some 7), none, .mv (.v (.int .i64 (0)))⟩] (some ⟨[5,6,7], [], []⟩))
  (.block 0 (.loop (.seq (.reg false [⟨(some 8), none, .bin .lss (.t 7) (.t 6)⟩] (some ⟨[5,6,7,8], [], []⟩))
  (.seq (.cond (.t 8)
  .skip
  (.exit 0))
  (.seq (.block 1 (.seq (.reg false [⟨(some 9), none, .iadr 1 (.t 5) (.t 7)⟩, ⟨(some 10), none, .load false 1 (.t 9)⟩, ⟨(some 4), none, .mv (.t 10)⟩] (some ⟨[4,5,6,7], [], []⟩))
  (.seq (.reg false [⟨(some 11), none, .mv (.t 4)⟩, ⟨(some 12), none, .bin .neq (.t 11) (.v (.int .i64 (0)))⟩] (some ⟨[4,5,6,7,12], [], []⟩))
  (.cond (.t 12)
  (.seq (.reg false [⟨(some 13), none, .mv (.t 4)⟩, ⟨(some 2), none, .mv (.t 13)⟩] (some ⟨[2], [], []⟩))
  .ret)
  .skip))))
  (.reg false [⟨(some 14), none, .bin .add (.t 7) (.v (.int .i64 (1)))⟩, ⟨(some 7), none, .mv (.t 14)⟩] (some ⟨[5,6,7], [], []⟩))))))))
  (.seq (.reg false [⟨(some 2), none, .mv (.v (.int .i64 (0)))⟩] (some ⟨[2], [], []⟩))
  .ret)))
theorem c_first : compileCode Try.prog Try.f94.ntmps (Try.f94.body.getD .skip) A_first = some (C_first, []) := by kernel_rfl
theorem r_first : compileRes Try.prog Try.f94.results.toList = some [.t 2] := by kernel_rfl
theorem b_first : Try.f94.body = some (Try.f94.body.getD .skip) := by kernel_rfl
theorem n_first : (Try.f94.name == "runtime.NumGoroutine") = false := by kernel_rfl
theorem fc_first {xt : Option (List Cel)} {args : List Val} {R : List Cel → Val → Prop} (hn : (if xt.isSome then 1 else 0) + args.length ≤ Try.f94.ntmps) (h : ex Try.prog C_first [] (fpost xt [.t 2] R) (initSt xt args)) : FC Try.prog 94 xt args R :=
  fc_of_awp Try.func94 b_first n_first c_first r_first (of_decide_eq_true (by kernel_rfl)) hn h

def A_contInts : List Ann := [⟨(some ⟨[0,1], [], []⟩), [], [], [], []⟩, ⟨(some ⟨[4], [], []⟩), [], [], [], []⟩]
def C_contInts : AC := (.seq (.reg false [⟨(some 4), none, .mv (.v (.bool false))⟩] (some ⟨[0,1], [], []⟩))
  (.seq (.reg false [⟨(some 5), none, .mv (.t 0)⟩, ⟨(some 6), none, .mv (.t 1)⟩, ⟨(some 7), none, .call (.f 135) [(.t 5), (.t 6)]⟩, ⟨(some 8), none, .bin .geq (.t 7) (.v (.int .i64 (0)))⟩, ⟨(some 4), none, .mv (.t 8)⟩] (some ⟨[4], [], []⟩))
  .ret))
theorem c_contInts : compileCode Try.prog Try.f97.ntmps (Try.f97.body.getD .skip) A_contInts = some (C_contInts, []) := by kernel_rfl
theorem r_contInts : compileRes Try.prog Try.f97.results.toList = some [.t 4] := by kernel_rfl
theorem b_contInts : Try.f97.body = some (Try.f97.body.getD .skip) := by kernel_rfl
theorem n_contInts : (Try.f97.name == "runtime.NumGoroutine") = false := by kernel_rfl
theorem fc_contInts {xt : Option (List Cel)} {args : List Val} {R : List Cel → Val → Prop} (hn : (if xt.isSome then 1 else 0) + args.length ≤ Try.f97.ntmps) (h : ex Try.prog C_contInts [] (fpost xt [.t 4] R) (initSt xt args)) : FC Try.prog 97 xt args R :=
  fc_of_awp Try.func97 b_contInts n_contInts c_contInts r_contInts (of_decide_eq_true (by kernel_rfl)) hn h

def A_indexInts : List Ann := [⟨(some ⟨[0,1], [], []⟩), [], [], [], []⟩, ⟨(some ⟨[0,1,7,8], [], []⟩), [], [], [], []⟩, ⟨(some ⟨[0,1,7,8,9], [], []⟩), [], [], [], []⟩, ⟨(some ⟨[0,1,5,7,8], [], []⟩), [], [], [], []⟩, ⟨(some ⟨[0,1,5,7,8,16], [], []⟩), [], [], [], []⟩, ⟨(some ⟨[4], [], []⟩), [], [], [], []⟩, ⟨(some ⟨[0,1,7,8], [], []⟩), [], [], [], []⟩, ⟨(some ⟨[4], [], []⟩), [], [], [], []⟩]
def C_indexInts : AC := (.seq (.reg false [⟨(some 4), none, .mv (.v (.int .i64 (0)))⟩] (some ⟨[0,1], [], []⟩))
  (.seq (.seq (.reg false [⟨(some 6), none, .mv (.t 0)⟩, ⟨(some 7), none, .len (.t 6)⟩, ⟨(some 8), none, .mv (.v (.int .i64 (0)))⟩] (some ⟨[0,1,7,8], [], []⟩))
  (.block 0 (.loop (.seq (.reg false [⟨(some 9), none, .bin .lss (.t 8) (.t 7)⟩] (some ⟨[0,1,7,8,9], [], []⟩))
  (.seq (.cond (.t 9)
  .skip
  (.exit 0))
  (.seq (.block 1 (.seq (.reg false [⟨(some 10), none, .mv (.t 8)⟩, ⟨(some 5), none, .mv (.t 10)⟩] (some ⟨[0,1,5,7,8], [], []⟩))
  (.seq (.reg false [⟨(some 11), none, .mv (.t 1)⟩, ⟨(some 12), none, .mv (.t 0)⟩, ⟨(some 13), none, .mv (.t 5)⟩, ⟨(some 14), none, .iadr 1 (.t 12) (.t 13)⟩, ⟨(some 15), none, .load false 1 (.t 14)⟩, ⟨(some 16), none, .bin .eql (.t 11) (.t 15)⟩] (some ⟨[0,1,5,7,8,16], [], []⟩))
  (.cond (.t 16)
  (.seq (.reg false [⟨(some 17), none, .mv (.t 5)⟩, ⟨(some 4), none, .mv (.t 17)⟩] (some ⟨[4], [], []⟩))
  .ret)
  .skip))))
  (.reg false [⟨(some 18), none, .bin .add (.t 8) (.v (.int .i64 (1)))⟩, ⟨(some 8), none, .mv (.t 18)⟩] (some ⟨[0,1,7,8], [], []⟩))))))))
  (.seq (.reg false [⟨(some 4), none, .mv (.v (.int .i64 (-1)))⟩] (some ⟨[4], [], []⟩))
  .ret)))
theorem c_indexInts : compileCode Try.prog Try.f135.ntmps (Try.f135.body.getD .skip) A_indexInts = some (C_indexInts, []) := by kernel_rfl
theorem r_indexInts : compileRes Try.prog Try.f135.results.toList = some [.t 4] := by kernel_rfl
theorem b_indexInts : Try.f135.body = some (Try.f135.body.getD .skip) := by kernel_rfl
theorem n_indexInts : (Try.f135.name == "runtime.NumGoroutine") = false := by kernel_rfl
theorem fc_indexInts {xt : Option (List Cel)} {args : List Val} {R : List Cel → Val → Prop} (hn : (if xt.isSome then 1 else 0) + args.length ≤ Try.f135.ntmps) (h : ex Try.prog C_indexInts [] (fpost xt [.t 4] R) (initSt xt args)) : FC Try.prog 135 xt args R :=
  fc_of_awp Try.func135 b_indexInts n_indexInts c_indexInts r_indexInts (of_decide_eq_true (by kernel_rfl)) hn h

def A_eqInts : List Ann := [⟨(some ⟨[0,1], [], []⟩), [], [], [], []⟩, ⟨(some ⟨[0,1,10], [], []⟩), [], [], [], []⟩, ⟨(some ⟨[4], [], []⟩), [], [], [], []⟩, ⟨(some ⟨[0,1,12,13], [], []⟩), [], [], [], []⟩, ⟨(some ⟨[0,1,12,13,14], [], []⟩), [], [], [], []⟩, ⟨(some ⟨[0,1,5,12,13], [], []⟩), [], [], [], []⟩, ⟨(some ⟨[0,1,12,13,24], [], []⟩), [], [], [], []⟩, ⟨(some ⟨[4], [], []⟩), [], [], [], []⟩, ⟨(some ⟨[0,1,12,13], [], []⟩), [], [], [], []⟩, ⟨(some ⟨[4], [], []⟩), [], [], [], []⟩]
def C_eqInts : AC := (.seq (.reg false [⟨(some 4), none, .mv (.v (.bool false))⟩] (some ⟨[0,1], [], []⟩))
  (.seq (.seq (.reg false [⟨(some 6), none, .mv (.t 0)⟩, ⟨(some 7), none, .len (.t 6)⟩, ⟨(some 8), none, .mv (.t 1)⟩, ⟨(some 9), none, .len (.t 8)⟩, ⟨(some 10), none, .bin .neq (.t 7) (.t 9)⟩] (some ⟨[0,1,10], [], []⟩))
  (.cond (.t 10)
  (.seq (.reg false [⟨(some 4), none, .mv (.v (.bool false))⟩] (some ⟨[4], [], []⟩))
  .ret)
  .skip))
  (.seq (.seq (.reg false [⟨(some 11), none, .mv (.t 0)⟩, ⟨(some 12), none, .len (.t 11)⟩, ⟨(some 13), none, .mv (.v (.int .i64 (0)))⟩] (some ⟨[0,1,12,13], [], []⟩))
  (.block 0 (.loop (.seq (.reg false [⟨(some 14), none, .bin .lss (.t 13) (.t 12)⟩] (some ⟨[0,1,12,13,14], [], []⟩))
  (.seq (.cond (.t 14)
  .skip
  (.exit 0))
  (.seq (.block 1 (.seq (.reg false [⟨(some 15), none, .mv (.t 13)⟩, ⟨(some 5), none, .mv (.t 15)⟩] (some ⟨[0,1,5,12,13], [], []⟩))
  (.seq (.reg true [⟨(some 16), none, .mv (.t 0)⟩, ⟨(some 17), none, .mv (.t 5)⟩, ⟨(some 18), none, .iadr 1 (.t 16) (.t 17)⟩, ⟨(some 19), none, .load false 1 (.t 18)⟩, ⟨(some 20), none, .mv (.t 1)⟩, ⟨(some 21), none, .mv (.t 5)⟩, ⟨(some 22), none, .iadr 1 (.t 20) (.t 21)⟩, ⟨(some 23), none, .load false 1 (.t 22)⟩, ⟨(some 24), none, .bin .neq (.t 19) (.t 23)⟩] (some ⟨[0,1,12,13,24], [], []⟩))
  (.cond (.t 24)
  (.seq (.reg false [⟨(some 4), none, .mv (.v (.bool false))⟩] (some ⟨[4], [], []⟩))
  .ret)
  .skip))))
  (.reg false [⟨(some 25), none, .bin .add (.t 13) (.v (.int .i64 (1)))⟩, ⟨(some 13), none, .mv (.t 25)⟩] (some ⟨[0,1,12,13], [], []⟩))))))))
  (.seq (.reg false [⟨(some 4), none, .mv (.v (.bool true))⟩] (some ⟨[4], [], []⟩))
  .ret))))
theorem c_eqInts : compileCode Try.prog Try.f39.ntmps (Try.f39.body.getD .skip) A_eqInts = some (C_eqInts, []) := by kernel_rfl
theorem r_eqInts : compileRes Try.prog Try.f39.results.toList = some [.t 4] := by kernel_rfl
theorem b_eqInts : Try.f39.body = some (Try.f39.body.getD .skip) := by kernel_rfl
theorem n_eqInts : (Try.f39.name == "runtime.NumGoroutine") = false := by kernel_rfl
theorem fc_eqInts {xt : Option (List Cel)} {args : List Val} {R : List Cel → Val → Prop} (hn : (if xt.isSome then 1 else 0) + args.length ≤ Try.f39.ntmps) (h : ex Try.prog C_eqInts [] (fpost xt [.t 4] R) (initSt xt args)) : FC Try.prog 39 xt args R :=
  fc_of_awp Try.func39 b_eqInts n_eqInts c_eqInts r_eqInts (of_decide_eq_true (by kernel_rfl)) hn h

def A_pressed : List Ann := [⟨(some ⟨[], [], []⟩), [], [], [], []⟩, ⟨(some ⟨[1,2,3], [1], []⟩), [], [], [], []⟩, ⟨(some ⟨[0], [], []⟩), [], [], [], []⟩]
def C_pressed : AC := (.seq (.reg false [⟨(some 0), none, .mv (.v (.bool false))⟩] (some ⟨[], [], []⟩))
  (.seq (.reg false [⟨(some 5), none, .build [(.int .i64 (0)), (.int .i64 (0)), (.int .i64 (0))] [(0, 1, (.v (.int .i64 (0)))), (1, 1, (.v (.int .i64 (0))))]⟩, ⟨(some 6), none, .build [(.int .i64 (0)), (.int .i64 (0)), (.int .i64 (0))] [(0, 1, (.v (.int .i64 (4)))), (1, 1, (.v (.int .i64 (2))))]⟩, ⟨(some 7), none, .bslice 3 2 [(.t 5), (.t 6)]⟩, ⟨(some 8), none, .call (.f 95) [(.t 7), (.v (.int .i64 (1)))]⟩, ⟨(some 4), none, .mv (.t 8)⟩, ⟨(some 9), none, .extr (.t 4) 0⟩, ⟨(some 10), none, .extr (.t 4) 1⟩, ⟨(some 11), none, .extr (.t 4) 2⟩, ⟨(some 1), none, .alloc [(.int .i64 (0)), (.int .i64 (0))]⟩, ⟨none, none, .store 2 (.t 1) (.t 9)⟩, ⟨(some 2), none, .mv (.t 10)⟩, ⟨(some 3), none, .mv (.t 11)⟩] (some ⟨[1,2,3], [1], []⟩))
  (.seq (.reg false [⟨(some 12), none, .mv (.t 3)⟩, ⟨(some 13), none, .bin .eql (.t 12) (.v (.int .i64 (0)))⟩, ⟨(some 14), none, .mv (.t 13)⟩, ⟨(some 15), (some (14, true)), .mv (.t 2)⟩, ⟨(some 16), none, .pick (.t 14) (.t 15) (.v (.bool false))⟩, ⟨(some 17), none, .mv (.t 16)⟩, ⟨(some 18), (some (17, true)), .load true 2 (.t 1)⟩, ⟨(some 19), (some (17, true)), .build [(.int .i64 (0)), (.int .i64 (0))] [(0, 1, (.v (.int .i64 (1)))), (1, 1, (.v (.int .i64 (2))))]⟩, ⟨(some 20), (some (17, true)), .eqs false true [.i .i64, .i .i64] (.t 18) (.t 19)⟩, ⟨(some 21), none, .pick (.t 17) (.t 20) (.v (.bool false))⟩, ⟨(some 0), none, .mv (.t 21)⟩] (some ⟨[0], [], []⟩))
  .ret)))
theorem c_pressed : compileCode Try.prog Try.f38.ntmps (Try.f38.body.getD .skip) A_pressed = some (C_pressed, []) := by kernel_rfl
theorem r_pressed : compileRes Try.prog Try.f38.results.toList = some [.t 0] := by kernel_rfl
theorem b_pressed : Try.f38.body = some (Try.f38.body.getD .skip) := by kernel_rfl
theorem n_pressed : (Try.f38.name == "runtime.NumGoroutine") = false := by kernel_rfl
theorem fc_pressed {xt : Option (List Cel)} {args : List Val} {R : List Cel → Val → Prop} (hn : (if xt.isSome then 1 else 0) + args.length ≤ Try.f38.ntmps) (h : ex Try.prog C_pressed [] (fpost xt [.t 0] R) (initSt xt args)) : FC Try.prog 38 xt args R :=
  fc_of_awp Try.func38 b_pressed n_pressed c_pressed r_pressed (of_decide_eq_true (by kernel_rfl)) hn h


abbrev twoV (a b : Int) : Val := .ag [.g (.int .i64 a), .g (.int .i64 b)]
theorem exceptionOf_fc : Gen Try.prog 31 [] 7 (fun r => ∃ x y, I64 x ∧ I64 y ∧ r = twoV x y) := by
  intro L p hL hl h0 hp
  refine fc_exceptionOf (by simp +arith) ?_
  unfold C_exceptionOf strm
  simp (maxSteps := 1000000) (disch := omega) only [go_sem, eq_self, decide_true, decide_false, not_true_eq_false, not_false_eq_true, reduceIte, reduceCtorEq, Nat.reduceEqDiff, Nat.reduceAdd, Nat.reduceSub, Nat.reduceLeDiff]
  refine callx_gen (pick_fc false [0, 1, 2, 5] (by simp) (by simp)) hL hl (by omega) (by omega) ⟨_, 0, by simp, rfl⟩ ?_
  rintro pa r haa hba ⟨za, hza, rfl⟩
  refine ⟨rfl, ?_⟩
  unfold strm
  simp only [List.mem_cons, List.not_mem_nil, or_false] at hza
  simp (maxSteps := 1000000) (disch := omega) only [go_sem, eq_self, decide_true, decide_false, not_true_eq_false, not_false_eq_true, reduceIte, reduceCtorEq, Nat.reduceEqDiff, Nat.reduceAdd, Nat.reduceSub, Nat.reduceLeDiff]
  refine callx_gen (pick_fc false [1, 10, 30, 1000] (by simp) (by simp)) hL hl (by omega) (by omega) ⟨_, 1, by simp, rfl⟩ ?_
  rintro pb r hab hbb ⟨zb, hzb, rfl⟩
  refine ⟨rfl, ?_⟩
  unfold strm
  simp only [List.mem_cons, List.not_mem_nil, or_false] at hzb
  simp (maxSteps := 1000000) (disch := omega) only [go_sem, eq_self, decide_true, decide_false, not_true_eq_false, not_false_eq_true, reduceIte, reduceCtorEq, Nat.reduceEqDiff, Nat.reduceAdd, Nat.reduceSub, Nat.reduceLeDiff]
  refine callx_gen (flip_fc 15 (by omega) (by omega)) hL hl (by omega) (by omega) ⟨_, true, rfl⟩ ?_
  rintro pc r hac hbc ⟨bc, rfl⟩
  refine ⟨rfl, ?_⟩
  unfold strm
  simp (maxSteps := 1000000) (disch := omega) only [go_sem, eq_self, decide_true, decide_false, not_true_eq_false, not_false_eq_true, reduceIte, reduceCtorEq, Nat.reduceEqDiff, Nat.reduceAdd, Nat.reduceSub, Nat.reduceLeDiff]
  refine ⟨fun h => ?_, fun h => ?_⟩
  ·
    refine callx_gen (odd_fc 0 2000000 (by omega) (by omega) (by omega)) hL hl (by omega) (by omega) ⟨_, 0, by simp [I64], rfl⟩ ?_
    rintro pd r had hbd ⟨zd, hzd, rfl⟩
    refine ⟨rfl, ?_⟩
    unfold strm
    simp (maxSteps := 1000000) (disch := omega) only [go_sem, eq_self, decide_true, decide_false, not_true_eq_false, not_false_eq_true, reduceIte, reduceCtorEq, Nat.reduceEqDiff, Nat.reduceAdd, Nat.reduceSub, Nat.reduceLeDiff]
    refine callx_gen (odd_fc 1 34560000000 (by omega) (by omega) (by omega)) hL hl (by omega) (by omega) ⟨_, 0, by simp [I64], rfl⟩ ?_
    rintro pe r hae hbe ⟨ze, hze, rfl⟩
    refine ⟨rfl, ?_⟩
    unfold strm
    simp (maxSteps := 1000000) (disch := omega) only [go_sem, eq_self, decide_true, decide_false, not_true_eq_false, not_false_eq_true, reduceIte, reduceCtorEq, Nat.reduceEqDiff, Nat.reduceAdd, Nat.reduceSub, Nat.reduceLeDiff]
    exact ⟨⟨pe, by omega, by omega, rfl⟩, _, _, hzd, hze, rfl⟩
  · exact ⟨⟨pc, by omega, by omega, rfl⟩, _, _, by unfold I64; omega, by unfold I64; omega, rfl⟩
theorem doorOf_fc : Gen Try.prog 32 [] 7 (fun r => ∃ x y, I64 x ∧ I64 y ∧ r = twoV x y) := by
  intro L p hL hl h0 hp
  refine fc_doorOf (by simp +arith) ?_
  unfold C_doorOf strm
  simp (maxSteps := 1000000) (disch := omega) only [go_sem, eq_self, decide_true, decide_false, not_true_eq_false, not_false_eq_true, reduceIte, reduceCtorEq, Nat.reduceEqDiff, Nat.reduceAdd, Nat.reduceSub, Nat.reduceLeDiff]
  refine callx_gen (pick_fc false [0, 1, 1, 2, 4] (by simp) (by simp)) hL hl (by omega) (by omega) ⟨_, 0, by simp, rfl⟩ ?_
  rintro pa r haa hba ⟨za, hza, rfl⟩
  refine ⟨rfl, ?_⟩
  unfold strm
  simp only [List.mem_cons, List.not_mem_nil, or_false] at hza
  simp (maxSteps := 1000000) (disch := omega) only [go_sem, eq_self, decide_true, decide_false, not_true_eq_false, not_false_eq_true, reduceIte, reduceCtorEq, Nat.reduceEqDiff, Nat.reduceAdd, Nat.reduceSub, Nat.reduceLeDiff]
  refine callx_gen (pick_fc false [1, 10, 30, 1000, 1000] (by simp) (by simp)) hL hl (by omega) (by omega) ⟨_, 1, by simp, rfl⟩ ?_
  rintro pb r hab hbb ⟨zb, hzb, rfl⟩
  refine ⟨rfl, ?_⟩
  unfold strm
  simp only [List.mem_cons, List.not_mem_nil, or_false] at hzb
  simp (maxSteps := 1000000) (disch := omega) only [go_sem, eq_self, decide_true, decide_false, not_true_eq_false, not_false_eq_true, reduceIte, reduceCtorEq, Nat.reduceEqDiff, Nat.reduceAdd, Nat.reduceSub, Nat.reduceLeDiff]
  refine callx_gen (flip_fc 15 (by omega) (by omega)) hL hl (by omega) (by omega) ⟨_, true, rfl⟩ ?_
  rintro pc r hac hbc ⟨bc, rfl⟩
  refine ⟨rfl, ?_⟩
  unfold strm
  simp (maxSteps := 1000000) (disch := omega) only [go_sem, eq_self, decide_true, decide_false, not_true_eq_false, not_false_eq_true, reduceIte, reduceCtorEq, Nat.reduceEqDiff, Nat.reduceAdd, Nat.reduceSub, Nat.reduceLeDiff]
  refine ⟨fun h => ?_, fun h => ?_⟩
  ·
    refine callx_gen (odd_fc 0 2000000 (by omega) (by omega) (by omega)) hL hl (by omega) (by omega) ⟨_, 0, by simp [I64], rfl⟩ ?_
    rintro pd r had hbd ⟨zd, hzd, rfl⟩
    refine ⟨rfl, ?_⟩
    unfold strm
    simp (maxSteps := 1000000) (disch := omega) only [go_sem, eq_self, decide_true, decide_false, not_true_eq_false, not_false_eq_true, reduceIte, reduceCtorEq, Nat.reduceEqDiff, Nat.reduceAdd, Nat.reduceSub, Nat.reduceLeDiff]
    refine callx_gen (odd_fc 1 34560000000 (by omega) (by omega) (by omega)) hL hl (by omega) (by omega) ⟨_, 0, by simp [I64], rfl⟩ ?_
    rintro pe r hae hbe ⟨ze, hze, rfl⟩
    refine ⟨rfl, ?_⟩
    unfold strm
    simp (maxSteps := 1000000) (disch := omega) only [go_sem, eq_self, decide_true, decide_false, not_true_eq_false, not_false_eq_true, reduceIte, reduceCtorEq, Nat.reduceEqDiff, Nat.reduceAdd, Nat.reduceSub, Nat.reduceLeDiff]
    exact ⟨⟨pe, by omega, by omega, rfl⟩, _, _, hzd, hze, rfl⟩
  · exact ⟨⟨pc, by omega, by omega, rfl⟩, _, _, by unfold I64; omega, by unfold I64; omega, rfl⟩
def excF (x y : Int) : Int := if 0 ≤ x ∧ x ≤ 2000000 ∧ 1 ≤ y ∧ y ≤ 34560000000 then 0 else 1
theorem checkException_fc (x y : Int) : FC Try.prog 33 none [twoV x y] (fun _ r => r = iv (excF x y)) := by
  refine fc_checkException (by simp +arith) ?_
  unfold C_checkException
  simp (maxSteps := 1000000) (disch := omega) only [go_sem, eq_self, decide_true, decide_false, not_true_eq_false, not_false_eq_true, reduceIte, reduceCtorEq, Nat.reduceEqDiff, Nat.reduceAdd, Nat.reduceSub, Nat.reduceLeDiff]
  refine CALL_det (out_fc _ _ _) (.inl rfl) ?_
  by_cases h1 : x < 0 ∨ x > 2000000
  · rw [decide_eq_true h1]
    simp (maxSteps := 1000000) (disch := omega) only [go_sem, eq_self, decide_true, decide_false, not_true_eq_false, not_false_eq_true, reduceIte, reduceCtorEq, Nat.reduceEqDiff, Nat.reduceAdd, Nat.reduceSub, Nat.reduceLeDiff]
    exact iv_congr (by unfold excF; rw [if_neg (by omega)])
  · rw [decide_eq_false h1]
    simp (maxSteps := 1000000) (disch := omega) only [go_sem, eq_self, decide_true, decide_false, not_true_eq_false, not_false_eq_true, reduceIte, reduceCtorEq, Nat.reduceEqDiff, Nat.reduceAdd, Nat.reduceSub, Nat.reduceLeDiff]
    refine CALL_det (out_fc _ _ _) (.inl rfl) ?_
    simp (maxSteps := 1000000) (disch := omega) only [go_sem, eq_self, decide_true, decide_false, not_true_eq_false, not_false_eq_true, reduceIte, reduceCtorEq, Nat.reduceEqDiff, Nat.reduceAdd, Nat.reduceSub, Nat.reduceLeDiff]
    (repeat' (first | apply And.intro | intro _)) <;> first | rfl | omega | exact iv_congr (by first | omega | ((try simp only [excF]); (repeat' split) <;> (first | omega | (simp_all; done) | (simp_all; omega)))) | exact bv_dec (by first | omega | ((try simp only [excF]); (repeat' split) <;> omega)) | exact bv_ndec (by first | omega | ((try simp only [excF]); (repeat' split) <;> omega)) | exact bv_f (by first | omega | ((try simp only [excF]); (repeat' split) <;> omega)) | exact bv_t (by first | omega | ((try simp only [excF]); (repeat' split) <;> omega))
theorem checkDoor_fc (x y : Int) : FC Try.prog 35 none [twoV x y] (fun _ r => r = iv (excF x y)) := by
  refine fc_checkDoor (by simp +arith) ?_
  unfold C_checkDoor
  simp (maxSteps := 1000000) (disch := omega) only [go_sem, eq_self, decide_true, decide_false, not_true_eq_false, not_false_eq_true, reduceIte, reduceCtorEq, Nat.reduceEqDiff, Nat.reduceAdd, Nat.reduceSub, Nat.reduceLeDiff]
  refine CALL_det (out_fc _ _ _) (.inl rfl) ?_
  by_cases h1 : x < 0 ∨ x > 2000000
  · rw [decide_eq_true h1]
    simp (maxSteps := 1000000) (disch := omega) only [go_sem, eq_self, decide_true, decide_false, not_true_eq_false, not_false_eq_true, reduceIte, reduceCtorEq, Nat.reduceEqDiff, Nat.reduceAdd, Nat.reduceSub, Nat.reduceLeDiff]
    exact iv_congr (by unfold excF; rw [if_neg (by omega)])
  · rw [decide_eq_false h1]
    simp (maxSteps := 1000000) (disch := omega) only [go_sem, eq_self, decide_true, decide_false, not_true_eq_false, not_false_eq_true, reduceIte, reduceCtorEq, Nat.reduceEqDiff, Nat.reduceAdd, Nat.reduceSub, Nat.reduceLeDiff]
    refine CALL_det (out_fc _ _ _) (.inl rfl) ?_
    simp (maxSteps := 1000000) (disch := omega) only [go_sem, eq_self, decide_true, decide_false, not_true_eq_false, not_false_eq_true, reduceIte, reduceCtorEq, Nat.reduceEqDiff, Nat.reduceAdd, Nat.reduceSub, Nat.reduceLeDiff]
    (repeat' (first | apply And.intro | intro _)) <;> first | rfl | omega | exact iv_congr (by first | omega | ((try simp only [excF]); (repeat' split) <;> (first | omega | (simp_all; done) | (simp_all; omega)))) | exact bv_dec (by first | omega | ((try simp only [excF]); (repeat' split) <;> omega)) | exact bv_ndec (by first | omega | ((try simp only [excF]); (repeat' split) <;> omega)) | exact bv_f (by first | omega | ((try simp only [excF]); (repeat' split) <;> omega)) | exact bv_t (by first | omega | ((try simp only [excF]); (repeat' split) <;> omega))
theorem excF_or (x y : Int) : orSp [if 0 ≤ x ∧ x ≤ 2000000 then 0 else 1, if 1 ≤ y ∧ y ≤ 34560000000 then 0 else 1] = excF x y := by
  unfold excF orSp orSp orSp; split <;> split <;> split <;> simp_all <;> omega
theorem exceptionFault_fc (x y : Int) : FC Try.prog 34 none [twoV x y] (fun _ r => r = iv (excF x y)) := by
  refine fc_exceptionFault (by simp +arith) ?_
  unfold C_exceptionFault
  simp (maxSteps := 1000000) (disch := omega) only [go_sem, eq_self, decide_true, decide_false, not_true_eq_false, not_false_eq_true, reduceIte, reduceCtorEq, Nat.reduceEqDiff, Nat.reduceAdd, Nat.reduceSub, Nat.reduceLeDiff]
  refine CALL_det (spanFault1_fc _ _ _) (.inl rfl) ?_
  simp (maxSteps := 1000000) (disch := omega) only [go_sem, eq_self, decide_true, decide_false, not_true_eq_false, not_false_eq_true, reduceIte, reduceCtorEq, Nat.reduceEqDiff, Nat.reduceAdd, Nat.reduceSub, Nat.reduceLeDiff]
  refine CALL_det (spanFault1_fc _ _ _) (.inl rfl) ?_
  simp (maxSteps := 1000000) (disch := omega) only [go_sem, eq_self, decide_true, decide_false, not_true_eq_false, not_false_eq_true, reduceIte, reduceCtorEq, Nat.reduceEqDiff, Nat.reduceAdd, Nat.reduceSub, Nat.reduceLeDiff]
  refine CALL_det (orE_fc false [if 0 ≤ x ∧ x ≤ 2000000 then 0 else 1, if 1 ≤ y ∧ y ≤ 34560000000 then 0 else 1] (by simp)) (.inl rfl) ?_
  rw [excF_or]
  simp (maxSteps := 1000000) (disch := omega) only [go_sem, eq_self, decide_true, decide_false, not_true_eq_false, not_false_eq_true, reduceIte, reduceCtorEq, Nat.reduceEqDiff, Nat.reduceAdd, Nat.reduceSub, Nat.reduceLeDiff]
theorem doorFault_fc (x y : Int) : FC Try.prog 36 none [twoV x y] (fun _ r => r = iv (excF x y)) := by
  refine fc_doorFault (by simp +arith) ?_
  unfold C_doorFault
  simp (maxSteps := 1000000) (disch := omega) only [go_sem, eq_self, decide_true, decide_false, not_true_eq_false, not_false_eq_true, reduceIte, reduceCtorEq, Nat.reduceEqDiff, Nat.reduceAdd, Nat.reduceSub, Nat.reduceLeDiff]
  refine CALL_det (spanFault1_fc _ _ _) (.inl rfl) ?_
  simp (maxSteps := 1000000) (disch := omega) only [go_sem, eq_self, decide_true, decide_false, not_true_eq_false, not_false_eq_true, reduceIte, reduceCtorEq, Nat.reduceEqDiff, Nat.reduceAdd, Nat.reduceSub, Nat.reduceLeDiff]
  refine CALL_det (spanFault1_fc _ _ _) (.inl rfl) ?_
  simp (maxSteps := 1000000) (disch := omega) only [go_sem, eq_self, decide_true, decide_false, not_true_eq_false, not_false_eq_true, reduceIte, reduceCtorEq, Nat.reduceEqDiff, Nat.reduceAdd, Nat.reduceSub, Nat.reduceLeDiff]
  refine CALL_det (orE_fc false [if 0 ≤ x ∧ x ≤ 2000000 then 0 else 1, if 1 ≤ y ∧ y ≤ 34560000000 then 0 else 1] (by simp)) (.inl rfl) ?_
  rw [excF_or]
  simp (maxSteps := 1000000) (disch := omega) only [go_sem, eq_self, decide_true, decide_false, not_true_eq_false, not_false_eq_true, reduceIte, reduceCtorEq, Nat.reduceEqDiff, Nat.reduceAdd, Nat.reduceSub, Nat.reduceLeDiff]
def fstSt (fr : Bool) (l : List Int) (i : Int) : AS := ⟨tabV [(5, ints fr l), (6, iv l.length), (7, iv i)], tabO [], tabO []⟩
theorem first_fc (fr : Bool) (l : List Int) (hl : l.length ≤ 4611686018427387904) : FC Try.prog 94 none [ints fr l] (fun _ r => r = iv (orSp l)) := by
  refine fc_first (by simp +arith) ?_
  unfold C_first
  simp (maxSteps := 1000000) (disch := omega) only [go_sem, eq_self, decide_true, decide_false, not_true_eq_false, not_false_eq_true, reduceIte, reduceCtorEq, Nat.reduceEqDiff, Nat.reduceAdd, Nat.reduceSub, Nat.reduceLeDiff]
  refine ex_loop1 (fstSt fr l) (fun i => 0 ≤ i ∧ i ≤ l.length ∧ orSp (l.drop i.toNat) = orSp l) (fun i => (l.length - i).toNat) 0 ⟨by omega, by omega, rfl⟩ rfl ?_
  rintro i ⟨g1, g2, g3⟩
  unfold fstSt
  by_cases hi : i < l.length
  · rw [drop_cons l i.toNat (by omega), orSp] at g3
    have e2 : (i + 1).toNat = i.toNat + 1 := by omega
    simp (maxSteps := 1000000) (disch := omega) only [go_sem, eq_self, decide_true, decide_false, not_true_eq_false, not_false_eq_true, reduceIte, reduceCtorEq, Nat.reduceEqDiff, Nat.reduceAdd, Nat.reduceSub, Nat.reduceLeDiff]
    refine ⟨fun h => ?_, fun h => ⟨i + 1, rfl, ⟨by omega, by omega, ?_⟩, by omega⟩⟩
    · rw [if_pos h] at g3; rw [g3]
    · rw [if_neg h] at g3; rw [e2]; exact g3
  · simp (maxSteps := 1000000) (disch := omega) only [go_sem, eq_self, decide_true, decide_false, not_true_eq_false, not_false_eq_true, reduceIte, reduceCtorEq, Nat.reduceEqDiff, Nat.reduceAdd, Nat.reduceSub, Nat.reduceLeDiff]
    rw [← g3, List.drop_eq_nil_of_le (by omega)]
    rfl
def idxE (x : Int) : Int → List Int → Int
  | _, [] => -1
  | i, y :: l => if x = y then i else idxE x (i + 1) l
theorem idxE_mem (x : Int) : ∀ (l : List Int) (i : Int), 0 ≤ i → (0 ≤ idxE x i l ↔ x ∈ l)
  | [], i, h => by simp [idxE]
  | y :: l, i, h => by
    rw [idxE, List.mem_cons]
    by_cases hx : x = y
    · rw [if_pos hx]; simp [hx, h]
    · rw [if_neg hx, idxE_mem x l (i + 1) (by omega)]; simp [hx]
def ixiSt (fr : Bool) (l : List Int) (x : Int) (i : Int) : AS := ⟨tabV [(0, ints fr l), (1, iv x), (7, iv l.length), (8, iv i)], tabO [], tabO []⟩
theorem indexInts_fc (fr : Bool) (l : List Int) (hl : l.length ≤ 4611686018427387904) (x : Int) : FC Try.prog 135 none [ints fr l, iv x] (fun _ r => r = iv (idxE x 0 l)) := by
  refine fc_indexInts (by simp +arith) ?_
  unfold C_indexInts
  simp (maxSteps := 1000000) (disch := omega) only [go_sem, eq_self, decide_true, decide_false, not_true_eq_false, not_false_eq_true, reduceIte, reduceCtorEq, Nat.reduceEqDiff, Nat.reduceAdd, Nat.reduceSub, Nat.reduceLeDiff]
  refine ex_loop1 (ixiSt fr l x) (fun i => 0 ≤ i ∧ i ≤ l.length ∧ idxE x i (l.drop i.toNat) = idxE x 0 l) (fun i => (l.length - i).toNat) 0 ⟨by omega, by omega, rfl⟩ rfl ?_
  rintro i ⟨g1, g2, g3⟩
  unfold ixiSt
  by_cases hi : i < l.length
  · rw [drop_cons l i.toNat (by omega), idxE] at g3
    have e2 : (i + 1).toNat = i.toNat + 1 := by omega
    by_cases h : x = l.getD i.toNat default
    · rw [if_pos h] at g3
      simp (maxSteps := 1000000) (disch := omega) only [go_sem, eq_self, decide_true, decide_false, not_true_eq_false, not_false_eq_true, reduceIte, reduceCtorEq, Nat.reduceEqDiff, Nat.reduceAdd, Nat.reduceSub, Nat.reduceLeDiff]
      rw [← g3]
    · rw [if_neg h] at g3
      simp (maxSteps := 1000000) (disch := omega) only [go_sem, eq_self, decide_true, decide_false, not_true_eq_false, not_false_eq_true, reduceIte, reduceCtorEq, Nat.reduceEqDiff, Nat.reduceAdd, Nat.reduceSub, Nat.reduceLeDiff]
      exact ⟨_, rfl, ⟨by omega, by omega, by rw [e2]; exact g3⟩, by omega⟩
  · rw [List.drop_eq_nil_of_le (by omega), idxE] at g3
    simp (maxSteps := 1000000) (disch := omega) only [go_sem, eq_self, decide_true, decide_false, not_true_eq_false, not_false_eq_true, reduceIte, reduceCtorEq, Nat.reduceEqDiff, Nat.reduceAdd, Nat.reduceSub, Nat.reduceLeDiff]
    rw [← g3]
theorem contInts_fc (fr : Bool) (l : List Int) (hl : l.length ≤ 4611686018427387904) (x : Int) : FC Try.prog 97 none [ints fr l, iv x] (fun _ r => r = bv (decide (x ∈ l))) := by
  refine fc_contInts (by simp +arith) ?_
  unfold C_contInts
  simp (maxSteps := 1000000) (disch := omega) only [go_sem, eq_self, decide_true, decide_false, not_true_eq_false, not_false_eq_true, reduceIte, reduceCtorEq, Nat.reduceEqDiff, Nat.reduceAdd, Nat.reduceSub, Nat.reduceLeDiff]
  refine CALL_det (indexInts_fc false l hl x) (.inl rfl) ?_
  simp (maxSteps := 1000000) (disch := omega) only [go_sem, eq_self, decide_true, decide_false, not_true_eq_false, not_false_eq_true, reduceIte, reduceCtorEq, Nat.reduceEqDiff, Nat.reduceAdd, Nat.reduceSub, Nat.reduceLeDiff]
  exact bv_dec (idxE_mem x l 0 (by omega))
def eqISt (fr fr' : Bool) (l : List Int) (i : Int) : AS := ⟨tabV [(0, ints fr l), (1, ints fr' l), (12, iv l.length), (13, iv i)], tabO [], tabO []⟩
theorem eqInts_fc (fr fr' : Bool) (l : List Int) (hl : l.length ≤ 4611686018427387904) : FC Try.prog 39 none [ints fr l, ints fr' l] (fun _ r => r = bv true) := by
  refine fc_eqInts (by simp +arith) ?_
  unfold C_eqInts
  simp (maxSteps := 1000000) (disch := omega) only [go_sem, eq_self, decide_true, decide_false, not_true_eq_false, not_false_eq_true, reduceIte, reduceCtorEq, Nat.reduceEqDiff, Nat.reduceAdd, Nat.reduceSub, Nat.reduceLeDiff]
  refine ex_loop1 (eqISt fr fr' l) (fun i => 0 ≤ i ∧ i ≤ l.length) (fun i => (l.length - i).toNat) 0 ⟨by omega, by omega⟩ rfl ?_
  rintro i ⟨g1, g2⟩
  unfold eqISt
  by_cases hi : i < l.length
  · simp (maxSteps := 1000000) (disch := omega) only [go_sem, eq_self, decide_true, decide_false, not_true_eq_false, not_false_eq_true, reduceIte, reduceCtorEq, Nat.reduceEqDiff, Nat.reduceAdd, Nat.reduceSub, Nat.reduceLeDiff]
    exact ⟨_, rfl, ⟨by omega, by omega⟩, by omega⟩
  · simp (maxSteps := 1000000) (disch := omega) only [go_sem, eq_self, decide_true, decide_false, not_true_eq_false, not_false_eq_true, reduceIte, reduceCtorEq, Nat.reduceEqDiff, Nat.reduceAdd, Nat.reduceSub, Nat.reduceLeDiff]
theorem pressed_fc : FC Try.prog 38 none [] (fun _ r => r = bv true) := by
  refine fc_pressed (by simp +arith) ?_
  unfold C_pressed
  simp (maxSteps := 1000000) (disch := omega) only [go_sem, eq_self, decide_true, decide_false, not_true_eq_false, not_false_eq_true, reduceIte, reduceCtorEq, Nat.reduceEqDiff, Nat.reduceAdd, Nat.reduceSub, Nat.reduceLeDiff]
  refine CALL_det (reconstruct_fc [⟨0, 0, 0⟩, ⟨4, 2, 0⟩] (by simp) 1) (.inl rfl) ?_
  have e : recoSp [⟨0, 0, 0⟩, ⟨4, 2, 0⟩] 1 = ((1, 2), true, 0) := by kernel_rfl
  rw [e]
  simp (maxSteps := 1000000) (disch := omega) only [go_sem, eq_self, decide_true, decide_false, not_true_eq_false, not_false_eq_true, reduceIte, reduceCtorEq, Nat.reduceEqDiff, Nat.reduceAdd, Nat.reduceSub, Nat.reduceLeDiff]
end Go.Proofs.Ytkecmbgjhamhiaa

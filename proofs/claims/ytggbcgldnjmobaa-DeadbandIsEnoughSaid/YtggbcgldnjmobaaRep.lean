
/-
  Reports: exceptions, doors, Report and the reference's: their answers are one.
-/
import Derived.Test.YtggbcgldnjmobaaRec
import Derived.Test.YtggbcgldnjmobaaCrossb
import Derived.Test.YtggbcgldnjmobaaPts
namespace Go.Proofs.Ytggbcgldnjmobaa
open Go Go.Ai
set_option linter.unusedSimpArgs false
set_option linter.unusedVariables false
set_option maxHeartbeats 4000000
def A_doorOf : List Ann := [⟨(some ⟨[0,2], [0,2], []⟩), [], [], [], []⟩, ⟨(some ⟨[0,2,3], [0,2,3], []⟩), [], [], [], []⟩, ⟨(some ⟨[0,2,3,12], [0,2,3], []⟩), [], [], [], []⟩, ⟨(some ⟨[2,3], [0,2,3], []⟩), [], [], [], []⟩, ⟨(some ⟨[2], [0,2], []⟩), [], [], [], []⟩]
def C_doorOf : AC := (.seq (.reg false [⟨(some 2), none, .alloc [(.int .i64 (0)), (.int .i64 (0))]⟩] (some ⟨[0,2], [0,2], []⟩))
  (.seq (.reg false [⟨(some 4), none, .mv (.t 0)⟩, ⟨(some 5), none, .bslice 1 5 [(.v (.int .i64 (0))), (.v (.int .i64 (1))), (.v (.int .i64 (1))), (.v (.int .i64 (2))), (.v (.int .i64 (4)))]⟩, ⟨(some 6), none, .callx (.f 57) [(.t 4), (.t 5)]⟩, ⟨(some 7), none, .mv (.t 0)⟩, ⟨(some 8), none, .bslice 1 5 [(.v (.int .i64 (1))), (.v (.int .i64 (10))), (.v (.int .i64 (30))), (.v (.int .i64 (1000))), (.v (.int .i64 (1000)))]⟩, ⟨(some 9), none, .callx (.f 57) [(.t 7), (.t 8)]⟩, ⟨(some 10), none, .build [(.int .i64 (0)), (.int .i64 (0))] [(0, 1, (.t 6)), (1, 1, (.t 9))]⟩, ⟨(some 3), none, .alloc [(.int .i64 (0)), (.int .i64 (0))]⟩, ⟨none, none, .store 2 (.t 3) (.t 10)⟩] (some ⟨[0,2,3], [0,2,3], []⟩))
  (.seq (.seq (.reg false [⟨(some 11), none, .mv (.t 0)⟩, ⟨(some 12), none, .callx (.f 21) [(.t 11), (.v (.int .i64 (15)))]⟩] (some ⟨[0,2,3,12], [0,2,3], []⟩))
  (.cond (.t 12)
  (.reg false [⟨(some 13), none, .mv (.t 0)⟩, ⟨(some 14), none, .callx (.f 74) [(.t 13), (.v (.int .i64 (0))), (.v (.int .i64 (2000000)))]⟩, ⟨(some 15), none, .mv (.t 0)⟩, ⟨(some 16), none, .callx (.f 74) [(.t 15), (.v (.int .i64 (1))), (.v (.int .i64 (34560000000)))]⟩, ⟨(some 17), none, .fadr 0 (.t 3)⟩, ⟨none, none, .store 1 (.t 17) (.t 14)⟩, ⟨(some 18), none, .fadr 1 (.t 3)⟩, ⟨none, none, .store 1 (.t 18) (.t 16)⟩] (some ⟨[2,3], [0,2,3], []⟩))
  .skip))
  (.seq (.reg false [⟨(some 19), none, .load true 2 (.t 3)⟩, ⟨none, none, .store 2 (.t 2) (.t 19)⟩] (some ⟨[2], [0,2], []⟩))
  .ret))))
theorem c_doorOf : compileCode Try.prog Try.f14.ntmps (Try.f14.body.getD .skip) A_doorOf = some (C_doorOf, []) := by kernel_rfl
theorem r_doorOf : compileRes Try.prog Try.f14.results.toList = some [.cell 2 true 2] := by kernel_rfl
theorem b_doorOf : Try.f14.body = some (Try.f14.body.getD .skip) := by kernel_rfl
theorem n_doorOf : (Try.f14.name == "runtime.NumGoroutine") = false := by kernel_rfl
theorem fc_doorOf {xt : Option (List Cel)} {args : List Val} {R : List Cel → Val → Prop} (hn : (if xt.isSome then 1 else 0) + args.length ≤ Try.f14.ntmps) (h : ex Try.prog C_doorOf [] (fpost xt [.cell 2 true 2] R) (initSt xt args)) : FC Try.prog 14 xt args R :=
  fc_of_awp Try.func14 b_doorOf n_doorOf c_doorOf r_doorOf (of_decide_eq_true (by kernel_rfl)) hn h

def A_checkDoor : List Ann := [⟨(some ⟨[1], [1], []⟩), [], [], [], []⟩, ⟨(some ⟨[10], [], []⟩), [], [], [], []⟩, ⟨(some ⟨[2], [], []⟩), [], [], [], []⟩, ⟨(some ⟨[2], [], []⟩), [], [], [], []⟩]
def C_checkDoor : AC := (.seq (.reg false [⟨(some 1), none, .box (.t 0)⟩, ⟨(some 2), none, .mv (.v (.int .i64 (0)))⟩] (some ⟨[1], [1], []⟩))
  (.seq (.seq (.reg false [⟨(some 3), none, .fadr 0 (.t 1)⟩, ⟨(some 4), none, .load false 1 (.t 3)⟩, ⟨(some 5), none, .call (.f 97) [(.t 4), (.v (.int .i64 (0))), (.v (.int .i64 (2000000)))]⟩, ⟨(some 6), none, .mv (.t 5)⟩, ⟨(some 7), (some (6, false)), .fadr 1 (.t 1)⟩, ⟨(some 8), (some (6, false)), .load false 1 (.t 7)⟩, ⟨(some 9), (some (6, false)), .call (.f 97) [(.t 8), (.v (.int .i64 (1))), (.v (.int .i64 (34560000000)))]⟩, ⟨(some 10), none, .pick (.t 6) (.v (.bool true)) (.t 9)⟩] (some ⟨[10], [], []⟩))
  (.cond (.t 10)
  (.seq (.reg false [⟨(some 2), none, .mv (.v (.int .i64 (1)))⟩] (some ⟨[2], [], []⟩))
  .ret)
  .skip))
  (.seq (.reg false [⟨(some 2), none, .mv (.v (.int .i64 (0)))⟩] (some ⟨[2], [], []⟩))
  .ret)))
theorem c_checkDoor : compileCode Try.prog Try.f75.ntmps (Try.f75.body.getD .skip) A_checkDoor = some (C_checkDoor, []) := by kernel_rfl
theorem r_checkDoor : compileRes Try.prog Try.f75.results.toList = some [.t 2] := by kernel_rfl
theorem b_checkDoor : Try.f75.body = some (Try.f75.body.getD .skip) := by kernel_rfl
theorem n_checkDoor : (Try.f75.name == "runtime.NumGoroutine") = false := by kernel_rfl
theorem fc_checkDoor {xt : Option (List Cel)} {args : List Val} {R : List Cel → Val → Prop} (hn : (if xt.isSome then 1 else 0) + args.length ≤ Try.f75.ntmps) (h : ex Try.prog C_checkDoor [] (fpost xt [.t 2] R) (initSt xt args)) : FC Try.prog 75 xt args R :=
  fc_of_awp Try.func75 b_checkDoor n_checkDoor c_checkDoor r_checkDoor (of_decide_eq_true (by kernel_rfl)) hn h

def A_doorFault : List Ann := [⟨(some ⟨[1], [1], []⟩), [], [], [], []⟩, ⟨(some ⟨[2], [], []⟩), [], [], [], []⟩]
def C_doorFault : AC := (.seq (.reg false [⟨(some 1), none, .box (.t 0)⟩, ⟨(some 2), none, .mv (.v (.int .i64 (0)))⟩] (some ⟨[1], [1], []⟩))
  (.seq (.reg true [⟨(some 3), none, .fadr 0 (.t 1)⟩, ⟨(some 4), none, .load false 1 (.t 3)⟩, ⟨(some 5), none, .call (.f 76) [(.t 4), (.v (.int .i64 (0))), (.v (.int .i64 (2000000)))]⟩, ⟨(some 6), none, .fadr 1 (.t 1)⟩, ⟨(some 7), none, .load false 1 (.t 6)⟩, ⟨(some 8), none, .call (.f 76) [(.t 7), (.v (.int .i64 (1))), (.v (.int .i64 (34560000000)))]⟩, ⟨(some 9), none, .bslice 1 2 [(.t 5), (.t 8)]⟩, ⟨(some 10), none, .call (.f 27) [(.t 9)]⟩, ⟨(some 2), none, .mv (.t 10)⟩] (some ⟨[2], [], []⟩))
  .ret))
theorem c_doorFault : compileCode Try.prog Try.f17.ntmps (Try.f17.body.getD .skip) A_doorFault = some (C_doorFault, []) := by kernel_rfl
theorem r_doorFault : compileRes Try.prog Try.f17.results.toList = some [.t 2] := by kernel_rfl
theorem b_doorFault : Try.f17.body = some (Try.f17.body.getD .skip) := by kernel_rfl
theorem n_doorFault : (Try.f17.name == "runtime.NumGoroutine") = false := by kernel_rfl
theorem fc_doorFault {xt : Option (List Cel)} {args : List Val} {R : List Cel → Val → Prop} (hn : (if xt.isSome then 1 else 0) + args.length ≤ Try.f17.ntmps) (h : ex Try.prog C_doorFault [] (fpost xt [.t 2] R) (initSt xt args)) : FC Try.prog 17 xt args R :=
  fc_of_awp Try.func17 b_doorFault n_doorFault c_doorFault r_doorFault (of_decide_eq_true (by kernel_rfl)) hn h

def A_first : List Ann := [⟨(some ⟨[0], [], []⟩), [], [], [], []⟩, ⟨(some ⟨[5,6,7], [], []⟩), [], [], [], []⟩, ⟨(some ⟨[5,6,7,8], [], []⟩), [], [], [], []⟩, ⟨(some ⟨[4,5,6,7], [], []⟩), [], [], [], []⟩, ⟨(some ⟨[4,5,6,7,12], [], []⟩), [], [], [], []⟩, ⟨(some ⟨[2], [], []⟩), [], [], [], []⟩, ⟨(some ⟨[5,6,7], [], []⟩), [], [], [], []⟩, ⟨(some ⟨[2], [], []⟩), [], [], [], []⟩]
def C_first : AC := (.seq (.reg false [⟨(some 2), none, .mv (.v (.int .i64 (0)))⟩] (some ⟨[0], [], []⟩))
  (.seq (.seq (.reg false [⟨(some 5), none, .mv (.t 0)⟩, ⟨(some 6), none, .len (.t 5)⟩, ⟨(some 7), none, .mv (.v (.int .i64 (0)))⟩] (some ⟨[5,6,7], [], []⟩))
  (.block 0 (.loop (.seq (.reg false [⟨(some 8), none, .bin .lss (.t 7) (.t 6)⟩] (some ⟨[5,6,7,8], [], []⟩))
  (.seq (.cond (.t 8)
  .skip
  (.exit 0))
  (.seq (.block 1 (.seq (.reg false [⟨(some 9), none, .iadr 1 (.t 5) (.t 7)⟩, ⟨(some 10), none, .load false 1 (.t 9)⟩, ⟨(some 4), none, .mv (.t 10)⟩] (some ⟨[4,5,6,7], [], []⟩))
  (.seq (.reg false [⟨(some 11), none, .mv (.t 4)⟩, ⟨(some 12), none, .bin .neq (.t 11) (.v (.int .i64 (0)))⟩] (some ⟨[4,5,6,7,12], [], []⟩))
  (.cond (.t 12)
  (.seq (.reg false [⟨(some 13), none, .mv (.t 4)⟩, ⟨(some 2), none, .mv (.t 13)⟩] (some ⟨[2], [], []⟩))
  .ret)
  .skip))))
  (.reg false [⟨(some 14), none, .bin .add (.t 7) (.v (.int .i64 (1)))⟩, ⟨(some 7), none, .mv (.t 14)⟩] (some ⟨[5,6,7], [], []⟩))))))))
  (.seq (.reg false [⟨(some 2), none, .mv (.v (.int .i64 (0)))⟩] (some ⟨[2], [], []⟩))
  .ret)))
theorem c_first : compileCode Try.prog Try.f84.ntmps (Try.f84.body.getD .skip) A_first = some (C_first, []) := by kernel_rfl
theorem r_first : compileRes Try.prog Try.f84.results.toList = some [.t 2] := by kernel_rfl
theorem b_first : Try.f84.body = some (Try.f84.body.getD .skip) := by kernel_rfl
theorem n_first : (Try.f84.name == "runtime.NumGoroutine") = false := by kernel_rfl
theorem fc_first {xt : Option (List Cel)} {args : List Val} {R : List Cel → Val → Prop} (hn : (if xt.isSome then 1 else 0) + args.length ≤ Try.f84.ntmps) (h : ex Try.prog C_first [] (fpost xt [.t 2] R) (initSt xt args)) : FC Try.prog 84 xt args R :=
  fc_of_awp Try.func84 b_first n_first c_first r_first (of_decide_eq_true (by kernel_rfl)) hn h

def A_contInts : List Ann := [⟨(some ⟨[0,1], [], []⟩), [], [], [], []⟩, ⟨(some ⟨[4], [], []⟩), [], [], [], []⟩]
def C_contInts : AC := (.seq (.reg false [⟨(some 4), none, .mv (.v (.bool false))⟩] (some ⟨[0,1], [], []⟩))
  (.seq (.reg false [⟨(some 5), none, .mv (.t 0)⟩, ⟨(some 6), none, .mv (.t 1)⟩, ⟨(some 7), none, .call (.f 144) [(.t 5), (.t 6)]⟩, ⟨(some 8), none, .bin .geq (.t 7) (.v (.int .i64 (0)))⟩, ⟨(some 4), none, .mv (.t 8)⟩] (some ⟨[4], [], []⟩))
  .ret))
theorem c_contInts : compileCode Try.prog Try.f89.ntmps (Try.f89.body.getD .skip) A_contInts = some (C_contInts, []) := by kernel_rfl
theorem r_contInts : compileRes Try.prog Try.f89.results.toList = some [.t 4] := by kernel_rfl
theorem b_contInts : Try.f89.body = some (Try.f89.body.getD .skip) := by kernel_rfl
theorem n_contInts : (Try.f89.name == "runtime.NumGoroutine") = false := by kernel_rfl
theorem fc_contInts {xt : Option (List Cel)} {args : List Val} {R : List Cel → Val → Prop} (hn : (if xt.isSome then 1 else 0) + args.length ≤ Try.f89.ntmps) (h : ex Try.prog C_contInts [] (fpost xt [.t 4] R) (initSt xt args)) : FC Try.prog 89 xt args R :=
  fc_of_awp Try.func89 b_contInts n_contInts c_contInts r_contInts (of_decide_eq_true (by kernel_rfl)) hn h

def A_indexInts : List Ann := [⟨(some ⟨[0,1], [], []⟩), [], [], [], []⟩, ⟨(some ⟨[0,1,7,8], [], []⟩), [], [], [], []⟩, ⟨(some ⟨[0,1,7,8,9], [], []⟩), [], [], [], []⟩, ⟨(some ⟨[0,1,5,7,8], [], []⟩), [], [], [], []⟩, ⟨(some ⟨[0,1,5,7,8,16], [], []⟩), [], [], [], []⟩, ⟨(some ⟨[4], [], []⟩), [], [], [], []⟩, ⟨(some ⟨[0,1,7,8], [], []⟩), [], [], [], []⟩, ⟨(some ⟨[4], [], []⟩), [], [], [], []⟩]
def C_indexInts : AC := (.seq (.reg false [⟨(some 4), none, .mv (.v (.int .i64 (0)))⟩] (some ⟨[0,1], [], []⟩))
  (.seq (.seq (.reg false [⟨(some 6), none, .mv (.t 0)⟩, ⟨(some 7), none, .len (.t 6)⟩, ⟨(some 8), none, .mv (.v (.int .i64 (0)))⟩] (some ⟨[0,1,7,8], [], []⟩))
  (.block 0 (.loop (.seq (.reg false [⟨(some 9), none, .bin .lss (.t 8) (.t 7)⟩] (some ⟨[0,1,7,8,9], [], []⟩))
  (.seq (.cond (.t 9)
  .skip
  (.exit 0))
  (.seq (.block 1 (.seq (.reg false [⟨(some 10), none, .mv (.t 8)⟩, ⟨(some 5), none, .mv (.t 10)⟩] (some ⟨[0,1,5,7,8], [], []⟩))
  (.seq (.reg false [⟨(some 11), none, .mv (.t 1)⟩, ⟨(some 12), none, .mv (.t 0)⟩, ⟨(some 13), none, .mv (.t 5)⟩, ⟨(some 14), none, .iadr 1 (.t 12) (.t 13)⟩, ⟨(some 15), none, .load false 1 (.t 14)⟩, ⟨(some 16), none, .bin .eql (.t 11) (.t 15)⟩] (some ⟨[0,1,5,7,8,16], [], []⟩))
  (.cond (.t 16)
  (.seq (.reg false [⟨(some 17), none, .mv (.t 5)⟩, ⟨(some 4), none, .mv (.t 17)⟩] (some ⟨[4], [], []⟩))
  .ret)
  .skip))))
  (.reg false [⟨(some 18), none, .bin .add (.t 8) (.v (.int .i64 (1)))⟩, ⟨(some 8), none, .mv (.t 18)⟩] (some ⟨[0,1,7,8], [], []⟩))))))))
  (.seq (.reg false [⟨(some 4), none, .mv (.v (.int .i64 (-1)))⟩] (some ⟨[4], [], []⟩))
  .ret)))
theorem c_indexInts : compileCode Try.prog Try.f144.ntmps (Try.f144.body.getD .skip) A_indexInts = some (C_indexInts, []) := by kernel_rfl
theorem r_indexInts : compileRes Try.prog Try.f144.results.toList = some [.t 4] := by kernel_rfl
theorem b_indexInts : Try.f144.body = some (Try.f144.body.getD .skip) := by kernel_rfl
theorem n_indexInts : (Try.f144.name == "runtime.NumGoroutine") = false := by kernel_rfl
theorem fc_indexInts {xt : Option (List Cel)} {args : List Val} {R : List Cel → Val → Prop} (hn : (if xt.isSome then 1 else 0) + args.length ≤ Try.f144.ntmps) (h : ex Try.prog C_indexInts [] (fpost xt [.t 4] R) (initSt xt args)) : FC Try.prog 144 xt args R :=
  fc_of_awp Try.func144 b_indexInts n_indexInts c_indexInts r_indexInts (of_decide_eq_true (by kernel_rfl)) hn h

def A_eqInts : List Ann := [⟨(some ⟨[0,1], [], []⟩), [], [], [], []⟩, ⟨(some ⟨[0,1,10], [], []⟩), [], [], [], []⟩, ⟨(some ⟨[4], [], []⟩), [], [], [], []⟩, ⟨(some ⟨[0,1,12,13], [], []⟩), [], [], [], []⟩, ⟨(some ⟨[0,1,12,13,14], [], []⟩), [], [], [], []⟩, ⟨(some ⟨[0,1,5,12,13], [], []⟩), [], [], [], []⟩, ⟨(some ⟨[0,1,12,13,24], [], []⟩), [], [], [], []⟩, ⟨(some ⟨[4], [], []⟩), [], [], [], []⟩, ⟨(some ⟨[0,1,12,13], [], []⟩), [], [], [], []⟩, ⟨(some ⟨[4], [], []⟩), [], [], [], []⟩]
def C_eqInts : AC := (.seq (.reg false [⟨(some 4), none, .mv (.v (.bool false))⟩] (some ⟨[0,1], [], []⟩))
  (.seq (.seq (.reg false [⟨(some 6), none, .mv (.t 0)⟩, ⟨(some 7), none, .len (.t 6)⟩, ⟨(some 8), none, .mv (.t 1)⟩, ⟨(some 9), none, .len (.t 8)⟩, ⟨(some 10), none, .bin .neq (.t 7) (.t 9)⟩] (some ⟨[0,1,10], [], []⟩))
  (.cond (.t 10)
  (.seq (.reg false [⟨(some 4), none, .mv (.v (.bool false))⟩] (some ⟨[4], [], []⟩))
  .ret)
  .skip))
  (.seq (.seq (.reg false [⟨(some 11), none, .mv (.t 0)⟩, ⟨(some 12), none, .len (.t 11)⟩, ⟨(some 13), none, .mv (.v (.int .i64 (0)))⟩] (some ⟨[0,1,12,13], [], []⟩))
  (.block 0 (.loop (.seq (.reg false [⟨(some 14), none, .bin .lss (.t 13) (.t 12)⟩] (some ⟨[0,1,12,13,14], [], []⟩))
  (.seq (.cond (.t 14)
  .skip
  (.exit 0))
  (.seq (.block 1 (.seq (.reg false [⟨(some 15), none, .mv (.t 13)⟩, ⟨(some 5), none, .mv (.t 15)⟩] (some ⟨[0,1,5,12,13], [], []⟩))
  (.seq (.reg true [⟨(some 16), none, .mv (.t 0)⟩, ⟨(some 17), none, .mv (.t 5)⟩, ⟨(some 18), none, .iadr 1 (.t 16) (.t 17)⟩, ⟨(some 19), none, .load false 1 (.t 18)⟩, ⟨(some 20), none, .mv (.t 1)⟩, ⟨(some 21), none, .mv (.t 5)⟩, ⟨(some 22), none, .iadr 1 (.t 20) (.t 21)⟩, ⟨(some 23), none, .load false 1 (.t 22)⟩, ⟨(some 24), none, .bin .neq (.t 19) (.t 23)⟩] (some ⟨[0,1,12,13,24], [], []⟩))
  (.cond (.t 24)
  (.seq (.reg false [⟨(some 4), none, .mv (.v (.bool false))⟩] (some ⟨[4], [], []⟩))
  .ret)
  .skip))))
  (.reg false [⟨(some 25), none, .bin .add (.t 13) (.v (.int .i64 (1)))⟩, ⟨(some 13), none, .mv (.t 25)⟩] (some ⟨[0,1,12,13], [], []⟩))))))))
  (.seq (.reg false [⟨(some 4), none, .mv (.v (.bool true))⟩] (some ⟨[4], [], []⟩))
  .ret))))
theorem c_eqInts : compileCode Try.prog Try.f33.ntmps (Try.f33.body.getD .skip) A_eqInts = some (C_eqInts, []) := by kernel_rfl
theorem r_eqInts : compileRes Try.prog Try.f33.results.toList = some [.t 4] := by kernel_rfl
theorem b_eqInts : Try.f33.body = some (Try.f33.body.getD .skip) := by kernel_rfl
theorem n_eqInts : (Try.f33.name == "runtime.NumGoroutine") = false := by kernel_rfl
theorem fc_eqInts {xt : Option (List Cel)} {args : List Val} {R : List Cel → Val → Prop} (hn : (if xt.isSome then 1 else 0) + args.length ≤ Try.f33.ntmps) (h : ex Try.prog C_eqInts [] (fpost xt [.t 4] R) (initSt xt args)) : FC Try.prog 33 xt args R :=
  fc_of_awp Try.func33 b_eqInts n_eqInts c_eqInts r_eqInts (of_decide_eq_true (by kernel_rfl)) hn h

def A_pressed : List Ann := [⟨(some ⟨[], [], []⟩), [], [], [], []⟩, ⟨(some ⟨[1,2,3], [1], []⟩), [], [], [], []⟩, ⟨(some ⟨[0], [], []⟩), [], [], [], []⟩]
def C_pressed : AC := (.seq (.reg false [⟨(some 0), none, .mv (.v (.bool false))⟩] (some ⟨[], [], []⟩))
  (.seq (.reg false [⟨(some 5), none, .build [(.int .i64 (0)), (.int .i64 (0)), (.int .i64 (0))] [(0, 1, (.v (.int .i64 (0)))), (1, 1, (.v (.int .i64 (0))))]⟩, ⟨(some 6), none, .build [(.int .i64 (0)), (.int .i64 (0)), (.int .i64 (0))] [(0, 1, (.v (.int .i64 (4)))), (1, 1, (.v (.int .i64 (2))))]⟩, ⟨(some 7), none, .bslice 3 2 [(.t 5), (.t 6)]⟩, ⟨(some 8), none, .call (.f 77) [(.t 7), (.v (.int .i64 (1)))]⟩, ⟨(some 4), none, .mv (.t 8)⟩, ⟨(some 9), none, .extr (.t 4) 0⟩, ⟨(some 10), none, .extr (.t 4) 1⟩, ⟨(some 11), none, .extr (.t 4) 2⟩, ⟨(some 1), none, .alloc [(.int .i64 (0)), (.int .i64 (0))]⟩, ⟨none, none, .store 2 (.t 1) (.t 9)⟩, ⟨(some 2), none, .mv (.t 10)⟩, ⟨(some 3), none, .mv (.t 11)⟩] (some ⟨[1,2,3], [1], []⟩))
  (.seq (.reg false [⟨(some 12), none, .mv (.t 3)⟩, ⟨(some 13), none, .bin .eql (.t 12) (.v (.int .i64 (0)))⟩, ⟨(some 14), none, .mv (.t 13)⟩, ⟨(some 15), (some (14, true)), .mv (.t 2)⟩, ⟨(some 16), none, .pick (.t 14) (.t 15) (.v (.bool false))⟩, ⟨(some 17), none, .mv (.t 16)⟩, ⟨(some 18), (some (17, true)), .load true 2 (.t 1)⟩, ⟨(some 19), (some (17, true)), .build [(.int .i64 (0)), (.int .i64 (0))] [(0, 1, (.v (.int .i64 (1)))), (1, 1, (.v (.int .i64 (2))))]⟩, ⟨(some 20), (some (17, true)), .eqs false true [.i .i64, .i .i64] (.t 18) (.t 19)⟩, ⟨(some 21), none, .pick (.t 17) (.t 20) (.v (.bool false))⟩, ⟨(some 0), none, .mv (.t 21)⟩] (some ⟨[0], [], []⟩))
  .ret)))
theorem c_pressed : compileCode Try.prog Try.f18.ntmps (Try.f18.body.getD .skip) A_pressed = some (C_pressed, []) := by kernel_rfl
theorem r_pressed : compileRes Try.prog Try.f18.results.toList = some [.t 0] := by kernel_rfl
theorem b_pressed : Try.f18.body = some (Try.f18.body.getD .skip) := by kernel_rfl
theorem n_pressed : (Try.f18.name == "runtime.NumGoroutine") = false := by kernel_rfl
theorem fc_pressed {xt : Option (List Cel)} {args : List Val} {R : List Cel → Val → Prop} (hn : (if xt.isSome then 1 else 0) + args.length ≤ Try.f18.ntmps) (h : ex Try.prog C_pressed [] (fpost xt [.t 0] R) (initSt xt args)) : FC Try.prog 18 xt args R :=
  fc_of_awp Try.func18 b_pressed n_pressed c_pressed r_pressed (of_decide_eq_true (by kernel_rfl)) hn h


abbrev twoV (a b : Int) : Val := .ag [.g (.int .i64 a), .g (.int .i64 b)]
theorem doorOf_fc : Gen Try.prog 14 [] 7 (fun r => ∃ x y, I64 x ∧ I64 y ∧ r = twoV x y) := by
  intro L p hL hl h0 hp
  refine fc_doorOf (by simp +arith) ?_
  unfold C_doorOf strm
  simp (maxSteps := 1000000) (disch := omega) only [go_sem, eq_self, decide_true, decide_false, not_true_eq_false, not_false_eq_true, reduceIte, reduceCtorEq, Nat.reduceEqDiff, Nat.reduceAdd, Nat.reduceSub, Nat.reduceLeDiff]
  refine callx_gen (pick_fc false [0, 1, 1, 2, 4] (by simp) (by simp)) hL hl (by omega) (by omega) ⟨_, 0, by simp, rfl⟩ ?_
  rintro pa r haa hba ⟨za, hza, rfl⟩
  refine ⟨rfl, ?_⟩
  unfold strm
  simp only [List.mem_cons, List.not_mem_nil, or_false] at hza
  simp (maxSteps := 1000000) (disch := omega) only [go_sem, eq_self, decide_true, decide_false, not_true_eq_false, not_false_eq_true, reduceIte, reduceCtorEq, Nat.reduceEqDiff, Nat.reduceAdd, Nat.reduceSub, Nat.reduceLeDiff]
  refine callx_gen (pick_fc false [1, 10, 30, 1000, 1000] (by simp) (by simp)) hL hl (by omega) (by omega) ⟨_, 1, by simp, rfl⟩ ?_
  rintro pb r hab hbb ⟨zb, hzb, rfl⟩
  refine ⟨rfl, ?_⟩
  unfold strm
  simp only [List.mem_cons, List.not_mem_nil, or_false] at hzb
  simp (maxSteps := 1000000) (disch := omega) only [go_sem, eq_self, decide_true, decide_false, not_true_eq_false, not_false_eq_true, reduceIte, reduceCtorEq, Nat.reduceEqDiff, Nat.reduceAdd, Nat.reduceSub, Nat.reduceLeDiff]
  refine callx_gen (flip_fc 15 (by omega) (by omega)) hL hl (by omega) (by omega) ⟨_, true, rfl⟩ ?_
  rintro pc r hac hbc ⟨bc, rfl⟩
  refine ⟨rfl, ?_⟩
  unfold strm
  simp (maxSteps := 1000000) (disch := omega) only [go_sem, eq_self, decide_true, decide_false, not_true_eq_false, not_false_eq_true, reduceIte, reduceCtorEq, Nat.reduceEqDiff, Nat.reduceAdd, Nat.reduceSub, Nat.reduceLeDiff]
  refine ⟨fun h => ?_, fun h => ?_⟩
  ·
    refine callx_gen (odd_fc 0 2000000 (by omega) (by omega) (by omega)) hL hl (by omega) (by omega) ⟨_, 0, by simp [I64], rfl⟩ ?_
    rintro pd r had hbd ⟨zd, hzd, rfl⟩
    refine ⟨rfl, ?_⟩
    unfold strm
    simp (maxSteps := 1000000) (disch := omega) only [go_sem, eq_self, decide_true, decide_false, not_true_eq_false, not_false_eq_true, reduceIte, reduceCtorEq, Nat.reduceEqDiff, Nat.reduceAdd, Nat.reduceSub, Nat.reduceLeDiff]
    refine callx_gen (odd_fc 1 34560000000 (by omega) (by omega) (by omega)) hL hl (by omega) (by omega) ⟨_, 0, by simp [I64], rfl⟩ ?_
    rintro pe r hae hbe ⟨ze, hze, rfl⟩
    refine ⟨rfl, ?_⟩
    unfold strm
    simp (maxSteps := 1000000) (disch := omega) only [go_sem, eq_self, decide_true, decide_false, not_true_eq_false, not_false_eq_true, reduceIte, reduceCtorEq, Nat.reduceEqDiff, Nat.reduceAdd, Nat.reduceSub, Nat.reduceLeDiff]
    exact ⟨⟨pe, by omega, by omega, rfl⟩, _, _, hzd, hze, rfl⟩
  · exact ⟨⟨pc, by omega, by omega, rfl⟩, _, _, by unfold I64; omega, by unfold I64; omega, rfl⟩
def excF (x y : Int) : Int := if 0 ≤ x ∧ x ≤ 2000000 ∧ 1 ≤ y ∧ y ≤ 34560000000 then 0 else 1
theorem checkDoor_fc (x y : Int) : FC Try.prog 75 none [twoV x y] (fun _ r => r = iv (excF x y)) := by
  refine fc_checkDoor (by simp +arith) ?_
  unfold C_checkDoor
  simp (maxSteps := 1000000) (disch := omega) only [go_sem, eq_self, decide_true, decide_false, not_true_eq_false, not_false_eq_true, reduceIte, reduceCtorEq, Nat.reduceEqDiff, Nat.reduceAdd, Nat.reduceSub, Nat.reduceLeDiff]
  refine CALL_det (out_fc _ _ _) (.inl rfl) ?_
  by_cases h1 : x < 0 ∨ x > 2000000
  · rw [decide_eq_true h1]
    simp (maxSteps := 1000000) (disch := omega) only [go_sem, eq_self, decide_true, decide_false, not_true_eq_false, not_false_eq_true, reduceIte, reduceCtorEq, Nat.reduceEqDiff, Nat.reduceAdd, Nat.reduceSub, Nat.reduceLeDiff]
    exact iv_congr (by unfold excF; rw [if_neg (by omega)])
  · rw [decide_eq_false h1]
    simp (maxSteps := 1000000) (disch := omega) only [go_sem, eq_self, decide_true, decide_false, not_true_eq_false, not_false_eq_true, reduceIte, reduceCtorEq, Nat.reduceEqDiff, Nat.reduceAdd, Nat.reduceSub, Nat.reduceLeDiff]
    refine CALL_det (out_fc _ _ _) (.inl rfl) ?_
    simp (maxSteps := 1000000) (disch := omega) only [go_sem, eq_self, decide_true, decide_false, not_true_eq_false, not_false_eq_true, reduceIte, reduceCtorEq, Nat.reduceEqDiff, Nat.reduceAdd, Nat.reduceSub, Nat.reduceLeDiff]
    (repeat' (first | apply And.intro | intro _)) <;> first | rfl | omega | exact iv_congr (by first | omega | ((try simp only [excF]); (repeat' split) <;> (first | omega | (simp_all; done) | (simp_all; omega)))) | exact bv_dec (by first | omega | ((try simp only [excF]); (repeat' split) <;> omega)) | exact bv_ndec (by first | omega | ((try simp only [excF]); (repeat' split) <;> omega)) | exact bv_f (by first | omega | ((try simp only [excF]); (repeat' split) <;> omega)) | exact bv_t (by first | omega | ((try simp only [excF]); (repeat' split) <;> omega))
theorem excF_or (x y : Int) : orSp [if 0 ≤ x ∧ x ≤ 2000000 then 0 else 1, if 1 ≤ y ∧ y ≤ 34560000000 then 0 else 1] = excF x y := by
  unfold excF orSp orSp orSp; split <;> split <;> split <;> simp_all <;> omega
theorem doorFault_fc (x y : Int) : FC Try.prog 17 none [twoV x y] (fun _ r => r = iv (excF x y)) := by
  refine fc_doorFault (by simp +arith) ?_
  unfold C_doorFault
  simp (maxSteps := 1000000) (disch := omega) only [go_sem, eq_self, decide_true, decide_false, not_true_eq_false, not_false_eq_true, reduceIte, reduceCtorEq, Nat.reduceEqDiff, Nat.reduceAdd, Nat.reduceSub, Nat.reduceLeDiff]
  refine CALL_det (spanFault1_fc _ _ _) (.inl rfl) ?_
  simp (maxSteps := 1000000) (disch := omega) only [go_sem, eq_self, decide_true, decide_false, not_true_eq_false, not_false_eq_true, reduceIte, reduceCtorEq, Nat.reduceEqDiff, Nat.reduceAdd, Nat.reduceSub, Nat.reduceLeDiff]
  refine CALL_det (spanFault1_fc _ _ _) (.inl rfl) ?_
  simp (maxSteps := 1000000) (disch := omega) only [go_sem, eq_self, decide_true, decide_false, not_true_eq_false, not_false_eq_true, reduceIte, reduceCtorEq, Nat.reduceEqDiff, Nat.reduceAdd, Nat.reduceSub, Nat.reduceLeDiff]
  refine CALL_det (orE_fc false [if 0 ≤ x ∧ x ≤ 2000000 then 0 else 1, if 1 ≤ y ∧ y ≤ 34560000000 then 0 else 1] (by simp)) (.inl rfl) ?_
  rw [excF_or]
  simp (maxSteps := 1000000) (disch := omega) only [go_sem, eq_self, decide_true, decide_false, not_true_eq_false, not_false_eq_true, reduceIte, reduceCtorEq, Nat.reduceEqDiff, Nat.reduceAdd, Nat.reduceSub, Nat.reduceLeDiff]
def fstSt (fr : Bool) (l : List Int) (i : Int) : AS := ⟨tabV [(5, ints fr l), (6, iv l.length), (7, iv i)], tabO [], tabO []⟩
theorem first_fc (fr : Bool) (l : List Int) (hl : l.length ≤ 4611686018427387904) : FC Try.prog 84 none [ints fr l] (fun _ r => r = iv (orSp l)) := by
  refine fc_first (by simp +arith) ?_
  unfold C_first
  simp (maxSteps := 1000000) (disch := omega) only [go_sem, eq_self, decide_true, decide_false, not_true_eq_false, not_false_eq_true, reduceIte, reduceCtorEq, Nat.reduceEqDiff, Nat.reduceAdd, Nat.reduceSub, Nat.reduceLeDiff]
  refine ex_loop1 (fstSt fr l) (fun i => 0 ≤ i ∧ i ≤ l.length ∧ orSp (l.drop i.toNat) = orSp l) (fun i => (l.length - i).toNat) 0 ⟨by omega, by omega, rfl⟩ rfl ?_
  rintro i ⟨g1, g2, g3⟩
  unfold fstSt
  by_cases hi : i < l.length
  · rw [drop_cons l i.toNat (by omega), orSp] at g3
    have e2 : (i + 1).toNat = i.toNat + 1 := by omega
    simp (maxSteps := 1000000) (disch := omega) only [go_sem, eq_self, decide_true, decide_false, not_true_eq_false, not_false_eq_true, reduceIte, reduceCtorEq, Nat.reduceEqDiff, Nat.reduceAdd, Nat.reduceSub, Nat.reduceLeDiff]
    refine ⟨fun h => ?_, fun h => ⟨i + 1, rfl, ⟨by omega, by omega, ?_⟩, by omega⟩⟩
    · rw [if_pos h] at g3; rw [g3]
    · rw [if_neg h] at g3; rw [e2]; exact g3
  · simp (maxSteps := 1000000) (disch := omega) only [go_sem, eq_self, decide_true, decide_false, not_true_eq_false, not_false_eq_true, reduceIte, reduceCtorEq, Nat.reduceEqDiff, Nat.reduceAdd, Nat.reduceSub, Nat.reduceLeDiff]
    rw [← g3, List.drop_eq_nil_of_le (by omega)]
    rfl
def idxE (x : Int) : Int → List Int → Int
  | _, [] => -1
  | i, y :: l => if x = y then i else idxE x (i + 1) l
theorem idxE_mem (x : Int) : ∀ (l : List Int) (i : Int), 0 ≤ i → (0 ≤ idxE x i l ↔ x ∈ l)
  | [], i, h => by simp [idxE]
  | y :: l, i, h => by
    rw [idxE, List.mem_cons]
    by_cases hx : x = y
    · rw [if_pos hx]; simp [hx, h]
    · rw [if_neg hx, idxE_mem x l (i + 1) (by omega)]; simp [hx]
def ixiSt (fr : Bool) (l : List Int) (x : Int) (i : Int) : AS := ⟨tabV [(0, ints fr l), (1, iv x), (7, iv l.length), (8, iv i)], tabO [], tabO []⟩
theorem indexInts_fc (fr : Bool) (l : List Int) (hl : l.length ≤ 4611686018427387904) (x : Int) : FC Try.prog 144 none [ints fr l, iv x] (fun _ r => r = iv (idxE x 0 l)) := by
  refine fc_indexInts (by simp +arith) ?_
  unfold C_indexInts
  simp (maxSteps := 1000000) (disch := omega) only [go_sem, eq_self, decide_true, decide_false, not_true_eq_false, not_false_eq_true, reduceIte, reduceCtorEq, Nat.reduceEqDiff, Nat.reduceAdd, Nat.reduceSub, Nat.reduceLeDiff]
  refine ex_loop1 (ixiSt fr l x) (fun i => 0 ≤ i ∧ i ≤ l.length ∧ idxE x i (l.drop i.toNat) = idxE x 0 l) (fun i => (l.length - i).toNat) 0 ⟨by omega, by omega, rfl⟩ rfl ?_
  rintro i ⟨g1, g2, g3⟩
  unfold ixiSt
  by_cases hi : i < l.length
  · rw [drop_cons l i.toNat (by omega), idxE] at g3
    have e2 : (i + 1).toNat = i.toNat + 1 := by omega
    by_cases h : x = l.getD i.toNat default
    · rw [if_pos h] at g3
      simp (maxSteps := 1000000) (disch := omega) only [go_sem, eq_self, decide_true, decide_false, not_true_eq_false, not_false_eq_true, reduceIte, reduceCtorEq, Nat.reduceEqDiff, Nat.reduceAdd, Nat.reduceSub, Nat.reduceLeDiff]
      rw [← g3]
    · rw [if_neg h] at g3
      simp (maxSteps := 1000000) (disch := omega) only [go_sem, eq_self, decide_true, decide_false, not_true_eq_false, not_false_eq_true, reduceIte, reduceCtorEq, Nat.reduceEqDiff, Nat.reduceAdd, Nat.reduceSub, Nat.reduceLeDiff]
      exact ⟨_, rfl, ⟨by omega, by omega, by rw [e2]; exact g3⟩, by omega⟩
  · rw [List.drop_eq_nil_of_le (by omega), idxE] at g3
    simp (maxSteps := 1000000) (disch := omega) only [go_sem, eq_self, decide_true, decide_false, not_true_eq_false, not_false_eq_true, reduceIte, reduceCtorEq, Nat.reduceEqDiff, Nat.reduceAdd, Nat.reduceSub, Nat.reduceLeDiff]
    rw [← g3]
theorem contInts_fc (fr : Bool) (l : List Int) (hl : l.length ≤ 4611686018427387904) (x : Int) : FC Try.prog 89 none [ints fr l, iv x] (fun _ r => r = bv (decide (x ∈ l))) := by
  refine fc_contInts (by simp +arith) ?_
  unfold C_contInts
  simp (maxSteps := 1000000) (disch := omega) only [go_sem, eq_self, decide_true, decide_false, not_true_eq_false, not_false_eq_true, reduceIte, reduceCtorEq, Nat.reduceEqDiff, Nat.reduceAdd, Nat.reduceSub, Nat.reduceLeDiff]
  refine CALL_det (indexInts_fc false l hl x) (.inl rfl) ?_
  simp (maxSteps := 1000000) (disch := omega) only [go_sem, eq_self, decide_true, decide_false, not_true_eq_false, not_false_eq_true, reduceIte, reduceCtorEq, Nat.reduceEqDiff, Nat.reduceAdd, Nat.reduceSub, Nat.reduceLeDiff]
  exact bv_dec (idxE_mem x l 0 (by omega))
def eqISt (fr fr' : Bool) (l : List Int) (i : Int) : AS := ⟨tabV [(0, ints fr l), (1, ints fr' l), (12, iv l.length), (13, iv i)], tabO [], tabO []⟩
theorem eqInts_fc (fr fr' : Bool) (l : List Int) (hl : l.length ≤ 4611686018427387904) : FC Try.prog 33 none [ints fr l, ints fr' l] (fun _ r => r = bv true) := by
  refine fc_eqInts (by simp +arith) ?_
  unfold C_eqInts
  simp (maxSteps := 1000000) (disch := omega) only [go_sem, eq_self, decide_true, decide_false, not_true_eq_false, not_false_eq_true, reduceIte, reduceCtorEq, Nat.reduceEqDiff, Nat.reduceAdd, Nat.reduceSub, Nat.reduceLeDiff]
  refine ex_loop1 (eqISt fr fr' l) (fun i => 0 ≤ i ∧ i ≤ l.length) (fun i => (l.length - i).toNat) 0 ⟨by omega, by omega⟩ rfl ?_
  rintro i ⟨g1, g2⟩
  unfold eqISt
  by_cases hi : i < l.length
  · simp (maxSteps := 1000000) (disch := omega) only [go_sem, eq_self, decide_true, decide_false, not_true_eq_false, not_false_eq_true, reduceIte, reduceCtorEq, Nat.reduceEqDiff, Nat.reduceAdd, Nat.reduceSub, Nat.reduceLeDiff]
    exact ⟨_, rfl, ⟨by omega, by omega⟩, by omega⟩
  · simp (maxSteps := 1000000) (disch := omega) only [go_sem, eq_self, decide_true, decide_false, not_true_eq_false, not_false_eq_true, reduceIte, reduceCtorEq, Nat.reduceEqDiff, Nat.reduceAdd, Nat.reduceSub, Nat.reduceLeDiff]
theorem pressed_fc : FC Try.prog 18 none [] (fun _ r => r = bv true) := by
  refine fc_pressed (by simp +arith) ?_
  unfold C_pressed
  simp (maxSteps := 1000000) (disch := omega) only [go_sem, eq_self, decide_true, decide_false, not_true_eq_false, not_false_eq_true, reduceIte, reduceCtorEq, Nat.reduceEqDiff, Nat.reduceAdd, Nat.reduceSub, Nat.reduceLeDiff]
  refine CALL_det (reconstruct_fc [⟨0, 0, 0⟩, ⟨4, 2, 0⟩] (by simp) 1) (.inl rfl) ?_
  have e : recoSp [⟨0, 0, 0⟩, ⟨4, 2, 0⟩] 1 = ((1, 2), true, 0) := by kernel_rfl
  rw [e]
  simp (maxSteps := 1000000) (disch := omega) only [go_sem, eq_self, decide_true, decide_false, not_true_eq_false, not_false_eq_true, reduceIte, reduceCtorEq, Nat.reduceEqDiff, Nat.reduceAdd, Nat.reduceSub, Nat.reduceLeDiff]
end Go.Proofs.Ytggbcgldnjmobaa

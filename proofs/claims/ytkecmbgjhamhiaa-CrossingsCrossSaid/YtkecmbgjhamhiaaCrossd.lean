/-
  Values in thousandths, changes of a value, and LimitsCrossed's function.
-/
import Derived.Test.YtkecmbgjhamhiaaCrossc
import Derived.Test.YtkecmbgjhamhiaaTotc
namespace Go.Proofs.Ytkecmbgjhamhiaa
open Go Go.Ai
set_option linter.unusedSimpArgs false
set_option linter.unusedVariables false
set_option maxHeartbeats 4000000
def A_down : List Ann := [⟨(some ⟨[0,1], [], []⟩), [], [], [], []⟩, ⟨(some ⟨[0,1,5], [], []⟩), [], [], [], []⟩, ⟨(some ⟨[5,12], [], []⟩), [], [], [], []⟩, ⟨(some ⟨[5], [], []⟩), [], [], [], []⟩, ⟨(some ⟨[4], [], []⟩), [], [], [], []⟩]
def C_down : AC := (.seq (.reg false [⟨(some 4), none, .mv (.v (.int .i64 (0)))⟩] (some ⟨[0,1], [], []⟩))
  (.seq (.reg false [⟨(some 6), none, .mv (.t 0)⟩, ⟨(some 7), none, .mv (.t 1)⟩, ⟨(some 8), none, .bin .quo (.t 6) (.t 7)⟩, ⟨(some 5), none, .mv (.t 8)⟩] (some ⟨[0,1,5], [], []⟩))
  (.seq (.seq (.reg false [⟨(some 9), none, .mv (.t 0)⟩, ⟨(some 10), none, .mv (.t 1)⟩, ⟨(some 11), none, .bin .rem (.t 9) (.t 10)⟩, ⟨(some 12), none, .bin .lss (.t 11) (.v (.int .i64 (0)))⟩] (some ⟨[5,12], [], []⟩))
  (.cond (.t 12)
  (.reg false [⟨(some 13), none, .mv (.t 5)⟩, ⟨(some 14), none, .bin .sub (.t 13) (.v (.int .i64 (1)))⟩, ⟨(some 5), none, .mv (.t 14)⟩] (some ⟨[5], [], []⟩))
  .skip))
  (.seq (.reg false [⟨(some 15), none, .mv (.t 5)⟩, ⟨(some 4), none, .mv (.t 15)⟩] (some ⟨[4], [], []⟩))
  .ret))))
theorem c_down : compileCode Try.prog Try.f139.ntmps (Try.f139.body.getD .skip) A_down = some (C_down, []) := by kernel_rfl
theorem r_down : compileRes Try.prog Try.f139.results.toList = some [.t 4] := by kernel_rfl
theorem b_down : Try.f139.body = some (Try.f139.body.getD .skip) := by kernel_rfl
theorem n_down : (Try.f139.name == "runtime.NumGoroutine") = false := by kernel_rfl
theorem fc_down {xt : Option (List Cel)} {args : List Val} {R : List Cel → Val → Prop} (hn : (if xt.isSome then 1 else 0) + args.length ≤ Try.f139.ntmps) (h : ex Try.prog C_down [] (fpost xt [.t 4] R) (initSt xt args)) : FC Try.prog 139 xt args R :=
  fc_of_awp Try.func139 b_down n_down c_down r_down (of_decide_eq_true (by kernel_rfl)) hn h

def A_thousandths : List Ann := [⟨(some ⟨[0,1,2], [], []⟩), [], [], [], []⟩, ⟨(some ⟨[8,9], [8], []⟩), [], [], [], []⟩, ⟨(some ⟨[8,24], [8], []⟩), [], [], [], []⟩, ⟨(some ⟨[6,7], [], []⟩), [], [], [], []⟩, ⟨(some ⟨[8,10], [8], []⟩), [], [], [], []⟩, ⟨(some ⟨[6,7], [], []⟩), [], [], [], []⟩]
def C_thousandths : AC := (.seq (.reg false [⟨(some 6), none, .mv (.v (.int .i64 (0)))⟩, ⟨(some 7), none, .mv (.v (.bool false))⟩] (some ⟨[0,1,2], [], []⟩))
  (.seq (.reg false [⟨(some 12), none, .mv (.t 0)⟩, ⟨(some 13), none, .mv (.t 1)⟩, ⟨(some 14), none, .mv (.t 2)⟩, ⟨(some 15), none, .call (.f 87) [(.t 12), (.t 13), (.t 14)]⟩, ⟨(some 11), none, .mv (.t 15)⟩, ⟨(some 16), none, .extr (.t 11) 0⟩, ⟨(some 17), none, .extr (.t 11) 1⟩, ⟨(some 8), none, .alloc [(.int .i64 (0)), (.int .i64 (0)), (.int .i64 (0)), (.int .i64 (0))]⟩, ⟨none, none, .store 4 (.t 8) (.t 16)⟩, ⟨(some 9), none, .mv (.t 17)⟩] (some ⟨[8,9], [8], []⟩))
  (.seq (.seq (.reg false [⟨(some 18), none, .mv (.t 9)⟩, ⟨(some 19), none, .un .not (.t 18)⟩, ⟨(some 20), none, .mv (.t 19)⟩, ⟨(some 21), (some (20, false)), .fadr 3 (.t 8)⟩, ⟨(some 22), (some (20, false)), .load false 1 (.t 21)⟩, ⟨(some 23), (some (20, false)), .bin .eql (.t 22) (.v (.int .i64 (2)))⟩, ⟨(some 24), none, .pick (.t 20) (.v (.bool true)) (.t 23)⟩] (some ⟨[8,24], [8], []⟩))
  (.cond (.t 24)
  (.seq (.reg false [⟨(some 6), none, .mv (.v (.int .i64 (0)))⟩, ⟨(some 7), none, .mv (.v (.bool false))⟩] (some ⟨[6,7], [], []⟩))
  .ret)
  .skip))
  (.seq (.reg false [⟨(some 25), none, .fadr 1 (.t 8)⟩, ⟨(some 26), none, .fadr 0 (.t 25)⟩, ⟨(some 27), none, .load false 1 (.t 26)⟩, ⟨(some 28), none, .fadr 1 (.t 8)⟩, ⟨(some 29), none, .fadr 1 (.t 28)⟩, ⟨(some 30), none, .load false 1 (.t 29)⟩, ⟨(some 31), none, .call (.f 139) [(.t 27), (.t 30)]⟩, ⟨(some 10), none, .mv (.t 31)⟩] (some ⟨[8,10], [8], []⟩))
  (.seq (.reg false [⟨(some 32), none, .mv (.t 10)⟩, ⟨(some 33), none, .bin .mul (.t 32) (.v (.int .i64 (1000)))⟩, ⟨(some 34), none, .fadr 1 (.t 8)⟩, ⟨(some 35), none, .fadr 0 (.t 34)⟩, ⟨(some 36), none, .load false 1 (.t 35)⟩, ⟨(some 37), none, .mv (.t 10)⟩, ⟨(some 38), none, .fadr 1 (.t 8)⟩, ⟨(some 39), none, .fadr 1 (.t 38)⟩, ⟨(some 40), none, .load false 1 (.t 39)⟩, ⟨(some 41), none, .bin .mul (.t 37) (.t 40)⟩, ⟨(some 42), none, .bin .sub (.t 36) (.t 41)⟩, ⟨(some 43), none, .bin .mul (.t 42) (.v (.int .i64 (1000)))⟩, ⟨(some 44), none, .fadr 1 (.t 8)⟩, ⟨(some 45), none, .fadr 1 (.t 44)⟩, ⟨(some 46), none, .load false 1 (.t 45)⟩, ⟨(some 47), none, .bin .quo (.t 43) (.t 46)⟩, ⟨(some 48), none, .bin .add (.t 33) (.t 47)⟩, ⟨(some 6), none, .mv (.t 48)⟩, ⟨(some 7), none, .mv (.v (.bool true))⟩] (some ⟨[6,7], [], []⟩))
  .ret)))))
theorem c_thousandths : compileCode Try.prog Try.f106.ntmps (Try.f106.body.getD .skip) A_thousandths = some (C_thousandths, []) := by kernel_rfl
theorem r_thousandths : compileRes Try.prog Try.f106.results.toList = some [.t 6, .t 7] := by kernel_rfl
theorem b_thousandths : Try.f106.body = some (Try.f106.body.getD .skip) := by kernel_rfl
theorem n_thousandths : (Try.f106.name == "runtime.NumGoroutine") = false := by kernel_rfl
theorem fc_thousandths {xt : Option (List Cel)} {args : List Val} {R : List Cel → Val → Prop} (hn : (if xt.isSome then 1 else 0) + args.length ≤ Try.f106.ntmps) (h : ex Try.prog C_thousandths [] (fpost xt [.t 6, .t 7] R) (initSt xt args)) : FC Try.prog 106 xt args R :=
  fc_of_awp Try.func106 b_thousandths n_thousandths c_thousandths r_thousandths (of_decide_eq_true (by kernel_rfl)) hn h

def A_thousandths1 : List Ann := [⟨(some ⟨[1], [1], []⟩), [], [], [], []⟩, ⟨(some ⟨[1,3], [1], []⟩), [], [], [], []⟩, ⟨(some ⟨[1,3,14], [1], []⟩), [], [], [], []⟩, ⟨(some ⟨[1,3], [1], []⟩), [], [], [], []⟩, ⟨(some ⟨[2], [], []⟩), [], [], [], []⟩]
def C_thousandths1 : AC := (.seq (.reg false [⟨(some 1), none, .box (.t 0)⟩, ⟨(some 2), none, .mv (.v (.int .i64 (0)))⟩] (some ⟨[1], [1], []⟩))
  (.seq (.reg false [⟨(some 4), none, .fadr 0 (.t 1)⟩, ⟨(some 5), none, .load false 1 (.t 4)⟩, ⟨(some 6), none, .fadr 1 (.t 1)⟩, ⟨(some 7), none, .load false 1 (.t 6)⟩, ⟨(some 8), none, .bin .quo (.t 5) (.t 7)⟩, ⟨(some 3), none, .mv (.t 8)⟩] (some ⟨[1,3], [1], []⟩))
  (.seq (.seq (.reg false [⟨(some 9), none, .fadr 0 (.t 1)⟩, ⟨(some 10), none, .load false 1 (.t 9)⟩, ⟨(some 11), none, .fadr 1 (.t 1)⟩, ⟨(some 12), none, .load false 1 (.t 11)⟩, ⟨(some 13), none, .bin .rem (.t 10) (.t 12)⟩, ⟨(some 14), none, .bin .lss (.t 13) (.v (.int .i64 (0)))⟩] (some ⟨[1,3,14], [1], []⟩))
  (.cond (.t 14)
  (.reg false [⟨(some 15), none, .mv (.t 3)⟩, ⟨(some 16), none, .bin .sub (.t 15) (.v (.int .i64 (1)))⟩, ⟨(some 3), none, .mv (.t 16)⟩] (some ⟨[1,3], [1], []⟩))
  .skip))
  (.seq (.reg false [⟨(some 17), none, .mv (.t 3)⟩, ⟨(some 18), none, .bin .mul (.v (.int .i64 (1000))) (.t 17)⟩, ⟨(some 19), none, .fadr 0 (.t 1)⟩, ⟨(some 20), none, .load false 1 (.t 19)⟩, ⟨(some 21), none, .mv (.t 3)⟩, ⟨(some 22), none, .fadr 1 (.t 1)⟩, ⟨(some 23), none, .load false 1 (.t 22)⟩, ⟨(some 24), none, .bin .mul (.t 21) (.t 23)⟩, ⟨(some 25), none, .bin .sub (.t 20) (.t 24)⟩, ⟨(some 26), none, .bin .mul (.v (.int .i64 (1000))) (.t 25)⟩, ⟨(some 27), none, .fadr 1 (.t 1)⟩, ⟨(some 28), none, .load false 1 (.t 27)⟩, ⟨(some 29), none, .bin .quo (.t 26) (.t 28)⟩, ⟨(some 30), none, .bin .add (.t 18) (.t 29)⟩, ⟨(some 2), none, .mv (.t 30)⟩] (some ⟨[2], [], []⟩))
  .ret))))
theorem c_thousandths1 : compileCode Try.prog Try.f111.ntmps (Try.f111.body.getD .skip) A_thousandths1 = some (C_thousandths1, []) := by kernel_rfl
theorem r_thousandths1 : compileRes Try.prog Try.f111.results.toList = some [.t 2] := by kernel_rfl
theorem b_thousandths1 : Try.f111.body = some (Try.f111.body.getD .skip) := by kernel_rfl
theorem n_thousandths1 : (Try.f111.name == "runtime.NumGoroutine") = false := by kernel_rfl
theorem fc_thousandths1 {xt : Option (List Cel)} {args : List Val} {R : List Cel → Val → Prop} (hn : (if xt.isSome then 1 else 0) + args.length ≤ Try.f111.ntmps) (h : ex Try.prog C_thousandths1 [] (fpost xt [.t 2] R) (initSt xt args)) : FC Try.prog 111 xt args R :=
  fc_of_awp Try.func111 b_thousandths1 n_thousandths1 c_thousandths1 r_thousandths1 (of_decide_eq_true (by kernel_rfl)) hn h

def A_change : List Ann := [⟨(some ⟨[0,1,5], [5], []⟩), [], [], [], []⟩, ⟨(some ⟨[0,1,5,9], [5], []⟩), [], [], [], []⟩, ⟨(some ⟨[0,1,5,9,18], [5], []⟩), [], [], [], []⟩, ⟨(some ⟨[6,7,8], [], []⟩), [], [], [], []⟩, ⟨(some ⟨[0,1,5,22], [5], []⟩), [], [], [], []⟩, ⟨(some ⟨[6,7,8], [], []⟩), [], [], [], []⟩, ⟨(some ⟨[0,1,5,10,11], [5], []⟩), [], [], [], []⟩, ⟨(some ⟨[10,11,12,13], [], []⟩), [], [], [], []⟩, ⟨(some ⟨[10,12,44], [], []⟩), [], [], [], []⟩, ⟨(some ⟨[6,7,8], [], []⟩), [], [], [], []⟩, ⟨(some ⟨[6,7,8], [], []⟩), [], [], [], []⟩]
def C_change : AC := (.seq (.reg false [⟨(some 5), none, .box (.t 2)⟩, ⟨(some 6), none, .mv (.v (.int .i64 (0)))⟩, ⟨(some 7), none, .mv (.v (.bool false))⟩, ⟨(some 8), none, .mv (.v (.int .i64 (0)))⟩] (some ⟨[0,1,5], [5], []⟩))
  (.seq (.seq (.reg false [⟨(some 14), none, .mv (.t 0)⟩, ⟨(some 15), none, .load true 2 (.t 5)⟩, ⟨(some 16), none, .call (.f 88) [(.t 14), (.t 15)]⟩, ⟨(some 9), none, .mv (.t 16)⟩] (some ⟨[0,1,5,9], [5], []⟩))
  (.seq (.reg false [⟨(some 17), none, .mv (.t 9)⟩, ⟨(some 18), none, .bin .neq (.t 17) (.v (.int .i64 (0)))⟩] (some ⟨[0,1,5,9,18], [5], []⟩))
  (.cond (.t 18)
  (.seq (.reg false [⟨(some 19), none, .mv (.t 9)⟩, ⟨(some 6), none, .mv (.v (.int .i64 (0)))⟩, ⟨(some 7), none, .mv (.v (.bool false))⟩, ⟨(some 8), none, .mv (.t 19)⟩] (some ⟨[6,7,8], [], []⟩))
  .ret)
  .skip)))
  (.seq (.seq (.reg false [⟨(some 20), none, .fadr 1 (.t 5)⟩, ⟨(some 21), none, .load false 1 (.t 20)⟩, ⟨(some 22), none, .bin .eql (.t 21) (.v (.int .i64 (345686400000)))⟩] (some ⟨[0,1,5,22], [5], []⟩))
  (.cond (.t 22)
  (.seq (.reg false [⟨(some 6), none, .mv (.v (.int .i64 (0)))⟩, ⟨(some 7), none, .mv (.v (.bool false))⟩, ⟨(some 8), none, .mv (.v (.int .i64 (1)))⟩] (some ⟨[6,7,8], [], []⟩))
  .ret)
  .skip))
  (.seq (.reg false [⟨(some 24), none, .mv (.t 0)⟩, ⟨(some 25), none, .mv (.t 1)⟩, ⟨(some 26), none, .fadr 0 (.t 5)⟩, ⟨(some 27), none, .load false 1 (.t 26)⟩, ⟨(some 28), none, .call (.f 106) [(.t 24), (.t 25), (.t 27)]⟩, ⟨(some 23), none, .mv (.t 28)⟩, ⟨(some 29), none, .extr (.t 23) 0⟩, ⟨(some 30), none, .extr (.t 23) 1⟩, ⟨(some 10), none, .mv (.t 29)⟩, ⟨(some 11), none, .mv (.t 30)⟩] (some ⟨[0,1,5,10,11], [5], []⟩))
  (.seq (.reg false [⟨(some 32), none, .mv (.t 0)⟩, ⟨(some 33), none, .mv (.t 1)⟩, ⟨(some 34), none, .fadr 1 (.t 5)⟩, ⟨(some 35), none, .load false 1 (.t 34)⟩, ⟨(some 36), none, .call (.f 106) [(.t 32), (.t 33), (.t 35)]⟩, ⟨(some 31), none, .mv (.t 36)⟩, ⟨(some 37), none, .extr (.t 31) 0⟩, ⟨(some 38), none, .extr (.t 31) 1⟩, ⟨(some 12), none, .mv (.t 37)⟩, ⟨(some 13), none, .mv (.t 38)⟩] (some ⟨[10,11,12,13], [], []⟩))
  (.seq (.seq (.reg false [⟨(some 39), none, .mv (.t 11)⟩, ⟨(some 40), none, .un .not (.t 39)⟩, ⟨(some 41), none, .mv (.t 40)⟩, ⟨(some 42), (some (41, false)), .mv (.t 13)⟩, ⟨(some 43), (some (41, false)), .un .not (.t 42)⟩, ⟨(some 44), none, .pick (.t 41) (.v (.bool true)) (.t 43)⟩] (some ⟨[10,12,44], [], []⟩))
  (.cond (.t 44)
  (.seq (.reg false [⟨(some 6), none, .mv (.v (.int .i64 (0)))⟩, ⟨(some 7), none, .mv (.v (.bool false))⟩, ⟨(some 8), none, .mv (.v (.int .i64 (0)))⟩] (some ⟨[6,7,8], [], []⟩))
  .ret)
  .skip))
  (.seq (.reg false [⟨(some 45), none, .mv (.t 12)⟩, ⟨(some 46), none, .mv (.t 10)⟩, ⟨(some 47), none, .bin .sub (.t 45) (.t 46)⟩, ⟨(some 6), none, .mv (.t 47)⟩, ⟨(some 7), none, .mv (.v (.bool true))⟩, ⟨(some 8), none, .mv (.v (.int .i64 (0)))⟩] (some ⟨[6,7,8], [], []⟩))
  .ret)))))))
theorem c_change : compileCode Try.prog Try.f50.ntmps (Try.f50.body.getD .skip) A_change = some (C_change, []) := by kernel_rfl
theorem r_change : compileRes Try.prog Try.f50.results.toList = some [.t 6, .t 7, .t 8] := by kernel_rfl
theorem b_change : Try.f50.body = some (Try.f50.body.getD .skip) := by kernel_rfl
theorem n_change : (Try.f50.name == "runtime.NumGoroutine") = false := by kernel_rfl
theorem fc_change {xt : Option (List Cel)} {args : List Val} {R : List Cel → Val → Prop} (hn : (if xt.isSome then 1 else 0) + args.length ≤ Try.f50.ntmps) (h : ex Try.prog C_change [] (fpost xt [.t 6, .t 7, .t 8] R) (initSt xt args)) : FC Try.prog 50 xt args R :=
  fc_of_awp Try.func50 b_change n_change c_change r_change (of_decide_eq_true (by kernel_rfl)) hn h

def A_changeOf : List Ann := [⟨(some ⟨[0,1,5], [5], []⟩), [], [], [], []⟩, ⟨(some ⟨[0,1,5,8,9], [5,8], []⟩), [], [], [], []⟩, ⟨(some ⟨[8,9,10,11], [8,10], []⟩), [], [], [], []⟩, ⟨(some ⟨[8,10,43], [8,10], []⟩), [], [], [], []⟩, ⟨(some ⟨[6,7], [], []⟩), [], [], [], []⟩, ⟨(some ⟨[6,7], [], []⟩), [], [], [], []⟩]
def C_changeOf : AC := (.seq (.reg false [⟨(some 5), none, .box (.t 2)⟩, ⟨(some 6), none, .mv (.v (.int .i64 (0)))⟩, ⟨(some 7), none, .mv (.v (.bool false))⟩] (some ⟨[0,1,5], [5], []⟩))
  (.seq (.reg false [⟨(some 13), none, .mv (.t 0)⟩, ⟨(some 14), none, .mv (.t 1)⟩, ⟨(some 15), none, .fadr 0 (.t 5)⟩, ⟨(some 16), none, .load false 1 (.t 15)⟩, ⟨(some 17), none, .call (.f 27) [(.t 13), (.t 14), (.t 16)]⟩, ⟨(some 12), none, .mv (.t 17)⟩, ⟨(some 18), none, .extr (.t 12) 0⟩, ⟨(some 19), none, .extr (.t 12) 1⟩, ⟨(some 8), none, .alloc [(.int .i64 (0)), (.int .i64 (0)), (.int .i64 (0)), (.int .i64 (0))]⟩, ⟨none, none, .store 4 (.t 8) (.t 18)⟩, ⟨(some 9), none, .mv (.t 19)⟩] (some ⟨[0,1,5,8,9], [5,8], []⟩))
  (.seq (.reg false [⟨(some 21), none, .mv (.t 0)⟩, ⟨(some 22), none, .mv (.t 1)⟩, ⟨(some 23), none, .fadr 1 (.t 5)⟩, ⟨(some 24), none, .load false 1 (.t 23)⟩, ⟨(some 25), none, .call (.f 27) [(.t 21), (.t 22), (.t 24)]⟩, ⟨(some 20), none, .mv (.t 25)⟩, ⟨(some 26), none, .extr (.t 20) 0⟩, ⟨(some 27), none, .extr (.t 20) 1⟩, ⟨(some 10), none, .alloc [(.int .i64 (0)), (.int .i64 (0)), (.int .i64 (0)), (.int .i64 (0))]⟩, ⟨none, none, .store 4 (.t 10) (.t 26)⟩, ⟨(some 11), none, .mv (.t 27)⟩] (some ⟨[8,9,10,11], [8,10], []⟩))
  (.seq (.seq (.reg false [⟨(some 28), none, .mv (.t 9)⟩, ⟨(some 29), none, .un .not (.t 28)⟩, ⟨(some 30), none, .mv (.t 29)⟩, ⟨(some 31), (some (30, false)), .mv (.t 11)⟩, ⟨(some 32), (some (30, false)), .un .not (.t 31)⟩, ⟨(some 33), none, .pick (.t 30) (.v (.bool true)) (.t 32)⟩, ⟨(some 34), none, .mv (.t 33)⟩, ⟨(some 35), (some (34, false)), .fadr 3 (.t 8)⟩, ⟨(some 36), (some (34, false)), .load false 1 (.t 35)⟩, ⟨(some 37), (some (34, false)), .bin .eql (.t 36) (.v (.int .i64 (2)))⟩, ⟨(some 38), none, .pick (.t 34) (.v (.bool true)) (.t 37)⟩, ⟨(some 39), none, .mv (.t 38)⟩, ⟨(some 40), (some (39, false)), .fadr 3 (.t 10)⟩, ⟨(some 41), (some (39, false)), .load false 1 (.t 40)⟩, ⟨(some 42), (some (39, false)), .bin .eql (.t 41) (.v (.int .i64 (2)))⟩, ⟨(some 43), none, .pick (.t 39) (.v (.bool true)) (.t 42)⟩] (some ⟨[8,10,43], [8,10], []⟩))
  (.cond (.t 43)
  (.seq (.reg false [⟨(some 6), none, .mv (.v (.int .i64 (0)))⟩, ⟨(some 7), none, .mv (.v (.bool false))⟩] (some ⟨[6,7], [], []⟩))
  .ret)
  .skip))
  (.seq (.reg true [⟨(some 44), none, .fadr 1 (.t 10)⟩, ⟨(some 45), none, .load true 2 (.t 44)⟩, ⟨(some 46), none, .call (.f 111) [(.t 45)]⟩, ⟨(some 47), none, .fadr 1 (.t 8)⟩, ⟨(some 48), none, .load true 2 (.t 47)⟩, ⟨(some 49), none, .call (.f 111) [(.t 48)]⟩, ⟨(some 50), none, .bin .sub (.t 46) (.t 49)⟩, ⟨(some 6), none, .mv (.t 50)⟩, ⟨(some 7), none, .mv (.v (.bool true))⟩] (some ⟨[6,7], [], []⟩))
  .ret)))))
theorem c_changeOf : compileCode Try.prog Try.f53.ntmps (Try.f53.body.getD .skip) A_changeOf = some (C_changeOf, []) := by kernel_rfl
theorem r_changeOf : compileRes Try.prog Try.f53.results.toList = some [.t 6, .t 7] := by kernel_rfl
theorem b_changeOf : Try.f53.body = some (Try.f53.body.getD .skip) := by kernel_rfl
theorem n_changeOf : (Try.f53.name == "runtime.NumGoroutine") = false := by kernel_rfl
theorem fc_changeOf {xt : Option (List Cel)} {args : List Val} {R : List Cel → Val → Prop} (hn : (if xt.isSome then 1 else 0) + args.length ≤ Try.f53.ntmps) (h : ex Try.prog C_changeOf [] (fpost xt [.t 6, .t 7] R) (initSt xt args)) : FC Try.prog 53 xt args R :=
  fc_of_awp Try.func53 b_changeOf n_changeOf c_changeOf r_changeOf (of_decide_eq_true (by kernel_rfl)) hn h

def A_eqFr : List Ann := [⟨(some ⟨[0,1], [], []⟩), [], [], [], []⟩, ⟨(some ⟨[0,1,10], [], []⟩), [], [], [], []⟩, ⟨(some ⟨[4], [], []⟩), [], [], [], []⟩, ⟨(some ⟨[0,1,12,13], [], []⟩), [], [], [], []⟩, ⟨(some ⟨[0,1,12,13,14], [], []⟩), [], [], [], []⟩, ⟨(some ⟨[0,1,5,12,13], [], []⟩), [], [], [], []⟩, ⟨(some ⟨[0,1,12,13,24], [], []⟩), [], [], [], []⟩, ⟨(some ⟨[4], [], []⟩), [], [], [], []⟩, ⟨(some ⟨[0,1,12,13], [], []⟩), [], [], [], []⟩, ⟨(some ⟨[4], [], []⟩), [], [], [], []⟩]
def C_eqFr : AC := (.seq (.reg false [⟨(some 4), none, .mv (.v (.bool false))⟩] (some ⟨[0,1], [], []⟩))
  (.seq (.seq (.reg false [⟨(some 6), none, .mv (.t 0)⟩, ⟨(some 7), none, .len (.t 6)⟩, ⟨(some 8), none, .mv (.t 1)⟩, ⟨(some 9), none, .len (.t 8)⟩, ⟨(some 10), none, .bin .neq (.t 7) (.t 9)⟩] (some ⟨[0,1,10], [], []⟩))
  (.cond (.t 10)
  (.seq (.reg false [⟨(some 4), none, .mv (.v (.bool false))⟩] (some ⟨[4], [], []⟩))
  .ret)
  .skip))
  (.seq (.seq (.reg false [⟨(some 11), none, .mv (.t 0)⟩, ⟨(some 12), none, .len (.t 11)⟩, ⟨(some 13), none, .mv (.v (.int .i64 (0)))⟩] (some ⟨[0,1,12,13], [], []⟩))
  (.block 0 (.loop (.seq (.reg false [⟨(some 14), none, .bin .lss (.t 13) (.t 12)⟩] (some ⟨[0,1,12,13,14], [], []⟩))
  (.seq (.cond (.t 14)
  .skip
  (.exit 0))
  (.seq (.block 1 (.seq (.reg false [⟨(some 15), none, .mv (.t 13)⟩, ⟨(some 5), none, .mv (.t 15)⟩] (some ⟨[0,1,5,12,13], [], []⟩))
  (.seq (.reg true [⟨(some 16), none, .mv (.t 0)⟩, ⟨(some 17), none, .mv (.t 5)⟩, ⟨(some 18), none, .iadr 2 (.t 16) (.t 17)⟩, ⟨(some 19), none, .load true 2 (.t 18)⟩, ⟨(some 20), none, .mv (.t 1)⟩, ⟨(some 21), none, .mv (.t 5)⟩, ⟨(some 22), none, .iadr 2 (.t 20) (.t 21)⟩, ⟨(some 23), none, .load true 2 (.t 22)⟩, ⟨(some 24), none, .eqs true true [.i .i64, .i .i64] (.t 19) (.t 23)⟩] (some ⟨[0,1,12,13,24], [], []⟩))
  (.cond (.t 24)
  (.seq (.reg false [⟨(some 4), none, .mv (.v (.bool false))⟩] (some ⟨[4], [], []⟩))
  .ret)
  .skip))))
  (.reg false [⟨(some 25), none, .bin .add (.t 13) (.v (.int .i64 (1)))⟩, ⟨(some 13), none, .mv (.t 25)⟩] (some ⟨[0,1,12,13], [], []⟩))))))))
  (.seq (.reg false [⟨(some 4), none, .mv (.v (.bool true))⟩] (some ⟨[4], [], []⟩))
  .ret))))
theorem c_eqFr : compileCode Try.prog Try.f54.ntmps (Try.f54.body.getD .skip) A_eqFr = some (C_eqFr, []) := by kernel_rfl
theorem r_eqFr : compileRes Try.prog Try.f54.results.toList = some [.t 4] := by kernel_rfl
theorem b_eqFr : Try.f54.body = some (Try.f54.body.getD .skip) := by kernel_rfl
theorem n_eqFr : (Try.f54.name == "runtime.NumGoroutine") = false := by kernel_rfl
theorem fc_eqFr {xt : Option (List Cel)} {args : List Val} {R : List Cel → Val → Prop} (hn : (if xt.isSome then 1 else 0) + args.length ≤ Try.f54.ntmps) (h : ex Try.prog C_eqFr [] (fpost xt [.t 4] R) (initSt xt args)) : FC Try.prog 54 xt args R :=
  fc_of_awp Try.func54 b_eqFr n_eqFr c_eqFr r_eqFr (of_decide_eq_true (by kernel_rfl)) hn h


theorem tdiv_floor (a b : Int) (hb : 1 ≤ b) : (if a.tmod b < 0 then a.tdiv b - 1 else a.tdiv b) = a / b := by
  have h1 := Int.emod_nonneg a (show b ≠ 0 by omega)
  have h2 := Int.emod_lt_of_pos a (show 0 < b by omega)
  have h4 : b ∣ a → a % b = 0 := fun h => Int.emod_eq_zero_of_dvd h
  have hs : Int.sign b = 1 := Int.sign_eq_one_of_pos (by omega)
  rw [Int.tdiv_eq_ediv, Int.tmod_eq_emod, hs]
  by_cases h : 0 ≤ a ∨ b ∣ a
  · rw [if_pos h, if_pos h, if_neg (by omega)]; omega
  · rw [if_neg h, if_neg h, if_pos (by omega)]; omega
theorem ediv_bd {n g B : Int} (hg : 1 ≤ g) (h1 : -B ≤ n) (h2 : n ≤ B) : -B ≤ n / g ∧ n / g ≤ B := by
  have e := Int.mul_ediv_add_emod n g
  have h3 := Int.emod_nonneg n (show g ≠ 0 by omega)
  have h4 := Int.emod_lt_of_pos n (show 0 < g by omega)
  refine ⟨Int.le_ediv_of_mul_le (by omega) ?_, ?_⟩
  · have h5 : -B * g ≤ -B * 1 ∨ B < 0 := by
      by_cases hB : B < 0
      · exact .inr hB
      · left
        have := Int.mul_le_mul_of_nonneg_left (show (1 : Int) ≤ g by omega) (show 0 ≤ B by omega)
        rw [Int.neg_mul, Int.neg_mul]; omega
    omega
  · have h5 : n / g ≤ B := by
      apply Int.ediv_le_of_le_mul (by omega)
      have := Int.mul_le_mul_of_nonneg_left (show (1 : Int) ≤ g by omega) (show 0 ≤ B by omega)
      omega
    exact h5
theorem down_fc (a b : Int) (ha : -4611686018427387904 ≤ a ∧ a ≤ 4611686018427387904) (hb : 1 ≤ b) : FC Try.prog 139 none [iv a, iv b] (fun _ r => r = iv (a / b)) := by
  refine fc_down (by simp +arith) ?_
  have h1 := tdiv_bd hb ha.1 ha.2
  have h2 := tdiv_floor a b hb
  unfold C_down
  simp (maxSteps := 1000000) (disch := omega) only [go_sem, eq_self, decide_true, decide_false, not_true_eq_false, not_false_eq_true, reduceIte, reduceCtorEq, Nat.reduceEqDiff, Nat.reduceAdd, Nat.reduceSub, Nat.reduceLeDiff]
  exact ⟨fun h => iv_congr (by rw [if_pos h] at h2; exact h2), fun h => iv_congr (by rw [if_neg h] at h2; exact h2)⟩
/-- A fraction in thousandths, rounded down. -/
def thS (n d : Int) : Int := 1000 * (n / d) + (1000 * (n % d)).tdiv d
theorem th_facts (n d : Int) (hn : -2000000000000000000 ≤ n ∧ n ≤ 2000000000000000000) (hd : 1 ≤ d) (hd2 : d ≤ 345686400000) (hq : -9000000000000 ≤ n / d ∧ n / d ≤ 9000000000000) :
    n - n / d * d = n % d ∧ 0 ≤ n % d ∧ n % d < d ∧ 0 ≤ (1000 * (n % d)).tdiv d ∧ (1000 * (n % d)).tdiv d ≤ 1000 * (n % d) ∧ n / d * d = n - n % d := by
  have e := Int.mul_ediv_add_emod n d
  have e2 := Int.mul_comm d (n / d)
  have h3 := Int.emod_nonneg n (show d ≠ 0 by omega)
  have h4 := Int.emod_lt_of_pos n (show 0 < d by omega)
  exact ⟨by omega, h3, h4, Int.tdiv_nonneg (by omega) (by omega), Int.tdiv_le_self _ (by omega), by omega⟩
theorem thousandths1_fc (n d : Int) (hn : -2000000000000000000 ≤ n ∧ n ≤ 2000000000000000000) (hd : 1 ≤ d) (hd2 : d ≤ 345686400000) (hq : -9000000000000 ≤ n / d ∧ n / d ≤ 9000000000000) :
    FC Try.prog 111 none [.ag [.g (.int .i64 n), .g (.int .i64 d)]] (fun _ r => r = iv (thS n d)) := by
  refine fc_thousandths1 (by simp +arith) ?_
  obtain ⟨e1, e2, e3, e4, e5, e6⟩ := th_facts n d hn hd hd2 hq
  have h1 := tdiv_bd hd hn.1 hn.2
  have h2 := tdiv_floor n d hd
  rw [← h2] at e1 e6 hq
  unfold C_thousandths1 thS
  rw [← h2]
  rw [← e1] at e2 e3 e4 e5 ⊢
  simp (maxSteps := 1000000) (disch := omega) only [go_sem, eq_self, decide_true, decide_false, not_true_eq_false, not_false_eq_true, reduceIte, reduceCtorEq, Nat.reduceEqDiff, Nat.reduceAdd, Nat.reduceSub, Nat.reduceLeDiff]
  refine ⟨fun h => ?_, fun h => ?_⟩
  · rw [if_pos h] at e1 e2 e3 e4 e5 e6 hq ⊢
    simp (maxSteps := 1000000) (disch := omega) only [go_sem, eq_self, decide_true, decide_false, not_true_eq_false, not_false_eq_true, reduceIte, reduceCtorEq, Nat.reduceEqDiff, Nat.reduceAdd, Nat.reduceSub, Nat.reduceLeDiff]
  · rw [if_neg h] at e1 e2 e3 e4 e5 e6 hq ⊢
    simp (maxSteps := 1000000) (disch := omega) only [go_sem, eq_self, decide_true, decide_false, not_true_eq_false, not_false_eq_true, reduceIte, reduceCtorEq, Nat.reduceEqDiff, Nat.reduceAdd, Nat.reduceSub, Nat.reduceLeDiff]
def thV (l : List Smp) (st : Bool) (at_ : Int) : Int × Bool := if (valSp l st at_).2 = false ∨ (valSp l st at_).1.q = 2 then (0, false) else (thS (valSp l st at_).1.n (valSp l st at_).1.d, true)
/-- How large a value is. -/
theorem valSp_bd {l : List Smp} (hg : Good l) (st : Bool) {at_ : Int} (ha : 0 ≤ at_ ∧ at_ ≤ 345686400000) (h : (valSp l st at_).2 = true) :
    (-2000000000000000000 ≤ (valSp l st at_).1.n ∧ (valSp l st at_).1.n ≤ 2000000000000000000) ∧ 1 ≤ (valSp l st at_).1.d ∧ (valSp l st at_).1.d ≤ 345686400000 ∧ -1000000 ≤ (valSp l st at_).1.n / (valSp l st at_).1.d ∧ (valSp l st at_).1.n / (valSp l st at_).1.d ≤ 1000000 := by
  obtain ⟨h1, h2, h3, h4⟩ := hold_spec l at_ (fun i j h h' => hg.le i j h h')
  have hdef : valSp l st at_ = valSp l st at_ := rfl
  conv at hdef => rhs; unfold valSp
  rw [hdef] at h ⊢
  simp only [] at h ⊢
  split at h
  · cases h
  · rename_i hk
    have hok := hg.ok (hold l at_).toNat (by omega)
    rw [if_neg hk]
    by_cases hc : (l.getD (hold l at_).toNat default).q = 2 ∨ st = true ∨ (l.getD (hold l at_).toNat default).a = at_ ∨ hold l at_ + 1 = l.length ∨ (l.getD (hold l at_ + 1).toNat default).q = 2
    · rw [if_pos hc]
      unfold okSmp at hok
      simp only [Int.ediv_one]
      omega
    · rw [if_neg hc]
      simp only []
      have hc' : ¬ hold l at_ + 1 = l.length := fun h => hc (.inr (.inr (.inr (.inl h))))
      have hokn := hg.ok (hold l at_ + 1).toNat (by omega)
      have hup := hg.up (hold l at_).toNat (hold l at_ + 1).toNat (by omega) (by omega)
      have hb := lineN_bd hok hokn ha
      have ha2 := h3 (hold l at_).toNat (by omega) (by omega)
      have ha3 := h4 (hold l at_ + 1).toNat (by omega) (by omega)
      generalize l.getD (hold l at_).toNat default = p at *
      generalize l.getD (hold l at_ + 1).toNat default = n at *
      have hN : lineN p n at_ = p.v * (n.a - p.a) + (n.v - p.v) * (at_ - p.a) := rfl
      have hlow := low_eq (lineN p n at_) (n.a - p.a) (by omega)
      have hg2 := hlow.2.2.1
      have hD := tdiv_bd (n := n.a - p.a) (B := 345686400000) hg2 (by unfold okSmp at *; omega) (by unfold okSmp at *; omega)
      have hNb := tdiv_bd (n := lineN p n at_) (B := 2000000000000000000) hg2 (by omega) (by omega)
      have hd1 := hlow.2.2.2
      unfold okSmp at *
      -- the value lies between the two
      have key : -1000000 * (n.a - p.a) ≤ lineN p n at_ ∧ lineN p n at_ ≤ 1000000 * (n.a - p.a) := by
        have hx : lineN p n at_ = p.v * (n.a - at_) + n.v * (at_ - p.a) := by
          rw [hN, Int.sub_mul, Int.mul_sub, Int.mul_sub, Int.mul_sub, Int.mul_sub]; omega
        have m1 := Int.mul_le_mul_of_nonneg_right (show p.v ≤ 1000000 by omega) (show 0 ≤ n.a - at_ by omega)
        have m2 := Int.mul_le_mul_of_nonneg_right (show -1000000 ≤ p.v by omega) (show 0 ≤ n.a - at_ by omega)
        have m3 := Int.mul_le_mul_of_nonneg_right (show n.v ≤ 1000000 by omega) (show 0 ≤ at_ - p.a by omega)
        have m4 := Int.mul_le_mul_of_nonneg_right (show -1000000 ≤ n.v by omega) (show 0 ≤ at_ - p.a by omega)
        rw [hx]; omega
      have k2 : -1000000 * lowD (lineN p n at_) (n.a - p.a) ≤ lowN (lineN p n at_) (n.a - p.a) ∧ lowN (lineN p n at_) (n.a - p.a) ≤ 1000000 * lowD (lineN p n at_) (n.a - p.a) := by
        have w1 := (low_win (-1000000) (lineN p n at_) (n.a - p.a) (by omega)).1
        have w2 := (low_win 1000000 (lineN p n at_) (n.a - p.a) (by omega)).2
        have w3 := (low_win 1000000 (lineN p n at_) (n.a - p.a) (by omega)).1
        refine ⟨w1.2 key.1, ?_⟩
        obtain ⟨z1, z2, z3, z4⟩ := hlow
        generalize lowG (lineN p n at_) (n.a - p.a) = g at *
        generalize lowN (lineN p n at_) (n.a - p.a) = NN at *
        generalize lowD (lineN p n at_) (n.a - p.a) = DD at *
        have z5 : g * NN ≤ g * (1000000 * DD) := by rw [Int.mul_left_comm, ← z1, ← z2]; exact key.2
        exact Int.le_of_mul_le_mul_left z5 (by omega)
      have hD' : lowD (lineN p n at_) (n.a - p.a) ≤ 345686400000 := hD.2
      have hN' : -2000000000000000000 ≤ lowN (lineN p n at_) (n.a - p.a) ∧ lowN (lineN p n at_) (n.a - p.a) ≤ 2000000000000000000 := hNb
      refine ⟨hN', hd1, hD', Int.le_ediv_of_mul_le (by omega) k2.1, Int.ediv_le_of_le_mul (by omega) k2.2⟩
theorem thousandths_fc (l : List Smp) (hg : Good l) (st : Bool) (at_ : Int) (ha : 0 ≤ at_ ∧ at_ ≤ 345686400000) : FC Try.prog 106 none [smps false l, bv st, iv at_] (fun _ r => r = .tu [iv (thV l st at_).1, bv (thV l st at_).2]) := by
  refine fc_thousandths (by simp +arith) ?_
  unfold C_thousandths
  simp (maxSteps := 1000000) (disch := omega) only [go_sem, eq_self, decide_true, decide_false, not_true_eq_false, not_false_eq_true, reduceIte, reduceCtorEq, Nat.reduceEqDiff, Nat.reduceAdd, Nat.reduceSub, Nat.reduceLeDiff]
  refine CALL_det (valueAt_fc l st at_ hg ha) (.inl rfl) ?_
  have hbd := valSp_bd hg st ha
  unfold thV
  generalize valSp l st at_ = x at *
  obtain ⟨x, b⟩ := x
  cases b with
  | false =>
    simp only [if_pos (Or.inl rfl)]
    simp (maxSteps := 1000000) (disch := omega) only [go_sem, eq_self, decide_true, decide_false, not_true_eq_false, not_false_eq_true, reduceIte, reduceCtorEq, Nat.reduceEqDiff, Nat.reduceAdd, Nat.reduceSub, Nat.reduceLeDiff]
  | true =>
    simp only at hbd ⊢
    have hbd := hbd trivial
    obtain ⟨hn, hd, hd2, hq1, hq2⟩ := hbd
    by_cases h2 : x.q = 2
    · rw [if_pos (.inr h2)]
      simp (maxSteps := 1000000) (disch := omega) only [go_sem, eq_self, decide_true, decide_false, not_true_eq_false, not_false_eq_true, reduceIte, reduceCtorEq, Nat.reduceEqDiff, Nat.reduceAdd, Nat.reduceSub, Nat.reduceLeDiff]
    · rw [if_neg (by simp [h2])]
      obtain ⟨e1, e2, e3, e4, e5, e6⟩ := th_facts x.n x.d hn hd hd2 (by omega)
      simp (maxSteps := 1000000) (disch := omega) only [go_sem, eq_self, decide_true, decide_false, not_true_eq_false, not_false_eq_true, reduceIte, reduceCtorEq, Nat.reduceEqDiff, Nat.reduceAdd, Nat.reduceSub, Nat.reduceLeDiff]
      refine CALL_det (down_fc x.n x.d (by omega) hd) (.inl rfl) ?_
      have e7 : (x.n % x.d) * 1000 = 1000 * (x.n % x.d) := Int.mul_comm _ _
      rw [← e7] at e4 e5
      unfold thS
      rw [← e7, ← e1]
      rw [← e1] at e4 e5 e2 e3
      have e8 : 1000 * (x.n / x.d) = x.n / x.d * 1000 := Int.mul_comm _ _
      rw [e8]
      simp (maxSteps := 1000000) (disch := omega) only [go_sem, eq_self, decide_true, decide_false, not_true_eq_false, not_false_eq_true, reduceIte, reduceCtorEq, Nat.reduceEqDiff, Nat.reduceAdd, Nat.reduceSub, Nat.reduceLeDiff]
def chSp (l : List Smp) (st : Bool) (f t : Int) : Int × Bool × Int :=
  if bothFault l f t ≠ 0 then (0, false, bothFault l f t) else if t = 345686400000 then (0, false, 1) else if (thV l st f).2 = true ∧ (thV l st t).2 = true then ((thV l st t).1 - (thV l st f).1, true, 0) else (0, false, 0)
theorem thV_bd {l : List Smp} (hg : Good l) (st : Bool) {at_ : Int} (ha : 0 ≤ at_ ∧ at_ ≤ 345686400000) : -2000000000000000 ≤ (thV l st at_).1 ∧ (thV l st at_).1 ≤ 2000000000000000 := by
  have hbd := valSp_bd hg st ha
  unfold thV
  split
  · simp only []; omega
  · rename_i h
    have h2 : (valSp l st at_).2 = true := by
      cases h3 : (valSp l st at_).2 with
      | true => rfl
      | false => exact absurd (.inl h3) h
    obtain ⟨hn, hd, hd2, hq1, hq2⟩ := hbd h2
    obtain ⟨e1, e2, e3, e4, e5, e6⟩ := th_facts _ _ hn hd hd2 (by omega)
    simp only [thS]
    omega
theorem change_fc (l : List Smp) (hl : l.length ≤ 4611686018427387904) (st : Bool) (f t : Int) : FC Try.prog 50 none [smps false l, bv st, winV f t] (fun _ r => r = .tu [iv (chSp l st f t).1, bv (chSp l st f t).2.1, iv (chSp l st f t).2.2]) := by
  refine fc_change (by simp +arith) ?_
  unfold C_change
  simp (maxSteps := 1000000) (disch := omega) only [go_sem, eq_self, decide_true, decide_false, not_true_eq_false, not_false_eq_true, reduceIte, reduceCtorEq, Nat.reduceEqDiff, Nat.reduceAdd, Nat.reduceSub, Nat.reduceLeDiff]
  refine CALL_det (fault_fc l hl f t) (.inl rfl) ?_
  unfold chSp
  by_cases h1 : bothFault l f t = 0
  · obtain ⟨h2, h3⟩ := bothFault_ok h1
    have hg := good_of h2
    have hw := winFault_ok h3
    rw [if_neg (by omega)]
    by_cases h4 : t = 345686400000
    · rw [if_pos h4]
      simp (maxSteps := 1000000) (disch := omega) only [go_sem, eq_self, decide_true, decide_false, not_true_eq_false, not_false_eq_true, reduceIte, reduceCtorEq, Nat.reduceEqDiff, Nat.reduceAdd, Nat.reduceSub, Nat.reduceLeDiff]
    · rw [if_neg h4]
      have b1 := thV_bd hg st (at_ := f) (by omega)
      have b2 := thV_bd hg st (at_ := t) (by omega)
      simp (maxSteps := 1000000) (disch := omega) only [go_sem, eq_self, decide_true, decide_false, not_true_eq_false, not_false_eq_true, reduceIte, reduceCtorEq, Nat.reduceEqDiff, Nat.reduceAdd, Nat.reduceSub, Nat.reduceLeDiff]
      refine CALL_det (thousandths_fc l hg st f (by omega)) (.inl rfl) ?_
      simp (maxSteps := 1000000) (disch := omega) only [go_sem, eq_self, decide_true, decide_false, not_true_eq_false, not_false_eq_true, reduceIte, reduceCtorEq, Nat.reduceEqDiff, Nat.reduceAdd, Nat.reduceSub, Nat.reduceLeDiff]
      refine CALL_det (thousandths_fc l hg st t (by omega)) (.inl rfl) ?_
      generalize thV l st f = x at *
      generalize thV l st t = y at *
      obtain ⟨x, bx⟩ := x
      obtain ⟨y, by_⟩ := y
      simp only at b1 b2
      cases bx with
      | false => simp (maxSteps := 1000000) (disch := omega) only [go_sem, eq_self, decide_true, decide_false, not_true_eq_false, not_false_eq_true, reduceIte, reduceCtorEq, Nat.reduceEqDiff, Nat.reduceAdd, Nat.reduceSub, Nat.reduceLeDiff]; rfl
      | true =>
        cases by_ with
        | false => simp (maxSteps := 1000000) (disch := omega) only [go_sem, eq_self, decide_true, decide_false, not_true_eq_false, not_false_eq_true, reduceIte, reduceCtorEq, Nat.reduceEqDiff, Nat.reduceAdd, Nat.reduceSub, Nat.reduceLeDiff]
        | true => simp (maxSteps := 1000000) (disch := omega) only [go_sem, eq_self, decide_true, decide_false, not_true_eq_false, not_false_eq_true, reduceIte, reduceCtorEq, Nat.reduceEqDiff, Nat.reduceAdd, Nat.reduceSub, Nat.reduceLeDiff]
  · rw [if_pos h1]
    simp (maxSteps := 1000000) (disch := omega) only [go_sem, eq_self, decide_true, decide_false, not_true_eq_false, not_false_eq_true, reduceIte, reduceCtorEq, Nat.reduceEqDiff, Nat.reduceAdd, Nat.reduceSub, Nat.reduceLeDiff]
def chO (l : List Smp) (st : Bool) (f t : Int) : Int × Bool := if (thV l st f).2 = true ∧ (thV l st t).2 = true then ((thV l st t).1 - (thV l st f).1, true) else (0, false)
theorem changeOf_fc (l : List Smp) (hg : Good l) (st : Bool) (f t : Int) (hw : 0 ≤ f ∧ f ≤ t ∧ t ≤ 345686400000) : FC Try.prog 53 none [smps false l, bv st, winV f t] (fun _ r => r = .tu [iv (chO l st f t).1, bv (chO l st f t).2]) := by
  refine fc_changeOf (by simp +arith) ?_
  unfold C_changeOf
  have b1 := thV_bd hg st (at_ := f) (by omega)
  have b2 := thV_bd hg st (at_ := t) (by omega)
  have d1 := valSp_bd hg st (at_ := f) (by omega)
  have d2 := valSp_bd hg st (at_ := t) (by omega)
  simp (maxSteps := 1000000) (disch := omega) only [go_sem, eq_self, decide_true, decide_false, not_true_eq_false, not_false_eq_true, reduceIte, reduceCtorEq, Nat.reduceEqDiff, Nat.reduceAdd, Nat.reduceSub, Nat.reduceLeDiff]
  refine CALL_det (valueOf_fc l st f hg (by omega)) (.inl rfl) ?_
  simp (maxSteps := 1000000) (disch := omega) only [go_sem, eq_self, decide_true, decide_false, not_true_eq_false, not_false_eq_true, reduceIte, reduceCtorEq, Nat.reduceEqDiff, Nat.reduceAdd, Nat.reduceSub, Nat.reduceLeDiff]
  refine CALL_det (valueOf_fc l st t hg (by omega)) (.inl rfl) ?_
  unfold chO
  unfold thV at b1 b2 ⊢
  generalize valSp l st f = x at *
  generalize valSp l st t = y at *
  obtain ⟨x, bx⟩ := x
  obtain ⟨y, by_⟩ := y
  simp only at b1 b2 d1 d2 ⊢
  cases bx with
  | false => simp (maxSteps := 1000000) (disch := omega) only [go_sem, eq_self, decide_true, decide_false, not_true_eq_false, not_false_eq_true, reduceIte, reduceCtorEq, Nat.reduceEqDiff, Nat.reduceAdd, Nat.reduceSub, Nat.reduceLeDiff]; simp
  | true =>
    cases by_ with
    | false => simp (maxSteps := 1000000) (disch := omega) only [go_sem, eq_self, decide_true, decide_false, not_true_eq_false, not_false_eq_true, reduceIte, reduceCtorEq, Nat.reduceEqDiff, Nat.reduceAdd, Nat.reduceSub, Nat.reduceLeDiff]; simp
    | true =>
      have d1 := d1 rfl
      have d2 := d2 rfl
      by_cases h1 : x.q = 2
      · simp (maxSteps := 1000000) (disch := omega) only [go_sem, eq_self, decide_true, decide_false, not_true_eq_false, not_false_eq_true, reduceIte, reduceCtorEq, Nat.reduceEqDiff, Nat.reduceAdd, Nat.reduceSub, Nat.reduceLeDiff]; simp [h1]
      · by_cases h2 : y.q = 2
        · simp (maxSteps := 1000000) (disch := omega) only [go_sem, eq_self, decide_true, decide_false, not_true_eq_false, not_false_eq_true, reduceIte, reduceCtorEq, Nat.reduceEqDiff, Nat.reduceAdd, Nat.reduceSub, Nat.reduceLeDiff]; simp [h2]
        · rw [if_neg (by simp [h1])] at b1
          rw [if_neg (by simp [h2])] at b2
          simp only at b1 b2
          simp (maxSteps := 1000000) (disch := omega) only [go_sem, eq_self, decide_true, decide_false, not_true_eq_false, not_false_eq_true, reduceIte, reduceCtorEq, Nat.reduceEqDiff, Nat.reduceAdd, Nat.reduceSub, Nat.reduceLeDiff]
          refine CALL_det (thousandths1_fc _ _ (by omega) (by omega) (by omega) (by omega)) (.inl rfl) ?_
          simp (maxSteps := 1000000) (disch := omega) only [go_sem, eq_self, decide_true, decide_false, not_true_eq_false, not_false_eq_true, reduceIte, reduceCtorEq, Nat.reduceEqDiff, Nat.reduceAdd, Nat.reduceSub, Nat.reduceLeDiff]
          refine CALL_det (thousandths1_fc _ _ (by omega) (by omega) (by omega) (by omega)) (.inl rfl) ?_
          simp (maxSteps := 1000000) (disch := omega) only [go_sem, eq_self, decide_true, decide_false, not_true_eq_false, not_false_eq_true, reduceIte, reduceCtorEq, Nat.reduceEqDiff, Nat.reduceAdd, Nat.reduceSub, Nat.reduceLeDiff]
          simp [h1, h2]
def eqFSt (fr fr' : Bool) (l : List (Int × Int)) (i : Int) : AS := ⟨tabV [(0, frsV fr l), (1, frsV fr' l), (12, iv l.length), (13, iv i)], tabO [], tabO []⟩
theorem eqFr_fc (fr fr' : Bool) (l : List (Int × Int)) (hl : l.length ≤ 4611686018427387904) : FC Try.prog 54 none [frsV fr l, frsV fr' l] (fun _ r => r = bv true) := by
  refine fc_eqFr (by simp +arith) ?_
  unfold C_eqFr
  simp (maxSteps := 1000000) (disch := omega) only [go_sem, eq_self, decide_true, decide_false, not_true_eq_false, not_false_eq_true, reduceIte, reduceCtorEq, Nat.reduceEqDiff, Nat.reduceAdd, Nat.reduceSub, Nat.reduceLeDiff]
  refine ex_loop1 (eqFSt fr fr' l) (fun i => 0 ≤ i ∧ i ≤ l.length) (fun i => (l.length - i).toNat) 0 ⟨by omega, by omega⟩ rfl ?_
  rintro i ⟨g1, g2⟩
  unfold eqFSt
  by_cases hi : i < l.length
  · simp (maxSteps := 1000000) (disch := omega) only [go_sem, eq_self, decide_true, decide_false, not_true_eq_false, not_false_eq_true, reduceIte, reduceCtorEq, Nat.reduceEqDiff, Nat.reduceAdd, Nat.reduceSub, Nat.reduceLeDiff]
    exact ⟨_, rfl, ⟨by omega, by omega⟩, by omega⟩
  · simp (maxSteps := 1000000) (disch := omega) only [go_sem, eq_self, decide_true, decide_false, not_true_eq_false, not_false_eq_true, reduceIte, reduceCtorEq, Nat.reduceEqDiff, Nat.reduceAdd, Nat.reduceSub, Nat.reduceLeDiff]
theorem refGo_len (L f t : Int) : ∀ l : List Smp, (refGo L f t l).length ≤ l.length
  | [] => by simp [refGo]
  | a :: r => by
    have h1 := refGo_len L f t r
    have h2 := inn_len L f t a r none
    rw [refGo, List.length_append, List.length_cons]; omega
end Go.Proofs.Ytkecmbgjhamhiaa

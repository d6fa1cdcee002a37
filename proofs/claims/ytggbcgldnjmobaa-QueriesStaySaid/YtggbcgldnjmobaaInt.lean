
/-
  Integrals and extremes of pieces.
-/
import Derived.Test.YtggbcgldnjmobaaAbvb
namespace Go.Proofs.Ytggbcgldnjmobaa
open Go Go.Ai
set_option linter.unusedSimpArgs false
set_option linter.unusedVariables false
set_option maxHeartbeats 4000000
def A_extClos : List Ann := [⟨(some ⟨[2,3], [2,3], []⟩), [], [], [], []⟩, ⟨(some ⟨[4], [], []⟩), [], [], [], []⟩]
def C_extClos : AC := (.seq (.reg false [⟨(some 2), none, .box (.t 0)⟩, ⟨(some 3), none, .box (.t 1)⟩, ⟨(some 4), none, .mv (.v (.int .i64 (0)))⟩] (some ⟨[2,3], [2,3], []⟩))
  (.seq (.reg false [⟨(some 5), none, .fadr 2 (.t 2)⟩, ⟨(some 6), none, .load false 1 (.t 5)⟩, ⟨(some 7), none, .fadr 2 (.t 3)⟩, ⟨(some 8), none, .load false 1 (.t 7)⟩, ⟨(some 9), none, .call (.f 93) [(.t 6), (.t 8)]⟩, ⟨(some 4), none, .mv (.t 9)⟩] (some ⟨[4], [], []⟩))
  .ret))
theorem c_extClos : compileCode Try.prog Try.f162.ntmps (Try.f162.body.getD .skip) A_extClos = some (C_extClos, []) := by kernel_rfl
theorem r_extClos : compileRes Try.prog Try.f162.results.toList = some [.t 4] := by kernel_rfl
theorem b_extClos : Try.f162.body = some (Try.f162.body.getD .skip) := by kernel_rfl
theorem n_extClos : (Try.f162.name == "runtime.NumGoroutine") = false := by kernel_rfl
theorem fc_extClos {xt : Option (List Cel)} {args : List Val} {R : List Cel → Val → Prop} (hn : (if xt.isSome then 1 else 0) + args.length ≤ Try.f162.ntmps) (h : ex Try.prog C_extClos [] (fpost xt [.t 4] R) (initSt xt args)) : FC Try.prog 162 xt args R :=
  fc_of_awp Try.func162 b_extClos n_extClos c_extClos r_extClos (of_decide_eq_true (by kernel_rfl)) hn h

def A_minF : List Ann := [⟨(some ⟨[0,1,4], [4], []⟩), [], [], [], []⟩, ⟨(some ⟨[0,1,4,9], [4], []⟩), [], [], [], []⟩, ⟨(some ⟨[0,1,4], [4], []⟩), [], [], [], []⟩, ⟨(some ⟨[0,1,4,5], [4,5], []⟩), [], [], [], []⟩, ⟨(some ⟨[0,1,4,5,6], [4,5], []⟩), [], [], [], []⟩, ⟨(some ⟨[0,1,4,5,6,17], [4,5], []⟩), [], [], [], []⟩, ⟨(some ⟨[0,1,4,5,6,27], [4,5], []⟩), [], [], [], []⟩, ⟨(some ⟨[0,1,4,5,6], [4,5], []⟩), [], [], [], []⟩, ⟨(some ⟨[0,1,4,5,6], [4,5], []⟩), [], [], [], []⟩, ⟨(some ⟨[4], [4], []⟩), [], [], [], []⟩]
def C_minF : AC := (.seq (.reg false [⟨(some 4), none, .alloc [(.int .i64 (0)), (.int .i64 (0)), (.int .i64 (0)), (.int .i64 (0))]⟩] (some ⟨[0,1,4], [4], []⟩))
  (.seq (.seq (.reg false [⟨(some 7), none, .mv (.t 0)⟩, ⟨(some 8), none, .len (.t 7)⟩, ⟨(some 9), none, .bin .lss (.t 8) (.v (.int .i64 (1)))⟩] (some ⟨[0,1,4,9], [4], []⟩))
  (.cond (.t 9)
  (.reg false [⟨(some 10), none, .un .neg (.f 0)⟩, ⟨none, none, .un .neg (.f 0)⟩] (some ⟨[0,1,4], [4], []⟩))
  .skip))
  (.seq (.reg false [⟨(some 11), none, .mv (.t 0)⟩, ⟨(some 12), none, .iadr 4 (.t 11) (.v (.int .i64 (0)))⟩, ⟨(some 13), none, .load true 4 (.t 12)⟩, ⟨(some 5), none, .alloc [(.int .i64 (0)), (.int .i64 (0)), (.int .i64 (0)), (.int .i64 (0))]⟩, ⟨none, none, .store 4 (.t 5) (.t 13)⟩] (some ⟨[0,1,4,5], [4,5], []⟩))
  (.seq (.seq (.reg false [⟨(some 6), none, .mv (.v (.int .i64 (1)))⟩] (some ⟨[0,1,4,5,6], [4,5], []⟩))
  (.block 0 (.loop (.seq (.seq (.reg false [⟨(some 14), none, .mv (.t 6)⟩, ⟨(some 15), none, .mv (.t 0)⟩, ⟨(some 16), none, .len (.t 15)⟩, ⟨(some 17), none, .bin .lss (.t 14) (.t 16)⟩] (some ⟨[0,1,4,5,6,17], [4,5], []⟩))
  (.cond (.t 17)
  .skip
  (.exit 0)))
  (.seq (.block 1 (.seq (.reg true [⟨(some 20), none, .mv (.t 1)⟩, ⟨(some 21), none, .mv (.t 0)⟩, ⟨(some 22), none, .mv (.t 6)⟩, ⟨(some 23), none, .iadr 4 (.t 21) (.t 22)⟩, ⟨(some 24), none, .load true 4 (.t 23)⟩, ⟨(some 25), none, .load true 4 (.t 5)⟩, ⟨(some 26), none, .call (.t 20) [(.t 24), (.t 25)]⟩, ⟨(some 27), none, .bin .lss (.t 26) (.v (.int .i64 (0)))⟩] (some ⟨[0,1,4,5,6,27], [4,5], []⟩))
  (.cond (.t 27)
  (.reg false [⟨(some 28), none, .mv (.t 0)⟩, ⟨(some 29), none, .mv (.t 6)⟩, ⟨(some 30), none, .iadr 4 (.t 28) (.t 29)⟩, ⟨(some 31), none, .load true 4 (.t 30)⟩, ⟨none, none, .store 4 (.t 5) (.t 31)⟩] (some ⟨[0,1,4,5,6], [4,5], []⟩))
  .skip)))
  (.reg false [⟨(some 18), none, .mv (.t 6)⟩, ⟨(some 19), none, .bin .add (.t 18) (.v (.int .i64 (1)))⟩, ⟨(some 6), none, .mv (.t 19)⟩] (some ⟨[0,1,4,5,6], [4,5], []⟩)))))))
  (.seq (.reg false [⟨(some 32), none, .load true 4 (.t 5)⟩, ⟨none, none, .store 4 (.t 4) (.t 32)⟩] (some ⟨[4], [4], []⟩))
  .ret)))))
theorem c_minF : compileCode Try.prog Try.f163.ntmps (Try.f163.body.getD .skip) A_minF = some (C_minF, []) := by kernel_rfl
theorem r_minF : compileRes Try.prog Try.f163.results.toList = some [.cell 4 true 4] := by kernel_rfl
theorem b_minF : Try.f163.body = some (Try.f163.body.getD .skip) := by kernel_rfl
theorem n_minF : (Try.f163.name == "runtime.NumGoroutine") = false := by kernel_rfl
theorem fc_minF {xt : Option (List Cel)} {args : List Val} {R : List Cel → Val → Prop} (hn : (if xt.isSome then 1 else 0) + args.length ≤ Try.f163.ntmps) (h : ex Try.prog C_minF [] (fpost xt [.cell 4 true 4] R) (initSt xt args)) : FC Try.prog 163 xt args R :=
  fc_of_awp Try.func163 b_minF n_minF c_minF r_minF (of_decide_eq_true (by kernel_rfl)) hn h

def A_maxF : List Ann := [⟨(some ⟨[0,1,4], [4], []⟩), [], [], [], []⟩, ⟨(some ⟨[0,1,4,9], [4], []⟩), [], [], [], []⟩, ⟨(some ⟨[0,1,4], [4], []⟩), [], [], [], []⟩, ⟨(some ⟨[0,1,4,5], [4,5], []⟩), [], [], [], []⟩, ⟨(some ⟨[0,1,4,5,6], [4,5], []⟩), [], [], [], []⟩, ⟨(some ⟨[0,1,4,5,6,17], [4,5], []⟩), [], [], [], []⟩, ⟨(some ⟨[0,1,4,5,6,27], [4,5], []⟩), [], [], [], []⟩, ⟨(some ⟨[0,1,4,5,6], [4,5], []⟩), [], [], [], []⟩, ⟨(some ⟨[0,1,4,5,6], [4,5], []⟩), [], [], [], []⟩, ⟨(some ⟨[4], [4], []⟩), [], [], [], []⟩]
def C_maxF : AC := (.seq (.reg false [⟨(some 4), none, .alloc [(.int .i64 (0)), (.int .i64 (0)), (.int .i64 (0)), (.int .i64 (0))]⟩] (some ⟨[0,1,4], [4], []⟩))
  (.seq (.seq (.reg false [⟨(some 7), none, .mv (.t 0)⟩, ⟨(some 8), none, .len (.t 7)⟩, ⟨(some 9), none, .bin .lss (.t 8) (.v (.int .i64 (1)))⟩] (some ⟨[0,1,4,9], [4], []⟩))
  (.cond (.t 9)
  (.reg false [⟨(some 10), none, .un .neg (.f 0)⟩, ⟨none, none, .un .neg (.f 0)⟩] (some ⟨[0,1,4], [4], []⟩))
  .skip))
  (.seq (.reg false [⟨(some 11), none, .mv (.t 0)⟩, ⟨(some 12), none, .iadr 4 (.t 11) (.v (.int .i64 (0)))⟩, ⟨(some 13), none, .load true 4 (.t 12)⟩, ⟨(some 5), none, .alloc [(.int .i64 (0)), (.int .i64 (0)), (.int .i64 (0)), (.int .i64 (0))]⟩, ⟨none, none, .store 4 (.t 5) (.t 13)⟩] (some ⟨[0,1,4,5], [4,5], []⟩))
  (.seq (.seq (.reg false [⟨(some 6), none, .mv (.v (.int .i64 (1)))⟩] (some ⟨[0,1,4,5,6], [4,5], []⟩))
  (.block 0 (.loop (.seq (.seq (.reg false [⟨(some 14), none, .mv (.t 6)⟩, ⟨(some 15), none, .mv (.t 0)⟩, ⟨(some 16), none, .len (.t 15)⟩, ⟨(some 17), none, .bin .lss (.t 14) (.t 16)⟩] (some ⟨[0,1,4,5,6,17], [4,5], []⟩))
  (.cond (.t 17)
  .skip
  (.exit 0)))
  (.seq (.block 1 (.seq (.reg true [⟨(some 20), none, .mv (.t 1)⟩, ⟨(some 21), none, .mv (.t 0)⟩, ⟨(some 22), none, .mv (.t 6)⟩, ⟨(some 23), none, .iadr 4 (.t 21) (.t 22)⟩, ⟨(some 24), none, .load true 4 (.t 23)⟩, ⟨(some 25), none, .load true 4 (.t 5)⟩, ⟨(some 26), none, .call (.t 20) [(.t 24), (.t 25)]⟩, ⟨(some 27), none, .bin .gtr (.t 26) (.v (.int .i64 (0)))⟩] (some ⟨[0,1,4,5,6,27], [4,5], []⟩))
  (.cond (.t 27)
  (.reg false [⟨(some 28), none, .mv (.t 0)⟩, ⟨(some 29), none, .mv (.t 6)⟩, ⟨(some 30), none, .iadr 4 (.t 28) (.t 29)⟩, ⟨(some 31), none, .load true 4 (.t 30)⟩, ⟨none, none, .store 4 (.t 5) (.t 31)⟩] (some ⟨[0,1,4,5,6], [4,5], []⟩))
  .skip)))
  (.reg false [⟨(some 18), none, .mv (.t 6)⟩, ⟨(some 19), none, .bin .add (.t 18) (.v (.int .i64 (1)))⟩, ⟨(some 6), none, .mv (.t 19)⟩] (some ⟨[0,1,4,5,6], [4,5], []⟩)))))))
  (.seq (.reg false [⟨(some 32), none, .load true 4 (.t 5)⟩, ⟨none, none, .store 4 (.t 4) (.t 32)⟩] (some ⟨[4], [4], []⟩))
  .ret)))))
theorem c_maxF : compileCode Try.prog Try.f164.ntmps (Try.f164.body.getD .skip) A_maxF = some (C_maxF, []) := by kernel_rfl
theorem r_maxF : compileRes Try.prog Try.f164.results.toList = some [.cell 4 true 4] := by kernel_rfl
theorem b_maxF : Try.f164.body = some (Try.f164.body.getD .skip) := by kernel_rfl
theorem n_maxF : (Try.f164.name == "runtime.NumGoroutine") = false := by kernel_rfl
theorem fc_maxF {xt : Option (List Cel)} {args : List Val} {R : List Cel → Val → Prop} (hn : (if xt.isSome then 1 else 0) + args.length ≤ Try.f164.ntmps) (h : ex Try.prog C_maxF [] (fpost xt [.cell 4 true 4] R) (initSt xt args)) : FC Try.prog 164 xt args R :=
  fc_of_awp Try.func164 b_maxF n_maxF c_maxF r_maxF (of_decide_eq_true (by kernel_rfl)) hn h

def A_extremes : List Ann := [⟨(some ⟨[0], [], []⟩), [], [], [], []⟩, ⟨(some ⟨[0,4], [], []⟩), [], [], [], []⟩, ⟨(some ⟨[2,3], [], []⟩), [], [], [], []⟩]
def C_extremes : AC := (.seq (.reg false [⟨(some 2), none, .mv (.v (.int .i64 (0)))⟩, ⟨(some 3), none, .mv (.v (.int .i64 (0)))⟩] (some ⟨[0], [], []⟩))
  (.seq (.reg false [⟨(some 4), none, .mv (.f 162)⟩] (some ⟨[0,4], [], []⟩))
  (.seq (.reg false [⟨(some 5), none, .mv (.t 0)⟩, ⟨(some 6), none, .mv (.t 4)⟩, ⟨(some 7), none, .call (.f 163) [(.t 5), (.t 6)]⟩, ⟨(some 8), none, .fld 2 false 1 (.t 7)⟩, ⟨(some 9), none, .mv (.t 0)⟩, ⟨(some 10), none, .mv (.t 4)⟩, ⟨(some 11), none, .call (.f 164) [(.t 9), (.t 10)]⟩, ⟨(some 12), none, .fld 2 false 1 (.t 11)⟩, ⟨(some 2), none, .mv (.t 8)⟩, ⟨(some 3), none, .mv (.t 12)⟩] (some ⟨[2,3], [], []⟩))
  .ret)))
theorem c_extremes : compileCode Try.prog Try.f117.ntmps (Try.f117.body.getD .skip) A_extremes = some (C_extremes, []) := by kernel_rfl
theorem r_extremes : compileRes Try.prog Try.f117.results.toList = some [.t 2, .t 3] := by kernel_rfl
theorem b_extremes : Try.f117.body = some (Try.f117.body.getD .skip) := by kernel_rfl
theorem n_extremes : (Try.f117.name == "runtime.NumGoroutine") = false := by kernel_rfl
theorem fc_extremes {xt : Option (List Cel)} {args : List Val} {R : List Cel → Val → Prop} (hn : (if xt.isSome then 1 else 0) + args.length ≤ Try.f117.ntmps) (h : ex Try.prog C_extremes [] (fpost xt [.t 2, .t 3] R) (initSt xt args)) : FC Try.prog 117 xt args R :=
  fc_of_awp Try.func117 b_extremes n_extremes c_extremes r_extremes (of_decide_eq_true (by kernel_rfl)) hn h

def A_integralP : List Ann := [⟨(some ⟨[0,3], [3], []⟩), [], [], [], []⟩, ⟨(some ⟨[0,3,7], [3], []⟩), [], [], [], []⟩, ⟨(some ⟨[0,3,7,14], [3], []⟩), [], [], [], []⟩, ⟨(some ⟨[4,5,6], [], []⟩), [], [], [], []⟩, ⟨(some ⟨[8,9], [], []⟩), [], [], [], []⟩, ⟨(some ⟨[4,5,6], [], []⟩), [], [], [], []⟩]
def C_integralP : AC := (.seq (.reg false [⟨(some 3), none, .box (.t 1)⟩, ⟨(some 4), none, .mv (.v (.int .i64 (0)))⟩, ⟨(some 5), none, .mv (.v (.int .i64 (0)))⟩, ⟨(some 6), none, .mv (.v (.int .i64 (0)))⟩] (some ⟨[0,3], [3], []⟩))
  (.seq (.seq (.reg false [⟨(some 10), none, .mv (.t 0)⟩, ⟨(some 11), none, .load true 2 (.t 3)⟩, ⟨(some 12), none, .call (.f 110) [(.t 10), (.t 11)]⟩, ⟨(some 7), none, .mv (.t 12)⟩] (some ⟨[0,3,7], [3], []⟩))
  (.seq (.reg false [⟨(some 13), none, .mv (.t 7)⟩, ⟨(some 14), none, .bin .neq (.t 13) (.v (.int .i64 (0)))⟩] (some ⟨[0,3,7,14], [3], []⟩))
  (.cond (.t 14)
  (.seq (.reg false [⟨(some 15), none, .mv (.t 7)⟩, ⟨(some 4), none, .mv (.v (.int .i64 (0)))⟩, ⟨(some 5), none, .mv (.v (.int .i64 (0)))⟩, ⟨(some 6), none, .mv (.t 15)⟩] (some ⟨[4,5,6], [], []⟩))
  .ret)
  .skip)))
  (.seq (.reg false [⟨(some 17), none, .mv (.t 0)⟩, ⟨(some 18), none, .load true 2 (.t 3)⟩, ⟨(some 19), none, .call (.f 114) [(.t 17), (.t 18)]⟩, ⟨(some 20), none, .call (.f 115) [(.t 19)]⟩, ⟨(some 16), none, .mv (.t 20)⟩, ⟨(some 21), none, .extr (.t 16) 0⟩, ⟨(some 22), none, .extr (.t 16) 1⟩, ⟨(some 8), none, .mv (.t 21)⟩, ⟨(some 9), none, .mv (.t 22)⟩] (some ⟨[8,9], [], []⟩))
  (.seq (.reg false [⟨(some 23), none, .mv (.t 8)⟩, ⟨(some 24), none, .mv (.t 9)⟩, ⟨(some 4), none, .mv (.t 23)⟩, ⟨(some 5), none, .mv (.t 24)⟩, ⟨(some 6), none, .mv (.v (.int .i64 (0)))⟩] (some ⟨[4,5,6], [], []⟩))
  .ret))))
theorem c_integralP : compileCode Try.prog Try.f60.ntmps (Try.f60.body.getD .skip) A_integralP = some (C_integralP, []) := by kernel_rfl
theorem r_integralP : compileRes Try.prog Try.f60.results.toList = some [.t 4, .t 5, .t 6] := by kernel_rfl
theorem b_integralP : Try.f60.body = some (Try.f60.body.getD .skip) := by kernel_rfl
theorem n_integralP : (Try.f60.name == "runtime.NumGoroutine") = false := by kernel_rfl
theorem fc_integralP {xt : Option (List Cel)} {args : List Val} {R : List Cel → Val → Prop} (hn : (if xt.isSome then 1 else 0) + args.length ≤ Try.f60.ntmps) (h : ex Try.prog C_integralP [] (fpost xt [.t 4, .t 5, .t 6] R) (initSt xt args)) : FC Try.prog 60 xt args R :=
  fc_of_awp Try.func60 b_integralP n_integralP c_integralP r_integralP (of_decide_eq_true (by kernel_rfl)) hn h

def A_average : List Ann := [⟨(some ⟨[0,3,4], [3,4], []⟩), [], [], [], []⟩, ⟨(some ⟨[0,3,4,7], [3,4], []⟩), [], [], [], []⟩, ⟨(some ⟨[0,3,4,7,14], [3,4], []⟩), [], [], [], []⟩, ⟨(some ⟨[4,5,6], [4], []⟩), [], [], [], []⟩, ⟨(some ⟨[4,8,9], [4], []⟩), [], [], [], []⟩, ⟨(some ⟨[4,8,9,25], [4], []⟩), [], [], [], []⟩, ⟨(some ⟨[4,5,6], [4], []⟩), [], [], [], []⟩, ⟨(some ⟨[4,5,6], [4], []⟩), [], [], [], []⟩]
def C_average : AC := (.seq (.reg false [⟨(some 3), none, .box (.t 1)⟩, ⟨(some 4), none, .alloc [(.int .i64 (0)), (.int .i64 (0))]⟩, ⟨(some 5), none, .mv (.v (.bool false))⟩, ⟨(some 6), none, .mv (.v (.int .i64 (0)))⟩] (some ⟨[0,3,4], [3,4], []⟩))
  (.seq (.seq (.reg false [⟨(some 10), none, .mv (.t 0)⟩, ⟨(some 11), none, .load true 2 (.t 3)⟩, ⟨(some 12), none, .call (.f 110) [(.t 10), (.t 11)]⟩, ⟨(some 7), none, .mv (.t 12)⟩] (some ⟨[0,3,4,7], [3,4], []⟩))
  (.seq (.reg false [⟨(some 13), none, .mv (.t 7)⟩, ⟨(some 14), none, .bin .neq (.t 13) (.v (.int .i64 (0)))⟩] (some ⟨[0,3,4,7,14], [3,4], []⟩))
  (.cond (.t 14)
  (.seq (.reg false [⟨(some 15), none, .build [(.int .i64 (0)), (.int .i64 (0))] []⟩, ⟨(some 16), none, .mv (.t 7)⟩, ⟨none, none, .store 2 (.t 4) (.t 15)⟩, ⟨(some 5), none, .mv (.v (.bool false))⟩, ⟨(some 6), none, .mv (.t 16)⟩] (some ⟨[4,5,6], [4], []⟩))
  .ret)
  .skip)))
  (.seq (.reg false [⟨(some 18), none, .mv (.t 0)⟩, ⟨(some 19), none, .load true 2 (.t 3)⟩, ⟨(some 20), none, .call (.f 114) [(.t 18), (.t 19)]⟩, ⟨(some 21), none, .call (.f 115) [(.t 20)]⟩, ⟨(some 17), none, .mv (.t 21)⟩, ⟨(some 22), none, .extr (.t 17) 0⟩, ⟨(some 23), none, .extr (.t 17) 1⟩, ⟨(some 8), none, .mv (.t 22)⟩, ⟨(some 9), none, .mv (.t 23)⟩] (some ⟨[4,8,9], [4], []⟩))
  (.seq (.seq (.reg false [⟨(some 24), none, .mv (.t 9)⟩, ⟨(some 25), none, .bin .eql (.t 24) (.v (.int .i64 (0)))⟩] (some ⟨[4,8,9,25], [4], []⟩))
  (.cond (.t 25)
  (.seq (.reg false [⟨(some 26), none, .build [(.int .i64 (0)), (.int .i64 (0))] []⟩, ⟨none, none, .store 2 (.t 4) (.t 26)⟩, ⟨(some 5), none, .mv (.v (.bool false))⟩, ⟨(some 6), none, .mv (.v (.int .i64 (0)))⟩] (some ⟨[4,5,6], [4], []⟩))
  .ret)
  .skip))
  (.seq (.reg false [⟨(some 27), none, .mv (.t 8)⟩, ⟨(some 28), none, .mv (.t 9)⟩, ⟨(some 29), none, .call (.f 116) [(.t 27), (.t 28)]⟩, ⟨none, none, .store 2 (.t 4) (.t 29)⟩, ⟨(some 5), none, .mv (.v (.bool true))⟩, ⟨(some 6), none, .mv (.v (.int .i64 (0)))⟩] (some ⟨[4,5,6], [4], []⟩))
  .ret)))))
theorem c_average : compileCode Try.prog Try.f61.ntmps (Try.f61.body.getD .skip) A_average = some (C_average, []) := by kernel_rfl
theorem r_average : compileRes Try.prog Try.f61.results.toList = some [.cell 4 true 2, .t 5, .t 6] := by kernel_rfl
theorem b_average : Try.f61.body = some (Try.f61.body.getD .skip) := by kernel_rfl
theorem n_average : (Try.f61.name == "runtime.NumGoroutine") = false := by kernel_rfl
theorem fc_average {xt : Option (List Cel)} {args : List Val} {R : List Cel → Val → Prop} (hn : (if xt.isSome then 1 else 0) + args.length ≤ Try.f61.ntmps) (h : ex Try.prog C_average [] (fpost xt [.cell 4 true 2, .t 5, .t 6] R) (initSt xt args)) : FC Try.prog 61 xt args R :=
  fc_of_awp Try.func61 b_average n_average c_average r_average (of_decide_eq_true (by kernel_rfl)) hn h


def Chain : Int → Int → List Pc → Prop
  | lo, hi, [] => lo ≤ hi
  | lo, hi, p :: r => lo ≤ p.f ∧ p.f < p.t ∧ (-1000000 ≤ p.v ∧ p.v ≤ 1000000) ∧ Chain p.t hi r
theorem Chain.weak : ∀ {m : List Pc} {lo lo' hi : Int}, Chain lo hi m → lo' ≤ lo → Chain lo' hi m
  | [], lo, lo', hi, h, hl => by unfold Chain at *; omega
  | p :: r, lo, lo', hi, h, hl => ⟨by have := h.1; omega, h.2⟩
theorem Chain.filter (q : Pc → Bool) : ∀ {m : List Pc} {lo hi : Int}, Chain lo hi m → Chain lo hi (m.filter q)
  | [], lo, hi, h => h
  | p :: r, lo, hi, h => by
    obtain ⟨h1, h2, h3, h4⟩ := h
    rw [List.filter_cons]
    split
    · exact ⟨h1, h2, h3, h4.filter q⟩
    · exact (h4.filter q).weak (by omega)
theorem Chain.le : ∀ {m : List Pc} {lo hi : Int}, Chain lo hi m → lo ≤ hi
  | [], lo, hi, h => h
  | p :: r, lo, hi, h => by have := h.2.2.2.le; have := h.1; have := h.2.1; omega
theorem pcs_chain (f t : Int) : ∀ (l : List Smp) (o : Option Smp), serGo o l = 0 → ∀ lo, lo ≤ t → (∀ s r, l = s :: r → lo ≤ max f s.a) → Chain lo t (pcsGo f t l)
  | [], o, _, lo, h, _ => h
  | [s], o, hs, lo, h, hh => by
    have h1 := hh s [] rfl
    have h2 := (okSmp_of (serGo_c.1 hs).1).1
    unfold okSmp at h2
    rw [pcsGo]
    split
    · exact ⟨h1, by simp only; omega, by simp only; omega, by show t ≤ t; omega⟩
    · exact h
  | s :: s' :: r, o, hs, lo, h, hh => by
    have h1 := hh s _ rfl
    obtain ⟨h2, h3, h4⟩ := serGo_c.1 hs
    have h5 := (serGo_c.1 h4).2.1 s rfl
    have h6 := (okSmp_of h2).1
    unfold okSmp at h6
    rw [pcsGo]
    split
    · rw [List.singleton_append]
      exact ⟨h1, by simp only; omega, by simp only; omega, pcs_chain f t (s' :: r) (some s) h4 _ (by simp only; omega) (fun z q hz => by injection hz with hz _; subst hz; simp only; omega)⟩
    · rw [List.nil_append]
      exact pcs_chain f t (s' :: r) (some s) h4 lo h (fun z q hz => by injection hz with hz _; subst hz; omega)
theorem vals_chain {f t : Int} (hft : f ≤ t) {l : List Smp} (hs : serFault l = 0) : Chain f t (vals f t l) :=
  (pcs_chain f t l none (serFault_ok hs).2 f hft (fun s r _ => by omega)).filter _
def intT : List Pc → Int
  | [] => 0
  | p :: r => (p.t - p.f) + intT r
def intS : List Pc → Int
  | [] => 0
  | p :: r => p.v * (p.t - p.f) + intS r
theorem pv_bd {p : Pc} (h : p.f < p.t) (hv : -1000000 ≤ p.v ∧ p.v ≤ 1000000) : -1000000 * (p.t - p.f) ≤ p.v * (p.t - p.f) ∧ p.v * (p.t - p.f) ≤ 1000000 * (p.t - p.f) :=
  ⟨Int.mul_le_mul_of_nonneg_right hv.1 (by omega), Int.mul_le_mul_of_nonneg_right hv.2 (by omega)⟩
theorem int_bd : ∀ {m : List Pc} {lo hi : Int}, Chain lo hi m → 0 ≤ intT m ∧ intT m ≤ hi - lo ∧ -1000000 * intT m ≤ intS m ∧ intS m ≤ 1000000 * intT m
  | [], lo, hi, h => by have : lo ≤ hi := h; simp only [intT, intS]; omega
  | p :: r, lo, hi, h => by
    obtain ⟨h1, h2, h3, h4⟩ := h
    have h5 := int_bd h4
    have h6 := pv_bd h2 h3
    simp only [intT, intS]; omega
theorem intT_pos {p : Pc} {r : List Pc} {lo hi : Int} (h : Chain lo hi (p :: r)) : 1 ≤ intT (p :: r) := by
  have := h.2.1
  have := (int_bd h.2.2.2).1
  simp only [intT]; omega
def itgSt (m : List Pc) (i s tt : Int) : AS := ⟨tabV [(2, iv s), (3, iv tt), (6, pcsV false m), (7, iv m.length), (8, iv i)], tabO [], tabO []⟩
theorem integral_fc (m : List Pc) (hl : m.length ≤ 1000000) (f t : Int) (hc : Chain f t m) (hw : 0 ≤ f ∧ t ≤ 345686400000) : FC Try.prog 115 none [pcsV false m] (fun _ r => r = .tu [iv (intS m), iv (intT m)]) := by
  refine fc_integral (by simp +arith) ?_
  unfold C_integral
  simp (maxSteps := 1000000) (disch := omega) only [go_sem, eq_self, decide_true, decide_false, not_true_eq_false, not_false_eq_true, reduceIte, reduceCtorEq, Nat.reduceEqDiff, Nat.reduceAdd, Nat.reduceSub, Nat.reduceLeDiff]
  refine ex_loop3 (itgSt m) (fun i s tt => 0 ≤ i ∧ i ≤ m.length ∧ s + intS (m.drop i.toNat) = intS m ∧ tt + intT (m.drop i.toNat) = intT m ∧ ∃ lo, Chain lo t (m.drop i.toNat) ∧ 0 ≤ tt ∧ tt ≤ lo - f ∧ -1000000 * tt ≤ s ∧ s ≤ 1000000 * tt) (fun i _ _ => (m.length - i).toNat) 0 0 0 ⟨by omega, by omega, by simp, by simp, f, hc, by omega, by omega, by omega, by omega⟩ rfl ?_
  rintro i s tt ⟨g1, g2, g3, g4, lo, g5, g6, g7, g8, g9⟩
  unfold itgSt
  by_cases hi : i < m.length
  · have e2 : (i + 1).toNat = i.toNat + 1 := by omega
    have em := getD_map_at pcC m i [] g1 hi
    rw [drop_cons m i.toNat (by omega), ← e2] at g3 g4 g5
    simp only [intS, intT] at g3 g4
    obtain ⟨k1, k2, k3, k4⟩ := g5
    have k5 := k4.le
    have hpv := pv_bd k2 k3
    simp (maxSteps := 1000000) (disch := omega) only [go_sem, eq_self, decide_true, decide_false, not_true_eq_false, not_false_eq_true, reduceIte, reduceCtorEq, Nat.reduceEqDiff, Nat.reduceAdd, Nat.reduceSub, Nat.reduceLeDiff]
    refine CALL_det (long_fc (m.getD i.toNat default) (by omega) (by omega)) (.inl rfl) ?_
    simp (maxSteps := 1000000) (disch := omega) only [go_sem, eq_self, decide_true, decide_false, not_true_eq_false, not_false_eq_true, reduceIte, reduceCtorEq, Nat.reduceEqDiff, Nat.reduceAdd, Nat.reduceSub, Nat.reduceLeDiff]
    refine CALL_det (long_fc (m.getD i.toNat default) (by omega) (by omega)) (.inl rfl) ?_
    simp (maxSteps := 1000000) (disch := omega) only [go_sem, eq_self, decide_true, decide_false, not_true_eq_false, not_false_eq_true, reduceIte, reduceCtorEq, Nat.reduceEqDiff, Nat.reduceAdd, Nat.reduceSub, Nat.reduceLeDiff]
    exact ⟨_, _, _, rfl, ⟨by omega, by omega, by omega, by omega, _, k4, by omega, by omega, by omega, by omega⟩, by omega⟩
  · rw [List.drop_eq_nil_of_le (by omega)] at g3 g4
    simp only [intS, intT, Int.add_zero] at g3 g4
    rw [← g3, ← g4]
    simp (maxSteps := 1000000) (disch := omega) only [go_sem, eq_self, decide_true, decide_false, not_true_eq_false, not_false_eq_true, reduceIte, reduceCtorEq, Nat.reduceEqDiff, Nat.reduceAdd, Nat.reduceSub, Nat.reduceLeDiff]
theorem extClos_fc (a b : Pc) : FC Try.prog 162 none [.ag (pcC a), .ag (pcC b)] (fun _ r => r = iv (sd b.v a.v)) := by
  refine fc_extClos (by simp +arith) ?_
  unfold C_extClos
  simp (maxSteps := 1000000) (disch := omega) only [go_sem, eq_self, decide_true, decide_false, not_true_eq_false, not_false_eq_true, reduceIte, reduceCtorEq, Nat.reduceEqDiff, Nat.reduceAdd, Nat.reduceSub, Nat.reduceLeDiff]
  refine CALL_det (cmpInt_fc _ _) (.inl rfl) ?_
  simp (maxSteps := 1000000) (disch := omega) only [go_sem, eq_self, decide_true, decide_false, not_true_eq_false, not_false_eq_true, reduceIte, reduceCtorEq, Nat.reduceEqDiff, Nat.reduceAdd, Nat.reduceSub, Nat.reduceLeDiff]
def minP : Pc → List Pc → Pc
  | b, [] => b
  | b, p :: r => minP (if p.v < b.v then p else b) r
def maxP : Pc → List Pc → Pc
  | b, [] => b
  | b, p :: r => maxP (if p.v > b.v then p else b) r
def mmSt (m : List Pc) (i : Int) (b : Pc) : AS := ⟨tabV [(0, pcsV false m), (1, .one (.fn 162 [])), (4, .one (.bx 4 0)), (5, .one (.bx 5 0)), (6, iv i)], tabO [(4, pcC ⟨0, 0, 0, 0⟩), (5, pcC b)], tabO []⟩
theorem minF_fc (p : Pc) (r : List Pc) (hl : r.length ≤ 1000000) : FC Try.prog 163 none [pcsV false (p :: r), .one (.fn 162 [])] (fun _ x => x = .ag (pcC (minP p r))) := by
  refine fc_minF (by simp +arith) ?_
  have e0 : (p :: r).length = r.length + 1 := rfl
  have e1 : (p :: r).getD (Int.toNat 0) default = p := rfl
  generalize hm : p :: r = m at *
  have hr : minP p r = minP p (m.drop 1) := by rw [← hm]; rfl
  unfold C_minF
  simp (maxSteps := 1000000) (disch := omega) only [go_sem, eq_self, decide_true, decide_false, not_true_eq_false, not_false_eq_true, reduceIte, reduceCtorEq, Nat.reduceEqDiff, Nat.reduceAdd, Nat.reduceSub, Nat.reduceLeDiff]
  simp only [e1]
  refine ex_loop2 (mmSt m) (fun i b => 1 ≤ i ∧ i ≤ m.length ∧ minP b (m.drop i.toNat) = minP p r) (fun i _ => (m.length - i).toNat) 1 p ⟨by omega, by omega, by rw [hr]; rfl⟩ rfl ?_
  rintro i b ⟨g1, g2, g3⟩
  unfold mmSt
  by_cases hi : i < m.length
  · have e2 : (i + 1).toNat = i.toNat + 1 := by omega
    have em := getD_map_at pcC m i [] (by omega) hi
    rw [drop_cons m i.toNat (by omega), minP, ← e2] at g3
    simp (maxSteps := 1000000) (disch := omega) only [go_sem, eq_self, decide_true, decide_false, not_true_eq_false, not_false_eq_true, reduceIte, reduceCtorEq, Nat.reduceEqDiff, Nat.reduceAdd, Nat.reduceSub, Nat.reduceLeDiff]
    refine CALL_det (extClos_fc (m.getD i.toNat default) b) (.inl rfl) ?_
    by_cases c : (m.getD i.toNat default).v < b.v
    · have hs : sd b.v (m.getD i.toNat default).v = -1 := by unfold sd; rw [if_pos c]
      rw [if_pos c] at g3
      rw [hs]
      simp (maxSteps := 1000000) (disch := omega) only [go_sem, eq_self, decide_true, decide_false, not_true_eq_false, not_false_eq_true, reduceIte, reduceCtorEq, Nat.reduceEqDiff, Nat.reduceAdd, Nat.reduceSub, Nat.reduceLeDiff]
      exact ⟨i + 1, m.getD i.toNat default, by simp only [mmSt, pcC_eq], ⟨by omega, by omega, g3⟩, by omega⟩
    · have hs : ¬ sd b.v (m.getD i.toNat default).v < 0 := by unfold sd; rw [if_neg c]; split <;> omega
      rw [if_neg c] at g3
      simp (maxSteps := 1000000) (disch := omega) only [go_sem, eq_self, decide_true, decide_false, not_true_eq_false, not_false_eq_true, reduceIte, reduceCtorEq, Nat.reduceEqDiff, Nat.reduceAdd, Nat.reduceSub, Nat.reduceLeDiff]
      exact ⟨i + 1, b, by simp only [mmSt, pcC_eq], ⟨by omega, by omega, g3⟩, by omega⟩
  · rw [List.drop_eq_nil_of_le (by omega), minP] at g3
    rw [← g3]
    simp (maxSteps := 1000000) (disch := omega) only [go_sem, eq_self, decide_true, decide_false, not_true_eq_false, not_false_eq_true, reduceIte, reduceCtorEq, Nat.reduceEqDiff, Nat.reduceAdd, Nat.reduceSub, Nat.reduceLeDiff]
theorem maxF_fc (p : Pc) (r : List Pc) (hl : r.length ≤ 1000000) : FC Try.prog 164 none [pcsV false (p :: r), .one (.fn 162 [])] (fun _ x => x = .ag (pcC (maxP p r))) := by
  refine fc_maxF (by simp +arith) ?_
  have e0 : (p :: r).length = r.length + 1 := rfl
  have e1 : (p :: r).getD (Int.toNat 0) default = p := rfl
  generalize hm : p :: r = m at *
  have hr : maxP p r = maxP p (m.drop 1) := by rw [← hm]; rfl
  unfold C_maxF
  simp (maxSteps := 1000000) (disch := omega) only [go_sem, eq_self, decide_true, decide_false, not_true_eq_false, not_false_eq_true, reduceIte, reduceCtorEq, Nat.reduceEqDiff, Nat.reduceAdd, Nat.reduceSub, Nat.reduceLeDiff]
  simp only [e1]
  refine ex_loop2 (mmSt m) (fun i b => 1 ≤ i ∧ i ≤ m.length ∧ maxP b (m.drop i.toNat) = maxP p r) (fun i _ => (m.length - i).toNat) 1 p ⟨by omega, by omega, by rw [hr]; rfl⟩ rfl ?_
  rintro i b ⟨g1, g2, g3⟩
  unfold mmSt
  by_cases hi : i < m.length
  · have e2 : (i + 1).toNat = i.toNat + 1 := by omega
    have em := getD_map_at pcC m i [] (by omega) hi
    rw [drop_cons m i.toNat (by omega), maxP, ← e2] at g3
    simp (maxSteps := 1000000) (disch := omega) only [go_sem, eq_self, decide_true, decide_false, not_true_eq_false, not_false_eq_true, reduceIte, reduceCtorEq, Nat.reduceEqDiff, Nat.reduceAdd, Nat.reduceSub, Nat.reduceLeDiff]
    refine CALL_det (extClos_fc (m.getD i.toNat default) b) (.inl rfl) ?_
    by_cases c : (m.getD i.toNat default).v > b.v
    · have hs : sd b.v (m.getD i.toNat default).v = 1 := by unfold sd; rw [if_neg (by omega), if_pos c]
      rw [if_pos c] at g3
      rw [hs]
      simp (maxSteps := 1000000) (disch := omega) only [go_sem, eq_self, decide_true, decide_false, not_true_eq_false, not_false_eq_true, reduceIte, reduceCtorEq, Nat.reduceEqDiff, Nat.reduceAdd, Nat.reduceSub, Nat.reduceLeDiff]
      exact ⟨i + 1, m.getD i.toNat default, by simp only [mmSt, pcC_eq], ⟨by omega, by omega, g3⟩, by omega⟩
    · have hs : ¬ sd b.v (m.getD i.toNat default).v > 0 := by unfold sd; split <;> (try split) <;> omega
      rw [if_neg c] at g3
      simp (maxSteps := 1000000) (disch := omega) only [go_sem, eq_self, decide_true, decide_false, not_true_eq_false, not_false_eq_true, reduceIte, reduceCtorEq, Nat.reduceEqDiff, Nat.reduceAdd, Nat.reduceSub, Nat.reduceLeDiff]
      exact ⟨i + 1, b, by simp only [mmSt, pcC_eq], ⟨by omega, by omega, g3⟩, by omega⟩
  · rw [List.drop_eq_nil_of_le (by omega), maxP] at g3
    rw [← g3]
    simp (maxSteps := 1000000) (disch := omega) only [go_sem, eq_self, decide_true, decide_false, not_true_eq_false, not_false_eq_true, reduceIte, reduceCtorEq, Nat.reduceEqDiff, Nat.reduceAdd, Nat.reduceSub, Nat.reduceLeDiff]
theorem extremes_fc (p : Pc) (r : List Pc) (hl : r.length ≤ 1000000) : FC Try.prog 117 none [pcsV false (p :: r)] (fun _ x => x = .tu [iv (minP p r).v, iv (maxP p r).v]) := by
  refine fc_extremes (by simp +arith) ?_
  unfold C_extremes
  simp (maxSteps := 1000000) (disch := omega) only [go_sem, eq_self, decide_true, decide_false, not_true_eq_false, not_false_eq_true, reduceIte, reduceCtorEq, Nat.reduceEqDiff, Nat.reduceAdd, Nat.reduceSub, Nat.reduceLeDiff]
  refine CALL_det (minF_fc p r hl) (.inl rfl) ?_
  simp (maxSteps := 1000000) (disch := omega) only [go_sem, eq_self, decide_true, decide_false, not_true_eq_false, not_false_eq_true, reduceIte, reduceCtorEq, Nat.reduceEqDiff, Nat.reduceAdd, Nat.reduceSub, Nat.reduceLeDiff]
  refine CALL_det (maxF_fc p r hl) (.inl rfl) ?_
  simp (maxSteps := 1000000) (disch := omega) only [go_sem, eq_self, decide_true, decide_false, not_true_eq_false, not_false_eq_true, reduceIte, reduceCtorEq, Nat.reduceEqDiff, Nat.reduceAdd, Nat.reduceSub, Nat.reduceLeDiff]
def itgSp (l : List Smp) (f t : Int) : Int × Int × Int := if bothFault l f t ≠ 0 then (0, 0, bothFault l f t) else (intS (vals f t l), intT (vals f t l), 0)
theorem integralP_fc (l : List Smp) (hl : l.length ≤ 4611686018427387904) (f t : Int) : FC Try.prog 60 none [smps false l, winV f t] (fun _ r => r = .tu [iv (itgSp l f t).1, iv (itgSp l f t).2.1, iv (itgSp l f t).2.2]) := by
  refine fc_integralP (by simp +arith) ?_
  unfold C_integralP itgSp
  simp (maxSteps := 1000000) (disch := omega) only [go_sem, eq_self, decide_true, decide_false, not_true_eq_false, not_false_eq_true, reduceIte, reduceCtorEq, Nat.reduceEqDiff, Nat.reduceAdd, Nat.reduceSub, Nat.reduceLeDiff]
  refine CALL_det (fault_fc l hl f t) (.inl rfl) ?_
  by_cases h1 : bothFault l f t = 0
  · rw [if_neg (show ¬(bothFault l f t ≠ 0) by omega), h1]
    have hs := (bothFault_ok h1).1
    have hw := winFault_ok (bothFault_ok h1).2
    have hlen := (good_of hs).len
    have hml := vals_len f t l
    have hc := vals_chain hw.2.1 hs
    simp (maxSteps := 1000000) (disch := omega) only [go_sem, eq_self, decide_true, decide_false, not_true_eq_false, not_false_eq_true, reduceIte, reduceCtorEq, Nat.reduceEqDiff, Nat.reduceAdd, Nat.reduceSub, Nat.reduceLeDiff]
    refine CALL_det (valued_fc l (by omega) f t) (.inl rfl) ?_
    simp (maxSteps := 1000000) (disch := omega) only [go_sem, eq_self, decide_true, decide_false, not_true_eq_false, not_false_eq_true, reduceIte, reduceCtorEq, Nat.reduceEqDiff, Nat.reduceAdd, Nat.reduceSub, Nat.reduceLeDiff]
    refine CALL_det (integral_fc (vals f t l) (by omega) f t hc ⟨hw.1, hw.2.2⟩) (.inl rfl) ?_
    simp (maxSteps := 1000000) (disch := omega) only [go_sem, eq_self, decide_true, decide_false, not_true_eq_false, not_false_eq_true, reduceIte, reduceCtorEq, Nat.reduceEqDiff, Nat.reduceAdd, Nat.reduceSub, Nat.reduceLeDiff]
  · rw [if_pos (show bothFault l f t ≠ 0 by omega)]
    simp (maxSteps := 1000000) (disch := omega) only [go_sem, eq_self, decide_true, decide_false, not_true_eq_false, not_false_eq_true, reduceIte, reduceCtorEq, Nat.reduceEqDiff, Nat.reduceAdd, Nat.reduceSub, Nat.reduceLeDiff]
def avgSp (l : List Smp) (f t : Int) : (Int × Int) × Bool × Int := if bothFault l f t ≠ 0 then ((0, 0), false, bothFault l f t) else if intT (vals f t l) = 0 then ((0, 0), false, 0) else ((lowN (intS (vals f t l)) (intT (vals f t l)), lowD (intS (vals f t l)) (intT (vals f t l))), true, 0)
theorem average_fc (l : List Smp) (hl : l.length ≤ 4611686018427387904) (f t : Int) : FC Try.prog 61 none [smps false l, winV f t] (fun _ r => r = .tu [.ag (frC (avgSp l f t).1), bv (avgSp l f t).2.1, iv (avgSp l f t).2.2]) := by
  refine fc_average (by simp +arith) ?_
  unfold C_average avgSp
  simp (maxSteps := 1000000) (disch := omega) only [go_sem, eq_self, decide_true, decide_false, not_true_eq_false, not_false_eq_true, reduceIte, reduceCtorEq, Nat.reduceEqDiff, Nat.reduceAdd, Nat.reduceSub, Nat.reduceLeDiff]
  refine CALL_det (fault_fc l hl f t) (.inl rfl) ?_
  by_cases h1 : bothFault l f t = 0
  · rw [if_neg (show ¬(bothFault l f t ≠ 0) by omega), h1]
    have hs := (bothFault_ok h1).1
    have hw := winFault_ok (bothFault_ok h1).2
    have hlen := (good_of hs).len
    have hml := vals_len f t l
    have hc := vals_chain hw.2.1 hs
    have hb := int_bd hc
    simp (maxSteps := 1000000) (disch := omega) only [go_sem, eq_self, decide_true, decide_false, not_true_eq_false, not_false_eq_true, reduceIte, reduceCtorEq, Nat.reduceEqDiff, Nat.reduceAdd, Nat.reduceSub, Nat.reduceLeDiff]
    refine CALL_det (valued_fc l (by omega) f t) (.inl rfl) ?_
    simp (maxSteps := 1000000) (disch := omega) only [go_sem, eq_self, decide_true, decide_false, not_true_eq_false, not_false_eq_true, reduceIte, reduceCtorEq, Nat.reduceEqDiff, Nat.reduceAdd, Nat.reduceSub, Nat.reduceLeDiff]
    refine CALL_det (integral_fc (vals f t l) (by omega) f t hc ⟨hw.1, hw.2.2⟩) (.inl rfl) ?_
    by_cases h2 : intT (vals f t l) = 0
    · rw [if_pos h2]
      simp (maxSteps := 1000000) (disch := omega) only [go_sem, eq_self, decide_true, decide_false, not_true_eq_false, not_false_eq_true, reduceIte, reduceCtorEq, Nat.reduceEqDiff, Nat.reduceAdd, Nat.reduceSub, Nat.reduceLeDiff]
    · rw [if_neg h2]
      simp (maxSteps := 1000000) (disch := omega) only [go_sem, eq_self, decide_true, decide_false, not_true_eq_false, not_false_eq_true, reduceIte, reduceCtorEq, Nat.reduceEqDiff, Nat.reduceAdd, Nat.reduceSub, Nat.reduceLeDiff]
      refine CALL_det (fraction_fc _ _ (by omega) (by omega) (by omega)) (.inl rfl) ?_
      simp (maxSteps := 1000000) (disch := omega) only [go_sem, eq_self, decide_true, decide_false, not_true_eq_false, not_false_eq_true, reduceIte, reduceCtorEq, Nat.reduceEqDiff, Nat.reduceAdd, Nat.reduceSub, Nat.reduceLeDiff]
  · rw [if_pos (show bothFault l f t ≠ 0 by omega)]
    simp (maxSteps := 1000000) (disch := omega) only [go_sem, eq_self, decide_true, decide_false, not_true_eq_false, not_false_eq_true, reduceIte, reduceCtorEq, Nat.reduceEqDiff, Nat.reduceAdd, Nat.reduceSub, Nat.reduceLeDiff]
end Go.Proofs.Ytggbcgldnjmobaa

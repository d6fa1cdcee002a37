
/-
  Recipes, and whether phases follow them.
-/
import Derived.Test.YtmbpfhpdicjpcaaPha
namespace Go.Proofs.Ytmbpfhpdicjpcaa
open Go Go.Ai
set_option linter.unusedSimpArgs false
set_option linter.unusedVariables false
set_option maxHeartbeats 4000000
def A_idxSg : List Ann := [⟨(some ⟨[0,1], [], []⟩), [], [], [], []⟩, ⟨(some ⟨[0,1,7,8], [], []⟩), [], [], [], []⟩, ⟨(some ⟨[0,1,7,8,9], [], []⟩), [], [], [], []⟩, ⟨(some ⟨[0,1,5,7,8], [], []⟩), [], [], [], []⟩, ⟨(some ⟨[0,1,5,7,8,16], [], []⟩), [], [], [], []⟩, ⟨(some ⟨[4], [], []⟩), [], [], [], []⟩, ⟨(some ⟨[0,1,7,8], [], []⟩), [], [], [], []⟩, ⟨(some ⟨[4], [], []⟩), [], [], [], []⟩]
def C_idxSg : AC := (.seq (.reg false [⟨(some 4), none, .mv (.v (.int .i64 (0)))⟩] (some ⟨[0,1], [], []⟩))
  (.seq (.seq (.reg false [⟨(some 6), none, .mv (.t 0)⟩, ⟨(some 7), none, .len (.t 6)⟩, ⟨(some 8), none, .mv (.v (.int .i64 (0)))⟩] (some ⟨[0,1,7,8], [], []⟩))
  (.block 0 (.loop (.seq (.reg false [⟨(some 9), none, .bin .lss (.t 8) (.t 7)⟩] (some ⟨[0,1,7,8,9], [], []⟩))
  (.seq (.cond (.t 9)
  .skip
  (.exit 0))
  (.seq (.block 1 (.seq (.reg false [⟨(some 10), none, .mv (.t 8)⟩, ⟨(some 5), none, .mv (.t 10)⟩] (some ⟨[0,1,5,7,8], [], []⟩))
  (.seq (.reg false [⟨(some 11), none, .mv (.t 1)⟩, ⟨(some 12), none, .mv (.t 0)⟩, ⟨(some 13), none, .mv (.t 5)⟩, ⟨(some 14), none, .iadr 3 (.t 12) (.t 13)⟩, ⟨(some 15), none, .load true 3 (.t 14)⟩, ⟨(some 16), none, .call (.t 11) [(.t 15)]⟩] (some ⟨[0,1,5,7,8,16], [], []⟩))
  (.cond (.t 16)
  (.seq (.reg false [⟨(some 17), none, .mv (.t 5)⟩, ⟨(some 4), none, .mv (.t 17)⟩] (some ⟨[4], [], []⟩))
  .ret)
  .skip))))
  (.reg false [⟨(some 18), none, .bin .add (.t 8) (.v (.int .i64 (1)))⟩, ⟨(some 8), none, .mv (.t 18)⟩] (some ⟨[0,1,7,8], [], []⟩))))))))
  (.seq (.reg false [⟨(some 4), none, .mv (.v (.int .i64 (-1)))⟩] (some ⟨[4], [], []⟩))
  .ret)))
theorem c_idxSg : compileCode Try.prog Try.f142.ntmps (Try.f142.body.getD .skip) A_idxSg = some (C_idxSg, []) := by kernel_rfl
theorem r_idxSg : compileRes Try.prog Try.f142.results.toList = some [.t 4] := by kernel_rfl
theorem b_idxSg : Try.f142.body = some (Try.f142.body.getD .skip) := by kernel_rfl
theorem n_idxSg : (Try.f142.name == "runtime.NumGoroutine") = false := by kernel_rfl
theorem fc_idxSg {xt : Option (List Cel)} {args : List Val} {R : List Cel → Val → Prop} (hn : (if xt.isSome then 1 else 0) + args.length ≤ Try.f142.ntmps) (h : ex Try.prog C_idxSg [] (fpost xt [.t 4] R) (initSt xt args)) : FC Try.prog 142 xt args R :=
  fc_of_awp Try.func142 b_idxSg n_idxSg c_idxSg r_idxSg (of_decide_eq_true (by kernel_rfl)) hn h

def A_contSg : List Ann := [⟨(some ⟨[0,1], [], []⟩), [], [], [], []⟩, ⟨(some ⟨[4], [], []⟩), [], [], [], []⟩]
def C_contSg : AC := (.seq (.reg false [⟨(some 4), none, .mv (.v (.bool false))⟩] (some ⟨[0,1], [], []⟩))
  (.seq (.reg false [⟨(some 5), none, .mv (.t 0)⟩, ⟨(some 6), none, .mv (.t 1)⟩, ⟨(some 7), none, .call (.f 142) [(.t 5), (.t 6)]⟩, ⟨(some 8), none, .bin .geq (.t 7) (.v (.int .i64 (0)))⟩, ⟨(some 4), none, .mv (.t 8)⟩] (some ⟨[4], [], []⟩))
  .ret))
theorem c_contSg : compileCode Try.prog Try.f138.ntmps (Try.f138.body.getD .skip) A_contSg = some (C_contSg, []) := by kernel_rfl
theorem r_contSg : compileRes Try.prog Try.f138.results.toList = some [.t 4] := by kernel_rfl
theorem b_contSg : Try.f138.body = some (Try.f138.body.getD .skip) := by kernel_rfl
theorem n_contSg : (Try.f138.name == "runtime.NumGoroutine") = false := by kernel_rfl
theorem fc_contSg {xt : Option (List Cel)} {args : List Val} {R : List Cel → Val → Prop} (hn : (if xt.isSome then 1 else 0) + args.length ≤ Try.f138.ntmps) (h : ex Try.prog C_contSg [] (fpost xt [.t 4] R) (initSt xt args)) : FC Try.prog 138 xt args R :=
  fc_of_awp Try.func138 b_contSg n_contSg c_contSg r_contSg (of_decide_eq_true (by kernel_rfl)) hn h

def A_opClos : List Ann := [⟨(some ⟨[1], [1], []⟩), [], [], [], []⟩, ⟨(some ⟨[2], [], []⟩), [], [], [], []⟩]
def C_opClos : AC := (.seq (.reg false [⟨(some 1), none, .box (.t 0)⟩, ⟨(some 2), none, .mv (.v (.bool false))⟩] (some ⟨[1], [1], []⟩))
  (.seq (.reg false [⟨(some 3), none, .fadr 1 (.t 1)⟩, ⟨(some 4), none, .load false 1 (.t 3)⟩, ⟨(some 5), none, .un .not (.t 4)⟩, ⟨(some 2), none, .mv (.t 5)⟩] (some ⟨[2], [], []⟩))
  .ret))
theorem c_opClos : compileCode Try.prog Try.f176.ntmps (Try.f176.body.getD .skip) A_opClos = some (C_opClos, []) := by kernel_rfl
theorem r_opClos : compileRes Try.prog Try.f176.results.toList = some [.t 2] := by kernel_rfl
theorem b_opClos : Try.f176.body = some (Try.f176.body.getD .skip) := by kernel_rfl
theorem n_opClos : (Try.f176.name == "runtime.NumGoroutine") = false := by kernel_rfl
theorem fc_opClos {xt : Option (List Cel)} {args : List Val} {R : List Cel → Val → Prop} (hn : (if xt.isSome then 1 else 0) + args.length ≤ Try.f176.ntmps) (h : ex Try.prog C_opClos [] (fpost xt [.t 2] R) (initSt xt args)) : FC Try.prog 176 xt args R :=
  fc_of_awp Try.func176 b_opClos n_opClos c_opClos r_opClos (of_decide_eq_true (by kernel_rfl)) hn h

def A_optional : List Ann := [⟨(some ⟨[0], [], []⟩), [], [], [], []⟩, ⟨(some ⟨[2], [], []⟩), [], [], [], []⟩]
def C_optional : AC := (.seq (.reg false [⟨(some 2), none, .mv (.v (.bool false))⟩] (some ⟨[0], [], []⟩))
  (.seq (.reg false [⟨(some 3), none, .mv (.t 0)⟩, ⟨(some 4), none, .call (.f 138) [(.t 3), (.f 176)]⟩, ⟨(some 5), none, .un .not (.t 4)⟩, ⟨(some 2), none, .mv (.t 5)⟩] (some ⟨[2], [], []⟩))
  .ret))
theorem c_optional : compileCode Try.prog Try.f144.ntmps (Try.f144.body.getD .skip) A_optional = some (C_optional, []) := by kernel_rfl
theorem r_optional : compileRes Try.prog Try.f144.results.toList = some [.t 2] := by kernel_rfl
theorem b_optional : Try.f144.body = some (Try.f144.body.getD .skip) := by kernel_rfl
theorem n_optional : (Try.f144.name == "runtime.NumGoroutine") = false := by kernel_rfl
theorem fc_optional {xt : Option (List Cel)} {args : List Val} {R : List Cel → Val → Prop} (hn : (if xt.isSome then 1 else 0) + args.length ≤ Try.f144.ntmps) (h : ex Try.prog C_optional [] (fpost xt [.t 2] R) (initSt xt args)) : FC Try.prog 144 xt args R :=
  fc_of_awp Try.func144 b_optional n_optional c_optional r_optional (of_decide_eq_true (by kernel_rfl)) hn h

def A_crClos : List Ann := [⟨(some ⟨[1,2], [2], []⟩), [], [], [], []⟩, ⟨(some ⟨[3], [], []⟩), [], [], [], []⟩]
def C_crClos : AC := (.seq (.reg false [⟨(some 2), none, .box (.t 0)⟩, ⟨(some 3), none, .mv (.v (.bool false))⟩] (some ⟨[1,2], [2], []⟩))
  (.seq (.reg false [⟨(some 4), none, .fadr 0 (.t 2)⟩, ⟨(some 5), none, .load false 1 (.t 4)⟩, ⟨(some 6), none, .fadr 0 (.t 1)⟩, ⟨(some 7), none, .load false 1 (.t 6)⟩, ⟨(some 8), none, .bin .eql (.t 5) (.t 7)⟩, ⟨(some 3), none, .mv (.t 8)⟩] (some ⟨[3], [], []⟩))
  .ret))
theorem c_crClos : compileCode Try.prog Try.f140.ntmps (Try.f140.body.getD .skip) A_crClos = some (C_crClos, []) := by kernel_rfl
theorem r_crClos : compileRes Try.prog Try.f140.results.toList = some [.t 3] := by kernel_rfl
theorem b_crClos : Try.f140.body = some (Try.f140.body.getD .skip) := by kernel_rfl
theorem n_crClos : (Try.f140.name == "runtime.NumGoroutine") = false := by kernel_rfl
theorem fc_crClos {xt : Option (List Cel)} {args : List Val} {R : List Cel → Val → Prop} (hn : (if xt.isSome then 1 else 0) + args.length ≤ Try.f140.ntmps) (h : ex Try.prog C_crClos [] (fpost xt [.t 3] R) (initSt xt args)) : FC Try.prog 140 xt args R :=
  fc_of_awp Try.func140 b_crClos n_crClos c_crClos r_crClos (of_decide_eq_true (by kernel_rfl)) hn h

def A_checkRecipe : List Ann := [⟨(some ⟨[0], [], []⟩), [], [], [], []⟩, ⟨(some ⟨[0,7], [], []⟩), [], [], [], []⟩, ⟨(some ⟨[2], [], []⟩), [], [], [], []⟩, ⟨(some ⟨[0,11], [], []⟩), [], [], [], []⟩, ⟨(some ⟨[2], [], []⟩), [], [], [], []⟩, ⟨(some ⟨[0,15,16,17], [], []⟩), [], [], [], []⟩, ⟨(some ⟨[0,15,16,17,18], [], []⟩), [], [], [], []⟩, ⟨(some ⟨[0,4,15,16,17], [4], []⟩), [], [], [], []⟩, ⟨(some ⟨[0,15,16,17,28], [], []⟩), [], [], [], []⟩, ⟨(some ⟨[2], [], []⟩), [], [], [], []⟩, ⟨(some ⟨[0,15,16,17], [], []⟩), [], [], [], []⟩, ⟨(some ⟨[0,30,31,32], [], []⟩), [], [], [], []⟩, ⟨(some ⟨[0,30,31,32,33], [], []⟩), [], [], [], []⟩, ⟨(some ⟨[0,5,6,30,31,32], [6], []⟩), [], [], [], []⟩, ⟨(some ⟨[0,30,31,32,41], [], []⟩), [], [], [], []⟩, ⟨(some ⟨[2], [], []⟩), [], [], [], []⟩, ⟨(some ⟨[0,30,31,32], [], []⟩), [], [], [], []⟩, ⟨(some ⟨[2], [], []⟩), [], [], [], []⟩]
def C_checkRecipe : AC := (.seq (.reg false [⟨(some 2), none, .mv (.v (.int .i64 (0)))⟩] (some ⟨[0], [], []⟩))
  (.seq (.block 0 (.seq (.reg false [⟨(some 8), none, .mv (.t 0)⟩, ⟨(some 9), none, .len (.t 8)⟩, ⟨(some 10), none, .bin .eql (.t 9) (.v (.int .i64 (0)))⟩, ⟨(some 7), none, .mv (.t 10)⟩] (some ⟨[0,7], [], []⟩))
  (.cond (.t 7)
  (.seq (.reg false [⟨(some 2), none, .mv (.v (.int .i64 (8)))⟩] (some ⟨[2], [], []⟩))
  .ret)
  (.seq (.reg false [⟨(some 12), none, .mv (.t 0)⟩, ⟨(some 13), none, .len (.t 12)⟩, ⟨(some 14), none, .bin .gtr (.t 13) (.v (.int .i64 (100)))⟩, ⟨(some 11), none, .mv (.t 14)⟩] (some ⟨[0,11], [], []⟩))
  (.cond (.t 11)
  (.seq (.reg false [⟨(some 2), none, .mv (.v (.int .i64 (2)))⟩] (some ⟨[2], [], []⟩))
  .ret)
  .skip)))))
  (.seq (.seq (.reg false [⟨(some 15), none, .mv (.t 0)⟩, ⟨(some 16), none, .len (.t 15)⟩, ⟨(some 17), none, .mv (.v (.int .i64 (0)))⟩] (some ⟨[0,15,16,17], [], []⟩))
  (.block 1 (.loop (.seq (.reg false [⟨(some 18), none, .bin .lss (.t 17) (.t 16)⟩] (some ⟨[0,15,16,17,18], [], []⟩))
  (.seq (.cond (.t 18)
  .skip
  (.exit 1))
  (.seq (.block 2 (.seq (.reg false [⟨(some 19), none, .iadr 3 (.t 15) (.t 17)⟩, ⟨(some 20), none, .load true 3 (.t 19)⟩, ⟨(some 4), none, .alloc [(.int .i64 (0)), (.bool false), (.int .i64 (0))]⟩, ⟨none, none, .store 3 (.t 4) (.t 20)⟩] (some ⟨[0,4,15,16,17], [4], []⟩))
  (.seq (.reg false [⟨(some 21), none, .fadr 0 (.t 4)⟩, ⟨(some 22), none, .load false 1 (.t 21)⟩, ⟨(some 23), none, .call (.f 96) [(.t 22), (.v (.int .i64 (0))), (.v (.int .i64 (1000)))]⟩, ⟨(some 24), none, .mv (.t 23)⟩, ⟨(some 25), (some (24, false)), .fadr 2 (.t 4)⟩, ⟨(some 26), (some (24, false)), .load false 1 (.t 25)⟩, ⟨(some 27), (some (24, false)), .call (.f 96) [(.t 26), (.v (.int .i64 (1))), (.v (.int .i64 (100)))]⟩, ⟨(some 28), none, .pick (.t 24) (.v (.bool true)) (.t 27)⟩] (some ⟨[0,15,16,17,28], [], []⟩))
  (.cond (.t 28)
  (.seq (.reg false [⟨(some 2), none, .mv (.v (.int .i64 (1)))⟩] (some ⟨[2], [], []⟩))
  .ret)
  .skip))))
  (.reg false [⟨(some 29), none, .bin .add (.t 17) (.v (.int .i64 (1)))⟩, ⟨(some 17), none, .mv (.t 29)⟩] (some ⟨[0,15,16,17], [], []⟩))))))))
  (.seq (.seq (.reg false [⟨(some 30), none, .mv (.t 0)⟩, ⟨(some 31), none, .len (.t 30)⟩, ⟨(some 32), none, .mv (.v (.int .i64 (0)))⟩] (some ⟨[0,30,31,32], [], []⟩))
  (.block 3 (.loop (.seq (.reg false [⟨(some 33), none, .bin .lss (.t 32) (.t 31)⟩] (some ⟨[0,30,31,32,33], [], []⟩))
  (.seq (.cond (.t 33)
  .skip
  (.exit 3))
  (.seq (.block 4 (.seq (.reg false [⟨(some 34), none, .mv (.t 32)⟩, ⟨(some 35), none, .iadr 3 (.t 30) (.t 32)⟩, ⟨(some 36), none, .load true 3 (.t 35)⟩, ⟨(some 6), none, .alloc [(.int .i64 (0)), (.bool false), (.int .i64 (0))]⟩, ⟨(some 5), none, .mv (.t 34)⟩, ⟨none, none, .store 3 (.t 6) (.t 36)⟩] (some ⟨[0,5,6,30,31,32], [6], []⟩))
  (.seq (.reg false [⟨(some 37), none, .mv (.t 0)⟩, ⟨(some 38), none, .mv (.t 5)⟩, ⟨(some 39), none, .slc 3 (.t 37) none (some (.t 38))⟩, ⟨(some 40), none, .mkfn 140 [(.t 6)]⟩, ⟨(some 41), none, .call (.f 138) [(.t 39), (.t 40)]⟩] (some ⟨[0,30,31,32,41], [], []⟩))
  (.cond (.t 41)
  (.seq (.reg false [⟨(some 2), none, .mv (.v (.int .i64 (6)))⟩] (some ⟨[2], [], []⟩))
  .ret)
  .skip))))
  (.reg false [⟨(some 42), none, .bin .add (.t 32) (.v (.int .i64 (1)))⟩, ⟨(some 32), none, .mv (.t 42)⟩] (some ⟨[0,30,31,32], [], []⟩))))))))
  (.seq (.reg false [⟨(some 2), none, .mv (.v (.int .i64 (0)))⟩] (some ⟨[2], [], []⟩))
  .ret)))))
theorem c_checkRecipe : compileCode Try.prog Try.f82.ntmps (Try.f82.body.getD .skip) A_checkRecipe = some (C_checkRecipe, []) := by kernel_rfl
theorem r_checkRecipe : compileRes Try.prog Try.f82.results.toList = some [.t 2] := by kernel_rfl
theorem b_checkRecipe : Try.f82.body = some (Try.f82.body.getD .skip) := by kernel_rfl
theorem n_checkRecipe : (Try.f82.name == "runtime.NumGoroutine") = false := by kernel_rfl
theorem fc_checkRecipe {xt : Option (List Cel)} {args : List Val} {R : List Cel → Val → Prop} (hn : (if xt.isSome then 1 else 0) + args.length ≤ Try.f82.ntmps) (h : ex Try.prog C_checkRecipe [] (fpost xt [.t 2] R) (initSt xt args)) : FC Try.prog 82 xt args R :=
  fc_of_awp Try.func82 b_checkRecipe n_checkRecipe c_checkRecipe r_checkRecipe (of_decide_eq_true (by kernel_rfl)) hn h

def A_fwClos : List Ann := [⟨(some ⟨[1,2], [2], []⟩), [], [], [], []⟩, ⟨(some ⟨[3], [], []⟩), [], [], [], []⟩]
def C_fwClos : AC := (.seq (.reg false [⟨(some 2), none, .box (.t 0)⟩, ⟨(some 3), none, .mv (.v (.bool false))⟩] (some ⟨[1,2], [2], []⟩))
  (.seq (.reg false [⟨(some 4), none, .fadr 0 (.t 2)⟩, ⟨(some 5), none, .load false 1 (.t 4)⟩, ⟨(some 6), none, .fadr 0 (.t 1)⟩, ⟨(some 7), none, .load false 1 (.t 6)⟩, ⟨(some 8), none, .bin .eql (.t 5) (.t 7)⟩, ⟨(some 3), none, .mv (.t 8)⟩] (some ⟨[3], [], []⟩))
  .ret))
theorem c_fwClos : compileCode Try.prog Try.f143.ntmps (Try.f143.body.getD .skip) A_fwClos = some (C_fwClos, []) := by kernel_rfl
theorem r_fwClos : compileRes Try.prog Try.f143.results.toList = some [.t 3] := by kernel_rfl
theorem b_fwClos : Try.f143.body = some (Try.f143.body.getD .skip) := by kernel_rfl
theorem n_fwClos : (Try.f143.name == "runtime.NumGoroutine") = false := by kernel_rfl
theorem fc_fwClos {xt : Option (List Cel)} {args : List Val} {R : List Cel → Val → Prop} (hn : (if xt.isSome then 1 else 0) + args.length ≤ Try.f143.ntmps) (h : ex Try.prog C_fwClos [] (fpost xt [.t 3] R) (initSt xt args)) : FC Try.prog 143 xt args R :=
  fc_of_awp Try.func143 b_fwClos n_fwClos c_fwClos r_fwClos (of_decide_eq_true (by kernel_rfl)) hn h

def A_follows : List Ann := [⟨(some ⟨[0,1], [], []⟩), [], [], [], []⟩, ⟨(some ⟨[0,1,7], [], []⟩), [], [], [], []⟩, ⟨(some ⟨[0,1,7,20], [], []⟩), [], [], [], []⟩, ⟨(some ⟨[4,5,6], [], []⟩), [], [], [], []⟩, ⟨(some ⟨[0,1,8,9], [], []⟩), [], [], [], []⟩, ⟨(some ⟨[0,1,8,9,22,23,24], [], []⟩), [], [], [], []⟩, ⟨(some ⟨[0,1,8,9,22,23,24,25], [], []⟩), [], [], [], []⟩, ⟨(some ⟨[0,1,8,9,10,11,22,23,24], [11], []⟩), [], [], [], []⟩, ⟨(some ⟨[0,1,8,9,10,11,22,23,24,40], [11], []⟩), [], [], [], []⟩, ⟨(some ⟨[0,1,8,9,10,22,23,24], [], []⟩), [], [], [], []⟩, ⟨(some ⟨[0,1,8,9,10,22,23,24,49], [], []⟩), [], [], [], []⟩, ⟨(some ⟨[4,5,6], [], []⟩), [], [], [], []⟩, ⟨(some ⟨[0,1,8,10,12,22,23,24], [], []⟩), [], [], [], []⟩, ⟨(some ⟨[0,1,10,12,22,23,24,65], [], []⟩), [], [], [], []⟩, ⟨(some ⟨[4,5,6], [], []⟩), [], [], [], []⟩, ⟨(some ⟨[0,1,8,9,22,23,24], [], []⟩), [], [], [], []⟩, ⟨(some ⟨[0,1,8,9,22,23,24], [], []⟩), [], [], [], []⟩, ⟨(some ⟨[1,74], [], []⟩), [], [], [], []⟩, ⟨(some ⟨[4,5,6], [], []⟩), [], [], [], []⟩, ⟨(some ⟨[4,5,6], [], []⟩), [], [], [], []⟩]
def C_follows : AC := (.seq (.reg false [⟨(some 4), none, .mv (.v (.bool false))⟩, ⟨(some 5), none, .mv (.v (.int .i64 (0)))⟩, ⟨(some 6), none, .mv (.v (.int .i64 (0)))⟩] (some ⟨[0,1], [], []⟩))
  (.seq (.seq (.reg false [⟨(some 13), none, .mv (.t 0)⟩, ⟨(some 14), none, .call (.f 82) [(.t 13)]⟩, ⟨(some 15), none, .mv (.t 1)⟩, ⟨(some 16), none, .call (.f 141) [(.t 15)]⟩, ⟨(some 17), none, .bslice 1 2 [(.t 14), (.t 16)]⟩, ⟨(some 18), none, .call (.f 97) [(.t 17)]⟩, ⟨(some 7), none, .mv (.t 18)⟩] (some ⟨[0,1,7], [], []⟩))
  (.seq (.reg false [⟨(some 19), none, .mv (.t 7)⟩, ⟨(some 20), none, .bin .neq (.t 19) (.v (.int .i64 (0)))⟩] (some ⟨[0,1,7,20], [], []⟩))
  (.cond (.t 20)
  (.seq (.reg false [⟨(some 21), none, .mv (.t 7)⟩, ⟨(some 4), none, .mv (.v (.bool false))⟩, ⟨(some 5), none, .mv (.v (.int .i64 (0)))⟩, ⟨(some 6), none, .mv (.t 21)⟩] (some ⟨[4,5,6], [], []⟩))
  .ret)
  .skip)))
  (.seq (.reg false [⟨(some 8), none, .mv (.v (.int .i64 (-1)))⟩, ⟨(some 9), none, .mv (.v (.int .i64 (0)))⟩] (some ⟨[0,1,8,9], [], []⟩))
  (.seq (.seq (.reg false [⟨(some 22), none, .mv (.t 1)⟩, ⟨(some 23), none, .len (.t 22)⟩, ⟨(some 24), none, .mv (.v (.int .i64 (0)))⟩] (some ⟨[0,1,8,9,22,23,24], [], []⟩))
  (.block 0 (.loop (.seq (.reg false [⟨(some 25), none, .bin .lss (.t 24) (.t 23)⟩] (some ⟨[0,1,8,9,22,23,24,25], [], []⟩))
  (.seq (.cond (.t 25)
  .skip
  (.exit 0))
  (.seq (.block 1 (.seq (.reg false [⟨(some 26), none, .mv (.t 24)⟩, ⟨(some 27), none, .iadr 3 (.t 22) (.t 24)⟩, ⟨(some 28), none, .load true 3 (.t 27)⟩, ⟨(some 11), none, .alloc [(.int .i64 (0)), (.int .i64 (0)), (.int .i64 (0))]⟩, ⟨(some 10), none, .mv (.t 26)⟩, ⟨none, none, .store 3 (.t 11) (.t 28)⟩] (some ⟨[0,1,8,9,10,11,22,23,24], [11], []⟩))
  (.seq (.seq (.reg true [⟨(some 29), none, .mv (.t 8)⟩, ⟨(some 30), none, .bin .geq (.t 29) (.v (.int .i64 (0)))⟩, ⟨(some 31), none, .mv (.t 30)⟩, ⟨(some 32), (some (31, true)), .mv (.t 0)⟩, ⟨(some 33), (some (31, true)), .mv (.t 8)⟩, ⟨(some 34), (some (31, true)), .iadr 3 (.t 32) (.t 33)⟩, ⟨(some 35), (some (31, true)), .fadr 0 (.t 34)⟩, ⟨(some 36), (some (31, true)), .load false 1 (.t 35)⟩, ⟨(some 37), (some (31, true)), .fadr 0 (.t 11)⟩, ⟨(some 38), (some (31, true)), .load false 1 (.t 37)⟩, ⟨(some 39), (some (31, true)), .bin .eql (.t 36) (.t 38)⟩, ⟨(some 40), none, .pick (.t 31) (.t 39) (.v (.bool false))⟩] (some ⟨[0,1,8,9,10,11,22,23,24,40], [11], []⟩))
  (.cond (.t 40)
  (.seq (.seq (.reg false [⟨(some 41), none, .mv (.t 9)⟩, ⟨(some 42), none, .bin .add (.t 41) (.v (.int .i64 (1)))⟩, ⟨(some 9), none, .mv (.t 42)⟩] (some ⟨[0,1,8,9,10,22,23,24], [], []⟩))
  (.seq (.reg false [⟨(some 43), none, .mv (.t 9)⟩, ⟨(some 44), none, .mv (.t 0)⟩, ⟨(some 45), none, .mv (.t 8)⟩, ⟨(some 46), none, .iadr 3 (.t 44) (.t 45)⟩, ⟨(some 47), none, .fadr 2 (.t 46)⟩, ⟨(some 48), none, .load false 1 (.t 47)⟩, ⟨(some 49), none, .bin .gtr (.t 43) (.t 48)⟩] (some ⟨[0,1,8,9,10,22,23,24,49], [], []⟩))
  (.cond (.t 49)
  (.seq (.reg false [⟨(some 50), none, .mv (.t 10)⟩, ⟨(some 4), none, .mv (.v (.bool false))⟩, ⟨(some 5), none, .mv (.t 50)⟩, ⟨(some 6), none, .mv (.v (.int .i64 (0)))⟩] (some ⟨[4,5,6], [], []⟩))
  .ret)
  .skip)))
  (.exit 1))
  .skip))
  (.seq (.reg false [⟨(some 51), none, .mv (.t 0)⟩, ⟨(some 52), none, .mkfn 143 [(.t 11)]⟩, ⟨(some 53), none, .call (.f 142) [(.t 51), (.t 52)]⟩, ⟨(some 12), none, .mv (.t 53)⟩] (some ⟨[0,1,8,10,12,22,23,24], [], []⟩))
  (.seq (.seq (.reg false [⟨(some 54), none, .mv (.t 12)⟩, ⟨(some 55), none, .mv (.t 8)⟩, ⟨(some 56), none, .bin .leq (.t 54) (.t 55)⟩, ⟨(some 57), none, .mv (.t 56)⟩, ⟨(some 58), (some (57, false)), .mv (.t 0)⟩, ⟨(some 59), (some (57, false)), .mv (.t 8)⟩, ⟨(some 60), (some (57, false)), .bin .add (.t 59) (.v (.int .i64 (1)))⟩, ⟨(some 61), (some (57, false)), .mv (.t 12)⟩, ⟨(some 62), (some (57, false)), .slc 3 (.t 58) (some (.t 60)) (some (.t 61))⟩, ⟨(some 63), (some (57, false)), .call (.f 144) [(.t 62)]⟩, ⟨(some 64), (some (57, false)), .un .not (.t 63)⟩, ⟨(some 65), none, .pick (.t 57) (.v (.bool true)) (.t 64)⟩] (some ⟨[0,1,10,12,22,23,24,65], [], []⟩))
  (.cond (.t 65)
  (.seq (.reg false [⟨(some 66), none, .mv (.t 10)⟩, ⟨(some 4), none, .mv (.v (.bool false))⟩, ⟨(some 5), none, .mv (.t 66)⟩, ⟨(some 6), none, .mv (.v (.int .i64 (0)))⟩] (some ⟨[4,5,6], [], []⟩))
  .ret)
  .skip))
  (.reg false [⟨(some 67), none, .mv (.t 12)⟩, ⟨(some 8), none, .mv (.t 67)⟩, ⟨(some 9), none, .mv (.v (.int .i64 (1)))⟩] (some ⟨[0,1,8,9,22,23,24], [], []⟩)))))))
  (.reg false [⟨(some 68), none, .bin .add (.t 24) (.v (.int .i64 (1)))⟩, ⟨(some 24), none, .mv (.t 68)⟩] (some ⟨[0,1,8,9,22,23,24], [], []⟩))))))))
  (.seq (.seq (.reg false [⟨(some 69), none, .mv (.t 0)⟩, ⟨(some 70), none, .mv (.t 8)⟩, ⟨(some 71), none, .bin .add (.t 70) (.v (.int .i64 (1)))⟩, ⟨(some 72), none, .slc 3 (.t 69) (some (.t 71)) none⟩, ⟨(some 73), none, .call (.f 144) [(.t 72)]⟩, ⟨(some 74), none, .un .not (.t 73)⟩] (some ⟨[1,74], [], []⟩))
  (.cond (.t 74)
  (.seq (.reg false [⟨(some 75), none, .mv (.t 1)⟩, ⟨(some 76), none, .len (.t 75)⟩, ⟨(some 4), none, .mv (.v (.bool false))⟩, ⟨(some 5), none, .mv (.t 76)⟩, ⟨(some 6), none, .mv (.v (.int .i64 (0)))⟩] (some ⟨[4,5,6], [], []⟩))
  .ret)
  .skip))
  (.seq (.reg false [⟨(some 4), none, .mv (.v (.bool true))⟩, ⟨(some 5), none, .mv (.v (.int .i64 (0)))⟩, ⟨(some 6), none, .mv (.v (.int .i64 (0)))⟩] (some ⟨[4,5,6], [], []⟩))
  .ret))))))
theorem c_follows : compileCode Try.prog Try.f84.ntmps (Try.f84.body.getD .skip) A_follows = some (C_follows, []) := by kernel_rfl
theorem r_follows : compileRes Try.prog Try.f84.results.toList = some [.t 4, .t 5, .t 6] := by kernel_rfl
theorem b_follows : Try.f84.body = some (Try.f84.body.getD .skip) := by kernel_rfl
theorem n_follows : (Try.f84.name == "runtime.NumGoroutine") = false := by kernel_rfl
theorem fc_follows {xt : Option (List Cel)} {args : List Val} {R : List Cel → Val → Prop} (hn : (if xt.isSome then 1 else 0) + args.length ≤ Try.f84.ntmps) (h : ex Try.prog C_follows [] (fpost xt [.t 4, .t 5, .t 6] R) (initSt xt args)) : FC Try.prog 84 xt args R :=
  fc_of_awp Try.func84 b_follows n_follows c_follows r_follows (of_decide_eq_true (by kernel_rfl)) hn h


/-- A stage: its number, whether it can be left out, and how often it may occur. -/
structure Sg where
  n : Int
  o : Bool
  k : Int
  deriving Inhabited
def sgC (x : Sg) : List Cel := [.g (.int .i64 x.n), .g (.bool x.o), .g (.int .i64 x.k)]
theorem sgC_eq (x : Sg) : sgC x = [.g (.int .i64 x.n), .g (.bool x.o), .g (.int .i64 x.k)] := (rfl)
theorem frE_sg (l : List Sg) : frE (l.map sgC) = true := frE_map (fun _ => rfl) l
theorem datE_sg (l : List Sg) : datE (l.map sgC) = l.map sgC := datE_map (fun _ => rfl) l
theorem tofE_sg (l : List Sg) : tofE (l.map sgC) = l.map sgC := tofE_map (fun _ => rfl) l
attribute [go_sem] sgC_eq frE_sg datE_sg tofE_sg
abbrev sgsV (fr : Bool) (l : List Sg) : Val := .one (.sl fr 3 (l.map sgC))
theorem anyG {α : Type} [Inhabited α] (p : α → Bool) (l : List α) : decide (idxG p 0 l ≥ 0) = l.any p := by
  rcases idxG_spec p l 0 (by omega) with ⟨h1, h2⟩ | ⟨h1, h2, h3, _⟩
  · rw [h1]
    have : l.any p = false := by rw [List.any_eq_false]; intro x hx; rw [h2 x hx]; simp
    rw [this]; rfl
  · have : l.any p = true := List.any_eq_true.2 ⟨_, getD_mem l _ (by omega), h3⟩
    rw [this]; simp [h1]
def ixS0 (cl : FuncId) (l : List Sg) (i : Int) : AS := ⟨tabV [(0, sgsV false l), (1, .one (.fn cl [])), (7, iv l.length), (8, iv i)], tabO [], tabO []⟩
theorem idxSg0_fc (cl : FuncId) (p : Sg → Bool) (l : List Sg) (hl : l.length ≤ 1000000) (hcl : ∀ x, FC Try.prog cl none [.ag (sgC x)] (fun _ r => r = bv (p x))) : FC Try.prog 142 none [sgsV false l, .one (.fn cl [])] (fun _ r => r = iv (idxG p 0 l)) := by
  refine fc_idxSg (by simp +arith) ?_
  unfold C_idxSg
  simp (maxSteps := 1000000) (disch := omega) only [go_sem, eq_self, decide_true, decide_false, not_true_eq_false, not_false_eq_true, reduceIte, reduceCtorEq, Nat.reduceEqDiff, Nat.reduceAdd, Nat.reduceSub, Nat.reduceLeDiff]
  refine ex_loop1 (ixS0 cl l) (fun i => 0 ≤ i ∧ i ≤ l.length ∧ idxG p i (l.drop i.toNat) = idxG p 0 l) (fun i => (l.length - i).toNat) 0 ⟨by omega, by omega, rfl⟩ rfl ?_
  rintro i ⟨g1, g2, g3⟩
  unfold ixS0
  by_cases hi : i < l.length
  · rw [drop_cons l i.toNat (by omega), idxG] at g3
    have e2 : (i + 1).toNat = i.toNat + 1 := by omega
    simp (maxSteps := 1000000) (disch := omega) only [go_sem, eq_self, decide_true, decide_false, not_true_eq_false, not_false_eq_true, reduceIte, reduceCtorEq, Nat.reduceEqDiff, Nat.reduceAdd, Nat.reduceSub, Nat.reduceLeDiff]
    refine CALL_det (hcl _) (.inl rfl) ?_
    cases h : p (l.getD i.toNat default) with
    | true => rw [h, if_pos rfl] at g3; simp (maxSteps := 1000000) (disch := omega) only [go_sem, eq_self, decide_true, decide_false, not_true_eq_false, not_false_eq_true, reduceIte, reduceCtorEq, Nat.reduceEqDiff, Nat.reduceAdd, Nat.reduceSub, Nat.reduceLeDiff]; rw [← g3]
    | false =>
      rw [h, if_neg (by simp)] at g3
      simp (maxSteps := 1000000) (disch := omega) only [go_sem, eq_self, decide_true, decide_false, not_true_eq_false, not_false_eq_true, reduceIte, reduceCtorEq, Nat.reduceEqDiff, Nat.reduceAdd, Nat.reduceSub, Nat.reduceLeDiff]
      exact ⟨_, rfl, ⟨by omega, by omega, by rw [e2]; exact g3⟩, by omega⟩
  · rw [List.drop_eq_nil_of_le (by omega), idxG] at g3
    simp (maxSteps := 1000000) (disch := omega) only [go_sem, eq_self, decide_true, decide_false, not_true_eq_false, not_false_eq_true, reduceIte, reduceCtorEq, Nat.reduceEqDiff, Nat.reduceAdd, Nat.reduceSub, Nat.reduceLeDiff]
    rw [← g3]
def ixS1 (cl : FuncId) (cs : List Cel) (l : List Sg) (i : Int) : AS := ⟨tabV [(0, sgsV false l), (1, .one (.fn cl [.ep cs])), (7, iv l.length), (8, iv i)], tabO [], tabO []⟩
theorem idxSg1_fc (cl : FuncId) (cs : List Cel) (p : Sg → Bool) (l : List Sg) (hl : l.length ≤ 1000000) (hcl : ∀ x, FC Try.prog cl none [.ag (sgC x), .one (.ep cs)] (fun _ r => r = bv (p x))) : FC Try.prog 142 none [sgsV false l, .one (.fn cl [.ep cs])] (fun _ r => r = iv (idxG p 0 l)) := by
  refine fc_idxSg (by simp +arith) ?_
  unfold C_idxSg
  simp (maxSteps := 1000000) (disch := omega) only [go_sem, eq_self, decide_true, decide_false, not_true_eq_false, not_false_eq_true, reduceIte, reduceCtorEq, Nat.reduceEqDiff, Nat.reduceAdd, Nat.reduceSub, Nat.reduceLeDiff]
  refine ex_loop1 (ixS1 cl cs l) (fun i => 0 ≤ i ∧ i ≤ l.length ∧ idxG p i (l.drop i.toNat) = idxG p 0 l) (fun i => (l.length - i).toNat) 0 ⟨by omega, by omega, rfl⟩ rfl ?_
  rintro i ⟨g1, g2, g3⟩
  unfold ixS1
  by_cases hi : i < l.length
  · rw [drop_cons l i.toNat (by omega), idxG] at g3
    have e2 : (i + 1).toNat = i.toNat + 1 := by omega
    simp (maxSteps := 1000000) (disch := omega) only [go_sem, eq_self, decide_true, decide_false, not_true_eq_false, not_false_eq_true, reduceIte, reduceCtorEq, Nat.reduceEqDiff, Nat.reduceAdd, Nat.reduceSub, Nat.reduceLeDiff]
    refine CALL_det (hcl _) (.inl rfl) ?_
    cases h : p (l.getD i.toNat default) with
    | true => rw [h, if_pos rfl] at g3; simp (maxSteps := 1000000) (disch := omega) only [go_sem, eq_self, decide_true, decide_false, not_true_eq_false, not_false_eq_true, reduceIte, reduceCtorEq, Nat.reduceEqDiff, Nat.reduceAdd, Nat.reduceSub, Nat.reduceLeDiff]; rw [← g3]
    | false =>
      rw [h, if_neg (by simp)] at g3
      simp (maxSteps := 1000000) (disch := omega) only [go_sem, eq_self, decide_true, decide_false, not_true_eq_false, not_false_eq_true, reduceIte, reduceCtorEq, Nat.reduceEqDiff, Nat.reduceAdd, Nat.reduceSub, Nat.reduceLeDiff]
      exact ⟨_, rfl, ⟨by omega, by omega, by rw [e2]; exact g3⟩, by omega⟩
  · rw [List.drop_eq_nil_of_le (by omega), idxG] at g3
    simp (maxSteps := 1000000) (disch := omega) only [go_sem, eq_self, decide_true, decide_false, not_true_eq_false, not_false_eq_true, reduceIte, reduceCtorEq, Nat.reduceEqDiff, Nat.reduceAdd, Nat.reduceSub, Nat.reduceLeDiff]
    rw [← g3]
theorem contSg0_fc (cl : FuncId) (p : Sg → Bool) (l : List Sg) (hl : l.length ≤ 1000000) (hcl : ∀ x, FC Try.prog cl none [.ag (sgC x)] (fun _ r => r = bv (p x))) : FC Try.prog 138 none [sgsV false l, .one (.fn cl [])] (fun _ r => r = bv (l.any p)) := by
  refine fc_contSg (by simp +arith) ?_
  unfold C_contSg
  simp (maxSteps := 1000000) (disch := omega) only [go_sem, eq_self, decide_true, decide_false, not_true_eq_false, not_false_eq_true, reduceIte, reduceCtorEq, Nat.reduceEqDiff, Nat.reduceAdd, Nat.reduceSub, Nat.reduceLeDiff]
  refine CALL_det (idxSg0_fc cl p l hl hcl) (.inl rfl) ?_
  simp (maxSteps := 1000000) (disch := omega) only [go_sem, eq_self, decide_true, decide_false, not_true_eq_false, not_false_eq_true, reduceIte, reduceCtorEq, Nat.reduceEqDiff, Nat.reduceAdd, Nat.reduceSub, Nat.reduceLeDiff]
  rw [← anyG p l]
theorem contSg1_fc (cl : FuncId) (cs : List Cel) (p : Sg → Bool) (l : List Sg) (hl : l.length ≤ 1000000) (hcl : ∀ x, FC Try.prog cl none [.ag (sgC x), .one (.ep cs)] (fun _ r => r = bv (p x))) : FC Try.prog 138 none [sgsV false l, .one (.fn cl [.ep cs])] (fun _ r => r = bv (l.any p)) := by
  refine fc_contSg (by simp +arith) ?_
  unfold C_contSg
  simp (maxSteps := 1000000) (disch := omega) only [go_sem, eq_self, decide_true, decide_false, not_true_eq_false, not_false_eq_true, reduceIte, reduceCtorEq, Nat.reduceEqDiff, Nat.reduceAdd, Nat.reduceSub, Nat.reduceLeDiff]
  refine CALL_det (idxSg1_fc cl cs p l hl hcl) (.inl rfl) ?_
  simp (maxSteps := 1000000) (disch := omega) only [go_sem, eq_self, decide_true, decide_false, not_true_eq_false, not_false_eq_true, reduceIte, reduceCtorEq, Nat.reduceEqDiff, Nat.reduceAdd, Nat.reduceSub, Nat.reduceLeDiff]
  rw [← anyG p l]
def needB (x : Sg) : Bool := !x.o
theorem opClos_fc (x : Sg) : FC Try.prog 176 none [.ag (sgC x)] (fun _ r => r = bv (needB x)) := by
  refine fc_opClos (by simp +arith) ?_
  unfold C_opClos needB
  simp (maxSteps := 1000000) (disch := omega) only [go_sem, eq_self, decide_true, decide_false, not_true_eq_false, not_false_eq_true, reduceIte, reduceCtorEq, Nat.reduceEqDiff, Nat.reduceAdd, Nat.reduceSub, Nat.reduceLeDiff]
/-- Whether all stages can be left out. -/
def optB (r : List Sg) : Bool := !(r.any needB)
theorem optional_fc (r : List Sg) (hl : r.length ≤ 1000000) : FC Try.prog 144 none [sgsV false r] (fun _ x => x = bv (optB r)) := by
  refine fc_optional (by simp +arith) ?_
  unfold C_optional optB
  simp (maxSteps := 1000000) (disch := omega) only [go_sem, eq_self, decide_true, decide_false, not_true_eq_false, not_false_eq_true, reduceIte, reduceCtorEq, Nat.reduceEqDiff, Nat.reduceAdd, Nat.reduceSub, Nat.reduceLeDiff]
  refine CALL_det (contSg0_fc 176 needB r hl opClos_fc) (.inl rfl) ?_
  simp (maxSteps := 1000000) (disch := omega) only [go_sem, eq_self, decide_true, decide_false, not_true_eq_false, not_false_eq_true, reduceIte, reduceCtorEq, Nat.reduceEqDiff, Nat.reduceAdd, Nat.reduceSub, Nat.reduceLeDiff]
def sameB (n : Int) (x : Sg) : Bool := decide (x.n = n)
theorem crClos_fc (s x : Sg) : FC Try.prog 140 none [.ag (sgC x), .one (.ep (sgC s))] (fun _ r => r = bv (sameB s.n x)) := by
  refine fc_crClos (by simp +arith) ?_
  unfold C_crClos sameB
  simp (maxSteps := 1000000) (disch := omega) only [go_sem, eq_self, decide_true, decide_false, not_true_eq_false, not_false_eq_true, reduceIte, reduceCtorEq, Nat.reduceEqDiff, Nat.reduceAdd, Nat.reduceSub, Nat.reduceLeDiff]
theorem foClos1_fc (s : Ph) (x : Sg) : FC Try.prog 143 none [.ag (sgC x), .one (.ep (phC s))] (fun _ r => r = bv (sameB s.n x)) := by
  refine fc_fwClos (by simp +arith) ?_
  unfold C_fwClos sameB
  simp (maxSteps := 1000000) (disch := omega) only [go_sem, eq_self, decide_true, decide_false, not_true_eq_false, not_false_eq_true, reduceIte, reduceCtorEq, Nat.reduceEqDiff, Nat.reduceAdd, Nat.reduceSub, Nat.reduceLeDiff]
def badS (x : Sg) : Bool := decide ((x.n < 0 ∨ x.n > 1000) ∨ (x.k < 1 ∨ x.k > 100))
def dupB (r : List Sg) : Nat → Bool
  | 0 => false
  | i + 1 => dupB r i || (r.take i).any (sameB (r.getD i default).n)
theorem dupB_true {r : List Sg} {i : Nat} (h : (r.take i).any (sameB (r.getD i default).n) = true) : ∀ m, i < m → dupB r m = true
  | 0, hm => by omega
  | m + 1, hm => by
    rw [dupB]
    by_cases e : i = m
    · subst e; rw [h, Bool.or_true]
    · rw [dupB_true h m (by omega), Bool.true_or]
def rcF (r : List Sg) : Int := if r.length = 0 then 8 else if r.length > 100 then 2 else if r.any badS = true then 1 else if dupB r r.length = true then 6 else 0
def cr1St (r : List Sg) (i : Int) : AS := ⟨tabV [(0, sgsV false r), (15, sgsV false r), (16, iv r.length), (17, iv i)], tabO [], tabO []⟩
def cr2St (r : List Sg) (i : Int) : AS := ⟨tabV [(0, sgsV false r), (30, sgsV false r), (31, iv r.length), (32, iv i)], tabO [], tabO []⟩
theorem checkRecipe_fc (r : List Sg) (hl : r.length ≤ 4611686018427387904) : FC Try.prog 82 none [sgsV false r] (fun _ x => x = iv (rcF r)) := by
  refine fc_checkRecipe (by simp +arith) ?_
  unfold C_checkRecipe rcF
  by_cases h1 : r.length = 0
  · rw [if_pos h1]
    simp (maxSteps := 1000000) (disch := omega) only [go_sem, eq_self, decide_true, decide_false, not_true_eq_false, not_false_eq_true, reduceIte, reduceCtorEq, Nat.reduceEqDiff, Nat.reduceAdd, Nat.reduceSub, Nat.reduceLeDiff]
  rw [if_neg h1]
  by_cases h2 : r.length > 100
  · rw [if_pos h2]
    simp (maxSteps := 1000000) (disch := omega) only [go_sem, eq_self, decide_true, decide_false, not_true_eq_false, not_false_eq_true, reduceIte, reduceCtorEq, Nat.reduceEqDiff, Nat.reduceAdd, Nat.reduceSub, Nat.reduceLeDiff]
  rw [if_neg h2]
  simp (maxSteps := 1000000) (disch := omega) only [go_sem, eq_self, decide_true, decide_false, not_true_eq_false, not_false_eq_true, reduceIte, reduceCtorEq, Nat.reduceEqDiff, Nat.reduceAdd, Nat.reduceSub, Nat.reduceLeDiff]
  refine ex_loop1 (cr1St r) (fun i => 0 ≤ i ∧ i ≤ r.length ∧ (r.drop i.toNat).any badS = r.any badS) (fun i => (r.length - i).toNat) 0 ⟨by omega, by omega, rfl⟩ rfl ?_
  rintro i ⟨g1, g2, g3⟩
  unfold cr1St
  by_cases hi : i < r.length
  · have e2 : (i + 1).toNat = i.toNat + 1 := by omega
    have em := getD_map_at sgC r i [] g1 hi
    rw [drop_cons r i.toNat (by omega), ← e2, List.any_cons] at g3
    have hbn : badS (r.getD i.toNat default) = decide (((r.getD i.toNat default).n < 0 ∨ (r.getD i.toNat default).n > 1000) ∨ ((r.getD i.toNat default).k < 1 ∨ (r.getD i.toNat default).k > 100)) := rfl
    rw [hbn] at g3
    by_cases c : (r.getD i.toNat default).n < 0 ∨ (r.getD i.toNat default).n > 1000
    · rw [decide_eq_true (.inl c), Bool.true_or] at g3
      rw [← g3]
      simp (maxSteps := 1000000) (disch := omega) only [go_sem, eq_self, decide_true, decide_false, not_true_eq_false, not_false_eq_true, reduceIte, reduceCtorEq, Nat.reduceEqDiff, Nat.reduceAdd, Nat.reduceSub, Nat.reduceLeDiff]
      refine CALL_det (out_fc _ _ _) (.inl rfl) ?_
      rw [decide_eq_true c]
      simp (maxSteps := 1000000) (disch := omega) only [go_sem, eq_self, decide_true, decide_false, not_true_eq_false, not_false_eq_true, reduceIte, reduceCtorEq, Nat.reduceEqDiff, Nat.reduceAdd, Nat.reduceSub, Nat.reduceLeDiff]
    · by_cases d : (r.getD i.toNat default).k < 1 ∨ (r.getD i.toNat default).k > 100
      · rw [decide_eq_true (.inr d), Bool.true_or] at g3
        rw [← g3]
        simp (maxSteps := 1000000) (disch := omega) only [go_sem, eq_self, decide_true, decide_false, not_true_eq_false, not_false_eq_true, reduceIte, reduceCtorEq, Nat.reduceEqDiff, Nat.reduceAdd, Nat.reduceSub, Nat.reduceLeDiff]
        refine CALL_det (out_fc _ _ _) (.inl rfl) ?_
        rw [decide_eq_false c]
        simp (maxSteps := 1000000) (disch := omega) only [go_sem, eq_self, decide_true, decide_false, not_true_eq_false, not_false_eq_true, reduceIte, reduceCtorEq, Nat.reduceEqDiff, Nat.reduceAdd, Nat.reduceSub, Nat.reduceLeDiff]
        refine CALL_det (out_fc _ _ _) (.inl rfl) ?_
        rw [decide_eq_true d]
        simp (maxSteps := 1000000) (disch := omega) only [go_sem, eq_self, decide_true, decide_false, not_true_eq_false, not_false_eq_true, reduceIte, reduceCtorEq, Nat.reduceEqDiff, Nat.reduceAdd, Nat.reduceSub, Nat.reduceLeDiff]
      · rw [decide_eq_false (by omega), Bool.false_or] at g3
        simp (maxSteps := 1000000) (disch := omega) only [go_sem, eq_self, decide_true, decide_false, not_true_eq_false, not_false_eq_true, reduceIte, reduceCtorEq, Nat.reduceEqDiff, Nat.reduceAdd, Nat.reduceSub, Nat.reduceLeDiff]
        refine CALL_det (out_fc _ _ _) (.inl rfl) ?_
        rw [decide_eq_false c]
        simp (maxSteps := 1000000) (disch := omega) only [go_sem, eq_self, decide_true, decide_false, not_true_eq_false, not_false_eq_true, reduceIte, reduceCtorEq, Nat.reduceEqDiff, Nat.reduceAdd, Nat.reduceSub, Nat.reduceLeDiff]
        refine CALL_det (out_fc _ _ _) (.inl rfl) ?_
        rw [decide_eq_false d]
        simp (maxSteps := 1000000) (disch := omega) only [go_sem, eq_self, decide_true, decide_false, not_true_eq_false, not_false_eq_true, reduceIte, reduceCtorEq, Nat.reduceEqDiff, Nat.reduceAdd, Nat.reduceSub, Nat.reduceLeDiff]
        exact ⟨i + 1, rfl, ⟨by omega, by omega, g3⟩, by omega⟩
  · rw [List.drop_eq_nil_of_le (by omega), List.any_nil] at g3
    rw [← g3, if_neg (show ¬(false = true) by simp)]
    simp (maxSteps := 1000000) (disch := omega) only [go_sem, eq_self, decide_true, decide_false, not_true_eq_false, not_false_eq_true, reduceIte, reduceCtorEq, Nat.reduceEqDiff, Nat.reduceAdd, Nat.reduceSub, Nat.reduceLeDiff]
    refine ex_loop1 (cr2St r) (fun i => 0 ≤ i ∧ i ≤ r.length ∧ dupB r i.toNat = false) (fun i => (r.length - i).toNat) 0 ⟨by omega, by omega, rfl⟩ rfl ?_
    rintro j ⟨k1, k2, k3⟩
    unfold cr2St
    by_cases hj : j < r.length
    · have e2 : (j + 1).toNat = j.toNat + 1 := by omega
      have em := getD_map_at sgC r j [] k1 hj
      have et : (r.map sgC).take j.toNat = (r.take j.toNat).map sgC := by rw [List.map_take]
      simp (maxSteps := 1000000) (disch := omega) only [go_sem, eq_self, decide_true, decide_false, not_true_eq_false, not_false_eq_true, reduceIte, reduceCtorEq, Nat.reduceEqDiff, Nat.reduceAdd, Nat.reduceSub, Nat.reduceLeDiff]
      rw [et]
      refine CALL_det (contSg1_fc 140 (sgC (r.getD j.toNat default)) (sameB (r.getD j.toNat default).n) (r.take j.toNat) (by rw [List.length_take]; omega) (fun x => crClos_fc (r.getD j.toNat default) x)) (.inl rfl) ?_
      cases hb : (r.take j.toNat).any (sameB (r.getD j.toNat default).n) with
      | true =>
        rw [dupB_true hb _ (by omega)]
        simp (maxSteps := 1000000) (disch := omega) only [go_sem, eq_self, decide_true, decide_false, not_true_eq_false, not_false_eq_true, reduceIte, reduceCtorEq, Nat.reduceEqDiff, Nat.reduceAdd, Nat.reduceSub, Nat.reduceLeDiff]
      | false =>
        simp (maxSteps := 1000000) (disch := omega) only [go_sem, eq_self, decide_true, decide_false, not_true_eq_false, not_false_eq_true, reduceIte, reduceCtorEq, Nat.reduceEqDiff, Nat.reduceAdd, Nat.reduceSub, Nat.reduceLeDiff]
        exact ⟨j + 1, rfl, ⟨by omega, by omega, by rw [e2, dupB, k3, hb]; rfl⟩, by omega⟩
    · have e : j.toNat = r.length := by omega
      rw [e] at k3
      rw [k3]
      simp (maxSteps := 1000000) (disch := omega) only [go_sem, eq_self, decide_true, decide_false, not_true_eq_false, not_false_eq_true, reduceIte, reduceCtorEq, Nat.reduceEqDiff, Nat.reduceAdd, Nat.reduceSub, Nat.reduceLeDiff]
/-- Whether phases follow a recipe from a stage on. -/
def flGo (r : List Sg) (len : Int) : Int → Int → Int → List Ph → Bool × Int
  | at_, many, i, [] => if optB (r.drop (at_ + 1).toNat) = true then (true, 0) else (false, len)
  | at_, many, i, x :: rest =>
    if 0 ≤ at_ ∧ (r.getD at_.toNat default).n = x.n then (if many + 1 > (r.getD at_.toNat default).k then (false, i) else flGo r len at_ (many + 1) (i + 1) rest)
    else if idxG (sameB x.n) 0 r ≤ at_ ∨ optB ((r.take (idxG (sameB x.n) 0 r).toNat).drop (at_ + 1).toNat) = false then (false, i) else flGo r len (idxG (sameB x.n) 0 r) 1 (i + 1) rest
def flSp (r : List Sg) (p : List Ph) : Bool × Int × Int := if orSp [rcF r, phF p] ≠ 0 then (false, 0, orSp [rcF r, phF p]) else ((flGo r p.length (-1) 0 0 p).1, (flGo r p.length (-1) 0 0 p).2, 0)
def fosSt (r : List Sg) (p : List Ph) (i at_ many : Int) : AS := ⟨tabV [(0, sgsV false r), (1, phsV false p), (8, iv at_), (9, iv many), (22, phsV false p), (23, iv p.length), (24, iv i)], tabO [], tabO []⟩
theorem rcF_len {r : List Sg} (h : rcF r = 0) : 1 ≤ r.length ∧ r.length ≤ 100 := by
  unfold rcF at h
  split at h
  · omega
  · split at h
    · omega
    · omega
theorem phF_len {p : List Ph} (h : phF p = 0) : p.length ≤ 5000 := by
  unfold phF at h
  split at h
  · omega
  · omega
set_option maxHeartbeats 12000000 in
theorem follows_fc (r : List Sg) (p : List Ph) (hr : r.length ≤ 4611686018427387904) (hp : p.length ≤ 4611686018427387904) : FC Try.prog 84 none [sgsV false r, phsV false p] (fun _ x => x = .tu [bv (flSp r p).1, iv (flSp r p).2.1, iv (flSp r p).2.2]) := by
  refine fc_follows (by simp +arith) ?_
  unfold C_follows flSp
  simp (maxSteps := 1000000) (disch := omega) only [go_sem, eq_self, decide_true, decide_false, not_true_eq_false, not_false_eq_true, reduceIte, reduceCtorEq, Nat.reduceEqDiff, Nat.reduceAdd, Nat.reduceSub, Nat.reduceLeDiff]
  refine CALL_det (checkRecipe_fc r hr) (.inl rfl) ?_
  simp (maxSteps := 1000000) (disch := omega) only [go_sem, eq_self, decide_true, decide_false, not_true_eq_false, not_false_eq_true, reduceIte, reduceCtorEq, Nat.reduceEqDiff, Nat.reduceAdd, Nat.reduceSub, Nat.reduceLeDiff]
  refine CALL_det (phasesFault_fc p hp) (.inl rfl) ?_
  simp (maxSteps := 1000000) (disch := omega) only [go_sem, eq_self, decide_true, decide_false, not_true_eq_false, not_false_eq_true, reduceIte, reduceCtorEq, Nat.reduceEqDiff, Nat.reduceAdd, Nat.reduceSub, Nat.reduceLeDiff]
  refine CALL_det (first_fc false [rcF r, phF p] (by simp)) (.inl rfl) ?_
  by_cases h1 : orSp [rcF r, phF p] = 0
  · obtain ⟨h2, h3⟩ := or2_z' h1
    have hrl := rcF_len h2
    have hpl := phF_len h3
    rw [if_neg (show ¬(orSp [rcF r, phF p] ≠ 0) by omega), h1]
    simp (maxSteps := 1000000) (disch := omega) only [go_sem, eq_self, decide_true, decide_false, not_true_eq_false, not_false_eq_true, reduceIte, reduceCtorEq, Nat.reduceEqDiff, Nat.reduceAdd, Nat.reduceSub, Nat.reduceLeDiff]
    refine ex_loop3 (fosSt r p) (fun i at_ many => 0 ≤ i ∧ i ≤ p.length ∧ -1 ≤ at_ ∧ at_ < r.length ∧ 0 ≤ many ∧ many ≤ i ∧ flGo r p.length at_ many i (p.drop i.toNat) = flGo r p.length (-1) 0 0 p) (fun i _ _ => (p.length - i).toNat) 0 (-1) 0 ⟨by omega, by omega, by omega, by omega, by omega, by omega, rfl⟩ rfl ?_
    rintro i at_ many ⟨g1, g2, g3, g4, g5, g6, g7⟩
    unfold fosSt
    by_cases hi : i < p.length
    · have e2 : (i + 1).toNat = i.toNat + 1 := by omega
      have em := getD_map_at phC p i [] g1 hi
      rw [drop_cons p i.toNat (by omega), ← e2, flGo] at g7
      by_cases c1 : 0 ≤ at_ ∧ (r.getD at_.toNat default).n = (p.getD i.toNat default).n
      · rw [if_pos c1] at g7
        have er := getD_map_at sgC r at_ [] c1.1 g4
        have c1a := c1.1
        have c1b := c1.2
        by_cases c2 : many + 1 > (r.getD at_.toNat default).k
        · rw [if_pos c2] at g7
          rw [← g7]
          simp (maxSteps := 1000000) (disch := omega) only [go_sem, eq_self, decide_true, decide_false, not_true_eq_false, not_false_eq_true, reduceIte, reduceCtorEq, Nat.reduceEqDiff, Nat.reduceAdd, Nat.reduceSub, Nat.reduceLeDiff]
        · rw [if_neg c2] at g7
          simp (maxSteps := 1000000) (disch := omega) only [go_sem, eq_self, decide_true, decide_false, not_true_eq_false, not_false_eq_true, reduceIte, reduceCtorEq, Nat.reduceEqDiff, Nat.reduceAdd, Nat.reduceSub, Nat.reduceLeDiff]
          exact ⟨i + 1, at_, many + 1, rfl, ⟨by omega, by omega, g3, g4, by omega, by omega, g7⟩, by omega⟩
      · rw [if_neg c1] at g7
        have hix := idxSg1_fc 143 (phC (p.getD i.toNat default)) (sameB (p.getD i.toNat default).n) r (by omega) (fun x => foClos1_fc (p.getD i.toNat default) x)
        have hsp := idxG_spec (sameB (p.getD i.toNat default).n) r 0 (by omega)
        have hk : -1 ≤ idxG (sameB (p.getD i.toNat default).n) 0 r ∧ idxG (sameB (p.getD i.toNat default).n) 0 r < r.length := by
          rcases hsp with h | h
          · omega
          · omega
        generalize idxG (sameB (p.getD i.toNat default).n) 0 r = k at *
        have et : ((r.map sgC).take k.toNat).drop (at_ + 1).toNat = ((r.take k.toNat).drop (at_ + 1).toNat).map sgC := by rw [List.map_drop, List.map_take]
        have hol : ((r.take k.toNat).drop (at_ + 1).toNat).length ≤ 1000000 := by rw [List.length_drop, List.length_take]; omega
        by_cases ca : 0 ≤ at_
        · have er := getD_map_at sgC r at_ [] ca g4
          have cb : ¬(r.getD at_.toNat default).n = (p.getD i.toNat default).n := fun h => c1 ⟨ca, h⟩
          by_cases c2 : k ≤ at_
          · rw [if_pos (.inl c2)] at g7
            rw [← g7]
            simp (maxSteps := 1000000) (disch := omega) only [go_sem, eq_self, decide_true, decide_false, not_true_eq_false, not_false_eq_true, reduceIte, reduceCtorEq, Nat.reduceEqDiff, Nat.reduceAdd, Nat.reduceSub, Nat.reduceLeDiff]
            refine CALL_det hix (.inl rfl) ?_
            simp (maxSteps := 1000000) (disch := omega) only [go_sem, eq_self, decide_true, decide_false, not_true_eq_false, not_false_eq_true, reduceIte, reduceCtorEq, Nat.reduceEqDiff, Nat.reduceAdd, Nat.reduceSub, Nat.reduceLeDiff]
          · simp (maxSteps := 1000000) (disch := omega) only [go_sem, eq_self, decide_true, decide_false, not_true_eq_false, not_false_eq_true, reduceIte, reduceCtorEq, Nat.reduceEqDiff, Nat.reduceAdd, Nat.reduceSub, Nat.reduceLeDiff]
            refine CALL_det hix (.inl rfl) ?_
            simp (maxSteps := 1000000) (disch := omega) only [go_sem, eq_self, decide_true, decide_false, not_true_eq_false, not_false_eq_true, reduceIte, reduceCtorEq, Nat.reduceEqDiff, Nat.reduceAdd, Nat.reduceSub, Nat.reduceLeDiff]
            rw [et]
            refine CALL_det (optional_fc _ hol) (.inl rfl) ?_
            cases ho : optB ((r.take k.toNat).drop (at_ + 1).toNat) with
            | false =>
              rw [if_pos (.inr ho)] at g7
              rw [← g7]
              simp (maxSteps := 1000000) (disch := omega) only [go_sem, eq_self, decide_true, decide_false, not_true_eq_false, not_false_eq_true, reduceIte, reduceCtorEq, Nat.reduceEqDiff, Nat.reduceAdd, Nat.reduceSub, Nat.reduceLeDiff]
            | true =>
              rw [if_neg (by rintro (h | h); exact c2 h; rw [ho] at h; cases h)] at g7
              simp (maxSteps := 1000000) (disch := omega) only [go_sem, eq_self, decide_true, decide_false, not_true_eq_false, not_false_eq_true, reduceIte, reduceCtorEq, Nat.reduceEqDiff, Nat.reduceAdd, Nat.reduceSub, Nat.reduceLeDiff]
              exact ⟨i + 1, k, 1, rfl, ⟨by omega, by omega, by omega, by omega, by omega, by omega, g7⟩, by omega⟩
        · have ea : at_ = -1 := by omega
          subst ea
          by_cases c2 : k ≤ -1
          · rw [if_pos (.inl c2)] at g7
            rw [← g7]
            simp (maxSteps := 1000000) (disch := omega) only [go_sem, eq_self, decide_true, decide_false, not_true_eq_false, not_false_eq_true, reduceIte, reduceCtorEq, Nat.reduceEqDiff, Nat.reduceAdd, Nat.reduceSub, Nat.reduceLeDiff]
            refine CALL_det hix (.inl rfl) ?_
            simp (maxSteps := 1000000) (disch := omega) only [go_sem, eq_self, decide_true, decide_false, not_true_eq_false, not_false_eq_true, reduceIte, reduceCtorEq, Nat.reduceEqDiff, Nat.reduceAdd, Nat.reduceSub, Nat.reduceLeDiff]
          · simp (maxSteps := 1000000) (disch := omega) only [go_sem, eq_self, decide_true, decide_false, not_true_eq_false, not_false_eq_true, reduceIte, reduceCtorEq, Nat.reduceEqDiff, Nat.reduceAdd, Nat.reduceSub, Nat.reduceLeDiff]
            refine CALL_det hix (.inl rfl) ?_
            simp (maxSteps := 1000000) (disch := omega) only [go_sem, eq_self, decide_true, decide_false, not_true_eq_false, not_false_eq_true, reduceIte, reduceCtorEq, Nat.reduceEqDiff, Nat.reduceAdd, Nat.reduceSub, Nat.reduceLeDiff]
            rw [et]
            refine CALL_det (optional_fc _ hol) (.inl rfl) ?_
            cases ho : optB ((r.take k.toNat).drop ((-1 : Int) + 1).toNat) with
            | false =>
              rw [if_pos (.inr ho)] at g7
              rw [← g7]
              simp (maxSteps := 1000000) (disch := omega) only [go_sem, eq_self, decide_true, decide_false, not_true_eq_false, not_false_eq_true, reduceIte, reduceCtorEq, Nat.reduceEqDiff, Nat.reduceAdd, Nat.reduceSub, Nat.reduceLeDiff]
            | true =>
              rw [if_neg (by rintro (h | h); exact c2 h; rw [ho] at h; cases h)] at g7
              simp (maxSteps := 1000000) (disch := omega) only [go_sem, eq_self, decide_true, decide_false, not_true_eq_false, not_false_eq_true, reduceIte, reduceCtorEq, Nat.reduceEqDiff, Nat.reduceAdd, Nat.reduceSub, Nat.reduceLeDiff]
              exact ⟨i + 1, k, 1, rfl, ⟨by omega, by omega, by omega, by omega, by omega, by omega, g7⟩, by omega⟩
    · rw [List.drop_eq_nil_of_le (by omega), flGo] at g7
      have et : (r.map sgC).drop (at_ + 1).toNat = (r.drop (at_ + 1).toNat).map sgC := by rw [List.map_drop]
      have hol : (r.drop (at_ + 1).toNat).length ≤ 1000000 := by rw [List.length_drop]; omega
      rw [← g7]
      simp (maxSteps := 1000000) (disch := omega) only [go_sem, eq_self, decide_true, decide_false, not_true_eq_false, not_false_eq_true, reduceIte, reduceCtorEq, Nat.reduceEqDiff, Nat.reduceAdd, Nat.reduceSub, Nat.reduceLeDiff]
      rw [et]
      refine CALL_det (optional_fc _ hol) (.inl rfl) ?_
      cases ho : optB (r.drop (at_ + 1).toNat) with
      | false =>
        rw [if_neg (by simp)]
        simp (maxSteps := 1000000) (disch := omega) only [go_sem, eq_self, decide_true, decide_false, not_true_eq_false, not_false_eq_true, reduceIte, reduceCtorEq, Nat.reduceEqDiff, Nat.reduceAdd, Nat.reduceSub, Nat.reduceLeDiff]
      | true =>
        rw [if_pos rfl]
        simp (maxSteps := 1000000) (disch := omega) only [go_sem, eq_self, decide_true, decide_false, not_true_eq_false, not_false_eq_true, reduceIte, reduceCtorEq, Nat.reduceEqDiff, Nat.reduceAdd, Nat.reduceSub, Nat.reduceLeDiff]
  · rw [if_pos (show orSp [rcF r, phF p] ≠ 0 by omega)]
    simp (maxSteps := 1000000) (disch := omega) only [go_sem, eq_self, decide_true, decide_false, not_true_eq_false, not_false_eq_true, reduceIte, reduceCtorEq, Nat.reduceEqDiff, Nat.reduceAdd, Nat.reduceSub, Nat.reduceLeDiff]
end Go.Proofs.Ytmbpfhpdicjpcaa

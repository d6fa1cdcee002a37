
/-
  The value of a series at a moment: the program's way (binary search) and the reference's (a walk over all samples) come to one answer.
-/
import Derived.Test.YtggbcgldnjmobaaChk
namespace Go.Proofs.Ytggbcgldnjmobaa
open Go Go.Ai
set_option linter.unusedSimpArgs false
set_option linter.unusedVariables false
set_option maxHeartbeats 4000000
def A_gcd : List Ann := [⟨(some ⟨[0,1], [], []⟩), [], [], [], []⟩, ⟨(some ⟨[0,1,6], [], []⟩), [], [], [], []⟩, ⟨(some ⟨[0,1], [], []⟩), [], [], [], []⟩, ⟨(some ⟨[4], [], []⟩), [], [], [], []⟩]
def C_gcd : AC := (.seq (.reg false [⟨(some 4), none, .mv (.v (.int .i64 (0)))⟩] (some ⟨[0,1], [], []⟩))
  (.seq (.block 0 (.loop (.seq (.seq (.reg false [⟨(some 5), none, .mv (.t 1)⟩, ⟨(some 6), none, .bin .neq (.t 5) (.v (.int .i64 (0)))⟩] (some ⟨[0,1,6], [], []⟩))
  (.cond (.t 6)
  .skip
  (.exit 0)))
  (.block 1 (.reg true [⟨(some 7), none, .mv (.t 1)⟩, ⟨(some 8), none, .mv (.t 0)⟩, ⟨(some 9), none, .mv (.t 1)⟩, ⟨(some 10), none, .bin .rem (.t 8) (.t 9)⟩, ⟨(some 0), none, .mv (.t 7)⟩, ⟨(some 1), none, .mv (.t 10)⟩] (some ⟨[0,1], [], []⟩))))))
  (.seq (.reg false [⟨(some 11), none, .mv (.t 0)⟩, ⟨(some 4), none, .mv (.t 11)⟩] (some ⟨[4], [], []⟩))
  .ret)))
theorem c_gcd : compileCode Try.prog Try.f161.ntmps (Try.f161.body.getD .skip) A_gcd = some (C_gcd, []) := by kernel_rfl
theorem r_gcd : compileRes Try.prog Try.f161.results.toList = some [.t 4] := by kernel_rfl
theorem b_gcd : Try.f161.body = some (Try.f161.body.getD .skip) := by kernel_rfl
theorem n_gcd : (Try.f161.name == "runtime.NumGoroutine") = false := by kernel_rfl
theorem fc_gcd {xt : Option (List Cel)} {args : List Val} {R : List Cel → Val → Prop} (hn : (if xt.isSome then 1 else 0) + args.length ≤ Try.f161.ntmps) (h : ex Try.prog C_gcd [] (fpost xt [.t 4] R) (initSt xt args)) : FC Try.prog 161 xt args R :=
  fc_of_awp Try.func161 b_gcd n_gcd c_gcd r_gcd (of_decide_eq_true (by kernel_rfl)) hn h

def A_divisor : List Ann := [⟨(some ⟨[0,1], [], []⟩), [], [], [], []⟩, ⟨(some ⟨[0,1,6], [], []⟩), [], [], [], []⟩, ⟨(some ⟨[0,1], [], []⟩), [], [], [], []⟩, ⟨(some ⟨[4], [], []⟩), [], [], [], []⟩]
def C_divisor : AC := (.seq (.reg false [⟨(some 4), none, .mv (.v (.int .i64 (0)))⟩] (some ⟨[0,1], [], []⟩))
  (.seq (.block 0 (.loop (.seq (.seq (.reg false [⟨(some 5), none, .mv (.t 1)⟩, ⟨(some 6), none, .bin .neq (.t 5) (.v (.int .i64 (0)))⟩] (some ⟨[0,1,6], [], []⟩))
  (.cond (.t 6)
  .skip
  (.exit 0)))
  (.block 1 (.reg true [⟨(some 7), none, .mv (.t 1)⟩, ⟨(some 8), none, .mv (.t 0)⟩, ⟨(some 9), none, .mv (.t 1)⟩, ⟨(some 10), none, .bin .rem (.t 8) (.t 9)⟩, ⟨(some 0), none, .mv (.t 7)⟩, ⟨(some 1), none, .mv (.t 10)⟩] (some ⟨[0,1], [], []⟩))))))
  (.seq (.reg false [⟨(some 11), none, .mv (.t 0)⟩, ⟨(some 4), none, .mv (.t 11)⟩] (some ⟨[4], [], []⟩))
  .ret)))
theorem c_divisor : compileCode Try.prog Try.f173.ntmps (Try.f173.body.getD .skip) A_divisor = some (C_divisor, []) := by kernel_rfl
theorem r_divisor : compileRes Try.prog Try.f173.results.toList = some [.t 4] := by kernel_rfl
theorem b_divisor : Try.f173.body = some (Try.f173.body.getD .skip) := by kernel_rfl
theorem n_divisor : (Try.f173.name == "runtime.NumGoroutine") = false := by kernel_rfl
theorem fc_divisor {xt : Option (List Cel)} {args : List Val} {R : List Cel → Val → Prop} (hn : (if xt.isSome then 1 else 0) + args.length ≤ Try.f173.ntmps) (h : ex Try.prog C_divisor [] (fpost xt [.t 4] R) (initSt xt args)) : FC Try.prog 173 xt args R :=
  fc_of_awp Try.func173 b_divisor n_divisor c_divisor r_divisor (of_decide_eq_true (by kernel_rfl)) hn h

def A_fraction : List Ann := [⟨(some ⟨[0,1,4], [4], []⟩), [], [], [], []⟩, ⟨(some ⟨[0,1,4,5], [4], []⟩), [], [], [], []⟩, ⟨(some ⟨[4], [4], []⟩), [], [], [], []⟩]
def C_fraction : AC := (.seq (.reg false [⟨(some 4), none, .alloc [(.int .i64 (0)), (.int .i64 (0))]⟩] (some ⟨[0,1,4], [4], []⟩))
  (.seq (.reg false [⟨(some 6), none, .mv (.t 0)⟩, ⟨(some 7), none, .mv (.t 0)⟩, ⟨(some 8), none, .un .neg (.t 7)⟩, ⟨(some 9), none, .mnx true (.t 6) (.t 8)⟩, ⟨(some 10), none, .mv (.t 1)⟩, ⟨(some 11), none, .call (.f 161) [(.t 9), (.t 10)]⟩, ⟨(some 5), none, .mv (.t 11)⟩] (some ⟨[0,1,4,5], [4], []⟩))
  (.seq (.reg true [⟨(some 12), none, .mv (.t 0)⟩, ⟨(some 13), none, .mv (.t 5)⟩, ⟨(some 14), none, .bin .quo (.t 12) (.t 13)⟩, ⟨(some 15), none, .mv (.t 1)⟩, ⟨(some 16), none, .mv (.t 5)⟩, ⟨(some 17), none, .bin .quo (.t 15) (.t 16)⟩, ⟨(some 18), none, .build [(.int .i64 (0)), (.int .i64 (0))] [(0, 1, (.t 14)), (1, 1, (.t 17))]⟩, ⟨none, none, .store 2 (.t 4) (.t 18)⟩] (some ⟨[4], [4], []⟩))
  .ret)))
theorem c_fraction : compileCode Try.prog Try.f116.ntmps (Try.f116.body.getD .skip) A_fraction = some (C_fraction, []) := by kernel_rfl
theorem r_fraction : compileRes Try.prog Try.f116.results.toList = some [.cell 4 true 2] := by kernel_rfl
theorem b_fraction : Try.f116.body = some (Try.f116.body.getD .skip) := by kernel_rfl
theorem n_fraction : (Try.f116.name == "runtime.NumGoroutine") = false := by kernel_rfl
theorem fc_fraction {xt : Option (List Cel)} {args : List Val} {R : List Cel → Val → Prop} (hn : (if xt.isSome then 1 else 0) + args.length ≤ Try.f116.ntmps) (h : ex Try.prog C_fraction [] (fpost xt [.cell 4 true 2] R) (initSt xt args)) : FC Try.prog 116 xt args R :=
  fc_of_awp Try.func116 b_fraction n_fraction c_fraction r_fraction (of_decide_eq_true (by kernel_rfl)) hn h

def A_lowest : List Ann := [⟨(some ⟨[0,1,4], [4], []⟩), [], [], [], []⟩, ⟨(some ⟨[0,1,4,5], [4], []⟩), [], [], [], []⟩, ⟨(some ⟨[4], [4], []⟩), [], [], [], []⟩]
def C_lowest : AC := (.seq (.reg false [⟨(some 4), none, .alloc [(.int .i64 (0)), (.int .i64 (0))]⟩] (some ⟨[0,1,4], [4], []⟩))
  (.seq (.reg false [⟨(some 6), none, .mv (.t 0)⟩, ⟨(some 7), none, .mv (.t 0)⟩, ⟨(some 8), none, .un .neg (.t 7)⟩, ⟨(some 9), none, .mnx true (.t 6) (.t 8)⟩, ⟨(some 10), none, .mv (.t 1)⟩, ⟨(some 11), none, .call (.f 173) [(.t 9), (.t 10)]⟩, ⟨(some 5), none, .mv (.t 11)⟩] (some ⟨[0,1,4,5], [4], []⟩))
  (.seq (.reg true [⟨(some 12), none, .mv (.t 0)⟩, ⟨(some 13), none, .mv (.t 5)⟩, ⟨(some 14), none, .bin .quo (.t 12) (.t 13)⟩, ⟨(some 15), none, .mv (.t 1)⟩, ⟨(some 16), none, .mv (.t 5)⟩, ⟨(some 17), none, .bin .quo (.t 15) (.t 16)⟩, ⟨(some 18), none, .build [(.int .i64 (0)), (.int .i64 (0))] [(0, 1, (.t 14)), (1, 1, (.t 17))]⟩, ⟨none, none, .store 2 (.t 4) (.t 18)⟩] (some ⟨[4], [4], []⟩))
  .ret)))
theorem c_lowest : compileCode Try.prog Try.f134.ntmps (Try.f134.body.getD .skip) A_lowest = some (C_lowest, []) := by kernel_rfl
theorem r_lowest : compileRes Try.prog Try.f134.results.toList = some [.cell 4 true 2] := by kernel_rfl
theorem b_lowest : Try.f134.body = some (Try.f134.body.getD .skip) := by kernel_rfl
theorem n_lowest : (Try.f134.name == "runtime.NumGoroutine") = false := by kernel_rfl
theorem fc_lowest {xt : Option (List Cel)} {args : List Val} {R : List Cel → Val → Prop} (hn : (if xt.isSome then 1 else 0) + args.length ≤ Try.f134.ntmps) (h : ex Try.prog C_lowest [] (fpost xt [.cell 4 true 2] R) (initSt xt args)) : FC Try.prog 134 xt args R :=
  fc_of_awp Try.func134 b_lowest n_lowest c_lowest r_lowest (of_decide_eq_true (by kernel_rfl)) hn h

def A_onLine : List Ann := [⟨(some ⟨[2,3,4,6], [3,4,6], []⟩), [], [], [], []⟩, ⟨(some ⟨[2,3,4,6,11], [3,4,6], []⟩), [], [], [], []⟩, ⟨(some ⟨[6], [6], []⟩), [], [], [], []⟩, ⟨(some ⟨[6], [6], []⟩), [], [], [], []⟩]
def C_onLine : AC := (.seq (.reg false [⟨(some 3), none, .box (.t 0)⟩, ⟨(some 4), none, .box (.t 1)⟩, ⟨(some 6), none, .alloc [(.int .i64 (0)), (.int .i64 (0))]⟩] (some ⟨[2,3,4,6], [3,4,6], []⟩))
  (.seq (.seq (.reg false [⟨(some 7), none, .fadr 0 (.t 3)⟩, ⟨(some 8), none, .load false 1 (.t 7)⟩, ⟨(some 9), none, .fadr 0 (.t 4)⟩, ⟨(some 10), none, .load false 1 (.t 9)⟩, ⟨(some 11), none, .bin .eql (.t 8) (.t 10)⟩] (some ⟨[2,3,4,6,11], [3,4,6], []⟩))
  (.cond (.t 11)
  (.seq (.reg false [⟨(some 12), none, .fadr 1 (.t 3)⟩, ⟨(some 13), none, .load false 1 (.t 12)⟩, ⟨(some 14), none, .build [(.int .i64 (0)), (.int .i64 (0))] [(0, 1, (.t 13)), (1, 1, (.v (.int .i64 (1))))]⟩, ⟨none, none, .store 2 (.t 6) (.t 14)⟩] (some ⟨[6], [6], []⟩))
  .ret)
  .skip))
  (.seq (.reg false [⟨(some 15), none, .fadr 1 (.t 3)⟩, ⟨(some 16), none, .load false 1 (.t 15)⟩, ⟨(some 17), none, .fadr 0 (.t 4)⟩, ⟨(some 18), none, .load false 1 (.t 17)⟩, ⟨(some 19), none, .fadr 0 (.t 3)⟩, ⟨(some 20), none, .load false 1 (.t 19)⟩, ⟨(some 21), none, .bin .sub (.t 18) (.t 20)⟩, ⟨(some 22), none, .bin .mul (.t 16) (.t 21)⟩, ⟨(some 23), none, .fadr 1 (.t 4)⟩, ⟨(some 24), none, .load false 1 (.t 23)⟩, ⟨(some 25), none, .fadr 1 (.t 3)⟩, ⟨(some 26), none, .load false 1 (.t 25)⟩, ⟨(some 27), none, .bin .sub (.t 24) (.t 26)⟩, ⟨(some 28), none, .mv (.t 2)⟩, ⟨(some 29), none, .fadr 0 (.t 3)⟩, ⟨(some 30), none, .load false 1 (.t 29)⟩, ⟨(some 31), none, .bin .sub (.t 28) (.t 30)⟩, ⟨(some 32), none, .bin .mul (.t 27) (.t 31)⟩, ⟨(some 33), none, .bin .add (.t 22) (.t 32)⟩, ⟨(some 34), none, .fadr 0 (.t 4)⟩, ⟨(some 35), none, .load false 1 (.t 34)⟩, ⟨(some 36), none, .fadr 0 (.t 3)⟩, ⟨(some 37), none, .load false 1 (.t 36)⟩, ⟨(some 38), none, .bin .sub (.t 35) (.t 37)⟩, ⟨(some 39), none, .call (.f 134) [(.t 33), (.t 38)]⟩, ⟨none, none, .store 2 (.t 6) (.t 39)⟩] (some ⟨[6], [6], []⟩))
  .ret)))
theorem c_onLine : compileCode Try.prog Try.f178.ntmps (Try.f178.body.getD .skip) A_onLine = some (C_onLine, []) := by kernel_rfl
theorem r_onLine : compileRes Try.prog Try.f178.results.toList = some [.cell 6 true 2] := by kernel_rfl
theorem b_onLine : Try.f178.body = some (Try.f178.body.getD .skip) := by kernel_rfl
theorem n_onLine : (Try.f178.name == "runtime.NumGoroutine") = false := by kernel_rfl
theorem fc_onLine {xt : Option (List Cel)} {args : List Val} {R : List Cel → Val → Prop} (hn : (if xt.isSome then 1 else 0) + args.length ≤ Try.f178.ntmps) (h : ex Try.prog C_onLine [] (fpost xt [.cell 6 true 2] R) (initSt xt args)) : FC Try.prog 178 xt args R :=
  fc_of_awp Try.func178 b_onLine n_onLine c_onLine r_onLine (of_decide_eq_true (by kernel_rfl)) hn h

def A_last : List Ann := [⟨(some ⟨[0,1], [], []⟩), [], [], [], []⟩, ⟨(some ⟨[5,6], [], []⟩), [], [], [], []⟩, ⟨(some ⟨[5,13], [], []⟩), [], [], [], []⟩, ⟨(some ⟨[4], [], []⟩), [], [], [], []⟩, ⟨(some ⟨[4], [], []⟩), [], [], [], []⟩]
def C_last : AC := (.seq (.reg false [⟨(some 4), none, .mv (.v (.int .i64 (0)))⟩] (some ⟨[0,1], [], []⟩))
  (.seq (.reg false [⟨(some 8), none, .mv (.t 0)⟩, ⟨(some 9), none, .mv (.t 1)⟩, ⟨(some 10), none, .call (.f 157) [(.t 8), (.t 9), (.f 158)]⟩, ⟨(some 7), none, .mv (.t 10)⟩, ⟨(some 11), none, .extr (.t 7) 0⟩, ⟨(some 12), none, .extr (.t 7) 1⟩, ⟨(some 5), none, .mv (.t 11)⟩, ⟨(some 6), none, .mv (.t 12)⟩] (some ⟨[5,6], [], []⟩))
  (.seq (.seq (.reg false [⟨(some 13), none, .mv (.t 6)⟩] (some ⟨[5,13], [], []⟩))
  (.cond (.t 13)
  (.seq (.reg false [⟨(some 14), none, .mv (.t 5)⟩, ⟨(some 4), none, .mv (.t 14)⟩] (some ⟨[4], [], []⟩))
  .ret)
  .skip))
  (.seq (.reg false [⟨(some 15), none, .mv (.t 5)⟩, ⟨(some 16), none, .bin .sub (.t 15) (.v (.int .i64 (1)))⟩, ⟨(some 4), none, .mv (.t 16)⟩] (some ⟨[4], [], []⟩))
  .ret))))
theorem c_last : compileCode Try.prog Try.f113.ntmps (Try.f113.body.getD .skip) A_last = some (C_last, []) := by kernel_rfl
theorem r_last : compileRes Try.prog Try.f113.results.toList = some [.t 4] := by kernel_rfl
theorem b_last : Try.f113.body = some (Try.f113.body.getD .skip) := by kernel_rfl
theorem n_last : (Try.f113.name == "runtime.NumGoroutine") = false := by kernel_rfl
theorem fc_last {xt : Option (List Cel)} {args : List Val} {R : List Cel → Val → Prop} (hn : (if xt.isSome then 1 else 0) + args.length ≤ Try.f113.ntmps) (h : ex Try.prog C_last [] (fpost xt [.t 4] R) (initSt xt args)) : FC Try.prog 113 xt args R :=
  fc_of_awp Try.func113 b_last n_last c_last r_last (of_decide_eq_true (by kernel_rfl)) hn h

def A_last1 : List Ann := [⟨(some ⟨[1,2], [2], []⟩), [], [], [], []⟩, ⟨(some ⟨[4], [], []⟩), [], [], [], []⟩]
def C_last1 : AC := (.seq (.reg false [⟨(some 2), none, .box (.t 0)⟩, ⟨(some 4), none, .mv (.v (.int .i64 (0)))⟩] (some ⟨[1,2], [2], []⟩))
  (.seq (.reg false [⟨(some 5), none, .fadr 0 (.t 2)⟩, ⟨(some 6), none, .load false 1 (.t 5)⟩, ⟨(some 7), none, .mv (.t 1)⟩, ⟨(some 8), none, .bin .sub (.t 6) (.t 7)⟩, ⟨(some 4), none, .mv (.t 8)⟩] (some ⟨[4], [], []⟩))
  .ret))
theorem c_last1 : compileCode Try.prog Try.f158.ntmps (Try.f158.body.getD .skip) A_last1 = some (C_last1, []) := by kernel_rfl
theorem r_last1 : compileRes Try.prog Try.f158.results.toList = some [.t 4] := by kernel_rfl
theorem b_last1 : Try.f158.body = some (Try.f158.body.getD .skip) := by kernel_rfl
theorem n_last1 : (Try.f158.name == "runtime.NumGoroutine") = false := by kernel_rfl
theorem fc_last1 {xt : Option (List Cel)} {args : List Val} {R : List Cel → Val → Prop} (hn : (if xt.isSome then 1 else 0) + args.length ≤ Try.f158.ntmps) (h : ex Try.prog C_last1 [] (fpost xt [.t 4] R) (initSt xt args)) : FC Try.prog 158 xt args R :=
  fc_of_awp Try.func158 b_last1 n_last1 c_last1 r_last1 (of_decide_eq_true (by kernel_rfl)) hn h

def A_bsf : List Ann := [⟨(some ⟨[0,1,2], [], []⟩), [], [], [], []⟩, ⟨(some ⟨[0,1,2,8], [], []⟩), [], [], [], []⟩, ⟨(some ⟨[0,1,2,8,9,10], [], []⟩), [], [], [], []⟩, ⟨(some ⟨[0,1,2,8,9,10,17], [], []⟩), [], [], [], []⟩, ⟨(some ⟨[0,1,2,8,9,10,11], [], []⟩), [], [], [], []⟩, ⟨(some ⟨[0,1,2,8,9,10,11,31], [], []⟩), [], [], [], []⟩, ⟨(some ⟨[0,1,2,8,9,10], [], []⟩), [], [], [], []⟩, ⟨(some ⟨[0,1,2,8,9,10], [], []⟩), [], [], [], []⟩, ⟨(some ⟨[6,7], [], []⟩), [], [], [], []⟩]
def C_bsf : AC := (.seq (.reg false [⟨(some 6), none, .mv (.v (.int .i64 (0)))⟩, ⟨(some 7), none, .mv (.v (.bool false))⟩] (some ⟨[0,1,2], [], []⟩))
  (.seq (.reg false [⟨(some 12), none, .mv (.t 0)⟩, ⟨(some 13), none, .len (.t 12)⟩, ⟨(some 8), none, .mv (.t 13)⟩] (some ⟨[0,1,2,8], [], []⟩))
  (.seq (.reg false [⟨(some 14), none, .mv (.t 8)⟩, ⟨(some 9), none, .mv (.v (.int .i64 (0)))⟩, ⟨(some 10), none, .mv (.t 14)⟩] (some ⟨[0,1,2,8,9,10], [], []⟩))
  (.seq (.block 0 (.loop (.seq (.seq (.reg false [⟨(some 15), none, .mv (.t 9)⟩, ⟨(some 16), none, .mv (.t 10)⟩, ⟨(some 17), none, .bin .lss (.t 15) (.t 16)⟩] (some ⟨[0,1,2,8,9,10,17], [], []⟩))
  (.cond (.t 17)
  .skip
  (.exit 0)))
  (.block 1 (.seq (.reg false [⟨(some 18), none, .mv (.t 9)⟩, ⟨(some 19), none, .mv (.t 10)⟩, ⟨(some 20), none, .bin .add (.t 18) (.t 19)⟩, ⟨(some 21), none, .conv .u64 (.t 20)⟩, ⟨(some 22), none, .bin .shr (.t 21) (.v (.int .u64 (1)))⟩, ⟨(some 23), none, .conv .i64 (.t 22)⟩, ⟨(some 11), none, .mv (.t 23)⟩] (some ⟨[0,1,2,8,9,10,11], [], []⟩))
  (.seq (.reg false [⟨(some 24), none, .mv (.t 2)⟩, ⟨(some 25), none, .mv (.t 0)⟩, ⟨(some 26), none, .mv (.t 11)⟩, ⟨(some 27), none, .iadr 3 (.t 25) (.t 26)⟩, ⟨(some 28), none, .load true 3 (.t 27)⟩, ⟨(some 29), none, .mv (.t 1)⟩, ⟨(some 30), none, .call (.t 24) [(.t 28), (.t 29)]⟩, ⟨(some 31), none, .bin .lss (.t 30) (.v (.int .i64 (0)))⟩] (some ⟨[0,1,2,8,9,10,11,31], [], []⟩))
  (.cond (.t 31)
  (.reg false [⟨(some 32), none, .mv (.t 11)⟩, ⟨(some 33), none, .bin .add (.t 32) (.v (.int .i64 (1)))⟩, ⟨(some 9), none, .mv (.t 33)⟩] (some ⟨[0,1,2,8,9,10], [], []⟩))
  (.reg false [⟨(some 34), none, .mv (.t 11)⟩, ⟨(some 10), none, .mv (.t 34)⟩] (some ⟨[0,1,2,8,9,10], [], []⟩)))))))))
  (.seq (.reg false [⟨(some 35), none, .mv (.t 9)⟩, ⟨(some 36), none, .mv (.t 9)⟩, ⟨(some 37), none, .mv (.t 8)⟩, ⟨(some 38), none, .bin .lss (.t 36) (.t 37)⟩, ⟨(some 39), none, .mv (.t 38)⟩, ⟨(some 40), (some (39, true)), .mv (.t 2)⟩, ⟨(some 41), (some (39, true)), .mv (.t 0)⟩, ⟨(some 42), (some (39, true)), .mv (.t 9)⟩, ⟨(some 43), (some (39, true)), .iadr 3 (.t 41) (.t 42)⟩, ⟨(some 44), (some (39, true)), .load true 3 (.t 43)⟩, ⟨(some 45), (some (39, true)), .mv (.t 1)⟩, ⟨(some 46), (some (39, true)), .call (.t 40) [(.t 44), (.t 45)]⟩, ⟨(some 47), (some (39, true)), .bin .eql (.t 46) (.v (.int .i64 (0)))⟩, ⟨(some 48), none, .pick (.t 39) (.t 47) (.v (.bool false))⟩, ⟨(some 6), none, .mv (.t 35)⟩, ⟨(some 7), none, .mv (.t 48)⟩] (some ⟨[6,7], [], []⟩))
  .ret)))))
theorem c_bsf : compileCode Try.prog Try.f157.ntmps (Try.f157.body.getD .skip) A_bsf = some (C_bsf, []) := by kernel_rfl
theorem r_bsf : compileRes Try.prog Try.f157.results.toList = some [.t 6, .t 7] := by kernel_rfl
theorem b_bsf : Try.f157.body = some (Try.f157.body.getD .skip) := by kernel_rfl
theorem n_bsf : (Try.f157.name == "runtime.NumGoroutine") = false := by kernel_rfl
theorem fc_bsf {xt : Option (List Cel)} {args : List Val} {R : List Cel → Val → Prop} (hn : (if xt.isSome then 1 else 0) + args.length ≤ Try.f157.ntmps) (h : ex Try.prog C_bsf [] (fpost xt [.t 6, .t 7] R) (initSt xt args)) : FC Try.prog 157 xt args R :=
  fc_of_awp Try.func157 b_bsf n_bsf c_bsf r_bsf (of_decide_eq_true (by kernel_rfl)) hn h

def A_valueAt : List Ann := [⟨(some ⟨[0,1,2,6], [6], []⟩), [], [], [], []⟩, ⟨(some ⟨[0,1,2,6,8], [6], []⟩), [], [], [], []⟩, ⟨(some ⟨[0,1,2,6,8,16], [6], []⟩), [], [], [], []⟩, ⟨(some ⟨[6,7], [6], []⟩), [], [], [], []⟩, ⟨(some ⟨[0,1,2,6,8,9], [6,9], []⟩), [], [], [], []⟩, ⟨(some ⟨[0,1,2,6,8,9,22], [6,9], []⟩), [], [], [], []⟩, ⟨(some ⟨[6,7], [6], []⟩), [], [], [], []⟩, ⟨(some ⟨[0,2,6,8,9,29], [6,9], []⟩), [], [], [], []⟩, ⟨(some ⟨[6,7], [6], []⟩), [], [], [], []⟩, ⟨(some ⟨[2,6,9,10], [6,9,10], []⟩), [], [], [], []⟩, ⟨(some ⟨[2,6,9,10,11], [6,9,10], []⟩), [], [], [], []⟩, ⟨(some ⟨[6,7], [6], []⟩), [], [], [], []⟩]
def C_valueAt : AC := (.seq (.reg false [⟨(some 6), none, .alloc [(.int .i64 (0)), (.int .i64 (0)), (.int .i64 (0)), (.int .i64 (0))]⟩, ⟨(some 7), none, .mv (.v (.bool false))⟩] (some ⟨[0,1,2,6], [6], []⟩))
  (.seq (.reg false [⟨(some 12), none, .mv (.t 0)⟩, ⟨(some 13), none, .mv (.t 2)⟩, ⟨(some 14), none, .call (.f 113) [(.t 12), (.t 13)]⟩, ⟨(some 8), none, .mv (.t 14)⟩] (some ⟨[0,1,2,6,8], [6], []⟩))
  (.seq (.seq (.reg false [⟨(some 15), none, .mv (.t 8)⟩, ⟨(some 16), none, .bin .lss (.t 15) (.v (.int .i64 (0)))⟩] (some ⟨[0,1,2,6,8,16], [6], []⟩))
  (.cond (.t 16)
  (.seq (.reg false [⟨(some 17), none, .build [(.int .i64 (0)), (.int .i64 (0)), (.int .i64 (0)), (.int .i64 (0))] []⟩, ⟨none, none, .store 4 (.t 6) (.t 17)⟩, ⟨(some 7), none, .mv (.v (.bool false))⟩] (some ⟨[6,7], [6], []⟩))
  .ret)
  .skip))
  (.seq (.reg false [⟨(some 18), none, .mv (.t 0)⟩, ⟨(some 19), none, .mv (.t 8)⟩, ⟨(some 20), none, .iadr 3 (.t 18) (.t 19)⟩, ⟨(some 21), none, .load true 3 (.t 20)⟩, ⟨(some 9), none, .alloc [(.int .i64 (0)), (.int .i64 (0)), (.int .i64 (0))]⟩, ⟨none, none, .store 3 (.t 9) (.t 21)⟩] (some ⟨[0,1,2,6,8,9], [6,9], []⟩))
  (.seq (.block 0 (.seq (.reg false [⟨(some 23), none, .fadr 2 (.t 9)⟩, ⟨(some 24), none, .load false 1 (.t 23)⟩, ⟨(some 25), none, .bin .eql (.t 24) (.v (.int .i64 (2)))⟩, ⟨(some 22), none, .mv (.t 25)⟩] (some ⟨[0,1,2,6,8,9,22], [6,9], []⟩))
  (.cond (.t 22)
  (.seq (.reg false [⟨(some 26), none, .mv (.t 2)⟩, ⟨(some 27), none, .build [(.int .i64 (0)), (.int .i64 (0))] [(1, 1, (.v (.int .i64 (1))))]⟩, ⟨(some 28), none, .build [(.int .i64 (0)), (.int .i64 (0)), (.int .i64 (0)), (.int .i64 (0))] [(0, 1, (.t 26)), (1, 2, (.t 27)), (3, 1, (.v (.int .i64 (2))))]⟩, ⟨none, none, .store 4 (.t 6) (.t 28)⟩, ⟨(some 7), none, .mv (.v (.bool true))⟩] (some ⟨[6,7], [6], []⟩))
  .ret)
  (.seq (.reg false [⟨(some 30), none, .mv (.t 1)⟩, ⟨(some 31), none, .mv (.t 30)⟩, ⟨(some 32), (some (31, false)), .fadr 0 (.t 9)⟩, ⟨(some 33), (some (31, false)), .load false 1 (.t 32)⟩, ⟨(some 34), (some (31, false)), .mv (.t 2)⟩, ⟨(some 35), (some (31, false)), .bin .eql (.t 33) (.t 34)⟩, ⟨(some 36), none, .pick (.t 31) (.v (.bool true)) (.t 35)⟩, ⟨(some 37), none, .mv (.t 36)⟩, ⟨(some 38), (some (37, false)), .mv (.t 8)⟩, ⟨(some 39), (some (37, false)), .bin .add (.t 38) (.v (.int .i64 (1)))⟩, ⟨(some 40), (some (37, false)), .mv (.t 0)⟩, ⟨(some 41), (some (37, false)), .len (.t 40)⟩, ⟨(some 42), (some (37, false)), .bin .eql (.t 39) (.t 41)⟩, ⟨(some 43), none, .pick (.t 37) (.v (.bool true)) (.t 42)⟩, ⟨(some 44), none, .mv (.t 43)⟩, ⟨(some 45), (some (44, false)), .mv (.t 0)⟩, ⟨(some 46), (some (44, false)), .mv (.t 8)⟩, ⟨(some 47), (some (44, false)), .bin .add (.t 46) (.v (.int .i64 (1)))⟩, ⟨(some 48), (some (44, false)), .iadr 3 (.t 45) (.t 47)⟩, ⟨(some 49), (some (44, false)), .fadr 2 (.t 48)⟩, ⟨(some 50), (some (44, false)), .load false 1 (.t 49)⟩, ⟨(some 51), (some (44, false)), .bin .eql (.t 50) (.v (.int .i64 (2)))⟩, ⟨(some 52), none, .pick (.t 44) (.v (.bool true)) (.t 51)⟩, ⟨(some 29), none, .mv (.t 52)⟩] (some ⟨[0,2,6,8,9,29], [6,9], []⟩))
  (.cond (.t 29)
  (.seq (.reg false [⟨(some 53), none, .mv (.t 2)⟩, ⟨(some 54), none, .fadr 1 (.t 9)⟩, ⟨(some 55), none, .load false 1 (.t 54)⟩, ⟨(some 56), none, .build [(.int .i64 (0)), (.int .i64 (0))] [(0, 1, (.t 55)), (1, 1, (.v (.int .i64 (1))))]⟩, ⟨(some 57), none, .fadr 2 (.t 9)⟩, ⟨(some 58), none, .load false 1 (.t 57)⟩, ⟨(some 59), none, .build [(.int .i64 (0)), (.int .i64 (0)), (.int .i64 (0)), (.int .i64 (0))] [(0, 1, (.t 53)), (1, 2, (.t 56)), (3, 1, (.t 58))]⟩, ⟨none, none, .store 4 (.t 6) (.t 59)⟩, ⟨(some 7), none, .mv (.v (.bool true))⟩] (some ⟨[6,7], [6], []⟩))
  .ret)
  .skip)))))
  (.seq (.reg false [⟨(some 60), none, .mv (.t 0)⟩, ⟨(some 61), none, .mv (.t 8)⟩, ⟨(some 62), none, .bin .add (.t 61) (.v (.int .i64 (1)))⟩, ⟨(some 63), none, .iadr 3 (.t 60) (.t 62)⟩, ⟨(some 64), none, .load true 3 (.t 63)⟩, ⟨(some 10), none, .alloc [(.int .i64 (0)), (.int .i64 (0)), (.int .i64 (0))]⟩, ⟨none, none, .store 3 (.t 10) (.t 64)⟩] (some ⟨[2,6,9,10], [6,9,10], []⟩))
  (.seq (.reg false [⟨(some 65), none, .fadr 0 (.t 10)⟩, ⟨(some 66), none, .load false 1 (.t 65)⟩, ⟨(some 67), none, .fadr 0 (.t 9)⟩, ⟨(some 68), none, .load false 1 (.t 67)⟩, ⟨(some 69), none, .bin .sub (.t 66) (.t 68)⟩, ⟨(some 11), none, .mv (.t 69)⟩] (some ⟨[2,6,9,10,11], [6,9,10], []⟩))
  (.seq (.reg true [⟨(some 70), none, .mv (.t 2)⟩, ⟨(some 71), none, .fadr 1 (.t 9)⟩, ⟨(some 72), none, .load false 1 (.t 71)⟩, ⟨(some 73), none, .mv (.t 11)⟩, ⟨(some 74), none, .bin .mul (.t 72) (.t 73)⟩, ⟨(some 75), none, .fadr 1 (.t 10)⟩, ⟨(some 76), none, .load false 1 (.t 75)⟩, ⟨(some 77), none, .fadr 1 (.t 9)⟩, ⟨(some 78), none, .load false 1 (.t 77)⟩, ⟨(some 79), none, .bin .sub (.t 76) (.t 78)⟩, ⟨(some 80), none, .mv (.t 2)⟩, ⟨(some 81), none, .fadr 0 (.t 9)⟩, ⟨(some 82), none, .load false 1 (.t 81)⟩, ⟨(some 83), none, .bin .sub (.t 80) (.t 82)⟩, ⟨(some 84), none, .bin .mul (.t 79) (.t 83)⟩, ⟨(some 85), none, .bin .add (.t 74) (.t 84)⟩, ⟨(some 86), none, .mv (.t 11)⟩, ⟨(some 87), none, .call (.f 116) [(.t 85), (.t 86)]⟩, ⟨(some 88), none, .fadr 2 (.t 9)⟩, ⟨(some 89), none, .load false 1 (.t 88)⟩, ⟨(some 90), none, .fadr 2 (.t 10)⟩, ⟨(some 91), none, .load false 1 (.t 90)⟩, ⟨(some 92), none, .mnx true (.t 89) (.t 91)⟩, ⟨(some 93), none, .build [(.int .i64 (0)), (.int .i64 (0)), (.int .i64 (0)), (.int .i64 (0))] [(0, 1, (.t 70)), (1, 2, (.t 87)), (3, 1, (.t 92))]⟩, ⟨none, none, .store 4 (.t 6) (.t 93)⟩, ⟨(some 7), none, .mv (.v (.bool true))⟩] (some ⟨[6,7], [6], []⟩))
  .ret))))))))
theorem c_valueAt : compileCode Try.prog Try.f112.ntmps (Try.f112.body.getD .skip) A_valueAt = some (C_valueAt, []) := by kernel_rfl
theorem r_valueAt : compileRes Try.prog Try.f112.results.toList = some [.cell 6 true 4, .t 7] := by kernel_rfl
theorem b_valueAt : Try.f112.body = some (Try.f112.body.getD .skip) := by kernel_rfl
theorem n_valueAt : (Try.f112.name == "runtime.NumGoroutine") = false := by kernel_rfl
theorem fc_valueAt {xt : Option (List Cel)} {args : List Val} {R : List Cel → Val → Prop} (hn : (if xt.isSome then 1 else 0) + args.length ≤ Try.f112.ntmps) (h : ex Try.prog C_valueAt [] (fpost xt [.cell 6 true 4, .t 7] R) (initSt xt args)) : FC Try.prog 112 xt args R :=
  fc_of_awp Try.func112 b_valueAt n_valueAt c_valueAt r_valueAt (of_decide_eq_true (by kernel_rfl)) hn h



theorem tu2_congr {a b c d : Val} (h1 : a = c) (h2 : b = d) : Val.tu [a, b] = .tu [c, d] := by rw [h1, h2]
theorem tu3_congr {a b c d e f : Val} (h1 : a = d) (h2 : b = e) (h3 : c = f) : Val.tu [a, b, c] = .tu [d, e, f] := by rw [h1, h2, h3]
def gcdSt (x : Int × Int) : AS := ⟨tabV [(0, iv x.1), (1, iv x.2)], tabO [], tabO []⟩
theorem gcd_fc (a b : Int) (ha : 0 ≤ a) (hb : 0 ≤ b) : FC Try.prog 161 none [iv a, iv b] (fun _ r => r = iv (Nat.gcd a.toNat b.toNat)) := by
  refine fc_gcd (by simp +arith) ?_
  unfold C_gcd
  simp (maxSteps := 1000000) (disch := omega) only [go_sem, eq_self, decide_true, decide_false, not_true_eq_false, not_false_eq_true, reduceIte, reduceCtorEq, Nat.reduceEqDiff, Nat.reduceAdd, Nat.reduceSub, Nat.reduceLeDiff]
  refine ex_loopI gcdSt (fun x => 0 ≤ x.1 ∧ 0 ≤ x.2 ∧ Nat.gcd x.1.toNat x.2.toNat = Nat.gcd a.toNat b.toNat) (fun x => x.2.toNat) (a, b) ⟨ha, hb, rfl⟩ rfl ?_
  rintro ⟨x, y⟩ ⟨h1, h2, h3⟩
  simp only at h1 h2 h3
  unfold gcdSt
  simp (maxSteps := 1000000) (disch := omega) only [go_sem, eq_self, decide_true, decide_false, not_true_eq_false, not_false_eq_true, reduceIte, reduceCtorEq, Nat.reduceEqDiff, Nat.reduceAdd, Nat.reduceSub, Nat.reduceLeDiff]
  refine ⟨fun h => ⟨h, (y, x.tmod y), ⟨h2, ?_, ?_⟩, rfl, ?_⟩, fun h => ?_⟩
  · rw [Int.tmod_eq_emod_of_nonneg h1]; exact Int.emod_nonneg _ h
  · rw [Int.tmod_eq_emod_of_nonneg h1, ← h3, Nat.gcd_comm x.toNat y.toNat, Nat.gcd_rec y.toNat x.toNat, Nat.gcd_comm, Int.toNat_emod h1 h2]
  · have := Int.emod_lt_of_pos x (show 0 < y by omega)
    have := Int.emod_nonneg x (show y ≠ 0 by omega)
    simp only
    rw [Int.tmod_eq_emod_of_nonneg h1]; omega
  · have : y = 0 := by omega
    subst this
    refine iv_congr ?_
    rw [← h3]; simp; omega
theorem divisor_fc (a b : Int) (ha : 0 ≤ a) (hb : 0 ≤ b) : FC Try.prog 173 none [iv a, iv b] (fun _ r => r = iv (Nat.gcd a.toNat b.toNat)) := by
  refine fc_divisor (by simp +arith) ?_
  unfold C_divisor
  simp (maxSteps := 1000000) (disch := omega) only [go_sem, eq_self, decide_true, decide_false, not_true_eq_false, not_false_eq_true, reduceIte, reduceCtorEq, Nat.reduceEqDiff, Nat.reduceAdd, Nat.reduceSub, Nat.reduceLeDiff]
  refine ex_loopI gcdSt (fun x => 0 ≤ x.1 ∧ 0 ≤ x.2 ∧ Nat.gcd x.1.toNat x.2.toNat = Nat.gcd a.toNat b.toNat) (fun x => x.2.toNat) (a, b) ⟨ha, hb, rfl⟩ rfl ?_
  rintro ⟨x, y⟩ ⟨h1, h2, h3⟩
  simp only at h1 h2 h3
  unfold gcdSt
  simp (maxSteps := 1000000) (disch := omega) only [go_sem, eq_self, decide_true, decide_false, not_true_eq_false, not_false_eq_true, reduceIte, reduceCtorEq, Nat.reduceEqDiff, Nat.reduceAdd, Nat.reduceSub, Nat.reduceLeDiff]
  refine ⟨fun h => ⟨h, (y, x.tmod y), ⟨h2, ?_, ?_⟩, rfl, ?_⟩, fun h => ?_⟩
  · rw [Int.tmod_eq_emod_of_nonneg h1]; exact Int.emod_nonneg _ h
  · rw [Int.tmod_eq_emod_of_nonneg h1, ← h3, Nat.gcd_comm x.toNat y.toNat, Nat.gcd_rec y.toNat x.toNat, Nat.gcd_comm, Int.toNat_emod h1 h2]
  · have := Int.emod_lt_of_pos x (show 0 < y by omega)
    have := Int.emod_nonneg x (show y ≠ 0 by omega)
    simp only
    rw [Int.tmod_eq_emod_of_nonneg h1]; omega
  · have : y = 0 := by omega
    subst this
    refine iv_congr ?_
    rw [← h3]; simp; omega
/-- A fraction's lowest terms. -/
def lowG (n d : Int) : Int := Nat.gcd (max n (0 - n)).toNat d.toNat
theorem lowG_pos (n d : Int) (hd : 1 ≤ d) : 1 ≤ lowG n d := by
  unfold lowG
  have : 0 < Nat.gcd (max n (0 - n)).toNat d.toNat := Nat.gcd_pos_of_pos_right _ (by omega)
  omega
theorem tdiv_bd {n g B : Int} (hg : 1 ≤ g) (h1 : -B ≤ n) (h2 : n ≤ B) : -B ≤ n.tdiv g ∧ n.tdiv g ≤ B := by
  by_cases h : 0 ≤ n
  · have h3 : 0 ≤ n.tdiv g := Int.tdiv_nonneg h (by omega)
    have h4 : n.tdiv g ≤ n := Int.tdiv_le_self _ h
    omega
  · have h3 : 0 ≤ (-n).tdiv g := Int.tdiv_nonneg (by omega) (by omega)
    have h4 : (-n).tdiv g ≤ -n := Int.tdiv_le_self _ (by omega)
    rw [Int.neg_tdiv] at h3 h4
    omega
def lowN (n d : Int) : Int := n.tdiv (lowG n d)
def lowD (n d : Int) : Int := d.tdiv (lowG n d)
theorem fraction_fc (n d : Int) (hn : -4611686018427387904 ≤ n ∧ n ≤ 4611686018427387904) (hd : 1 ≤ d) (hd2 : d ≤ 4611686018427387904) : FC Try.prog 116 none [iv n, iv d] (fun _ r => r = .ag [.g (.int .i64 (lowN n d)), .g (.int .i64 (lowD n d))]) := by
  refine fc_fraction (by simp +arith) ?_
  unfold C_fraction
  simp (maxSteps := 1000000) (disch := omega) only [go_sem, eq_self, decide_true, decide_false, not_true_eq_false, not_false_eq_true, reduceIte, reduceCtorEq, Nat.reduceEqDiff, Nat.reduceAdd, Nat.reduceSub, Nat.reduceLeDiff]
  refine CALL_det (gcd_fc _ _ (by omega) (by omega)) (.inl rfl) ?_
  have h1 := lowG_pos n d hd
  have h2 := tdiv_bd h1 hn.1 hn.2
  have h3 := tdiv_bd (n := d) (B := 4611686018427387904) h1 (by omega) hd2
  have e : ((Nat.gcd (max n (0 - n)).toNat d.toNat : Nat) : Int) = lowG n d := rfl
  rw [e]
  simp (maxSteps := 1000000) (disch := omega) only [go_sem, eq_self, decide_true, decide_false, not_true_eq_false, not_false_eq_true, reduceIte, reduceCtorEq, Nat.reduceEqDiff, Nat.reduceAdd, Nat.reduceSub, Nat.reduceLeDiff]
  rfl
theorem lowest_fc (n d : Int) (hn : -4611686018427387904 ≤ n ∧ n ≤ 4611686018427387904) (hd : 1 ≤ d) (hd2 : d ≤ 4611686018427387904) : FC Try.prog 134 none [iv n, iv d] (fun _ r => r = .ag [.g (.int .i64 (lowN n d)), .g (.int .i64 (lowD n d))]) := by
  refine fc_lowest (by simp +arith) ?_
  unfold C_lowest
  simp (maxSteps := 1000000) (disch := omega) only [go_sem, eq_self, decide_true, decide_false, not_true_eq_false, not_false_eq_true, reduceIte, reduceCtorEq, Nat.reduceEqDiff, Nat.reduceAdd, Nat.reduceSub, Nat.reduceLeDiff]
  refine CALL_det (divisor_fc _ _ (by omega) (by omega)) (.inl rfl) ?_
  have h1 := lowG_pos n d hd
  have h2 := tdiv_bd h1 hn.1 hn.2
  have h3 := tdiv_bd (n := d) (B := 4611686018427387904) h1 (by omega) hd2
  have e : ((Nat.gcd (max n (0 - n)).toNat d.toNat : Nat) : Int) = lowG n d := rfl
  rw [e]
  simp (maxSteps := 1000000) (disch := omega) only [go_sem, eq_self, decide_true, decide_false, not_true_eq_false, not_false_eq_true, reduceIte, reduceCtorEq, Nat.reduceEqDiff, Nat.reduceAdd, Nat.reduceSub, Nat.reduceLeDiff]
  rfl
theorem mul_bd {a b A B : Int} (ha : -A ≤ a ∧ a ≤ A) (hb : -B ≤ b ∧ b ≤ B) : -(A * B) ≤ a * b ∧ a * b ≤ A * B := by
  have h : (a * b).natAbs ≤ A.natAbs * B.natAbs := by
    rw [Int.natAbs_mul]; exact Nat.mul_le_mul (by omega) (by omega)
  have h2 : ((A.natAbs * B.natAbs : Nat) : Int) = A * B := by
    rw [Int.natCast_mul]
    rw [Int.natAbs_of_nonneg (by omega), Int.natAbs_of_nonneg (by omega)]
  omega
/-- The numerator of the value on the line between two samples. -/
def lineN (p n : Smp) (at_ : Int) : Int := p.v * (n.a - p.a) + (n.v - p.v) * (at_ - p.a)
def okSmp (x : Smp) : Prop := 0 ≤ x.a ∧ x.a ≤ 345686399999 ∧ -1000000 ≤ x.v ∧ x.v ≤ 1000000 ∧ 0 ≤ x.q ∧ x.q ≤ 2
theorem okSmp_of {x : Smp} (h : smpFault x = 0) : okSmp x ∧ (x.q = 2 → x.v = 0) := by
  unfold smpFault at h; unfold okSmp
  (repeat' split at h) <;> (first | omega | (refine ⟨by omega, fun h' => by simp_all⟩))
theorem lineN_bd {p n : Smp} {at_ : Int} (hp : okSmp p) (hn : okSmp n) (ha : 0 ≤ at_ ∧ at_ ≤ 345686400000) :
    (-1000000000000000000 ≤ p.v * (n.a - p.a) ∧ p.v * (n.a - p.a) ≤ 1000000000000000000) ∧ (-1000000000000000000 ≤ (n.v - p.v) * (at_ - p.a) ∧ (n.v - p.v) * (at_ - p.a) ≤ 1000000000000000000) := by
  obtain ⟨h1, h2, h3, h4, h5, h6⟩ := hp
  obtain ⟨g1, g2, g3, g4, g5, g6⟩ := hn
  have e1 := mul_bd (a := p.v) (b := n.a - p.a) (A := 1000000) (B := 345686400000) ⟨by omega, by omega⟩ ⟨by omega, by omega⟩
  have e2 := mul_bd (a := n.v - p.v) (b := at_ - p.a) (A := 2000000) (B := 345686400000) ⟨by omega, by omega⟩ ⟨by omega, by omega⟩
  omega
theorem onLine_fc (p n : Smp) (at_ : Int) (hp : okSmp p) (hn : okSmp n) (ha : 0 ≤ at_ ∧ at_ ≤ 345686400000) (hlt : p.a < n.a) : FC Try.prog 178 none [smpV p, smpV n, iv at_] (fun _ r => r = .ag [.g (.int .i64 (lowN (lineN p n at_) (n.a - p.a))), .g (.int .i64 (lowD (lineN p n at_) (n.a - p.a)))]) := by
  refine fc_onLine (by simp +arith) ?_
  have hb := lineN_bd hp hn ha
  have hp' := hp
  have hn' := hn
  unfold okSmp at hp' hn'
  unfold C_onLine
  simp (maxSteps := 1000000) (disch := omega) only [go_sem, eq_self, decide_true, decide_false, not_true_eq_false, not_false_eq_true, reduceIte, reduceCtorEq, Nat.reduceEqDiff, Nat.reduceAdd, Nat.reduceSub, Nat.reduceLeDiff]
  refine CALL_det (lowest_fc _ _ (by omega) (by omega) (by omega)) (.inl rfl) ?_
  simp (maxSteps := 1000000) (disch := omega) only [go_sem, eq_self, decide_true, decide_false, not_true_eq_false, not_false_eq_true, reduceIte, reduceCtorEq, Nat.reduceEqDiff, Nat.reduceAdd, Nat.reduceSub, Nat.reduceLeDiff]
  unfold lineN
  rfl
/-- The number of the last sample at or before a moment, or -1. -/
def holdGo (at_ : Int) : List Smp → Int → Int → Int
  | [], _, k => k
  | x :: t, i, k => holdGo at_ t (i + 1) (if x.a ≤ at_ then i else k)
def hold (l : List Smp) (at_ : Int) : Int := holdGo at_ l 0 (-1)
theorem drop_cons {α : Type} [Inhabited α] (l : List α) (i : Nat) (h : i < l.length) : l.drop i = l.getD i default :: l.drop (i + 1) := by
  rw [List.drop_eq_getElem_cons h]; simp [List.getD_eq_getElem?_getD, h]
def holdsSt (l : List Smp) (at_ : Int) (x : Int × Int) : AS := ⟨tabV [(1, iv at_), (5, iv x.2), (8, smps false l), (9, iv l.length), (10, iv x.1)], tabO [], tabO []⟩
/-- A series that nothing is wrong with. -/
structure Good (l : List Smp) : Prop where
  len : l.length ≤ 5000
  ok : ∀ i, i < l.length → okSmp (l.getD i default)
  bad : ∀ i, i < l.length → (l.getD i default).q = 2 → (l.getD i default).v = 0
  up : ∀ i j, i < j → j < l.length → (l.getD i default).a < (l.getD j default).a
theorem good_of {l : List Smp} (h : serFault l = 0) : Good l := by
  obtain ⟨h1, h2⟩ := serFault_ok h
  have h3 : ∀ i, i ≤ l.length → serGo (prv l i) (l.drop i) = 0 := by
    intro i
    induction i with
    | zero => intro _; simpa [prv] using h2
    | succ i ih =>
      intro hi
      have := ih (by omega)
      rw [serGo_step l i (by omega)] at this
      split at this
      · contradiction
      · split at this
        · omega
        · exact this
  have h4 : ∀ i, i < l.length → smpFault (l.getD i default) = 0 ∧ (0 < i → (l.getD (i - 1) default).a < (l.getD i default).a) := by
    intro i hi
    have := h3 i (by omega)
    rw [serGo_step l i hi] at this
    split at this
    · contradiction
    · rename_i h5
      split at this
      · omega
      · rename_i h6
        exact ⟨by omega, fun h7 => by
          have := fun h8 => h6 ⟨h7, h8⟩
          omega⟩
  refine ⟨h1, fun i hi => (okSmp_of (h4 i hi).1).1, fun i hi => (okSmp_of (h4 i hi).1).2, fun i j hij => ?_⟩
  induction j with
  | zero => omega
  | succ j ih =>
    intro hj
    have h5 := (h4 (j + 1) hj).2 (by omega)
    by_cases e : i = j
    · subst e; exact h5
    · have h6 := ih (by omega) (by omega)
      simp only [Nat.add_sub_cancel] at h5
      omega
theorem Good.le {l : List Smp} (h : Good l) (i j : Nat) (hij : i ≤ j) (hj : j < l.length) : (l.getD i default).a ≤ (l.getD j default).a := by
  by_cases e : i = j
  · subst e; omega
  · have := h.up i j (by omega) hj; omega
theorem last1_fc (x : Smp) (at_ : Int) (h : okSmp x) (ha : 0 ≤ at_ ∧ at_ ≤ 345686400000) : FC Try.prog 158 none [smpV x, iv at_] (fun _ r => r = iv (x.a - at_)) := by
  refine fc_last1 (by simp +arith) ?_
  unfold okSmp at h
  unfold C_last1
  simp (maxSteps := 1000000) (disch := omega) only [go_sem, eq_self, decide_true, decide_false, not_true_eq_false, not_false_eq_true, reduceIte, reduceCtorEq, Nat.reduceEqDiff, Nat.reduceAdd, Nat.reduceSub, Nat.reduceLeDiff]
theorem holdGo_spec (at_ : Int) : ∀ (l : List Smp) (i k : Int), (∀ x ∈ l, at_ < x.a) → holdGo at_ l i k = k
  | [], _, _, _ => rfl
  | x :: t, i, k, h => by
    have h1 := h x (by simp)
    rw [holdGo, if_neg (by omega)]
    exact holdGo_spec at_ t _ _ (fun y hy => h y (by simp [hy]))
theorem holdGo_last (at_ : Int) : ∀ (l : List Smp) (i k : Int) (n : Nat), n < l.length → (l.getD n default).a ≤ at_ → (∀ m, n < m → m < l.length → at_ < (l.getD m default).a) → holdGo at_ l i k = i + n
  | [], _, _, n, h, _, _ => by simp at h
  | x :: t, i, k, n, h, h1, h2 => by
    rw [holdGo]
    cases n with
    | zero =>
      rw [if_pos (by simpa using h1), holdGo_spec at_ t _ _ (fun y hy => ?_)]
      · simp
      · obtain ⟨m, hm, rfl⟩ := List.getElem_of_mem hy
        have := h2 (m + 1) (by omega) (by simp; omega)
        simpa [List.getD_eq_getElem?_getD, hm] using this
    | succ n =>
      rw [holdGo_last at_ t _ _ n (by simpa using h) (by simpa using h1) (fun m hm hm2 => by simpa using h2 (m + 1) (by omega) (by simp; omega))]
      omega
/-- The last sample's number, out of how many lie at or before the moment. -/
theorem hold_eq {l : List Smp} {at_ k : Int} (h0 : -1 ≤ k) (hk : k < l.length) (h1 : ∀ j : Nat, j ≤ k → j < l.length → (l.getD j default).a ≤ at_) (h2 : ∀ j : Nat, k < j → j < l.length → at_ < (l.getD j default).a) : hold l at_ = k := by
  unfold hold
  by_cases h : k = -1
  · subst h
    refine holdGo_spec at_ l 0 (-1) (fun x hx => ?_)
    obtain ⟨m, hm, rfl⟩ := List.getElem_of_mem hx
    have := h2 m (by omega) hm
    simpa [List.getD_eq_getElem?_getD, hm] using this
  · rw [holdGo_last at_ l 0 (-1) k.toNat (by omega) (h1 _ (by omega) (by omega)) (fun m hm hm2 => h2 m (by omega) hm2)]
    omega
/-- Where the first sample at or behind a moment stands. -/
def pos (l : List Smp) (at_ : Int) : Int := hold l (at_ - 1) + 1
theorem pos_eq {l : List Smp} {at_ k : Int} (h0 : 0 ≤ k) (hk : k ≤ l.length) (h1 : ∀ j : Nat, j < k → (l.getD j default).a < at_) (h2 : ∀ j : Nat, k ≤ j → j < l.length → at_ ≤ (l.getD j default).a) : k = pos l at_ := by
  have := hold_eq (l := l) (at_ := at_ - 1) (k := k - 1) (by omega) (by omega) (fun j hj hj2 => by have := h1 j (by omega); omega) (fun j hj hj2 => by have := h2 j (by omega) hj2; omega)
  unfold pos; omega
theorem hold_spec (l : List Smp) (at_ : Int) (hg : ∀ i j, i ≤ j → j < l.length → (l.getD i default).a ≤ (l.getD j default).a) : -1 ≤ hold l at_ ∧ hold l at_ < l.length ∧ (∀ j : Nat, j ≤ hold l at_ → j < l.length → (l.getD j default).a ≤ at_) ∧ (∀ j : Nat, hold l at_ < j → j < l.length → at_ < (l.getD j default).a) := by
  have key : ∀ n : Nat, n ≤ l.length → ∃ k : Int, -1 ≤ k ∧ k < n ∧ (∀ j : Nat, j ≤ k → j < n → (l.getD j default).a ≤ at_) ∧ (∀ j : Nat, k < j → j < n → at_ < (l.getD j default).a) := by
    intro n
    induction n with
    | zero => intro _; exact ⟨-1, by omega, by omega, fun j _ hj => by omega, fun j _ hj => by omega⟩
    | succ n ih =>
      intro hn
      obtain ⟨k, h1, h2, h3, h4⟩ := ih (by omega)
      by_cases hc : (l.getD n default).a ≤ at_
      · exact ⟨n, by omega, by omega, fun j hj hj2 => Int.le_trans (hg j n (by omega) (by omega)) hc, fun j hj hj2 => by omega⟩
      · refine ⟨k, h1, by omega, fun j hj hj2 => h3 j hj (by omega), fun j hj hj2 => ?_⟩
        by_cases e : j = n
        · subst e; omega
        · exact h4 j hj (by omega)
  obtain ⟨k, h1, h2, h3, h4⟩ := key l.length (Nat.le_refl _)
  have := hold_eq h1 h2 h3 h4
  rw [this]
  exact ⟨h1, h2, h3, h4⟩
def bsfSt (l : List Smp) (at_ : Int) (x : Int × Int) : AS := ⟨tabV [(0, smps false l), (1, iv at_), (2, .one (.fn 158 [])), (8, iv l.length), (9, iv x.1), (10, iv x.2)], tabO [], tabO []⟩
theorem bsf_fc (l : List Smp) (at_ : Int) (hg : Good l) (ha : 0 ≤ at_ ∧ at_ ≤ 345686400000) : FC Try.prog 157 none [smps false l, iv at_, .one (.fn 158 [])]
    (fun _ r => r = .tu [iv (pos l at_), bv (decide (pos l at_ < l.length ∧ (l.getD (pos l at_).toNat default).a = at_))]) := by
  have hl := hg.len
  refine fc_bsf (by simp +arith) ?_
  unfold C_bsf
  simp (maxSteps := 1000000) (disch := omega) only [go_sem, eq_self, decide_true, decide_false, not_true_eq_false, not_false_eq_true, reduceIte, reduceCtorEq, Nat.reduceEqDiff, Nat.reduceAdd, Nat.reduceSub, Nat.reduceLeDiff]
  refine ex_loopI (bsfSt l at_) (fun x => 0 ≤ x.1 ∧ x.1 ≤ x.2 ∧ x.2 ≤ l.length ∧ (∀ j : Nat, j < x.1 → (l.getD j default).a < at_) ∧ (∀ j : Nat, x.2 ≤ j → j < l.length → at_ ≤ (l.getD j default).a)) (fun x => (x.2 - x.1).toNat) (0, l.length) ⟨by simp, by simp, by simp, fun j hj => by simp at hj; omega, fun j hj hj2 => by simp at hj; omega⟩ rfl ?_
  rintro ⟨i, j⟩ ⟨g1, g2, g3, g4, g5⟩
  simp only at g1 g2 g3 g4 g5
  unfold bsfSt
  simp (maxSteps := 1000000) (disch := omega) only [go_sem, eq_self, decide_true, decide_false, not_true_eq_false, not_false_eq_true, reduceIte, reduceCtorEq, Nat.reduceEqDiff, Nat.reduceAdd, Nat.reduceSub, Nat.reduceLeDiff]
  have eh : IntKind.i64.wrap ((i + j).fdiv (2 ^ min (Int.toNat 1) 64)) = (i + j) / 2 := by
    have : (i + j).fdiv (2 ^ min (Int.toNat 1) 64) = (i + j) / 2 := Int.fdiv_eq_ediv_of_nonneg _ (by decide)
    rw [this, wrap_i64 _ (by omega) (by omega)]
  simp only [eh]
  refine ⟨fun hij => ?_, fun hij => ?_⟩
  · have hb : ((i + j) / 2).toNat < l.length := by omega
    have hok := hg.ok _ hb
    rw [getD_map_in smpC l ((i + j) / 2).toNat [] hb]
    simp (maxSteps := 1000000) (disch := omega) only [go_sem, eq_self, decide_true, decide_false, not_true_eq_false, not_false_eq_true, reduceIte, reduceCtorEq, Nat.reduceEqDiff, Nat.reduceAdd, Nat.reduceSub, Nat.reduceLeDiff]
    refine CALL_det (last1_fc _ _ hok ha) (.inl rfl) ?_
    simp (maxSteps := 1000000) (disch := omega) only [go_sem, eq_self, decide_true, decide_false, not_true_eq_false, not_false_eq_true, reduceIte, reduceCtorEq, Nat.reduceEqDiff, Nat.reduceAdd, Nat.reduceSub, Nat.reduceLeDiff]
    refine ⟨fun h => ⟨((i + j) / 2 + 1, j), ⟨by simp only; omega, by simp only; omega, g3, fun m hm => ?_, g5⟩, rfl, by simp only; omega⟩, fun h => ⟨(i, (i + j) / 2), ⟨g1, by simp only; omega, by simp only; omega, g4, fun m hm hm2 => ?_⟩, rfl, by simp only; omega⟩⟩
    · simp only at hm
      have := hg.le m ((i + j) / 2).toNat (by omega) hb
      omega
    · simp only at hm
      have := hg.le ((i + j) / 2).toNat m (by omega) hm2
      omega
  · have hij' : i = j := by omega
    subst hij'
    refine ⟨fun h => ?_, fun h => ?_⟩
    · have hok := hg.ok i.toNat (by omega)
      rw [getD_map_in smpC l i.toNat [] (by omega)]
      simp (maxSteps := 1000000) (disch := omega) only [go_sem, eq_self, decide_true, decide_false, not_true_eq_false, not_false_eq_true, reduceIte, reduceCtorEq, Nat.reduceEqDiff, Nat.reduceAdd, Nat.reduceSub, Nat.reduceLeDiff]
      refine CALL_det (last1_fc _ _ hok ha) (.inl rfl) ?_
      simp (maxSteps := 1000000) (disch := omega) only [go_sem, eq_self, decide_true, decide_false, not_true_eq_false, not_false_eq_true, reduceIte, reduceCtorEq, Nat.reduceEqDiff, Nat.reduceAdd, Nat.reduceSub, Nat.reduceLeDiff]
      rw [← pos_eq g1 g3 g4 g5]
      exact tu2_congr rfl (bv_dec (by omega))
    · rw [← pos_eq g1 g3 g4 g5]
      exact tu2_congr rfl (bv_f (by omega))
theorem pos_bd {l : List Smp} (hg : Good l) (at_ : Int) : 0 ≤ pos l at_ ∧ pos l at_ ≤ l.length := by
  obtain ⟨g1, g2, g3, g4⟩ := hold_spec l (at_ - 1) (fun i j h h' => hg.le i j h h')
  unfold pos; omega
theorem hold_pos {l : List Smp} (hg : Good l) (at_ : Int) : hold l at_ = if pos l at_ < l.length ∧ (l.getD (pos l at_).toNat default).a = at_ then pos l at_ else pos l at_ - 1 := by
  obtain ⟨h1, h2, h3, h4⟩ := hold_spec l at_ (fun i j h h' => hg.le i j h h')
  obtain ⟨g1, g2, g3, g4⟩ := hold_spec l (at_ - 1) (fun i j h h' => hg.le i j h h')
  have hp := pos_bd hg at_
  refine hold_eq (by unfold pos; split <;> omega) (by unfold pos; split <;> omega) (fun j hj hj2 => ?_) (fun j hj hj2 => ?_)
  · split at hj
    · rename_i h5
      have := hg.le j (pos l at_).toNat (by omega) (by omega); omega
    · unfold pos at hj; have := g3 j (by omega) hj2; omega
  · split at hj
    · rename_i h5
      have := hg.up (pos l at_).toNat j (by omega) hj2; omega
    · rename_i h5
      unfold pos at hj h5
      have := g4 j (by omega) hj2
      by_cases e : (j : Int) = hold l (at_ - 1) + 1
      · have e2 : (hold l (at_ - 1) + 1).toNat = j := by omega
        rw [e2] at h5; omega
      · have := hg.up (hold l (at_ - 1) + 1).toNat j (by omega) hj2
        have := g4 (hold l (at_ - 1) + 1).toNat (by omega) (by omega)
        omega
theorem last_fc (l : List Smp) (at_ : Int) (hg : Good l) (ha : 0 ≤ at_ ∧ at_ ≤ 345686400000) : FC Try.prog 113 none [smps false l, iv at_] (fun _ r => r = iv (hold l at_)) := by
  have hl := hg.len
  have hb := pos_bd hg at_
  refine fc_last (by simp +arith) ?_
  unfold C_last
  simp (maxSteps := 1000000) (disch := omega) only [go_sem, eq_self, decide_true, decide_false, not_true_eq_false, not_false_eq_true, reduceIte, reduceCtorEq, Nat.reduceEqDiff, Nat.reduceAdd, Nat.reduceSub, Nat.reduceLeDiff]
  refine CALL_det (bsf_fc l at_ hg ha) (.inl rfl) ?_
  simp (maxSteps := 1000000) (disch := omega) only [go_sem, eq_self, decide_true, decide_false, not_true_eq_false, not_false_eq_true, reduceIte, reduceCtorEq, Nat.reduceEqDiff, Nat.reduceAdd, Nat.reduceSub, Nat.reduceLeDiff]
  rw [hold_pos hg]
  exact ⟨fun h => iv_congr (by rw [if_pos h]), fun h => iv_congr (by rw [if_neg h])⟩
/-- A value at a moment: the moment, the fraction, the quality. -/
structure Pt where
  a : Int
  n : Int
  d : Int
  q : Int
  deriving Inhabited
def ptC (x : Pt) : List Cel := [.g (.int .i64 x.a), .g (.int .i64 x.n), .g (.int .i64 x.d), .g (.int .i64 x.q)]
theorem ptC_eq (x : Pt) : ptC x = [.g (.int .i64 x.a), .g (.int .i64 x.n), .g (.int .i64 x.d), .g (.int .i64 x.q)] := (rfl)
theorem frE_pt (l : List Pt) : frE (l.map ptC) = true := frE_map (fun _ => rfl) l
theorem datE_pt (l : List Pt) : datE (l.map ptC) = l.map ptC := datE_map (fun _ => rfl) l
theorem tofE_pt (l : List Pt) : tofE (l.map ptC) = l.map ptC := tofE_map (fun _ => rfl) l
attribute [go_sem] ptC_eq frE_pt datE_pt tofE_pt
abbrev ptV (x : Pt) : Val := .ag (ptC x)
def ptZ : Pt := ⟨0, 0, 0, 0⟩
theorem ptZ_a : ptZ.a = 0 := (rfl)
theorem ptZ_n : ptZ.n = 0 := (rfl)
theorem ptZ_d : ptZ.d = 0 := (rfl)
theorem ptZ_q : ptZ.q = 0 := (rfl)
attribute [go_sem] ptZ_a ptZ_n ptZ_d ptZ_q
def valSp (l : List Smp) (st : Bool) (at_ : Int) : Pt × Bool :=
  let k := hold l at_
  let p := l.getD k.toNat default
  let n := l.getD (k + 1).toNat default
  if k < 0 then (ptZ, false)
  else if p.q = 2 ∨ st = true ∨ p.a = at_ ∨ k + 1 = l.length ∨ n.q = 2 then (⟨at_, p.v, 1, p.q⟩, true)
  else (⟨at_, lowN (lineN p n at_) (n.a - p.a), lowD (lineN p n at_) (n.a - p.a), max p.q n.q⟩, true)
theorem valueAt_fc (l : List Smp) (st : Bool) (at_ : Int) (hg : Good l) (ha : 0 ≤ at_ ∧ at_ ≤ 345686400000) : FC Try.prog 112 none [smps false l, bv st, iv at_] (fun _ r => r = .tu [ptV (valSp l st at_).1, bv (valSp l st at_).2]) := by
  have hl := hg.len
  obtain ⟨h1, h2, h3, h4⟩ := hold_spec l at_ (fun i j h h' => hg.le i j h h')
  refine fc_valueAt (by simp +arith) ?_
  unfold C_valueAt
  simp (maxSteps := 1000000) (disch := omega) only [go_sem, eq_self, decide_true, decide_false, not_true_eq_false, not_false_eq_true, reduceIte, reduceCtorEq, Nat.reduceEqDiff, Nat.reduceAdd, Nat.reduceSub, Nat.reduceLeDiff]
  refine CALL_det (last_fc l at_ hg ha) (.inl rfl) ?_
  by_cases hk : hold l at_ < 0
  · simp (maxSteps := 1000000) (disch := omega) only [go_sem, eq_self, decide_true, decide_false, not_true_eq_false, not_false_eq_true, reduceIte, reduceCtorEq, Nat.reduceEqDiff, Nat.reduceAdd, Nat.reduceSub, Nat.reduceLeDiff]
    simp only [valSp, if_pos hk]; rfl
  · have hok := hg.ok (hold l at_).toNat (by omega)
    have hk1 : (hold l at_ + 1).toNat = (hold l at_).toNat + 1 := by omega
    have easy : (l.getD (hold l at_).toNat default).q = 2 ∨ st = true ∨ (l.getD (hold l at_).toNat default).a = at_ ∨ hold l at_ + 1 = l.length ∨ (l.getD (hold l at_ + 1).toNat default).q = 2 → valSp l st at_ = (⟨at_, (l.getD (hold l at_).toNat default).v, 1, (l.getD (hold l at_).toNat default).q⟩, true) := fun h => by
      simp only [valSp, if_neg hk, if_pos h]
    by_cases c1 : (l.getD (hold l at_).toNat default).q = 2
    · have hv : (l.getD (hold l at_).toNat default).v = 0 := hg.bad _ (by omega) c1
      rw [easy (.inl c1)]
      simp (maxSteps := 1000000) (disch := omega) only [go_sem, eq_self, decide_true, decide_false, not_true_eq_false, not_false_eq_true, reduceIte, reduceCtorEq, Nat.reduceEqDiff, Nat.reduceAdd, Nat.reduceSub, Nat.reduceLeDiff]
      simp only [hv, c1]; rfl
    · cases st with
      | true => rw [easy (.inr (.inl rfl))]; simp (maxSteps := 1000000) (disch := omega) only [go_sem, eq_self, decide_true, decide_false, not_true_eq_false, not_false_eq_true, reduceIte, reduceCtorEq, Nat.reduceEqDiff, Nat.reduceAdd, Nat.reduceSub, Nat.reduceLeDiff]; rfl
      | false =>
      by_cases c2 : (l.getD (hold l at_).toNat default).a = at_
      · rw [easy (.inr (.inr (.inl c2)))]; simp (maxSteps := 1000000) (disch := omega) only [go_sem, eq_self, decide_true, decide_false, not_true_eq_false, not_false_eq_true, reduceIte, reduceCtorEq, Nat.reduceEqDiff, Nat.reduceAdd, Nat.reduceSub, Nat.reduceLeDiff]; rfl
      by_cases c3 : hold l at_ + 1 = l.length
      · rw [easy (.inr (.inr (.inr (.inl c3))))]; simp (maxSteps := 1000000) (disch := omega) only [go_sem, eq_self, decide_true, decide_false, not_true_eq_false, not_false_eq_true, reduceIte, reduceCtorEq, Nat.reduceEqDiff, Nat.reduceAdd, Nat.reduceSub, Nat.reduceLeDiff]; rfl
      have hokn := hg.ok (hold l at_ + 1).toNat (by omega)
      have hup := hg.up (hold l at_).toNat (hold l at_ + 1).toNat (by omega) (by omega)
      by_cases c4 : (l.getD (hold l at_ + 1).toNat default).q = 2
      · rw [easy (.inr (.inr (.inr (.inr c4))))]; simp (maxSteps := 1000000) (disch := omega) only [go_sem, eq_self, decide_true, decide_false, not_true_eq_false, not_false_eq_true, reduceIte, reduceCtorEq, Nat.reduceEqDiff, Nat.reduceAdd, Nat.reduceSub, Nat.reduceLeDiff]; rfl
      have hb := lineN_bd hok hokn ha
      have hok' := hok
      have hokn' := hokn
      unfold okSmp at hok' hokn'
      have hard : valSp l false at_ = (⟨at_, lowN (lineN (l.getD (hold l at_).toNat default) (l.getD (hold l at_ + 1).toNat default) at_) ((l.getD (hold l at_ + 1).toNat default).a - (l.getD (hold l at_).toNat default).a), lowD (lineN (l.getD (hold l at_).toNat default) (l.getD (hold l at_ + 1).toNat default) at_) ((l.getD (hold l at_ + 1).toNat default).a - (l.getD (hold l at_).toNat default).a), max (l.getD (hold l at_).toNat default).q (l.getD (hold l at_ + 1).toNat default).q⟩, true) := by
        simp only [valSp, if_neg hk]
        rw [if_neg]
        simp only [not_or]; exact ⟨c1, by simp, c2, c3, c4⟩
      rw [hard]
      simp (maxSteps := 1000000) (disch := omega) only [go_sem, eq_self, decide_true, decide_false, not_true_eq_false, not_false_eq_true, reduceIte, reduceCtorEq, Nat.reduceEqDiff, Nat.reduceAdd, Nat.reduceSub, Nat.reduceLeDiff]
      refine CALL_det (fraction_fc _ _ (by omega) (by omega) (by omega)) (.inl rfl) ?_
      simp (maxSteps := 1000000) (disch := omega) only [go_sem, eq_self, decide_true, decide_false, not_true_eq_false, not_false_eq_true, reduceIte, reduceCtorEq, Nat.reduceEqDiff, Nat.reduceAdd, Nat.reduceSub, Nat.reduceLeDiff]
      rfl
end Go.Proofs.Ytggbcgldnjmobaa


/-
  Values at moments and at equal distances: the program's answers and the reference's are one; so the statement ValuesBetween holds.
-/
import Derived.Test.YtggbcgldnjmobaaVal
import Derived.Test.YtggbcgldnjmobaaGenB
namespace Go.Proofs.Ytggbcgldnjmobaa
open Go Go.Ai
set_option linter.unusedSimpArgs false
set_option linter.unusedVariables false
set_option maxHeartbeats 4000000
def A_bvalueAt : List Ann := [⟨(some ⟨[0,1,2,6], [6], []⟩), [], [], [], []⟩, ⟨(some ⟨[0,1,2,6,9], [6], []⟩), [], [], [], []⟩, ⟨(some ⟨[0,1,2,6,9,15], [6], []⟩), [], [], [], []⟩, ⟨(some ⟨[6,7,8], [6], []⟩), [], [], [], []⟩, ⟨(some ⟨[0,1,2,6,20], [6], []⟩), [], [], [], []⟩, ⟨(some ⟨[6,7,8], [6], []⟩), [], [], [], []⟩, ⟨(some ⟨[6,10,11], [6,10], []⟩), [], [], [], []⟩, ⟨(some ⟨[6,7,8], [6], []⟩), [], [], [], []⟩]
def C_bvalueAt : AC := (.seq (.reg false [⟨(some 6), none, .alloc [(.int .i64 (0)), (.int .i64 (0)), (.int .i64 (0)), (.int .i64 (0))]⟩, ⟨(some 7), none, .mv (.v (.bool false))⟩, ⟨(some 8), none, .mv (.v (.int .i64 (0)))⟩] (some ⟨[0,1,2,6], [6], []⟩))
  (.seq (.seq (.reg false [⟨(some 12), none, .mv (.t 0)⟩, ⟨(some 13), none, .call (.f 85) [(.t 12)]⟩, ⟨(some 9), none, .mv (.t 13)⟩] (some ⟨[0,1,2,6,9], [6], []⟩))
  (.seq (.reg false [⟨(some 14), none, .mv (.t 9)⟩, ⟨(some 15), none, .bin .neq (.t 14) (.v (.int .i64 (0)))⟩] (some ⟨[0,1,2,6,9,15], [6], []⟩))
  (.cond (.t 15)
  (.seq (.reg false [⟨(some 16), none, .build [(.int .i64 (0)), (.int .i64 (0)), (.int .i64 (0)), (.int .i64 (0))] []⟩, ⟨(some 17), none, .mv (.t 9)⟩, ⟨none, none, .store 4 (.t 6) (.t 16)⟩, ⟨(some 7), none, .mv (.v (.bool false))⟩, ⟨(some 8), none, .mv (.t 17)⟩] (some ⟨[6,7,8], [6], []⟩))
  .ret)
  .skip)))
  (.seq (.seq (.reg false [⟨(some 18), none, .mv (.t 2)⟩, ⟨(some 19), none, .call (.f 104) [(.t 18)]⟩, ⟨(some 20), none, .un .not (.t 19)⟩] (some ⟨[0,1,2,6,20], [6], []⟩))
  (.cond (.t 20)
  (.seq (.reg false [⟨(some 21), none, .build [(.int .i64 (0)), (.int .i64 (0)), (.int .i64 (0)), (.int .i64 (0))] []⟩, ⟨none, none, .store 4 (.t 6) (.t 21)⟩, ⟨(some 7), none, .mv (.v (.bool false))⟩, ⟨(some 8), none, .mv (.v (.int .i64 (1)))⟩] (some ⟨[6,7,8], [6], []⟩))
  .ret)
  .skip))
  (.seq (.reg false [⟨(some 23), none, .mv (.t 0)⟩, ⟨(some 24), none, .mv (.t 1)⟩, ⟨(some 25), none, .mv (.t 2)⟩, ⟨(some 26), none, .call (.f 112) [(.t 23), (.t 24), (.t 25)]⟩, ⟨(some 22), none, .mv (.t 26)⟩, ⟨(some 27), none, .extr (.t 22) 0⟩, ⟨(some 28), none, .extr (.t 22) 1⟩, ⟨(some 10), none, .alloc [(.int .i64 (0)), (.int .i64 (0)), (.int .i64 (0)), (.int .i64 (0))]⟩, ⟨none, none, .store 4 (.t 10) (.t 27)⟩, ⟨(some 11), none, .mv (.t 28)⟩] (some ⟨[6,10,11], [6,10], []⟩))
  (.seq (.reg false [⟨(some 29), none, .load true 4 (.t 10)⟩, ⟨(some 30), none, .mv (.t 11)⟩, ⟨none, none, .store 4 (.t 6) (.t 29)⟩, ⟨(some 7), none, .mv (.t 30)⟩, ⟨(some 8), none, .mv (.v (.int .i64 (0)))⟩] (some ⟨[6,7,8], [6], []⟩))
  .ret)))))
theorem c_bvalueAt : compileCode Try.prog Try.f132.ntmps (Try.f132.body.getD .skip) A_bvalueAt = some (C_bvalueAt, []) := by kernel_rfl
theorem r_bvalueAt : compileRes Try.prog Try.f132.results.toList = some [.cell 6 true 4, .t 7, .t 8] := by kernel_rfl
theorem b_bvalueAt : Try.f132.body = some (Try.f132.body.getD .skip) := by kernel_rfl
theorem n_bvalueAt : (Try.f132.name == "runtime.NumGoroutine") = false := by kernel_rfl
theorem fc_bvalueAt {xt : Option (List Cel)} {args : List Val} {R : List Cel → Val → Prop} (hn : (if xt.isSome then 1 else 0) + args.length ≤ Try.f132.ntmps) (h : ex Try.prog C_bvalueAt [] (fpost xt [.cell 6 true 4, .t 7, .t 8] R) (initSt xt args)) : FC Try.prog 132 xt args R :=
  fc_of_awp Try.func132 b_bvalueAt n_bvalueAt c_bvalueAt r_bvalueAt (of_decide_eq_true (by kernel_rfl)) hn h

def A_points : List Ann := [⟨(some ⟨[0,1,3,6], [6], []⟩), [], [], [], []⟩, ⟨(some ⟨[0,1,3,6,10], [6], []⟩), [], [], [], []⟩, ⟨(some ⟨[0,1,3,6,10,20], [6], []⟩), [], [], [], []⟩, ⟨(some ⟨[8,9], [], []⟩), [], [], [(8, 4)], []⟩, ⟨(some ⟨[0,1,3,6,11], [6], []⟩), [], [], [], []⟩, ⟨(some ⟨[0,1,3,6,11,26], [6], []⟩), [], [], [], []⟩, ⟨(some ⟨[8,9], [], []⟩), [], [], [(8, 4)], []⟩, ⟨(some ⟨[0,1,3,6,12], [6], []⟩), [(12, 92, 4)], [], [], []⟩, ⟨(some ⟨[0,1,3,6,12,13], [6], [12]⟩), [], [], [], []⟩, ⟨(some ⟨[0,1,3,6,12,13,33], [6], [12]⟩), [], [], [], []⟩, ⟨(some ⟨[0,1,3,6,12,13,14,15], [6,14], [12]⟩), [], [], [], []⟩, ⟨(some ⟨[0,1,3,6,12,13,14,44], [6,14], [12]⟩), [], [], [], []⟩, ⟨(some ⟨[0,1,3,6,12,13], [6], [12]⟩), [], [], [], []⟩, ⟨(some ⟨[0,1,3,6,12,13], [6], [12]⟩), [], [], [], []⟩, ⟨(some ⟨[8,9], [], []⟩), [], [], [], []⟩]
def C_points : AC := (.seq (.reg false [⟨(some 6), none, .box (.t 2)⟩, ⟨(some 8), none, .mv (.v (.slice none 0 0))⟩, ⟨(some 9), none, .mv (.v (.int .i64 (0)))⟩] (some ⟨[0,1,3,6], [6], []⟩))
  (.seq (.seq (.reg false [⟨(some 16), none, .mv (.t 0)⟩, ⟨(some 17), none, .load true 2 (.t 6)⟩, ⟨(some 18), none, .call (.f 110) [(.t 16), (.t 17)]⟩, ⟨(some 10), none, .mv (.t 18)⟩] (some ⟨[0,1,3,6,10], [6], []⟩))
  (.seq (.reg false [⟨(some 19), none, .mv (.t 10)⟩, ⟨(some 20), none, .bin .neq (.t 19) (.v (.int .i64 (0)))⟩] (some ⟨[0,1,3,6,10,20], [6], []⟩))
  (.cond (.t 20)
  (.seq (.seq (.reg false [⟨(some 21), none, .mv (.t 10)⟩, ⟨(some 8), none, .mv (.v (.slice none 0 0))⟩, ⟨(some 9), none, .mv (.t 21)⟩] (some ⟨[8,9], [], []⟩))
  (.ty 8 4))
  .ret)
  .skip)))
  (.seq (.seq (.reg false [⟨(some 22), none, .load true 2 (.t 6)⟩, ⟨(some 23), none, .mv (.t 3)⟩, ⟨(some 24), none, .call (.f 111) [(.t 22), (.t 23)]⟩, ⟨(some 11), none, .mv (.t 24)⟩] (some ⟨[0,1,3,6,11], [6], []⟩))
  (.seq (.reg false [⟨(some 25), none, .mv (.t 11)⟩, ⟨(some 26), none, .bin .neq (.t 25) (.v (.int .i64 (0)))⟩] (some ⟨[0,1,3,6,11,26], [6], []⟩))
  (.cond (.t 26)
  (.seq (.seq (.reg false [⟨(some 27), none, .mv (.t 11)⟩, ⟨(some 8), none, .mv (.v (.slice none 0 0))⟩, ⟨(some 9), none, .mv (.t 27)⟩] (some ⟨[8,9], [], []⟩))
  (.ty 8 4))
  .ret)
  .skip)))
  (.seq (.seq (.reg false [⟨(some 12), none, .mv (.v (.slice none 0 0))⟩] (some ⟨[0,1,3,6,12], [6], []⟩))
  (.own 12 92 4))
  (.seq (.seq (.reg false [⟨(some 28), none, .fadr 0 (.t 6)⟩, ⟨(some 29), none, .load false 1 (.t 28)⟩, ⟨(some 13), none, .mv (.t 29)⟩] (some ⟨[0,1,3,6,12,13], [6], [12]⟩))
  (.block 0 (.loop (.seq (.seq (.reg false [⟨(some 30), none, .mv (.t 13)⟩, ⟨(some 31), none, .fadr 1 (.t 6)⟩, ⟨(some 32), none, .load false 1 (.t 31)⟩, ⟨(some 33), none, .bin .lss (.t 30) (.t 32)⟩] (some ⟨[0,1,3,6,12,13,33], [6], [12]⟩))
  (.cond (.t 33)
  .skip
  (.exit 0)))
  (.seq (.block 1 (.seq (.reg false [⟨(some 38), none, .mv (.t 0)⟩, ⟨(some 39), none, .mv (.t 1)⟩, ⟨(some 40), none, .mv (.t 13)⟩, ⟨(some 41), none, .call (.f 112) [(.t 38), (.t 39), (.t 40)]⟩, ⟨(some 37), none, .mv (.t 41)⟩, ⟨(some 42), none, .extr (.t 37) 0⟩, ⟨(some 43), none, .extr (.t 37) 1⟩, ⟨(some 14), none, .alloc [(.int .i64 (0)), (.int .i64 (0)), (.int .i64 (0)), (.int .i64 (0))]⟩, ⟨none, none, .store 4 (.t 14) (.t 42)⟩, ⟨(some 15), none, .mv (.t 43)⟩] (some ⟨[0,1,3,6,12,13,14,15], [6,14], [12]⟩))
  (.seq (.reg false [⟨(some 44), none, .mv (.t 15)⟩] (some ⟨[0,1,3,6,12,13,14,44], [6,14], [12]⟩))
  (.cond (.t 44)
  (.reg false [⟨(some 45), none, .mv (.t 12)⟩, ⟨(some 46), none, .load true 4 (.t 14)⟩, ⟨(some 47), none, .bslice 4 1 [(.t 46)]⟩, ⟨(some 48), none, .append 92 4 32 (.t 45) (.t 47)⟩, ⟨(some 12), none, .mv (.t 48)⟩] (some ⟨[0,1,3,6,12,13], [6], [12]⟩))
  .skip))))
  (.reg false [⟨(some 34), none, .mv (.t 13)⟩, ⟨(some 35), none, .mv (.t 3)⟩, ⟨(some 36), none, .bin .add (.t 34) (.t 35)⟩, ⟨(some 13), none, .mv (.t 36)⟩] (some ⟨[0,1,3,6,12,13], [6], [12]⟩)))))))
  (.seq (.reg false [⟨(some 49), none, .mv (.t 12)⟩, ⟨(some 8), none, .mv (.t 49)⟩, ⟨(some 9), none, .mv (.v (.int .i64 (0)))⟩] (some ⟨[8,9], [], []⟩))
  .ret))))))
theorem c_points : compileCode Try.prog Try.f53.ntmps (Try.f53.body.getD .skip) A_points = some (C_points, []) := by kernel_rfl
theorem r_points : compileRes Try.prog Try.f53.results.toList = some [.t 8, .t 9] := by kernel_rfl
theorem b_points : Try.f53.body = some (Try.f53.body.getD .skip) := by kernel_rfl
theorem n_points : (Try.f53.name == "runtime.NumGoroutine") = false := by kernel_rfl
theorem fc_points {xt : Option (List Cel)} {args : List Val} {R : List Cel → Val → Prop} (hn : (if xt.isSome then 1 else 0) + args.length ≤ Try.f53.ntmps) (h : ex Try.prog C_points [] (fpost xt [.t 8, .t 9] R) (initSt xt args)) : FC Try.prog 53 xt args R :=
  fc_of_awp Try.func53 b_points n_points c_points r_points (of_decide_eq_true (by kernel_rfl)) hn h

def A_queried : List Ann := [⟨(some ⟨[], [], []⟩), [], [], [], []⟩, ⟨(some ⟨[1,2,3], [1], []⟩), [], [], [], []⟩, ⟨(some ⟨[0], [], []⟩), [], [], [], []⟩]
def C_queried : AC := (.seq (.reg false [⟨(some 0), none, .mv (.v (.bool false))⟩] (some ⟨[], [], []⟩))
  (.seq (.reg false [⟨(some 5), none, .build [(.int .i64 (0)), (.int .i64 (0)), (.int .i64 (0))] [(0, 1, (.v (.int .i64 (0)))), (1, 1, (.v (.int .i64 (0))))]⟩, ⟨(some 6), none, .build [(.int .i64 (0)), (.int .i64 (0)), (.int .i64 (0))] [(0, 1, (.v (.int .i64 (4)))), (1, 1, (.v (.int .i64 (2))))]⟩, ⟨(some 7), none, .bslice 3 2 [(.t 5), (.t 6)]⟩, ⟨(some 8), none, .call (.f 132) [(.t 7), (.v (.bool false)), (.v (.int .i64 (1)))]⟩, ⟨(some 4), none, .mv (.t 8)⟩, ⟨(some 9), none, .extr (.t 4) 0⟩, ⟨(some 10), none, .extr (.t 4) 1⟩, ⟨(some 11), none, .extr (.t 4) 2⟩, ⟨(some 1), none, .alloc [(.int .i64 (0)), (.int .i64 (0)), (.int .i64 (0)), (.int .i64 (0))]⟩, ⟨none, none, .store 4 (.t 1) (.t 9)⟩, ⟨(some 2), none, .mv (.t 10)⟩, ⟨(some 3), none, .mv (.t 11)⟩] (some ⟨[1,2,3], [1], []⟩))
  (.seq (.reg false [⟨(some 12), none, .mv (.t 3)⟩, ⟨(some 13), none, .bin .eql (.t 12) (.v (.int .i64 (0)))⟩, ⟨(some 14), none, .mv (.t 13)⟩, ⟨(some 15), (some (14, true)), .mv (.t 2)⟩, ⟨(some 16), none, .pick (.t 14) (.t 15) (.v (.bool false))⟩, ⟨(some 17), none, .mv (.t 16)⟩, ⟨(some 18), (some (17, true)), .load true 4 (.t 1)⟩, ⟨(some 19), (some (17, true)), .build [(.int .i64 (0)), (.int .i64 (0))] [(0, 1, (.v (.int .i64 (1)))), (1, 1, (.v (.int .i64 (2))))]⟩, ⟨(some 20), (some (17, true)), .build [(.int .i64 (0)), (.int .i64 (0)), (.int .i64 (0)), (.int .i64 (0))] [(0, 1, (.v (.int .i64 (1)))), (1, 2, (.t 19))]⟩, ⟨(some 21), (some (17, true)), .eqs false true [.i .i64, .i .i64, .i .i64, .i .i64] (.t 18) (.t 20)⟩, ⟨(some 22), none, .pick (.t 17) (.t 21) (.v (.bool false))⟩, ⟨(some 0), none, .mv (.t 22)⟩] (some ⟨[0], [], []⟩))
  .ret)))
theorem c_queried : compileCode Try.prog Try.f69.ntmps (Try.f69.body.getD .skip) A_queried = some (C_queried, []) := by kernel_rfl
theorem r_queried : compileRes Try.prog Try.f69.results.toList = some [.t 0] := by kernel_rfl
theorem b_queried : Try.f69.body = some (Try.f69.body.getD .skip) := by kernel_rfl
theorem n_queried : (Try.f69.name == "runtime.NumGoroutine") = false := by kernel_rfl
theorem fc_queried {xt : Option (List Cel)} {args : List Val} {R : List Cel → Val → Prop} (hn : (if xt.isSome then 1 else 0) + args.length ≤ Try.f69.ntmps) (h : ex Try.prog C_queried [] (fpost xt [.t 0] R) (initSt xt args)) : FC Try.prog 69 xt args R :=
  fc_of_awp Try.func69 b_queried n_queried c_queried r_queried (of_decide_eq_true (by kernel_rfl)) hn h

def A_orE : List Ann := [⟨(some ⟨[0], [], []⟩), [], [], [], []⟩, ⟨(some ⟨[0,3], [], []⟩), [], [], [], []⟩, ⟨(some ⟨[3,6,7,8], [], []⟩), [], [], [], []⟩, ⟨(some ⟨[3,6,7,8,9], [], []⟩), [], [], [], []⟩, ⟨(some ⟨[3,5,6,7,8], [], []⟩), [], [], [], []⟩, ⟨(some ⟨[3,5,6,7,8,14], [], []⟩), [], [], [], []⟩, ⟨(some ⟨[2], [], []⟩), [], [], [], []⟩, ⟨(some ⟨[3,6,7,8], [], []⟩), [], [], [], []⟩, ⟨(some ⟨[2], [], []⟩), [], [], [], []⟩]
def C_orE : AC := (.seq (.reg false [⟨(some 2), none, .mv (.v (.int .i64 (0)))⟩] (some ⟨[0], [], []⟩))
  (.seq (.reg false [⟨(some 3), none, .mv (.v (.int .i64 (0)))⟩] (some ⟨[0,3], [], []⟩))
  (.seq (.seq (.reg false [⟨(some 6), none, .mv (.t 0)⟩, ⟨(some 7), none, .len (.t 6)⟩, ⟨(some 8), none, .mv (.v (.int .i64 (0)))⟩] (some ⟨[3,6,7,8], [], []⟩))
  (.block 0 (.loop (.seq (.reg false [⟨(some 9), none, .bin .lss (.t 8) (.t 7)⟩] (some ⟨[3,6,7,8,9], [], []⟩))
  (.seq (.cond (.t 9)
  .skip
  (.exit 0))
  (.seq (.block 1 (.seq (.reg false [⟨(some 10), none, .iadr 1 (.t 6) (.t 8)⟩, ⟨(some 11), none, .load false 1 (.t 10)⟩, ⟨(some 5), none, .mv (.t 11)⟩] (some ⟨[3,5,6,7,8], [], []⟩))
  (.seq (.reg false [⟨(some 12), none, .mv (.t 5)⟩, ⟨(some 13), none, .mv (.t 3)⟩, ⟨(some 14), none, .bin .neq (.t 12) (.t 13)⟩] (some ⟨[3,5,6,7,8,14], [], []⟩))
  (.cond (.t 14)
  (.seq (.reg false [⟨(some 15), none, .mv (.t 5)⟩, ⟨(some 2), none, .mv (.t 15)⟩] (some ⟨[2], [], []⟩))
  .ret)
  .skip))))
  (.reg false [⟨(some 16), none, .bin .add (.t 8) (.v (.int .i64 (1)))⟩, ⟨(some 8), none, .mv (.t 16)⟩] (some ⟨[3,6,7,8], [], []⟩))))))))
  (.seq (.reg false [⟨(some 17), none, .mv (.t 3)⟩, ⟨(some 2), none, .mv (.t 17)⟩] (some ⟨[2], [], []⟩))
  .ret))))
theorem c_orE : compileCode Try.prog Try.f27.ntmps (Try.f27.body.getD .skip) A_orE = some (C_orE, []) := by kernel_rfl
theorem r_orE : compileRes Try.prog Try.f27.results.toList = some [.t 2] := by kernel_rfl
theorem b_orE : Try.f27.body = some (Try.f27.body.getD .skip) := by kernel_rfl
theorem n_orE : (Try.f27.name == "runtime.NumGoroutine") = false := by kernel_rfl
theorem fc_orE {xt : Option (List Cel)} {args : List Val} {R : List Cel → Val → Prop} (hn : (if xt.isSome then 1 else 0) + args.length ≤ Try.f27.ntmps) (h : ex Try.prog C_orE [] (fpost xt [.t 2] R) (initSt xt args)) : FC Try.prog 27 xt args R :=
  fc_of_awp Try.func27 b_orE n_orE c_orE r_orE (of_decide_eq_true (by kernel_rfl)) hn h



def vaSp (l : List Smp) (st : Bool) (at_ : Int) : Pt × Bool × Int :=
  if serFault l ≠ 0 then (ptZ, false, serFault l) else if momFault at_ ≠ 0 then (ptZ, false, 1) else ((valSp l st at_).1, (valSp l st at_).2, 0)
theorem momFault_ok {n : Int} (h : momFault n = 0) : 0 ≤ n ∧ n ≤ 345686399999 := by
  unfold momFault at h; split at h <;> omega
theorem momFault_01 (n : Int) : momFault n = 0 ∨ momFault n = 1 := by
  unfold momFault; split <;> omega
theorem bvalueAt_fc (l : List Smp) (hl : l.length ≤ 4611686018427387904) (st : Bool) (at_ : Int) : FC Try.prog 132 none [smps false l, bv st, iv at_] (fun _ r => r = .tu [ptV (vaSp l st at_).1, bv (vaSp l st at_).2.1, iv (vaSp l st at_).2.2]) := by
  refine fc_bvalueAt (by simp +arith) ?_
  unfold C_bvalueAt
  simp (maxSteps := 1000000) (disch := omega) only [go_sem, eq_self, decide_true, decide_false, not_true_eq_false, not_false_eq_true, reduceIte, reduceCtorEq, Nat.reduceEqDiff, Nat.reduceAdd, Nat.reduceSub, Nat.reduceLeDiff]
  refine CALL_det (checkSeries_fc l hl) (.inl rfl) ?_
  by_cases h1 : serFault l = 0
  · simp (maxSteps := 1000000) (disch := omega) only [go_sem, eq_self, decide_true, decide_false, not_true_eq_false, not_false_eq_true, reduceIte, reduceCtorEq, Nat.reduceEqDiff, Nat.reduceAdd, Nat.reduceSub, Nat.reduceLeDiff]
    refine CALL_det (moment_fc at_) (.inl rfl) ?_
    have hg := good_of h1
    by_cases h2 : momFault at_ = 0
    · have h3 := momFault_ok h2
      simp (maxSteps := 1000000) (disch := omega) only [go_sem, eq_self, decide_true, decide_false, not_true_eq_false, not_false_eq_true, reduceIte, reduceCtorEq, Nat.reduceEqDiff, Nat.reduceAdd, Nat.reduceSub, Nat.reduceLeDiff]
      refine CALL_det (valueAt_fc l st at_ hg ⟨h3.1, by omega⟩) (.inl rfl) ?_
      simp (maxSteps := 1000000) (disch := omega) only [go_sem, eq_self, decide_true, decide_false, not_true_eq_false, not_false_eq_true, reduceIte, reduceCtorEq, Nat.reduceEqDiff, Nat.reduceAdd, Nat.reduceSub, Nat.reduceLeDiff]
      simp only [vaSp, h1, h2]; rfl
    · have h3 : ¬(0 ≤ at_ ∧ at_ ≤ 345686399999) := fun h => h2 (by unfold momFault; rw [if_pos h])
      simp (maxSteps := 1000000) (disch := omega) only [go_sem, eq_self, decide_true, decide_false, not_true_eq_false, not_false_eq_true, reduceIte, reduceCtorEq, Nat.reduceEqDiff, Nat.reduceAdd, Nat.reduceSub, Nat.reduceLeDiff]
      have e : vaSp l st at_ = (ptZ, false, 1) := by simp [vaSp, h1, h2]
      rw [e]; rfl
  · simp (maxSteps := 1000000) (disch := omega) only [go_sem, eq_self, decide_true, decide_false, not_true_eq_false, not_false_eq_true, reduceIte, reduceCtorEq, Nat.reduceEqDiff, Nat.reduceAdd, Nat.reduceSub, Nat.reduceLeDiff]
    have e : vaSp l st at_ = (ptZ, false, serFault l) := by simp [vaSp, h1]
    rw [e]; rfl
def ptsGo (l : List Smp) (st : Bool) (ev to : Int) : Nat → Int → List Pt
  | 0, _ => []
  | n + 1, a => if a < to then (if (valSp l st a).2 then [(valSp l st a).1] else []) ++ ptsGo l st ev to n (a + ev) else []
theorem ptsGo_fuel (l : List Smp) (st : Bool) (ev to : Int) (he : 1 ≤ ev) : ∀ (n m : Nat) (a : Int), (to - a).toNat ≤ n → (to - a).toNat ≤ m → ptsGo l st ev to n a = ptsGo l st ev to m a
  | 0, 0, _, _, _ => rfl
  | 0, m + 1, a, h, _ => by rw [ptsGo, ptsGo, if_neg (by omega)]
  | n + 1, 0, a, _, h => by rw [ptsGo, ptsGo, if_neg (by omega)]
  | n + 1, m + 1, a, h, h' => by
    rw [ptsGo, ptsGo]
    by_cases ha : a < to
    · rw [if_pos ha, if_pos ha, ptsGo_fuel l st ev to he n m (a + ev) (by omega) (by omega)]
    · rw [if_neg ha, if_neg ha]
/-- The values at a window's equal distances. -/
def pts (l : List Smp) (st : Bool) (f t ev : Int) : List Pt := ptsGo l st ev t (t - f).toNat f
theorem pts_step (l : List Smp) (st : Bool) (ev to a : Int) (he : 1 ≤ ev) (h : a < to) : pts l st a to ev = (if (valSp l st a).2 then [(valSp l st a).1] else []) ++ pts l st (a + ev) to ev := by
  unfold pts
  obtain ⟨n, hn⟩ : ∃ n, (to - a).toNat = n + 1 := ⟨(to - a).toNat - 1, by omega⟩
  rw [hn, ptsGo, if_pos h]
  congr 1
  exact ptsGo_fuel l st ev to he _ _ _ (by omega) (by omega)
theorem pts_end (l : List Smp) (st : Bool) (ev to a : Int) (h : ¬ a < to) : pts l st a to ev = [] := by
  unfold pts
  have : (to - a).toNat = 0 := by omega
  rw [this, ptsGo]
abbrev ptsV (fr : Bool) (l : List Pt) : Val := .one (.sl fr 4 (l.map ptC))
def ptsFault (l : List Smp) (f t ev : Int) : Int := if bothFault l f t ≠ 0 then bothFault l f t else evFault f t ev
def pntSt (l : List Smp) (st : Bool) (f t ev : Int) (x : Int × List Pt) : AS := ⟨tabV [(0, smps false l), (1, bv st), (3, iv ev), (6, .one (.bx 6 0)), (12, .one (.ow 12 0)), (13, iv x.1)], tabO [(6, [.g (.int .i64 f), .g (.int .i64 t)])], tabO [(12, ⟨0, 92, 4, x.2.map ptC⟩)]⟩
theorem bothFault_ok {l : List Smp} {f t : Int} (h : bothFault l f t = 0) : serFault l = 0 ∧ winFault f t = 0 := by
  unfold bothFault at h; split at h <;> omega
theorem winFault_ok {f t : Int} (h : winFault f t = 0) : 0 ≤ f ∧ f ≤ t ∧ t ≤ 345686400000 := by
  unfold winFault at h; split at h <;> omega
theorem evFault_ok {f t e : Int} (h : evFault f t e = 0) : 1 ≤ e ∧ e ≤ 86400000 := by
  unfold evFault at h; split at h <;> omega
theorem points_fc (l : List Smp) (hl : l.length ≤ 4611686018427387904) (st : Bool) (f t ev : Int) : FC Try.prog 53 none [smps false l, bv st, winV f t, iv ev] (fun _ r => r = .tu [ptsV true (if ptsFault l f t ev = 0 then pts l st f t ev else []), iv (ptsFault l f t ev)]) := by
  refine fc_points (by simp +arith) ?_
  unfold C_points
  simp (maxSteps := 1000000) (disch := omega) only [go_sem, eq_self, decide_true, decide_false, not_true_eq_false, not_false_eq_true, reduceIte, reduceCtorEq, Nat.reduceEqDiff, Nat.reduceAdd, Nat.reduceSub, Nat.reduceLeDiff]
  refine CALL_det (fault_fc l hl f t) (.inl rfl) ?_
  by_cases h1 : bothFault l f t = 0
  · simp (maxSteps := 1000000) (disch := omega) only [go_sem, eq_self, decide_true, decide_false, not_true_eq_false, not_false_eq_true, reduceIte, reduceCtorEq, Nat.reduceEqDiff, Nat.reduceAdd, Nat.reduceSub, Nat.reduceLeDiff]
    obtain ⟨h2, h3⟩ := bothFault_ok h1
    have hg := good_of h2
    have hw := winFault_ok h3
    refine CALL_det (everyFault_fc f t ev h3) (.inl rfl) ?_
    by_cases h4 : evFault f t ev = 0
    · have he := evFault_ok h4
      have h5 : ptsFault l f t ev = 0 := by unfold ptsFault; rw [if_neg (by omega), h4]
      rw [h5, if_pos rfl]
      simp (maxSteps := 1000000) (disch := omega) only [go_sem, eq_self, decide_true, decide_false, not_true_eq_false, not_false_eq_true, reduceIte, reduceCtorEq, Nat.reduceEqDiff, Nat.reduceAdd, Nat.reduceSub, Nat.reduceLeDiff]
      refine ex_loopI (pntSt l st f t ev) (fun x => f ≤ x.1 ∧ x.1 ≤ t + ev ∧ x.2.length ≤ x.1 - f ∧ x.2 ++ pts l st x.1 t ev = pts l st f t ev) (fun x => (t - x.1).toNat) (f, []) ⟨by simp, by simp only; omega, by simp, by simp⟩ rfl ?_
      rintro ⟨a, acc⟩ ⟨g1, g2, g3, g4⟩
      simp only at g1 g2 g3 g4
      unfold pntSt
      by_cases ha : a < t
      · rw [pts_step l st ev t a (by omega) ha] at g4
        simp (maxSteps := 1000000) (disch := omega) only [go_sem, eq_self, decide_true, decide_false, not_true_eq_false, not_false_eq_true, reduceIte, reduceCtorEq, Nat.reduceEqDiff, Nat.reduceAdd, Nat.reduceSub, Nat.reduceLeDiff]
        refine CALL_det (valueAt_fc l st a hg ⟨by omega, by omega⟩) (.inl rfl) ?_
        cases hb : (valSp l st a).2 with
        | true =>
          simp (maxSteps := 1000000) (disch := omega) only [go_sem, eq_self, decide_true, decide_false, not_true_eq_false, not_false_eq_true, reduceIte, reduceCtorEq, Nat.reduceEqDiff, Nat.reduceAdd, Nat.reduceSub, Nat.reduceLeDiff]
          rw [hb] at g4
          refine ⟨(a + ev, acc ++ [(valSp l st a).1]), ⟨by simp only; omega, by simp only; omega, by simp; omega, by simpa using g4⟩, by simp [pntSt, ptC], by simp only; omega⟩
        | false =>
          simp (maxSteps := 1000000) (disch := omega) only [go_sem, eq_self, decide_true, decide_false, not_true_eq_false, not_false_eq_true, reduceIte, reduceCtorEq, Nat.reduceEqDiff, Nat.reduceAdd, Nat.reduceSub, Nat.reduceLeDiff]
          rw [hb] at g4
          exact ⟨(a + ev, acc), ⟨by simp only; omega, by simp only; omega, by simp only; omega, by simpa using g4⟩, rfl, by simp only; omega⟩
      · simp (maxSteps := 1000000) (disch := omega) only [go_sem, eq_self, decide_true, decide_false, not_true_eq_false, not_false_eq_true, reduceIte, reduceCtorEq, Nat.reduceEqDiff, Nat.reduceAdd, Nat.reduceSub, Nat.reduceLeDiff]
        rw [pts_end l st ev t a ha, List.append_nil] at g4
        rw [g4]
    · have h5 : ptsFault l f t ev = evFault f t ev := by unfold ptsFault; rw [if_neg (by omega)]
      simp (maxSteps := 1000000) (disch := omega) only [go_sem, eq_self, decide_true, decide_false, not_true_eq_false, not_false_eq_true, reduceIte, reduceCtorEq, Nat.reduceEqDiff, Nat.reduceAdd, Nat.reduceSub, Nat.reduceLeDiff]
      rw [h5, if_neg h4]; rfl
  · simp (maxSteps := 1000000) (disch := omega) only [go_sem, eq_self, decide_true, decide_false, not_true_eq_false, not_false_eq_true, reduceIte, reduceCtorEq, Nat.reduceEqDiff, Nat.reduceAdd, Nat.reduceSub, Nat.reduceLeDiff]
    have h5 : ptsFault l f t ev = bothFault l f t := by unfold ptsFault; rw [if_pos h1]
    rw [h5, if_neg h1]; rfl
def pntOfSt (l : List Smp) (st : Bool) (f t ev : Int) (x : Int × List Pt) : AS := ⟨tabV [(0, smps false l), (1, bv st), (3, iv ev), (6, .one (.bx 6 0)), (9, .one (.ow 9 0)), (10, iv x.1)], tabO [(6, [.g (.int .i64 f), .g (.int .i64 t)])], tabO [(9, ⟨0, 92, 4, x.2.map ptC⟩)]⟩
theorem queried_fc : FC Try.prog 69 none [] (fun _ r => r = bv true) := by
  refine fc_queried (by simp +arith) ?_
  unfold C_queried
  simp (maxSteps := 1000000) (disch := omega) only [go_sem, eq_self, decide_true, decide_false, not_true_eq_false, not_false_eq_true, reduceIte, reduceCtorEq, Nat.reduceEqDiff, Nat.reduceAdd, Nat.reduceSub, Nat.reduceLeDiff]
  refine CALL_det (bvalueAt_fc [⟨0, 0, 0⟩, ⟨4, 2, 0⟩] (by simp) false 1) (.inl rfl) ?_
  have e : vaSp [⟨0, 0, 0⟩, ⟨4, 2, 0⟩] false 1 = (⟨1, 1, 2, 0⟩, true, 0) := by kernel_rfl
  rw [e]
  simp (maxSteps := 1000000) (disch := omega) only [go_sem, eq_self, decide_true, decide_false, not_true_eq_false, not_false_eq_true, reduceIte, reduceCtorEq, Nat.reduceEqDiff, Nat.reduceAdd, Nat.reduceSub, Nat.reduceLeDiff]
def orSp : List Int → Int
  | [] => 0
  | x :: l => if x ≠ 0 then x else orSp l
def orSt (fr : Bool) (l : List Int) (i : Int) : AS := ⟨tabV [(3, iv 0), (6, ints fr l), (7, iv l.length), (8, iv i)], tabO [], tabO []⟩
theorem orE_fc (fr : Bool) (l : List Int) (hl : l.length ≤ 4611686018427387904) : FC Try.prog 27 none [ints fr l] (fun _ r => r = iv (orSp l)) := by
  refine fc_orE (by simp +arith) ?_
  unfold C_orE
  simp (maxSteps := 1000000) (disch := omega) only [go_sem, eq_self, decide_true, decide_false, not_true_eq_false, not_false_eq_true, reduceIte, reduceCtorEq, Nat.reduceEqDiff, Nat.reduceAdd, Nat.reduceSub, Nat.reduceLeDiff]
  refine ex_loopI (orSt fr l) (fun i => 0 ≤ i ∧ i ≤ l.length ∧ orSp (l.drop i.toNat) = orSp l) (fun i => (l.length - i).toNat) 0 ⟨by omega, by omega, rfl⟩ rfl ?_
  rintro i ⟨g1, g2, g3⟩
  unfold orSt
  by_cases hi : i < l.length
  · rw [drop_cons l i.toNat (by omega), orSp] at g3
    have e2 : (i + 1).toNat = i.toNat + 1 := by omega
    simp (maxSteps := 1000000) (disch := omega) only [go_sem, eq_self, decide_true, decide_false, not_true_eq_false, not_false_eq_true, reduceIte, reduceCtorEq, Nat.reduceEqDiff, Nat.reduceAdd, Nat.reduceSub, Nat.reduceLeDiff]
    refine ⟨fun h => ?_, fun h => ⟨i + 1, ⟨by omega, by omega, ?_⟩, rfl, by omega⟩⟩
    · rw [if_pos h] at g3; rw [g3]
    · rw [if_neg h] at g3; rw [e2]; exact g3
  · simp (maxSteps := 1000000) (disch := omega) only [go_sem, eq_self, decide_true, decide_false, not_true_eq_false, not_false_eq_true, reduceIte, reduceCtorEq, Nat.reduceEqDiff, Nat.reduceAdd, Nat.reduceSub, Nat.reduceLeDiff]
    rw [← g3, List.drop_eq_nil_of_le (by omega)]
    rfl
def eqSt (fr fr' : Bool) (l : List Pt) (i : Int) : AS := ⟨tabV [(0, ptsV fr l), (1, ptsV fr' l), (12, iv l.length), (13, iv i)], tabO [], tabO []⟩
theorem vaSp_ok {l : List Smp} {at_ : Int} (st : Bool) (h : orSp [serFault l, momFault at_] = 0) : vaSp l st at_ = ((valSp l st at_).1, (valSp l st at_).2, 0) := by
  simp only [orSp] at h
  have h1 : serFault l = 0 := by by_cases e : serFault l = 0; exact e; rw [if_pos e] at h; exact h
  have h2 : momFault at_ = 0 := by rw [if_neg (by omega)] at h; by_cases e : momFault at_ = 0; exact e; rw [if_pos e] at h; exact h
  simp [vaSp, h1, h2]
theorem vaSp_no {l : List Smp} {at_ : Int} (st : Bool) (h : ¬ orSp [serFault l, momFault at_] = 0) : vaSp l st at_ = (ptZ, false, orSp [serFault l, momFault at_]) := by
  simp only [orSp] at h ⊢
  by_cases e : serFault l = 0
  · rw [if_neg (by omega)] at h ⊢
    have h2 : momFault at_ ≠ 0 := fun e2 => by rw [e2] at h; simp at h
    rw [if_pos h2]
    have := momFault_01 at_
    have h3 : momFault at_ = 1 := by omega
    simp [vaSp, e, h3]
  · simp [vaSp, e]
theorem one_ok {l : List Smp} {at_ : Int} (h : orSp [serFault l, momFault at_] = 0) : Good l ∧ 0 ≤ at_ ∧ at_ ≤ 345686399999 := by
  simp only [orSp] at h
  have h1 : serFault l = 0 := by by_cases e : serFault l = 0; exact e; rw [if_pos e] at h; exact h
  have h2 : momFault at_ = 0 := by rw [if_neg (by omega)] at h; by_cases e : momFault at_ = 0; exact e; rw [if_pos e] at h; exact h
  exact ⟨good_of h1, momFault_ok h2⟩
theorem ptsGo_len (l : List Smp) (st : Bool) (ev to : Int) : ∀ (n : Nat) (a : Int), (ptsGo l st ev to n a).length ≤ n
  | 0, _ => by simp [ptsGo]
  | n + 1, a => by
    rw [ptsGo]
    have := ptsGo_len l st ev to n (a + ev)
    split
    · cases (valSp l st a).2 <;> simp <;> omega
    · simp
theorem pts_len (l : List Smp) (st : Bool) (f t ev : Int) (_ : 1 ≤ ev) : (pts l st f t ev).length ≤ (t - f).toNat := ptsGo_len l st ev t _ f
theorem bothFault_or (l : List Smp) (f t : Int) : orSp [serFault l, winFault f t] = bothFault l f t := by
  simp only [orSp, bothFault]; (repeat' split) <;> omega
end Go.Proofs.Ytggbcgldnjmobaa

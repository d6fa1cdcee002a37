
/-
  Profiles of frames, how far they are apart, and the closest one; by both ways.
-/
import Derived.Test.YtggbcgldnjmobaaTho
import Derived.Test.YtggbcgldnjmobaaFrh
namespace Go.Proofs.Ytggbcgldnjmobaa
open Go Go.Ai
set_option linter.unusedSimpArgs false
set_option linter.unusedVariables false
set_option maxHeartbeats 4000000
def A_profile : List Ann := [⟨(some ⟨[0,2,4], [4], []⟩), [], [], [], []⟩, ⟨(some ⟨[0,2,4,8], [4], []⟩), [(8, 3, 1)], [], [], []⟩, ⟨(some ⟨[0,2,4,8,13,14], [4], [8]⟩), [], [], [], []⟩, ⟨(some ⟨[0,2,4,8,13,14,15], [4], [8]⟩), [], [], [], []⟩, ⟨(some ⟨[0,2,4,8,9,13,14], [4], [8]⟩), [], [], [], []⟩, ⟨(some ⟨[0,2,4,8,10,11,13,14], [4], [8]⟩), [], [], [], []⟩, ⟨(some ⟨[0,2,4,8,10,13,14,36], [4], [8]⟩), [], [], [], []⟩, ⟨(some ⟨[6,7], [], []⟩), [], [], [(6, 1)], []⟩, ⟨(some ⟨[0,2,4,8,13,14], [4], [8]⟩), [], [], [], []⟩, ⟨(some ⟨[0,2,4,8,13,14], [4], [8]⟩), [], [], [], []⟩, ⟨(some ⟨[6,7], [], []⟩), [], [], [], []⟩]
def C_profile : AC := (.seq (.reg false [⟨(some 4), none, .box (.t 1)⟩, ⟨(some 6), none, .mv (.v (.slice none 0 0))⟩, ⟨(some 7), none, .mv (.v (.bool false))⟩] (some ⟨[0,2,4], [4], []⟩))
  (.seq (.seq (.reg false [⟨(some 8), none, .mv (.v (.slice none 0 0))⟩] (some ⟨[0,2,4,8], [4], []⟩))
  (.own 8 3 1))
  (.seq (.seq (.reg false [⟨(some 12), none, .mv (.t 2)⟩, ⟨(some 13), none, .bin .add (.t 12) (.v (.int .i64 (1)))⟩, ⟨(some 14), none, .mv (.v (.int .i64 (0)))⟩] (some ⟨[0,2,4,8,13,14], [4], [8]⟩))
  (.block 0 (.loop (.seq (.reg false [⟨(some 15), none, .bin .lss (.t 14) (.t 13)⟩] (some ⟨[0,2,4,8,13,14,15], [4], [8]⟩))
  (.seq (.cond (.t 15)
  .skip
  (.exit 0))
  (.seq (.block 1 (.seq (.reg false [⟨(some 16), none, .mv (.t 14)⟩, ⟨(some 9), none, .mv (.t 16)⟩] (some ⟨[0,2,4,8,9,13,14], [4], [8]⟩))
  (.seq (.reg true [⟨(some 18), none, .mv (.t 0)⟩, ⟨(some 19), none, .fadr 0 (.t 4)⟩, ⟨(some 20), none, .load false 1 (.t 19)⟩, ⟨(some 21), none, .mv (.t 9)⟩, ⟨(some 22), none, .fadr 1 (.t 4)⟩, ⟨(some 23), none, .load false 1 (.t 22)⟩, ⟨(some 24), none, .fadr 0 (.t 4)⟩, ⟨(some 25), none, .load false 1 (.t 24)⟩, ⟨(some 26), none, .bin .sub (.t 23) (.t 25)⟩, ⟨(some 27), none, .bin .mul (.t 21) (.t 26)⟩, ⟨(some 28), none, .mv (.t 2)⟩, ⟨(some 29), none, .bin .quo (.t 27) (.t 28)⟩, ⟨(some 30), none, .bin .add (.t 20) (.t 29)⟩, ⟨(some 31), none, .mnx false (.t 30) (.v (.int .i64 (345686399999)))⟩, ⟨(some 32), none, .call (.f 153) [(.t 18), (.v (.bool false)), (.t 31)]⟩, ⟨(some 17), none, .mv (.t 32)⟩, ⟨(some 33), none, .extr (.t 17) 0⟩, ⟨(some 34), none, .extr (.t 17) 1⟩, ⟨(some 10), none, .mv (.t 33)⟩, ⟨(some 11), none, .mv (.t 34)⟩] (some ⟨[0,2,4,8,10,11,13,14], [4], [8]⟩))
  (.seq (.seq (.reg false [⟨(some 35), none, .mv (.t 11)⟩, ⟨(some 36), none, .un .not (.t 35)⟩] (some ⟨[0,2,4,8,10,13,14,36], [4], [8]⟩))
  (.cond (.t 36)
  (.seq (.seq (.reg false [⟨(some 6), none, .mv (.v (.slice none 0 0))⟩, ⟨(some 7), none, .mv (.v (.bool false))⟩] (some ⟨[6,7], [], []⟩))
  (.ty 6 1))
  .ret)
  .skip))
  (.reg false [⟨(some 37), none, .mv (.t 8)⟩, ⟨(some 38), none, .mv (.t 10)⟩, ⟨(some 39), none, .bslice 1 1 [(.t 38)]⟩, ⟨(some 40), none, .append 3 1 8 (.t 37) (.t 39)⟩, ⟨(some 8), none, .mv (.t 40)⟩] (some ⟨[0,2,4,8,13,14], [4], [8]⟩))))))
  (.reg false [⟨(some 41), none, .bin .add (.t 14) (.v (.int .i64 (1)))⟩, ⟨(some 14), none, .mv (.t 41)⟩] (some ⟨[0,2,4,8,13,14], [4], [8]⟩))))))))
  (.seq (.reg false [⟨(some 42), none, .mv (.t 8)⟩, ⟨(some 6), none, .mv (.t 42)⟩, ⟨(some 7), none, .mv (.v (.bool true))⟩] (some ⟨[6,7], [], []⟩))
  .ret))))
theorem c_profile : compileCode Try.prog Try.f98.ntmps (Try.f98.body.getD .skip) A_profile = some (C_profile, []) := by kernel_rfl
theorem r_profile : compileRes Try.prog Try.f98.results.toList = some [.t 6, .t 7] := by kernel_rfl
theorem b_profile : Try.f98.body = some (Try.f98.body.getD .skip) := by kernel_rfl
theorem n_profile : (Try.f98.name == "runtime.NumGoroutine") = false := by kernel_rfl
theorem fc_profile {xt : Option (List Cel)} {args : List Val} {R : List Cel → Val → Prop} (hn : (if xt.isSome then 1 else 0) + args.length ≤ Try.f98.ntmps) (h : ex Try.prog C_profile [] (fpost xt [.t 6, .t 7] R) (initSt xt args)) : FC Try.prog 98 xt args R :=
  fc_of_awp Try.func98 b_profile n_profile c_profile r_profile (of_decide_eq_true (by kernel_rfl)) hn h

def A_profileP : List Ann := [⟨(some ⟨[0,2,4], [4], []⟩), [], [], [], []⟩, ⟨(some ⟨[0,2,4,9], [4], []⟩), [], [], [], []⟩, ⟨(some ⟨[0,2,4,9,16], [4], []⟩), [], [], [], []⟩, ⟨(some ⟨[6,7,8], [], []⟩), [], [], [(6, 1)], []⟩, ⟨(some ⟨[0,2,4,19], [4], []⟩), [], [], [], []⟩, ⟨(some ⟨[6,7,8], [], []⟩), [], [], [(6, 1)], []⟩, ⟨(some ⟨[10,11], [], []⟩), [], [], [], []⟩, ⟨(some ⟨[6,7,8], [], []⟩), [], [], [], []⟩]
def C_profileP : AC := (.seq (.reg false [⟨(some 4), none, .box (.t 1)⟩, ⟨(some 6), none, .mv (.v (.slice none 0 0))⟩, ⟨(some 7), none, .mv (.v (.bool false))⟩, ⟨(some 8), none, .mv (.v (.int .i64 (0)))⟩] (some ⟨[0,2,4], [4], []⟩))
  (.seq (.seq (.reg false [⟨(some 12), none, .mv (.t 0)⟩, ⟨(some 13), none, .load true 2 (.t 4)⟩, ⟨(some 14), none, .call (.f 96) [(.t 12), (.t 13)]⟩, ⟨(some 9), none, .mv (.t 14)⟩] (some ⟨[0,2,4,9], [4], []⟩))
  (.seq (.reg false [⟨(some 15), none, .mv (.t 9)⟩, ⟨(some 16), none, .bin .neq (.t 15) (.v (.int .i64 (0)))⟩] (some ⟨[0,2,4,9,16], [4], []⟩))
  (.cond (.t 16)
  (.seq (.seq (.reg false [⟨(some 17), none, .mv (.t 9)⟩, ⟨(some 6), none, .mv (.v (.slice none 0 0))⟩, ⟨(some 7), none, .mv (.v (.bool false))⟩, ⟨(some 8), none, .mv (.t 17)⟩] (some ⟨[6,7,8], [], []⟩))
  (.ty 6 1))
  .ret)
  .skip)))
  (.seq (.seq (.reg false [⟨(some 18), none, .mv (.t 2)⟩, ⟨(some 19), none, .call (.f 97) [(.t 18), (.v (.int .i64 (1))), (.v (.int .i64 (1000)))]⟩] (some ⟨[0,2,4,19], [4], []⟩))
  (.cond (.t 19)
  (.seq (.seq (.reg false [⟨(some 6), none, .mv (.v (.slice none 0 0))⟩, ⟨(some 7), none, .mv (.v (.bool false))⟩, ⟨(some 8), none, .mv (.v (.int .i64 (1)))⟩] (some ⟨[6,7,8], [], []⟩))
  (.ty 6 1))
  .ret)
  .skip))
  (.seq (.reg false [⟨(some 21), none, .mv (.t 0)⟩, ⟨(some 22), none, .load true 2 (.t 4)⟩, ⟨(some 23), none, .mv (.t 2)⟩, ⟨(some 24), none, .call (.f 98) [(.t 21), (.t 22), (.t 23)]⟩, ⟨(some 20), none, .mv (.t 24)⟩, ⟨(some 25), none, .extr (.t 20) 0⟩, ⟨(some 26), none, .extr (.t 20) 1⟩, ⟨(some 10), none, .mv (.t 25)⟩, ⟨(some 11), none, .mv (.t 26)⟩] (some ⟨[10,11], [], []⟩))
  (.seq (.reg false [⟨(some 27), none, .mv (.t 10)⟩, ⟨(some 28), none, .mv (.t 11)⟩, ⟨(some 6), none, .mv (.t 27)⟩, ⟨(some 7), none, .mv (.t 28)⟩, ⟨(some 8), none, .mv (.v (.int .i64 (0)))⟩] (some ⟨[6,7,8], [], []⟩))
  .ret)))))
theorem c_profileP : compileCode Try.prog Try.f43.ntmps (Try.f43.body.getD .skip) A_profileP = some (C_profileP, []) := by kernel_rfl
theorem r_profileP : compileRes Try.prog Try.f43.results.toList = some [.t 6, .t 7, .t 8] := by kernel_rfl
theorem b_profileP : Try.f43.body = some (Try.f43.body.getD .skip) := by kernel_rfl
theorem n_profileP : (Try.f43.name == "runtime.NumGoroutine") = false := by kernel_rfl
theorem fc_profileP {xt : Option (List Cel)} {args : List Val} {R : List Cel → Val → Prop} (hn : (if xt.isSome then 1 else 0) + args.length ≤ Try.f43.ntmps) (h : ex Try.prog C_profileP [] (fpost xt [.t 6, .t 7, .t 8] R) (initSt xt args)) : FC Try.prog 43 xt args R :=
  fc_of_awp Try.func43 b_profileP n_profileP c_profileP r_profileP (of_decide_eq_true (by kernel_rfl)) hn h

def A_profileFault : List Ann := [⟨(some ⟨[0], [], []⟩), [], [], [], []⟩, ⟨(some ⟨[0,5], [], []⟩), [], [], [], []⟩, ⟨(some ⟨[2], [], []⟩), [], [], [], []⟩, ⟨(some ⟨[0,9], [], []⟩), [], [], [], []⟩, ⟨(some ⟨[2], [], []⟩), [], [], [], []⟩, ⟨(some ⟨[13,14,15], [], []⟩), [], [], [], []⟩, ⟨(some ⟨[13,14,15,16], [], []⟩), [], [], [], []⟩, ⟨(some ⟨[4,13,14,15], [], []⟩), [], [], [], []⟩, ⟨(some ⟨[13,14,15,20], [], []⟩), [], [], [], []⟩, ⟨(some ⟨[2], [], []⟩), [], [], [], []⟩, ⟨(some ⟨[13,14,15], [], []⟩), [], [], [], []⟩, ⟨(some ⟨[2], [], []⟩), [], [], [], []⟩]
def C_profileFault : AC := (.seq (.reg false [⟨(some 2), none, .mv (.v (.int .i64 (0)))⟩] (some ⟨[0], [], []⟩))
  (.seq (.block 0 (.seq (.reg false [⟨(some 6), none, .mv (.t 0)⟩, ⟨(some 7), none, .len (.t 6)⟩, ⟨(some 8), none, .bin .lss (.t 7) (.v (.int .i64 (2)))⟩, ⟨(some 5), none, .mv (.t 8)⟩] (some ⟨[0,5], [], []⟩))
  (.cond (.t 5)
  (.seq (.reg false [⟨(some 2), none, .mv (.v (.int .i64 (3)))⟩] (some ⟨[2], [], []⟩))
  .ret)
  (.seq (.reg false [⟨(some 10), none, .mv (.t 0)⟩, ⟨(some 11), none, .len (.t 10)⟩, ⟨(some 12), none, .bin .gtr (.t 11) (.v (.int .i64 (1001)))⟩, ⟨(some 9), none, .mv (.t 12)⟩] (some ⟨[0,9], [], []⟩))
  (.cond (.t 9)
  (.seq (.reg false [⟨(some 2), none, .mv (.v (.int .i64 (2)))⟩] (some ⟨[2], [], []⟩))
  .ret)
  .skip)))))
  (.seq (.seq (.reg false [⟨(some 13), none, .mv (.t 0)⟩, ⟨(some 14), none, .len (.t 13)⟩, ⟨(some 15), none, .mv (.v (.int .i64 (0)))⟩] (some ⟨[13,14,15], [], []⟩))
  (.block 1 (.loop (.seq (.reg false [⟨(some 16), none, .bin .lss (.t 15) (.t 14)⟩] (some ⟨[13,14,15,16], [], []⟩))
  (.seq (.cond (.t 16)
  .skip
  (.exit 1))
  (.seq (.block 2 (.seq (.reg false [⟨(some 17), none, .iadr 1 (.t 13) (.t 15)⟩, ⟨(some 18), none, .load false 1 (.t 17)⟩, ⟨(some 4), none, .mv (.t 18)⟩] (some ⟨[4,13,14,15], [], []⟩))
  (.seq (.reg false [⟨(some 19), none, .mv (.t 4)⟩, ⟨(some 20), none, .call (.f 97) [(.t 19), (.v (.int .i64 (-1000000000))), (.v (.int .i64 (1000000000)))]⟩] (some ⟨[13,14,15,20], [], []⟩))
  (.cond (.t 20)
  (.seq (.reg false [⟨(some 2), none, .mv (.v (.int .i64 (1)))⟩] (some ⟨[2], [], []⟩))
  .ret)
  .skip))))
  (.reg false [⟨(some 21), none, .bin .add (.t 15) (.v (.int .i64 (1)))⟩, ⟨(some 15), none, .mv (.t 21)⟩] (some ⟨[13,14,15], [], []⟩))))))))
  (.seq (.reg false [⟨(some 2), none, .mv (.v (.int .i64 (0)))⟩] (some ⟨[2], [], []⟩))
  .ret))))
theorem c_profileFault : compileCode Try.prog Try.f101.ntmps (Try.f101.body.getD .skip) A_profileFault = some (C_profileFault, []) := by kernel_rfl
theorem r_profileFault : compileRes Try.prog Try.f101.results.toList = some [.t 2] := by kernel_rfl
theorem b_profileFault : Try.f101.body = some (Try.f101.body.getD .skip) := by kernel_rfl
theorem n_profileFault : (Try.f101.name == "runtime.NumGoroutine") = false := by kernel_rfl
theorem fc_profileFault {xt : Option (List Cel)} {args : List Val} {R : List Cel → Val → Prop} (hn : (if xt.isSome then 1 else 0) + args.length ≤ Try.f101.ntmps) (h : ex Try.prog C_profileFault [] (fpost xt [.t 2] R) (initSt xt args)) : FC Try.prog 101 xt args R :=
  fc_of_awp Try.func101 b_profileFault n_profileFault c_profileFault r_profileFault (of_decide_eq_true (by kernel_rfl)) hn h

def A_bframeFault : List Ann := [⟨(some ⟨[0,3], [3], []⟩), [], [], [], []⟩, ⟨(some ⟨[4], [], []⟩), [], [], [], []⟩]
def C_bframeFault : AC := (.seq (.reg false [⟨(some 3), none, .box (.t 1)⟩, ⟨(some 4), none, .mv (.v (.int .i64 (0)))⟩] (some ⟨[0,3], [3], []⟩))
  (.seq (.reg true [⟨(some 5), none, .mv (.t 0)⟩, ⟨(some 6), none, .call (.f 85) [(.t 5)]⟩, ⟨(some 7), none, .load true 2 (.t 3)⟩, ⟨(some 8), none, .bslice 2 1 [(.t 7)]⟩, ⟨(some 9), none, .call (.f 100) [(.t 8)]⟩, ⟨(some 10), none, .bslice 1 2 [(.t 6), (.t 9)]⟩, ⟨(some 11), none, .call (.f 84) [(.t 10)]⟩, ⟨(some 4), none, .mv (.t 11)⟩] (some ⟨[4], [], []⟩))
  .ret))
theorem c_bframeFault : compileCode Try.prog Try.f96.ntmps (Try.f96.body.getD .skip) A_bframeFault = some (C_bframeFault, []) := by kernel_rfl
theorem r_bframeFault : compileRes Try.prog Try.f96.results.toList = some [.t 4] := by kernel_rfl
theorem b_bframeFault : Try.f96.body = some (Try.f96.body.getD .skip) := by kernel_rfl
theorem n_bframeFault : (Try.f96.name == "runtime.NumGoroutine") = false := by kernel_rfl
theorem fc_bframeFault {xt : Option (List Cel)} {args : List Val} {R : List Cel → Val → Prop} (hn : (if xt.isSome then 1 else 0) + args.length ≤ Try.f96.ntmps) (h : ex Try.prog C_bframeFault [] (fpost xt [.t 4] R) (initSt xt args)) : FC Try.prog 96 xt args R :=
  fc_of_awp Try.func96 b_bframeFault n_bframeFault c_bframeFault r_bframeFault (of_decide_eq_true (by kernel_rfl)) hn h

def A_deviation : List Ann := [⟨(some ⟨[0,1,5], [], []⟩), [], [], [], []⟩, ⟨(some ⟨[0,1,4,5], [], []⟩), [], [], [], []⟩, ⟨(some ⟨[0,1,4,5,9,10], [], []⟩), [], [], [], []⟩, ⟨(some ⟨[0,1,4,5,9,10,11], [], []⟩), [], [], [], []⟩, ⟨(some ⟨[0,1,4,5,6,9,10], [], []⟩), [], [], [], []⟩, ⟨(some ⟨[0,1,4,5,6,7,9,10], [], []⟩), [], [], [], []⟩, ⟨(some ⟨[0,1,4,5,6,7,9,10,34], [], []⟩), [], [], [], []⟩, ⟨(some ⟨[0,1,4,5,9,10], [], []⟩), [], [], [], []⟩, ⟨(some ⟨[0,1,4,5,9,10], [], []⟩), [], [], [], []⟩, ⟨(some ⟨[4,5], [], []⟩), [], [], [], []⟩]
def C_deviation : AC := (.seq (.reg false [⟨(some 4), none, .mv (.v (.int .i64 (0)))⟩, ⟨(some 5), none, .mv (.v (.int .i64 (0)))⟩] (some ⟨[0,1,5], [], []⟩))
  (.seq (.reg false [⟨(some 4), none, .mv (.v (.int .i64 (-1)))⟩] (some ⟨[0,1,4,5], [], []⟩))
  (.seq (.seq (.reg false [⟨(some 8), none, .mv (.t 0)⟩, ⟨(some 9), none, .len (.t 8)⟩, ⟨(some 10), none, .mv (.v (.int .i64 (0)))⟩] (some ⟨[0,1,4,5,9,10], [], []⟩))
  (.block 0 (.loop (.seq (.reg false [⟨(some 11), none, .bin .lss (.t 10) (.t 9)⟩] (some ⟨[0,1,4,5,9,10,11], [], []⟩))
  (.seq (.cond (.t 11)
  .skip
  (.exit 0))
  (.seq (.block 1 (.seq (.reg false [⟨(some 12), none, .mv (.t 10)⟩, ⟨(some 6), none, .mv (.t 12)⟩] (some ⟨[0,1,4,5,6,9,10], [], []⟩))
  (.seq (.reg true [⟨(some 13), none, .mv (.t 0)⟩, ⟨(some 14), none, .mv (.t 6)⟩, ⟨(some 15), none, .iadr 1 (.t 13) (.t 14)⟩, ⟨(some 16), none, .load false 1 (.t 15)⟩, ⟨(some 17), none, .mv (.t 1)⟩, ⟨(some 18), none, .mv (.t 6)⟩, ⟨(some 19), none, .iadr 1 (.t 17) (.t 18)⟩, ⟨(some 20), none, .load false 1 (.t 19)⟩, ⟨(some 21), none, .bin .sub (.t 16) (.t 20)⟩, ⟨(some 22), none, .mv (.t 1)⟩, ⟨(some 23), none, .mv (.t 6)⟩, ⟨(some 24), none, .iadr 1 (.t 22) (.t 23)⟩, ⟨(some 25), none, .load false 1 (.t 24)⟩, ⟨(some 26), none, .mv (.t 0)⟩, ⟨(some 27), none, .mv (.t 6)⟩, ⟨(some 28), none, .iadr 1 (.t 26) (.t 27)⟩, ⟨(some 29), none, .load false 1 (.t 28)⟩, ⟨(some 30), none, .bin .sub (.t 25) (.t 29)⟩, ⟨(some 31), none, .mnx true (.t 21) (.t 30)⟩, ⟨(some 7), none, .mv (.t 31)⟩] (some ⟨[0,1,4,5,6,7,9,10], [], []⟩))
  (.seq (.reg false [⟨(some 32), none, .mv (.t 7)⟩, ⟨(some 33), none, .mv (.t 4)⟩, ⟨(some 34), none, .bin .gtr (.t 32) (.t 33)⟩] (some ⟨[0,1,4,5,6,7,9,10,34], [], []⟩))
  (.cond (.t 34)
  (.reg false [⟨(some 35), none, .mv (.t 7)⟩, ⟨(some 36), none, .mv (.t 6)⟩, ⟨(some 4), none, .mv (.t 35)⟩, ⟨(some 5), none, .mv (.t 36)⟩] (some ⟨[0,1,4,5,9,10], [], []⟩))
  .skip)))))
  (.reg false [⟨(some 37), none, .bin .add (.t 10) (.v (.int .i64 (1)))⟩, ⟨(some 10), none, .mv (.t 37)⟩] (some ⟨[0,1,4,5,9,10], [], []⟩))))))))
  (.seq (.reg false [⟨(some 38), none, .mv (.t 4)⟩, ⟨(some 39), none, .mv (.t 5)⟩, ⟨(some 4), none, .mv (.t 38)⟩, ⟨(some 5), none, .mv (.t 39)⟩] (some ⟨[4,5], [], []⟩))
  .ret))))
theorem c_deviation : compileCode Try.prog Try.f102.ntmps (Try.f102.body.getD .skip) A_deviation = some (C_deviation, []) := by kernel_rfl
theorem r_deviation : compileRes Try.prog Try.f102.results.toList = some [.t 4, .t 5] := by kernel_rfl
theorem b_deviation : Try.f102.body = some (Try.f102.body.getD .skip) := by kernel_rfl
theorem n_deviation : (Try.f102.name == "runtime.NumGoroutine") = false := by kernel_rfl
theorem fc_deviation {xt : Option (List Cel)} {args : List Val} {R : List Cel → Val → Prop} (hn : (if xt.isSome then 1 else 0) + args.length ≤ Try.f102.ntmps) (h : ex Try.prog C_deviation [] (fpost xt [.t 4, .t 5] R) (initSt xt args)) : FC Try.prog 102 xt args R :=
  fc_of_awp Try.func102 b_deviation n_deviation c_deviation r_deviation (of_decide_eq_true (by kernel_rfl)) hn h


def plSt (L : List Int) (n i q : Int) (out : List Int) : AS :=
  ⟨tabV [(0, .one (.bx 0 0)), (5, .one (.ow 5 0)), (6, iv n), (7, iv i)], tabO [(0, strm L q)], tabO [(5, ⟨0, 3, 1, out.map intC⟩)]⟩
def prAt (f t n k : Int) : Int := min (f + (k * (t - f)).tdiv n) 345686399999
def prV (l : List Smp) (f t n k : Int) : Int × Bool := thV l false (prAt f t n k)
def prOk (l : List Smp) (f t n : Int) : Nat → Bool
  | 0 => true
  | m + 1 => prOk l f t n m && (prV l f t n m).2
def prL (l : List Smp) (f t n : Int) : Nat → List Int
  | 0 => []
  | m + 1 => prL l f t n m ++ [(prV l f t n m).1]
theorem prL_len (l : List Smp) (f t n : Int) : ∀ m, (prL l f t n m).length = m
  | 0 => rfl
  | m + 1 => by rw [prL, List.length_append, prL_len l f t n m]; rfl
theorem prOk_false {l : List Smp} {f t n : Int} {k : Nat} (h : (prV l f t n k).2 = false) : ∀ m, k < m → prOk l f t n m = false
  | 0, hm => by omega
  | m + 1, hm => by
    rw [prOk]
    by_cases e : k = m
    · subst e; rw [h, Bool.and_false]
    · rw [prOk_false h m (by omega), Bool.false_and]
def prSp (l : List Smp) (f t n : Int) : List Int × Bool := if prOk l f t n (n + 1).toNat = true then (prL l f t n (n + 1).toNat, true) else ([], false)
theorem prAt_bd {f t n k : Int} (hw : 0 ≤ f ∧ f < t ∧ t ≤ 345686400000) (hn : 1 ≤ n ∧ n ≤ 1000) (hk : 0 ≤ k ∧ k ≤ n) : (0 ≤ k * (t - f) ∧ k * (t - f) ≤ 345686400000000) ∧ (0 ≤ (k * (t - f)).tdiv n ∧ (k * (t - f)).tdiv n ≤ 345686400000000) ∧ 0 ≤ prAt f t n k ∧ prAt f t n k ≤ 345686399999 := by
  have h1 : 0 ≤ k * (t - f) := Int.mul_nonneg hk.1 (by omega)
  have h2 : k * (t - f) ≤ 1000 * 345686400000 := Int.mul_le_mul (by omega) (by omega) (by omega) (by omega)
  have h3 := Int.tdiv_nonneg h1 (show 0 ≤ n by omega)
  have h4 := Int.tdiv_le_self n h1
  unfold prAt
  omega
def prSt (l : List Smp) (f t n k : Int) (out : List Int) : AS := ⟨tabV [(0, smps false l), (2, iv n), (4, .one (.bx 4 0)), (8, .one (.ow 8 0)), (13, iv (n + 1)), (14, iv k)], tabO [(4, [.g (.int .i64 f), .g (.int .i64 t)])], tabO [(8, ⟨0, 3, 1, out.map intC⟩)]⟩
theorem profile_fc (l : List Smp) (hg : Good l) (f t n : Int) (hw : 0 ≤ f ∧ f < t ∧ t ≤ 345686400000) (hn : 1 ≤ n ∧ n ≤ 1000) : FC Try.prog 98 none [smps false l, winV f t, iv n] (fun _ r => r = .tu [ints true (prSp l f t n).1, bv (prSp l f t n).2]) := by
  refine fc_profile (by simp +arith) ?_
  unfold C_profile
  simp (maxSteps := 1000000) (disch := omega) only [go_sem, eq_self, decide_true, decide_false, not_true_eq_false, not_false_eq_true, reduceIte, reduceCtorEq, Nat.reduceEqDiff, Nat.reduceAdd, Nat.reduceSub, Nat.reduceLeDiff]
  refine ⟨by omega, ?_⟩
  refine ex_loop1 (fun k => prSt l f t n k (prL l f t n k.toNat)) (fun k => 0 ≤ k ∧ k ≤ n + 1 ∧ prOk l f t n k.toNat = true) (fun k => (n + 1 - k).toNat) 0 ⟨by omega, by omega, rfl⟩ rfl ?_
  rintro k ⟨g1, g2, g3⟩
  unfold prSt
  have hpl := prL_len l f t n k.toNat
  by_cases hk : k < n + 1
  · have e2 : (k + 1).toNat = k.toNat + 1 := by omega
    have e3 : ((k.toNat : Nat) : Int) = k := by omega
    obtain ⟨m1, m2, m3, m4⟩ := prAt_bd hw hn (show 0 ≤ k ∧ k ≤ n by omega)
    have hth := thousandths_fc l hg false (prAt f t n k) (by omega)
    have hv : thV l false (prAt f t n k) = prV l f t n k := rfl
    rw [hv] at hth
    have hd : prAt f t n k = min (f + (k * (t - f)).tdiv n) 345686399999 := rfl
    rw [hd] at hth
    cases hb : (prV l f t n k).2 with
    | false =>
      have e4 : prSp l f t n = ([], false) := by
        unfold prSp
        rw [prOk_false (k := k.toNat) (by rw [e3]; exact hb) _ (by omega)]; rfl
      rw [e4]
      rw [hb] at hth
      simp (maxSteps := 1000000) (disch := omega) only [go_sem, eq_self, decide_true, decide_false, not_true_eq_false, not_false_eq_true, reduceIte, reduceCtorEq, Nat.reduceEqDiff, Nat.reduceAdd, Nat.reduceSub, Nat.reduceLeDiff]
      refine CALL_det hth (.inl rfl) ?_
      simp (maxSteps := 1000000) (disch := omega) only [go_sem, eq_self, decide_true, decide_false, not_true_eq_false, not_false_eq_true, reduceIte, reduceCtorEq, Nat.reduceEqDiff, Nat.reduceAdd, Nat.reduceSub, Nat.reduceLeDiff]
      rfl
    | true =>
      rw [hb] at hth
      simp (maxSteps := 1000000) (disch := omega) only [go_sem, eq_self, decide_true, decide_false, not_true_eq_false, not_false_eq_true, reduceIte, reduceCtorEq, Nat.reduceEqDiff, Nat.reduceAdd, Nat.reduceSub, Nat.reduceLeDiff]
      refine CALL_det hth (.inl rfl) ?_
      simp (maxSteps := 1000000) (disch := omega) only [go_sem, eq_self, decide_true, decide_false, not_true_eq_false, not_false_eq_true, reduceIte, reduceCtorEq, Nat.reduceEqDiff, Nat.reduceAdd, Nat.reduceSub, Nat.reduceLeDiff]
      exact ⟨k + 1, by simp only [prSt, e2, prL, e3, List.map_append, List.map_cons, List.map_nil, intC_eq], ⟨by omega, by omega, by rw [e2, prOk, g3, e3, hb]; rfl⟩, by omega⟩
  · have e : k = n + 1 := by omega
    subst e
    have e4 : prSp l f t n = (prL l f t n (n + 1).toNat, true) := by unfold prSp; rw [if_pos g3]
    rw [e4]
    simp (maxSteps := 1000000) (disch := omega) only [go_sem, eq_self, decide_true, decide_false, not_true_eq_false, not_false_eq_true, reduceIte, reduceCtorEq, Nat.reduceEqDiff, Nat.reduceAdd, Nat.reduceSub, Nat.reduceLeDiff]
def prSt1 (l : List Smp) (f t n k : Int) (out : List Int) : AS := ⟨tabV [(0, smps false l), (2, iv n), (4, .one (.bx 4 0)), (8, .one (.ow 8 0)), (14, iv (n + 1)), (15, iv k)], tabO [(4, [.g (.int .i64 f), .g (.int .i64 t)])], tabO [(8, ⟨0, 3, 1, out.map intC⟩)]⟩
def w1F (f t : Int) : Int := if f < 0 ∨ f ≥ t ∨ t > 345686400000 then 1 else 0
theorem w1F_eq (f t : Int) : fwF [(f, t)] = w1F f t := by
  unfold fwF w1F
  rw [if_neg (by simp), fwGo.eq_def]
  simp only [Bool.false_eq_true, if_false]
  rfl
theorem w1F_ok {f t : Int} (h : w1F f t = 0) : 0 ≤ f ∧ f < t ∧ t ≤ 345686400000 := by
  unfold w1F at h; split at h <;> omega
theorem bframeFault_fc (l : List Smp) (hl : l.length ≤ 4611686018427387904) (f t : Int) : FC Try.prog 96 none [smps false l, winV f t] (fun _ r => r = iv (orSp [serFault l, w1F f t])) := by
  refine fc_bframeFault (by simp +arith) ?_
  unfold C_bframeFault
  simp (maxSteps := 1000000) (disch := omega) only [go_sem, eq_self, decide_true, decide_false, not_true_eq_false, not_false_eq_true, reduceIte, reduceCtorEq, Nat.reduceEqDiff, Nat.reduceAdd, Nat.reduceSub, Nat.reduceLeDiff]
  refine CALL_det (checkSeries_fc l hl) (.inl rfl) ?_
  simp (maxSteps := 1000000) (disch := omega) only [go_sem, eq_self, decide_true, decide_false, not_true_eq_false, not_false_eq_true, reduceIte, reduceCtorEq, Nat.reduceEqDiff, Nat.reduceAdd, Nat.reduceSub, Nat.reduceLeDiff]
  refine CALL_det (checkFrames_fc [(f, t)] (by simp)) (.inl rfl) ?_
  rw [w1F_eq]
  simp (maxSteps := 1000000) (disch := omega) only [go_sem, eq_self, decide_true, decide_false, not_true_eq_false, not_false_eq_true, reduceIte, reduceCtorEq, Nat.reduceEqDiff, Nat.reduceAdd, Nat.reduceSub, Nat.reduceLeDiff]
  refine CALL_det (first_fc false [serFault l, w1F f t] (by simp)) (.inl rfl) ?_
  simp (maxSteps := 1000000) (disch := omega) only [go_sem, eq_self, decide_true, decide_false, not_true_eq_false, not_false_eq_true, reduceIte, reduceCtorEq, Nat.reduceEqDiff, Nat.reduceAdd, Nat.reduceSub, Nat.reduceLeDiff]
def pfSp (l : List Smp) (f t n : Int) : List Int × Bool × Int :=
  if orSp [serFault l, w1F f t] ≠ 0 then ([], false, orSp [serFault l, w1F f t]) else if n < 1 ∨ n > 1000 then ([], false, 1) else ((prSp l f t n).1, (prSp l f t n).2, 0)
theorem profileP_fc (l : List Smp) (hl : l.length ≤ 4611686018427387904) (f t n : Int) : FC Try.prog 43 none [smps false l, winV f t, iv n] (fun _ r => r = .tu [ints true (pfSp l f t n).1, bv (pfSp l f t n).2.1, iv (pfSp l f t n).2.2]) := by
  refine fc_profileP (by simp +arith) ?_
  unfold C_profileP pfSp
  simp (maxSteps := 1000000) (disch := omega) only [go_sem, eq_self, decide_true, decide_false, not_true_eq_false, not_false_eq_true, reduceIte, reduceCtorEq, Nat.reduceEqDiff, Nat.reduceAdd, Nat.reduceSub, Nat.reduceLeDiff]
  refine CALL_det (bframeFault_fc l hl f t) (.inl rfl) ?_
  by_cases h1 : orSp [serFault l, w1F f t] = 0
  · obtain ⟨h2, h3⟩ := or2_z' h1
    rw [if_neg (show ¬(orSp [serFault l, w1F f t] ≠ 0) by omega), h1]
    simp (maxSteps := 1000000) (disch := omega) only [go_sem, eq_self, decide_true, decide_false, not_true_eq_false, not_false_eq_true, reduceIte, reduceCtorEq, Nat.reduceEqDiff, Nat.reduceAdd, Nat.reduceSub, Nat.reduceLeDiff]
    refine CALL_det (out_fc _ _ _) (.inl rfl) ?_
    by_cases h4 : n < 1 ∨ n > 1000
    · rw [if_pos h4, decide_eq_true h4]
      simp (maxSteps := 1000000) (disch := omega) only [go_sem, eq_self, decide_true, decide_false, not_true_eq_false, not_false_eq_true, reduceIte, reduceCtorEq, Nat.reduceEqDiff, Nat.reduceAdd, Nat.reduceSub, Nat.reduceLeDiff]
      rfl
    · rw [if_neg h4, decide_eq_false h4]
      simp (maxSteps := 1000000) (disch := omega) only [go_sem, eq_self, decide_true, decide_false, not_true_eq_false, not_false_eq_true, reduceIte, reduceCtorEq, Nat.reduceEqDiff, Nat.reduceAdd, Nat.reduceSub, Nat.reduceLeDiff]
      refine CALL_det (profile_fc l (good_of h2) f t n (w1F_ok h3) (by omega)) (.inl rfl) ?_
      simp (maxSteps := 1000000) (disch := omega) only [go_sem, eq_self, decide_true, decide_false, not_true_eq_false, not_false_eq_true, reduceIte, reduceCtorEq, Nat.reduceEqDiff, Nat.reduceAdd, Nat.reduceSub, Nat.reduceLeDiff]
  · rw [if_pos (show orSp [serFault l, w1F f t] ≠ 0 by omega)]
    simp (maxSteps := 1000000) (disch := omega) only [go_sem, eq_self, decide_true, decide_false, not_true_eq_false, not_false_eq_true, reduceIte, reduceCtorEq, Nat.reduceEqDiff, Nat.reduceAdd, Nat.reduceSub, Nat.reduceLeDiff]
    rfl
def badP (n : Int) : Bool := decide (n < -1000000000 ∨ n > 1000000000)
def pfF (a : List Int) : Int := if a.length < 2 then 3 else if a.length > 1001 then 2 else if a.any badP = true then 1 else 0
theorem pfF_ok {a : List Int} (h : pfF a = 0) : 2 ≤ a.length ∧ a.length ≤ 1001 ∧ ∀ x ∈ a, -1000000000 ≤ x ∧ x ≤ 1000000000 := by
  unfold pfF at h
  split at h
  · omega
  · split at h
    · omega
    · split at h
      · omega
      · rename_i h1 h2 h3
        refine ⟨by omega, by omega, fun x hx => ?_⟩
        rw [Bool.not_eq_true, List.any_eq_false] at h3
        have := h3 x hx
        unfold badP at this
        rw [decide_eq_true_eq] at this
        omega
def pff1St (a : List Int) (i : Int) : AS := ⟨tabV [(13, ints false a), (14, iv a.length), (15, iv i)], tabO [], tabO []⟩
theorem profileFault_fc (a : List Int) (hl : a.length ≤ 4611686018427387904) : FC Try.prog 101 none [ints false a] (fun _ r => r = iv (pfF a)) := by
  refine fc_profileFault (by simp +arith) ?_
  unfold C_profileFault pfF
  by_cases h1 : a.length < 2
  · rw [if_pos h1]
    simp (maxSteps := 1000000) (disch := omega) only [go_sem, eq_self, decide_true, decide_false, not_true_eq_false, not_false_eq_true, reduceIte, reduceCtorEq, Nat.reduceEqDiff, Nat.reduceAdd, Nat.reduceSub, Nat.reduceLeDiff]
  rw [if_neg h1]
  by_cases h2 : a.length > 1001
  · rw [if_pos h2]
    simp (maxSteps := 1000000) (disch := omega) only [go_sem, eq_self, decide_true, decide_false, not_true_eq_false, not_false_eq_true, reduceIte, reduceCtorEq, Nat.reduceEqDiff, Nat.reduceAdd, Nat.reduceSub, Nat.reduceLeDiff]
  rw [if_neg h2]
  simp (maxSteps := 1000000) (disch := omega) only [go_sem, eq_self, decide_true, decide_false, not_true_eq_false, not_false_eq_true, reduceIte, reduceCtorEq, Nat.reduceEqDiff, Nat.reduceAdd, Nat.reduceSub, Nat.reduceLeDiff]
  refine ex_loop1 (pff1St a) (fun i => 0 ≤ i ∧ i ≤ a.length ∧ (a.drop i.toNat).any badP = a.any badP) (fun i => (a.length - i).toNat) 0 ⟨by omega, by omega, rfl⟩ rfl ?_
  rintro i ⟨g1, g2, g3⟩
  unfold pff1St
  by_cases hi : i < a.length
  · have e2 : (i + 1).toNat = i.toNat + 1 := by omega
    have em := getD_map_at intC a i [] g1 hi
    rw [drop_cons a i.toNat (by omega), ← e2, List.any_cons] at g3
    unfold badP at g3
    by_cases c : a.getD i.toNat default < -1000000000 ∨ a.getD i.toNat default > 1000000000
    · rw [decide_eq_true c, Bool.true_or] at g3
      have e9 : a.any badP = true := by unfold badP; exact g3.symm
      rw [e9]
      simp (maxSteps := 1000000) (disch := omega) only [go_sem, eq_self, decide_true, decide_false, not_true_eq_false, not_false_eq_true, reduceIte, reduceCtorEq, Nat.reduceEqDiff, Nat.reduceAdd, Nat.reduceSub, Nat.reduceLeDiff]
      refine CALL_det (out_fc _ _ _) (.inl rfl) ?_
      rw [decide_eq_true c]
      simp (maxSteps := 1000000) (disch := omega) only [go_sem, eq_self, decide_true, decide_false, not_true_eq_false, not_false_eq_true, reduceIte, reduceCtorEq, Nat.reduceEqDiff, Nat.reduceAdd, Nat.reduceSub, Nat.reduceLeDiff]
    · rw [decide_eq_false c, Bool.false_or] at g3
      simp (maxSteps := 1000000) (disch := omega) only [go_sem, eq_self, decide_true, decide_false, not_true_eq_false, not_false_eq_true, reduceIte, reduceCtorEq, Nat.reduceEqDiff, Nat.reduceAdd, Nat.reduceSub, Nat.reduceLeDiff]
      refine CALL_det (out_fc _ _ _) (.inl rfl) ?_
      rw [decide_eq_false c]
      simp (maxSteps := 1000000) (disch := omega) only [go_sem, eq_self, decide_true, decide_false, not_true_eq_false, not_false_eq_true, reduceIte, reduceCtorEq, Nat.reduceEqDiff, Nat.reduceAdd, Nat.reduceSub, Nat.reduceLeDiff]
      exact ⟨i + 1, rfl, ⟨by omega, by omega, g3⟩, by omega⟩
  · rw [List.drop_eq_nil_of_le (by omega), List.any_nil] at g3
    rw [← g3]
    simp (maxSteps := 1000000) (disch := omega) only [go_sem, eq_self, decide_true, decide_false, not_true_eq_false, not_false_eq_true, reduceIte, reduceCtorEq, Nat.reduceEqDiff, Nat.reduceAdd, Nat.reduceSub, Nat.reduceLeDiff]
def pff2St (a : List Int) (i : Int) : AS := ⟨tabV [(14, ints false a), (15, iv a.length), (16, iv i)], tabO [], tabO []⟩
def dvA (a b : List Int) (i : Nat) : Int := max (a.getD i default - b.getD i default) (b.getD i default - a.getD i default)
def bst (a b : List Int) : Nat → Nat
  | 0 => 0
  | i + 1 => if dvA a b i > dvA a b (bst a b i) then i else bst a b i
theorem bst_lt (a b : List Int) : ∀ n, 1 ≤ n → bst a b n < n
  | 0, h => by omega
  | 1, _ => by rw [bst, bst, if_neg (by omega)]; omega
  | n + 2, _ => by
    have := bst_lt a b (n + 1) (by omega)
    rw [bst]; split <;> omega
def okI (a : List Int) : Prop := ∀ x ∈ a, -2000000000000000 ≤ x ∧ x ≤ 2000000000000000
theorem okI_at {a : List Int} (h : okI a) {i : Nat} (hi : i < a.length) : -2000000000000000 ≤ a.getD i default ∧ a.getD i default ≤ 2000000000000000 := h _ (getD_mem a i hi)
def devSp (a b : List Int) : Int × Int := (dvA a b (bst a b a.length), bst a b a.length)
def dvSt (a b : List Int) (i m at_ : Int) : AS := ⟨tabV [(0, ints false a), (1, ints false b), (4, iv m), (5, iv at_), (9, iv a.length), (10, iv i)], tabO [], tabO []⟩
theorem deviation_fc (a b : List Int) (h1 : 1 ≤ a.length) (h2 : a.length ≤ 2000) (hb : a.length = b.length) (ha : okI a) (hb2 : okI b) : FC Try.prog 102 none [ints false a, ints false b] (fun _ r => r = .tu [iv (devSp a b).1, iv (devSp a b).2]) := by
  refine fc_deviation (by simp +arith) ?_
  unfold C_deviation devSp
  simp (maxSteps := 1000000) (disch := omega) only [go_sem, eq_self, decide_true, decide_false, not_true_eq_false, not_false_eq_true, reduceIte, reduceCtorEq, Nat.reduceEqDiff, Nat.reduceAdd, Nat.reduceSub, Nat.reduceLeDiff]
  refine ex_loop3 (dvSt a b) (fun i m at_ => 0 ≤ i ∧ i ≤ a.length ∧ at_ = bst a b i.toNat ∧ m = if i = 0 then -1 else dvA a b (bst a b i.toNat)) (fun i _ _ => (a.length - i).toNat) 0 (-1) 0 ⟨by omega, by omega, rfl, by simp⟩ rfl ?_
  rintro i m at_ ⟨g1, g2, g3, g4⟩
  unfold dvSt
  by_cases hi : i < a.length
  · have e2 : (i + 1).toNat = i.toNat + 1 := by omega
    have em := getD_map_at intC a i [] g1 hi
    have en := getD_map_at intC b i [] g1 (by omega)
    have ka := okI_at ha (i := i.toNat) (by omega)
    have kb := okI_at hb2 (i := i.toNat) (by omega)
    have hdv : dvA a b i.toNat = max (a.getD i.toNat default - b.getD i.toNat default) (b.getD i.toNat default - a.getD i.toNat default) := rfl
    have hcond : (dvA a b i.toNat > m) ↔ (i = 0 ∨ dvA a b i.toNat > dvA a b (bst a b i.toNat)) := by
      rw [g4]
      by_cases c : i = 0
      · rw [if_pos c]; exact ⟨fun _ => .inl c, fun _ => by omega⟩
      · rw [if_neg c]; exact ⟨fun h => .inr h, fun h => by rcases h with h | h; exact absurd h c; exact h⟩
    have hstep : bst a b (i + 1).toNat = if dvA a b i.toNat > m then i.toNat else bst a b i.toNat := by
      rw [e2, bst]
      by_cases c : i = 0
      · have e0 : i.toNat = 0 := by omega
        rw [if_pos (hcond.2 (.inl c)), e0]; simp [bst]
      · by_cases d : dvA a b i.toNat > dvA a b (bst a b i.toNat)
        · rw [if_pos d, if_pos (hcond.2 (.inr d))]
        · rw [if_neg d, if_neg (fun h => by rcases hcond.1 h with h | h; exact c h; exact d h)]
    have e3 : ((i.toNat : Nat) : Int) = i := by omega
    by_cases d : dvA a b i.toNat > m
    · rw [if_pos d] at hstep
      rw [hdv] at d
      simp (maxSteps := 1000000) (disch := omega) only [go_sem, eq_self, decide_true, decide_false, not_true_eq_false, not_false_eq_true, reduceIte, reduceCtorEq, Nat.reduceEqDiff, Nat.reduceAdd, Nat.reduceSub, Nat.reduceLeDiff]
      exact ⟨i + 1, _, i, rfl, ⟨by omega, by omega, by rw [hstep]; exact e3.symm, by rw [if_neg (by omega), hstep, hdv]⟩, by omega⟩
    · rw [if_neg d] at hstep
      have hm : i ≠ 0 := fun h => d (hcond.2 (.inl h))
      rw [hdv] at d
      simp (maxSteps := 1000000) (disch := omega) only [go_sem, eq_self, decide_true, decide_false, not_true_eq_false, not_false_eq_true, reduceIte, reduceCtorEq, Nat.reduceEqDiff, Nat.reduceAdd, Nat.reduceSub, Nat.reduceLeDiff]
      exact ⟨i + 1, m, at_, rfl, ⟨by omega, by omega, by rw [hstep]; exact g3, by rw [if_neg (by omega), hstep, g4, if_neg hm]⟩, by omega⟩
  · have e : i.toNat = a.length := by omega
    rw [if_neg (by omega), e] at g4
    rw [e] at g3
    rw [← g4, ← g3]
    simp (maxSteps := 1000000) (disch := omega) only [go_sem, eq_self, decide_true, decide_false, not_true_eq_false, not_false_eq_true, reduceIte, reduceCtorEq, Nat.reduceEqDiff, Nat.reduceAdd, Nat.reduceSub, Nat.reduceLeDiff]
def doSt (a b : List Int) (i : Int) : AS := ⟨tabV [(0, ints false a), (1, ints false b), (6, iv (bst a b i.toNat)), (9, iv a.length), (10, iv i)], tabO [], tabO []⟩
end Go.Proofs.Ytggbcgldnjmobaa

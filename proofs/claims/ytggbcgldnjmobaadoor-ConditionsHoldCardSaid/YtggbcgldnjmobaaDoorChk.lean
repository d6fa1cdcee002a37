
/-
  What is wrong with samples, series, moments, windows: the program's answer and the reference's are one.
-/
import Derived.Test.YtggbcgldnjmobaaDoorAiGen
import Derived.Test.YtggbcgldnjmobaaDoorProg
namespace Go.Proofs.YtggbcgldnjmobaaDoor
open Go Go.Ai
set_option linter.unusedSimpArgs false
set_option linter.unusedVariables false
set_option maxHeartbeats 4000000
def A_out : List Ann := [⟨(some ⟨[0,1,2], [], []⟩), [], [], [], []⟩, ⟨(some ⟨[6], [], []⟩), [], [], [], []⟩]
def C_out : AC := (.seq (.reg false [⟨(some 6), none, .mv (.v (.bool false))⟩] (some ⟨[0,1,2], [], []⟩))
  (.seq (.reg false [⟨(some 7), none, .mv (.t 0)⟩, ⟨(some 8), none, .mv (.t 1)⟩, ⟨(some 9), none, .bin .lss (.t 7) (.t 8)⟩, ⟨(some 10), none, .mv (.t 9)⟩, ⟨(some 11), (some (10, false)), .mv (.t 0)⟩, ⟨(some 12), (some (10, false)), .mv (.t 2)⟩, ⟨(some 13), (some (10, false)), .bin .gtr (.t 11) (.t 12)⟩, ⟨(some 14), none, .pick (.t 10) (.v (.bool true)) (.t 13)⟩, ⟨(some 6), none, .mv (.t 14)⟩] (some ⟨[6], [], []⟩))
  .ret))
theorem c_out : compileCode Tryd.prog Tryd.f30.ntmps (Tryd.f30.body.getD .skip) A_out = some (C_out, []) := by kernel_rfl
theorem r_out : compileRes Tryd.prog Tryd.f30.results.toList = some [.t 6] := by kernel_rfl
theorem b_out : Tryd.f30.body = some (Tryd.f30.body.getD .skip) := by kernel_rfl
theorem n_out : (Tryd.f30.name == "runtime.NumGoroutine") = false := by kernel_rfl
theorem fc_out {xt : Option (List Cel)} {args : List Val} {R : List Cel → Val → Prop} (hn : (if xt.isSome then 1 else 0) + args.length ≤ Tryd.f30.ntmps) (h : ex Tryd.prog C_out [] (fpost xt [.t 6] R) (initSt xt args)) : FC Tryd.prog 30 xt args R :=
  fc_of_awp Tryd.func30 b_out n_out c_out r_out (of_decide_eq_true (by kernel_rfl)) hn h

def A_moment : List Ann := [⟨(some ⟨[0], [], []⟩), [], [], [], []⟩, ⟨(some ⟨[2], [], []⟩), [], [], [], []⟩]
def C_moment : AC := (.seq (.reg false [⟨(some 2), none, .mv (.v (.bool false))⟩] (some ⟨[0], [], []⟩))
  (.seq (.reg false [⟨(some 3), none, .mv (.t 0)⟩, ⟨(some 4), none, .call (.f 30) [(.t 3), (.v (.int .i64 (0))), (.v (.int .i64 (345686399999)))]⟩, ⟨(some 5), none, .un .not (.t 4)⟩, ⟨(some 2), none, .mv (.t 5)⟩] (some ⟨[2], [], []⟩))
  .ret))
theorem c_moment : compileCode Tryd.prog Tryd.f50.ntmps (Tryd.f50.body.getD .skip) A_moment = some (C_moment, []) := by kernel_rfl
theorem r_moment : compileRes Tryd.prog Tryd.f50.results.toList = some [.t 2] := by kernel_rfl
theorem b_moment : Tryd.f50.body = some (Tryd.f50.body.getD .skip) := by kernel_rfl
theorem n_moment : (Tryd.f50.name == "runtime.NumGoroutine") = false := by kernel_rfl
theorem fc_moment {xt : Option (List Cel)} {args : List Val} {R : List Cel → Val → Prop} (hn : (if xt.isSome then 1 else 0) + args.length ≤ Tryd.f50.ntmps) (h : ex Tryd.prog C_moment [] (fpost xt [.t 2] R) (initSt xt args)) : FC Tryd.prog 50 xt args R :=
  fc_of_awp Tryd.func50 b_moment n_moment c_moment r_moment (of_decide_eq_true (by kernel_rfl)) hn h

def A_checkSample : List Ann := [⟨(some ⟨[1], [1], []⟩), [], [], [], []⟩, ⟨(some ⟨[1,3], [1], []⟩), [], [], [], []⟩, ⟨(some ⟨[2], [], []⟩), [], [], [], []⟩, ⟨(some ⟨[1,8], [1], []⟩), [], [], [], []⟩, ⟨(some ⟨[2], [], []⟩), [], [], [], []⟩, ⟨(some ⟨[1,12], [1], []⟩), [], [], [], []⟩, ⟨(some ⟨[2], [], []⟩), [], [], [], []⟩, ⟨(some ⟨[16], [], []⟩), [], [], [], []⟩, ⟨(some ⟨[2], [], []⟩), [], [], [], []⟩, ⟨(some ⟨[2], [], []⟩), [], [], [], []⟩]
def C_checkSample : AC := (.seq (.reg false [⟨(some 1), none, .box (.t 0)⟩, ⟨(some 2), none, .mv (.v (.int .i64 (0)))⟩] (some ⟨[1], [1], []⟩))
  (.seq (.block 0 (.seq (.reg false [⟨(some 4), none, .fadr 0 (.t 1)⟩, ⟨(some 5), none, .load false 1 (.t 4)⟩, ⟨(some 6), none, .call (.f 50) [(.t 5)]⟩, ⟨(some 7), none, .un .not (.t 6)⟩, ⟨(some 3), none, .mv (.t 7)⟩] (some ⟨[1,3], [1], []⟩))
  (.cond (.t 3)
  (.seq (.reg false [⟨(some 2), none, .mv (.v (.int .i64 (1)))⟩] (some ⟨[2], [], []⟩))
  .ret)
  (.seq (.reg false [⟨(some 9), none, .fadr 2 (.t 1)⟩, ⟨(some 10), none, .load false 1 (.t 9)⟩, ⟨(some 11), none, .call (.f 30) [(.t 10), (.v (.int .i64 (0))), (.v (.int .i64 (2)))]⟩, ⟨(some 8), none, .mv (.t 11)⟩] (some ⟨[1,8], [1], []⟩))
  (.cond (.t 8)
  (.seq (.reg false [⟨(some 2), none, .mv (.v (.int .i64 (4)))⟩] (some ⟨[2], [], []⟩))
  .ret)
  (.seq (.reg false [⟨(some 13), none, .fadr 1 (.t 1)⟩, ⟨(some 14), none, .load false 1 (.t 13)⟩, ⟨(some 15), none, .call (.f 30) [(.t 14), (.v (.int .i64 (-1000000))), (.v (.int .i64 (1000000)))]⟩, ⟨(some 12), none, .mv (.t 15)⟩] (some ⟨[1,12], [1], []⟩))
  (.cond (.t 12)
  (.seq (.reg false [⟨(some 2), none, .mv (.v (.int .i64 (1)))⟩] (some ⟨[2], [], []⟩))
  .ret)
  (.seq (.reg false [⟨(some 17), none, .fadr 2 (.t 1)⟩, ⟨(some 18), none, .load false 1 (.t 17)⟩, ⟨(some 19), none, .bin .eql (.t 18) (.v (.int .i64 (2)))⟩, ⟨(some 20), none, .mv (.t 19)⟩, ⟨(some 21), (some (20, true)), .fadr 1 (.t 1)⟩, ⟨(some 22), (some (20, true)), .load false 1 (.t 21)⟩, ⟨(some 23), (some (20, true)), .bin .neq (.t 22) (.v (.int .i64 (0)))⟩, ⟨(some 24), none, .pick (.t 20) (.t 23) (.v (.bool false))⟩, ⟨(some 16), none, .mv (.t 24)⟩] (some ⟨[16], [], []⟩))
  (.cond (.t 16)
  (.seq (.reg false [⟨(some 2), none, .mv (.v (.int .i64 (3)))⟩] (some ⟨[2], [], []⟩))
  .ret)
  .skip)))))))))
  (.seq (.reg false [⟨(some 2), none, .mv (.v (.int .i64 (0)))⟩] (some ⟨[2], [], []⟩))
  .ret)))
theorem c_checkSample : compileCode Tryd.prog Tryd.f45.ntmps (Tryd.f45.body.getD .skip) A_checkSample = some (C_checkSample, []) := by kernel_rfl
theorem r_checkSample : compileRes Tryd.prog Tryd.f45.results.toList = some [.t 2] := by kernel_rfl
theorem b_checkSample : Tryd.f45.body = some (Tryd.f45.body.getD .skip) := by kernel_rfl
theorem n_checkSample : (Tryd.f45.name == "runtime.NumGoroutine") = false := by kernel_rfl
theorem fc_checkSample {xt : Option (List Cel)} {args : List Val} {R : List Cel → Val → Prop} (hn : (if xt.isSome then 1 else 0) + args.length ≤ Tryd.f45.ntmps) (h : ex Tryd.prog C_checkSample [] (fpost xt [.t 2] R) (initSt xt args)) : FC Tryd.prog 45 xt args R :=
  fc_of_awp Tryd.func45 b_checkSample n_checkSample c_checkSample r_checkSample (of_decide_eq_true (by kernel_rfl)) hn h

def A_checkSeries : List Ann := [⟨(some ⟨[0], [], []⟩), [], [], [], []⟩, ⟨(some ⟨[0,8], [], []⟩), [], [], [], []⟩, ⟨(some ⟨[2], [], []⟩), [], [], [], []⟩, ⟨(some ⟨[0,9,10,11], [], []⟩), [], [], [], []⟩, ⟨(some ⟨[0,9,10,11,12], [], []⟩), [], [], [], []⟩, ⟨(some ⟨[0,3,4,9,10,11], [4], []⟩), [], [], [], []⟩, ⟨(some ⟨[0,3,4,5,9,10,11], [4], []⟩), [], [], [], []⟩, ⟨(some ⟨[0,3,4,5,9,10,11,19], [4], []⟩), [], [], [], []⟩, ⟨(some ⟨[2], [], []⟩), [], [], [], []⟩, ⟨(some ⟨[0,9,10,11,33], [], []⟩), [], [], [], []⟩, ⟨(some ⟨[2], [], []⟩), [], [], [], []⟩, ⟨(some ⟨[0,9,10,11], [], []⟩), [], [], [], []⟩, ⟨(some ⟨[2], [], []⟩), [], [], [], []⟩]
def C_checkSeries : AC := (.seq (.reg false [⟨(some 2), none, .mv (.v (.int .i64 (0)))⟩] (some ⟨[0], [], []⟩))
  (.seq (.seq (.reg false [⟨(some 6), none, .mv (.t 0)⟩, ⟨(some 7), none, .len (.t 6)⟩, ⟨(some 8), none, .bin .gtr (.t 7) (.v (.int .i64 (5000)))⟩] (some ⟨[0,8], [], []⟩))
  (.cond (.t 8)
  (.seq (.reg false [⟨(some 2), none, .mv (.v (.int .i64 (2)))⟩] (some ⟨[2], [], []⟩))
  .ret)
  .skip))
  (.seq (.seq (.reg false [⟨(some 9), none, .mv (.t 0)⟩, ⟨(some 10), none, .len (.t 9)⟩, ⟨(some 11), none, .mv (.v (.int .i64 (0)))⟩] (some ⟨[0,9,10,11], [], []⟩))
  (.block 0 (.loop (.seq (.reg false [⟨(some 12), none, .bin .lss (.t 11) (.t 10)⟩] (some ⟨[0,9,10,11,12], [], []⟩))
  (.seq (.cond (.t 12)
  .skip
  (.exit 0))
  (.seq (.block 1 (.seq (.reg false [⟨(some 13), none, .mv (.t 11)⟩, ⟨(some 14), none, .iadr 3 (.t 9) (.t 11)⟩, ⟨(some 15), none, .load true 3 (.t 14)⟩, ⟨(some 4), none, .alloc [(.int .i64 (0)), (.int .i64 (0)), (.int .i64 (0))]⟩, ⟨(some 3), none, .mv (.t 13)⟩, ⟨none, none, .store 3 (.t 4) (.t 15)⟩] (some ⟨[0,3,4,9,10,11], [4], []⟩))
  (.seq (.seq (.reg false [⟨(some 16), none, .load true 3 (.t 4)⟩, ⟨(some 17), none, .call (.f 45) [(.t 16)]⟩, ⟨(some 5), none, .mv (.t 17)⟩] (some ⟨[0,3,4,5,9,10,11], [4], []⟩))
  (.seq (.reg false [⟨(some 18), none, .mv (.t 5)⟩, ⟨(some 19), none, .bin .neq (.t 18) (.v (.int .i64 (0)))⟩] (some ⟨[0,3,4,5,9,10,11,19], [4], []⟩))
  (.cond (.t 19)
  (.seq (.reg false [⟨(some 20), none, .mv (.t 5)⟩, ⟨(some 2), none, .mv (.t 20)⟩] (some ⟨[2], [], []⟩))
  .ret)
  .skip)))
  (.seq (.reg true [⟨(some 21), none, .mv (.t 3)⟩, ⟨(some 22), none, .bin .gtr (.t 21) (.v (.int .i64 (0)))⟩, ⟨(some 23), none, .mv (.t 22)⟩, ⟨(some 24), (some (23, true)), .fadr 0 (.t 4)⟩, ⟨(some 25), (some (23, true)), .load false 1 (.t 24)⟩, ⟨(some 26), (some (23, true)), .mv (.t 0)⟩, ⟨(some 27), (some (23, true)), .mv (.t 3)⟩, ⟨(some 28), (some (23, true)), .bin .sub (.t 27) (.v (.int .i64 (1)))⟩, ⟨(some 29), (some (23, true)), .iadr 3 (.t 26) (.t 28)⟩, ⟨(some 30), (some (23, true)), .fadr 0 (.t 29)⟩, ⟨(some 31), (some (23, true)), .load false 1 (.t 30)⟩, ⟨(some 32), (some (23, true)), .bin .leq (.t 25) (.t 31)⟩, ⟨(some 33), none, .pick (.t 23) (.t 32) (.v (.bool false))⟩] (some ⟨[0,9,10,11,33], [], []⟩))
  (.cond (.t 33)
  (.seq (.reg false [⟨(some 2), none, .mv (.v (.int .i64 (7)))⟩] (some ⟨[2], [], []⟩))
  .ret)
  .skip)))))
  (.reg false [⟨(some 34), none, .bin .add (.t 11) (.v (.int .i64 (1)))⟩, ⟨(some 11), none, .mv (.t 34)⟩] (some ⟨[0,9,10,11], [], []⟩))))))))
  (.seq (.reg false [⟨(some 2), none, .mv (.v (.int .i64 (0)))⟩] (some ⟨[2], [], []⟩))
  .ret))))
theorem c_checkSeries : compileCode Tryd.prog Tryd.f29.ntmps (Tryd.f29.body.getD .skip) A_checkSeries = some (C_checkSeries, []) := by kernel_rfl
theorem r_checkSeries : compileRes Tryd.prog Tryd.f29.results.toList = some [.t 2] := by kernel_rfl
theorem b_checkSeries : Tryd.f29.body = some (Tryd.f29.body.getD .skip) := by kernel_rfl
theorem n_checkSeries : (Tryd.f29.name == "runtime.NumGoroutine") = false := by kernel_rfl
theorem fc_checkSeries {xt : Option (List Cel)} {args : List Val} {R : List Cel → Val → Prop} (hn : (if xt.isSome then 1 else 0) + args.length ≤ Tryd.f29.ntmps) (h : ex Tryd.prog C_checkSeries [] (fpost xt [.t 2] R) (initSt xt args)) : FC Tryd.prog 29 xt args R :=
  fc_of_awp Tryd.func29 b_checkSeries n_checkSeries c_checkSeries r_checkSeries (of_decide_eq_true (by kernel_rfl)) hn h

def A_in_ : List Ann := [⟨(some ⟨[0,1,2], [], []⟩), [], [], [], []⟩, ⟨(some ⟨[6], [], []⟩), [], [], [], []⟩]
def C_in_ : AC := (.seq (.reg false [⟨(some 6), none, .mv (.v (.bool false))⟩] (some ⟨[0,1,2], [], []⟩))
  (.seq (.reg false [⟨(some 7), none, .mv (.t 1)⟩, ⟨(some 8), none, .mv (.t 0)⟩, ⟨(some 9), none, .bin .leq (.t 7) (.t 8)⟩, ⟨(some 10), none, .mv (.t 9)⟩, ⟨(some 11), (some (10, true)), .mv (.t 0)⟩, ⟨(some 12), (some (10, true)), .mv (.t 2)⟩, ⟨(some 13), (some (10, true)), .bin .leq (.t 11) (.t 12)⟩, ⟨(some 14), none, .pick (.t 10) (.t 13) (.v (.bool false))⟩, ⟨(some 6), none, .mv (.t 14)⟩] (some ⟨[6], [], []⟩))
  .ret))
theorem c_in_ : compileCode Tryd.prog Tryd.f42.ntmps (Tryd.f42.body.getD .skip) A_in_ = some (C_in_, []) := by kernel_rfl
theorem r_in_ : compileRes Tryd.prog Tryd.f42.results.toList = some [.t 6] := by kernel_rfl
theorem b_in_ : Tryd.f42.body = some (Tryd.f42.body.getD .skip) := by kernel_rfl
theorem n_in_ : (Tryd.f42.name == "runtime.NumGoroutine") = false := by kernel_rfl
theorem fc_in_ {xt : Option (List Cel)} {args : List Val} {R : List Cel → Val → Prop} (hn : (if xt.isSome then 1 else 0) + args.length ≤ Tryd.f42.ntmps) (h : ex Tryd.prog C_in_ [] (fpost xt [.t 6] R) (initSt xt args)) : FC Tryd.prog 42 xt args R :=
  fc_of_awp Tryd.func42 b_in_ n_in_ c_in_ r_in_ (of_decide_eq_true (by kernel_rfl)) hn h

def A_rmoment2 : List Ann := [⟨(some ⟨[0], [], []⟩), [], [], [], []⟩, ⟨(some ⟨[2], [], []⟩), [], [], [], []⟩]
def C_rmoment2 : AC := (.seq (.reg false [⟨(some 2), none, .mv (.v (.bool false))⟩] (some ⟨[0], [], []⟩))
  (.seq (.reg false [⟨(some 3), none, .mv (.t 0)⟩, ⟨(some 4), none, .call (.f 42) [(.t 3), (.v (.int .i64 (0))), (.v (.int .i64 (345686399999)))]⟩, ⟨(some 2), none, .mv (.t 4)⟩] (some ⟨[2], [], []⟩))
  .ret))
theorem c_rmoment2 : compileCode Tryd.prog Tryd.f41.ntmps (Tryd.f41.body.getD .skip) A_rmoment2 = some (C_rmoment2, []) := by kernel_rfl
theorem r_rmoment2 : compileRes Tryd.prog Tryd.f41.results.toList = some [.t 2] := by kernel_rfl
theorem b_rmoment2 : Tryd.f41.body = some (Tryd.f41.body.getD .skip) := by kernel_rfl
theorem n_rmoment2 : (Tryd.f41.name == "runtime.NumGoroutine") = false := by kernel_rfl
theorem fc_rmoment2 {xt : Option (List Cel)} {args : List Val} {R : List Cel → Val → Prop} (hn : (if xt.isSome then 1 else 0) + args.length ≤ Tryd.f41.ntmps) (h : ex Tryd.prog C_rmoment2 [] (fpost xt [.t 2] R) (initSt xt args)) : FC Tryd.prog 41 xt args R :=
  fc_of_awp Tryd.func41 b_rmoment2 n_rmoment2 c_rmoment2 r_rmoment2 (of_decide_eq_true (by kernel_rfl)) hn h

def A_sampleFault : List Ann := [⟨(some ⟨[1], [1], []⟩), [], [], [], []⟩, ⟨(some ⟨[1,3], [1], []⟩), [], [], [], []⟩, ⟨(some ⟨[2], [], []⟩), [], [], [], []⟩, ⟨(some ⟨[1,8], [1], []⟩), [], [], [], []⟩, ⟨(some ⟨[2], [], []⟩), [], [], [], []⟩, ⟨(some ⟨[1,13], [1], []⟩), [], [], [], []⟩, ⟨(some ⟨[2], [], []⟩), [], [], [], []⟩, ⟨(some ⟨[18], [], []⟩), [], [], [], []⟩, ⟨(some ⟨[2], [], []⟩), [], [], [], []⟩, ⟨(some ⟨[2], [], []⟩), [], [], [], []⟩]
def C_sampleFault : AC := (.seq (.reg false [⟨(some 1), none, .box (.t 0)⟩, ⟨(some 2), none, .mv (.v (.int .i64 (0)))⟩] (some ⟨[1], [1], []⟩))
  (.seq (.block 0 (.seq (.reg false [⟨(some 4), none, .fadr 0 (.t 1)⟩, ⟨(some 5), none, .load false 1 (.t 4)⟩, ⟨(some 6), none, .call (.f 41) [(.t 5)]⟩, ⟨(some 7), none, .un .not (.t 6)⟩, ⟨(some 3), none, .mv (.t 7)⟩] (some ⟨[1,3], [1], []⟩))
  (.cond (.t 3)
  (.seq (.reg false [⟨(some 2), none, .mv (.v (.int .i64 (1)))⟩] (some ⟨[2], [], []⟩))
  .ret)
  (.seq (.reg false [⟨(some 9), none, .fadr 2 (.t 1)⟩, ⟨(some 10), none, .load false 1 (.t 9)⟩, ⟨(some 11), none, .call (.f 42) [(.t 10), (.v (.int .i64 (0))), (.v (.int .i64 (2)))]⟩, ⟨(some 12), none, .un .not (.t 11)⟩, ⟨(some 8), none, .mv (.t 12)⟩] (some ⟨[1,8], [1], []⟩))
  (.cond (.t 8)
  (.seq (.reg false [⟨(some 2), none, .mv (.v (.int .i64 (4)))⟩] (some ⟨[2], [], []⟩))
  .ret)
  (.seq (.reg false [⟨(some 14), none, .fadr 1 (.t 1)⟩, ⟨(some 15), none, .load false 1 (.t 14)⟩, ⟨(some 16), none, .call (.f 42) [(.t 15), (.v (.int .i64 (-1000000))), (.v (.int .i64 (1000000)))]⟩, ⟨(some 17), none, .un .not (.t 16)⟩, ⟨(some 13), none, .mv (.t 17)⟩] (some ⟨[1,13], [1], []⟩))
  (.cond (.t 13)
  (.seq (.reg false [⟨(some 2), none, .mv (.v (.int .i64 (1)))⟩] (some ⟨[2], [], []⟩))
  .ret)
  (.seq (.reg false [⟨(some 19), none, .fadr 2 (.t 1)⟩, ⟨(some 20), none, .load false 1 (.t 19)⟩, ⟨(some 21), none, .bin .eql (.t 20) (.v (.int .i64 (2)))⟩, ⟨(some 22), none, .mv (.t 21)⟩, ⟨(some 23), (some (22, true)), .fadr 1 (.t 1)⟩, ⟨(some 24), (some (22, true)), .load false 1 (.t 23)⟩, ⟨(some 25), (some (22, true)), .bin .neq (.t 24) (.v (.int .i64 (0)))⟩, ⟨(some 26), none, .pick (.t 22) (.t 25) (.v (.bool false))⟩, ⟨(some 18), none, .mv (.t 26)⟩] (some ⟨[18], [], []⟩))
  (.cond (.t 18)
  (.seq (.reg false [⟨(some 2), none, .mv (.v (.int .i64 (3)))⟩] (some ⟨[2], [], []⟩))
  .ret)
  .skip)))))))))
  (.seq (.reg false [⟨(some 2), none, .mv (.v (.int .i64 (0)))⟩] (some ⟨[2], [], []⟩))
  .ret)))
theorem c_sampleFault : compileCode Tryd.prog Tryd.f23.ntmps (Tryd.f23.body.getD .skip) A_sampleFault = some (C_sampleFault, []) := by kernel_rfl
theorem r_sampleFault : compileRes Tryd.prog Tryd.f23.results.toList = some [.t 2] := by kernel_rfl
theorem b_sampleFault : Tryd.f23.body = some (Tryd.f23.body.getD .skip) := by kernel_rfl
theorem n_sampleFault : (Tryd.f23.name == "runtime.NumGoroutine") = false := by kernel_rfl
theorem fc_sampleFault {xt : Option (List Cel)} {args : List Val} {R : List Cel → Val → Prop} (hn : (if xt.isSome then 1 else 0) + args.length ≤ Tryd.f23.ntmps) (h : ex Tryd.prog C_sampleFault [] (fpost xt [.t 2] R) (initSt xt args)) : FC Tryd.prog 23 xt args R :=
  fc_of_awp Tryd.func23 b_sampleFault n_sampleFault c_sampleFault r_sampleFault (of_decide_eq_true (by kernel_rfl)) hn h

def A_seriesFault : List Ann := [⟨(some ⟨[0], [], []⟩), [], [], [], []⟩, ⟨(some ⟨[0,8], [], []⟩), [], [], [], []⟩, ⟨(some ⟨[2], [], []⟩), [], [], [], []⟩, ⟨(some ⟨[0,9,10,11], [], []⟩), [], [], [], []⟩, ⟨(some ⟨[0,9,10,11,12], [], []⟩), [], [], [], []⟩, ⟨(some ⟨[0,3,4,9,10,11], [4], []⟩), [], [], [], []⟩, ⟨(some ⟨[0,3,4,5,9,10,11], [4], []⟩), [], [], [], []⟩, ⟨(some ⟨[0,3,4,5,9,10,11,19], [4], []⟩), [], [], [], []⟩, ⟨(some ⟨[2], [], []⟩), [], [], [], []⟩, ⟨(some ⟨[0,9,10,11,33], [], []⟩), [], [], [], []⟩, ⟨(some ⟨[2], [], []⟩), [], [], [], []⟩, ⟨(some ⟨[0,9,10,11], [], []⟩), [], [], [], []⟩, ⟨(some ⟨[2], [], []⟩), [], [], [], []⟩]
def C_seriesFault : AC := (.seq (.reg false [⟨(some 2), none, .mv (.v (.int .i64 (0)))⟩] (some ⟨[0], [], []⟩))
  (.seq (.seq (.reg false [⟨(some 6), none, .mv (.t 0)⟩, ⟨(some 7), none, .len (.t 6)⟩, ⟨(some 8), none, .bin .gtr (.t 7) (.v (.int .i64 (5000)))⟩] (some ⟨[0,8], [], []⟩))
  (.cond (.t 8)
  (.seq (.reg false [⟨(some 2), none, .mv (.v (.int .i64 (2)))⟩] (some ⟨[2], [], []⟩))
  .ret)
  .skip))
  (.seq (.seq (.reg false [⟨(some 9), none, .mv (.t 0)⟩, ⟨(some 10), none, .len (.t 9)⟩, ⟨(some 11), none, .mv (.v (.int .i64 (0)))⟩] (some ⟨[0,9,10,11], [], []⟩))
  (.block 0 (.loop (.seq (.reg false [⟨(some 12), none, .bin .lss (.t 11) (.t 10)⟩] (some ⟨[0,9,10,11,12], [], []⟩))
  (.seq (.cond (.t 12)
  .skip
  (.exit 0))
  (.seq (.block 1 (.seq (.reg false [⟨(some 13), none, .mv (.t 11)⟩, ⟨(some 14), none, .iadr 3 (.t 9) (.t 11)⟩, ⟨(some 15), none, .load true 3 (.t 14)⟩, ⟨(some 4), none, .alloc [(.int .i64 (0)), (.int .i64 (0)), (.int .i64 (0))]⟩, ⟨(some 3), none, .mv (.t 13)⟩, ⟨none, none, .store 3 (.t 4) (.t 15)⟩] (some ⟨[0,3,4,9,10,11], [4], []⟩))
  (.seq (.seq (.reg false [⟨(some 16), none, .load true 3 (.t 4)⟩, ⟨(some 17), none, .call (.f 23) [(.t 16)]⟩, ⟨(some 5), none, .mv (.t 17)⟩] (some ⟨[0,3,4,5,9,10,11], [4], []⟩))
  (.seq (.reg false [⟨(some 18), none, .mv (.t 5)⟩, ⟨(some 19), none, .bin .neq (.t 18) (.v (.int .i64 (0)))⟩] (some ⟨[0,3,4,5,9,10,11,19], [4], []⟩))
  (.cond (.t 19)
  (.seq (.reg false [⟨(some 20), none, .mv (.t 5)⟩, ⟨(some 2), none, .mv (.t 20)⟩] (some ⟨[2], [], []⟩))
  .ret)
  .skip)))
  (.seq (.reg true [⟨(some 21), none, .mv (.t 3)⟩, ⟨(some 22), none, .bin .gtr (.t 21) (.v (.int .i64 (0)))⟩, ⟨(some 23), none, .mv (.t 22)⟩, ⟨(some 24), (some (23, true)), .fadr 0 (.t 4)⟩, ⟨(some 25), (some (23, true)), .load false 1 (.t 24)⟩, ⟨(some 26), (some (23, true)), .mv (.t 0)⟩, ⟨(some 27), (some (23, true)), .mv (.t 3)⟩, ⟨(some 28), (some (23, true)), .bin .sub (.t 27) (.v (.int .i64 (1)))⟩, ⟨(some 29), (some (23, true)), .iadr 3 (.t 26) (.t 28)⟩, ⟨(some 30), (some (23, true)), .fadr 0 (.t 29)⟩, ⟨(some 31), (some (23, true)), .load false 1 (.t 30)⟩, ⟨(some 32), (some (23, true)), .bin .leq (.t 25) (.t 31)⟩, ⟨(some 33), none, .pick (.t 23) (.t 32) (.v (.bool false))⟩] (some ⟨[0,9,10,11,33], [], []⟩))
  (.cond (.t 33)
  (.seq (.reg false [⟨(some 2), none, .mv (.v (.int .i64 (7)))⟩] (some ⟨[2], [], []⟩))
  .ret)
  .skip)))))
  (.reg false [⟨(some 34), none, .bin .add (.t 11) (.v (.int .i64 (1)))⟩, ⟨(some 11), none, .mv (.t 34)⟩] (some ⟨[0,9,10,11], [], []⟩))))))))
  (.seq (.reg false [⟨(some 2), none, .mv (.v (.int .i64 (0)))⟩] (some ⟨[2], [], []⟩))
  .ret))))
theorem c_seriesFault : compileCode Tryd.prog Tryd.f11.ntmps (Tryd.f11.body.getD .skip) A_seriesFault = some (C_seriesFault, []) := by kernel_rfl
theorem r_seriesFault : compileRes Tryd.prog Tryd.f11.results.toList = some [.t 2] := by kernel_rfl
theorem b_seriesFault : Tryd.f11.body = some (Tryd.f11.body.getD .skip) := by kernel_rfl
theorem n_seriesFault : (Tryd.f11.name == "runtime.NumGoroutine") = false := by kernel_rfl
theorem fc_seriesFault {xt : Option (List Cel)} {args : List Val} {R : List Cel → Val → Prop} (hn : (if xt.isSome then 1 else 0) + args.length ≤ Tryd.f11.ntmps) (h : ex Tryd.prog C_seriesFault [] (fpost xt [.t 2] R) (initSt xt args)) : FC Tryd.prog 11 xt args R :=
  fc_of_awp Tryd.func11 b_seriesFault n_seriesFault c_seriesFault r_seriesFault (of_decide_eq_true (by kernel_rfl)) hn h

def A_spanFault1 : List Ann := [⟨(some ⟨[0,1,2], [], []⟩), [], [], [], []⟩, ⟨(some ⟨[11], [], []⟩), [], [], [], []⟩, ⟨(some ⟨[6], [], []⟩), [], [], [], []⟩, ⟨(some ⟨[6], [], []⟩), [], [], [], []⟩]
def C_spanFault1 : AC := (.seq (.reg false [⟨(some 6), none, .mv (.v (.int .i64 (0)))⟩] (some ⟨[0,1,2], [], []⟩))
  (.seq (.seq (.reg false [⟨(some 7), none, .mv (.t 0)⟩, ⟨(some 8), none, .mv (.t 1)⟩, ⟨(some 9), none, .mv (.t 2)⟩, ⟨(some 10), none, .call (.f 24) [(.t 7), (.t 8), (.t 9)]⟩, ⟨(some 11), none, .un .not (.t 10)⟩] (some ⟨[11], [], []⟩))
  (.cond (.t 11)
  (.seq (.reg false [⟨(some 6), none, .mv (.v (.int .i64 (1)))⟩] (some ⟨[6], [], []⟩))
  .ret)
  .skip))
  (.seq (.reg false [⟨(some 6), none, .mv (.v (.int .i64 (0)))⟩] (some ⟨[6], [], []⟩))
  .ret)))
theorem c_spanFault1 : compileCode Tryd.prog Tryd.f12.ntmps (Tryd.f12.body.getD .skip) A_spanFault1 = some (C_spanFault1, []) := by kernel_rfl
theorem r_spanFault1 : compileRes Tryd.prog Tryd.f12.results.toList = some [.t 6] := by kernel_rfl
theorem b_spanFault1 : Tryd.f12.body = some (Tryd.f12.body.getD .skip) := by kernel_rfl
theorem n_spanFault1 : (Tryd.f12.name == "runtime.NumGoroutine") = false := by kernel_rfl
theorem fc_spanFault1 {xt : Option (List Cel)} {args : List Val} {R : List Cel → Val → Prop} (hn : (if xt.isSome then 1 else 0) + args.length ≤ Tryd.f12.ntmps) (h : ex Tryd.prog C_spanFault1 [] (fpost xt [.t 6] R) (initSt xt args)) : FC Tryd.prog 12 xt args R :=
  fc_of_awp Tryd.func12 b_spanFault1 n_spanFault1 c_spanFault1 r_spanFault1 (of_decide_eq_true (by kernel_rfl)) hn h

def A_rin1 : List Ann := [⟨(some ⟨[0,1,2], [], []⟩), [], [], [], []⟩, ⟨(some ⟨[6], [], []⟩), [], [], [], []⟩]
def C_rin1 : AC := (.seq (.reg false [⟨(some 6), none, .mv (.v (.bool false))⟩] (some ⟨[0,1,2], [], []⟩))
  (.seq (.reg false [⟨(some 7), none, .mv (.t 1)⟩, ⟨(some 8), none, .mv (.t 0)⟩, ⟨(some 9), none, .bin .leq (.t 7) (.t 8)⟩, ⟨(some 10), none, .mv (.t 9)⟩, ⟨(some 11), (some (10, true)), .mv (.t 0)⟩, ⟨(some 12), (some (10, true)), .mv (.t 2)⟩, ⟨(some 13), (some (10, true)), .bin .leq (.t 11) (.t 12)⟩, ⟨(some 14), none, .pick (.t 10) (.t 13) (.v (.bool false))⟩, ⟨(some 6), none, .mv (.t 14)⟩] (some ⟨[6], [], []⟩))
  .ret))
theorem c_rin1 : compileCode Tryd.prog Tryd.f24.ntmps (Tryd.f24.body.getD .skip) A_rin1 = some (C_rin1, []) := by kernel_rfl
theorem r_rin1 : compileRes Tryd.prog Tryd.f24.results.toList = some [.t 6] := by kernel_rfl
theorem b_rin1 : Tryd.f24.body = some (Tryd.f24.body.getD .skip) := by kernel_rfl
theorem n_rin1 : (Tryd.f24.name == "runtime.NumGoroutine") = false := by kernel_rfl
theorem fc_rin1 {xt : Option (List Cel)} {args : List Val} {R : List Cel → Val → Prop} (hn : (if xt.isSome then 1 else 0) + args.length ≤ Tryd.f24.ntmps) (h : ex Tryd.prog C_rin1 [] (fpost xt [.t 6] R) (initSt xt args)) : FC Tryd.prog 24 xt args R :=
  fc_of_awp Tryd.func24 b_rin1 n_rin1 c_rin1 r_rin1 (of_decide_eq_true (by kernel_rfl)) hn h



abbrev smpV (x : Smp) : Val := .ag (smpC x)
abbrev winV (f t : Int) : Val := .ag [.g (.int .i64 f), .g (.int .i64 t)]
def MAXT : Int := 345686399999
def smpFault (x : Smp) : Int := if x.a < 0 ∨ x.a > 345686399999 then 1 else if x.q < 0 ∨ x.q > 2 then 4 else if x.v < -1000000 ∨ x.v > 1000000 then 1 else if x.q = 2 ∧ x.v ≠ 0 then 3 else 0
def serGo : Option Smp → List Smp → Int
  | _, [] => 0
  | p, x :: t => if smpFault x ≠ 0 then smpFault x else if (match p with | none => false | some y => decide (x.a ≤ y.a)) then 7 else serGo (some x) t
def serFault (l : List Smp) : Int := if 5000 < l.length then 2 else serGo none l
def winFault (f t : Int) : Int := if f < 0 ∨ f > t ∨ t > 345686400000 then 1 else 0

theorem out_fc (n lo hi : Int) : FC Tryd.prog 30 none [iv n, iv lo, iv hi] (fun _ r => r = bv (decide (n < lo ∨ n > hi))) := by
  refine fc_out (by simp +arith) ?_
  unfold C_out
  simp (maxSteps := 1000000) (disch := omega) only [go_sem, eq_self, decide_true, decide_false, not_true_eq_false, not_false_eq_true, reduceIte, reduceCtorEq, Nat.reduceEqDiff, Nat.reduceAdd, Nat.reduceSub, Nat.reduceLeDiff]
  by_cases h : n < lo <;> simp [h]
theorem moment_fc (n : Int) : FC Tryd.prog 50 none [iv n] (fun _ r => r = bv (decide (0 ≤ n ∧ n ≤ 345686399999))) := by
  refine fc_moment (by simp +arith) ?_
  unfold C_moment
  simp (maxSteps := 1000000) (disch := omega) only [go_sem, eq_self, decide_true, decide_false, not_true_eq_false, not_false_eq_true, reduceIte, reduceCtorEq, Nat.reduceEqDiff, Nat.reduceAdd, Nat.reduceSub, Nat.reduceLeDiff]
  refine CALL_det (out_fc _ _ _) (.inl rfl) ?_
  simp (maxSteps := 1000000) (disch := omega) only [go_sem, eq_self, decide_true, decide_false, not_true_eq_false, not_false_eq_true, reduceIte, reduceCtorEq, Nat.reduceEqDiff, Nat.reduceAdd, Nat.reduceSub, Nat.reduceLeDiff]
  exact (bv_congr (by first | (simp; done) | (simp; omega)))
theorem checkSample_fc (x : Smp) : FC Tryd.prog 45 none [smpV x] (fun _ r => r = iv (smpFault x)) := by
  refine fc_checkSample (by simp +arith) ?_
  unfold C_checkSample
  simp (maxSteps := 1000000) (disch := omega) only [go_sem, eq_self, decide_true, decide_false, not_true_eq_false, not_false_eq_true, reduceIte, reduceCtorEq, Nat.reduceEqDiff, Nat.reduceAdd, Nat.reduceSub, Nat.reduceLeDiff]
  refine CALL_det (moment_fc _) (.inl rfl) ?_
  simp (maxSteps := 1000000) (disch := omega) only [go_sem, eq_self, decide_true, decide_false, not_true_eq_false, not_false_eq_true, reduceIte, reduceCtorEq, Nat.reduceEqDiff, Nat.reduceAdd, Nat.reduceSub, Nat.reduceLeDiff]
  refine ⟨fun h1 => (iv_congr (by simp only [smpFault]; (repeat' split) <;> (first | omega | simp_all <;> omega))), fun h1 => ?_⟩
  refine CALL_det (out_fc _ _ _) (.inl rfl) ?_
  simp (maxSteps := 1000000) (disch := omega) only [go_sem, eq_self, decide_true, decide_false, not_true_eq_false, not_false_eq_true, reduceIte, reduceCtorEq, Nat.reduceEqDiff, Nat.reduceAdd, Nat.reduceSub, Nat.reduceLeDiff]
  refine ⟨fun h2 => (iv_congr (by simp only [smpFault]; (repeat' split) <;> (first | omega | simp_all <;> omega))), fun h2 => ?_⟩
  refine CALL_det (out_fc _ _ _) (.inl rfl) ?_
  simp (maxSteps := 1000000) (disch := omega) only [go_sem, eq_self, decide_true, decide_false, not_true_eq_false, not_false_eq_true, reduceIte, reduceCtorEq, Nat.reduceEqDiff, Nat.reduceAdd, Nat.reduceSub, Nat.reduceLeDiff]
  refine ⟨fun h3 => (iv_congr (by simp only [smpFault]; (repeat' split) <;> (first | omega | simp_all <;> omega))), fun h3 => ⟨fun h4 => ⟨fun h5 => (iv_congr (by simp only [smpFault]; (repeat' split) <;> (first | omega | simp_all <;> omega))), fun h5 => (iv_congr (by simp only [smpFault]; (repeat' split) <;> (first | omega | simp_all <;> omega)))⟩, fun h4 => (iv_congr (by simp only [smpFault]; (repeat' split) <;> (first | omega | simp_all <;> omega)))⟩⟩
theorem serFault_ok {l : List Smp} (h : serFault l = 0) : l.length ≤ 5000 ∧ serGo none l = 0 := by
  unfold serFault at h; split at h
  · omega
  · exact ⟨by omega, h⟩
/-- The sample ahead of number i. -/
def prv (l : List Smp) (i : Nat) : Option Smp := if i = 0 then none else some (l.getD (i - 1) default)
theorem serGo_step (l : List Smp) (i : Nat) (h : i < l.length) : serGo (prv l i) (l.drop i) = if smpFault (l.getD i default) ≠ 0 then smpFault (l.getD i default) else if (0 < i ∧ (l.getD i default).a ≤ (l.getD (i - 1) default).a) then 7 else serGo (prv l (i + 1)) (l.drop (i + 1)) := by
  have e : l.drop i = l.getD i default :: l.drop (i + 1) := by
    rw [List.drop_eq_getElem_cons h]; simp [List.getD_eq_getElem?_getD, h]
  rw [e, serGo.eq_def]
  simp only []
  by_cases hi : i = 0
  · subst hi; simp [prv]
  · have : 0 < i := by omega
    simp [prv, hi, this]
def csSt (l : List Smp) (i : Int) : AS := ⟨tabV [(0, smps false l), (9, smps false l), (10, iv l.length), (11, iv i)], tabO [], tabO []⟩
theorem checkSeries_fc (l : List Smp) (hl : l.length ≤ 4611686018427387904) : FC Tryd.prog 29 none [smps false l] (fun _ r => r = iv (serFault l)) := by
  refine fc_checkSeries (by simp +arith) ?_
  unfold C_checkSeries
  simp (maxSteps := 1000000) (disch := omega) only [go_sem, eq_self, decide_true, decide_false, not_true_eq_false, not_false_eq_true, reduceIte, reduceCtorEq, Nat.reduceEqDiff, Nat.reduceAdd, Nat.reduceSub, Nat.reduceLeDiff]
  refine ⟨fun h => iv_congr (by unfold serFault; rw [if_pos (by omega)]), fun h => ?_⟩
  refine ex_loopI (csSt l) (fun i => 0 ≤ i ∧ i ≤ l.length ∧ serGo (prv l i.toNat) (l.drop i.toNat) = serFault l) (fun i => (l.length - i).toNat) 0 ⟨by omega, by omega, by unfold serFault; rw [if_neg (by omega)]; rfl⟩ rfl ?_
  rintro i ⟨g1, g2, g3⟩
  unfold csSt
  simp (maxSteps := 1000000) (disch := omega) only [go_sem, eq_self, decide_true, decide_false, not_true_eq_false, not_false_eq_true, reduceIte, reduceCtorEq, Nat.reduceEqDiff, Nat.reduceAdd, Nat.reduceSub, Nat.reduceLeDiff]
  refine ⟨fun hi => and_then ⟨by omega, by omega⟩ fun _ => ?_, fun hi => ?_⟩
  · have g4 := serGo_step l i.toNat (by omega)
    rw [g3] at g4
    rw [getD_map_in smpC l i.toNat [] (by omega)]
    simp (maxSteps := 1000000) (disch := omega) only [go_sem, eq_self, decide_true, decide_false, not_true_eq_false, not_false_eq_true, reduceIte, reduceCtorEq, Nat.reduceEqDiff, Nat.reduceAdd, Nat.reduceSub, Nat.reduceLeDiff]
    refine CALL_det (checkSample_fc _) (.inl rfl) ?_
    simp (maxSteps := 1000000) (disch := omega) only [go_sem, eq_self, decide_true, decide_false, not_true_eq_false, not_false_eq_true, reduceIte, reduceCtorEq, Nat.reduceEqDiff, Nat.reduceAdd, Nat.reduceSub, Nat.reduceLeDiff]
    have e1 : (i - 1).toNat = i.toNat - 1 := by omega
    have e2 : (i + 1).toNat = i.toNat + 1 := by omega
    rw [e1]
    refine ⟨fun h1 => iv_congr (by rw [g4, if_pos h1]), fun h1 => ⟨fun h2 => ⟨⟨by omega, by omega⟩, fun h3 => iv_congr (by rw [g4, if_neg h1, if_pos ⟨by omega, h3⟩]), fun h3 => ⟨i + 1, ⟨by omega, by omega, ?_⟩, rfl, by omega⟩⟩, fun h2 => ⟨i + 1, ⟨by omega, by omega, ?_⟩, rfl, by omega⟩⟩⟩
    · rw [g4, if_neg h1, if_neg (fun h => h3 h.2), e2]
    · rw [g4, if_neg h1, if_neg (fun h => h2 (by omega)), e2]
  · refine iv_congr ?_
    rw [← g3, List.drop_eq_nil_of_le (by omega)]
    simp [serGo]
theorem in_fc (n lo hi : Int) : FC Tryd.prog 42 none [iv n, iv lo, iv hi] (fun _ r => r = bv (decide (lo ≤ n ∧ n ≤ hi))) := by
  refine fc_in_ (by simp +arith) ?_
  unfold C_in_
  simp (maxSteps := 1000000) (disch := omega) only [go_sem, eq_self, decide_true, decide_false, not_true_eq_false, not_false_eq_true, reduceIte, reduceCtorEq, Nat.reduceEqDiff, Nat.reduceAdd, Nat.reduceSub, Nat.reduceLeDiff]
  (repeat' (first | apply And.intro | intro _)) <;> first | rfl | omega | exact iv_congr (by first | omega | ((try simp only []); (repeat' split) <;> (first | omega | (simp_all; done) | (simp_all; omega)))) | exact bv_dec (by first | omega | ((try simp only []); (repeat' split) <;> omega)) | exact bv_ndec (by first | omega | ((try simp only []); (repeat' split) <;> omega)) | exact bv_f (by first | omega | ((try simp only []); (repeat' split) <;> omega)) | exact bv_t (by first | omega | ((try simp only []); (repeat' split) <;> omega))
theorem rmoment2_fc (n : Int) : FC Tryd.prog 41 none [iv n] (fun _ r => r = bv (decide (0 ≤ n ∧ n ≤ 345686399999))) := by
  refine fc_rmoment2 (by simp +arith) ?_
  unfold C_rmoment2
  simp (maxSteps := 1000000) (disch := omega) only [go_sem, eq_self, decide_true, decide_false, not_true_eq_false, not_false_eq_true, reduceIte, reduceCtorEq, Nat.reduceEqDiff, Nat.reduceAdd, Nat.reduceSub, Nat.reduceLeDiff]
  refine CALL_det (in_fc _ _ _) (.inl rfl) ?_
  simp (maxSteps := 1000000) (disch := omega) only [go_sem, eq_self, decide_true, decide_false, not_true_eq_false, not_false_eq_true, reduceIte, reduceCtorEq, Nat.reduceEqDiff, Nat.reduceAdd, Nat.reduceSub, Nat.reduceLeDiff]
theorem sampleFault_fc (x : Smp) : FC Tryd.prog 23 none [smpV x] (fun _ r => r = iv (smpFault x)) := by
  refine fc_sampleFault (by simp +arith) ?_
  unfold C_sampleFault
  simp (maxSteps := 1000000) (disch := omega) only [go_sem, eq_self, decide_true, decide_false, not_true_eq_false, not_false_eq_true, reduceIte, reduceCtorEq, Nat.reduceEqDiff, Nat.reduceAdd, Nat.reduceSub, Nat.reduceLeDiff]
  refine CALL_det (rmoment2_fc _) (.inl rfl) ?_
  simp (maxSteps := 1000000) (disch := omega) only [go_sem, eq_self, decide_true, decide_false, not_true_eq_false, not_false_eq_true, reduceIte, reduceCtorEq, Nat.reduceEqDiff, Nat.reduceAdd, Nat.reduceSub, Nat.reduceLeDiff]
  refine ⟨fun h1 => (iv_congr (by simp only [smpFault]; (repeat' split) <;> (first | omega | simp_all <;> omega))), fun h1 => ?_⟩
  refine CALL_det (in_fc _ _ _) (.inl rfl) ?_
  simp (maxSteps := 1000000) (disch := omega) only [go_sem, eq_self, decide_true, decide_false, not_true_eq_false, not_false_eq_true, reduceIte, reduceCtorEq, Nat.reduceEqDiff, Nat.reduceAdd, Nat.reduceSub, Nat.reduceLeDiff]
  refine ⟨fun h2 => (iv_congr (by simp only [smpFault]; (repeat' split) <;> (first | omega | simp_all <;> omega))), fun h2 => ?_⟩
  refine CALL_det (in_fc _ _ _) (.inl rfl) ?_
  simp (maxSteps := 1000000) (disch := omega) only [go_sem, eq_self, decide_true, decide_false, not_true_eq_false, not_false_eq_true, reduceIte, reduceCtorEq, Nat.reduceEqDiff, Nat.reduceAdd, Nat.reduceSub, Nat.reduceLeDiff]
  refine ⟨fun h3 => (iv_congr (by simp only [smpFault]; (repeat' split) <;> (first | omega | simp_all <;> omega))), fun h3 => ⟨fun h4 => ⟨fun h5 => (iv_congr (by simp only [smpFault]; (repeat' split) <;> (first | omega | simp_all <;> omega))), fun h5 => (iv_congr (by simp only [smpFault]; (repeat' split) <;> (first | omega | simp_all <;> omega)))⟩, fun h4 => (iv_congr (by simp only [smpFault]; (repeat' split) <;> (first | omega | simp_all <;> omega)))⟩⟩
theorem seriesFault_fc (l : List Smp) (hl : l.length ≤ 4611686018427387904) : FC Tryd.prog 11 none [smps false l] (fun _ r => r = iv (serFault l)) := by
  refine fc_seriesFault (by simp +arith) ?_
  unfold C_seriesFault
  simp (maxSteps := 1000000) (disch := omega) only [go_sem, eq_self, decide_true, decide_false, not_true_eq_false, not_false_eq_true, reduceIte, reduceCtorEq, Nat.reduceEqDiff, Nat.reduceAdd, Nat.reduceSub, Nat.reduceLeDiff]
  refine ⟨fun h => iv_congr (by unfold serFault; rw [if_pos (by omega)]), fun h => ?_⟩
  refine ex_loopI (csSt l) (fun i => 0 ≤ i ∧ i ≤ l.length ∧ serGo (prv l i.toNat) (l.drop i.toNat) = serFault l) (fun i => (l.length - i).toNat) 0 ⟨by omega, by omega, by unfold serFault; rw [if_neg (by omega)]; rfl⟩ rfl ?_
  rintro i ⟨g1, g2, g3⟩
  unfold csSt
  simp (maxSteps := 1000000) (disch := omega) only [go_sem, eq_self, decide_true, decide_false, not_true_eq_false, not_false_eq_true, reduceIte, reduceCtorEq, Nat.reduceEqDiff, Nat.reduceAdd, Nat.reduceSub, Nat.reduceLeDiff]
  refine ⟨fun hi => and_then ⟨by omega, by omega⟩ fun _ => ?_, fun hi => ?_⟩
  · have g4 := serGo_step l i.toNat (by omega)
    rw [g3] at g4
    rw [getD_map_in smpC l i.toNat [] (by omega)]
    simp (maxSteps := 1000000) (disch := omega) only [go_sem, eq_self, decide_true, decide_false, not_true_eq_false, not_false_eq_true, reduceIte, reduceCtorEq, Nat.reduceEqDiff, Nat.reduceAdd, Nat.reduceSub, Nat.reduceLeDiff]
    refine CALL_det (sampleFault_fc _) (.inl rfl) ?_
    simp (maxSteps := 1000000) (disch := omega) only [go_sem, eq_self, decide_true, decide_false, not_true_eq_false, not_false_eq_true, reduceIte, reduceCtorEq, Nat.reduceEqDiff, Nat.reduceAdd, Nat.reduceSub, Nat.reduceLeDiff]
    have e1 : (i - 1).toNat = i.toNat - 1 := by omega
    have e2 : (i + 1).toNat = i.toNat + 1 := by omega
    rw [e1]
    refine ⟨fun h1 => iv_congr (by rw [g4, if_pos h1]), fun h1 => ⟨fun h2 => ⟨⟨by omega, by omega⟩, fun h3 => iv_congr (by rw [g4, if_neg h1, if_pos ⟨by omega, h3⟩]), fun h3 => ⟨i + 1, ⟨by omega, by omega, ?_⟩, rfl, by omega⟩⟩, fun h2 => ⟨i + 1, ⟨by omega, by omega, ?_⟩, rfl, by omega⟩⟩⟩
    · rw [g4, if_neg h1, if_neg (fun h => h3 h.2), e2]
    · rw [g4, if_neg h1, if_neg (fun h => h2 (by omega)), e2]
  · refine iv_congr ?_
    rw [← g3, List.drop_eq_nil_of_le (by omega)]
    simp [serGo]
def momFault (n : Int) : Int := if 0 ≤ n ∧ n ≤ 345686399999 then 0 else 1
theorem rin1_fc (n lo hi : Int) : FC Tryd.prog 24 none [iv n, iv lo, iv hi] (fun _ r => r = bv (decide (lo ≤ n ∧ n ≤ hi))) := by
  refine fc_rin1 (by simp +arith) ?_
  unfold C_rin1
  simp (maxSteps := 1000000) (disch := omega) only [go_sem, eq_self, decide_true, decide_false, not_true_eq_false, not_false_eq_true, reduceIte, reduceCtorEq, Nat.reduceEqDiff, Nat.reduceAdd, Nat.reduceSub, Nat.reduceLeDiff]
  (repeat' (first | apply And.intro | intro _)) <;> first | rfl | omega | exact iv_congr (by first | omega | ((try simp only []); (repeat' split) <;> (first | omega | (simp_all; done) | (simp_all; omega)))) | exact bv_dec (by first | omega | ((try simp only []); (repeat' split) <;> omega)) | exact bv_ndec (by first | omega | ((try simp only []); (repeat' split) <;> omega)) | exact bv_f (by first | omega | ((try simp only []); (repeat' split) <;> omega)) | exact bv_t (by first | omega | ((try simp only []); (repeat' split) <;> omega))
theorem spanFault1_fc (n lo hi : Int) : FC Tryd.prog 12 none [iv n, iv lo, iv hi] (fun _ r => r = iv (if lo ≤ n ∧ n ≤ hi then 0 else 1)) := by
  refine fc_spanFault1 (by simp +arith) ?_
  unfold C_spanFault1
  simp (maxSteps := 1000000) (disch := omega) only [go_sem, eq_self, decide_true, decide_false, not_true_eq_false, not_false_eq_true, reduceIte, reduceCtorEq, Nat.reduceEqDiff, Nat.reduceAdd, Nat.reduceSub, Nat.reduceLeDiff]
  refine CALL_det (rin1_fc _ _ _) (.inl rfl) ?_
  simp (maxSteps := 1000000) (disch := omega) only [go_sem, eq_self, decide_true, decide_false, not_true_eq_false, not_false_eq_true, reduceIte, reduceCtorEq, Nat.reduceEqDiff, Nat.reduceAdd, Nat.reduceSub, Nat.reduceLeDiff]
  (repeat' (first | apply And.intro | intro _)) <;> first | rfl | omega | exact iv_congr (by first | omega | ((try simp only []); (repeat' split) <;> (first | omega | (simp_all; done) | (simp_all; omega)))) | exact bv_dec (by first | omega | ((try simp only []); (repeat' split) <;> omega)) | exact bv_ndec (by first | omega | ((try simp only []); (repeat' split) <;> omega)) | exact bv_f (by first | omega | ((try simp only []); (repeat' split) <;> omega)) | exact bv_t (by first | omega | ((try simp only []); (repeat' split) <;> omega))
def evFault (f t e : Int) : Int := if 1 ≤ e ∧ e ≤ 86400000 then (if 5000 < (t - f + e - 1).tdiv e then 2 else 0) else 1
/-- What is wrong with a series and a window. -/
def bothFault (l : List Smp) (f t : Int) : Int := if serFault l ≠ 0 then serFault l else winFault f t
end Go.Proofs.YtggbcgldnjmobaaDoor


/-
  What is wrong with samples, series, moments, windows: the program's answer and the reference's are one.
-/
import Derived.Test.YtggbcgldnjmobaaAiGen
import Derived.Test.YtggbcgldnjmobaaProg
namespace Go.Proofs.Ytggbcgldnjmobaa
open Go Go.Ai
set_option linter.unusedSimpArgs false
set_option linter.unusedVariables false
set_option maxHeartbeats 4000000
def A_out : List Ann := [⟨(some ⟨[0,1,2], [], []⟩), [], [], [], []⟩, ⟨(some ⟨[6], [], []⟩), [], [], [], []⟩]
def C_out : AC := (.seq (.reg false [⟨(some 6), none, .mv (.v (.bool false))⟩] (some ⟨[0,1,2], [], []⟩))
  (.seq (.reg false [⟨(some 7), none, .mv (.t 0)⟩, ⟨(some 8), none, .mv (.t 1)⟩, ⟨(some 9), none, .bin .lss (.t 7) (.t 8)⟩, ⟨(some 10), none, .mv (.t 9)⟩, ⟨(some 11), (some (10, false)), .mv (.t 0)⟩, ⟨(some 12), (some (10, false)), .mv (.t 2)⟩, ⟨(some 13), (some (10, false)), .bin .gtr (.t 11) (.t 12)⟩, ⟨(some 14), none, .pick (.t 10) (.v (.bool true)) (.t 13)⟩, ⟨(some 6), none, .mv (.t 14)⟩] (some ⟨[6], [], []⟩))
  .ret))
theorem c_out : compileCode Try.prog Try.f97.ntmps (Try.f97.body.getD .skip) A_out = some (C_out, []) := by kernel_rfl
theorem r_out : compileRes Try.prog Try.f97.results.toList = some [.t 6] := by kernel_rfl
theorem b_out : Try.f97.body = some (Try.f97.body.getD .skip) := by kernel_rfl
theorem n_out : (Try.f97.name == "runtime.NumGoroutine") = false := by kernel_rfl
theorem fc_out {xt : Option (List Cel)} {args : List Val} {R : List Cel → Val → Prop} (hn : (if xt.isSome then 1 else 0) + args.length ≤ Try.f97.ntmps) (h : ex Try.prog C_out [] (fpost xt [.t 6] R) (initSt xt args)) : FC Try.prog 97 xt args R :=
  fc_of_awp Try.func97 b_out n_out c_out r_out (of_decide_eq_true (by kernel_rfl)) hn h

def A_moment : List Ann := [⟨(some ⟨[0], [], []⟩), [], [], [], []⟩, ⟨(some ⟨[2], [], []⟩), [], [], [], []⟩]
def C_moment : AC := (.seq (.reg false [⟨(some 2), none, .mv (.v (.bool false))⟩] (some ⟨[0], [], []⟩))
  (.seq (.reg false [⟨(some 3), none, .mv (.t 0)⟩, ⟨(some 4), none, .call (.f 97) [(.t 3), (.v (.int .i64 (0))), (.v (.int .i64 (345686399999)))]⟩, ⟨(some 5), none, .un .not (.t 4)⟩, ⟨(some 2), none, .mv (.t 5)⟩] (some ⟨[2], [], []⟩))
  .ret))
theorem c_moment : compileCode Try.prog Try.f104.ntmps (Try.f104.body.getD .skip) A_moment = some (C_moment, []) := by kernel_rfl
theorem r_moment : compileRes Try.prog Try.f104.results.toList = some [.t 2] := by kernel_rfl
theorem b_moment : Try.f104.body = some (Try.f104.body.getD .skip) := by kernel_rfl
theorem n_moment : (Try.f104.name == "runtime.NumGoroutine") = false := by kernel_rfl
theorem fc_moment {xt : Option (List Cel)} {args : List Val} {R : List Cel → Val → Prop} (hn : (if xt.isSome then 1 else 0) + args.length ≤ Try.f104.ntmps) (h : ex Try.prog C_moment [] (fpost xt [.t 2] R) (initSt xt args)) : FC Try.prog 104 xt args R :=
  fc_of_awp Try.func104 b_moment n_moment c_moment r_moment (of_decide_eq_true (by kernel_rfl)) hn h

def A_window : List Ann := [⟨(some ⟨[1], [1], []⟩), [], [], [], []⟩, ⟨(some ⟨[2], [], []⟩), [], [], [], []⟩]
def C_window : AC := (.seq (.reg false [⟨(some 1), none, .box (.t 0)⟩, ⟨(some 2), none, .mv (.v (.bool false))⟩] (some ⟨[1], [1], []⟩))
  (.seq (.reg false [⟨(some 3), none, .fadr 0 (.t 1)⟩, ⟨(some 4), none, .load false 1 (.t 3)⟩, ⟨(some 5), none, .fadr 1 (.t 1)⟩, ⟨(some 6), none, .load false 1 (.t 5)⟩, ⟨(some 7), none, .call (.f 97) [(.t 4), (.v (.int .i64 (0))), (.t 6)]⟩, ⟨(some 8), none, .un .not (.t 7)⟩, ⟨(some 9), none, .mv (.t 8)⟩, ⟨(some 10), (some (9, true)), .fadr 1 (.t 1)⟩, ⟨(some 11), (some (9, true)), .load false 1 (.t 10)⟩, ⟨(some 12), (some (9, true)), .bin .leq (.t 11) (.v (.int .i64 (345686400000)))⟩, ⟨(some 13), none, .pick (.t 9) (.t 12) (.v (.bool false))⟩, ⟨(some 2), none, .mv (.t 13)⟩] (some ⟨[2], [], []⟩))
  .ret))
theorem c_window : compileCode Try.prog Try.f156.ntmps (Try.f156.body.getD .skip) A_window = some (C_window, []) := by kernel_rfl
theorem r_window : compileRes Try.prog Try.f156.results.toList = some [.t 2] := by kernel_rfl
theorem b_window : Try.f156.body = some (Try.f156.body.getD .skip) := by kernel_rfl
theorem n_window : (Try.f156.name == "runtime.NumGoroutine") = false := by kernel_rfl
theorem fc_window {xt : Option (List Cel)} {args : List Val} {R : List Cel → Val → Prop} (hn : (if xt.isSome then 1 else 0) + args.length ≤ Try.f156.ntmps) (h : ex Try.prog C_window [] (fpost xt [.t 2] R) (initSt xt args)) : FC Try.prog 156 xt args R :=
  fc_of_awp Try.func156 b_window n_window c_window r_window (of_decide_eq_true (by kernel_rfl)) hn h

def A_checkSample : List Ann := [⟨(some ⟨[1], [1], []⟩), [], [], [], []⟩, ⟨(some ⟨[1,3], [1], []⟩), [], [], [], []⟩, ⟨(some ⟨[2], [], []⟩), [], [], [], []⟩, ⟨(some ⟨[1,8], [1], []⟩), [], [], [], []⟩, ⟨(some ⟨[2], [], []⟩), [], [], [], []⟩, ⟨(some ⟨[1,12], [1], []⟩), [], [], [], []⟩, ⟨(some ⟨[2], [], []⟩), [], [], [], []⟩, ⟨(some ⟨[16], [], []⟩), [], [], [], []⟩, ⟨(some ⟨[2], [], []⟩), [], [], [], []⟩, ⟨(some ⟨[2], [], []⟩), [], [], [], []⟩]
def C_checkSample : AC := (.seq (.reg false [⟨(some 1), none, .box (.t 0)⟩, ⟨(some 2), none, .mv (.v (.int .i64 (0)))⟩] (some ⟨[1], [1], []⟩))
  (.seq (.block 0 (.seq (.reg false [⟨(some 4), none, .fadr 0 (.t 1)⟩, ⟨(some 5), none, .load false 1 (.t 4)⟩, ⟨(some 6), none, .call (.f 104) [(.t 5)]⟩, ⟨(some 7), none, .un .not (.t 6)⟩, ⟨(some 3), none, .mv (.t 7)⟩] (some ⟨[1,3], [1], []⟩))
  (.cond (.t 3)
  (.seq (.reg false [⟨(some 2), none, .mv (.v (.int .i64 (1)))⟩] (some ⟨[2], [], []⟩))
  .ret)
  (.seq (.reg false [⟨(some 9), none, .fadr 2 (.t 1)⟩, ⟨(some 10), none, .load false 1 (.t 9)⟩, ⟨(some 11), none, .call (.f 97) [(.t 10), (.v (.int .i64 (0))), (.v (.int .i64 (2)))]⟩, ⟨(some 8), none, .mv (.t 11)⟩] (some ⟨[1,8], [1], []⟩))
  (.cond (.t 8)
  (.seq (.reg false [⟨(some 2), none, .mv (.v (.int .i64 (4)))⟩] (some ⟨[2], [], []⟩))
  .ret)
  (.seq (.reg false [⟨(some 13), none, .fadr 1 (.t 1)⟩, ⟨(some 14), none, .load false 1 (.t 13)⟩, ⟨(some 15), none, .call (.f 97) [(.t 14), (.v (.int .i64 (-1000000))), (.v (.int .i64 (1000000)))]⟩, ⟨(some 12), none, .mv (.t 15)⟩] (some ⟨[1,12], [1], []⟩))
  (.cond (.t 12)
  (.seq (.reg false [⟨(some 2), none, .mv (.v (.int .i64 (1)))⟩] (some ⟨[2], [], []⟩))
  .ret)
  (.seq (.reg false [⟨(some 17), none, .fadr 2 (.t 1)⟩, ⟨(some 18), none, .load false 1 (.t 17)⟩, ⟨(some 19), none, .bin .eql (.t 18) (.v (.int .i64 (2)))⟩, ⟨(some 20), none, .mv (.t 19)⟩, ⟨(some 21), (some (20, true)), .fadr 1 (.t 1)⟩, ⟨(some 22), (some (20, true)), .load false 1 (.t 21)⟩, ⟨(some 23), (some (20, true)), .bin .neq (.t 22) (.v (.int .i64 (0)))⟩, ⟨(some 24), none, .pick (.t 20) (.t 23) (.v (.bool false))⟩, ⟨(some 16), none, .mv (.t 24)⟩] (some ⟨[16], [], []⟩))
  (.cond (.t 16)
  (.seq (.reg false [⟨(some 2), none, .mv (.v (.int .i64 (3)))⟩] (some ⟨[2], [], []⟩))
  .ret)
  .skip)))))))))
  (.seq (.reg false [⟨(some 2), none, .mv (.v (.int .i64 (0)))⟩] (some ⟨[2], [], []⟩))
  .ret)))
theorem c_checkSample : compileCode Try.prog Try.f78.ntmps (Try.f78.body.getD .skip) A_checkSample = some (C_checkSample, []) := by kernel_rfl
theorem r_checkSample : compileRes Try.prog Try.f78.results.toList = some [.t 2] := by kernel_rfl
theorem b_checkSample : Try.f78.body = some (Try.f78.body.getD .skip) := by kernel_rfl
theorem n_checkSample : (Try.f78.name == "runtime.NumGoroutine") = false := by kernel_rfl
theorem fc_checkSample {xt : Option (List Cel)} {args : List Val} {R : List Cel → Val → Prop} (hn : (if xt.isSome then 1 else 0) + args.length ≤ Try.f78.ntmps) (h : ex Try.prog C_checkSample [] (fpost xt [.t 2] R) (initSt xt args)) : FC Try.prog 78 xt args R :=
  fc_of_awp Try.func78 b_checkSample n_checkSample c_checkSample r_checkSample (of_decide_eq_true (by kernel_rfl)) hn h

def A_checkSeries : List Ann := [⟨(some ⟨[0], [], []⟩), [], [], [], []⟩, ⟨(some ⟨[0,8], [], []⟩), [], [], [], []⟩, ⟨(some ⟨[2], [], []⟩), [], [], [], []⟩, ⟨(some ⟨[0,9,10,11], [], []⟩), [], [], [], []⟩, ⟨(some ⟨[0,9,10,11,12], [], []⟩), [], [], [], []⟩, ⟨(some ⟨[0,3,4,9,10,11], [4], []⟩), [], [], [], []⟩, ⟨(some ⟨[0,3,4,5,9,10,11], [4], []⟩), [], [], [], []⟩, ⟨(some ⟨[0,3,4,5,9,10,11,19], [4], []⟩), [], [], [], []⟩, ⟨(some ⟨[2], [], []⟩), [], [], [], []⟩, ⟨(some ⟨[0,9,10,11,33], [], []⟩), [], [], [], []⟩, ⟨(some ⟨[2], [], []⟩), [], [], [], []⟩, ⟨(some ⟨[0,9,10,11], [], []⟩), [], [], [], []⟩, ⟨(some ⟨[2], [], []⟩), [], [], [], []⟩]
def C_checkSeries : AC := (.seq (.reg false [⟨(some 2), none, .mv (.v (.int .i64 (0)))⟩] (some ⟨[0], [], []⟩))
  (.seq (.seq (.reg false [⟨(some 6), none, .mv (.t 0)⟩, ⟨(some 7), none, .len (.t 6)⟩, ⟨(some 8), none, .bin .gtr (.t 7) (.v (.int .i64 (5000)))⟩] (some ⟨[0,8], [], []⟩))
  (.cond (.t 8)
  (.seq (.reg false [⟨(some 2), none, .mv (.v (.int .i64 (2)))⟩] (some ⟨[2], [], []⟩))
  .ret)
  .skip))
  (.seq (.seq (.reg false [⟨(some 9), none, .mv (.t 0)⟩, ⟨(some 10), none, .len (.t 9)⟩, ⟨(some 11), none, .mv (.v (.int .i64 (0)))⟩] (some ⟨[0,9,10,11], [], []⟩))
  (.block 0 (.loop (.seq (.reg false [⟨(some 12), none, .bin .lss (.t 11) (.t 10)⟩] (some ⟨[0,9,10,11,12], [], []⟩))
  (.seq (.cond (.t 12)
  .skip
  (.exit 0))
  (.seq (.block 1 (.seq (.reg false [⟨(some 13), none, .mv (.t 11)⟩, ⟨(some 14), none, .iadr 3 (.t 9) (.t 11)⟩, ⟨(some 15), none, .load true 3 (.t 14)⟩, ⟨(some 4), none, .alloc [(.int .i64 (0)), (.int .i64 (0)), (.int .i64 (0))]⟩, ⟨(some 3), none, .mv (.t 13)⟩, ⟨none, none, .store 3 (.t 4) (.t 15)⟩] (some ⟨[0,3,4,9,10,11], [4], []⟩))
  (.seq (.seq (.reg false [⟨(some 16), none, .load true 3 (.t 4)⟩, ⟨(some 17), none, .call (.f 78) [(.t 16)]⟩, ⟨(some 5), none, .mv (.t 17)⟩] (some ⟨[0,3,4,5,9,10,11], [4], []⟩))
  (.seq (.reg false [⟨(some 18), none, .mv (.t 5)⟩, ⟨(some 19), none, .bin .neq (.t 18) (.v (.int .i64 (0)))⟩] (some ⟨[0,3,4,5,9,10,11,19], [4], []⟩))
  (.cond (.t 19)
  (.seq (.reg false [⟨(some 20), none, .mv (.t 5)⟩, ⟨(some 2), none, .mv (.t 20)⟩] (some ⟨[2], [], []⟩))
  .ret)
  .skip)))
  (.seq (.reg true [⟨(some 21), none, .mv (.t 3)⟩, ⟨(some 22), none, .bin .gtr (.t 21) (.v (.int .i64 (0)))⟩, ⟨(some 23), none, .mv (.t 22)⟩, ⟨(some 24), (some (23, true)), .fadr 0 (.t 4)⟩, ⟨(some 25), (some (23, true)), .load false 1 (.t 24)⟩, ⟨(some 26), (some (23, true)), .mv (.t 0)⟩, ⟨(some 27), (some (23, true)), .mv (.t 3)⟩, ⟨(some 28), (some (23, true)), .bin .sub (.t 27) (.v (.int .i64 (1)))⟩, ⟨(some 29), (some (23, true)), .iadr 3 (.t 26) (.t 28)⟩, ⟨(some 30), (some (23, true)), .fadr 0 (.t 29)⟩, ⟨(some 31), (some (23, true)), .load false 1 (.t 30)⟩, ⟨(some 32), (some (23, true)), .bin .leq (.t 25) (.t 31)⟩, ⟨(some 33), none, .pick (.t 23) (.t 32) (.v (.bool false))⟩] (some ⟨[0,9,10,11,33], [], []⟩))
  (.cond (.t 33)
  (.seq (.reg false [⟨(some 2), none, .mv (.v (.int .i64 (7)))⟩] (some ⟨[2], [], []⟩))
  .ret)
  .skip)))))
  (.reg false [⟨(some 34), none, .bin .add (.t 11) (.v (.int .i64 (1)))⟩, ⟨(some 11), none, .mv (.t 34)⟩] (some ⟨[0,9,10,11], [], []⟩))))))))
  (.seq (.reg false [⟨(some 2), none, .mv (.v (.int .i64 (0)))⟩] (some ⟨[2], [], []⟩))
  .ret))))
theorem c_checkSeries : compileCode Try.prog Try.f85.ntmps (Try.f85.body.getD .skip) A_checkSeries = some (C_checkSeries, []) := by kernel_rfl
theorem r_checkSeries : compileRes Try.prog Try.f85.results.toList = some [.t 2] := by kernel_rfl
theorem b_checkSeries : Try.f85.body = some (Try.f85.body.getD .skip) := by kernel_rfl
theorem n_checkSeries : (Try.f85.name == "runtime.NumGoroutine") = false := by kernel_rfl
theorem fc_checkSeries {xt : Option (List Cel)} {args : List Val} {R : List Cel → Val → Prop} (hn : (if xt.isSome then 1 else 0) + args.length ≤ Try.f85.ntmps) (h : ex Try.prog C_checkSeries [] (fpost xt [.t 2] R) (initSt xt args)) : FC Try.prog 85 xt args R :=
  fc_of_awp Try.func85 b_checkSeries n_checkSeries c_checkSeries r_checkSeries (of_decide_eq_true (by kernel_rfl)) hn h

def A_in_ : List Ann := [⟨(some ⟨[0,1,2], [], []⟩), [], [], [], []⟩, ⟨(some ⟨[6], [], []⟩), [], [], [], []⟩]
def C_in_ : AC := (.seq (.reg false [⟨(some 6), none, .mv (.v (.bool false))⟩] (some ⟨[0,1,2], [], []⟩))
  (.seq (.reg false [⟨(some 7), none, .mv (.t 1)⟩, ⟨(some 8), none, .mv (.t 0)⟩, ⟨(some 9), none, .bin .leq (.t 7) (.t 8)⟩, ⟨(some 10), none, .mv (.t 9)⟩, ⟨(some 11), (some (10, true)), .mv (.t 0)⟩, ⟨(some 12), (some (10, true)), .mv (.t 2)⟩, ⟨(some 13), (some (10, true)), .bin .leq (.t 11) (.t 12)⟩, ⟨(some 14), none, .pick (.t 10) (.t 13) (.v (.bool false))⟩, ⟨(some 6), none, .mv (.t 14)⟩] (some ⟨[6], [], []⟩))
  .ret))
theorem c_in_ : compileCode Try.prog Try.f129.ntmps (Try.f129.body.getD .skip) A_in_ = some (C_in_, []) := by kernel_rfl
theorem r_in_ : compileRes Try.prog Try.f129.results.toList = some [.t 6] := by kernel_rfl
theorem b_in_ : Try.f129.body = some (Try.f129.body.getD .skip) := by kernel_rfl
theorem n_in_ : (Try.f129.name == "runtime.NumGoroutine") = false := by kernel_rfl
theorem fc_in_ {xt : Option (List Cel)} {args : List Val} {R : List Cel → Val → Prop} (hn : (if xt.isSome then 1 else 0) + args.length ≤ Try.f129.ntmps) (h : ex Try.prog C_in_ [] (fpost xt [.t 6] R) (initSt xt args)) : FC Try.prog 129 xt args R :=
  fc_of_awp Try.func129 b_in_ n_in_ c_in_ r_in_ (of_decide_eq_true (by kernel_rfl)) hn h

def A_rmoment2 : List Ann := [⟨(some ⟨[0], [], []⟩), [], [], [], []⟩, ⟨(some ⟨[2], [], []⟩), [], [], [], []⟩]
def C_rmoment2 : AC := (.seq (.reg false [⟨(some 2), none, .mv (.v (.bool false))⟩] (some ⟨[0], [], []⟩))
  (.seq (.reg false [⟨(some 3), none, .mv (.t 0)⟩, ⟨(some 4), none, .call (.f 129) [(.t 3), (.v (.int .i64 (0))), (.v (.int .i64 (345686399999)))]⟩, ⟨(some 2), none, .mv (.t 4)⟩] (some ⟨[2], [], []⟩))
  .ret))
theorem c_rmoment2 : compileCode Try.prog Try.f142.ntmps (Try.f142.body.getD .skip) A_rmoment2 = some (C_rmoment2, []) := by kernel_rfl
theorem r_rmoment2 : compileRes Try.prog Try.f142.results.toList = some [.t 2] := by kernel_rfl
theorem b_rmoment2 : Try.f142.body = some (Try.f142.body.getD .skip) := by kernel_rfl
theorem n_rmoment2 : (Try.f142.name == "runtime.NumGoroutine") = false := by kernel_rfl
theorem fc_rmoment2 {xt : Option (List Cel)} {args : List Val} {R : List Cel → Val → Prop} (hn : (if xt.isSome then 1 else 0) + args.length ≤ Try.f142.ntmps) (h : ex Try.prog C_rmoment2 [] (fpost xt [.t 2] R) (initSt xt args)) : FC Try.prog 142 xt args R :=
  fc_of_awp Try.func142 b_rmoment2 n_rmoment2 c_rmoment2 r_rmoment2 (of_decide_eq_true (by kernel_rfl)) hn h

def A_sampleFault : List Ann := [⟨(some ⟨[1], [1], []⟩), [], [], [], []⟩, ⟨(some ⟨[1,3], [1], []⟩), [], [], [], []⟩, ⟨(some ⟨[2], [], []⟩), [], [], [], []⟩, ⟨(some ⟨[1,8], [1], []⟩), [], [], [], []⟩, ⟨(some ⟨[2], [], []⟩), [], [], [], []⟩, ⟨(some ⟨[1,13], [1], []⟩), [], [], [], []⟩, ⟨(some ⟨[2], [], []⟩), [], [], [], []⟩, ⟨(some ⟨[18], [], []⟩), [], [], [], []⟩, ⟨(some ⟨[2], [], []⟩), [], [], [], []⟩, ⟨(some ⟨[2], [], []⟩), [], [], [], []⟩]
def C_sampleFault : AC := (.seq (.reg false [⟨(some 1), none, .box (.t 0)⟩, ⟨(some 2), none, .mv (.v (.int .i64 (0)))⟩] (some ⟨[1], [1], []⟩))
  (.seq (.block 0 (.seq (.reg false [⟨(some 4), none, .fadr 0 (.t 1)⟩, ⟨(some 5), none, .load false 1 (.t 4)⟩, ⟨(some 6), none, .call (.f 142) [(.t 5)]⟩, ⟨(some 7), none, .un .not (.t 6)⟩, ⟨(some 3), none, .mv (.t 7)⟩] (some ⟨[1,3], [1], []⟩))
  (.cond (.t 3)
  (.seq (.reg false [⟨(some 2), none, .mv (.v (.int .i64 (1)))⟩] (some ⟨[2], [], []⟩))
  .ret)
  (.seq (.reg false [⟨(some 9), none, .fadr 2 (.t 1)⟩, ⟨(some 10), none, .load false 1 (.t 9)⟩, ⟨(some 11), none, .call (.f 129) [(.t 10), (.v (.int .i64 (0))), (.v (.int .i64 (2)))]⟩, ⟨(some 12), none, .un .not (.t 11)⟩, ⟨(some 8), none, .mv (.t 12)⟩] (some ⟨[1,8], [1], []⟩))
  (.cond (.t 8)
  (.seq (.reg false [⟨(some 2), none, .mv (.v (.int .i64 (4)))⟩] (some ⟨[2], [], []⟩))
  .ret)
  (.seq (.reg false [⟨(some 14), none, .fadr 1 (.t 1)⟩, ⟨(some 15), none, .load false 1 (.t 14)⟩, ⟨(some 16), none, .call (.f 129) [(.t 15), (.v (.int .i64 (-1000000))), (.v (.int .i64 (1000000)))]⟩, ⟨(some 17), none, .un .not (.t 16)⟩, ⟨(some 13), none, .mv (.t 17)⟩] (some ⟨[1,13], [1], []⟩))
  (.cond (.t 13)
  (.seq (.reg false [⟨(some 2), none, .mv (.v (.int .i64 (1)))⟩] (some ⟨[2], [], []⟩))
  .ret)
  (.seq (.reg false [⟨(some 19), none, .fadr 2 (.t 1)⟩, ⟨(some 20), none, .load false 1 (.t 19)⟩, ⟨(some 21), none, .bin .eql (.t 20) (.v (.int .i64 (2)))⟩, ⟨(some 22), none, .mv (.t 21)⟩, ⟨(some 23), (some (22, true)), .fadr 1 (.t 1)⟩, ⟨(some 24), (some (22, true)), .load false 1 (.t 23)⟩, ⟨(some 25), (some (22, true)), .bin .neq (.t 24) (.v (.int .i64 (0)))⟩, ⟨(some 26), none, .pick (.t 22) (.t 25) (.v (.bool false))⟩, ⟨(some 18), none, .mv (.t 26)⟩] (some ⟨[18], [], []⟩))
  (.cond (.t 18)
  (.seq (.reg false [⟨(some 2), none, .mv (.v (.int .i64 (3)))⟩] (some ⟨[2], [], []⟩))
  .ret)
  .skip)))))))))
  (.seq (.reg false [⟨(some 2), none, .mv (.v (.int .i64 (0)))⟩] (some ⟨[2], [], []⟩))
  .ret)))
theorem c_sampleFault : compileCode Try.prog Try.f80.ntmps (Try.f80.body.getD .skip) A_sampleFault = some (C_sampleFault, []) := by kernel_rfl
theorem r_sampleFault : compileRes Try.prog Try.f80.results.toList = some [.t 2] := by kernel_rfl
theorem b_sampleFault : Try.f80.body = some (Try.f80.body.getD .skip) := by kernel_rfl
theorem n_sampleFault : (Try.f80.name == "runtime.NumGoroutine") = false := by kernel_rfl
theorem fc_sampleFault {xt : Option (List Cel)} {args : List Val} {R : List Cel → Val → Prop} (hn : (if xt.isSome then 1 else 0) + args.length ≤ Try.f80.ntmps) (h : ex Try.prog C_sampleFault [] (fpost xt [.t 2] R) (initSt xt args)) : FC Try.prog 80 xt args R :=
  fc_of_awp Try.func80 b_sampleFault n_sampleFault c_sampleFault r_sampleFault (of_decide_eq_true (by kernel_rfl)) hn h

def A_seriesFault : List Ann := [⟨(some ⟨[0], [], []⟩), [], [], [], []⟩, ⟨(some ⟨[0,8], [], []⟩), [], [], [], []⟩, ⟨(some ⟨[2], [], []⟩), [], [], [], []⟩, ⟨(some ⟨[0,9,10,11], [], []⟩), [], [], [], []⟩, ⟨(some ⟨[0,9,10,11,12], [], []⟩), [], [], [], []⟩, ⟨(some ⟨[0,3,4,9,10,11], [4], []⟩), [], [], [], []⟩, ⟨(some ⟨[0,3,4,5,9,10,11], [4], []⟩), [], [], [], []⟩, ⟨(some ⟨[0,3,4,5,9,10,11,19], [4], []⟩), [], [], [], []⟩, ⟨(some ⟨[2], [], []⟩), [], [], [], []⟩, ⟨(some ⟨[0,9,10,11,33], [], []⟩), [], [], [], []⟩, ⟨(some ⟨[2], [], []⟩), [], [], [], []⟩, ⟨(some ⟨[0,9,10,11], [], []⟩), [], [], [], []⟩, ⟨(some ⟨[2], [], []⟩), [], [], [], []⟩]
def C_seriesFault : AC := (.seq (.reg false [⟨(some 2), none, .mv (.v (.int .i64 (0)))⟩] (some ⟨[0], [], []⟩))
  (.seq (.seq (.reg false [⟨(some 6), none, .mv (.t 0)⟩, ⟨(some 7), none, .len (.t 6)⟩, ⟨(some 8), none, .bin .gtr (.t 7) (.v (.int .i64 (5000)))⟩] (some ⟨[0,8], [], []⟩))
  (.cond (.t 8)
  (.seq (.reg false [⟨(some 2), none, .mv (.v (.int .i64 (2)))⟩] (some ⟨[2], [], []⟩))
  .ret)
  .skip))
  (.seq (.seq (.reg false [⟨(some 9), none, .mv (.t 0)⟩, ⟨(some 10), none, .len (.t 9)⟩, ⟨(some 11), none, .mv (.v (.int .i64 (0)))⟩] (some ⟨[0,9,10,11], [], []⟩))
  (.block 0 (.loop (.seq (.reg false [⟨(some 12), none, .bin .lss (.t 11) (.t 10)⟩] (some ⟨[0,9,10,11,12], [], []⟩))
  (.seq (.cond (.t 12)
  .skip
  (.exit 0))
  (.seq (.block 1 (.seq (.reg false [⟨(some 13), none, .mv (.t 11)⟩, ⟨(some 14), none, .iadr 3 (.t 9) (.t 11)⟩, ⟨(some 15), none, .load true 3 (.t 14)⟩, ⟨(some 4), none, .alloc [(.int .i64 (0)), (.int .i64 (0)), (.int .i64 (0))]⟩, ⟨(some 3), none, .mv (.t 13)⟩, ⟨none, none, .store 3 (.t 4) (.t 15)⟩] (some ⟨[0,3,4,9,10,11], [4], []⟩))
  (.seq (.seq (.reg false [⟨(some 16), none, .load true 3 (.t 4)⟩, ⟨(some 17), none, .call (.f 80) [(.t 16)]⟩, ⟨(some 5), none, .mv (.t 17)⟩] (some ⟨[0,3,4,5,9,10,11], [4], []⟩))
  (.seq (.reg false [⟨(some 18), none, .mv (.t 5)⟩, ⟨(some 19), none, .bin .neq (.t 18) (.v (.int .i64 (0)))⟩] (some ⟨[0,3,4,5,9,10,11,19], [4], []⟩))
  (.cond (.t 19)
  (.seq (.reg false [⟨(some 20), none, .mv (.t 5)⟩, ⟨(some 2), none, .mv (.t 20)⟩] (some ⟨[2], [], []⟩))
  .ret)
  .skip)))
  (.seq (.reg true [⟨(some 21), none, .mv (.t 3)⟩, ⟨(some 22), none, .bin .gtr (.t 21) (.v (.int .i64 (0)))⟩, ⟨(some 23), none, .mv (.t 22)⟩, ⟨(some 24), (some (23, true)), .fadr 0 (.t 4)⟩, ⟨(some 25), (some (23, true)), .load false 1 (.t 24)⟩, ⟨(some 26), (some (23, true)), .mv (.t 0)⟩, ⟨(some 27), (some (23, true)), .mv (.t 3)⟩, ⟨(some 28), (some (23, true)), .bin .sub (.t 27) (.v (.int .i64 (1)))⟩, ⟨(some 29), (some (23, true)), .iadr 3 (.t 26) (.t 28)⟩, ⟨(some 30), (some (23, true)), .fadr 0 (.t 29)⟩, ⟨(some 31), (some (23, true)), .load false 1 (.t 30)⟩, ⟨(some 32), (some (23, true)), .bin .leq (.t 25) (.t 31)⟩, ⟨(some 33), none, .pick (.t 23) (.t 32) (.v (.bool false))⟩] (some ⟨[0,9,10,11,33], [], []⟩))
  (.cond (.t 33)
  (.seq (.reg false [⟨(some 2), none, .mv (.v (.int .i64 (7)))⟩] (some ⟨[2], [], []⟩))
  .ret)
  .skip)))))
  (.reg false [⟨(some 34), none, .bin .add (.t 11) (.v (.int .i64 (1)))⟩, ⟨(some 11), none, .mv (.t 34)⟩] (some ⟨[0,9,10,11], [], []⟩))))))))
  (.seq (.reg false [⟨(some 2), none, .mv (.v (.int .i64 (0)))⟩] (some ⟨[2], [], []⟩))
  .ret))))
theorem c_seriesFault : compileCode Try.prog Try.f28.ntmps (Try.f28.body.getD .skip) A_seriesFault = some (C_seriesFault, []) := by kernel_rfl
theorem r_seriesFault : compileRes Try.prog Try.f28.results.toList = some [.t 2] := by kernel_rfl
theorem b_seriesFault : Try.f28.body = some (Try.f28.body.getD .skip) := by kernel_rfl
theorem n_seriesFault : (Try.f28.name == "runtime.NumGoroutine") = false := by kernel_rfl
theorem fc_seriesFault {xt : Option (List Cel)} {args : List Val} {R : List Cel → Val → Prop} (hn : (if xt.isSome then 1 else 0) + args.length ≤ Try.f28.ntmps) (h : ex Try.prog C_seriesFault [] (fpost xt [.t 2] R) (initSt xt args)) : FC Try.prog 28 xt args R :=
  fc_of_awp Try.func28 b_seriesFault n_seriesFault c_seriesFault r_seriesFault (of_decide_eq_true (by kernel_rfl)) hn h

def A_windowFault : List Ann := [⟨(some ⟨[1], [1], []⟩), [], [], [], []⟩, ⟨(some ⟨[13], [], []⟩), [], [], [], []⟩, ⟨(some ⟨[2], [], []⟩), [], [], [], []⟩, ⟨(some ⟨[2], [], []⟩), [], [], [], []⟩]
def C_windowFault : AC := (.seq (.reg false [⟨(some 1), none, .box (.t 0)⟩, ⟨(some 2), none, .mv (.v (.int .i64 (0)))⟩] (some ⟨[1], [1], []⟩))
  (.seq (.seq (.reg false [⟨(some 3), none, .fadr 0 (.t 1)⟩, ⟨(some 4), none, .load false 1 (.t 3)⟩, ⟨(some 5), none, .fadr 1 (.t 1)⟩, ⟨(some 6), none, .load false 1 (.t 5)⟩, ⟨(some 7), none, .call (.f 129) [(.t 4), (.v (.int .i64 (0))), (.t 6)]⟩, ⟨(some 8), none, .un .not (.t 7)⟩, ⟨(some 9), none, .mv (.t 8)⟩, ⟨(some 10), (some (9, false)), .fadr 1 (.t 1)⟩, ⟨(some 11), (some (9, false)), .load false 1 (.t 10)⟩, ⟨(some 12), (some (9, false)), .bin .gtr (.t 11) (.v (.int .i64 (345686400000)))⟩, ⟨(some 13), none, .pick (.t 9) (.v (.bool true)) (.t 12)⟩] (some ⟨[13], [], []⟩))
  (.cond (.t 13)
  (.seq (.reg false [⟨(some 2), none, .mv (.v (.int .i64 (1)))⟩] (some ⟨[2], [], []⟩))
  .ret)
  .skip))
  (.seq (.reg false [⟨(some 2), none, .mv (.v (.int .i64 (0)))⟩] (some ⟨[2], [], []⟩))
  .ret)))
theorem c_windowFault : compileCode Try.prog Try.f66.ntmps (Try.f66.body.getD .skip) A_windowFault = some (C_windowFault, []) := by kernel_rfl
theorem r_windowFault : compileRes Try.prog Try.f66.results.toList = some [.t 2] := by kernel_rfl
theorem b_windowFault : Try.f66.body = some (Try.f66.body.getD .skip) := by kernel_rfl
theorem n_windowFault : (Try.f66.name == "runtime.NumGoroutine") = false := by kernel_rfl
theorem fc_windowFault {xt : Option (List Cel)} {args : List Val} {R : List Cel → Val → Prop} (hn : (if xt.isSome then 1 else 0) + args.length ≤ Try.f66.ntmps) (h : ex Try.prog C_windowFault [] (fpost xt [.t 2] R) (initSt xt args)) : FC Try.prog 66 xt args R :=
  fc_of_awp Try.func66 b_windowFault n_windowFault c_windowFault r_windowFault (of_decide_eq_true (by kernel_rfl)) hn h

def A_spanFault1 : List Ann := [⟨(some ⟨[0,1,2], [], []⟩), [], [], [], []⟩, ⟨(some ⟨[11], [], []⟩), [], [], [], []⟩, ⟨(some ⟨[6], [], []⟩), [], [], [], []⟩, ⟨(some ⟨[6], [], []⟩), [], [], [], []⟩]
def C_spanFault1 : AC := (.seq (.reg false [⟨(some 6), none, .mv (.v (.int .i64 (0)))⟩] (some ⟨[0,1,2], [], []⟩))
  (.seq (.seq (.reg false [⟨(some 7), none, .mv (.t 0)⟩, ⟨(some 8), none, .mv (.t 1)⟩, ⟨(some 9), none, .mv (.t 2)⟩, ⟨(some 10), none, .call (.f 88) [(.t 7), (.t 8), (.t 9)]⟩, ⟨(some 11), none, .un .not (.t 10)⟩] (some ⟨[11], [], []⟩))
  (.cond (.t 11)
  (.seq (.reg false [⟨(some 6), none, .mv (.v (.int .i64 (1)))⟩] (some ⟨[6], [], []⟩))
  .ret)
  .skip))
  (.seq (.reg false [⟨(some 6), none, .mv (.v (.int .i64 (0)))⟩] (some ⟨[6], [], []⟩))
  .ret)))
theorem c_spanFault1 : compileCode Try.prog Try.f76.ntmps (Try.f76.body.getD .skip) A_spanFault1 = some (C_spanFault1, []) := by kernel_rfl
theorem r_spanFault1 : compileRes Try.prog Try.f76.results.toList = some [.t 6] := by kernel_rfl
theorem b_spanFault1 : Try.f76.body = some (Try.f76.body.getD .skip) := by kernel_rfl
theorem n_spanFault1 : (Try.f76.name == "runtime.NumGoroutine") = false := by kernel_rfl
theorem fc_spanFault1 {xt : Option (List Cel)} {args : List Val} {R : List Cel → Val → Prop} (hn : (if xt.isSome then 1 else 0) + args.length ≤ Try.f76.ntmps) (h : ex Try.prog C_spanFault1 [] (fpost xt [.t 6] R) (initSt xt args)) : FC Try.prog 76 xt args R :=
  fc_of_awp Try.func76 b_spanFault1 n_spanFault1 c_spanFault1 r_spanFault1 (of_decide_eq_true (by kernel_rfl)) hn h

def A_rin1 : List Ann := [⟨(some ⟨[0,1,2], [], []⟩), [], [], [], []⟩, ⟨(some ⟨[6], [], []⟩), [], [], [], []⟩]
def C_rin1 : AC := (.seq (.reg false [⟨(some 6), none, .mv (.v (.bool false))⟩] (some ⟨[0,1,2], [], []⟩))
  (.seq (.reg false [⟨(some 7), none, .mv (.t 1)⟩, ⟨(some 8), none, .mv (.t 0)⟩, ⟨(some 9), none, .bin .leq (.t 7) (.t 8)⟩, ⟨(some 10), none, .mv (.t 9)⟩, ⟨(some 11), (some (10, true)), .mv (.t 0)⟩, ⟨(some 12), (some (10, true)), .mv (.t 2)⟩, ⟨(some 13), (some (10, true)), .bin .leq (.t 11) (.t 12)⟩, ⟨(some 14), none, .pick (.t 10) (.t 13) (.v (.bool false))⟩, ⟨(some 6), none, .mv (.t 14)⟩] (some ⟨[6], [], []⟩))
  .ret))
theorem c_rin1 : compileCode Try.prog Try.f88.ntmps (Try.f88.body.getD .skip) A_rin1 = some (C_rin1, []) := by kernel_rfl
theorem r_rin1 : compileRes Try.prog Try.f88.results.toList = some [.t 6] := by kernel_rfl
theorem b_rin1 : Try.f88.body = some (Try.f88.body.getD .skip) := by kernel_rfl
theorem n_rin1 : (Try.f88.name == "runtime.NumGoroutine") = false := by kernel_rfl
theorem fc_rin1 {xt : Option (List Cel)} {args : List Val} {R : List Cel → Val → Prop} (hn : (if xt.isSome then 1 else 0) + args.length ≤ Try.f88.ntmps) (h : ex Try.prog C_rin1 [] (fpost xt [.t 6] R) (initSt xt args)) : FC Try.prog 88 xt args R :=
  fc_of_awp Try.func88 b_rin1 n_rin1 c_rin1 r_rin1 (of_decide_eq_true (by kernel_rfl)) hn h

def A_fault : List Ann := [⟨(some ⟨[0,3], [3], []⟩), [], [], [], []⟩, ⟨(some ⟨[3,5], [3], []⟩), [], [], [], []⟩, ⟨(some ⟨[5,14], [], []⟩), [], [], [], []⟩, ⟨(some ⟨[5], [], []⟩), [], [], [], []⟩, ⟨(some ⟨[4], [], []⟩), [], [], [], []⟩]
def C_fault : AC := (.seq (.reg false [⟨(some 3), none, .box (.t 1)⟩, ⟨(some 4), none, .mv (.v (.int .i64 (0)))⟩] (some ⟨[0,3], [3], []⟩))
  (.seq (.reg false [⟨(some 6), none, .mv (.t 0)⟩, ⟨(some 7), none, .call (.f 85) [(.t 6)]⟩, ⟨(some 5), none, .mv (.t 7)⟩] (some ⟨[3,5], [3], []⟩))
  (.seq (.seq (.reg false [⟨(some 8), none, .mv (.t 5)⟩, ⟨(some 9), none, .bin .eql (.t 8) (.v (.int .i64 (0)))⟩, ⟨(some 10), none, .mv (.t 9)⟩, ⟨(some 11), (some (10, true)), .load true 2 (.t 3)⟩, ⟨(some 12), (some (10, true)), .call (.f 156) [(.t 11)]⟩, ⟨(some 13), (some (10, true)), .un .not (.t 12)⟩, ⟨(some 14), none, .pick (.t 10) (.t 13) (.v (.bool false))⟩] (some ⟨[5,14], [], []⟩))
  (.cond (.t 14)
  (.reg false [⟨(some 5), none, .mv (.v (.int .i64 (1)))⟩] (some ⟨[5], [], []⟩))
  .skip))
  (.seq (.reg false [⟨(some 15), none, .mv (.t 5)⟩, ⟨(some 4), none, .mv (.t 15)⟩] (some ⟨[4], [], []⟩))
  .ret))))
theorem c_fault : compileCode Try.prog Try.f110.ntmps (Try.f110.body.getD .skip) A_fault = some (C_fault, []) := by kernel_rfl
theorem r_fault : compileRes Try.prog Try.f110.results.toList = some [.t 4] := by kernel_rfl
theorem b_fault : Try.f110.body = some (Try.f110.body.getD .skip) := by kernel_rfl
theorem n_fault : (Try.f110.name == "runtime.NumGoroutine") = false := by kernel_rfl
theorem fc_fault {xt : Option (List Cel)} {args : List Val} {R : List Cel → Val → Prop} (hn : (if xt.isSome then 1 else 0) + args.length ≤ Try.f110.ntmps) (h : ex Try.prog C_fault [] (fpost xt [.t 4] R) (initSt xt args)) : FC Try.prog 110 xt args R :=
  fc_of_awp Try.func110 b_fault n_fault c_fault r_fault (of_decide_eq_true (by kernel_rfl)) hn h

def A_everyFault : List Ann := [⟨(some ⟨[1,2], [2], []⟩), [], [], [], []⟩, ⟨(some ⟨[1,2,5], [2], []⟩), [], [], [], []⟩, ⟨(some ⟨[4], [], []⟩), [], [], [], []⟩, ⟨(some ⟨[8], [], []⟩), [], [], [], []⟩, ⟨(some ⟨[4], [], []⟩), [], [], [], []⟩, ⟨(some ⟨[4], [], []⟩), [], [], [], []⟩]
def C_everyFault : AC := (.seq (.reg false [⟨(some 2), none, .box (.t 0)⟩, ⟨(some 4), none, .mv (.v (.int .i64 (0)))⟩] (some ⟨[1,2], [2], []⟩))
  (.seq (.block 0 (.seq (.reg false [⟨(some 6), none, .mv (.t 1)⟩, ⟨(some 7), none, .call (.f 97) [(.t 6), (.v (.int .i64 (1))), (.v (.int .i64 (86400000)))]⟩, ⟨(some 5), none, .mv (.t 7)⟩] (some ⟨[1,2,5], [2], []⟩))
  (.cond (.t 5)
  (.seq (.reg false [⟨(some 4), none, .mv (.v (.int .i64 (1)))⟩] (some ⟨[4], [], []⟩))
  .ret)
  (.seq (.reg false [⟨(some 9), none, .fadr 1 (.t 2)⟩, ⟨(some 10), none, .load false 1 (.t 9)⟩, ⟨(some 11), none, .fadr 0 (.t 2)⟩, ⟨(some 12), none, .load false 1 (.t 11)⟩, ⟨(some 13), none, .bin .sub (.t 10) (.t 12)⟩, ⟨(some 14), none, .mv (.t 1)⟩, ⟨(some 15), none, .bin .add (.t 13) (.t 14)⟩, ⟨(some 16), none, .bin .sub (.t 15) (.v (.int .i64 (1)))⟩, ⟨(some 17), none, .mv (.t 1)⟩, ⟨(some 18), none, .bin .quo (.t 16) (.t 17)⟩, ⟨(some 19), none, .bin .gtr (.t 18) (.v (.int .i64 (5000)))⟩, ⟨(some 8), none, .mv (.t 19)⟩] (some ⟨[8], [], []⟩))
  (.cond (.t 8)
  (.seq (.reg false [⟨(some 4), none, .mv (.v (.int .i64 (2)))⟩] (some ⟨[4], [], []⟩))
  .ret)
  .skip)))))
  (.seq (.reg false [⟨(some 4), none, .mv (.v (.int .i64 (0)))⟩] (some ⟨[4], [], []⟩))
  .ret)))
theorem c_everyFault : compileCode Try.prog Try.f111.ntmps (Try.f111.body.getD .skip) A_everyFault = some (C_everyFault, []) := by kernel_rfl
theorem r_everyFault : compileRes Try.prog Try.f111.results.toList = some [.t 4] := by kernel_rfl
theorem b_everyFault : Try.f111.body = some (Try.f111.body.getD .skip) := by kernel_rfl
theorem n_everyFault : (Try.f111.name == "runtime.NumGoroutine") = false := by kernel_rfl
theorem fc_everyFault {xt : Option (List Cel)} {args : List Val} {R : List Cel → Val → Prop} (hn : (if xt.isSome then 1 else 0) + args.length ≤ Try.f111.ntmps) (h : ex Try.prog C_everyFault [] (fpost xt [.t 4] R) (initSt xt args)) : FC Try.prog 111 xt args R :=
  fc_of_awp Try.func111 b_everyFault n_everyFault c_everyFault r_everyFault (of_decide_eq_true (by kernel_rfl)) hn h



abbrev smpV (x : Smp) : Val := .ag (smpC x)
abbrev winV (f t : Int) : Val := .ag [.g (.int .i64 f), .g (.int .i64 t)]
def MAXT : Int := 345686399999
def smpFault (x : Smp) : Int := if x.a < 0 ∨ x.a > 345686399999 then 1 else if x.q < 0 ∨ x.q > 2 then 4 else if x.v < -1000000 ∨ x.v > 1000000 then 1 else if x.q = 2 ∧ x.v ≠ 0 then 3 else 0
def serGo : Option Smp → List Smp → Int
  | _, [] => 0
  | p, x :: t => if smpFault x ≠ 0 then smpFault x else if (match p with | none => false | some y => decide (x.a ≤ y.a)) then 7 else serGo (some x) t
def serFault (l : List Smp) : Int := if 5000 < l.length then 2 else serGo none l
def winFault (f t : Int) : Int := if f < 0 ∨ f > t ∨ t > 345686400000 then 1 else 0

theorem out_fc (n lo hi : Int) : FC Try.prog 97 none [iv n, iv lo, iv hi] (fun _ r => r = bv (decide (n < lo ∨ n > hi))) := by
  refine fc_out (by simp +arith) ?_
  unfold C_out
  simp (maxSteps := 1000000) (disch := omega) only [go_sem, eq_self, decide_true, decide_false, not_true_eq_false, not_false_eq_true, reduceIte, reduceCtorEq, Nat.reduceEqDiff, Nat.reduceAdd, Nat.reduceSub, Nat.reduceLeDiff]
  by_cases h : n < lo <;> simp [h]
theorem moment_fc (n : Int) : FC Try.prog 104 none [iv n] (fun _ r => r = bv (decide (0 ≤ n ∧ n ≤ 345686399999))) := by
  refine fc_moment (by simp +arith) ?_
  unfold C_moment
  simp (maxSteps := 1000000) (disch := omega) only [go_sem, eq_self, decide_true, decide_false, not_true_eq_false, not_false_eq_true, reduceIte, reduceCtorEq, Nat.reduceEqDiff, Nat.reduceAdd, Nat.reduceSub, Nat.reduceLeDiff]
  refine CALL_det (out_fc _ _ _) (.inl rfl) ?_
  simp (maxSteps := 1000000) (disch := omega) only [go_sem, eq_self, decide_true, decide_false, not_true_eq_false, not_false_eq_true, reduceIte, reduceCtorEq, Nat.reduceEqDiff, Nat.reduceAdd, Nat.reduceSub, Nat.reduceLeDiff]
  exact (bv_congr (by first | (simp; done) | (simp; omega)))
theorem window_fc (f t : Int) : FC Try.prog 156 none [winV f t] (fun _ r => r = bv (decide (winFault f t = 0))) := by
  refine fc_window (by simp +arith) ?_
  unfold C_window
  simp (maxSteps := 1000000) (disch := omega) only [go_sem, eq_self, decide_true, decide_false, not_true_eq_false, not_false_eq_true, reduceIte, reduceCtorEq, Nat.reduceEqDiff, Nat.reduceAdd, Nat.reduceSub, Nat.reduceLeDiff]
  refine CALL_det (out_fc _ _ _) (.inl rfl) ?_
  simp (maxSteps := 1000000) (disch := omega) only [go_sem, eq_self, decide_true, decide_false, not_true_eq_false, not_false_eq_true, reduceIte, reduceCtorEq, Nat.reduceEqDiff, Nat.reduceAdd, Nat.reduceSub, Nat.reduceLeDiff]
  exact ⟨fun h => bv_congr (by unfold winFault; simp; omega), fun h => bv_congr (by unfold winFault; simp; omega)⟩
theorem checkSample_fc (x : Smp) : FC Try.prog 78 none [smpV x] (fun _ r => r = iv (smpFault x)) := by
  refine fc_checkSample (by simp +arith) ?_
  unfold C_checkSample
  simp (maxSteps := 1000000) (disch := omega) only [go_sem, eq_self, decide_true, decide_false, not_true_eq_false, not_false_eq_true, reduceIte, reduceCtorEq, Nat.reduceEqDiff, Nat.reduceAdd, Nat.reduceSub, Nat.reduceLeDiff]
  refine CALL_det (moment_fc _) (.inl rfl) ?_
  simp (maxSteps := 1000000) (disch := omega) only [go_sem, eq_self, decide_true, decide_false, not_true_eq_false, not_false_eq_true, reduceIte, reduceCtorEq, Nat.reduceEqDiff, Nat.reduceAdd, Nat.reduceSub, Nat.reduceLeDiff]
  refine ⟨fun h1 => (iv_congr (by simp only [smpFault]; (repeat' split) <;> (first | omega | simp_all <;> omega))), fun h1 => ?_⟩
  refine CALL_det (out_fc _ _ _) (.inl rfl) ?_
  simp (maxSteps := 1000000) (disch := omega) only [go_sem, eq_self, decide_true, decide_false, not_true_eq_false, not_false_eq_true, reduceIte, reduceCtorEq, Nat.reduceEqDiff, Nat.reduceAdd, Nat.reduceSub, Nat.reduceLeDiff]
  refine ⟨fun h2 => (iv_congr (by simp only [smpFault]; (repeat' split) <;> (first | omega | simp_all <;> omega))), fun h2 => ?_⟩
  refine CALL_det (out_fc _ _ _) (.inl rfl) ?_
  simp (maxSteps := 1000000) (disch := omega) only [go_sem, eq_self, decide_true, decide_false, not_true_eq_false, not_false_eq_true, reduceIte, reduceCtorEq, Nat.reduceEqDiff, Nat.reduceAdd, Nat.reduceSub, Nat.reduceLeDiff]
  refine ⟨fun h3 => (iv_congr (by simp only [smpFault]; (repeat' split) <;> (first | omega | simp_all <;> omega))), fun h3 => ⟨fun h4 => ⟨fun h5 => (iv_congr (by simp only [smpFault]; (repeat' split) <;> (first | omega | simp_all <;> omega))), fun h5 => (iv_congr (by simp only [smpFault]; (repeat' split) <;> (first | omega | simp_all <;> omega)))⟩, fun h4 => (iv_congr (by simp only [smpFault]; (repeat' split) <;> (first | omega | simp_all <;> omega)))⟩⟩
theorem serFault_ok {l : List Smp} (h : serFault l = 0) : l.length ≤ 5000 ∧ serGo none l = 0 := by
  unfold serFault at h; split at h
  · omega
  · exact ⟨by omega, h⟩
/-- The sample ahead of number i. -/
def prv (l : List Smp) (i : Nat) : Option Smp := if i = 0 then none else some (l.getD (i - 1) default)
theorem serGo_step (l : List Smp) (i : Nat) (h : i < l.length) : serGo (prv l i) (l.drop i) = if smpFault (l.getD i default) ≠ 0 then smpFault (l.getD i default) else if (0 < i ∧ (l.getD i default).a ≤ (l.getD (i - 1) default).a) then 7 else serGo (prv l (i + 1)) (l.drop (i + 1)) := by
  have e : l.drop i = l.getD i default :: l.drop (i + 1) := by
    rw [List.drop_eq_getElem_cons h]; simp [List.getD_eq_getElem?_getD, h]
  rw [e, serGo.eq_def]
  simp only []
  by_cases hi : i = 0
  · subst hi; simp [prv]
  · have : 0 < i := by omega
    simp [prv, hi, this]
def csSt (l : List Smp) (i : Int) : AS := ⟨tabV [(0, smps false l), (9, smps false l), (10, iv l.length), (11, iv i)], tabO [], tabO []⟩
theorem checkSeries_fc (l : List Smp) (hl : l.length ≤ 4611686018427387904) : FC Try.prog 85 none [smps false l] (fun _ r => r = iv (serFault l)) := by
  refine fc_checkSeries (by simp +arith) ?_
  unfold C_checkSeries
  simp (maxSteps := 1000000) (disch := omega) only [go_sem, eq_self, decide_true, decide_false, not_true_eq_false, not_false_eq_true, reduceIte, reduceCtorEq, Nat.reduceEqDiff, Nat.reduceAdd, Nat.reduceSub, Nat.reduceLeDiff]
  refine ⟨fun h => iv_congr (by unfold serFault; rw [if_pos (by omega)]), fun h => ?_⟩
  refine ex_loopI (csSt l) (fun i => 0 ≤ i ∧ i ≤ l.length ∧ serGo (prv l i.toNat) (l.drop i.toNat) = serFault l) (fun i => (l.length - i).toNat) 0 ⟨by omega, by omega, by unfold serFault; rw [if_neg (by omega)]; rfl⟩ rfl ?_
  rintro i ⟨g1, g2, g3⟩
  unfold csSt
  simp (maxSteps := 1000000) (disch := omega) only [go_sem, eq_self, decide_true, decide_false, not_true_eq_false, not_false_eq_true, reduceIte, reduceCtorEq, Nat.reduceEqDiff, Nat.reduceAdd, Nat.reduceSub, Nat.reduceLeDiff]
  refine ⟨fun hi => and_then ⟨by omega, by omega⟩ fun _ => ?_, fun hi => ?_⟩
  · have g4 := serGo_step l i.toNat (by omega)
    rw [g3] at g4
    rw [getD_map_in smpC l i.toNat [] (by omega)]
    simp (maxSteps := 1000000) (disch := omega) only [go_sem, eq_self, decide_true, decide_false, not_true_eq_false, not_false_eq_true, reduceIte, reduceCtorEq, Nat.reduceEqDiff, Nat.reduceAdd, Nat.reduceSub, Nat.reduceLeDiff]
    refine CALL_det (checkSample_fc _) (.inl rfl) ?_
    simp (maxSteps := 1000000) (disch := omega) only [go_sem, eq_self, decide_true, decide_false, not_true_eq_false, not_false_eq_true, reduceIte, reduceCtorEq, Nat.reduceEqDiff, Nat.reduceAdd, Nat.reduceSub, Nat.reduceLeDiff]
    have e1 : (i - 1).toNat = i.toNat - 1 := by omega
    have e2 : (i + 1).toNat = i.toNat + 1 := by omega
    rw [e1]
    refine ⟨fun h1 => iv_congr (by rw [g4, if_pos h1]), fun h1 => ⟨fun h2 => ⟨⟨by omega, by omega⟩, fun h3 => iv_congr (by rw [g4, if_neg h1, if_pos ⟨by omega, h3⟩]), fun h3 => ⟨i + 1, ⟨by omega, by omega, ?_⟩, rfl, by omega⟩⟩, fun h2 => ⟨i + 1, ⟨by omega, by omega, ?_⟩, rfl, by omega⟩⟩⟩
    · rw [g4, if_neg h1, if_neg (fun h => h3 h.2), e2]
    · rw [g4, if_neg h1, if_neg (fun h => h2 (by omega)), e2]
  · refine iv_congr ?_
    rw [← g3, List.drop_eq_nil_of_le (by omega)]
    simp [serGo]
theorem in_fc (n lo hi : Int) : FC Try.prog 129 none [iv n, iv lo, iv hi] (fun _ r => r = bv (decide (lo ≤ n ∧ n ≤ hi))) := by
  refine fc_in_ (by simp +arith) ?_
  unfold C_in_
  simp (maxSteps := 1000000) (disch := omega) only [go_sem, eq_self, decide_true, decide_false, not_true_eq_false, not_false_eq_true, reduceIte, reduceCtorEq, Nat.reduceEqDiff, Nat.reduceAdd, Nat.reduceSub, Nat.reduceLeDiff]
  (repeat' (first | apply And.intro | intro _)) <;> first | rfl | omega | exact iv_congr (by first | omega | ((try simp only []); (repeat' split) <;> (first | omega | (simp_all; done) | (simp_all; omega)))) | exact bv_dec (by first | omega | ((try simp only []); (repeat' split) <;> omega)) | exact bv_ndec (by first | omega | ((try simp only []); (repeat' split) <;> omega)) | exact bv_f (by first | omega | ((try simp only []); (repeat' split) <;> omega)) | exact bv_t (by first | omega | ((try simp only []); (repeat' split) <;> omega))
theorem rmoment2_fc (n : Int) : FC Try.prog 142 none [iv n] (fun _ r => r = bv (decide (0 ≤ n ∧ n ≤ 345686399999))) := by
  refine fc_rmoment2 (by simp +arith) ?_
  unfold C_rmoment2
  simp (maxSteps := 1000000) (disch := omega) only [go_sem, eq_self, decide_true, decide_false, not_true_eq_false, not_false_eq_true, reduceIte, reduceCtorEq, Nat.reduceEqDiff, Nat.reduceAdd, Nat.reduceSub, Nat.reduceLeDiff]
  refine CALL_det (in_fc _ _ _) (.inl rfl) ?_
  simp (maxSteps := 1000000) (disch := omega) only [go_sem, eq_self, decide_true, decide_false, not_true_eq_false, not_false_eq_true, reduceIte, reduceCtorEq, Nat.reduceEqDiff, Nat.reduceAdd, Nat.reduceSub, Nat.reduceLeDiff]
theorem sampleFault_fc (x : Smp) : FC Try.prog 80 none [smpV x] (fun _ r => r = iv (smpFault x)) := by
  refine fc_sampleFault (by simp +arith) ?_
  unfold C_sampleFault
  simp (maxSteps := 1000000) (disch := omega) only [go_sem, eq_self, decide_true, decide_false, not_true_eq_false, not_false_eq_true, reduceIte, reduceCtorEq, Nat.reduceEqDiff, Nat.reduceAdd, Nat.reduceSub, Nat.reduceLeDiff]
  refine CALL_det (rmoment2_fc _) (.inl rfl) ?_
  simp (maxSteps := 1000000) (disch := omega) only [go_sem, eq_self, decide_true, decide_false, not_true_eq_false, not_false_eq_true, reduceIte, reduceCtorEq, Nat.reduceEqDiff, Nat.reduceAdd, Nat.reduceSub, Nat.reduceLeDiff]
  refine ⟨fun h1 => (iv_congr (by simp only [smpFault]; (repeat' split) <;> (first | omega | simp_all <;> omega))), fun h1 => ?_⟩
  refine CALL_det (in_fc _ _ _) (.inl rfl) ?_
  simp (maxSteps := 1000000) (disch := omega) only [go_sem, eq_self, decide_true, decide_false, not_true_eq_false, not_false_eq_true, reduceIte, reduceCtorEq, Nat.reduceEqDiff, Nat.reduceAdd, Nat.reduceSub, Nat.reduceLeDiff]
  refine ⟨fun h2 => (iv_congr (by simp only [smpFault]; (repeat' split) <;> (first | omega | simp_all <;> omega))), fun h2 => ?_⟩
  refine CALL_det (in_fc _ _ _) (.inl rfl) ?_
  simp (maxSteps := 1000000) (disch := omega) only [go_sem, eq_self, decide_true, decide_false, not_true_eq_false, not_false_eq_true, reduceIte, reduceCtorEq, Nat.reduceEqDiff, Nat.reduceAdd, Nat.reduceSub, Nat.reduceLeDiff]
  refine ⟨fun h3 => (iv_congr (by simp only [smpFault]; (repeat' split) <;> (first | omega | simp_all <;> omega))), fun h3 => ⟨fun h4 => ⟨fun h5 => (iv_congr (by simp only [smpFault]; (repeat' split) <;> (first | omega | simp_all <;> omega))), fun h5 => (iv_congr (by simp only [smpFault]; (repeat' split) <;> (first | omega | simp_all <;> omega)))⟩, fun h4 => (iv_congr (by simp only [smpFault]; (repeat' split) <;> (first | omega | simp_all <;> omega)))⟩⟩
theorem seriesFault_fc (l : List Smp) (hl : l.length ≤ 4611686018427387904) : FC Try.prog 28 none [smps false l] (fun _ r => r = iv (serFault l)) := by
  refine fc_seriesFault (by simp +arith) ?_
  unfold C_seriesFault
  simp (maxSteps := 1000000) (disch := omega) only [go_sem, eq_self, decide_true, decide_false, not_true_eq_false, not_false_eq_true, reduceIte, reduceCtorEq, Nat.reduceEqDiff, Nat.reduceAdd, Nat.reduceSub, Nat.reduceLeDiff]
  refine ⟨fun h => iv_congr (by unfold serFault; rw [if_pos (by omega)]), fun h => ?_⟩
  refine ex_loopI (csSt l) (fun i => 0 ≤ i ∧ i ≤ l.length ∧ serGo (prv l i.toNat) (l.drop i.toNat) = serFault l) (fun i => (l.length - i).toNat) 0 ⟨by omega, by omega, by unfold serFault; rw [if_neg (by omega)]; rfl⟩ rfl ?_
  rintro i ⟨g1, g2, g3⟩
  unfold csSt
  simp (maxSteps := 1000000) (disch := omega) only [go_sem, eq_self, decide_true, decide_false, not_true_eq_false, not_false_eq_true, reduceIte, reduceCtorEq, Nat.reduceEqDiff, Nat.reduceAdd, Nat.reduceSub, Nat.reduceLeDiff]
  refine ⟨fun hi => and_then ⟨by omega, by omega⟩ fun _ => ?_, fun hi => ?_⟩
  · have g4 := serGo_step l i.toNat (by omega)
    rw [g3] at g4
    rw [getD_map_in smpC l i.toNat [] (by omega)]
    simp (maxSteps := 1000000) (disch := omega) only [go_sem, eq_self, decide_true, decide_false, not_true_eq_false, not_false_eq_true, reduceIte, reduceCtorEq, Nat.reduceEqDiff, Nat.reduceAdd, Nat.reduceSub, Nat.reduceLeDiff]
    refine CALL_det (sampleFault_fc _) (.inl rfl) ?_
    simp (maxSteps := 1000000) (disch := omega) only [go_sem, eq_self, decide_true, decide_false, not_true_eq_false, not_false_eq_true, reduceIte, reduceCtorEq, Nat.reduceEqDiff, Nat.reduceAdd, Nat.reduceSub, Nat.reduceLeDiff]
    have e1 : (i - 1).toNat = i.toNat - 1 := by omega
    have e2 : (i + 1).toNat = i.toNat + 1 := by omega
    rw [e1]
    refine ⟨fun h1 => iv_congr (by rw [g4, if_pos h1]), fun h1 => ⟨fun h2 => ⟨⟨by omega, by omega⟩, fun h3 => iv_congr (by rw [g4, if_neg h1, if_pos ⟨by omega, h3⟩]), fun h3 => ⟨i + 1, ⟨by omega, by omega, ?_⟩, rfl, by omega⟩⟩, fun h2 => ⟨i + 1, ⟨by omega, by omega, ?_⟩, rfl, by omega⟩⟩⟩
    · rw [g4, if_neg h1, if_neg (fun h => h3 h.2), e2]
    · rw [g4, if_neg h1, if_neg (fun h => h2 (by omega)), e2]
  · refine iv_congr ?_
    rw [← g3, List.drop_eq_nil_of_le (by omega)]
    simp [serGo]
theorem windowFault_fc (f t : Int) : FC Try.prog 66 none [winV f t] (fun _ r => r = iv (winFault f t)) := by
  refine fc_windowFault (by simp +arith) ?_
  unfold C_windowFault
  simp (maxSteps := 1000000) (disch := omega) only [go_sem, eq_self, decide_true, decide_false, not_true_eq_false, not_false_eq_true, reduceIte, reduceCtorEq, Nat.reduceEqDiff, Nat.reduceAdd, Nat.reduceSub, Nat.reduceLeDiff]
  refine CALL_det (in_fc _ _ _) (.inl rfl) ?_
  simp (maxSteps := 1000000) (disch := omega) only [go_sem, eq_self, decide_true, decide_false, not_true_eq_false, not_false_eq_true, reduceIte, reduceCtorEq, Nat.reduceEqDiff, Nat.reduceAdd, Nat.reduceSub, Nat.reduceLeDiff]
  (repeat' (first | apply And.intro | intro _)) <;> first | rfl | omega | exact iv_congr (by first | omega | ((try simp only [winFault]); (repeat' split) <;> (first | omega | (simp_all; done) | (simp_all; omega)))) | exact bv_dec (by first | omega | ((try simp only [winFault]); (repeat' split) <;> omega)) | exact bv_ndec (by first | omega | ((try simp only [winFault]); (repeat' split) <;> omega)) | exact bv_f (by first | omega | ((try simp only [winFault]); (repeat' split) <;> omega)) | exact bv_t (by first | omega | ((try simp only [winFault]); (repeat' split) <;> omega))
def momFault (n : Int) : Int := if 0 ≤ n ∧ n ≤ 345686399999 then 0 else 1
theorem rin1_fc (n lo hi : Int) : FC Try.prog 88 none [iv n, iv lo, iv hi] (fun _ r => r = bv (decide (lo ≤ n ∧ n ≤ hi))) := by
  refine fc_rin1 (by simp +arith) ?_
  unfold C_rin1
  simp (maxSteps := 1000000) (disch := omega) only [go_sem, eq_self, decide_true, decide_false, not_true_eq_false, not_false_eq_true, reduceIte, reduceCtorEq, Nat.reduceEqDiff, Nat.reduceAdd, Nat.reduceSub, Nat.reduceLeDiff]
  (repeat' (first | apply And.intro | intro _)) <;> first | rfl | omega | exact iv_congr (by first | omega | ((try simp only []); (repeat' split) <;> (first | omega | (simp_all; done) | (simp_all; omega)))) | exact bv_dec (by first | omega | ((try simp only []); (repeat' split) <;> omega)) | exact bv_ndec (by first | omega | ((try simp only []); (repeat' split) <;> omega)) | exact bv_f (by first | omega | ((try simp only []); (repeat' split) <;> omega)) | exact bv_t (by first | omega | ((try simp only []); (repeat' split) <;> omega))
theorem spanFault1_fc (n lo hi : Int) : FC Try.prog 76 none [iv n, iv lo, iv hi] (fun _ r => r = iv (if lo ≤ n ∧ n ≤ hi then 0 else 1)) := by
  refine fc_spanFault1 (by simp +arith) ?_
  unfold C_spanFault1
  simp (maxSteps := 1000000) (disch := omega) only [go_sem, eq_self, decide_true, decide_false, not_true_eq_false, not_false_eq_true, reduceIte, reduceCtorEq, Nat.reduceEqDiff, Nat.reduceAdd, Nat.reduceSub, Nat.reduceLeDiff]
  refine CALL_det (rin1_fc _ _ _) (.inl rfl) ?_
  simp (maxSteps := 1000000) (disch := omega) only [go_sem, eq_self, decide_true, decide_false, not_true_eq_false, not_false_eq_true, reduceIte, reduceCtorEq, Nat.reduceEqDiff, Nat.reduceAdd, Nat.reduceSub, Nat.reduceLeDiff]
  (repeat' (first | apply And.intro | intro _)) <;> first | rfl | omega | exact iv_congr (by first | omega | ((try simp only []); (repeat' split) <;> (first | omega | (simp_all; done) | (simp_all; omega)))) | exact bv_dec (by first | omega | ((try simp only []); (repeat' split) <;> omega)) | exact bv_ndec (by first | omega | ((try simp only []); (repeat' split) <;> omega)) | exact bv_f (by first | omega | ((try simp only []); (repeat' split) <;> omega)) | exact bv_t (by first | omega | ((try simp only []); (repeat' split) <;> omega))
def evFault (f t e : Int) : Int := if 1 ≤ e ∧ e ≤ 86400000 then (if 5000 < (t - f + e - 1).tdiv e then 2 else 0) else 1
theorem everyFault_fc (f t e : Int) (h : winFault f t = 0) : FC Try.prog 111 none [winV f t, iv e] (fun _ r => r = iv (evFault f t e)) := by
  have hw : 0 ≤ f ∧ f ≤ t ∧ t ≤ 345686400000 := by unfold winFault at h; split at h <;> omega
  refine fc_everyFault (by simp +arith) ?_
  unfold C_everyFault
  simp (maxSteps := 1000000) (disch := omega) only [go_sem, eq_self, decide_true, decide_false, not_true_eq_false, not_false_eq_true, reduceIte, reduceCtorEq, Nat.reduceEqDiff, Nat.reduceAdd, Nat.reduceSub, Nat.reduceLeDiff]
  refine CALL_det (out_fc _ _ _) (.inl rfl) ?_
  simp (maxSteps := 1000000) (disch := omega) only [go_sem, eq_self, decide_true, decide_false, not_true_eq_false, not_false_eq_true, reduceIte, reduceCtorEq, Nat.reduceEqDiff, Nat.reduceAdd, Nat.reduceSub, Nat.reduceLeDiff]
  have key : 1 ≤ e → e ≤ 86400000 → IntKind.i64.wrap ((IntKind.i64.wrap (IntKind.i64.wrap (t - f + e) - 1)).tdiv e) = (t - f + e - 1).tdiv e := fun h1 h2 => by
    rw [wrap_i64 (t - f + e) (by omega) (by omega), wrap_i64 (t - f + e - 1) (by omega) (by omega)]
    have h3 : 0 ≤ (t - f + e - 1).tdiv e := Int.tdiv_nonneg (by omega) (by omega)
    have h4 : (t - f + e - 1).tdiv e ≤ t - f + e - 1 := Int.tdiv_le_self _ (by omega)
    exact wrap_i64 _ (by omega) (by omega)
  refine ⟨fun h1 => iv_congr (by unfold evFault; rw [if_neg (by omega)]), fun h1 => ?_⟩
  rw [key (by omega) (by omega)]
  refine ⟨by omega, fun h2 => iv_congr (by unfold evFault; rw [if_pos (by omega), if_pos h2]), fun h2 => iv_congr (by unfold evFault; rw [if_pos (by omega), if_neg h2])⟩
/-- What is wrong with a series and a window. -/
def bothFault (l : List Smp) (f t : Int) : Int := if serFault l ≠ 0 then serFault l else winFault f t
theorem fault_fc (l : List Smp) (hl : l.length ≤ 4611686018427387904) (f t : Int) : FC Try.prog 110 none [smps false l, winV f t] (fun _ r => r = iv (bothFault l f t)) := by
  refine fc_fault (by simp +arith) ?_
  unfold C_fault
  simp (maxSteps := 1000000) (disch := omega) only [go_sem, eq_self, decide_true, decide_false, not_true_eq_false, not_false_eq_true, reduceIte, reduceCtorEq, Nat.reduceEqDiff, Nat.reduceAdd, Nat.reduceSub, Nat.reduceLeDiff]
  refine CALL_det (checkSeries_fc l hl) (.inl rfl) ?_
  simp (maxSteps := 1000000) (disch := omega) only [go_sem, eq_self, decide_true, decide_false, not_true_eq_false, not_false_eq_true, reduceIte, reduceCtorEq, Nat.reduceEqDiff, Nat.reduceAdd, Nat.reduceSub, Nat.reduceLeDiff]
  refine ⟨fun h1 => ?_, fun h1 => iv_congr (by unfold bothFault; rw [if_pos h1])⟩
  refine CALL_det (window_fc f t) (.inl rfl) ?_
  simp (maxSteps := 1000000) (disch := omega) only [go_sem, eq_self, decide_true, decide_false, not_true_eq_false, not_false_eq_true, reduceIte, reduceCtorEq, Nat.reduceEqDiff, Nat.reduceAdd, Nat.reduceSub, Nat.reduceLeDiff]
  unfold bothFault
  have hw : winFault f t = 0 ∨ winFault f t = 1 := by unfold winFault; split <;> omega
  exact ⟨fun h => iv_congr (by rw [if_neg (by omega)]; omega), fun h => iv_congr (by rw [if_neg (by omega)]; omega)⟩
end Go.Proofs.Ytggbcgldnjmobaa

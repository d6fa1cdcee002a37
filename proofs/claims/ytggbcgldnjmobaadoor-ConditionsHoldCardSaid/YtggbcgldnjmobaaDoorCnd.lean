
/-
  The reference: when an alarm is active, asked at each moment at which something can change: the walk.
-/
import Derived.Test.YtggbcgldnjmobaaDoorAct
import Derived.Test.YtggbcgldnjmobaaDoorAoq
import Derived.Test.YtggbcgldnjmobaaDoorSrj
import Derived.Test.YtggbcgldnjmobaaDoorSr0
namespace Go.Proofs.YtggbcgldnjmobaaDoor
open Go Go.Ai
set_option linter.unusedSimpArgs false
set_option linter.unusedVariables false
set_option maxHeartbeats 4000000
def A_rcond : List Ann := [⟨(some ⟨[2,3], [2,3], []⟩), [], [], [], []⟩, ⟨(some ⟨[2,3,6], [2,3], []⟩), [], [], [], []⟩, ⟨(some ⟨[2,3,6,11], [2,3], []⟩), [], [], [], []⟩, ⟨(some ⟨[2,3,6,11,12], [2,3], []⟩), [], [], [], []⟩, ⟨(some ⟨[4,5], [], []⟩), [], [], [], []⟩, ⟨(some ⟨[2,3,6,33], [2,3], []⟩), [], [], [], []⟩, ⟨(some ⟨[4,5], [], []⟩), [], [], [], []⟩, ⟨(some ⟨[4,5], [], []⟩), [], [], [], []⟩]
def C_rcond : AC := (.seq (.reg false [⟨(some 2), none, .box (.t 0)⟩, ⟨(some 3), none, .box (.t 1)⟩, ⟨(some 4), none, .mv (.v (.bool false))⟩, ⟨(some 5), none, .mv (.v (.bool false))⟩] (some ⟨[2,3], [2,3], []⟩))
  (.seq (.reg false [⟨(some 7), none, .fadr 2 (.t 3)⟩, ⟨(some 8), none, .load false 1 (.t 7)⟩, ⟨(some 9), none, .bin .neq (.t 8) (.v (.int .i64 (2)))⟩, ⟨(some 6), none, .mv (.t 9)⟩] (some ⟨[2,3,6], [2,3], []⟩))
  (.seq (.seq (.reg false [⟨(some 10), none, .fadr 2 (.t 2)⟩, ⟨(some 11), none, .load false 1 (.t 10)⟩] (some ⟨[2,3,6,11], [2,3], []⟩))
  (.block 0 (.seq (.reg false [⟨(some 13), none, .bin .eql (.t 11) (.v (.int .i64 (1)))⟩, ⟨(some 12), none, .mv (.t 13)⟩] (some ⟨[2,3,6,11,12], [2,3], []⟩))
  (.cond (.t 12)
  (.seq (.reg true [⟨(some 14), none, .mv (.t 6)⟩, ⟨(some 15), none, .mv (.t 14)⟩, ⟨(some 16), (some (15, true)), .fadr 1 (.t 3)⟩, ⟨(some 17), (some (15, true)), .load false 1 (.t 16)⟩, ⟨(some 18), (some (15, true)), .fadr 3 (.t 2)⟩, ⟨(some 19), (some (15, true)), .load false 1 (.t 18)⟩, ⟨(some 20), (some (15, true)), .bin .gtr (.t 17) (.t 19)⟩, ⟨(some 21), none, .pick (.t 15) (.t 20) (.v (.bool false))⟩, ⟨(some 22), none, .mv (.t 6)⟩, ⟨(some 23), none, .mv (.t 22)⟩, ⟨(some 24), (some (23, true)), .fadr 1 (.t 3)⟩, ⟨(some 25), (some (23, true)), .load false 1 (.t 24)⟩, ⟨(some 26), (some (23, true)), .fadr 3 (.t 2)⟩, ⟨(some 27), (some (23, true)), .load false 1 (.t 26)⟩, ⟨(some 28), (some (23, true)), .fadr 4 (.t 2)⟩, ⟨(some 29), (some (23, true)), .load false 1 (.t 28)⟩, ⟨(some 30), (some (23, true)), .bin .sub (.t 27) (.t 29)⟩, ⟨(some 31), (some (23, true)), .bin .leq (.t 25) (.t 30)⟩, ⟨(some 32), none, .pick (.t 23) (.t 31) (.v (.bool false))⟩, ⟨(some 4), none, .mv (.t 21)⟩, ⟨(some 5), none, .mv (.t 32)⟩] (some ⟨[4,5], [], []⟩))
  .ret)
  (.seq (.reg false [⟨(some 34), none, .bin .eql (.t 11) (.v (.int .i64 (2)))⟩, ⟨(some 33), none, .mv (.t 34)⟩] (some ⟨[2,3,6,33], [2,3], []⟩))
  (.cond (.t 33)
  (.seq (.reg true [⟨(some 35), none, .mv (.t 6)⟩, ⟨(some 36), none, .mv (.t 35)⟩, ⟨(some 37), (some (36, true)), .fadr 1 (.t 3)⟩, ⟨(some 38), (some (36, true)), .load false 1 (.t 37)⟩, ⟨(some 39), (some (36, true)), .fadr 3 (.t 2)⟩, ⟨(some 40), (some (36, true)), .load false 1 (.t 39)⟩, ⟨(some 41), (some (36, true)), .bin .lss (.t 38) (.t 40)⟩, ⟨(some 42), none, .pick (.t 36) (.t 41) (.v (.bool false))⟩, ⟨(some 43), none, .mv (.t 6)⟩, ⟨(some 44), none, .mv (.t 43)⟩, ⟨(some 45), (some (44, true)), .fadr 1 (.t 3)⟩, ⟨(some 46), (some (44, true)), .load false 1 (.t 45)⟩, ⟨(some 47), (some (44, true)), .fadr 3 (.t 2)⟩, ⟨(some 48), (some (44, true)), .load false 1 (.t 47)⟩, ⟨(some 49), (some (44, true)), .fadr 4 (.t 2)⟩, ⟨(some 50), (some (44, true)), .load false 1 (.t 49)⟩, ⟨(some 51), (some (44, true)), .bin .add (.t 48) (.t 50)⟩, ⟨(some 52), (some (44, true)), .bin .geq (.t 46) (.t 51)⟩, ⟨(some 53), none, .pick (.t 44) (.t 52) (.v (.bool false))⟩, ⟨(some 4), none, .mv (.t 42)⟩, ⟨(some 5), none, .mv (.t 53)⟩] (some ⟨[4,5], [], []⟩))
  .ret)
  .skip))))))
  (.seq (.reg false [⟨(some 54), none, .mv (.t 6)⟩, ⟨(some 55), none, .un .not (.t 54)⟩, ⟨(some 56), none, .mv (.t 6)⟩, ⟨(some 4), none, .mv (.t 55)⟩, ⟨(some 5), none, .mv (.t 56)⟩] (some ⟨[4,5], [], []⟩))
  .ret))))
theorem c_rcond : compileCode Tryd.prog Tryd.f34.ntmps (Tryd.f34.body.getD .skip) A_rcond = some (C_rcond, []) := by kernel_rfl
theorem r_rcond : compileRes Tryd.prog Tryd.f34.results.toList = some [.t 4, .t 5] := by kernel_rfl
theorem b_rcond : Tryd.f34.body = some (Tryd.f34.body.getD .skip) := by kernel_rfl
theorem n_rcond : (Tryd.f34.name == "runtime.NumGoroutine") = false := by kernel_rfl
theorem fc_rcond {xt : Option (List Cel)} {args : List Val} {R : List Cel → Val → Prop} (hn : (if xt.isSome then 1 else 0) + args.length ≤ Tryd.f34.ntmps) (h : ex Tryd.prog C_rcond [] (fpost xt [.t 4, .t 5] R) (initSt xt args)) : FC Tryd.prog 34 xt args R :=
  fc_of_awp Tryd.func34 b_rcond n_rcond c_rcond r_rcond (of_decide_eq_true (by kernel_rfl)) hn h

def A_aoX : List Ann := [⟨(some ⟨[1,2], [2], []⟩), [], [], [], []⟩, ⟨(some ⟨[4], [], []⟩), [], [], [], []⟩, ⟨(some ⟨[3], [], []⟩), [], [], [], []⟩]
def C_aoX : AC := (.seq (.reg false [⟨(some 2), none, .box (.t 0)⟩, ⟨(some 3), none, .mv (.v (.bool false))⟩] (some ⟨[1,2], [2], []⟩))
  (.seq (.reg false [⟨(some 7), none, .load true 10 (.t 1)⟩, ⟨(some 8), none, .load true 3 (.t 2)⟩, ⟨(some 9), none, .call (.f 34) [(.t 7), (.t 8)]⟩, ⟨(some 6), none, .mv (.t 9)⟩, ⟨(some 10), none, .extr (.t 6) 0⟩, ⟨(some 11), none, .extr (.t 6) 1⟩, ⟨(some 4), none, .mv (.t 10)⟩, ⟨(some 5), none, .mv (.t 11)⟩] (some ⟨[4], [], []⟩))
  (.seq (.reg false [⟨(some 12), none, .mv (.t 4)⟩, ⟨(some 3), none, .mv (.t 12)⟩] (some ⟨[3], [], []⟩))
  .ret)))
theorem c_aoX : compileCode Tryd.prog Tryd.f33.ntmps (Tryd.f33.body.getD .skip) A_aoX = some (C_aoX, []) := by kernel_rfl
theorem r_aoX : compileRes Tryd.prog Tryd.f33.results.toList = some [.t 3] := by kernel_rfl
theorem b_aoX : Tryd.f33.body = some (Tryd.f33.body.getD .skip) := by kernel_rfl
theorem n_aoX : (Tryd.f33.name == "runtime.NumGoroutine") = false := by kernel_rfl
theorem fc_aoX {xt : Option (List Cel)} {args : List Val} {R : List Cel → Val → Prop} (hn : (if xt.isSome then 1 else 0) + args.length ≤ Tryd.f33.ntmps) (h : ex Tryd.prog C_aoX [] (fpost xt [.t 3] R) (initSt xt args)) : FC Tryd.prog 33 xt args R :=
  fc_of_awp Tryd.func33 b_aoX n_aoX c_aoX r_aoX (of_decide_eq_true (by kernel_rfl)) hn h

def A_aoY : List Ann := [⟨(some ⟨[1,2], [2], []⟩), [], [], [], []⟩, ⟨(some ⟨[5], [], []⟩), [], [], [], []⟩, ⟨(some ⟨[3], [], []⟩), [], [], [], []⟩]
def C_aoY : AC := (.seq (.reg false [⟨(some 2), none, .box (.t 0)⟩, ⟨(some 3), none, .mv (.v (.bool false))⟩] (some ⟨[1,2], [2], []⟩))
  (.seq (.reg false [⟨(some 7), none, .load true 10 (.t 1)⟩, ⟨(some 8), none, .load true 3 (.t 2)⟩, ⟨(some 9), none, .call (.f 34) [(.t 7), (.t 8)]⟩, ⟨(some 6), none, .mv (.t 9)⟩, ⟨(some 10), none, .extr (.t 6) 0⟩, ⟨(some 11), none, .extr (.t 6) 1⟩, ⟨(some 4), none, .mv (.t 10)⟩, ⟨(some 5), none, .mv (.t 11)⟩] (some ⟨[5], [], []⟩))
  (.seq (.reg false [⟨(some 12), none, .mv (.t 5)⟩, ⟨(some 3), none, .mv (.t 12)⟩] (some ⟨[3], [], []⟩))
  .ret)))
theorem c_aoY : compileCode Tryd.prog Tryd.f35.ntmps (Tryd.f35.body.getD .skip) A_aoY = some (C_aoY, []) := by kernel_rfl
theorem r_aoY : compileRes Tryd.prog Tryd.f35.results.toList = some [.t 3] := by kernel_rfl
theorem b_aoY : Tryd.f35.body = some (Tryd.f35.body.getD .skip) := by kernel_rfl
theorem n_aoY : (Tryd.f35.name == "runtime.NumGoroutine") = false := by kernel_rfl
theorem fc_aoY {xt : Option (List Cel)} {args : List Val} {R : List Cel → Val → Prop} (hn : (if xt.isSome then 1 else 0) + args.length ≤ Tryd.f35.ntmps) (h : ex Tryd.prog C_aoY [] (fpost xt [.t 3] R) (initSt xt args)) : FC Tryd.prog 35 xt args R :=
  fc_of_awp Tryd.func35 b_aoY n_aoY c_aoY r_aoY (of_decide_eq_true (by kernel_rfl)) hn h

def A_since : List Ann := [⟨(some ⟨[0,1,2], [], []⟩), [], [], [], []⟩, ⟨(some ⟨[0,1,2,7], [], []⟩), [], [], [], []⟩, ⟨(some ⟨[1,2,7,10,11,12], [], []⟩), [], [], [], []⟩, ⟨(some ⟨[1,2,7,10,11,12,13], [], []⟩), [], [], [], []⟩, ⟨(some ⟨[1,2,7,9,10,11,12], [9], []⟩), [], [], [], []⟩, ⟨(some ⟨[1,2,7,9,10,11,12,16], [9], []⟩), [], [], [], []⟩, ⟨(some ⟨[1,2,7,9,10,11,12,21], [9], []⟩), [], [], [], []⟩, ⟨(some ⟨[1,2,7,10,11,12], [], []⟩), [], [], [], []⟩, ⟨(some ⟨[1,2,7,9,10,11,12,26], [9], []⟩), [], [], [], []⟩, ⟨(some ⟨[1,2,7,10,11,12], [], []⟩), [], [], [], []⟩, ⟨(some ⟨[1,2,7,10,11,12], [], []⟩), [], [], [], []⟩, ⟨(some ⟨[6], [], []⟩), [], [], [], []⟩]
def C_since : AC := (.seq (.reg false [⟨(some 6), none, .mv (.v (.int .i64 (0)))⟩] (some ⟨[0,1,2], [], []⟩))
  (.seq (.reg false [⟨(some 7), none, .mv (.v (.int .i64 (-1)))⟩] (some ⟨[0,1,2,7], [], []⟩))
  (.seq (.seq (.reg false [⟨(some 10), none, .mv (.t 0)⟩, ⟨(some 11), none, .len (.t 10)⟩, ⟨(some 12), none, .mv (.v (.int .i64 (0)))⟩] (some ⟨[1,2,7,10,11,12], [], []⟩))
  (.block 0 (.loop (.seq (.reg false [⟨(some 13), none, .bin .lss (.t 12) (.t 11)⟩] (some ⟨[1,2,7,10,11,12,13], [], []⟩))
  (.seq (.cond (.t 13)
  .skip
  (.exit 0))
  (.seq (.block 1 (.seq (.reg false [⟨(some 14), none, .iadr 3 (.t 10) (.t 12)⟩, ⟨(some 15), none, .load true 3 (.t 14)⟩, ⟨(some 9), none, .alloc [(.int .i64 (0)), (.int .i64 (0)), (.int .i64 (0))]⟩, ⟨none, none, .store 3 (.t 9) (.t 15)⟩] (some ⟨[1,2,7,9,10,11,12], [9], []⟩))
  (.block 2 (.seq (.reg false [⟨(some 17), none, .fadr 0 (.t 9)⟩, ⟨(some 18), none, .load false 1 (.t 17)⟩, ⟨(some 19), none, .mv (.t 1)⟩, ⟨(some 20), none, .bin .gtr (.t 18) (.t 19)⟩, ⟨(some 16), none, .mv (.t 20)⟩] (some ⟨[1,2,7,9,10,11,12,16], [9], []⟩))
  (.cond (.t 16)
  .skip
  (.seq (.reg false [⟨(some 22), none, .mv (.t 2)⟩, ⟨(some 23), none, .load true 3 (.t 9)⟩, ⟨(some 24), none, .call (.t 22) [(.t 23)]⟩, ⟨(some 25), none, .un .not (.t 24)⟩, ⟨(some 21), none, .mv (.t 25)⟩] (some ⟨[1,2,7,9,10,11,12,21], [9], []⟩))
  (.cond (.t 21)
  (.reg false [⟨(some 7), none, .mv (.v (.int .i64 (-1)))⟩] (some ⟨[1,2,7,10,11,12], [], []⟩))
  (.seq (.reg false [⟨(some 27), none, .mv (.t 7)⟩, ⟨(some 28), none, .bin .lss (.t 27) (.v (.int .i64 (0)))⟩, ⟨(some 26), none, .mv (.t 28)⟩] (some ⟨[1,2,7,9,10,11,12,26], [9], []⟩))
  (.cond (.t 26)
  (.reg false [⟨(some 29), none, .fadr 0 (.t 9)⟩, ⟨(some 30), none, .load false 1 (.t 29)⟩, ⟨(some 7), none, .mv (.t 30)⟩] (some ⟨[1,2,7,10,11,12], [], []⟩))
  .skip)))))))))
  (.reg false [⟨(some 31), none, .bin .add (.t 12) (.v (.int .i64 (1)))⟩, ⟨(some 12), none, .mv (.t 31)⟩] (some ⟨[1,2,7,10,11,12], [], []⟩))))))))
  (.seq (.reg false [⟨(some 32), none, .mv (.t 7)⟩, ⟨(some 6), none, .mv (.t 32)⟩] (some ⟨[6], [], []⟩))
  .ret))))
theorem c_since : compileCode Tryd.prog Tryd.f36.ntmps (Tryd.f36.body.getD .skip) A_since = some (C_since, []) := by kernel_rfl
theorem r_since : compileRes Tryd.prog Tryd.f36.results.toList = some [.t 6] := by kernel_rfl
theorem b_since : Tryd.f36.body = some (Tryd.f36.body.getD .skip) := by kernel_rfl
theorem n_since : (Tryd.f36.name == "runtime.NumGoroutine") = false := by kernel_rfl
theorem fc_since {xt : Option (List Cel)} {args : List Val} {R : List Cel → Val → Prop} (hn : (if xt.isSome then 1 else 0) + args.length ≤ Tryd.f36.ntmps) (h : ex Tryd.prog C_since [] (fpost xt [.t 6] R) (initSt xt args)) : FC Tryd.prog 36 xt args R :=
  fc_of_awp Tryd.func36 b_since n_since c_since r_since (of_decide_eq_true (by kernel_rfl)) hn h

def A_activeOf : List Ann := [⟨(some ⟨[1,2,3], [3], []⟩), [], [], [], []⟩, ⟨(some ⟨[1,2,3,7], [3], []⟩), [(7, 3, 1)], [], [], []⟩, ⟨(some ⟨[1,2,3,7,18,19,20], [3], [7]⟩), [], [], [], []⟩, ⟨(some ⟨[1,2,3,7,18,19,20,21], [3], [7]⟩), [], [], [], []⟩, ⟨(some ⟨[1,2,3,7,9,18,19,20], [3,9], [7]⟩), [], [], [], []⟩, ⟨(some ⟨[1,2,3,7,18,19,20], [3], [7]⟩), [], [], [], []⟩, ⟨(some ⟨[1,2,3,7,18,19,20], [3], [7]⟩), [], [], [], []⟩, ⟨(some ⟨[1,2,3,7], [3], [7]⟩), [], [], [], [(41, ⟨[], [7], [], [7], [7]⟩)]⟩, ⟨(some ⟨[1,2,3,7,10], [3], [7]⟩), [], [], [], []⟩, ⟨(some ⟨[1,2,3,7,10,11], [3], [7]⟩), [], [], [], []⟩, ⟨(some ⟨[1,2,3,7,10,11,12], [3], [7]⟩), [(12, 46, 2)], [], [], []⟩, ⟨(some ⟨[1,2,3,7,10,11,12,13], [3], [7,12]⟩), [], [], [], []⟩, ⟨(some ⟨[1,2,3,10,11,12,13,45,46,47], [3], [12]⟩), [], [], [], [(45, ⟨[], [7], [], [7], []⟩)]⟩, ⟨(some ⟨[1,2,3,10,11,12,13,45,46,47,48], [3], [12]⟩), [], [], [], []⟩, ⟨(some ⟨[1,2,3,10,11,12,13,15,45,46,47], [3], [12]⟩), [], [], [], []⟩, ⟨(some ⟨[1,2,3,10,11,12,13,15,45,46,47,53], [3], [12]⟩), [], [], [], []⟩, ⟨(some ⟨[1,2,3,10,11,12,13,15,16,17,45,46,47], [3], [12]⟩), [], [], [], []⟩, ⟨(some ⟨[1,2,3,10,11,12,13,15,17,45,46,47,62], [3], [12]⟩), [], [], [], []⟩, ⟨(some ⟨[1,2,3,10,11,12,45,46,47], [3], [12]⟩), [], [], [], []⟩, ⟨(some ⟨[1,2,3,10,11,12,13,45,46,47], [3], [12]⟩), [], [], [], []⟩, ⟨(some ⟨[1,2,3,10,11,12,13,15,45,46,47,83], [3], [12]⟩), [], [], [], []⟩, ⟨(some ⟨[1,2,3,10,11,12,45,46,47], [3], [12]⟩), [], [], [], []⟩, ⟨(some ⟨[1,2,3,10,11,12,13,45,46,47], [3], [12]⟩), [], [], [], []⟩, ⟨(some ⟨[1,2,3,10,11,12,13,45,46,47], [3], [12]⟩), [], [], [], []⟩, ⟨(some ⟨[6], [], []⟩), [], [], [], []⟩]
def C_activeOf : AC := (.seq (.reg false [⟨(some 3), none, .box (.t 0)⟩, ⟨(some 6), none, .mv (.v (.slice none 0 0))⟩] (some ⟨[1,2,3], [3], []⟩))
  (.seq (.seq (.reg false [⟨(some 7), none, .mv (.v (.slice none 0 0))⟩] (some ⟨[1,2,3,7], [3], []⟩))
  (.own 7 3 1))
  (.seq (.seq (.reg false [⟨(some 18), none, .mv (.t 1)⟩, ⟨(some 19), none, .len (.t 18)⟩, ⟨(some 20), none, .mv (.v (.int .i64 (0)))⟩] (some ⟨[1,2,3,7,18,19,20], [3], [7]⟩))
  (.block 0 (.loop (.seq (.reg false [⟨(some 21), none, .bin .lss (.t 20) (.t 19)⟩] (some ⟨[1,2,3,7,18,19,20,21], [3], [7]⟩))
  (.seq (.cond (.t 21)
  .skip
  (.exit 0))
  (.seq (.block 1 (.seq (.reg false [⟨(some 22), none, .iadr 3 (.t 18) (.t 20)⟩, ⟨(some 23), none, .load true 3 (.t 22)⟩, ⟨(some 9), none, .alloc [(.int .i64 (0)), (.int .i64 (0)), (.int .i64 (0))]⟩, ⟨none, none, .store 3 (.t 9) (.t 23)⟩] (some ⟨[1,2,3,7,9,18,19,20], [3,9], [7]⟩))
  (.reg false [⟨(some 24), none, .mv (.t 7)⟩, ⟨(some 25), none, .fadr 0 (.t 9)⟩, ⟨(some 26), none, .load false 1 (.t 25)⟩, ⟨(some 27), none, .fadr 0 (.t 9)⟩, ⟨(some 28), none, .load false 1 (.t 27)⟩, ⟨(some 29), none, .fadr 5 (.t 3)⟩, ⟨(some 30), none, .load false 1 (.t 29)⟩, ⟨(some 31), none, .bin .add (.t 28) (.t 30)⟩, ⟨(some 32), none, .fadr 0 (.t 9)⟩, ⟨(some 33), none, .load false 1 (.t 32)⟩, ⟨(some 34), none, .fadr 6 (.t 3)⟩, ⟨(some 35), none, .load false 1 (.t 34)⟩, ⟨(some 36), none, .bin .add (.t 33) (.t 35)⟩, ⟨(some 37), none, .bslice 1 3 [(.t 26), (.t 31), (.t 36)]⟩, ⟨(some 38), none, .append 3 1 8 (.t 24) (.t 37)⟩, ⟨(some 7), none, .mv (.t 38)⟩] (some ⟨[1,2,3,7,18,19,20], [3], [7]⟩))))
  (.reg false [⟨(some 39), none, .bin .add (.t 20) (.v (.int .i64 (1)))⟩, ⟨(some 20), none, .mv (.t 39)⟩] (some ⟨[1,2,3,7,18,19,20], [3], [7]⟩))))))))
  (.seq (.reg false [⟨(some 40), none, .mv (.t 7)⟩, ⟨(some 41), none, .callm (.f 31) [(.t 40)] ⟨[], [7], [], [7], [7]⟩⟩] (some ⟨[1,2,3,7], [3], [7]⟩))
  (.seq (.reg false [⟨(some 42), none, .mkfn 33 [(.t 3)]⟩, ⟨(some 10), none, .mv (.t 42)⟩] (some ⟨[1,2,3,7,10], [3], [7]⟩))
  (.seq (.reg false [⟨(some 43), none, .mkfn 35 [(.t 3)]⟩, ⟨(some 11), none, .mv (.t 43)⟩] (some ⟨[1,2,3,7,10,11], [3], [7]⟩))
  (.seq (.seq (.reg false [⟨(some 12), none, .mv (.v (.slice none 0 0))⟩] (some ⟨[1,2,3,7,10,11,12], [3], [7]⟩))
  (.own 12 46 2))
  (.seq (.reg false [⟨(some 13), none, .mv (.v (.bool false))⟩] (some ⟨[1,2,3,7,10,11,12,13], [3], [7,12]⟩))
  (.seq (.seq (.reg false [⟨(some 44), none, .mv (.t 7)⟩, ⟨(some 45), none, .callm (.f 32) [(.t 44)] ⟨[], [7], [], [7], []⟩⟩, ⟨(some 46), none, .len (.t 45)⟩, ⟨(some 47), none, .mv (.v (.int .i64 (0)))⟩] (some ⟨[1,2,3,10,11,12,13,45,46,47], [3], [12]⟩))
  (.block 2 (.loop (.seq (.reg false [⟨(some 48), none, .bin .lss (.t 47) (.t 46)⟩] (some ⟨[1,2,3,10,11,12,13,45,46,47,48], [3], [12]⟩))
  (.seq (.cond (.t 48)
  .skip
  (.exit 2))
  (.seq (.block 3 (.seq (.reg false [⟨(some 49), none, .iadr 1 (.t 45) (.t 47)⟩, ⟨(some 50), none, .load false 1 (.t 49)⟩, ⟨(some 15), none, .mv (.t 50)⟩] (some ⟨[1,2,3,10,11,12,13,15,45,46,47], [3], [12]⟩))
  (.seq (.seq (.reg false [⟨(some 51), none, .mv (.t 15)⟩, ⟨(some 52), none, .mv (.t 2)⟩, ⟨(some 53), none, .bin .geq (.t 51) (.t 52)⟩] (some ⟨[1,2,3,10,11,12,13,15,45,46,47,53], [3], [12]⟩))
  (.cond (.t 53)
  (.exit 2)
  .skip))
  (.seq (.reg false [⟨(some 54), none, .mv (.t 1)⟩, ⟨(some 55), none, .mv (.t 15)⟩, ⟨(some 56), none, .mv (.t 10)⟩, ⟨(some 57), none, .call (.f 36) [(.t 54), (.t 55), (.t 56)]⟩, ⟨(some 58), none, .mv (.t 1)⟩, ⟨(some 59), none, .mv (.t 15)⟩, ⟨(some 60), none, .mv (.t 11)⟩, ⟨(some 61), none, .call (.f 36) [(.t 58), (.t 59), (.t 60)]⟩, ⟨(some 16), none, .mv (.t 57)⟩, ⟨(some 17), none, .mv (.t 61)⟩] (some ⟨[1,2,3,10,11,12,13,15,16,17,45,46,47], [3], [12]⟩))
  (.block 4 (.seq (.reg false [⟨(some 63), none, .mv (.t 13)⟩, ⟨(some 64), none, .un .not (.t 63)⟩, ⟨(some 65), none, .mv (.t 64)⟩, ⟨(some 66), (some (65, true)), .mv (.t 16)⟩, ⟨(some 67), (some (65, true)), .bin .geq (.t 66) (.v (.int .i64 (0)))⟩, ⟨(some 68), none, .pick (.t 65) (.t 67) (.v (.bool false))⟩, ⟨(some 69), none, .mv (.t 68)⟩, ⟨(some 70), (some (69, true)), .mv (.t 15)⟩, ⟨(some 71), (some (69, true)), .mv (.t 16)⟩, ⟨(some 72), (some (69, true)), .bin .sub (.t 70) (.t 71)⟩, ⟨(some 73), (some (69, true)), .fadr 5 (.t 3)⟩, ⟨(some 74), (some (69, true)), .load false 1 (.t 73)⟩, ⟨(some 75), (some (69, true)), .bin .geq (.t 72) (.t 74)⟩, ⟨(some 76), none, .pick (.t 69) (.t 75) (.v (.bool false))⟩, ⟨(some 62), none, .mv (.t 76)⟩] (some ⟨[1,2,3,10,11,12,13,15,17,45,46,47,62], [3], [12]⟩))
  (.cond (.t 62)
  (.seq (.reg false [⟨(some 77), none, .mv (.t 12)⟩, ⟨(some 78), none, .mv (.t 15)⟩, ⟨(some 79), none, .mv (.t 2)⟩, ⟨(some 80), none, .build [(.int .i64 (0)), (.int .i64 (0))] [(0, 1, (.t 78)), (1, 1, (.t 79))]⟩, ⟨(some 81), none, .bslice 2 1 [(.t 80)]⟩, ⟨(some 82), none, .append 46 2 16 (.t 77) (.t 81)⟩, ⟨(some 12), none, .mv (.t 82)⟩] (some ⟨[1,2,3,10,11,12,45,46,47], [3], [12]⟩))
  (.reg false [⟨(some 13), none, .mv (.v (.bool true))⟩] (some ⟨[1,2,3,10,11,12,13,45,46,47], [3], [12]⟩)))
  (.seq (.reg false [⟨(some 84), none, .mv (.t 13)⟩, ⟨(some 85), none, .mv (.t 84)⟩, ⟨(some 86), (some (85, true)), .mv (.t 17)⟩, ⟨(some 87), (some (85, true)), .bin .geq (.t 86) (.v (.int .i64 (0)))⟩, ⟨(some 88), none, .pick (.t 85) (.t 87) (.v (.bool false))⟩, ⟨(some 89), none, .mv (.t 88)⟩, ⟨(some 90), (some (89, true)), .mv (.t 15)⟩, ⟨(some 91), (some (89, true)), .mv (.t 17)⟩, ⟨(some 92), (some (89, true)), .bin .sub (.t 90) (.t 91)⟩, ⟨(some 93), (some (89, true)), .fadr 6 (.t 3)⟩, ⟨(some 94), (some (89, true)), .load false 1 (.t 93)⟩, ⟨(some 95), (some (89, true)), .bin .geq (.t 92) (.t 94)⟩, ⟨(some 96), none, .pick (.t 89) (.t 95) (.v (.bool false))⟩, ⟨(some 83), none, .mv (.t 96)⟩] (some ⟨[1,2,3,10,11,12,13,15,45,46,47,83], [3], [12]⟩))
  (.cond (.t 83)
  (.seq (.reg false [⟨(some 97), none, .mv (.t 12)⟩, ⟨(some 98), none, .mv (.t 12)⟩, ⟨(some 99), none, .len (.t 98)⟩, ⟨(some 100), none, .bin .sub (.t 99) (.v (.int .i64 (1)))⟩, ⟨(some 101), none, .mv (.t 15)⟩, ⟨(some 102), none, .iadr 2 (.t 97) (.t 100)⟩, ⟨(some 103), none, .fadr 1 (.t 102)⟩, ⟨none, none, .store 1 (.t 103) (.t 101)⟩] (some ⟨[1,2,3,10,11,12,45,46,47], [3], [12]⟩))
  (.reg false [⟨(some 13), none, .mv (.v (.bool false))⟩] (some ⟨[1,2,3,10,11,12,13,45,46,47], [3], [12]⟩)))
  .skip)))))))))
  (.reg false [⟨(some 104), none, .bin .add (.t 47) (.v (.int .i64 (1)))⟩, ⟨(some 47), none, .mv (.t 104)⟩] (some ⟨[1,2,3,10,11,12,13,45,46,47], [3], [12]⟩))))))))
  (.seq (.reg false [⟨(some 105), none, .mv (.t 12)⟩, ⟨(some 6), none, .mv (.t 105)⟩] (some ⟨[6], [], []⟩))
  .ret))))))))))
theorem c_activeOf : compileCode Tryd.prog Tryd.f16.ntmps (Tryd.f16.body.getD .skip) A_activeOf = some (C_activeOf, []) := by kernel_rfl
theorem r_activeOf : compileRes Tryd.prog Tryd.f16.results.toList = some [.t 6] := by kernel_rfl
theorem b_activeOf : Tryd.f16.body = some (Tryd.f16.body.getD .skip) := by kernel_rfl
theorem n_activeOf : (Tryd.f16.name == "runtime.NumGoroutine") = false := by kernel_rfl
theorem fc_activeOf {xt : Option (List Cel)} {args : List Val} {R : List Cel → Val → Prop} (hn : (if xt.isSome then 1 else 0) + args.length ≤ Tryd.f16.ntmps) (h : ex Tryd.prog C_activeOf [] (fpost xt [.t 6] R) (initSt xt args)) : FC Tryd.prog 16 xt args R :=
  fc_of_awp Tryd.func16 b_activeOf n_activeOf c_activeOf r_activeOf (of_decide_eq_true (by kernel_rfl)) hn h
theorem fcm_activeOf {H : Hp} {K : Keep} {args : List Val} {R : Hp → Val → Prop} (hn : args.length ≤ Tryd.f16.ntmps) (hkb : ∀ p ∈ H.bs, p.1 = 0 ∨ XK ≤ p.1) (hkr : ∀ p ∈ H.rs, XK ≤ p.1) (h : ex Tryd.prog C_activeOf [] (mpost H K [.t 6] R) (initM H args)) : FCM Tryd.prog 16 H args R :=
  fcm_of_awp Tryd.func16 b_activeOf n_activeOf c_activeOf r_activeOf (of_decide_eq_true (by kernel_rfl)) hn hkb hkr h
theorem fcms_activeOf {S : List Nat} {H : Hp} {K : Keep} {args : List Val} {R : Hp → Val → Prop} (hn : args.length ≤ Tryd.f16.ntmps) (hkb : ∀ p ∈ H.bs, p.1 = 0 ∨ XK ≤ p.1) (hkr : ∀ p ∈ H.rs, XK ≤ p.1) (h : ex Tryd.prog C_activeOf [] (mpostS S H K [.t 6] R) (initM H args))   : FCMS Tryd.prog 16 S H args R :=
  fcms_of_awp Tryd.func16 b_activeOf n_activeOf c_activeOf r_activeOf (of_decide_eq_true (by kernel_rfl)) hn hkb hkr h


theorem zlt3 : ((0 : Nat) < 1) = True := by simp
attribute [go_sem] zlt3
theorem sortI_all (l : List Int) (hsz : l.length < 4611686018427387904) : FCMS Tryd.prog 31 [1000000] ⟨[], [(1000000, nRow l)]⟩ [.one (.ow 1000000 0)] (fun H r => H = ⟨[], [(1000000, nRow (srtI l))]⟩ ∧ r = .tu []) := by
  by_cases h : l = []
  · subst h; rw [show srtI [] = [] by simp [srtI]]; exact srt0_fcms
  · exact sortI_fcms l h hsz
theorem compactI_all (l : List Int) (hsz : l.length ≤ 9223372036854775807) : FCM Tryd.prog 32 ⟨[], [(1000000, nRow l)]⟩ [.one (.ow 1000000 0)] (fun H r => H = ⟨[], [(1000000, nRow (Lib.compact l))]⟩ ∧ r = .one (.ow 1000000 0)) := by
  by_cases h : l = []
  · subst h; exact cpt0_fcm
  · exact compactI_fcm l h hsz
theorem rcond_fc (kb tb pb : ByteArray) (lt : Bool) (kd lim db on off pr : Int) (s : Smp) (hs : okSmp s) (h1 : -1000000 ≤ lim ∧ lim ≤ 1000000) (h2 : 0 ≤ db ∧ db ≤ 2000000) : FC Tryd.prog 34 none [almK kb tb pb lt kd lim db on off pr, smpV s] (fun _ r => r = .tu [bv (hldSp kd lim db s).1, bv (hldSp kd lim db s).2]) := by
  refine fc_rcond (by simp +arith) ?_
  unfold C_rcond hldSp
  by_cases c1 : kd = 1
  · rw [if_pos c1]
    by_cases c2 : s.q = 2
    · rw [decide_eq_false (fun h => h.1 c2), decide_eq_false (fun h => h.1 c2)]
      simp (maxSteps := 1000000) (disch := omega) only [go_sem, eq_self, decide_true, decide_false, not_true_eq_false, not_false_eq_true, reduceIte, reduceCtorEq, Nat.reduceEqDiff, Nat.reduceAdd, Nat.reduceSub, Nat.reduceLeDiff]
    · simp (maxSteps := 1000000) (disch := omega) only [go_sem, eq_self, decide_true, decide_false, not_true_eq_false, not_false_eq_true, reduceIte, reduceCtorEq, Nat.reduceEqDiff, Nat.reduceAdd, Nat.reduceSub, Nat.reduceLeDiff]
      exact tu2_congr (bv_dec (by simp [c2])) (bv_dec (by simp [c2]))
  rw [if_neg c1]
  by_cases c3 : kd = 2
  · rw [if_pos c3]
    by_cases c2 : s.q = 2
    · rw [decide_eq_false (fun h => h.1 c2), decide_eq_false (fun h => h.1 c2)]
      simp (maxSteps := 1000000) (disch := omega) only [go_sem, eq_self, decide_true, decide_false, not_true_eq_false, not_false_eq_true, reduceIte, reduceCtorEq, Nat.reduceEqDiff, Nat.reduceAdd, Nat.reduceSub, Nat.reduceLeDiff]
    · simp (maxSteps := 1000000) (disch := omega) only [go_sem, eq_self, decide_true, decide_false, not_true_eq_false, not_false_eq_true, reduceIte, reduceCtorEq, Nat.reduceEqDiff, Nat.reduceAdd, Nat.reduceSub, Nat.reduceLeDiff]
      exact tu2_congr (bv_dec (by simp [c2])) (bv_dec (by simp [c2]))
  rw [if_neg c3]
  by_cases c2 : s.q = 2
  · rw [decide_eq_true c2, decide_eq_false (fun h => h c2)]
    simp (maxSteps := 1000000) (disch := omega) only [go_sem, eq_self, decide_true, decide_false, not_true_eq_false, not_false_eq_true, reduceIte, reduceCtorEq, Nat.reduceEqDiff, Nat.reduceAdd, Nat.reduceSub, Nat.reduceLeDiff]
    simp [c2]
  · rw [decide_eq_false c2, decide_eq_true c2]
    simp (maxSteps := 1000000) (disch := omega) only [go_sem, eq_self, decide_true, decide_false, not_true_eq_false, not_false_eq_true, reduceIte, reduceCtorEq, Nat.reduceEqDiff, Nat.reduceAdd, Nat.reduceSub, Nat.reduceLeDiff]
    simp [c2]
theorem aoX_fc (kb tb pb : ByteArray) (lt : Bool) (kd lim db on off pr : Int) (s : Smp) (hs : okSmp s) (h1 : -1000000 ≤ lim ∧ lim ≤ 1000000) (h2 : 0 ≤ db ∧ db ≤ 2000000) : FC Tryd.prog 33 none [smpV s, .one (.ep (almC kb tb pb lt kd lim db on off pr))] (fun _ r => r = bv (hldSp kd lim db s).1) := by
  refine fc_aoX (by simp +arith) ?_
  have hc := rcond_fc kb tb pb lt kd lim db on off pr s hs h1 h2
  generalize hldSp kd lim db s = p at *
  unfold C_aoX almC
  simp (maxSteps := 1000000) (disch := omega) only [go_sem, eq_self, decide_true, decide_false, not_true_eq_false, not_false_eq_true, reduceIte, reduceCtorEq, Nat.reduceEqDiff, Nat.reduceAdd, Nat.reduceSub, Nat.reduceLeDiff]
  refine CALL_det hc (.inl rfl) ?_
  simp (maxSteps := 1000000) (disch := omega) only [go_sem, eq_self, decide_true, decide_false, not_true_eq_false, not_false_eq_true, reduceIte, reduceCtorEq, Nat.reduceEqDiff, Nat.reduceAdd, Nat.reduceSub, Nat.reduceLeDiff]
theorem aoY_fc (kb tb pb : ByteArray) (lt : Bool) (kd lim db on off pr : Int) (s : Smp) (hs : okSmp s) (h1 : -1000000 ≤ lim ∧ lim ≤ 1000000) (h2 : 0 ≤ db ∧ db ≤ 2000000) : FC Tryd.prog 35 none [smpV s, .one (.ep (almC kb tb pb lt kd lim db on off pr))] (fun _ r => r = bv (hldSp kd lim db s).2) := by
  refine fc_aoY (by simp +arith) ?_
  have hc := rcond_fc kb tb pb lt kd lim db on off pr s hs h1 h2
  generalize hldSp kd lim db s = p at *
  unfold C_aoY almC
  simp (maxSteps := 1000000) (disch := omega) only [go_sem, eq_self, decide_true, decide_false, not_true_eq_false, not_false_eq_true, reduceIte, reduceCtorEq, Nat.reduceEqDiff, Nat.reduceAdd, Nat.reduceSub, Nat.reduceLeDiff]
  refine CALL_det hc (.inl rfl) ?_
  simp (maxSteps := 1000000) (disch := omega) only [go_sem, eq_self, decide_true, decide_false, not_true_eq_false, not_false_eq_true, reduceIte, reduceCtorEq, Nat.reduceEqDiff, Nat.reduceAdd, Nat.reduceSub, Nat.reduceLeDiff]
def sinSt (cl : FuncId) (cs : List Cel) (l : List Smp) (at_ : Int) (i o : Int) : AS := ⟨tabV [(1, iv at_), (2, .one (.fn cl [.ep cs])), (7, iv o), (10, smps false l), (11, iv l.length), (12, iv i)], tabO [], tabO []⟩
theorem since_fc (cl : FuncId) (cs : List Cel) (p : Smp → Bool) (l : List Smp) (hg : Good l) (at_ : Int) (hcl : ∀ x ∈ l, FC Tryd.prog cl none [smpV x, .one (.ep cs)] (fun _ r => r = bv (p x))) : FC Tryd.prog 36 none [smps false l, iv at_, .one (.fn cl [.ep cs])] (fun _ r => r = iv (sinGo p at_ (-1) l)) := by
  refine fc_since (by simp +arith) ?_
  have hl := hg.len
  unfold C_since
  simp (maxSteps := 1000000) (disch := omega) only [go_sem, eq_self, decide_true, decide_false, not_true_eq_false, not_false_eq_true, reduceIte, reduceCtorEq, Nat.reduceEqDiff, Nat.reduceAdd, Nat.reduceSub, Nat.reduceLeDiff]
  refine ex_loop2 (sinSt cl cs l at_) (fun i o => 0 ≤ i ∧ i ≤ l.length ∧ sinGo p at_ o (l.drop i.toNat) = sinGo p at_ (-1) l) (fun i _ => (l.length - i).toNat) 0 (-1) ⟨by omega, by omega, rfl⟩ rfl ?_
  rintro i o ⟨g1, g2, g3⟩
  unfold sinSt
  by_cases hi : i < l.length
  · rw [drop_cons l i.toNat (by omega), sinGo_cons] at g3
    have e2 : (i + 1).toNat = i.toNat + 1 := by omega
    rw [← e2] at g3
    have em := getD_map_at smpC l i [] g1 hi
    have hc := hcl _ (getD_mem l i.toNat (by omega))
    by_cases c1 : (l.getD i.toNat default).a > at_
    · rw [if_pos c1] at g3
      simp (maxSteps := 1000000) (disch := omega) only [go_sem, eq_self, decide_true, decide_false, not_true_eq_false, not_false_eq_true, reduceIte, reduceCtorEq, Nat.reduceEqDiff, Nat.reduceAdd, Nat.reduceSub, Nat.reduceLeDiff]
      exact ⟨i + 1, o, rfl, ⟨by omega, by omega, g3⟩, by omega⟩
    · rw [if_neg c1] at g3
      simp (maxSteps := 1000000) (disch := omega) only [go_sem, eq_self, decide_true, decide_false, not_true_eq_false, not_false_eq_true, reduceIte, reduceCtorEq, Nat.reduceEqDiff, Nat.reduceAdd, Nat.reduceSub, Nat.reduceLeDiff]
      refine CALL_det hc (.inl rfl) ?_
      cases hp : p (l.getD i.toNat default) with
      | false =>
        rw [hp, if_pos rfl] at g3
        simp (maxSteps := 1000000) (disch := omega) only [go_sem, eq_self, decide_true, decide_false, not_true_eq_false, not_false_eq_true, reduceIte, reduceCtorEq, Nat.reduceEqDiff, Nat.reduceAdd, Nat.reduceSub, Nat.reduceLeDiff]
        exact ⟨i + 1, -1, rfl, ⟨by omega, by omega, g3⟩, by omega⟩
      | true =>
        rw [hp, if_neg (by simp)] at g3
        by_cases c2 : o < 0
        · rw [if_pos c2] at g3
          simp (maxSteps := 1000000) (disch := omega) only [go_sem, eq_self, decide_true, decide_false, not_true_eq_false, not_false_eq_true, reduceIte, reduceCtorEq, Nat.reduceEqDiff, Nat.reduceAdd, Nat.reduceSub, Nat.reduceLeDiff]
          exact ⟨i + 1, _, rfl, ⟨by omega, by omega, g3⟩, by omega⟩
        · rw [if_neg c2] at g3
          simp (maxSteps := 1000000) (disch := omega) only [go_sem, eq_self, decide_true, decide_false, not_true_eq_false, not_false_eq_true, reduceIte, reduceCtorEq, Nat.reduceEqDiff, Nat.reduceAdd, Nat.reduceSub, Nat.reduceLeDiff]
          exact ⟨i + 1, o, rfl, ⟨by omega, by omega, g3⟩, by omega⟩
  · rw [List.drop_eq_nil_of_le (by omega), sinGo] at g3
    rw [← g3]
    simp (maxSteps := 1000000) (disch := omega) only [go_sem, eq_self, decide_true, decide_false, not_true_eq_false, not_false_eq_true, reduceIte, reduceCtorEq, Nat.reduceEqDiff, Nat.reduceAdd, Nat.reduceSub, Nat.reduceLeDiff]
theorem sinGo_rng {p : Smp → Bool} {T : Int} : ∀ (l : List Smp) (o : Int), (∀ s ∈ l, 0 ≤ s.a ∧ s.a ≤ 345686400000) → (-1 ≤ o ∧ o ≤ 345686400000) → -1 ≤ sinGo p T o l ∧ sinGo p T o l ≤ 345686400000
  | [], o, _, h => h
  | s :: r, o, h1, h2 => by
    have hs := h1 s (by simp)
    rw [sinGo_cons]
    refine sinGo_rng r _ (fun x hx => h1 x (by simp [hx])) ?_
    split
    · exact h2
    · split
      · omega
      · split <;> omega
theorem good_mem {l : List Smp} (hg : Good l) : ∀ x ∈ l, okSmp x := fun x hx => by
  obtain ⟨i, hi, rfl⟩ := List.mem_iff_getElem.1 hx
  have := hg.ok i hi
  rwa [show l.getD i default = l[i] by simp [List.getD_eq_getElem?_getD, hi]] at this
theorem good_up {l : List Smp} (hg : Good l) : l.Pairwise (fun x y => x.a < y.a) := by
  refine List.pairwise_iff_getElem.2 fun i j hi hj hij => ?_
  have := hg.up i j hij hj
  rwa [show l.getD i default = l[i] by simp [List.getD_eq_getElem?_getD, hi], show l.getD j default = l[j] by simp [List.getD_eq_getElem?_getD, hj]] at this
def ao1St (kb tb pb : ByteArray) (lt : Bool) (kd lim db on off pr un : Int) (l : List Smp) (i : Int) (T : List Int) : AS := ⟨tabV [(1, smps false l), (2, iv un), (3, .one (.bx 3 0)), (7, .one (.ow 7 0)), (18, smps false l), (19, iv l.length), (20, iv i)], tabO [(3, almC kb tb pb lt kd lim db on off pr)], tabO [(7, nRow T)]⟩
def ao2St (kb tb pb : ByteArray) (lt : Bool) (kd lim db on off pr un : Int) (l : List Smp) (C : List Int) (j : Int) (out : List (Int × Int)) (act : Bool) : AS := ⟨tabV [(1, smps false l), (2, iv un), (3, .one (.bx 3 0)), (10, .one (.fn 33 [.bx 3 0])), (11, .one (.fn 35 [.bx 3 0])), (12, .one (.ow 12 0)), (13, bv act), (45, ints true C), (46, iv C.length), (47, iv j)], tabO [(3, almC kb tb pb lt kd lim db on off pr)], tabO [(12, winRow out)]⟩
set_option maxHeartbeats 12000000 in
set_option maxRecDepth 8000 in
theorem activeOf_fc (kb tb pb : ByteArray) (lt : Bool) (kd lim db on off pr un : Int) (l : List Smp) (hg : Good l) (hlim : -1000000 ≤ lim ∧ lim ≤ 1000000) (hdb : 0 ≤ db ∧ db ≤ 2000000) (hon : 0 ≤ on ∧ on ≤ 86400000) (hoff : 0 ≤ off ∧ off ≤ 86400000) (hun : 0 ≤ un ∧ un ≤ 345686400000) :
    FC Tryd.prog 16 none [almK kb tb pb lt kd lim db on off pr, smps false l, iv un] (fun _ r => r = frsV true (actW kd lim db on off un l)) := by
  refine fc_activeOf (by simp +arith) ?_
  have hlen := hg.len
  have hok := good_mem hg
  have hsr : ∀ x ∈ l, 0 ≤ x.a ∧ x.a ≤ 345686400000 := fun x hx => by have := hok x hx; unfold okSmp at this; omega
  have hrw := refW_mom (kd := kd) (lim := lim) (db := db) (un := un) hsr (good_up hg) hdb.1 hon.1 hoff.1 hun.2
  unfold refW at hrw
  unfold C_activeOf
  simp (maxSteps := 1000000) (disch := omega) only [go_sem, eq_self, decide_true, decide_false, not_true_eq_false, not_false_eq_true, reduceIte, reduceCtorEq, Nat.reduceEqDiff, Nat.reduceAdd, Nat.reduceSub, Nat.reduceLeDiff]
  refine ex_loop1 (fun i => ao1St kb tb pb lt kd lim db on off pr un l i (momN on off l i.toNat)) (fun i => 0 ≤ i ∧ i ≤ l.length) (fun i => (l.length - i).toNat) 0 ⟨by omega, by omega⟩ rfl ?_
  rintro i ⟨g1, g2⟩
  have tl := momN_len on off l i.toNat
  unfold ao1St almC
  by_cases hi : i < l.length
  · have e2 : (i + 1).toNat = i.toNat + 1 := by omega
    have em := getD_map_at smpC l i [] g1 hi
    have ho := hsr _ (getD_mem l i.toNat (by omega))
    have e3 : momN on off l (i + 1).toNat = momN on off l i.toNat ++ [(l.getD i.toNat default).a, (l.getD i.toNat default).a + on, (l.getD i.toNat default).a + off] := by rw [e2, momN]
    simp (maxSteps := 1000000) (disch := omega) only [go_sem, eq_self, decide_true, decide_false, not_true_eq_false, not_false_eq_true, reduceIte, reduceCtorEq, Nat.reduceEqDiff, Nat.reduceAdd, Nat.reduceSub, Nat.reduceLeDiff]
    exact ⟨i + 1, by simp only [e3, nRow, List.map_append, List.map_cons, List.map_nil, intC_eq], ⟨by omega, by omega⟩, by omega⟩
  · have hil : i.toNat = l.length := by omega
    rw [hil] at tl ⊢
    have hso := sortI_all (momN on off l l.length) (by omega)
    have hsl : (srtI (momN on off l l.length)).length = (momN on off l l.length).length := List.length_mergeSort _
    have hco := compactI_all (srtI (momN on off l l.length)) (by omega)
    have hCr : ∀ d ∈ momC on off l, 0 ≤ d ∧ d ≤ 345772800000 := fun d hd => by
      unfold momC at hd
      rw [cpt_mem, srtI_mem] at hd
      obtain ⟨i, hi, h⟩ := (momN_mem on off l d _).1 hd
      have := hsr _ (getD_mem l i hi)
      omega
    have hCl : (momC on off l).length ≤ 15000 := by
      have := Lib.compact_length_le (srtI (momN on off l l.length))
      unfold momC; omega
    have hCd : Lib.compact (srtI (momN on off l l.length)) = momC on off l := rfl
    rw [hCd] at hco
    generalize momC on off l = C at *
    simp (maxSteps := 1000000) (disch := omega) only [go_sem, eq_self, decide_true, decide_false, not_true_eq_false, not_false_eq_true, reduceIte, reduceCtorEq, Nat.reduceEqDiff, Nat.reduceAdd, Nat.reduceSub, Nat.reduceLeDiff]
    refine ⟨rfl, CALLM_rnES ⟨[], [(7, nRow (srtI (momN on off l l.length)))]⟩ (.tu []) (fun k => k) (swp 7 1000000) (fun _ => rfl) (swp_swp 7 1000000) hso (by simp) rfl rfl rfl rfl rfl ⟨rfl, rfl⟩ ?_⟩
    simp (maxSteps := 1000000) (disch := omega) only [go_sem, eq_self, decide_true, decide_false, not_true_eq_false, not_false_eq_true, reduceIte, reduceCtorEq, Nat.reduceEqDiff, Nat.reduceAdd, Nat.reduceSub, Nat.reduceLeDiff]
    refine ⟨rfl, CALLM_rnE ⟨[], [(7, nRow C)]⟩ (.one (.ow 7 0)) (fun k => k) (swp 7 1000000) (fun _ => rfl) (swp_swp 7 1000000) hco (by simp) rfl rfl rfl rfl ⟨rfl, rfl⟩ ?_⟩
    simp (maxSteps := 1000000) (disch := omega) only [go_sem, eq_self, decide_true, decide_false, not_true_eq_false, not_false_eq_true, reduceIte, reduceCtorEq, Nat.reduceEqDiff, Nat.reduceAdd, Nat.reduceSub, Nat.reduceLeDiff]
    refine ex_loop3 (ao2St kb tb pb lt kd lim db on off pr un l C) (fun j out act => 0 ≤ j ∧ j ≤ C.length ∧ out.length ≤ j ∧ (act = true → 1 ≤ out.length) ∧ rfGo on off un (fun s => (hldSp kd lim db s).1) (fun s => (hldSp kd lim db s).2) l (C.drop j.toNat) (out, act) = actW kd lim db on off un l) (fun j _ _ => (C.length - j).toNat) 0 [] false ⟨by omega, by omega, by simp, by simp, hrw⟩ rfl ?_
    rintro j out act ⟨h1, h2, h3, h4, h5⟩
    unfold ao2St almC
    by_cases hj : j < C.length
    · have e2 : (j + 1).toNat = j.toNat + 1 := by omega
      have em := getD_map_at intC C j [] h1 hj
      have hcr := hCr _ (getD_mem C j.toNat (by omega))
      rw [drop_cons C j.toNat (by omega), ← e2, rfGo] at h5
      by_cases cu : (C.getD j.toNat default) ≥ un
      · rw [if_pos cu] at h5
        rw [← h5]
        simp (maxSteps := 1000000) (disch := omega) only [go_sem, eq_self, decide_true, decide_false, not_true_eq_false, not_false_eq_true, reduceIte, reduceCtorEq, Nat.reduceEqDiff, Nat.reduceAdd, Nat.reduceSub, Nat.reduceLeDiff]
      · rw [if_neg cu] at h5
        have hX := since_fc 33 (almC kb tb pb lt kd lim db on off pr) (fun s => (hldSp kd lim db s).1) l hg (C.getD j.toNat default) (fun x hx => aoX_fc kb tb pb lt kd lim db on off pr x (hok x hx) hlim hdb)
        have hY := since_fc 35 (almC kb tb pb lt kd lim db on off pr) (fun s => (hldSp kd lim db s).2) l hg (C.getD j.toNat default) (fun x hx => aoY_fc kb tb pb lt kd lim db on off pr x (hok x hx) hlim hdb)
        have rX := sinGo_rng (p := fun s => (hldSp kd lim db s).1) (T := (C.getD j.toNat default)) l (-1) hsr (by omega)
        have rY := sinGo_rng (p := fun s => (hldSp kd lim db s).2) (T := (C.getD j.toNat default)) l (-1) hsr (by omega)
        generalize sinGo (fun s => (hldSp kd lim db s).1) (C.getD j.toNat default) (-1) l = o1 at *
        generalize sinGo (fun s => (hldSp kd lim db s).2) (C.getD j.toNat default) (-1) l = o2 at *
        unfold almC at hX hY
        unfold rfStep at h5
        simp (maxSteps := 1000000) (disch := omega) only [go_sem, eq_self, decide_true, decide_false, not_true_eq_false, not_false_eq_true, reduceIte, reduceCtorEq, Nat.reduceEqDiff, Nat.reduceAdd, Nat.reduceSub, Nat.reduceLeDiff]
        refine CALL_det hX (.inl rfl) ?_
        simp (maxSteps := 1000000) (disch := omega) only [go_sem, eq_self, decide_true, decide_false, not_true_eq_false, not_false_eq_true, reduceIte, reduceCtorEq, Nat.reduceEqDiff, Nat.reduceAdd, Nat.reduceSub, Nat.reduceLeDiff]
        refine CALL_det hY (.inl rfl) ?_
        cases act with
        | false =>
          by_cases c1 : 0 ≤ o1 ∧ (C.getD j.toNat default) - o1 ≥ on
          · rw [if_pos ⟨rfl, c1⟩] at h5
            simp (maxSteps := 1000000) (disch := omega) only [go_sem, eq_self, decide_true, decide_false, not_true_eq_false, not_false_eq_true, reduceIte, reduceCtorEq, Nat.reduceEqDiff, Nat.reduceAdd, Nat.reduceSub, Nat.reduceLeDiff]
            refine ⟨j + 1, out ++ [((C.getD j.toNat default), un)], true, ?_, ⟨by omega, by omega, by simp; omega, fun _ => by simp, h5⟩, by omega⟩
            simp only [winRow, List.map_append, List.map_cons, List.map_nil, frC_eq]
          · rw [if_neg (show ¬((out, false).2 = false ∧ 0 ≤ o1 ∧ (C.getD j.toNat default) - o1 ≥ on) from fun h => c1 h.2), if_neg (show ¬((out, false).2 = true ∧ 0 ≤ o2 ∧ (C.getD j.toNat default) - o2 ≥ off) from fun h => by cases h.1)] at h5
            by_cases c2 : 0 ≤ o1
            · simp (maxSteps := 1000000) (disch := omega) only [go_sem, eq_self, decide_true, decide_false, not_true_eq_false, not_false_eq_true, reduceIte, reduceCtorEq, Nat.reduceEqDiff, Nat.reduceAdd, Nat.reduceSub, Nat.reduceLeDiff]
              exact ⟨j + 1, out, false, rfl, ⟨by omega, by omega, by omega, by simp, h5⟩, by omega⟩
            · simp (maxSteps := 1000000) (disch := omega) only [go_sem, eq_self, decide_true, decide_false, not_true_eq_false, not_false_eq_true, reduceIte, reduceCtorEq, Nat.reduceEqDiff, Nat.reduceAdd, Nat.reduceSub, Nat.reduceLeDiff]
              exact ⟨j + 1, out, false, rfl, ⟨by omega, by omega, by omega, by simp, h5⟩, by omega⟩
        | true =>
          have h4 := h4 rfl
          have eo := getE_map_in frC out ((out.length : Int) - 1).toNat (by omega)
          rw [if_neg (show ¬((out, true).2 = false ∧ 0 ≤ o1 ∧ (C.getD j.toNat default) - o1 ≥ on) from fun h => by cases h.1)] at h5
          by_cases c1 : 0 ≤ o2 ∧ (C.getD j.toNat default) - o2 ≥ off
          · rw [if_pos ⟨rfl, c1⟩] at h5
            simp (maxSteps := 1000000) (disch := omega) only [go_sem, eq_self, decide_true, decide_false, not_true_eq_false, not_false_eq_true, reduceIte, reduceCtorEq, Nat.reduceEqDiff, Nat.reduceAdd, Nat.reduceSub, Nat.reduceLeDiff]
            refine ⟨j + 1, setTo out (C.getD j.toNat default), false, ?_, ⟨by omega, by omega, by rw [setTo_len]; omega, by simp, h5⟩, by omega⟩
            simp only [winRow, setTo_map]
          · rw [if_neg (show ¬((out, true).2 = true ∧ 0 ≤ o2 ∧ (C.getD j.toNat default) - o2 ≥ off) from fun h => c1 h.2)] at h5
            by_cases c2 : 0 ≤ o2
            · simp (maxSteps := 1000000) (disch := omega) only [go_sem, eq_self, decide_true, decide_false, not_true_eq_false, not_false_eq_true, reduceIte, reduceCtorEq, Nat.reduceEqDiff, Nat.reduceAdd, Nat.reduceSub, Nat.reduceLeDiff]
              exact ⟨j + 1, out, true, rfl, ⟨by omega, by omega, by omega, fun _ => h4, h5⟩, by omega⟩
            · simp (maxSteps := 1000000) (disch := omega) only [go_sem, eq_self, decide_true, decide_false, not_true_eq_false, not_false_eq_true, reduceIte, reduceCtorEq, Nat.reduceEqDiff, Nat.reduceAdd, Nat.reduceSub, Nat.reduceLeDiff]
              exact ⟨j + 1, out, true, rfl, ⟨by omega, by omega, by omega, fun _ => h4, h5⟩, by omega⟩
    · rw [List.drop_eq_nil_of_le (by omega), rfGo] at h5
      rw [← h5]
      simp (maxSteps := 1000000) (disch := omega) only [go_sem, eq_self, decide_true, decide_false, not_true_eq_false, not_false_eq_true, reduceIte, reduceCtorEq, Nat.reduceEqDiff, Nat.reduceAdd, Nat.reduceSub, Nat.reduceLeDiff]
end Go.Proofs.YtggbcgldnjmobaaDoor

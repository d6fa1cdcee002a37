
/-
  PhasesFollow returns true for every slice of integers, and leaves the slice as it was: Phases, CheckRecipe, Follows and MapTime are as the reference says, for all samples, recipes and phases that its generators make of the slice. No condition.
-/
import Derived.Test.YtmbpfhpdicjpcaaFor
import Derived.Test.YtmbpfhpdicjpcaaRcp
import Derived.Test.YtmbpfhpdicjpcaaMapb
import Derived.Test.YtmbpfhpdicjpcaaStr
import Derived.Test.YtmbpfhpdicjpcaaAiRow
import Derived.Test.YtmbpfhpdicjpcaaRows
namespace Go.Proofs.Ytmbpfhpdicjpcaa
open Go Go.Ai
set_option linter.unusedSimpArgs false
set_option linter.unusedVariables false
set_option maxHeartbeats 4000000
def A_batched : List Ann := [⟨(some ⟨[], [], []⟩), [], [], [], []⟩, ⟨(some ⟨[1,2], [], []⟩), [], [], [], []⟩, ⟨(some ⟨[0], [], []⟩), [], [], [], []⟩]
def C_batched : AC := (.seq (.reg false [⟨(some 0), none, .mv (.v (.bool false))⟩] (some ⟨[], [], []⟩))
  (.seq (.reg false [⟨(some 4), none, .build [(.int .i64 (0)), (.int .i64 (0)), (.int .i64 (0)), (.int .i64 (0))] [(0, 1, (.v (.int .i64 (5)))), (1, 1, (.v (.int .i64 (5))))]⟩, ⟨(some 5), none, .build [(.int .i64 (0)), (.int .i64 (0)), (.int .i64 (0))] [(0, 1, (.v (.int .i64 (3)))), (1, 1, (.v (.int .i64 (6))))]⟩, ⟨(some 6), none, .bslice 3 1 [(.t 5)]⟩, ⟨(some 7), none, .call (.f 23) [(.t 4), (.t 6), (.v (.int .i64 (9)))]⟩, ⟨(some 3), none, .mv (.t 7)⟩, ⟨(some 8), none, .extr (.t 3) 0⟩, ⟨(some 9), none, .extr (.t 3) 1⟩, ⟨(some 1), none, .mv (.t 8)⟩, ⟨(some 2), none, .mv (.t 9)⟩] (some ⟨[1,2], [], []⟩))
  (.seq (.reg false [⟨(some 10), none, .mv (.t 2)⟩, ⟨(some 11), none, .bin .eql (.t 10) (.v (.int .i64 (0)))⟩, ⟨(some 12), none, .mv (.t 11)⟩, ⟨(some 13), (some (12, true)), .mv (.t 1)⟩, ⟨(some 14), (some (12, true)), .build [(.int .i64 (0)), (.int .i64 (0))] [(0, 1, (.v (.int .i64 (3)))), (1, 1, (.v (.int .i64 (9))))]⟩, ⟨(some 15), (some (12, true)), .bslice 2 1 [(.t 14)]⟩, ⟨(some 16), (some (12, true)), .call (.f 30) [(.t 13), (.t 15)]⟩, ⟨(some 17), none, .pick (.t 12) (.t 16) (.v (.bool false))⟩, ⟨(some 0), none, .mv (.t 17)⟩] (some ⟨[0], [], []⟩))
  .ret)))
theorem c_batched : compileCode Try.prog Try.f31.ntmps (Try.f31.body.getD .skip) A_batched = some (C_batched, []) := by kernel_rfl
theorem r_batched : compileRes Try.prog Try.f31.results.toList = some [.t 0] := by kernel_rfl
theorem b_batched : Try.f31.body = some (Try.f31.body.getD .skip) := by kernel_rfl
theorem n_batched : (Try.f31.name == "runtime.NumGoroutine") = false := by kernel_rfl
theorem fc_batched {xt : Option (List Cel)} {args : List Val} {R : List Cel → Val → Prop} (hn : (if xt.isSome then 1 else 0) + args.length ≤ Try.f31.ntmps) (h : ex Try.prog C_batched [] (fpost xt [.t 0] R) (initSt xt args)) : FC Try.prog 31 xt args R :=
  fc_of_awp Try.func31 b_batched n_batched c_batched r_batched (of_decide_eq_true (by kernel_rfl)) hn h

def A_eqWin : List Ann := [⟨(some ⟨[0,1], [], []⟩), [], [], [], []⟩, ⟨(some ⟨[0,1,10], [], []⟩), [], [], [], []⟩, ⟨(some ⟨[4], [], []⟩), [], [], [], []⟩, ⟨(some ⟨[0,1,12,13], [], []⟩), [], [], [], []⟩, ⟨(some ⟨[0,1,12,13,14], [], []⟩), [], [], [], []⟩, ⟨(some ⟨[0,1,5,12,13], [], []⟩), [], [], [], []⟩, ⟨(some ⟨[0,1,12,13,24], [], []⟩), [], [], [], []⟩, ⟨(some ⟨[4], [], []⟩), [], [], [], []⟩, ⟨(some ⟨[0,1,12,13], [], []⟩), [], [], [], []⟩, ⟨(some ⟨[4], [], []⟩), [], [], [], []⟩]
def C_eqWin : AC := (.seq (.reg false [⟨(some 4), none, .mv (.v (.bool false))⟩] (some ⟨[0,1], [], []⟩))
  (.seq (.seq (.reg false [⟨(some 6), none, .mv (.t 0)⟩, ⟨(some 7), none, .len (.t 6)⟩, ⟨(some 8), none, .mv (.t 1)⟩, ⟨(some 9), none, .len (.t 8)⟩, ⟨(some 10), none, .bin .neq (.t 7) (.t 9)⟩] (some ⟨[0,1,10], [], []⟩))
  (.cond (.t 10)
  (.seq (.reg false [⟨(some 4), none, .mv (.v (.bool false))⟩] (some ⟨[4], [], []⟩))
  .ret)
  .skip))
  (.seq (.seq (.reg false [⟨(some 11), none, .mv (.t 0)⟩, ⟨(some 12), none, .len (.t 11)⟩, ⟨(some 13), none, .mv (.v (.int .i64 (0)))⟩] (some ⟨[0,1,12,13], [], []⟩))
  (.block 0 (.loop (.seq (.reg false [⟨(some 14), none, .bin .lss (.t 13) (.t 12)⟩] (some ⟨[0,1,12,13,14], [], []⟩))
  (.seq (.cond (.t 14)
  .skip
  (.exit 0))
  (.seq (.block 1 (.seq (.reg false [⟨(some 15), none, .mv (.t 13)⟩, ⟨(some 5), none, .mv (.t 15)⟩] (some ⟨[0,1,5,12,13], [], []⟩))
  (.seq (.reg true [⟨(some 16), none, .mv (.t 0)⟩, ⟨(some 17), none, .mv (.t 5)⟩, ⟨(some 18), none, .iadr 2 (.t 16) (.t 17)⟩, ⟨(some 19), none, .load true 2 (.t 18)⟩, ⟨(some 20), none, .mv (.t 1)⟩, ⟨(some 21), none, .mv (.t 5)⟩, ⟨(some 22), none, .iadr 2 (.t 20) (.t 21)⟩, ⟨(some 23), none, .load true 2 (.t 22)⟩, ⟨(some 24), none, .eqs true true [.i .i64, .i .i64] (.t 19) (.t 23)⟩] (some ⟨[0,1,12,13,24], [], []⟩))
  (.cond (.t 24)
  (.seq (.reg false [⟨(some 4), none, .mv (.v (.bool false))⟩] (some ⟨[4], [], []⟩))
  .ret)
  .skip))))
  (.reg false [⟨(some 25), none, .bin .add (.t 13) (.v (.int .i64 (1)))⟩, ⟨(some 13), none, .mv (.t 25)⟩] (some ⟨[0,1,12,13], [], []⟩))))))))
  (.seq (.reg false [⟨(some 4), none, .mv (.v (.bool true))⟩] (some ⟨[4], [], []⟩))
  .ret))))
theorem c_eqWin : compileCode Try.prog Try.f30.ntmps (Try.f30.body.getD .skip) A_eqWin = some (C_eqWin, []) := by kernel_rfl
theorem r_eqWin : compileRes Try.prog Try.f30.results.toList = some [.t 4] := by kernel_rfl
theorem b_eqWin : Try.f30.body = some (Try.f30.body.getD .skip) := by kernel_rfl
theorem n_eqWin : (Try.f30.name == "runtime.NumGoroutine") = false := by kernel_rfl
theorem fc_eqWin {xt : Option (List Cel)} {args : List Val} {R : List Cel → Val → Prop} (hn : (if xt.isSome then 1 else 0) + args.length ≤ Try.f30.ntmps) (h : ex Try.prog C_eqWin [] (fpost xt [.t 4] R) (initSt xt args)) : FC Try.prog 30 xt args R :=
  fc_of_awp Try.func30 b_eqWin n_eqWin c_eqWin r_eqWin (of_decide_eq_true (by kernel_rfl)) hn h

def A_eqPh : List Ann := [⟨(some ⟨[0,1], [], []⟩), [], [], [], []⟩, ⟨(some ⟨[0,1,10], [], []⟩), [], [], [], []⟩, ⟨(some ⟨[4], [], []⟩), [], [], [], []⟩, ⟨(some ⟨[0,1,12,13], [], []⟩), [], [], [], []⟩, ⟨(some ⟨[0,1,12,13,14], [], []⟩), [], [], [], []⟩, ⟨(some ⟨[0,1,5,12,13], [], []⟩), [], [], [], []⟩, ⟨(some ⟨[0,1,12,13,24], [], []⟩), [], [], [], []⟩, ⟨(some ⟨[4], [], []⟩), [], [], [], []⟩, ⟨(some ⟨[0,1,12,13], [], []⟩), [], [], [], []⟩, ⟨(some ⟨[4], [], []⟩), [], [], [], []⟩]
def C_eqPh : AC := (.seq (.reg false [⟨(some 4), none, .mv (.v (.bool false))⟩] (some ⟨[0,1], [], []⟩))
  (.seq (.seq (.reg false [⟨(some 6), none, .mv (.t 0)⟩, ⟨(some 7), none, .len (.t 6)⟩, ⟨(some 8), none, .mv (.t 1)⟩, ⟨(some 9), none, .len (.t 8)⟩, ⟨(some 10), none, .bin .neq (.t 7) (.t 9)⟩] (some ⟨[0,1,10], [], []⟩))
  (.cond (.t 10)
  (.seq (.reg false [⟨(some 4), none, .mv (.v (.bool false))⟩] (some ⟨[4], [], []⟩))
  .ret)
  .skip))
  (.seq (.seq (.reg false [⟨(some 11), none, .mv (.t 0)⟩, ⟨(some 12), none, .len (.t 11)⟩, ⟨(some 13), none, .mv (.v (.int .i64 (0)))⟩] (some ⟨[0,1,12,13], [], []⟩))
  (.block 0 (.loop (.seq (.reg false [⟨(some 14), none, .bin .lss (.t 13) (.t 12)⟩] (some ⟨[0,1,12,13,14], [], []⟩))
  (.seq (.cond (.t 14)
  .skip
  (.exit 0))
  (.seq (.block 1 (.seq (.reg false [⟨(some 15), none, .mv (.t 13)⟩, ⟨(some 5), none, .mv (.t 15)⟩] (some ⟨[0,1,5,12,13], [], []⟩))
  (.seq (.reg true [⟨(some 16), none, .mv (.t 0)⟩, ⟨(some 17), none, .mv (.t 5)⟩, ⟨(some 18), none, .iadr 3 (.t 16) (.t 17)⟩, ⟨(some 19), none, .load true 3 (.t 18)⟩, ⟨(some 20), none, .mv (.t 1)⟩, ⟨(some 21), none, .mv (.t 5)⟩, ⟨(some 22), none, .iadr 3 (.t 20) (.t 21)⟩, ⟨(some 23), none, .load true 3 (.t 22)⟩, ⟨(some 24), none, .eqs true true [.i .i64, .i .i64, .i .i64] (.t 19) (.t 23)⟩] (some ⟨[0,1,12,13,24], [], []⟩))
  (.cond (.t 24)
  (.seq (.reg false [⟨(some 4), none, .mv (.v (.bool false))⟩] (some ⟨[4], [], []⟩))
  .ret)
  .skip))))
  (.reg false [⟨(some 25), none, .bin .add (.t 13) (.v (.int .i64 (1)))⟩, ⟨(some 13), none, .mv (.t 25)⟩] (some ⟨[0,1,12,13], [], []⟩))))))))
  (.seq (.reg false [⟨(some 4), none, .mv (.v (.bool true))⟩] (some ⟨[4], [], []⟩))
  .ret))))
theorem c_eqPh : compileCode Try.prog Try.f89.ntmps (Try.f89.body.getD .skip) A_eqPh = some (C_eqPh, []) := by kernel_rfl
theorem r_eqPh : compileRes Try.prog Try.f89.results.toList = some [.t 4] := by kernel_rfl
theorem b_eqPh : Try.f89.body = some (Try.f89.body.getD .skip) := by kernel_rfl
theorem n_eqPh : (Try.f89.name == "runtime.NumGoroutine") = false := by kernel_rfl
theorem fc_eqPh {xt : Option (List Cel)} {args : List Val} {R : List Cel → Val → Prop} (hn : (if xt.isSome then 1 else 0) + args.length ≤ Try.f89.ntmps) (h : ex Try.prog C_eqPh [] (fpost xt [.t 4] R) (initSt xt args)) : FC Try.prog 89 xt args R :=
  fc_of_awp Try.func89 b_eqPh n_eqPh c_eqPh r_eqPh (of_decide_eq_true (by kernel_rfl)) hn h

def A_pfo : List Ann := [⟨(some ⟨[0], [], []⟩), [], [], [], []⟩, ⟨(some ⟨[3,30], [30], []⟩), [], [], [], []⟩, ⟨(some ⟨[4,5,6,7,8,9], [5], []⟩), [], [], [], []⟩, ⟨(some ⟨[4,5,6,7,8,9,10,11], [5], []⟩), [], [], [], []⟩, ⟨(some ⟨[4,5,6,7,8,9,10,11,50], [5], []⟩), [], [], [], []⟩, ⟨(some ⟨[2], [], []⟩), [], [], [], []⟩, ⟨(some ⟨[4,5,6,7,8,9,10,11,12,13], [5], []⟩), [], [], [], []⟩, ⟨(some ⟨[4,5,6,7,8,9,10,11,12,13,14,15,16], [5], []⟩), [], [], [], []⟩, ⟨(some ⟨[4,5,6,7,8,9,10,11,12,13,14,15,16,17,18,19], [5], []⟩), [], [], [], []⟩, ⟨(some ⟨[4,5,6,7,8,9,12,13,14,15,16,17,18,19,20,21,22], [5], []⟩), [], [], [], []⟩, ⟨(some ⟨[4,5,6,7,8,9,12,13,14,15,16,17,18,19,20,21,22,23], [5], []⟩), [], [], [(23, 3)], []⟩, ⟨(some ⟨[4,5,6,7,8,9,12,13,14,15,16,17,18,19,20,21,22,23,24,25,26,27], [5], []⟩), [], [], [], []⟩, ⟨(some ⟨[4,5,6,7,8,9,12,13,14,15,16,17,18,19,20,21,22,23,24,25,26,27,91], [5], []⟩), [], [], [], []⟩, ⟨(some ⟨[6,7,8,9,12,13,14,15,16,17,18,19,20,21,22,23,24,25,26,27], [], []⟩), [], [], [], []⟩, ⟨(some ⟨[6,7,8,9,12,13,14,15,16,17,18,19,20,21,22,23,24,25,26,27,96], [], []⟩), [], [], [], []⟩, ⟨(some ⟨[7,8,9,12,13,14,15,16,17,18,19,20,21,22,23,24,25,26,27], [], []⟩), [], [], [], []⟩, ⟨(some ⟨[7,8,9,12,13,14,15,16,17,18,19,20,21,22,23,24,25,26,27,104], [], []⟩), [], [], [], []⟩, ⟨(some ⟨[12,13,14,15,16,17,18,19,20,21,22,23,24,25,26,27], [], []⟩), [], [], [], []⟩, ⟨(some ⟨[2], [], []⟩), [], [], [], []⟩]
def C_pfo : AC := (.seq (.reg false [⟨(some 2), none, .mv (.v (.bool false))⟩] (some ⟨[0], [], []⟩))
  (.seq (.reg false [⟨(some 28), none, .mv (.t 0)⟩, ⟨(some 29), none, .build [(.slice none 0 0), (.int .i64 (0))] [(0, 1, (.t 28))]⟩, ⟨(some 30), none, .box (.t 29)⟩, ⟨(some 3), none, .mv (.t 30)⟩] (some ⟨[3,30], [30], []⟩))
  (.seq (.reg false [⟨(some 31), none, .mv (.t 3)⟩, ⟨(some 32), none, .callx (.f 16) [(.t 31), (.v (.int .i64 (12)))]⟩, ⟨(some 33), none, .mv (.t 3)⟩, ⟨(some 34), none, .callx (.f 61) [(.t 33)]⟩, ⟨(some 35), none, .mv (.t 3)⟩, ⟨(some 36), none, .callx (.f 78) [(.t 35)]⟩, ⟨(some 37), none, .mv (.t 3)⟩, ⟨(some 38), none, .callx (.f 79) [(.t 37), (.v (.int .i64 (6)))]⟩, ⟨(some 39), none, .mv (.t 3)⟩, ⟨(some 40), none, .callx (.f 79) [(.t 39), (.v (.int .i64 (6)))]⟩, ⟨(some 41), none, .mv (.t 3)⟩, ⟨(some 42), none, .callx (.f 43) [(.t 41)]⟩, ⟨(some 5), none, .alloc [(.int .i64 (0)), (.int .i64 (0))]⟩, ⟨(some 4), none, .mv (.t 32)⟩, ⟨none, none, .store 2 (.t 5) (.t 34)⟩, ⟨(some 6), none, .mv (.t 36)⟩, ⟨(some 7), none, .mv (.t 38)⟩, ⟨(some 8), none, .mv (.t 40)⟩, ⟨(some 9), none, .mv (.t 42)⟩] (some ⟨[4,5,6,7,8,9], [5], []⟩))
  (.seq (.reg false [⟨(some 43), none, .mv (.t 6)⟩, ⟨(some 44), none, .call (.f 80) [(.t 43)]⟩, ⟨(some 45), none, .mv (.t 7)⟩, ⟨(some 46), none, .call (.f 81) [(.t 45)]⟩, ⟨(some 10), none, .mv (.t 44)⟩, ⟨(some 11), none, .mv (.t 46)⟩] (some ⟨[4,5,6,7,8,9,10,11], [5], []⟩))
  (.seq (.seq (.reg false [⟨(some 47), none, .mv (.t 6)⟩, ⟨(some 48), none, .call (.f 82) [(.t 47)]⟩, ⟨(some 49), none, .mv (.t 10)⟩, ⟨(some 50), none, .bin .neq (.t 48) (.t 49)⟩] (some ⟨[4,5,6,7,8,9,10,11,50], [5], []⟩))
  (.cond (.t 50)
  (.seq (.reg false [⟨(some 2), none, .mv (.v (.bool false))⟩] (some ⟨[2], [], []⟩))
  .ret)
  .skip))
  (.seq (.reg false [⟨(some 52), none, .mv (.t 4)⟩, ⟨(some 53), none, .load true 2 (.t 5)⟩, ⟨(some 54), none, .call (.f 83) [(.t 52), (.t 53)]⟩, ⟨(some 51), none, .mv (.t 54)⟩, ⟨(some 55), none, .extr (.t 51) 0⟩, ⟨(some 56), none, .extr (.t 51) 1⟩, ⟨(some 12), none, .mv (.t 55)⟩, ⟨(some 13), none, .mv (.t 56)⟩] (some ⟨[4,5,6,7,8,9,10,11,12,13], [5], []⟩))
  (.seq (.reg false [⟨(some 58), none, .mv (.t 6)⟩, ⟨(some 59), none, .mv (.t 7)⟩, ⟨(some 60), none, .call (.f 84) [(.t 58), (.t 59)]⟩, ⟨(some 57), none, .mv (.t 60)⟩, ⟨(some 61), none, .extr (.t 57) 0⟩, ⟨(some 62), none, .extr (.t 57) 1⟩, ⟨(some 63), none, .extr (.t 57) 2⟩, ⟨(some 14), none, .mv (.t 61)⟩, ⟨(some 15), none, .mv (.t 62)⟩, ⟨(some 16), none, .mv (.t 63)⟩] (some ⟨[4,5,6,7,8,9,10,11,12,13,14,15,16], [5], []⟩))
  (.seq (.reg false [⟨(some 65), none, .mv (.t 7)⟩, ⟨(some 66), none, .mv (.t 8)⟩, ⟨(some 67), none, .mv (.t 9)⟩, ⟨(some 68), none, .call (.f 85) [(.t 65), (.t 66), (.t 67)]⟩, ⟨(some 64), none, .mv (.t 68)⟩, ⟨(some 69), none, .extr (.t 64) 0⟩, ⟨(some 70), none, .extr (.t 64) 1⟩, ⟨(some 71), none, .extr (.t 64) 2⟩, ⟨(some 17), none, .mv (.t 69)⟩, ⟨(some 18), none, .mv (.t 70)⟩, ⟨(some 19), none, .mv (.t 71)⟩] (some ⟨[4,5,6,7,8,9,10,11,12,13,14,15,16,17,18,19], [5], []⟩))
  (.seq (.reg true [⟨(some 72), none, .mv (.t 4)⟩, ⟨(some 73), none, .call (.f 26) [(.t 72)]⟩, ⟨(some 74), none, .load true 2 (.t 5)⟩, ⟨(some 75), none, .bslice 2 1 [(.t 74)]⟩, ⟨(some 76), none, .call (.f 20) [(.t 75)]⟩, ⟨(some 77), none, .bslice 1 2 [(.t 73), (.t 76)]⟩, ⟨(some 78), none, .call (.f 25) [(.t 77)]⟩, ⟨(some 79), none, .mv (.t 10)⟩, ⟨(some 80), none, .mv (.t 11)⟩, ⟨(some 81), none, .bslice 1 2 [(.t 79), (.t 80)]⟩, ⟨(some 82), none, .call (.f 25) [(.t 81)]⟩, ⟨(some 83), none, .mv (.t 11)⟩, ⟨(some 84), none, .mv (.t 8)⟩, ⟨(some 85), none, .call (.f 81) [(.t 84)]⟩, ⟨(some 86), none, .mv (.t 9)⟩, ⟨(some 87), none, .call (.f 50) [(.t 86)]⟩, ⟨(some 88), none, .bslice 1 3 [(.t 83), (.t 85), (.t 87)]⟩, ⟨(some 89), none, .call (.f 25) [(.t 88)]⟩, ⟨(some 20), none, .mv (.t 78)⟩, ⟨(some 21), none, .mv (.t 82)⟩, ⟨(some 22), none, .mv (.t 89)⟩] (some ⟨[4,5,6,7,8,9,12,13,14,15,16,17,18,19,20,21,22], [5], []⟩))
  (.seq (.seq (.reg false [⟨(some 23), none, .mv (.v (.slice none 0 0))⟩] (some ⟨[4,5,6,7,8,9,12,13,14,15,16,17,18,19,20,21,22,23], [5], []⟩))
  (.ty 23 3))
  (.seq (.reg false [⟨(some 24), none, .mv (.v (.bool false))⟩, ⟨(some 25), none, .mv (.v (.bool false))⟩, ⟨(some 26), none, .mv (.v (.int .i64 (0)))⟩, ⟨(some 27), none, .mv (.v (.int .i64 (0)))⟩] (some ⟨[4,5,6,7,8,9,12,13,14,15,16,17,18,19,20,21,22,23,24,25,26,27], [5], []⟩))
  (.seq (.seq (.reg false [⟨(some 90), none, .mv (.t 20)⟩, ⟨(some 91), none, .bin .eql (.t 90) (.v (.int .i64 (0)))⟩] (some ⟨[4,5,6,7,8,9,12,13,14,15,16,17,18,19,20,21,22,23,24,25,26,27,91], [5], []⟩))
  (.cond (.t 91)
  (.reg false [⟨(some 92), none, .mv (.t 4)⟩, ⟨(some 93), none, .load true 2 (.t 5)⟩, ⟨(some 94), none, .call (.f 86) [(.t 92), (.t 93)]⟩, ⟨(some 23), none, .mv (.t 94)⟩] (some ⟨[6,7,8,9,12,13,14,15,16,17,18,19,20,21,22,23,24,25,26,27], [], []⟩))
  .skip))
  (.seq (.seq (.reg false [⟨(some 95), none, .mv (.t 21)⟩, ⟨(some 96), none, .bin .eql (.t 95) (.v (.int .i64 (0)))⟩] (some ⟨[6,7,8,9,12,13,14,15,16,17,18,19,20,21,22,23,24,25,26,27,96], [], []⟩))
  (.cond (.t 96)
  (.reg false [⟨(some 98), none, .mv (.t 6)⟩, ⟨(some 99), none, .mv (.t 7)⟩, ⟨(some 100), none, .call (.f 87) [(.t 98), (.t 99)]⟩, ⟨(some 97), none, .mv (.t 100)⟩, ⟨(some 101), none, .extr (.t 97) 0⟩, ⟨(some 102), none, .extr (.t 97) 1⟩, ⟨(some 24), none, .mv (.t 101)⟩, ⟨(some 26), none, .mv (.t 102)⟩] (some ⟨[7,8,9,12,13,14,15,16,17,18,19,20,21,22,23,24,25,26,27], [], []⟩))
  .skip))
  (.seq (.seq (.reg false [⟨(some 103), none, .mv (.t 22)⟩, ⟨(some 104), none, .bin .eql (.t 103) (.v (.int .i64 (0)))⟩] (some ⟨[7,8,9,12,13,14,15,16,17,18,19,20,21,22,23,24,25,26,27,104], [], []⟩))
  (.cond (.t 104)
  (.reg false [⟨(some 106), none, .mv (.t 7)⟩, ⟨(some 107), none, .mv (.t 8)⟩, ⟨(some 108), none, .mv (.t 9)⟩, ⟨(some 109), none, .call (.f 88) [(.t 106), (.t 107), (.t 108)]⟩, ⟨(some 105), none, .mv (.t 109)⟩, ⟨(some 110), none, .extr (.t 105) 0⟩, ⟨(some 111), none, .extr (.t 105) 1⟩, ⟨(some 27), none, .mv (.t 110)⟩, ⟨(some 25), none, .mv (.t 111)⟩] (some ⟨[12,13,14,15,16,17,18,19,20,21,22,23,24,25,26,27], [], []⟩))
  .skip))
  (.seq (.reg false [⟨(some 112), none, .mv (.t 13)⟩, ⟨(some 113), none, .mv (.t 20)⟩, ⟨(some 114), none, .bin .eql (.t 112) (.t 113)⟩, ⟨(some 115), none, .mv (.t 114)⟩, ⟨(some 116), (some (115, true)), .mv (.t 12)⟩, ⟨(some 117), (some (115, true)), .mv (.t 23)⟩, ⟨(some 118), (some (115, true)), .call (.f 89) [(.t 116), (.t 117)]⟩, ⟨(some 119), none, .pick (.t 115) (.t 118) (.v (.bool false))⟩, ⟨(some 120), none, .mv (.t 119)⟩, ⟨(some 121), (some (120, true)), .mv (.t 16)⟩, ⟨(some 122), (some (120, true)), .mv (.t 21)⟩, ⟨(some 123), (some (120, true)), .bin .eql (.t 121) (.t 122)⟩, ⟨(some 124), none, .pick (.t 120) (.t 123) (.v (.bool false))⟩, ⟨(some 125), none, .mv (.t 124)⟩, ⟨(some 126), (some (125, true)), .mv (.t 14)⟩, ⟨(some 127), (some (125, true)), .mv (.t 24)⟩, ⟨(some 128), (some (125, true)), .eqs false false [.b] (.t 126) (.t 127)⟩, ⟨(some 129), none, .pick (.t 125) (.t 128) (.v (.bool false))⟩, ⟨(some 130), none, .mv (.t 129)⟩, ⟨(some 131), (some (130, true)), .mv (.t 15)⟩, ⟨(some 132), (some (130, true)), .mv (.t 26)⟩, ⟨(some 133), (some (130, true)), .bin .eql (.t 131) (.t 132)⟩, ⟨(some 134), none, .pick (.t 130) (.t 133) (.v (.bool false))⟩, ⟨(some 135), none, .mv (.t 134)⟩, ⟨(some 136), (some (135, true)), .mv (.t 19)⟩, ⟨(some 137), (some (135, true)), .mv (.t 22)⟩, ⟨(some 138), (some (135, true)), .bin .eql (.t 136) (.t 137)⟩, ⟨(some 139), none, .pick (.t 135) (.t 138) (.v (.bool false))⟩, ⟨(some 140), none, .mv (.t 139)⟩, ⟨(some 141), (some (140, true)), .mv (.t 17)⟩, ⟨(some 142), (some (140, true)), .mv (.t 27)⟩, ⟨(some 143), (some (140, true)), .bin .eql (.t 141) (.t 142)⟩, ⟨(some 144), none, .pick (.t 140) (.t 143) (.v (.bool false))⟩, ⟨(some 145), none, .mv (.t 144)⟩, ⟨(some 146), (some (145, true)), .mv (.t 18)⟩, ⟨(some 147), (some (145, true)), .mv (.t 25)⟩, ⟨(some 148), (some (145, true)), .eqs false false [.b] (.t 146) (.t 147)⟩, ⟨(some 149), none, .pick (.t 145) (.t 148) (.v (.bool false))⟩, ⟨(some 150), none, .mv (.t 149)⟩, ⟨(some 151), (some (150, true)), .call (.f 31) []⟩, ⟨(some 152), none, .pick (.t 150) (.t 151) (.v (.bool false))⟩, ⟨(some 2), none, .mv (.t 152)⟩] (some ⟨[2], [], []⟩))
  .ret)))))))))))))))
theorem c_pfo : compileCode Try.prog Try.f10.ntmps (Try.f10.body.getD .skip) A_pfo = some (C_pfo, []) := by kernel_rfl
theorem r_pfo : compileRes Try.prog Try.f10.results.toList = some [.t 2] := by kernel_rfl
theorem b_pfo : Try.f10.body = some (Try.f10.body.getD .skip) := by kernel_rfl
theorem n_pfo : (Try.f10.name == "runtime.NumGoroutine") = false := by kernel_rfl
theorem fc_pfo {xt : Option (List Cel)} {args : List Val} {R : List Cel → Val → Prop} (hn : (if xt.isSome then 1 else 0) + args.length ≤ Try.f10.ntmps) (h : ex Try.prog C_pfo [] (fpost xt [.t 2] R) (initSt xt args)) : FC Try.prog 10 xt args R :=
  fc_of_awp Try.func10 b_pfo n_pfo c_pfo r_pfo (of_decide_eq_true (by kernel_rfl)) hn h


def eqWSt (fr fr' : Bool) (l : List (Int × Int)) (i : Int) : AS := ⟨tabV [(0, frsV fr l), (1, frsV fr' l), (12, iv l.length), (13, iv i)], tabO [], tabO []⟩
theorem eqWin_fc (fr fr' : Bool) (l : List (Int × Int)) (hl : l.length ≤ 4611686018427387904) : FC Try.prog 30 none [frsV fr l, frsV fr' l] (fun _ r => r = bv true) := by
  refine fc_eqWin (by simp +arith) ?_
  unfold C_eqWin
  simp (maxSteps := 1000000) (disch := omega) only [go_sem, eq_self, decide_true, decide_false, not_true_eq_false, not_false_eq_true, reduceIte, reduceCtorEq, Nat.reduceEqDiff, Nat.reduceAdd, Nat.reduceSub, Nat.reduceLeDiff]
  refine ex_loop1 (eqWSt fr fr' l) (fun i => 0 ≤ i ∧ i ≤ l.length) (fun i => (l.length - i).toNat) 0 ⟨by omega, by omega⟩ rfl ?_
  rintro i ⟨g1, g2⟩
  unfold eqWSt
  by_cases hi : i < l.length
  · simp (maxSteps := 1000000) (disch := omega) only [go_sem, eq_self, decide_true, decide_false, not_true_eq_false, not_false_eq_true, reduceIte, reduceCtorEq, Nat.reduceEqDiff, Nat.reduceAdd, Nat.reduceSub, Nat.reduceLeDiff]
    exact ⟨_, rfl, ⟨by omega, by omega⟩, by omega⟩
  · simp (maxSteps := 1000000) (disch := omega) only [go_sem, eq_self, decide_true, decide_false, not_true_eq_false, not_false_eq_true, reduceIte, reduceCtorEq, Nat.reduceEqDiff, Nat.reduceAdd, Nat.reduceSub, Nat.reduceLeDiff]
theorem batched_fc : FC Try.prog 31 none [] (fun _ r => r = bv true) := by
  refine fc_batched (by simp +arith) ?_
  unfold C_batched
  simp (maxSteps := 1000000) (disch := omega) only [go_sem, eq_self, decide_true, decide_false, not_true_eq_false, not_false_eq_true, reduceIte, reduceCtorEq, Nat.reduceEqDiff, Nat.reduceAdd, Nat.reduceSub, Nat.reduceLeDiff]
  refine CALL_det (frames_fc [⟨3, 6, 0⟩] (by simp) 5 5 0 0 9) (.inl rfl) ?_
  have e3 : frmSp [⟨3, 6, 0⟩] 5 5 0 0 9 = ([(3, 9)], 0) := by kernel_rfl
  rw [e3]
  simp (maxSteps := 1000000) (disch := omega) only [go_sem, eq_self, decide_true, decide_false, not_true_eq_false, not_false_eq_true, reduceIte, reduceCtorEq, Nat.reduceEqDiff, Nat.reduceAdd, Nat.reduceSub, Nat.reduceLeDiff]
  refine CALL_det (eqWin_fc false false [(3, 9)] (by simp)) (.inl rfl) ?_
  simp (maxSteps := 1000000) (disch := omega) only [go_sem, eq_self, decide_true, decide_false, not_true_eq_false, not_false_eq_true, reduceIte, reduceCtorEq, Nat.reduceEqDiff, Nat.reduceAdd, Nat.reduceSub, Nat.reduceLeDiff]
def eqPSt (fr fr' : Bool) (l : List Ph) (i : Int) : AS := ⟨tabV [(0, phsV fr l), (1, phsV fr' l), (12, iv l.length), (13, iv i)], tabO [], tabO []⟩
theorem eqPh_fc (fr fr' : Bool) (l : List Ph) (hl : l.length ≤ 4611686018427387904) : FC Try.prog 89 none [phsV fr l, phsV fr' l] (fun _ r => r = bv true) := by
  refine fc_eqPh (by simp +arith) ?_
  unfold C_eqPh
  simp (maxSteps := 1000000) (disch := omega) only [go_sem, eq_self, decide_true, decide_false, not_true_eq_false, not_false_eq_true, reduceIte, reduceCtorEq, Nat.reduceEqDiff, Nat.reduceAdd, Nat.reduceSub, Nat.reduceLeDiff]
  refine ex_loop1 (eqPSt fr fr' l) (fun i => 0 ≤ i ∧ i ≤ l.length) (fun i => (l.length - i).toNat) 0 ⟨by omega, by omega⟩ rfl ?_
  rintro i ⟨g1, g2⟩
  unfold eqPSt
  by_cases hi : i < l.length
  · simp (maxSteps := 1000000) (disch := omega) only [go_sem, eq_self, decide_true, decide_false, not_true_eq_false, not_false_eq_true, reduceIte, reduceCtorEq, Nat.reduceEqDiff, Nat.reduceAdd, Nat.reduceSub, Nat.reduceLeDiff]
    exact ⟨_, rfl, ⟨by omega, by omega⟩, by omega⟩
  · simp (maxSteps := 1000000) (disch := omega) only [go_sem, eq_self, decide_true, decide_false, not_true_eq_false, not_false_eq_true, reduceIte, reduceCtorEq, Nat.reduceEqDiff, Nat.reduceAdd, Nat.reduceSub, Nat.reduceLeDiff]
theorem or_ne {a : Int} (h : ¬a = 0) (l : List Int) : orSp (a :: l) = a := by rw [orSp, if_pos h]
theorem or_z (l : List Int) : orSp (0 :: l) = orSp l := by rw [orSp, if_neg (by simp)]
theorem or3_z {a b c : Int} (h : orSp [a, b, c] = 0) : a = 0 ∧ b = 0 ∧ c = 0 := by
  by_cases h1 : a = 0
  · subst h1
    rw [or_z] at h
    exact ⟨rfl, or2_z' h⟩
  · rw [or_ne h1] at h; exact absurd h h1
theorem ph_one {c : List Smp} {f t : Int} (h : orSp [serFault c, w1F f t] = 0) : (serFault c = 0 ∧ w1F f t = 0) ∧ phsSp c f t = ((phN c f t c.length).1, 0) := ⟨or2_z' h, by unfold phsSp; rw [if_neg (by omega)]⟩
theorem ph_bad {c : List Smp} {f t : Int} (h : ¬orSp [serFault c, w1F f t] = 0) : phsSp c f t = ([], orSp [serFault c, w1F f t]) := by unfold phsSp; rw [if_pos h]
theorem fl_two {r : List Sg} {p : List Ph} (h : orSp [rcF r, phF p] = 0) : (rcF r = 0 ∧ phF p = 0) ∧ flSp r p = ((flGo r p.length (-1) 0 0 p).1, (flGo r p.length (-1) 0 0 p).2, 0) := ⟨or2_z' h, by unfold flSp; rw [if_neg (by omega)]⟩
theorem fl_bad {r : List Sg} {p : List Ph} (h : ¬orSp [rcF r, phF p] = 0) : flSp r p = (false, 0, orSp [rcF r, phF p]) := by unfold flSp; rw [if_pos h]
theorem mp_three {p q : List Ph} {at_ : Int} (h : orSp [phF p, phF q, momFault at_] = 0) : (phF p = 0 ∧ phF q = 0 ∧ 0 ≤ at_ ∧ at_ ≤ 345686399999) ∧ mpSp p q at_ = ((mpV p q at_).1, (mpV p q at_).2, 0) := by
  obtain ⟨h1, h2, h3⟩ := or3_z h
  have h4 : 0 ≤ at_ ∧ at_ ≤ 345686399999 := by
    rcases Decidable.em (0 ≤ at_ ∧ at_ ≤ 345686399999) with h4 | h4
    · exact h4
    · unfold momFault at h3; rw [if_neg h4] at h3; omega
  refine ⟨⟨h1, h2, h4⟩, ?_⟩
  unfold mpSp
  rw [h1, h2, if_neg (by decide), if_neg (by omega)]
theorem mp_bad {p q : List Ph} {at_ : Int} (h : ¬orSp [phF p, phF q, momFault at_] = 0) : mpSp p q at_ = (0, false, orSp [phF p, phF q, momFault at_]) := by
  unfold mpSp
  by_cases h1 : phF p = 0
  · by_cases h2 : phF q = 0
    · by_cases h3 : 0 ≤ at_ ∧ at_ ≤ 345686399999
      · unfold momFault at h; rw [h1, h2, if_pos h3] at h; exact absurd rfl h
      · unfold momFault; rw [h1, h2, if_neg h3, if_neg (by decide), if_pos h3]; rfl
    · rw [h1, or_z, or_z, or_ne h2, or_ne h2, if_pos h2]
  · rw [or_ne h1, or_ne h1, if_pos h1]
set_option maxHeartbeats 12000000 in
set_option maxRecDepth 8000 in
theorem pfo_fc (L : List Int) (hL : ∀ x ∈ L, I64 x) (hl : L.length ≤ 9223372036854775807) : FC Try.prog 10 none [ints false L] (fun _ r => r = bv true) := by
  refine fc_pfo (by simp +arith) ?_
  unfold C_pfo
  simp (maxSteps := 1000000) (disch := omega) only [go_sem, eq_self, decide_true, decide_false, not_true_eq_false, not_false_eq_true, reduceIte, reduceCtorEq, Nat.reduceEqDiff, Nat.reduceAdd, Nat.reduceSub, Nat.reduceLeDiff]
  refine callx_gen (p := 0) (curve_fc 12 (by omega) (by omega)) hL hl (by omega) (by omega) ⟨_, [], by simp, by simp, rfl⟩ ?_
  rintro pa r hpa1 hpa2 ⟨c, hcl, hc64, rfl⟩
  refine ⟨rfl, ?_⟩
  unfold strm
  simp (maxSteps := 1000000) (disch := omega) only [go_sem, eq_self, decide_true, decide_false, not_true_eq_false, not_false_eq_true, reduceIte, reduceCtorEq, Nat.reduceEqDiff, Nat.reduceAdd, Nat.reduceSub, Nat.reduceLeDiff]
  refine callx_gen aspan_fc hL hl (by omega) (by omega) ⟨_, 0, 0, by simp [I64], by simp [I64], rfl⟩ ?_
  rintro pb r hpb1 hpb2 ⟨f, t, hf, ht, rfl⟩
  refine ⟨rfl, ?_⟩
  unfold strm
  simp (maxSteps := 1000000) (disch := omega) only [go_sem, eq_self, decide_true, decide_false, not_true_eq_false, not_false_eq_true, reduceIte, reduceCtorEq, Nat.reduceEqDiff, Nat.reduceAdd, Nat.reduceSub, Nat.reduceLeDiff]
  refine callx_gen recipeOf_fc hL hl (by omega) (by omega) ⟨_, [], by simp, rfl⟩ ?_
  rintro pc r hpc1 hpc2 ⟨g, hgl, rfl⟩
  refine ⟨rfl, ?_⟩
  unfold strm
  simp (maxSteps := 1000000) (disch := omega) only [go_sem, eq_self, decide_true, decide_false, not_true_eq_false, not_false_eq_true, reduceIte, reduceCtorEq, Nat.reduceEqDiff, Nat.reduceAdd, Nat.reduceSub, Nat.reduceLeDiff]
  refine callx_gen (phaseList_fc 6 (by omega)) hL hl (by omega) (by omega) ⟨_, [], by simp, by simp, rfl⟩ ?_
  rintro pd r hpd1 hpd2 ⟨p, hpl, hp64, rfl⟩
  refine ⟨rfl, ?_⟩
  unfold strm
  simp (maxSteps := 1000000) (disch := omega) only [go_sem, eq_self, decide_true, decide_false, not_true_eq_false, not_false_eq_true, reduceIte, reduceCtorEq, Nat.reduceEqDiff, Nat.reduceAdd, Nat.reduceSub, Nat.reduceLeDiff]
  refine callx_gen (phaseList_fc 6 (by omega)) hL hl (by omega) (by omega) ⟨_, [], by simp, by simp, rfl⟩ ?_
  rintro pe r hpe1 hpe2 ⟨q, hql, hq64, rfl⟩
  refine ⟨rfl, ?_⟩
  unfold strm
  simp (maxSteps := 1000000) (disch := omega) only [go_sem, eq_self, decide_true, decide_false, not_true_eq_false, not_false_eq_true, reduceIte, reduceCtorEq, Nat.reduceEqDiff, Nat.reduceAdd, Nat.reduceSub, Nat.reduceLeDiff]
  refine callx_gen amoment_fc hL hl (by omega) (by omega) ⟨_, 0, by simp [I64], rfl⟩ ?_
  rintro pf r hpf1 hpf2 ⟨m, hm, rfl⟩
  refine ⟨rfl, ?_⟩
  unfold strm
  simp (maxSteps := 1000000) (disch := omega) only [go_sem, eq_self, decide_true, decide_false, not_true_eq_false, not_false_eq_true, reduceIte, reduceCtorEq, Nat.reduceEqDiff, Nat.reduceAdd, Nat.reduceSub, Nat.reduceLeDiff]
  have hsp : smallP p := fun x hx => (hp64 x hx).2.2.2
  have hsq : smallP q := fun x hx => (hq64 x hx).2.2.2
  refine CALL_det (recipeFault_fc g (by omega)) (.inl rfl) ?_
  simp (maxSteps := 1000000) (disch := omega) only [go_sem, eq_self, decide_true, decide_false, not_true_eq_false, not_false_eq_true, reduceIte, reduceCtorEq, Nat.reduceEqDiff, Nat.reduceAdd, Nat.reduceSub, Nat.reduceLeDiff]
  refine CALL_det (rphasesFault_fc p (by omega)) (.inl rfl) ?_
  simp (maxSteps := 1000000) (disch := omega) only [go_sem, eq_self, decide_true, decide_false, not_true_eq_false, not_false_eq_true, reduceIte, reduceCtorEq, Nat.reduceEqDiff, Nat.reduceAdd, Nat.reduceSub, Nat.reduceLeDiff]
  refine CALL_det (checkRecipe_fc g (by omega)) (.inl rfl) ?_
  simp (maxSteps := 1000000) (disch := omega) only [go_sem, eq_self, decide_true, decide_false, not_true_eq_false, not_false_eq_true, reduceIte, reduceCtorEq, Nat.reduceEqDiff, Nat.reduceAdd, Nat.reduceSub, Nat.reduceLeDiff]
  refine CALL_det (phases_fc c (by omega) f t) (.inl rfl) ?_
  simp (maxSteps := 1000000) (disch := omega) only [go_sem, eq_self, decide_true, decide_false, not_true_eq_false, not_false_eq_true, reduceIte, reduceCtorEq, Nat.reduceEqDiff, Nat.reduceAdd, Nat.reduceSub, Nat.reduceLeDiff]
  refine CALL_det (follows_fc g p (by omega) (by omega)) (.inl rfl) ?_
  simp (maxSteps := 1000000) (disch := omega) only [go_sem, eq_self, decide_true, decide_false, not_true_eq_false, not_false_eq_true, reduceIte, reduceCtorEq, Nat.reduceEqDiff, Nat.reduceAdd, Nat.reduceSub, Nat.reduceLeDiff]
  refine CALL_det (mapTime_fc p q (by omega) (by omega) hsp hsq m) (.inl rfl) ?_
  simp (maxSteps := 1000000) (disch := omega) only [go_sem, eq_self, decide_true, decide_false, not_true_eq_false, not_false_eq_true, reduceIte, reduceCtorEq, Nat.reduceEqDiff, Nat.reduceAdd, Nat.reduceSub, Nat.reduceLeDiff]
  refine CALL_det (seriesFault_fc c (by omega)) (.inl rfl) ?_
  simp (maxSteps := 1000000) (disch := omega) only [go_sem, eq_self, decide_true, decide_false, not_true_eq_false, not_false_eq_true, reduceIte, reduceCtorEq, Nat.reduceEqDiff, Nat.reduceAdd, Nat.reduceSub, Nat.reduceLeDiff]
  refine CALL_det (frameFault_fc [(f, t)] (by simp)) (.inl rfl) ?_
  rw [w1F_eq]
  simp (maxSteps := 1000000) (disch := omega) only [go_sem, eq_self, decide_true, decide_false, not_true_eq_false, not_false_eq_true, reduceIte, reduceCtorEq, Nat.reduceEqDiff, Nat.reduceAdd, Nat.reduceSub, Nat.reduceLeDiff]
  refine CALL_det (orE_fc false [serFault c, w1F f t] (by simp)) (.inl rfl) ?_
  simp (maxSteps := 1000000) (disch := omega) only [go_sem, eq_self, decide_true, decide_false, not_true_eq_false, not_false_eq_true, reduceIte, reduceCtorEq, Nat.reduceEqDiff, Nat.reduceAdd, Nat.reduceSub, Nat.reduceLeDiff]
  refine CALL_det (orE_fc false [rcF g, phF p] (by simp)) (.inl rfl) ?_
  simp (maxSteps := 1000000) (disch := omega) only [go_sem, eq_self, decide_true, decide_false, not_true_eq_false, not_false_eq_true, reduceIte, reduceCtorEq, Nat.reduceEqDiff, Nat.reduceAdd, Nat.reduceSub, Nat.reduceLeDiff]
  refine CALL_det (rphasesFault_fc q (by omega)) (.inl rfl) ?_
  simp (maxSteps := 1000000) (disch := omega) only [go_sem, eq_self, decide_true, decide_false, not_true_eq_false, not_false_eq_true, reduceIte, reduceCtorEq, Nat.reduceEqDiff, Nat.reduceAdd, Nat.reduceSub, Nat.reduceLeDiff]
  refine CALL_det (momentFault1_fc m) (.inl rfl) ?_
  simp (maxSteps := 1000000) (disch := omega) only [go_sem, eq_self, decide_true, decide_false, not_true_eq_false, not_false_eq_true, reduceIte, reduceCtorEq, Nat.reduceEqDiff, Nat.reduceAdd, Nat.reduceSub, Nat.reduceLeDiff]
  refine CALL_det (orE_fc false [phF p, phF q, momFault m] (by simp)) (.inl rfl) ?_
  have hpn := (phN_len c f t c.length).1
  by_cases h1 : orSp [serFault c, w1F f t] = 0
  · obtain ⟨o1, e1⟩ := ph_one h1
    rw [h1, e1]
    by_cases h2 : orSp [rcF g, phF p] = 0
    · obtain ⟨o2, e2⟩ := fl_two h2
      rw [h2, e2]
      by_cases h3 : orSp [phF p, phF q, momFault m] = 0
      · obtain ⟨o3, e3⟩ := mp_three h3
        rw [h3, e3]
        simp (maxSteps := 1000000) (disch := omega) only [go_sem, eq_self, decide_true, decide_false, not_true_eq_false, not_false_eq_true, reduceIte, reduceCtorEq, Nat.reduceEqDiff, Nat.reduceAdd, Nat.reduceSub, Nat.reduceLeDiff]
        refine CALL_det (phasesOf_fc c o1.1 f t o1.2) (.inl rfl) ?_
        simp (maxSteps := 1000000) (disch := omega) only [go_sem, eq_self, decide_true, decide_false, not_true_eq_false, not_false_eq_true, reduceIte, reduceCtorEq, Nat.reduceEqDiff, Nat.reduceAdd, Nat.reduceSub, Nat.reduceLeDiff]
        refine CALL_det (followsOf_fc g p o2.1 (by omega)) (.inl rfl) ?_
        simp (maxSteps := 1000000) (disch := omega) only [go_sem, eq_self, decide_true, decide_false, not_true_eq_false, not_false_eq_true, reduceIte, reduceCtorEq, Nat.reduceEqDiff, Nat.reduceAdd, Nat.reduceSub, Nat.reduceLeDiff]
        refine CALL_det (mappedTo_fc p q (by omega) (by omega) hsp hsq o3.1 o3.2.1 m o3.2.2) (.inl rfl) ?_
        simp (maxSteps := 1000000) (disch := omega) only [go_sem, eq_self, decide_true, decide_false, not_true_eq_false, not_false_eq_true, reduceIte, reduceCtorEq, Nat.reduceEqDiff, Nat.reduceAdd, Nat.reduceSub, Nat.reduceLeDiff]
        refine CALL_det (eqPh_fc _ _ (phN c f t c.length).1 (by omega)) (.inl rfl) ?_
        simp (maxSteps := 1000000) (disch := omega) only [go_sem, eq_self, decide_true, decide_false, not_true_eq_false, not_false_eq_true, reduceIte, reduceCtorEq, Nat.reduceEqDiff, Nat.reduceAdd, Nat.reduceSub, Nat.reduceLeDiff]
        refine CALL_det (batched_fc) (.inl rfl) ?_
        simp (maxSteps := 1000000) (disch := omega) only [go_sem, eq_self, decide_true, decide_false, not_true_eq_false, not_false_eq_true, reduceIte, reduceCtorEq, Nat.reduceEqDiff, Nat.reduceAdd, Nat.reduceSub, Nat.reduceLeDiff]
      · rw [mp_bad h3]
        simp (maxSteps := 1000000) (disch := omega) only [go_sem, eq_self, decide_true, decide_false, not_true_eq_false, not_false_eq_true, reduceIte, reduceCtorEq, Nat.reduceEqDiff, Nat.reduceAdd, Nat.reduceSub, Nat.reduceLeDiff]
        refine CALL_det (phasesOf_fc c o1.1 f t o1.2) (.inl rfl) ?_
        simp (maxSteps := 1000000) (disch := omega) only [go_sem, eq_self, decide_true, decide_false, not_true_eq_false, not_false_eq_true, reduceIte, reduceCtorEq, Nat.reduceEqDiff, Nat.reduceAdd, Nat.reduceSub, Nat.reduceLeDiff]
        refine CALL_det (followsOf_fc g p o2.1 (by omega)) (.inl rfl) ?_
        simp (maxSteps := 1000000) (disch := omega) only [go_sem, eq_self, decide_true, decide_false, not_true_eq_false, not_false_eq_true, reduceIte, reduceCtorEq, Nat.reduceEqDiff, Nat.reduceAdd, Nat.reduceSub, Nat.reduceLeDiff]
        refine CALL_det (eqPh_fc _ _ (phN c f t c.length).1 (by omega)) (.inl rfl) ?_
        simp (maxSteps := 1000000) (disch := omega) only [go_sem, eq_self, decide_true, decide_false, not_true_eq_false, not_false_eq_true, reduceIte, reduceCtorEq, Nat.reduceEqDiff, Nat.reduceAdd, Nat.reduceSub, Nat.reduceLeDiff]
        refine CALL_det (batched_fc) (.inl rfl) ?_
        simp (maxSteps := 1000000) (disch := omega) only [go_sem, eq_self, decide_true, decide_false, not_true_eq_false, not_false_eq_true, reduceIte, reduceCtorEq, Nat.reduceEqDiff, Nat.reduceAdd, Nat.reduceSub, Nat.reduceLeDiff]
    · rw [fl_bad h2]
      by_cases h3 : orSp [phF p, phF q, momFault m] = 0
      · obtain ⟨o3, e3⟩ := mp_three h3
        rw [h3, e3]
        simp (maxSteps := 1000000) (disch := omega) only [go_sem, eq_self, decide_true, decide_false, not_true_eq_false, not_false_eq_true, reduceIte, reduceCtorEq, Nat.reduceEqDiff, Nat.reduceAdd, Nat.reduceSub, Nat.reduceLeDiff]
        refine CALL_det (phasesOf_fc c o1.1 f t o1.2) (.inl rfl) ?_
        simp (maxSteps := 1000000) (disch := omega) only [go_sem, eq_self, decide_true, decide_false, not_true_eq_false, not_false_eq_true, reduceIte, reduceCtorEq, Nat.reduceEqDiff, Nat.reduceAdd, Nat.reduceSub, Nat.reduceLeDiff]
        refine CALL_det (mappedTo_fc p q (by omega) (by omega) hsp hsq o3.1 o3.2.1 m o3.2.2) (.inl rfl) ?_
        simp (maxSteps := 1000000) (disch := omega) only [go_sem, eq_self, decide_true, decide_false, not_true_eq_false, not_false_eq_true, reduceIte, reduceCtorEq, Nat.reduceEqDiff, Nat.reduceAdd, Nat.reduceSub, Nat.reduceLeDiff]
        refine CALL_det (eqPh_fc _ _ (phN c f t c.length).1 (by omega)) (.inl rfl) ?_
        simp (maxSteps := 1000000) (disch := omega) only [go_sem, eq_self, decide_true, decide_false, not_true_eq_false, not_false_eq_true, reduceIte, reduceCtorEq, Nat.reduceEqDiff, Nat.reduceAdd, Nat.reduceSub, Nat.reduceLeDiff]
        refine CALL_det (batched_fc) (.inl rfl) ?_
        simp (maxSteps := 1000000) (disch := omega) only [go_sem, eq_self, decide_true, decide_false, not_true_eq_false, not_false_eq_true, reduceIte, reduceCtorEq, Nat.reduceEqDiff, Nat.reduceAdd, Nat.reduceSub, Nat.reduceLeDiff]
      · rw [mp_bad h3]
        simp (maxSteps := 1000000) (disch := omega) only [go_sem, eq_self, decide_true, decide_false, not_true_eq_false, not_false_eq_true, reduceIte, reduceCtorEq, Nat.reduceEqDiff, Nat.reduceAdd, Nat.reduceSub, Nat.reduceLeDiff]
        refine CALL_det (phasesOf_fc c o1.1 f t o1.2) (.inl rfl) ?_
        simp (maxSteps := 1000000) (disch := omega) only [go_sem, eq_self, decide_true, decide_false, not_true_eq_false, not_false_eq_true, reduceIte, reduceCtorEq, Nat.reduceEqDiff, Nat.reduceAdd, Nat.reduceSub, Nat.reduceLeDiff]
        refine CALL_det (eqPh_fc _ _ (phN c f t c.length).1 (by omega)) (.inl rfl) ?_
        simp (maxSteps := 1000000) (disch := omega) only [go_sem, eq_self, decide_true, decide_false, not_true_eq_false, not_false_eq_true, reduceIte, reduceCtorEq, Nat.reduceEqDiff, Nat.reduceAdd, Nat.reduceSub, Nat.reduceLeDiff]
        refine CALL_det (batched_fc) (.inl rfl) ?_
        simp (maxSteps := 1000000) (disch := omega) only [go_sem, eq_self, decide_true, decide_false, not_true_eq_false, not_false_eq_true, reduceIte, reduceCtorEq, Nat.reduceEqDiff, Nat.reduceAdd, Nat.reduceSub, Nat.reduceLeDiff]
  · rw [ph_bad h1]
    by_cases h2 : orSp [rcF g, phF p] = 0
    · obtain ⟨o2, e2⟩ := fl_two h2
      rw [h2, e2]
      by_cases h3 : orSp [phF p, phF q, momFault m] = 0
      · obtain ⟨o3, e3⟩ := mp_three h3
        rw [h3, e3]
        simp (maxSteps := 1000000) (disch := omega) only [go_sem, eq_self, decide_true, decide_false, not_true_eq_false, not_false_eq_true, reduceIte, reduceCtorEq, Nat.reduceEqDiff, Nat.reduceAdd, Nat.reduceSub, Nat.reduceLeDiff]
        refine CALL_det (followsOf_fc g p o2.1 (by omega)) (.inl rfl) ?_
        simp (maxSteps := 1000000) (disch := omega) only [go_sem, eq_self, decide_true, decide_false, not_true_eq_false, not_false_eq_true, reduceIte, reduceCtorEq, Nat.reduceEqDiff, Nat.reduceAdd, Nat.reduceSub, Nat.reduceLeDiff]
        refine CALL_det (mappedTo_fc p q (by omega) (by omega) hsp hsq o3.1 o3.2.1 m o3.2.2) (.inl rfl) ?_
        simp (maxSteps := 1000000) (disch := omega) only [go_sem, eq_self, decide_true, decide_false, not_true_eq_false, not_false_eq_true, reduceIte, reduceCtorEq, Nat.reduceEqDiff, Nat.reduceAdd, Nat.reduceSub, Nat.reduceLeDiff]
        refine CALL_det (eqPh_fc _ _ [] (by simp)) (.inl rfl) ?_
        simp (maxSteps := 1000000) (disch := omega) only [go_sem, eq_self, decide_true, decide_false, not_true_eq_false, not_false_eq_true, reduceIte, reduceCtorEq, Nat.reduceEqDiff, Nat.reduceAdd, Nat.reduceSub, Nat.reduceLeDiff]
        refine CALL_det (batched_fc) (.inl rfl) ?_
        simp (maxSteps := 1000000) (disch := omega) only [go_sem, eq_self, decide_true, decide_false, not_true_eq_false, not_false_eq_true, reduceIte, reduceCtorEq, Nat.reduceEqDiff, Nat.reduceAdd, Nat.reduceSub, Nat.reduceLeDiff]
      · rw [mp_bad h3]
        simp (maxSteps := 1000000) (disch := omega) only [go_sem, eq_self, decide_true, decide_false, not_true_eq_false, not_false_eq_true, reduceIte, reduceCtorEq, Nat.reduceEqDiff, Nat.reduceAdd, Nat.reduceSub, Nat.reduceLeDiff]
        refine CALL_det (followsOf_fc g p o2.1 (by omega)) (.inl rfl) ?_
        simp (maxSteps := 1000000) (disch := omega) only [go_sem, eq_self, decide_true, decide_false, not_true_eq_false, not_false_eq_true, reduceIte, reduceCtorEq, Nat.reduceEqDiff, Nat.reduceAdd, Nat.reduceSub, Nat.reduceLeDiff]
        refine CALL_det (eqPh_fc _ _ [] (by simp)) (.inl rfl) ?_
        simp (maxSteps := 1000000) (disch := omega) only [go_sem, eq_self, decide_true, decide_false, not_true_eq_false, not_false_eq_true, reduceIte, reduceCtorEq, Nat.reduceEqDiff, Nat.reduceAdd, Nat.reduceSub, Nat.reduceLeDiff]
        refine CALL_det (batched_fc) (.inl rfl) ?_
        simp (maxSteps := 1000000) (disch := omega) only [go_sem, eq_self, decide_true, decide_false, not_true_eq_false, not_false_eq_true, reduceIte, reduceCtorEq, Nat.reduceEqDiff, Nat.reduceAdd, Nat.reduceSub, Nat.reduceLeDiff]
    · rw [fl_bad h2]
      by_cases h3 : orSp [phF p, phF q, momFault m] = 0
      · obtain ⟨o3, e3⟩ := mp_three h3
        rw [h3, e3]
        simp (maxSteps := 1000000) (disch := omega) only [go_sem, eq_self, decide_true, decide_false, not_true_eq_false, not_false_eq_true, reduceIte, reduceCtorEq, Nat.reduceEqDiff, Nat.reduceAdd, Nat.reduceSub, Nat.reduceLeDiff]
        refine CALL_det (mappedTo_fc p q (by omega) (by omega) hsp hsq o3.1 o3.2.1 m o3.2.2) (.inl rfl) ?_
        simp (maxSteps := 1000000) (disch := omega) only [go_sem, eq_self, decide_true, decide_false, not_true_eq_false, not_false_eq_true, reduceIte, reduceCtorEq, Nat.reduceEqDiff, Nat.reduceAdd, Nat.reduceSub, Nat.reduceLeDiff]
        refine CALL_det (eqPh_fc _ _ [] (by simp)) (.inl rfl) ?_
        simp (maxSteps := 1000000) (disch := omega) only [go_sem, eq_self, decide_true, decide_false, not_true_eq_false, not_false_eq_true, reduceIte, reduceCtorEq, Nat.reduceEqDiff, Nat.reduceAdd, Nat.reduceSub, Nat.reduceLeDiff]
        refine CALL_det (batched_fc) (.inl rfl) ?_
        simp (maxSteps := 1000000) (disch := omega) only [go_sem, eq_self, decide_true, decide_false, not_true_eq_false, not_false_eq_true, reduceIte, reduceCtorEq, Nat.reduceEqDiff, Nat.reduceAdd, Nat.reduceSub, Nat.reduceLeDiff]
      · rw [mp_bad h3]
        simp (maxSteps := 1000000) (disch := omega) only [go_sem, eq_self, decide_true, decide_false, not_true_eq_false, not_false_eq_true, reduceIte, reduceCtorEq, Nat.reduceEqDiff, Nat.reduceAdd, Nat.reduceSub, Nat.reduceLeDiff]
        refine CALL_det (eqPh_fc _ _ [] (by simp)) (.inl rfl) ?_
        simp (maxSteps := 1000000) (disch := omega) only [go_sem, eq_self, decide_true, decide_false, not_true_eq_false, not_false_eq_true, reduceIte, reduceCtorEq, Nat.reduceEqDiff, Nat.reduceAdd, Nat.reduceSub, Nat.reduceLeDiff]
        refine CALL_det (batched_fc) (.inl rfl) ?_
        simp (maxSteps := 1000000) (disch := omega) only [go_sem, eq_self, decide_true, decide_false, not_true_eq_false, not_false_eq_true, reduceIte, reduceCtorEq, Nat.reduceEqDiff, Nat.reduceAdd, Nat.reduceSub, Nat.reduceLeDiff]
theorem pfo_own : ownKnob Try.prog.godebug = none := by kernel_rfl
theorem pfo_laid : laidOutB Try.prog = true := by kernel_rfl
set_option maxRecDepth 100000 in
theorem pfo_lifted (os : Os) (started : os.Started) (H : Type) (enc : TypeId × Value → H) :
    ReturnsInHanded {} Try.checked os 10 .any (Rows.phasesFollowSpec.pre6 enc Try.prog Try.f10 Rows.phasesFollowRow.domain false) (Rows.phasesFollowSpec.post enc Try.prog Try.f10 false true false false) := by
  refine returnsInHanded_of_change (C := Try.checked) pfo_own started (by kernel_rfl) Try.func10
    (ChangeSpec.witness6 (enc := enc) (C := Try.checked) false ⟨#[], #[.slice none 0 0], []⟩ 8 (by kernel_rfl) (by kernel_rfl) (by kernel_rfl) (by kernel_rfl)) ?_
  intro W base args ds gs before hval hW _ _
  exact law_contract (P := Try.prog) (fun L h1 h2 => pfo_fc L h1 h2) (fun _ _ => rfl) rfl rfl rfl pfo_laid (by kernel_rfl) (of_decide_eq_true (by kernel_rfl)) Try.underlying22 Try.underlying3 (by kernel_rfl) Try.underlying4 W base args ds gs before hval hW
theorem pfo_over : Rows.phasesFollowRow.holds Try.pinned (OpenSpec.ofChange Rows.phasesFollowSpec) :=
  OpenClaim.holds_of_wide 10 Try.f10 rfl rfl rfl rfl rfl rfl rfl ⟨rfl, rfl, rfl, rfl, rfl⟩ rfl rfl rfl rfl rfl (by kernel_rfl) Try.func10 (by kernel_rfl)
    (of_decide_eq_true (by kernel_rfl)) (by unfold Func.isWrapper; first | (rw [if_pos (by decide +kernel)]; kernel_rfl) | (rw [if_neg (by decide +kernel)]; exact ⟨rfl, rfl⟩))
    (fun os started H enc _ => pfo_lifted os started H enc)
theorem phases_follow : Rows.PhasesFollowSaid := pfo_over
end Go.Proofs.Ytmbpfhpdicjpcaa

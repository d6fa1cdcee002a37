
/-
  ProfilesCompared returns true for every slice of integers, and leaves the slice as it was: Profile, Deviation and Closest are as the reference says, for all samples, frames and profiles that its generators make of the slice. No condition.
-/
import Derived.Test.YtmbpfhpdicjpcaaPrg
import Derived.Test.YtmbpfhpdicjpcaaAiRow
import Derived.Test.YtmbpfhpdicjpcaaRows
namespace Go.Proofs.Ytmbpfhpdicjpcaa
open Go Go.Ai
set_option linter.unusedSimpArgs false
set_option linter.unusedVariables false
set_option maxHeartbeats 4000000
def A_batched : List Ann := [⟨(some ⟨[], [], []⟩), [], [], [], []⟩, ⟨(some ⟨[1,2], [], []⟩), [], [], [], []⟩, ⟨(some ⟨[0], [], []⟩), [], [], [], []⟩]
def C_batched : AC := (.seq (.reg false [⟨(some 0), none, .mv (.v (.bool false))⟩] (some ⟨[], [], []⟩))
  (.seq (.reg false [⟨(some 4), none, .build [(.int .i64 (0)), (.int .i64 (0)), (.int .i64 (0)), (.int .i64 (0))] [(0, 1, (.v (.int .i64 (5)))), (1, 1, (.v (.int .i64 (5))))]⟩, ⟨(some 5), none, .build [(.int .i64 (0)), (.int .i64 (0)), (.int .i64 (0))] [(0, 1, (.v (.int .i64 (3)))), (1, 1, (.v (.int .i64 (6))))]⟩, ⟨(some 6), none, .bslice 3 1 [(.t 5)]⟩, ⟨(some 7), none, .call (.f 23) [(.t 4), (.t 6), (.v (.int .i64 (9)))]⟩, ⟨(some 3), none, .mv (.t 7)⟩, ⟨(some 8), none, .extr (.t 3) 0⟩, ⟨(some 9), none, .extr (.t 3) 1⟩, ⟨(some 1), none, .mv (.t 8)⟩, ⟨(some 2), none, .mv (.t 9)⟩] (some ⟨[1,2], [], []⟩))
  (.seq (.reg false [⟨(some 10), none, .mv (.t 2)⟩, ⟨(some 11), none, .bin .eql (.t 10) (.v (.int .i64 (0)))⟩, ⟨(some 12), none, .mv (.t 11)⟩, ⟨(some 13), (some (12, true)), .mv (.t 1)⟩, ⟨(some 14), (some (12, true)), .build [(.int .i64 (0)), (.int .i64 (0))] [(0, 1, (.v (.int .i64 (3)))), (1, 1, (.v (.int .i64 (9))))]⟩, ⟨(some 15), (some (12, true)), .bslice 2 1 [(.t 14)]⟩, ⟨(some 16), (some (12, true)), .call (.f 30) [(.t 13), (.t 15)]⟩, ⟨(some 17), none, .pick (.t 12) (.t 16) (.v (.bool false))⟩, ⟨(some 0), none, .mv (.t 17)⟩] (some ⟨[0], [], []⟩))
  .ret)))
theorem c_batched : compileCode Try.prog Try.f31.ntmps (Try.f31.body.getD .skip) A_batched = some (C_batched, []) := by kernel_rfl
theorem r_batched : compileRes Try.prog Try.f31.results.toList = some [.t 0] := by kernel_rfl
theorem b_batched : Try.f31.body = some (Try.f31.body.getD .skip) := by kernel_rfl
theorem n_batched : (Try.f31.name == "runtime.NumGoroutine") = false := by kernel_rfl
theorem fc_batched {xt : Option (List Cel)} {args : List Val} {R : List Cel → Val → Prop} (hn : (if xt.isSome then 1 else 0) + args.length ≤ Try.f31.ntmps) (h : ex Try.prog C_batched [] (fpost xt [.t 0] R) (initSt xt args)) : FC Try.prog 31 xt args R :=
  fc_of_awp Try.func31 b_batched n_batched c_batched r_batched (of_decide_eq_true (by kernel_rfl)) hn h

def A_eqWin : List Ann := [⟨(some ⟨[0,1], [], []⟩), [], [], [], []⟩, ⟨(some ⟨[0,1,10], [], []⟩), [], [], [], []⟩, ⟨(some ⟨[4], [], []⟩), [], [], [], []⟩, ⟨(some ⟨[0,1,12,13], [], []⟩), [], [], [], []⟩, ⟨(some ⟨[0,1,12,13,14], [], []⟩), [], [], [], []⟩, ⟨(some ⟨[0,1,5,12,13], [], []⟩), [], [], [], []⟩, ⟨(some ⟨[0,1,12,13,24], [], []⟩), [], [], [], []⟩, ⟨(some ⟨[4], [], []⟩), [], [], [], []⟩, ⟨(some ⟨[0,1,12,13], [], []⟩), [], [], [], []⟩, ⟨(some ⟨[4], [], []⟩), [], [], [], []⟩]
def C_eqWin : AC := (.seq (.reg false [⟨(some 4), none, .mv (.v (.bool false))⟩] (some ⟨[0,1], [], []⟩))
  (.seq (.seq (.reg false [⟨(some 6), none, .mv (.t 0)⟩, ⟨(some 7), none, .len (.t 6)⟩, ⟨(some 8), none, .mv (.t 1)⟩, ⟨(some 9), none, .len (.t 8)⟩, ⟨(some 10), none, .bin .neq (.t 7) (.t 9)⟩] (some ⟨[0,1,10], [], []⟩))
  (.cond (.t 10)
  (.seq (.reg false [⟨(some 4), none, .mv (.v (.bool false))⟩] (some ⟨[4], [], []⟩))
  .ret)
  .skip))
  (.seq (.seq (.reg false [⟨(some 11), none, .mv (.t 0)⟩, ⟨(some 12), none, .len (.t 11)⟩, ⟨(some 13), none, .mv (.v (.int .i64 (0)))⟩] (some ⟨[0,1,12,13], [], []⟩))
  (.block 0 (.loop (.seq (.reg false [⟨(some 14), none, .bin .lss (.t 13) (.t 12)⟩] (some ⟨[0,1,12,13,14], [], []⟩))
  (.seq (.cond (.t 14)
  .skip
  (.exit 0))
  (.seq (.block 1 (.seq (.reg false [⟨(some 15), none, .mv (.t 13)⟩, ⟨(some 5), none, .mv (.t 15)⟩] (some ⟨[0,1,5,12,13], [], []⟩))
  (.seq (.reg true [⟨(some 16), none, .mv (.t 0)⟩, ⟨(some 17), none, .mv (.t 5)⟩, ⟨(some 18), none, .iadr 2 (.t 16) (.t 17)⟩, ⟨(some 19), none, .load true 2 (.t 18)⟩, ⟨(some 20), none, .mv (.t 1)⟩, ⟨(some 21), none, .mv (.t 5)⟩, ⟨(some 22), none, .iadr 2 (.t 20) (.t 21)⟩, ⟨(some 23), none, .load true 2 (.t 22)⟩, ⟨(some 24), none, .eqs true true [.i .i64, .i .i64] (.t 19) (.t 23)⟩] (some ⟨[0,1,12,13,24], [], []⟩))
  (.cond (.t 24)
  (.seq (.reg false [⟨(some 4), none, .mv (.v (.bool false))⟩] (some ⟨[4], [], []⟩))
  .ret)
  .skip))))
  (.reg false [⟨(some 25), none, .bin .add (.t 13) (.v (.int .i64 (1)))⟩, ⟨(some 13), none, .mv (.t 25)⟩] (some ⟨[0,1,12,13], [], []⟩))))))))
  (.seq (.reg false [⟨(some 4), none, .mv (.v (.bool true))⟩] (some ⟨[4], [], []⟩))
  .ret))))
theorem c_eqWin : compileCode Try.prog Try.f30.ntmps (Try.f30.body.getD .skip) A_eqWin = some (C_eqWin, []) := by kernel_rfl
theorem r_eqWin : compileRes Try.prog Try.f30.results.toList = some [.t 4] := by kernel_rfl
theorem b_eqWin : Try.f30.body = some (Try.f30.body.getD .skip) := by kernel_rfl
theorem n_eqWin : (Try.f30.name == "runtime.NumGoroutine") = false := by kernel_rfl
theorem fc_eqWin {xt : Option (List Cel)} {args : List Val} {R : List Cel → Val → Prop} (hn : (if xt.isSome then 1 else 0) + args.length ≤ Try.f30.ntmps) (h : ex Try.prog C_eqWin [] (fpost xt [.t 4] R) (initSt xt args)) : FC Try.prog 30 xt args R :=
  fc_of_awp Try.func30 b_eqWin n_eqWin c_eqWin r_eqWin (of_decide_eq_true (by kernel_rfl)) hn h

def A_pco : List Ann := [⟨(some ⟨[0], [], []⟩), [], [], [], []⟩, ⟨(some ⟨[3,30], [30], []⟩), [], [], [], []⟩, ⟨(some ⟨[3,4,5,6,7,30], [5,30], []⟩), [], [], [], []⟩, ⟨(some ⟨[4,5,6,7,8,9], [5], []⟩), [], [], [], []⟩, ⟨(some ⟨[4,5,6,7,8,9,10,11,12], [5], []⟩), [], [], [], []⟩, ⟨(some ⟨[4,5,6,7,8,9,10,11,12,13,14,15], [5], []⟩), [], [], [], []⟩, ⟨(some ⟨[4,5,6,7,8,9,10,11,12,13,14,15,16,17,18], [5], []⟩), [], [], [], []⟩, ⟨(some ⟨[4,5,6,7,8,9,10,11,12,13,14,15,16,17,18,19], [5], []⟩), [], [], [], []⟩, ⟨(some ⟨[4,5,6,7,8,9,10,11,12,13,14,15,16,17,18,19,20], [5], []⟩), [], [], [], []⟩, ⟨(some ⟨[4,5,6,7,8,9,10,11,12,13,14,15,16,17,18,19,20,21], [5], []⟩), [], [], [], []⟩, ⟨(some ⟨[4,5,6,7,8,9,10,11,12,13,14,15,16,17,18,19,20,21,22], [5], []⟩), [], [], [(22, 1)], []⟩, ⟨(some ⟨[4,5,6,7,8,9,10,11,12,13,14,15,16,17,18,19,20,21,22,23,24,25,26,27], [5], []⟩), [], [], [], []⟩, ⟨(some ⟨[4,5,6,7,8,9,10,11,12,13,14,15,16,17,18,19,20,21,22,23,24,25,26,27,103], [5], []⟩), [], [], [], []⟩, ⟨(some ⟨[4,7,8,9,10,11,12,13,14,15,16,17,18,19,20,21,22,23,24,25,26,27], [], []⟩), [], [], [], []⟩, ⟨(some ⟨[4,7,8,9,10,11,12,13,14,15,16,17,18,19,20,21,22,23,24,25,26,27,112], [], []⟩), [], [], [], []⟩, ⟨(some ⟨[4,7,8,10,11,12,13,14,15,16,17,18,19,20,21,22,23,24,25,26,27], [], []⟩), [], [], [], []⟩, ⟨(some ⟨[4,7,8,10,11,12,13,14,15,16,17,18,19,20,21,22,23,24,25,26,27,120], [], []⟩), [], [], [], []⟩, ⟨(some ⟨[10,11,12,13,14,15,16,17,18,19,20,21,22,23,24,25,26,27], [], []⟩), [], [], [], []⟩, ⟨(some ⟨[2], [], []⟩), [], [], [], []⟩]
def C_pco : AC := (.seq (.reg false [⟨(some 2), none, .mv (.v (.bool false))⟩] (some ⟨[0], [], []⟩))
  (.seq (.reg false [⟨(some 28), none, .mv (.t 0)⟩, ⟨(some 29), none, .build [(.slice none 0 0), (.int .i64 (0))] [(0, 1, (.t 28))]⟩, ⟨(some 30), none, .box (.t 29)⟩, ⟨(some 3), none, .mv (.t 30)⟩] (some ⟨[3,30], [30], []⟩))
  (.seq (.reg false [⟨(some 31), none, .mv (.t 3)⟩, ⟨(some 32), none, .callx (.f 16) [(.t 31), (.v (.int .i64 (10)))]⟩, ⟨(some 33), none, .mv (.t 3)⟩, ⟨(some 34), none, .callx (.f 61) [(.t 33)]⟩, ⟨(some 35), none, .mv (.t 3)⟩, ⟨(some 36), none, .bslice 1 5 [(.v (.int .i64 (1))), (.v (.int .i64 (2))), (.v (.int .i64 (5))), (.v (.int .i64 (0))), (.v (.int .i64 (1001)))]⟩, ⟨(some 37), none, .callx (.f 17) [(.t 35), (.t 36)]⟩, ⟨(some 38), none, .mv (.t 3)⟩, ⟨(some 39), none, .callx (.f 18) [(.t 38)]⟩, ⟨(some 5), none, .alloc [(.int .i64 (0)), (.int .i64 (0))]⟩, ⟨(some 4), none, .mv (.t 32)⟩, ⟨none, none, .store 2 (.t 5) (.t 34)⟩, ⟨(some 6), none, .mv (.t 37)⟩, ⟨(some 7), none, .mv (.t 39)⟩] (some ⟨[3,4,5,6,7,30], [5,30], []⟩))
  (.seq (.reg false [⟨(some 40), none, .mv (.t 3)⟩, ⟨(some 41), none, .mv (.t 3)⟩, ⟨(some 42), none, .bslice 1 4 [(.v (.int .i64 (1))), (.v (.int .i64 (2))), (.v (.int .i64 (3))), (.v (.int .i64 (3)))]⟩, ⟨(some 43), none, .callx (.f 17) [(.t 41), (.t 42)]⟩, ⟨(some 44), none, .callx (.f 62) [(.t 40), (.t 43)]⟩, ⟨(some 45), none, .mv (.t 3)⟩, ⟨(some 46), none, .mv (.t 3)⟩, ⟨(some 47), none, .bslice 1 3 [(.v (.int .i64 (2))), (.v (.int .i64 (3))), (.v (.int .i64 (3)))]⟩, ⟨(some 48), none, .callx (.f 17) [(.t 46), (.t 47)]⟩, ⟨(some 49), none, .callx (.f 62) [(.t 45), (.t 48)]⟩, ⟨(some 8), none, .mv (.t 44)⟩, ⟨(some 9), none, .mv (.t 49)⟩] (some ⟨[4,5,6,7,8,9], [5], []⟩))
  (.seq (.reg false [⟨(some 51), none, .mv (.t 4)⟩, ⟨(some 52), none, .load true 2 (.t 5)⟩, ⟨(some 53), none, .mv (.t 6)⟩, ⟨(some 54), none, .call (.f 63) [(.t 51), (.t 52), (.t 53)]⟩, ⟨(some 50), none, .mv (.t 54)⟩, ⟨(some 55), none, .extr (.t 50) 0⟩, ⟨(some 56), none, .extr (.t 50) 1⟩, ⟨(some 57), none, .extr (.t 50) 2⟩, ⟨(some 10), none, .mv (.t 55)⟩, ⟨(some 11), none, .mv (.t 56)⟩, ⟨(some 12), none, .mv (.t 57)⟩] (some ⟨[4,5,6,7,8,9,10,11,12], [5], []⟩))
  (.seq (.reg false [⟨(some 59), none, .mv (.t 8)⟩, ⟨(some 60), none, .mv (.t 9)⟩, ⟨(some 61), none, .call (.f 64) [(.t 59), (.t 60)]⟩, ⟨(some 58), none, .mv (.t 61)⟩, ⟨(some 62), none, .extr (.t 58) 0⟩, ⟨(some 63), none, .extr (.t 58) 1⟩, ⟨(some 64), none, .extr (.t 58) 2⟩, ⟨(some 13), none, .mv (.t 62)⟩, ⟨(some 14), none, .mv (.t 63)⟩, ⟨(some 15), none, .mv (.t 64)⟩] (some ⟨[4,5,6,7,8,9,10,11,12,13,14,15], [5], []⟩))
  (.seq (.reg false [⟨(some 66), none, .mv (.t 4)⟩, ⟨(some 67), none, .mv (.t 7)⟩, ⟨(some 68), none, .mv (.t 8)⟩, ⟨(some 69), none, .call (.f 65) [(.t 66), (.t 67), (.t 68)]⟩, ⟨(some 65), none, .mv (.t 69)⟩, ⟨(some 70), none, .extr (.t 65) 0⟩, ⟨(some 71), none, .extr (.t 65) 1⟩, ⟨(some 72), none, .extr (.t 65) 2⟩, ⟨(some 16), none, .mv (.t 70)⟩, ⟨(some 17), none, .mv (.t 71)⟩, ⟨(some 18), none, .mv (.t 72)⟩] (some ⟨[4,5,6,7,8,9,10,11,12,13,14,15,16,17,18], [5], []⟩))
  (.seq (.reg true [⟨(some 73), none, .mv (.t 4)⟩, ⟨(some 74), none, .call (.f 26) [(.t 73)]⟩, ⟨(some 75), none, .load true 2 (.t 5)⟩, ⟨(some 76), none, .bslice 2 1 [(.t 75)]⟩, ⟨(some 77), none, .call (.f 20) [(.t 76)]⟩, ⟨(some 78), none, .mv (.t 6)⟩, ⟨(some 79), none, .call (.f 66) [(.t 78)]⟩, ⟨(some 80), none, .bslice 1 3 [(.t 74), (.t 77), (.t 79)]⟩, ⟨(some 81), none, .call (.f 25) [(.t 80)]⟩, ⟨(some 19), none, .mv (.t 81)⟩] (some ⟨[4,5,6,7,8,9,10,11,12,13,14,15,16,17,18,19], [5], []⟩))
  (.seq (.reg false [⟨(some 82), none, .mv (.t 8)⟩, ⟨(some 83), none, .call (.f 67) [(.t 82)]⟩, ⟨(some 84), none, .mv (.t 9)⟩, ⟨(some 85), none, .call (.f 67) [(.t 84)]⟩, ⟨(some 86), none, .mv (.t 8)⟩, ⟨(some 87), none, .len (.t 86)⟩, ⟨(some 88), none, .mv (.t 9)⟩, ⟨(some 89), none, .len (.t 88)⟩, ⟨(some 90), none, .bin .neq (.t 87) (.t 89)⟩, ⟨(some 91), none, .call (.f 68) [(.t 90), (.v (.int .i64 (3)))]⟩, ⟨(some 92), none, .bslice 1 3 [(.t 83), (.t 85), (.t 91)]⟩, ⟨(some 93), none, .call (.f 25) [(.t 92)]⟩, ⟨(some 20), none, .mv (.t 93)⟩] (some ⟨[4,5,6,7,8,9,10,11,12,13,14,15,16,17,18,19,20], [5], []⟩))
  (.seq (.reg false [⟨(some 94), none, .mv (.t 4)⟩, ⟨(some 95), none, .call (.f 26) [(.t 94)]⟩, ⟨(some 96), none, .mv (.t 7)⟩, ⟨(some 97), none, .call (.f 20) [(.t 96)]⟩, ⟨(some 98), none, .mv (.t 8)⟩, ⟨(some 99), none, .call (.f 67) [(.t 98)]⟩, ⟨(some 100), none, .bslice 1 3 [(.t 95), (.t 97), (.t 99)]⟩, ⟨(some 101), none, .call (.f 25) [(.t 100)]⟩, ⟨(some 21), none, .mv (.t 101)⟩] (some ⟨[4,5,6,7,8,9,10,11,12,13,14,15,16,17,18,19,20,21], [5], []⟩))
  (.seq (.seq (.reg false [⟨(some 22), none, .mv (.v (.slice none 0 0))⟩] (some ⟨[4,5,6,7,8,9,10,11,12,13,14,15,16,17,18,19,20,21,22], [5], []⟩))
  (.ty 22 1))
  (.seq (.reg false [⟨(some 23), none, .mv (.v (.bool false))⟩, ⟨(some 24), none, .mv (.v (.bool false))⟩, ⟨(some 25), none, .mv (.v (.int .i64 (0)))⟩, ⟨(some 26), none, .mv (.v (.int .i64 (0)))⟩, ⟨(some 27), none, .mv (.v (.int .i64 (0)))⟩] (some ⟨[4,5,6,7,8,9,10,11,12,13,14,15,16,17,18,19,20,21,22,23,24,25,26,27], [5], []⟩))
  (.seq (.seq (.reg false [⟨(some 102), none, .mv (.t 19)⟩, ⟨(some 103), none, .bin .eql (.t 102) (.v (.int .i64 (0)))⟩] (some ⟨[4,5,6,7,8,9,10,11,12,13,14,15,16,17,18,19,20,21,22,23,24,25,26,27,103], [5], []⟩))
  (.cond (.t 103)
  (.reg false [⟨(some 105), none, .mv (.t 4)⟩, ⟨(some 106), none, .load true 2 (.t 5)⟩, ⟨(some 107), none, .mv (.t 6)⟩, ⟨(some 108), none, .call (.f 69) [(.t 105), (.t 106), (.t 107)]⟩, ⟨(some 104), none, .mv (.t 108)⟩, ⟨(some 109), none, .extr (.t 104) 0⟩, ⟨(some 110), none, .extr (.t 104) 1⟩, ⟨(some 22), none, .mv (.t 109)⟩, ⟨(some 23), none, .mv (.t 110)⟩] (some ⟨[4,7,8,9,10,11,12,13,14,15,16,17,18,19,20,21,22,23,24,25,26,27], [], []⟩))
  .skip))
  (.seq (.seq (.reg false [⟨(some 111), none, .mv (.t 20)⟩, ⟨(some 112), none, .bin .eql (.t 111) (.v (.int .i64 (0)))⟩] (some ⟨[4,7,8,9,10,11,12,13,14,15,16,17,18,19,20,21,22,23,24,25,26,27,112], [], []⟩))
  (.cond (.t 112)
  (.reg false [⟨(some 114), none, .mv (.t 8)⟩, ⟨(some 115), none, .mv (.t 9)⟩, ⟨(some 116), none, .call (.f 70) [(.t 114), (.t 115)]⟩, ⟨(some 113), none, .mv (.t 116)⟩, ⟨(some 117), none, .extr (.t 113) 0⟩, ⟨(some 118), none, .extr (.t 113) 1⟩, ⟨(some 25), none, .mv (.t 117)⟩, ⟨(some 26), none, .mv (.t 118)⟩] (some ⟨[4,7,8,10,11,12,13,14,15,16,17,18,19,20,21,22,23,24,25,26,27], [], []⟩))
  .skip))
  (.seq (.seq (.reg false [⟨(some 119), none, .mv (.t 21)⟩, ⟨(some 120), none, .bin .eql (.t 119) (.v (.int .i64 (0)))⟩] (some ⟨[4,7,8,10,11,12,13,14,15,16,17,18,19,20,21,22,23,24,25,26,27,120], [], []⟩))
  (.cond (.t 120)
  (.reg false [⟨(some 122), none, .mv (.t 4)⟩, ⟨(some 123), none, .mv (.t 7)⟩, ⟨(some 124), none, .mv (.t 8)⟩, ⟨(some 125), none, .call (.f 71) [(.t 122), (.t 123), (.t 124)]⟩, ⟨(some 121), none, .mv (.t 125)⟩, ⟨(some 126), none, .extr (.t 121) 0⟩, ⟨(some 127), none, .extr (.t 121) 1⟩, ⟨(some 27), none, .mv (.t 126)⟩, ⟨(some 24), none, .mv (.t 127)⟩] (some ⟨[10,11,12,13,14,15,16,17,18,19,20,21,22,23,24,25,26,27], [], []⟩))
  .skip))
  (.seq (.reg false [⟨(some 128), none, .mv (.t 12)⟩, ⟨(some 129), none, .mv (.t 19)⟩, ⟨(some 130), none, .bin .eql (.t 128) (.t 129)⟩, ⟨(some 131), none, .mv (.t 130)⟩, ⟨(some 132), (some (131, true)), .mv (.t 10)⟩, ⟨(some 133), (some (131, true)), .mv (.t 22)⟩, ⟨(some 134), (some (131, true)), .call (.f 72) [(.t 132), (.t 133)]⟩, ⟨(some 135), none, .pick (.t 131) (.t 134) (.v (.bool false))⟩, ⟨(some 136), none, .mv (.t 135)⟩, ⟨(some 137), (some (136, true)), .mv (.t 11)⟩, ⟨(some 138), (some (136, true)), .mv (.t 23)⟩, ⟨(some 139), (some (136, true)), .eqs false false [.b] (.t 137) (.t 138)⟩, ⟨(some 140), none, .pick (.t 136) (.t 139) (.v (.bool false))⟩, ⟨(some 141), none, .mv (.t 140)⟩, ⟨(some 142), (some (141, true)), .mv (.t 15)⟩, ⟨(some 143), (some (141, true)), .mv (.t 20)⟩, ⟨(some 144), (some (141, true)), .bin .eql (.t 142) (.t 143)⟩, ⟨(some 145), none, .pick (.t 141) (.t 144) (.v (.bool false))⟩, ⟨(some 146), none, .mv (.t 145)⟩, ⟨(some 147), (some (146, true)), .mv (.t 13)⟩, ⟨(some 148), (some (146, true)), .mv (.t 25)⟩, ⟨(some 149), (some (146, true)), .bin .eql (.t 147) (.t 148)⟩, ⟨(some 150), none, .pick (.t 146) (.t 149) (.v (.bool false))⟩, ⟨(some 151), none, .mv (.t 150)⟩, ⟨(some 152), (some (151, true)), .mv (.t 14)⟩, ⟨(some 153), (some (151, true)), .mv (.t 26)⟩, ⟨(some 154), (some (151, true)), .bin .eql (.t 152) (.t 153)⟩, ⟨(some 155), none, .pick (.t 151) (.t 154) (.v (.bool false))⟩, ⟨(some 156), none, .mv (.t 155)⟩, ⟨(some 157), (some (156, true)), .mv (.t 18)⟩, ⟨(some 158), (some (156, true)), .mv (.t 21)⟩, ⟨(some 159), (some (156, true)), .bin .eql (.t 157) (.t 158)⟩, ⟨(some 160), none, .pick (.t 156) (.t 159) (.v (.bool false))⟩, ⟨(some 161), none, .mv (.t 160)⟩, ⟨(some 162), (some (161, true)), .mv (.t 16)⟩, ⟨(some 163), (some (161, true)), .mv (.t 27)⟩, ⟨(some 164), (some (161, true)), .bin .eql (.t 162) (.t 163)⟩, ⟨(some 165), none, .pick (.t 161) (.t 164) (.v (.bool false))⟩, ⟨(some 166), none, .mv (.t 165)⟩, ⟨(some 167), (some (166, true)), .mv (.t 17)⟩, ⟨(some 168), (some (166, true)), .mv (.t 24)⟩, ⟨(some 169), (some (166, true)), .eqs false false [.b] (.t 167) (.t 168)⟩, ⟨(some 170), none, .pick (.t 166) (.t 169) (.v (.bool false))⟩, ⟨(some 171), none, .mv (.t 170)⟩, ⟨(some 172), (some (171, true)), .call (.f 31) []⟩, ⟨(some 173), none, .pick (.t 171) (.t 172) (.v (.bool false))⟩, ⟨(some 2), none, .mv (.t 173)⟩] (some ⟨[2], [], []⟩))
  .ret))))))))))))))))
theorem c_pco : compileCode Try.prog Try.f7.ntmps (Try.f7.body.getD .skip) A_pco = some (C_pco, []) := by kernel_rfl
theorem r_pco : compileRes Try.prog Try.f7.results.toList = some [.t 2] := by kernel_rfl
theorem b_pco : Try.f7.body = some (Try.f7.body.getD .skip) := by kernel_rfl
theorem n_pco : (Try.f7.name == "runtime.NumGoroutine") = false := by kernel_rfl
theorem fc_pco {xt : Option (List Cel)} {args : List Val} {R : List Cel → Val → Prop} (hn : (if xt.isSome then 1 else 0) + args.length ≤ Try.f7.ntmps) (h : ex Try.prog C_pco [] (fpost xt [.t 2] R) (initSt xt args)) : FC Try.prog 7 xt args R :=
  fc_of_awp Try.func7 b_pco n_pco c_pco r_pco (of_decide_eq_true (by kernel_rfl)) hn h


def eqWSt (fr fr' : Bool) (l : List (Int × Int)) (i : Int) : AS := ⟨tabV [(0, frsV fr l), (1, frsV fr' l), (12, iv l.length), (13, iv i)], tabO [], tabO []⟩
theorem eqWin_fc (fr fr' : Bool) (l : List (Int × Int)) (hl : l.length ≤ 4611686018427387904) : FC Try.prog 30 none [frsV fr l, frsV fr' l] (fun _ r => r = bv true) := by
  refine fc_eqWin (by simp +arith) ?_
  unfold C_eqWin
  simp (maxSteps := 1000000) (disch := omega) only [go_sem, eq_self, decide_true, decide_false, not_true_eq_false, not_false_eq_true, reduceIte, reduceCtorEq, Nat.reduceEqDiff, Nat.reduceAdd, Nat.reduceSub, Nat.reduceLeDiff]
  refine ex_loop1 (eqWSt fr fr' l) (fun i => 0 ≤ i ∧ i ≤ l.length) (fun i => (l.length - i).toNat) 0 ⟨by omega, by omega⟩ rfl ?_
  rintro i ⟨g1, g2⟩
  unfold eqWSt
  by_cases hi : i < l.length
  · simp (maxSteps := 1000000) (disch := omega) only [go_sem, eq_self, decide_true, decide_false, not_true_eq_false, not_false_eq_true, reduceIte, reduceCtorEq, Nat.reduceEqDiff, Nat.reduceAdd, Nat.reduceSub, Nat.reduceLeDiff]
    exact ⟨_, rfl, ⟨by omega, by omega⟩, by omega⟩
  · simp (maxSteps := 1000000) (disch := omega) only [go_sem, eq_self, decide_true, decide_false, not_true_eq_false, not_false_eq_true, reduceIte, reduceCtorEq, Nat.reduceEqDiff, Nat.reduceAdd, Nat.reduceSub, Nat.reduceLeDiff]
theorem batched_fc : FC Try.prog 31 none [] (fun _ r => r = bv true) := by
  refine fc_batched (by simp +arith) ?_
  unfold C_batched
  simp (maxSteps := 1000000) (disch := omega) only [go_sem, eq_self, decide_true, decide_false, not_true_eq_false, not_false_eq_true, reduceIte, reduceCtorEq, Nat.reduceEqDiff, Nat.reduceAdd, Nat.reduceSub, Nat.reduceLeDiff]
  refine CALL_det (frames_fc [⟨3, 6, 0⟩] (by simp) 5 5 0 0 9) (.inl rfl) ?_
  have e3 : frmSp [⟨3, 6, 0⟩] 5 5 0 0 9 = ([(3, 9)], 0) := by kernel_rfl
  rw [e3]
  simp (maxSteps := 1000000) (disch := omega) only [go_sem, eq_self, decide_true, decide_false, not_true_eq_false, not_false_eq_true, reduceIte, reduceCtorEq, Nat.reduceEqDiff, Nat.reduceAdd, Nat.reduceSub, Nat.reduceLeDiff]
  refine CALL_det (eqWin_fc false false [(3, 9)] (by simp)) (.inl rfl) ?_
  simp (maxSteps := 1000000) (disch := omega) only [go_sem, eq_self, decide_true, decide_false, not_true_eq_false, not_false_eq_true, reduceIte, reduceCtorEq, Nat.reduceEqDiff, Nat.reduceAdd, Nat.reduceSub, Nat.reduceLeDiff]
def oneF (c : List Smp) (f t n : Int) : Int := orSp [serFault c, w1F f t, if 1 ≤ n ∧ n ≤ 1000 then 0 else 1]
def twoF (a b : List Int) : Int := orSp [pfF a, pfF b, if (a.length : Int) ≠ b.length then 3 else 0]
theorem or_ne {a : Int} (h : ¬a = 0) (l : List Int) : orSp (a :: l) = a := by rw [orSp, if_pos h]
theorem or_z (l : List Int) : orSp (0 :: l) = orSp l := by rw [orSp, if_neg (by simp)]
theorem or_1 (a : Int) : orSp [a] = a := by rw [orSp]; split <;> simp_all [orSp]
theorem pf_one {c : List Smp} {f t n : Int} (h : oneF c f t n = 0) : (serFault c = 0 ∧ w1F f t = 0 ∧ 1 ≤ n ∧ n ≤ 1000) ∧ pfSp c f t n = ((prSp c f t n).1, (prSp c f t n).2, 0) := by
  obtain ⟨h1, h2, h3⟩ := or3_z h
  have h4 : 1 ≤ n ∧ n ≤ 1000 := by
    rcases Decidable.em (1 ≤ n ∧ n ≤ 1000) with h4 | h4
    · exact h4
    · rw [if_neg h4] at h3; omega
  refine ⟨⟨h1, h2, h4⟩, ?_⟩
  unfold pfSp
  rw [h1, h2, if_neg (by decide), if_neg (by omega)]
theorem pf_bad {c : List Smp} {f t n : Int} (h : ¬oneF c f t n = 0) : pfSp c f t n = ([], false, oneF c f t n) := by
  unfold pfSp oneF at *
  by_cases h1 : serFault c = 0
  · by_cases h2 : w1F f t = 0
    · by_cases h3 : 1 ≤ n ∧ n ≤ 1000
      · rw [h1, h2, if_pos h3] at h; exact absurd rfl h
      · rw [h1, h2, if_neg h3, if_neg (by decide), if_pos (by omega)]; rfl
    · rw [h1, or_z, or_z, or_ne h2, or_ne h2, if_pos h2]
  · rw [or_ne h1, or_ne h1, if_pos h1]
theorem dp_two {a b : List Int} (h : twoF a b = 0) : (pfF a = 0 ∧ pfF b = 0 ∧ a.length = b.length) ∧ dpSp a b = ((devSp a b).1, (devSp a b).2, 0) := by
  obtain ⟨h1, h2, h3⟩ := or3_z h
  have h4 : a.length = b.length := by
    rcases Decidable.em (a.length = b.length) with h4 | h4
    · exact h4
    · rw [if_pos (by omega)] at h3; omega
  refine ⟨⟨h1, h2, h4⟩, ?_⟩
  unfold dpSp
  rw [h1, h2, if_neg (by decide), if_neg (by omega)]
theorem dp_bad {a b : List Int} (h : ¬twoF a b = 0) : dpSp a b = (0, 0, twoF a b) := by
  unfold dpSp twoF at *
  by_cases h1 : pfF a = 0
  · by_cases h2 : pfF b = 0
    · by_cases h3 : a.length = b.length
      · rw [h1, h2, if_neg (by omega)] at h; exact absurd rfl h
      · rw [h1, h2, if_pos (show (a.length : Int) ≠ b.length by omega), if_neg (by decide), if_pos h3]; rfl
    · rw [h1, or_z, or_z, or_ne h2, or_ne h2, if_pos h2]
  · rw [or_ne h1, or_ne h1, if_pos h1]
theorem cl_ok {c : List Smp} {fs : List (Int × Int)} {g : List Int} (h : orSp [serFault c, fwF fs, pfF g] = 0) : clSp c fs g = ((coSp c fs g).1, (coSp c fs g).2, 0) := by
  unfold clSp coSp
  rw [if_neg (by omega)]
  split <;> rfl
theorem cl_bad {c : List Smp} {fs : List (Int × Int)} {g : List Int} (h : ¬orSp [serFault c, fwF fs, pfF g] = 0) : clSp c fs g = (0, false, orSp [serFault c, fwF fs, pfF g]) := by
  unfold clSp; rw [if_pos h]
theorem pr_len2 (c : List Smp) (f t n : Int) (hn : 1 ≤ n ∧ n ≤ 1000) : (prSp c f t n).1.length ≤ 2000 := by
  unfold prSp; split
  · simp only [prL_len]; omega
  · simp
set_option maxHeartbeats 12000000 in
set_option maxRecDepth 8000 in
theorem pco_fc (L : List Int) (hL : ∀ x ∈ L, I64 x) (hl : L.length ≤ 9223372036854775807) : FC Try.prog 7 none [ints false L] (fun _ r => r = bv true) := by
  refine fc_pco (by simp +arith) ?_
  unfold C_pco
  simp (maxSteps := 1000000) (disch := omega) only [go_sem, eq_self, decide_true, decide_false, not_true_eq_false, not_false_eq_true, reduceIte, reduceCtorEq, Nat.reduceEqDiff, Nat.reduceAdd, Nat.reduceSub, Nat.reduceLeDiff]
  refine callx_gen (p := 0) (curve_fc 10 (by omega) (by omega)) hL hl (by omega) (by omega) ⟨_, [], by simp, by simp, rfl⟩ ?_
  rintro pa r ha1 ha2 ⟨c, hcl, hc64, rfl⟩
  refine ⟨rfl, ?_⟩
  unfold strm
  simp (maxSteps := 1000000) (disch := omega) only [go_sem, eq_self, decide_true, decide_false, not_true_eq_false, not_false_eq_true, reduceIte, reduceCtorEq, Nat.reduceEqDiff, Nat.reduceAdd, Nat.reduceSub, Nat.reduceLeDiff]
  refine callx_gen aspan_fc hL hl (by omega) (by omega) ⟨_, 0, 0, by simp [I64], by simp [I64], rfl⟩ ?_
  rintro pd r had hbd ⟨f, t, hf, ht, rfl⟩
  refine ⟨rfl, ?_⟩
  unfold strm
  simp (maxSteps := 1000000) (disch := omega) only [go_sem, eq_self, decide_true, decide_false, not_true_eq_false, not_false_eq_true, reduceIte, reduceCtorEq, Nat.reduceEqDiff, Nat.reduceAdd, Nat.reduceSub, Nat.reduceLeDiff]
  refine callx_gen (pick_fc false [1, 2, 5, 0, 1001] (by simp) (by simp)) hL hl (by omega) (by omega) ⟨_, 1, by simp, rfl⟩ ?_
  rintro pn r han hbn ⟨zn, hzn, rfl⟩
  refine ⟨rfl, ?_⟩
  unfold strm
  simp only [List.mem_cons, List.not_mem_nil, or_false] at hzn
  simp (maxSteps := 1000000) (disch := omega) only [go_sem, eq_self, decide_true, decide_false, not_true_eq_false, not_false_eq_true, reduceIte, reduceCtorEq, Nat.reduceEqDiff, Nat.reduceAdd, Nat.reduceSub, Nat.reduceLeDiff]
  refine callx_gen frameList_fc hL hl (by omega) (by omega) ⟨_, [], by simp, by simp, rfl⟩ ?_
  rintro pc r hc1 hc2 ⟨fs, hfl, hf64, rfl⟩
  refine ⟨rfl, ?_⟩
  unfold strm
  simp (maxSteps := 1000000) (disch := omega) only [go_sem, eq_self, decide_true, decide_false, not_true_eq_false, not_false_eq_true, reduceIte, reduceCtorEq, Nat.reduceEqDiff, Nat.reduceAdd, Nat.reduceSub, Nat.reduceLeDiff]
  refine callx_gen (pick_fc false [1, 2, 3, 3] (by simp) (by simp)) hL hl (by omega) (by omega) ⟨_, 1, by simp, rfl⟩ ?_
  rintro pu r hau hbu ⟨zu, hzu, rfl⟩
  refine ⟨rfl, ?_⟩
  unfold strm
  simp only [List.mem_cons, List.not_mem_nil, or_false] at hzu
  simp (maxSteps := 1000000) (disch := omega) only [go_sem, eq_self, decide_true, decide_false, not_true_eq_false, not_false_eq_true, reduceIte, reduceCtorEq, Nat.reduceEqDiff, Nat.reduceAdd, Nat.reduceSub, Nat.reduceLeDiff]
  refine callx_gen (profileList_fc zu (by omega)) hL hl (by omega) (by omega) ⟨_, List.replicate zu.toNat 0, by simp; omega, by intro x hx; rw [List.mem_replicate] at hx; rw [hx.2]; simp [I64], rfl⟩ ?_
  rintro pe r he1 he2 ⟨a, hal, ha64, rfl⟩
  refine ⟨rfl, ?_⟩
  unfold strm
  simp (maxSteps := 1000000) (disch := omega) only [go_sem, eq_self, decide_true, decide_false, not_true_eq_false, not_false_eq_true, reduceIte, reduceCtorEq, Nat.reduceEqDiff, Nat.reduceAdd, Nat.reduceSub, Nat.reduceLeDiff]
  refine callx_gen (pick_fc false [2, 3, 3] (by simp) (by simp)) hL hl (by omega) (by omega) ⟨_, 2, by simp, rfl⟩ ?_
  rintro pv r hav hbv ⟨zv, hzv, rfl⟩
  refine ⟨rfl, ?_⟩
  unfold strm
  simp only [List.mem_cons, List.not_mem_nil, or_false] at hzv
  simp (maxSteps := 1000000) (disch := omega) only [go_sem, eq_self, decide_true, decide_false, not_true_eq_false, not_false_eq_true, reduceIte, reduceCtorEq, Nat.reduceEqDiff, Nat.reduceAdd, Nat.reduceSub, Nat.reduceLeDiff]
  refine callx_gen (profileList_fc zv (by omega)) hL hl (by omega) (by omega) ⟨_, List.replicate zv.toNat 0, by simp; omega, by intro x hx; rw [List.mem_replicate] at hx; rw [hx.2]; simp [I64], rfl⟩ ?_
  rintro pg r hg1 hg2 ⟨b, hbl, hb64, rfl⟩
  refine ⟨rfl, ?_⟩
  unfold strm
  simp (maxSteps := 1000000) (disch := omega) only [go_sem, eq_self, decide_true, decide_false, not_true_eq_false, not_false_eq_true, reduceIte, reduceCtorEq, Nat.reduceEqDiff, Nat.reduceAdd, Nat.reduceSub, Nat.reduceLeDiff]
  refine CALL_det (profileP_fc c (by omega) f t zn) (.inl rfl) ?_
  simp (maxSteps := 1000000) (disch := omega) only [go_sem, eq_self, decide_true, decide_false, not_true_eq_false, not_false_eq_true, reduceIte, reduceCtorEq, Nat.reduceEqDiff, Nat.reduceAdd, Nat.reduceSub, Nat.reduceLeDiff]
  refine CALL_det (deviationP_fc a b (by omega) (by omega)) (.inl rfl) ?_
  simp (maxSteps := 1000000) (disch := omega) only [go_sem, eq_self, decide_true, decide_false, not_true_eq_false, not_false_eq_true, reduceIte, reduceCtorEq, Nat.reduceEqDiff, Nat.reduceAdd, Nat.reduceSub, Nat.reduceLeDiff]
  refine CALL_det (closest_fc c (by omega) fs (by omega) a (by omega)) (.inl rfl) ?_
  simp (maxSteps := 1000000) (disch := omega) only [go_sem, eq_self, decide_true, decide_false, not_true_eq_false, not_false_eq_true, reduceIte, reduceCtorEq, Nat.reduceEqDiff, Nat.reduceAdd, Nat.reduceSub, Nat.reduceLeDiff]
  refine CALL_det (seriesFault_fc c (by omega)) (.inl rfl) ?_
  simp (maxSteps := 1000000) (disch := omega) only [go_sem, eq_self, decide_true, decide_false, not_true_eq_false, not_false_eq_true, reduceIte, reduceCtorEq, Nat.reduceEqDiff, Nat.reduceAdd, Nat.reduceSub, Nat.reduceLeDiff]
  refine CALL_det (frameFault_fc [(f, t)] (by simp)) (.inl rfl) ?_
  rw [w1F_eq]
  simp (maxSteps := 1000000) (disch := omega) only [go_sem, eq_self, decide_true, decide_false, not_true_eq_false, not_false_eq_true, reduceIte, reduceCtorEq, Nat.reduceEqDiff, Nat.reduceAdd, Nat.reduceSub, Nat.reduceLeDiff]
  refine CALL_det (partsFault_fc zn) (.inl rfl) ?_
  simp (maxSteps := 1000000) (disch := omega) only [go_sem, eq_self, decide_true, decide_false, not_true_eq_false, not_false_eq_true, reduceIte, reduceCtorEq, Nat.reduceEqDiff, Nat.reduceAdd, Nat.reduceSub, Nat.reduceLeDiff]
  refine CALL_det (orE_fc false [serFault c, w1F f t, if 1 ≤ zn ∧ zn ≤ 1000 then 0 else 1] (by simp)) (.inl rfl) ?_
  have eone : orSp [serFault c, w1F f t, if 1 ≤ zn ∧ zn ≤ 1000 then 0 else 1] = oneF c f t zn := rfl
  rw [eone]
  simp (maxSteps := 1000000) (disch := omega) only [go_sem, eq_self, decide_true, decide_false, not_true_eq_false, not_false_eq_true, reduceIte, reduceCtorEq, Nat.reduceEqDiff, Nat.reduceAdd, Nat.reduceSub, Nat.reduceLeDiff]
  refine CALL_det (profileFault1_fc a (by omega)) (.inl rfl) ?_
  simp (maxSteps := 1000000) (disch := omega) only [go_sem, eq_self, decide_true, decide_false, not_true_eq_false, not_false_eq_true, reduceIte, reduceCtorEq, Nat.reduceEqDiff, Nat.reduceAdd, Nat.reduceSub, Nat.reduceLeDiff]
  refine CALL_det (profileFault1_fc b (by omega)) (.inl rfl) ?_
  simp (maxSteps := 1000000) (disch := omega) only [go_sem, eq_self, decide_true, decide_false, not_true_eq_false, not_false_eq_true, reduceIte, reduceCtorEq, Nat.reduceEqDiff, Nat.reduceAdd, Nat.reduceSub, Nat.reduceLeDiff]
  refine CALL_det (whenE_fc (decide ((a.length : Int) ≠ b.length)) 3) (.inl rfl) ?_
  simp (maxSteps := 1000000) (disch := omega) only [go_sem, eq_self, decide_true, decide_false, not_true_eq_false, not_false_eq_true, reduceIte, reduceCtorEq, Nat.reduceEqDiff, Nat.reduceAdd, Nat.reduceSub, Nat.reduceLeDiff]
  refine CALL_det (orE_fc false [pfF a, pfF b, if (a.length : Int) ≠ b.length then 3 else 0] (by simp)) (.inl rfl) ?_
  have etwo : orSp [pfF a, pfF b, if (a.length : Int) ≠ b.length then 3 else 0] = twoF a b := rfl
  rw [etwo]
  simp (maxSteps := 1000000) (disch := omega) only [go_sem, eq_self, decide_true, decide_false, not_true_eq_false, not_false_eq_true, reduceIte, reduceCtorEq, Nat.reduceEqDiff, Nat.reduceAdd, Nat.reduceSub, Nat.reduceLeDiff]
  refine CALL_det (seriesFault_fc c (by omega)) (.inl rfl) ?_
  simp (maxSteps := 1000000) (disch := omega) only [go_sem, eq_self, decide_true, decide_false, not_true_eq_false, not_false_eq_true, reduceIte, reduceCtorEq, Nat.reduceEqDiff, Nat.reduceAdd, Nat.reduceSub, Nat.reduceLeDiff]
  refine CALL_det (frameFault_fc fs (by omega)) (.inl rfl) ?_
  simp (maxSteps := 1000000) (disch := omega) only [go_sem, eq_self, decide_true, decide_false, not_true_eq_false, not_false_eq_true, reduceIte, reduceCtorEq, Nat.reduceEqDiff, Nat.reduceAdd, Nat.reduceSub, Nat.reduceLeDiff]
  refine CALL_det (profileFault1_fc a (by omega)) (.inl rfl) ?_
  simp (maxSteps := 1000000) (disch := omega) only [go_sem, eq_self, decide_true, decide_false, not_true_eq_false, not_false_eq_true, reduceIte, reduceCtorEq, Nat.reduceEqDiff, Nat.reduceAdd, Nat.reduceSub, Nat.reduceLeDiff]
  refine CALL_det (orE_fc false [serFault c, fwF fs, pfF a] (by simp)) (.inl rfl) ?_
  by_cases h1 : oneF c f t zn = 0
  · obtain ⟨o1, e1⟩ := pf_one h1
    rw [h1, e1]
    by_cases h2 : twoF a b = 0
    · obtain ⟨o2, e2⟩ := dp_two h2
      rw [h2, e2]
      by_cases h3 : orSp [serFault c, fwF fs, pfF a] = 0
      · have o3 := or3_z h3
        rw [h3, cl_ok h3]
        simp (maxSteps := 1000000) (disch := omega) only [go_sem, eq_self, decide_true, decide_false, not_true_eq_false, not_false_eq_true, reduceIte, reduceCtorEq, Nat.reduceEqDiff, Nat.reduceAdd, Nat.reduceSub, Nat.reduceLeDiff]
        refine CALL_det (profileOf_fc c (good_of o1.1) f t zn (w1F_ok o1.2.1) o1.2.2) (.inl rfl) ?_
        simp (maxSteps := 1000000) (disch := omega) only [go_sem, eq_self, decide_true, decide_false, not_true_eq_false, not_false_eq_true, reduceIte, reduceCtorEq, Nat.reduceEqDiff, Nat.reduceAdd, Nat.reduceSub, Nat.reduceLeDiff]
        refine CALL_det (deviationOf_fc a b (by have := (pfF_ok o2.1).1; omega) (by have := (pfF_ok o2.1).2.1; omega) o2.2.2 (pf_okI o2.1) (pf_okI o2.2.1)) (.inl rfl) ?_
        simp (maxSteps := 1000000) (disch := omega) only [go_sem, eq_self, decide_true, decide_false, not_true_eq_false, not_false_eq_true, reduceIte, reduceCtorEq, Nat.reduceEqDiff, Nat.reduceAdd, Nat.reduceSub, Nat.reduceLeDiff]
        refine CALL_det (closestOf_fc c o3.1 fs o3.2.1 a o3.2.2) (.inl rfl) ?_
        simp (maxSteps := 1000000) (disch := omega) only [go_sem, eq_self, decide_true, decide_false, not_true_eq_false, not_false_eq_true, reduceIte, reduceCtorEq, Nat.reduceEqDiff, Nat.reduceAdd, Nat.reduceSub, Nat.reduceLeDiff]
        refine CALL_det (eqInts_fc _ _ (prSp c f t zn).1 (by have := pr_len2 c f t zn o1.2.2; omega)) (.inl rfl) ?_
        simp (maxSteps := 1000000) (disch := omega) only [go_sem, eq_self, decide_true, decide_false, not_true_eq_false, not_false_eq_true, reduceIte, reduceCtorEq, Nat.reduceEqDiff, Nat.reduceAdd, Nat.reduceSub, Nat.reduceLeDiff]
        refine CALL_det (batched_fc) (.inl rfl) ?_
        simp (maxSteps := 1000000) (disch := omega) only [go_sem, eq_self, decide_true, decide_false, not_true_eq_false, not_false_eq_true, reduceIte, reduceCtorEq, Nat.reduceEqDiff, Nat.reduceAdd, Nat.reduceSub, Nat.reduceLeDiff]
      · rw [cl_bad h3]
        simp (maxSteps := 1000000) (disch := omega) only [go_sem, eq_self, decide_true, decide_false, not_true_eq_false, not_false_eq_true, reduceIte, reduceCtorEq, Nat.reduceEqDiff, Nat.reduceAdd, Nat.reduceSub, Nat.reduceLeDiff]
        refine CALL_det (profileOf_fc c (good_of o1.1) f t zn (w1F_ok o1.2.1) o1.2.2) (.inl rfl) ?_
        simp (maxSteps := 1000000) (disch := omega) only [go_sem, eq_self, decide_true, decide_false, not_true_eq_false, not_false_eq_true, reduceIte, reduceCtorEq, Nat.reduceEqDiff, Nat.reduceAdd, Nat.reduceSub, Nat.reduceLeDiff]
        refine CALL_det (deviationOf_fc a b (by have := (pfF_ok o2.1).1; omega) (by have := (pfF_ok o2.1).2.1; omega) o2.2.2 (pf_okI o2.1) (pf_okI o2.2.1)) (.inl rfl) ?_
        simp (maxSteps := 1000000) (disch := omega) only [go_sem, eq_self, decide_true, decide_false, not_true_eq_false, not_false_eq_true, reduceIte, reduceCtorEq, Nat.reduceEqDiff, Nat.reduceAdd, Nat.reduceSub, Nat.reduceLeDiff]
        refine CALL_det (eqInts_fc _ _ (prSp c f t zn).1 (by have := pr_len2 c f t zn o1.2.2; omega)) (.inl rfl) ?_
        simp (maxSteps := 1000000) (disch := omega) only [go_sem, eq_self, decide_true, decide_false, not_true_eq_false, not_false_eq_true, reduceIte, reduceCtorEq, Nat.reduceEqDiff, Nat.reduceAdd, Nat.reduceSub, Nat.reduceLeDiff]
        refine CALL_det (batched_fc) (.inl rfl) ?_
        simp (maxSteps := 1000000) (disch := omega) only [go_sem, eq_self, decide_true, decide_false, not_true_eq_false, not_false_eq_true, reduceIte, reduceCtorEq, Nat.reduceEqDiff, Nat.reduceAdd, Nat.reduceSub, Nat.reduceLeDiff]
    · rw [dp_bad h2]
      by_cases h3 : orSp [serFault c, fwF fs, pfF a] = 0
      · have o3 := or3_z h3
        rw [h3, cl_ok h3]
        simp (maxSteps := 1000000) (disch := omega) only [go_sem, eq_self, decide_true, decide_false, not_true_eq_false, not_false_eq_true, reduceIte, reduceCtorEq, Nat.reduceEqDiff, Nat.reduceAdd, Nat.reduceSub, Nat.reduceLeDiff]
        refine CALL_det (profileOf_fc c (good_of o1.1) f t zn (w1F_ok o1.2.1) o1.2.2) (.inl rfl) ?_
        simp (maxSteps := 1000000) (disch := omega) only [go_sem, eq_self, decide_true, decide_false, not_true_eq_false, not_false_eq_true, reduceIte, reduceCtorEq, Nat.reduceEqDiff, Nat.reduceAdd, Nat.reduceSub, Nat.reduceLeDiff]
        refine CALL_det (closestOf_fc c o3.1 fs o3.2.1 a o3.2.2) (.inl rfl) ?_
        simp (maxSteps := 1000000) (disch := omega) only [go_sem, eq_self, decide_true, decide_false, not_true_eq_false, not_false_eq_true, reduceIte, reduceCtorEq, Nat.reduceEqDiff, Nat.reduceAdd, Nat.reduceSub, Nat.reduceLeDiff]
        refine CALL_det (eqInts_fc _ _ (prSp c f t zn).1 (by have := pr_len2 c f t zn o1.2.2; omega)) (.inl rfl) ?_
        simp (maxSteps := 1000000) (disch := omega) only [go_sem, eq_self, decide_true, decide_false, not_true_eq_false, not_false_eq_true, reduceIte, reduceCtorEq, Nat.reduceEqDiff, Nat.reduceAdd, Nat.reduceSub, Nat.reduceLeDiff]
        refine CALL_det (batched_fc) (.inl rfl) ?_
        simp (maxSteps := 1000000) (disch := omega) only [go_sem, eq_self, decide_true, decide_false, not_true_eq_false, not_false_eq_true, reduceIte, reduceCtorEq, Nat.reduceEqDiff, Nat.reduceAdd, Nat.reduceSub, Nat.reduceLeDiff]
      · rw [cl_bad h3]
        simp (maxSteps := 1000000) (disch := omega) only [go_sem, eq_self, decide_true, decide_false, not_true_eq_false, not_false_eq_true, reduceIte, reduceCtorEq, Nat.reduceEqDiff, Nat.reduceAdd, Nat.reduceSub, Nat.reduceLeDiff]
        refine CALL_det (profileOf_fc c (good_of o1.1) f t zn (w1F_ok o1.2.1) o1.2.2) (.inl rfl) ?_
        simp (maxSteps := 1000000) (disch := omega) only [go_sem, eq_self, decide_true, decide_false, not_true_eq_false, not_false_eq_true, reduceIte, reduceCtorEq, Nat.reduceEqDiff, Nat.reduceAdd, Nat.reduceSub, Nat.reduceLeDiff]
        refine CALL_det (eqInts_fc _ _ (prSp c f t zn).1 (by have := pr_len2 c f t zn o1.2.2; omega)) (.inl rfl) ?_
        simp (maxSteps := 1000000) (disch := omega) only [go_sem, eq_self, decide_true, decide_false, not_true_eq_false, not_false_eq_true, reduceIte, reduceCtorEq, Nat.reduceEqDiff, Nat.reduceAdd, Nat.reduceSub, Nat.reduceLeDiff]
        refine CALL_det (batched_fc) (.inl rfl) ?_
        simp (maxSteps := 1000000) (disch := omega) only [go_sem, eq_self, decide_true, decide_false, not_true_eq_false, not_false_eq_true, reduceIte, reduceCtorEq, Nat.reduceEqDiff, Nat.reduceAdd, Nat.reduceSub, Nat.reduceLeDiff]
  · rw [pf_bad h1]
    by_cases h2 : twoF a b = 0
    · obtain ⟨o2, e2⟩ := dp_two h2
      rw [h2, e2]
      by_cases h3 : orSp [serFault c, fwF fs, pfF a] = 0
      · have o3 := or3_z h3
        rw [h3, cl_ok h3]
        simp (maxSteps := 1000000) (disch := omega) only [go_sem, eq_self, decide_true, decide_false, not_true_eq_false, not_false_eq_true, reduceIte, reduceCtorEq, Nat.reduceEqDiff, Nat.reduceAdd, Nat.reduceSub, Nat.reduceLeDiff]
        refine CALL_det (deviationOf_fc a b (by have := (pfF_ok o2.1).1; omega) (by have := (pfF_ok o2.1).2.1; omega) o2.2.2 (pf_okI o2.1) (pf_okI o2.2.1)) (.inl rfl) ?_
        simp (maxSteps := 1000000) (disch := omega) only [go_sem, eq_self, decide_true, decide_false, not_true_eq_false, not_false_eq_true, reduceIte, reduceCtorEq, Nat.reduceEqDiff, Nat.reduceAdd, Nat.reduceSub, Nat.reduceLeDiff]
        refine CALL_det (closestOf_fc c o3.1 fs o3.2.1 a o3.2.2) (.inl rfl) ?_
        simp (maxSteps := 1000000) (disch := omega) only [go_sem, eq_self, decide_true, decide_false, not_true_eq_false, not_false_eq_true, reduceIte, reduceCtorEq, Nat.reduceEqDiff, Nat.reduceAdd, Nat.reduceSub, Nat.reduceLeDiff]
        refine CALL_det (eqInts_fc _ _ [] (by simp)) (.inl rfl) ?_
        simp (maxSteps := 1000000) (disch := omega) only [go_sem, eq_self, decide_true, decide_false, not_true_eq_false, not_false_eq_true, reduceIte, reduceCtorEq, Nat.reduceEqDiff, Nat.reduceAdd, Nat.reduceSub, Nat.reduceLeDiff]
        refine CALL_det (batched_fc) (.inl rfl) ?_
        simp (maxSteps := 1000000) (disch := omega) only [go_sem, eq_self, decide_true, decide_false, not_true_eq_false, not_false_eq_true, reduceIte, reduceCtorEq, Nat.reduceEqDiff, Nat.reduceAdd, Nat.reduceSub, Nat.reduceLeDiff]
      · rw [cl_bad h3]
        simp (maxSteps := 1000000) (disch := omega) only [go_sem, eq_self, decide_true, decide_false, not_true_eq_false, not_false_eq_true, reduceIte, reduceCtorEq, Nat.reduceEqDiff, Nat.reduceAdd, Nat.reduceSub, Nat.reduceLeDiff]
        refine CALL_det (deviationOf_fc a b (by have := (pfF_ok o2.1).1; omega) (by have := (pfF_ok o2.1).2.1; omega) o2.2.2 (pf_okI o2.1) (pf_okI o2.2.1)) (.inl rfl) ?_
        simp (maxSteps := 1000000) (disch := omega) only [go_sem, eq_self, decide_true, decide_false, not_true_eq_false, not_false_eq_true, reduceIte, reduceCtorEq, Nat.reduceEqDiff, Nat.reduceAdd, Nat.reduceSub, Nat.reduceLeDiff]
        refine CALL_det (eqInts_fc _ _ [] (by simp)) (.inl rfl) ?_
        simp (maxSteps := 1000000) (disch := omega) only [go_sem, eq_self, decide_true, decide_false, not_true_eq_false, not_false_eq_true, reduceIte, reduceCtorEq, Nat.reduceEqDiff, Nat.reduceAdd, Nat.reduceSub, Nat.reduceLeDiff]
        refine CALL_det (batched_fc) (.inl rfl) ?_
        simp (maxSteps := 1000000) (disch := omega) only [go_sem, eq_self, decide_true, decide_false, not_true_eq_false, not_false_eq_true, reduceIte, reduceCtorEq, Nat.reduceEqDiff, Nat.reduceAdd, Nat.reduceSub, Nat.reduceLeDiff]
    · rw [dp_bad h2]
      by_cases h3 : orSp [serFault c, fwF fs, pfF a] = 0
      · have o3 := or3_z h3
        rw [h3, cl_ok h3]
        simp (maxSteps := 1000000) (disch := omega) only [go_sem, eq_self, decide_true, decide_false, not_true_eq_false, not_false_eq_true, reduceIte, reduceCtorEq, Nat.reduceEqDiff, Nat.reduceAdd, Nat.reduceSub, Nat.reduceLeDiff]
        refine CALL_det (closestOf_fc c o3.1 fs o3.2.1 a o3.2.2) (.inl rfl) ?_
        simp (maxSteps := 1000000) (disch := omega) only [go_sem, eq_self, decide_true, decide_false, not_true_eq_false, not_false_eq_true, reduceIte, reduceCtorEq, Nat.reduceEqDiff, Nat.reduceAdd, Nat.reduceSub, Nat.reduceLeDiff]
        refine CALL_det (eqInts_fc _ _ [] (by simp)) (.inl rfl) ?_
        simp (maxSteps := 1000000) (disch := omega) only [go_sem, eq_self, decide_true, decide_false, not_true_eq_false, not_false_eq_true, reduceIte, reduceCtorEq, Nat.reduceEqDiff, Nat.reduceAdd, Nat.reduceSub, Nat.reduceLeDiff]
        refine CALL_det (batched_fc) (.inl rfl) ?_
        simp (maxSteps := 1000000) (disch := omega) only [go_sem, eq_self, decide_true, decide_false, not_true_eq_false, not_false_eq_true, reduceIte, reduceCtorEq, Nat.reduceEqDiff, Nat.reduceAdd, Nat.reduceSub, Nat.reduceLeDiff]
      · rw [cl_bad h3]
        simp (maxSteps := 1000000) (disch := omega) only [go_sem, eq_self, decide_true, decide_false, not_true_eq_false, not_false_eq_true, reduceIte, reduceCtorEq, Nat.reduceEqDiff, Nat.reduceAdd, Nat.reduceSub, Nat.reduceLeDiff]
        refine CALL_det (eqInts_fc _ _ [] (by simp)) (.inl rfl) ?_
        simp (maxSteps := 1000000) (disch := omega) only [go_sem, eq_self, decide_true, decide_false, not_true_eq_false, not_false_eq_true, reduceIte, reduceCtorEq, Nat.reduceEqDiff, Nat.reduceAdd, Nat.reduceSub, Nat.reduceLeDiff]
        refine CALL_det (batched_fc) (.inl rfl) ?_
        simp (maxSteps := 1000000) (disch := omega) only [go_sem, eq_self, decide_true, decide_false, not_true_eq_false, not_false_eq_true, reduceIte, reduceCtorEq, Nat.reduceEqDiff, Nat.reduceAdd, Nat.reduceSub, Nat.reduceLeDiff]
theorem pco_own : ownKnob Try.prog.godebug = none := by kernel_rfl
theorem pco_laid : laidOutB Try.prog = true := by kernel_rfl
set_option maxRecDepth 100000 in
theorem pco_lifted (os : Os) (started : os.Started) (H : Type) (enc : TypeId × Value → H) :
    ReturnsInHanded {} Try.checked os 7 .any (Rows.profilesComparedSpec.pre6 enc Try.prog Try.f7 Rows.profilesComparedRow.domain false) (Rows.profilesComparedSpec.post enc Try.prog Try.f7 false true false false) := by
  refine returnsInHanded_of_change (C := Try.checked) pco_own started (by kernel_rfl) Try.func7
    (ChangeSpec.witness6 (enc := enc) (C := Try.checked) false ⟨#[], #[.slice none 0 0], []⟩ 8 (by kernel_rfl) (by kernel_rfl) (by kernel_rfl) (by kernel_rfl)) ?_
  intro W base args ds gs before hval hW _ _
  exact law_contract (P := Try.prog) (fun L h1 h2 => pco_fc L h1 h2) (fun _ _ => rfl) rfl rfl rfl pco_laid (by kernel_rfl) (of_decide_eq_true (by kernel_rfl)) Try.underlying22 Try.underlying3 (by kernel_rfl) Try.underlying4 W base args ds gs before hval hW
theorem pco_over : Rows.profilesComparedRow.holds Try.pinned (OpenSpec.ofChange Rows.profilesComparedSpec) :=
  OpenClaim.holds_of_wide 7 Try.f7 rfl rfl rfl rfl rfl rfl rfl ⟨rfl, rfl, rfl, rfl, rfl⟩ rfl rfl rfl rfl rfl (by kernel_rfl) Try.func7 (by kernel_rfl)
    (of_decide_eq_true (by kernel_rfl)) (by unfold Func.isWrapper; first | (rw [if_pos (by decide +kernel)]; kernel_rfl) | (rw [if_neg (by decide +kernel)]; exact ⟨rfl, rfl⟩))
    (fun os started H enc _ => pco_lifted os started H enc)
theorem profiles_compared : Rows.ProfilesComparedSaid := pco_over
end Go.Proofs.Ytmbpfhpdicjpcaa

/-
  IntervalsWeighed returns true for every slice of integers, and leaves the slice as it was: Buckets, Above and Compare are as the reference says, for all samples, windows and limits that its generators make of the slice. No condition.
-/
import Derived.Test.YtkecmbgjhamhiaaCmpb
import Derived.Test.YtkecmbgjhamhiaaRefJ
import Derived.Test.YtkecmbgjhamhiaaAiRow
import Derived.Test.YtkecmbgjhamhiaaRows
namespace Go.Proofs.Ytkecmbgjhamhiaa
open Go Go.Ai
set_option linter.unusedSimpArgs false
set_option linter.unusedVariables false
set_option maxHeartbeats 4000000
def A_eqBk : List Ann := [⟨(some ⟨[0,1], [], []⟩), [], [], [], []⟩, ⟨(some ⟨[0,1,10], [], []⟩), [], [], [], []⟩, ⟨(some ⟨[4], [], []⟩), [], [], [], []⟩, ⟨(some ⟨[0,1,12,13], [], []⟩), [], [], [], []⟩, ⟨(some ⟨[0,1,12,13,14], [], []⟩), [], [], [], []⟩, ⟨(some ⟨[0,1,5,12,13], [], []⟩), [], [], [], []⟩, ⟨(some ⟨[0,1,12,13,24], [], []⟩), [], [], [], []⟩, ⟨(some ⟨[4], [], []⟩), [], [], [], []⟩, ⟨(some ⟨[0,1,12,13], [], []⟩), [], [], [], []⟩, ⟨(some ⟨[4], [], []⟩), [], [], [], []⟩]
def C_eqBk : AC := (.seq (.reg false [⟨(some 4), none, .mv (.v (.bool false))⟩] (some ⟨[0,1], [], []⟩))
  (.seq (.seq (.reg false [⟨(some 6), none, .mv (.t 0)⟩, ⟨(some 7), none, .len (.t 6)⟩, ⟨(some 8), none, .mv (.t 1)⟩, ⟨(some 9), none, .len (.t 8)⟩, ⟨(some 10), none, .bin .neq (.t 7) (.t 9)⟩] (some ⟨[0,1,10], [], []⟩))
  (.cond (.t 10)
  (.seq (.reg false [⟨(some 4), none, .mv (.v (.bool false))⟩] (some ⟨[4], [], []⟩))
  .ret)
  .skip))
  (.seq (.seq (.reg false [⟨(some 11), none, .mv (.t 0)⟩, ⟨(some 12), none, .len (.t 11)⟩, ⟨(some 13), none, .mv (.v (.int .i64 (0)))⟩] (some ⟨[0,1,12,13], [], []⟩))
  (.block 0 (.loop (.seq (.reg false [⟨(some 14), none, .bin .lss (.t 13) (.t 12)⟩] (some ⟨[0,1,12,13,14], [], []⟩))
  (.seq (.cond (.t 14)
  .skip
  (.exit 0))
  (.seq (.block 1 (.seq (.reg false [⟨(some 15), none, .mv (.t 13)⟩, ⟨(some 5), none, .mv (.t 15)⟩] (some ⟨[0,1,5,12,13], [], []⟩))
  (.seq (.reg true [⟨(some 16), none, .mv (.t 0)⟩, ⟨(some 17), none, .mv (.t 5)⟩, ⟨(some 18), none, .iadr 7 (.t 16) (.t 17)⟩, ⟨(some 19), none, .load true 7 (.t 18)⟩, ⟨(some 20), none, .mv (.t 1)⟩, ⟨(some 21), none, .mv (.t 5)⟩, ⟨(some 22), none, .iadr 7 (.t 20) (.t 21)⟩, ⟨(some 23), none, .load true 7 (.t 22)⟩, ⟨(some 24), none, .eqs true true [.i .i64, .i .i64, .i .i64, .i .i64, .i .i64, .i .i64, .i .i64] (.t 19) (.t 23)⟩] (some ⟨[0,1,12,13,24], [], []⟩))
  (.cond (.t 24)
  (.seq (.reg false [⟨(some 4), none, .mv (.v (.bool false))⟩] (some ⟨[4], [], []⟩))
  .ret)
  .skip))))
  (.reg false [⟨(some 25), none, .bin .add (.t 13) (.v (.int .i64 (1)))⟩, ⟨(some 13), none, .mv (.t 25)⟩] (some ⟨[0,1,12,13], [], []⟩))))))))
  (.seq (.reg false [⟨(some 4), none, .mv (.v (.bool true))⟩] (some ⟨[4], [], []⟩))
  .ret))))
theorem c_eqBk : compileCode Try.prog Try.f62.ntmps (Try.f62.body.getD .skip) A_eqBk = some (C_eqBk, []) := by kernel_rfl
theorem r_eqBk : compileRes Try.prog Try.f62.results.toList = some [.t 4] := by kernel_rfl
theorem b_eqBk : Try.f62.body = some (Try.f62.body.getD .skip) := by kernel_rfl
theorem n_eqBk : (Try.f62.name == "runtime.NumGoroutine") = false := by kernel_rfl
theorem fc_eqBk {xt : Option (List Cel)} {args : List Val} {R : List Cel → Val → Prop} (hn : (if xt.isSome then 1 else 0) + args.length ≤ Try.f62.ntmps) (h : ex Try.prog C_eqBk [] (fpost xt [.t 4] R) (initSt xt args)) : FC Try.prog 62 xt args R :=
  fc_of_awp Try.func62 b_eqBk n_eqBk c_eqBk r_eqBk (of_decide_eq_true (by kernel_rfl)) hn h

def A_eqWin : List Ann := [⟨(some ⟨[0,1], [], []⟩), [], [], [], []⟩, ⟨(some ⟨[0,1,10], [], []⟩), [], [], [], []⟩, ⟨(some ⟨[4], [], []⟩), [], [], [], []⟩, ⟨(some ⟨[0,1,12,13], [], []⟩), [], [], [], []⟩, ⟨(some ⟨[0,1,12,13,14], [], []⟩), [], [], [], []⟩, ⟨(some ⟨[0,1,5,12,13], [], []⟩), [], [], [], []⟩, ⟨(some ⟨[0,1,12,13,24], [], []⟩), [], [], [], []⟩, ⟨(some ⟨[4], [], []⟩), [], [], [], []⟩, ⟨(some ⟨[0,1,12,13], [], []⟩), [], [], [], []⟩, ⟨(some ⟨[4], [], []⟩), [], [], [], []⟩]
def C_eqWin : AC := (.seq (.reg false [⟨(some 4), none, .mv (.v (.bool false))⟩] (some ⟨[0,1], [], []⟩))
  (.seq (.seq (.reg false [⟨(some 6), none, .mv (.t 0)⟩, ⟨(some 7), none, .len (.t 6)⟩, ⟨(some 8), none, .mv (.t 1)⟩, ⟨(some 9), none, .len (.t 8)⟩, ⟨(some 10), none, .bin .neq (.t 7) (.t 9)⟩] (some ⟨[0,1,10], [], []⟩))
  (.cond (.t 10)
  (.seq (.reg false [⟨(some 4), none, .mv (.v (.bool false))⟩] (some ⟨[4], [], []⟩))
  .ret)
  .skip))
  (.seq (.seq (.reg false [⟨(some 11), none, .mv (.t 0)⟩, ⟨(some 12), none, .len (.t 11)⟩, ⟨(some 13), none, .mv (.v (.int .i64 (0)))⟩] (some ⟨[0,1,12,13], [], []⟩))
  (.block 0 (.loop (.seq (.reg false [⟨(some 14), none, .bin .lss (.t 13) (.t 12)⟩] (some ⟨[0,1,12,13,14], [], []⟩))
  (.seq (.cond (.t 14)
  .skip
  (.exit 0))
  (.seq (.block 1 (.seq (.reg false [⟨(some 15), none, .mv (.t 13)⟩, ⟨(some 5), none, .mv (.t 15)⟩] (some ⟨[0,1,5,12,13], [], []⟩))
  (.seq (.reg true [⟨(some 16), none, .mv (.t 0)⟩, ⟨(some 17), none, .mv (.t 5)⟩, ⟨(some 18), none, .iadr 2 (.t 16) (.t 17)⟩, ⟨(some 19), none, .load true 2 (.t 18)⟩, ⟨(some 20), none, .mv (.t 1)⟩, ⟨(some 21), none, .mv (.t 5)⟩, ⟨(some 22), none, .iadr 2 (.t 20) (.t 21)⟩, ⟨(some 23), none, .load true 2 (.t 22)⟩, ⟨(some 24), none, .eqs true true [.i .i64, .i .i64] (.t 19) (.t 23)⟩] (some ⟨[0,1,12,13,24], [], []⟩))
  (.cond (.t 24)
  (.seq (.reg false [⟨(some 4), none, .mv (.v (.bool false))⟩] (some ⟨[4], [], []⟩))
  .ret)
  .skip))))
  (.reg false [⟨(some 25), none, .bin .add (.t 13) (.v (.int .i64 (1)))⟩, ⟨(some 13), none, .mv (.t 25)⟩] (some ⟨[0,1,12,13], [], []⟩))))))))
  (.seq (.reg false [⟨(some 4), none, .mv (.v (.bool true))⟩] (some ⟨[4], [], []⟩))
  .ret))))
theorem c_eqWin : compileCode Try.prog Try.f63.ntmps (Try.f63.body.getD .skip) A_eqWin = some (C_eqWin, []) := by kernel_rfl
theorem r_eqWin : compileRes Try.prog Try.f63.results.toList = some [.t 4] := by kernel_rfl
theorem b_eqWin : Try.f63.body = some (Try.f63.body.getD .skip) := by kernel_rfl
theorem n_eqWin : (Try.f63.name == "runtime.NumGoroutine") = false := by kernel_rfl
theorem fc_eqWin {xt : Option (List Cel)} {args : List Val} {R : List Cel → Val → Prop} (hn : (if xt.isSome then 1 else 0) + args.length ≤ Try.f63.ntmps) (h : ex Try.prog C_eqWin [] (fpost xt [.t 4] R) (initSt xt args)) : FC Try.prog 63 xt args R :=
  fc_of_awp Try.func63 b_eqWin n_eqWin c_eqWin r_eqWin (of_decide_eq_true (by kernel_rfl)) hn h

def A_iw : List Ann := [⟨(some ⟨[0], [], []⟩), [], [], [], []⟩, ⟨(some ⟨[3,29], [29], []⟩), [], [], [], []⟩, ⟨(some ⟨[4,5,6,7,8,9], [6], []⟩), [], [], [], []⟩, ⟨(some ⟨[4,5,6,7,8,9,10], [6], []⟩), [], [], [], []⟩, ⟨(some ⟨[4,5,6,7,8,9,10,11,12], [6], []⟩), [], [], [], []⟩, ⟨(some ⟨[4,5,6,7,8,9,10,11,12,13,14,15], [6], []⟩), [], [], [], []⟩, ⟨(some ⟨[4,5,6,7,8,9,10,11,12,13,14,15,16,17,18], [6], []⟩), [], [], [], []⟩, ⟨(some ⟨[4,5,6,7,8,9,11,12,13,14,15,16,17,18,19,20,21], [6], []⟩), [], [], [], []⟩, ⟨(some ⟨[4,5,6,7,8,9,11,12,13,14,15,16,17,18,19,20,21,91], [6], []⟩), [], [], [], []⟩, ⟨(some ⟨[4,5,6,7,8,9,11,12,13,14,15,16,17,18,19,20,21], [6], []⟩), [], [], [], []⟩, ⟨(some ⟨[4,5,6,7,8,9,11,12,13,14,15,16,17,18,19,20,21,22], [6], []⟩), [], [], [(22, 7)], []⟩, ⟨(some ⟨[4,5,6,7,8,9,11,12,13,14,15,16,17,18,19,20,21,22,23], [6], []⟩), [], [], [(23, 2)], []⟩, ⟨(some ⟨[4,5,6,7,8,9,11,12,13,14,15,16,17,18,19,20,21,22,23,24,25,26], [6], []⟩), [], [], [], []⟩, ⟨(some ⟨[4,5,6,7,8,9,11,12,13,14,15,16,17,18,19,20,21,22,23,24,25,26,96], [6], []⟩), [], [], [], []⟩, ⟨(some ⟨[4,5,6,8,9,11,12,13,14,15,16,17,18,19,20,21,22,23,24,25,26], [6], []⟩), [], [], [], []⟩, ⟨(some ⟨[4,5,6,8,9,11,12,13,14,15,16,17,18,19,20,21,22,23,24,25,26,102], [6], []⟩), [], [], [], []⟩, ⟨(some ⟨[4,5,6,9,11,12,13,14,15,16,17,18,19,20,21,22,23,24,25,26], [6], []⟩), [], [], [], []⟩, ⟨(some ⟨[4,5,6,9,11,12,13,14,15,16,17,18,19,20,21,22,23,24,25,26,111], [6], []⟩), [], [], [], []⟩, ⟨(some ⟨[11,12,13,14,15,16,17,18,19,20,21,22,23,24,25,26], [], []⟩), [], [], [], []⟩, ⟨(some ⟨[2], [], []⟩), [], [], [], []⟩]
def C_iw : AC := (.seq (.reg false [⟨(some 2), none, .mv (.v (.bool false))⟩] (some ⟨[0], [], []⟩))
  (.seq (.reg false [⟨(some 27), none, .mv (.t 0)⟩, ⟨(some 28), none, .build [(.slice none 0 0), (.int .i64 (0))] [(0, 1, (.t 27))]⟩, ⟨(some 29), none, .box (.t 28)⟩, ⟨(some 3), none, .mv (.t 29)⟩] (some ⟨[3,29], [29], []⟩))
  (.seq (.reg false [⟨(some 30), none, .mv (.t 3)⟩, ⟨(some 31), none, .callx (.f 15) [(.t 30), (.v (.int .i64 (9)))]⟩, ⟨(some 32), none, .mv (.t 3)⟩, ⟨(some 33), none, .callx (.f 15) [(.t 32), (.v (.int .i64 (9)))]⟩, ⟨(some 34), none, .mv (.t 3)⟩, ⟨(some 35), none, .callx (.f 18) [(.t 34)]⟩, ⟨(some 36), none, .mv (.t 3)⟩, ⟨(some 37), none, .bslice 1 4 [(.v (.int .i64 (1))), (.v (.int .i64 (7))), (.v (.int .i64 (20))), (.v (.int .i64 (0)))]⟩, ⟨(some 38), none, .callx (.f 19) [(.t 36), (.t 37)]⟩, ⟨(some 39), none, .mv (.t 3)⟩, ⟨(some 40), none, .callx (.f 48) [(.t 39)]⟩, ⟨(some 41), none, .mv (.t 3)⟩, ⟨(some 42), none, .bslice 1 4 [(.v (.int .i64 (0))), (.v (.int .i64 (1))), (.v (.int .i64 (3))), (.v (.int .i64 (-1)))]⟩, ⟨(some 43), none, .callx (.f 19) [(.t 41), (.t 42)]⟩, ⟨(some 6), none, .alloc [(.int .i64 (0)), (.int .i64 (0))]⟩, ⟨(some 4), none, .mv (.t 31)⟩, ⟨(some 5), none, .mv (.t 33)⟩, ⟨none, none, .store 2 (.t 6) (.t 35)⟩, ⟨(some 7), none, .mv (.t 38)⟩, ⟨(some 8), none, .mv (.t 40)⟩, ⟨(some 9), none, .mv (.t 43)⟩] (some ⟨[4,5,6,7,8,9], [6], []⟩))
  (.seq (.reg true [⟨(some 44), none, .mv (.t 4)⟩, ⟨(some 45), none, .call (.f 20) [(.t 44)]⟩, ⟨(some 46), none, .load true 2 (.t 6)⟩, ⟨(some 47), none, .call (.f 25) [(.t 46)]⟩, ⟨(some 48), none, .bslice 1 2 [(.t 45), (.t 47)]⟩, ⟨(some 49), none, .call (.f 23) [(.t 48)]⟩, ⟨(some 10), none, .mv (.t 49)⟩] (some ⟨[4,5,6,7,8,9,10], [6], []⟩))
  (.seq (.reg false [⟨(some 51), none, .mv (.t 4)⟩, ⟨(some 52), none, .load true 2 (.t 6)⟩, ⟨(some 53), none, .mv (.t 7)⟩, ⟨(some 54), none, .call (.f 55) [(.t 51), (.t 52), (.t 53)]⟩, ⟨(some 50), none, .mv (.t 54)⟩, ⟨(some 55), none, .extr (.t 50) 0⟩, ⟨(some 56), none, .extr (.t 50) 1⟩, ⟨(some 11), none, .mv (.t 55)⟩, ⟨(some 12), none, .mv (.t 56)⟩] (some ⟨[4,5,6,7,8,9,10,11,12], [6], []⟩))
  (.seq (.reg false [⟨(some 58), none, .mv (.t 4)⟩, ⟨(some 59), none, .load true 2 (.t 6)⟩, ⟨(some 60), none, .mv (.t 8)⟩, ⟨(some 61), none, .call (.f 56) [(.t 58), (.t 59), (.t 60)]⟩, ⟨(some 57), none, .mv (.t 61)⟩, ⟨(some 62), none, .extr (.t 57) 0⟩, ⟨(some 63), none, .extr (.t 57) 1⟩, ⟨(some 64), none, .extr (.t 57) 2⟩, ⟨(some 13), none, .mv (.t 62)⟩, ⟨(some 14), none, .mv (.t 63)⟩, ⟨(some 15), none, .mv (.t 64)⟩] (some ⟨[4,5,6,7,8,9,10,11,12,13,14,15], [6], []⟩))
  (.seq (.reg false [⟨(some 66), none, .mv (.t 4)⟩, ⟨(some 67), none, .mv (.t 5)⟩, ⟨(some 68), none, .load true 2 (.t 6)⟩, ⟨(some 69), none, .mv (.t 9)⟩, ⟨(some 70), none, .call (.f 57) [(.t 66), (.t 67), (.t 68), (.t 69)]⟩, ⟨(some 65), none, .mv (.t 70)⟩, ⟨(some 71), none, .extr (.t 65) 0⟩, ⟨(some 72), none, .extr (.t 65) 1⟩, ⟨(some 73), none, .extr (.t 65) 2⟩, ⟨(some 16), none, .mv (.t 71)⟩, ⟨(some 17), none, .mv (.t 72)⟩, ⟨(some 18), none, .mv (.t 73)⟩] (some ⟨[4,5,6,7,8,9,10,11,12,13,14,15,16,17,18], [6], []⟩))
  (.seq (.reg true [⟨(some 74), none, .mv (.t 10)⟩, ⟨(some 75), none, .mv (.t 10)⟩, ⟨(some 76), none, .mv (.t 8)⟩, ⟨(some 77), none, .call (.f 51) [(.t 76)]⟩, ⟨(some 78), none, .bslice 1 2 [(.t 75), (.t 77)]⟩, ⟨(some 79), none, .call (.f 23) [(.t 78)]⟩, ⟨(some 80), none, .mv (.t 4)⟩, ⟨(some 81), none, .call (.f 20) [(.t 80)]⟩, ⟨(some 82), none, .mv (.t 5)⟩, ⟨(some 83), none, .call (.f 20) [(.t 82)]⟩, ⟨(some 84), none, .load true 2 (.t 6)⟩, ⟨(some 85), none, .call (.f 25) [(.t 84)]⟩, ⟨(some 86), none, .mv (.t 9)⟩, ⟨(some 87), none, .call (.f 58) [(.t 86), (.v (.int .i64 (0))), (.v (.int .i64 (2000000)))]⟩, ⟨(some 88), none, .bslice 1 4 [(.t 81), (.t 83), (.t 85), (.t 87)]⟩, ⟨(some 89), none, .call (.f 23) [(.t 88)]⟩, ⟨(some 19), none, .mv (.t 74)⟩, ⟨(some 20), none, .mv (.t 79)⟩, ⟨(some 21), none, .mv (.t 89)⟩] (some ⟨[4,5,6,7,8,9,11,12,13,14,15,16,17,18,19,20,21], [6], []⟩))
  (.seq (.seq (.reg false [⟨(some 90), none, .mv (.t 19)⟩, ⟨(some 91), none, .bin .eql (.t 90) (.v (.int .i64 (0)))⟩] (some ⟨[4,5,6,7,8,9,11,12,13,14,15,16,17,18,19,20,21,91], [6], []⟩))
  (.cond (.t 91)
  (.reg false [⟨(some 92), none, .load true 2 (.t 6)⟩, ⟨(some 93), none, .mv (.t 7)⟩, ⟨(some 94), none, .call (.f 26) [(.t 92), (.t 93)]⟩, ⟨(some 19), none, .mv (.t 94)⟩] (some ⟨[4,5,6,7,8,9,11,12,13,14,15,16,17,18,19,20,21], [6], []⟩))
  .skip))
  (.seq (.seq (.reg false [⟨(some 22), none, .mv (.v (.slice none 0 0))⟩] (some ⟨[4,5,6,7,8,9,11,12,13,14,15,16,17,18,19,20,21,22], [6], []⟩))
  (.ty 22 7))
  (.seq (.seq (.reg false [⟨(some 23), none, .mv (.v (.slice none 0 0))⟩] (some ⟨[4,5,6,7,8,9,11,12,13,14,15,16,17,18,19,20,21,22,23], [6], []⟩))
  (.ty 23 2))
  (.seq (.reg false [⟨(some 24), none, .mv (.v (.int .i64 (0)))⟩, ⟨(some 25), none, .mv (.v (.int .i64 (0)))⟩, ⟨(some 26), none, .mv (.v (.int .i64 (0)))⟩] (some ⟨[4,5,6,7,8,9,11,12,13,14,15,16,17,18,19,20,21,22,23,24,25,26], [6], []⟩))
  (.seq (.seq (.reg false [⟨(some 95), none, .mv (.t 19)⟩, ⟨(some 96), none, .bin .eql (.t 95) (.v (.int .i64 (0)))⟩] (some ⟨[4,5,6,7,8,9,11,12,13,14,15,16,17,18,19,20,21,22,23,24,25,26,96], [6], []⟩))
  (.cond (.t 96)
  (.reg false [⟨(some 97), none, .mv (.t 4)⟩, ⟨(some 98), none, .load true 2 (.t 6)⟩, ⟨(some 99), none, .mv (.t 7)⟩, ⟨(some 100), none, .call (.f 59) [(.t 97), (.t 98), (.t 99)]⟩, ⟨(some 22), none, .mv (.t 100)⟩] (some ⟨[4,5,6,8,9,11,12,13,14,15,16,17,18,19,20,21,22,23,24,25,26], [6], []⟩))
  .skip))
  (.seq (.seq (.reg false [⟨(some 101), none, .mv (.t 20)⟩, ⟨(some 102), none, .bin .eql (.t 101) (.v (.int .i64 (0)))⟩] (some ⟨[4,5,6,8,9,11,12,13,14,15,16,17,18,19,20,21,22,23,24,25,26,102], [6], []⟩))
  (.cond (.t 102)
  (.reg false [⟨(some 104), none, .mv (.t 4)⟩, ⟨(some 105), none, .load true 2 (.t 6)⟩, ⟨(some 106), none, .mv (.t 8)⟩, ⟨(some 107), none, .call (.f 60) [(.t 104), (.t 105), (.t 106)]⟩, ⟨(some 103), none, .mv (.t 107)⟩, ⟨(some 108), none, .extr (.t 103) 0⟩, ⟨(some 109), none, .extr (.t 103) 1⟩, ⟨(some 23), none, .mv (.t 108)⟩, ⟨(some 24), none, .mv (.t 109)⟩] (some ⟨[4,5,6,9,11,12,13,14,15,16,17,18,19,20,21,22,23,24,25,26], [6], []⟩))
  .skip))
  (.seq (.seq (.reg false [⟨(some 110), none, .mv (.t 21)⟩, ⟨(some 111), none, .bin .eql (.t 110) (.v (.int .i64 (0)))⟩] (some ⟨[4,5,6,9,11,12,13,14,15,16,17,18,19,20,21,22,23,24,25,26,111], [6], []⟩))
  (.cond (.t 111)
  (.reg false [⟨(some 113), none, .mv (.t 4)⟩, ⟨(some 114), none, .mv (.t 5)⟩, ⟨(some 115), none, .load true 2 (.t 6)⟩, ⟨(some 116), none, .mv (.t 9)⟩, ⟨(some 117), none, .call (.f 61) [(.t 113), (.t 114), (.t 115), (.t 116)]⟩, ⟨(some 112), none, .mv (.t 117)⟩, ⟨(some 118), none, .extr (.t 112) 0⟩, ⟨(some 119), none, .extr (.t 112) 1⟩, ⟨(some 25), none, .mv (.t 118)⟩, ⟨(some 26), none, .mv (.t 119)⟩] (some ⟨[11,12,13,14,15,16,17,18,19,20,21,22,23,24,25,26], [], []⟩))
  .skip))
  (.seq (.reg false [⟨(some 120), none, .mv (.t 12)⟩, ⟨(some 121), none, .mv (.t 19)⟩, ⟨(some 122), none, .bin .eql (.t 120) (.t 121)⟩, ⟨(some 123), none, .mv (.t 122)⟩, ⟨(some 124), (some (123, true)), .mv (.t 11)⟩, ⟨(some 125), (some (123, true)), .mv (.t 22)⟩, ⟨(some 126), (some (123, true)), .call (.f 62) [(.t 124), (.t 125)]⟩, ⟨(some 127), none, .pick (.t 123) (.t 126) (.v (.bool false))⟩, ⟨(some 128), none, .mv (.t 127)⟩, ⟨(some 129), (some (128, true)), .mv (.t 15)⟩, ⟨(some 130), (some (128, true)), .mv (.t 20)⟩, ⟨(some 131), (some (128, true)), .bin .eql (.t 129) (.t 130)⟩, ⟨(some 132), none, .pick (.t 128) (.t 131) (.v (.bool false))⟩, ⟨(some 133), none, .mv (.t 132)⟩, ⟨(some 134), (some (133, true)), .mv (.t 13)⟩, ⟨(some 135), (some (133, true)), .mv (.t 23)⟩, ⟨(some 136), (some (133, true)), .call (.f 63) [(.t 134), (.t 135)]⟩, ⟨(some 137), none, .pick (.t 133) (.t 136) (.v (.bool false))⟩, ⟨(some 138), none, .mv (.t 137)⟩, ⟨(some 139), (some (138, true)), .mv (.t 14)⟩, ⟨(some 140), (some (138, true)), .mv (.t 24)⟩, ⟨(some 141), (some (138, true)), .bin .eql (.t 139) (.t 140)⟩, ⟨(some 142), none, .pick (.t 138) (.t 141) (.v (.bool false))⟩, ⟨(some 143), none, .mv (.t 142)⟩, ⟨(some 144), (some (143, true)), .mv (.t 18)⟩, ⟨(some 145), (some (143, true)), .mv (.t 21)⟩, ⟨(some 146), (some (143, true)), .bin .eql (.t 144) (.t 145)⟩, ⟨(some 147), none, .pick (.t 143) (.t 146) (.v (.bool false))⟩, ⟨(some 148), none, .mv (.t 147)⟩, ⟨(some 149), (some (148, true)), .mv (.t 16)⟩, ⟨(some 150), (some (148, true)), .mv (.t 25)⟩, ⟨(some 151), (some (148, true)), .bin .eql (.t 149) (.t 150)⟩, ⟨(some 152), none, .pick (.t 148) (.t 151) (.v (.bool false))⟩, ⟨(some 153), none, .mv (.t 152)⟩, ⟨(some 154), (some (153, true)), .mv (.t 17)⟩, ⟨(some 155), (some (153, true)), .mv (.t 26)⟩, ⟨(some 156), (some (153, true)), .bin .eql (.t 154) (.t 155)⟩, ⟨(some 157), none, .pick (.t 153) (.t 156) (.v (.bool false))⟩, ⟨(some 158), none, .mv (.t 157)⟩, ⟨(some 159), (some (158, true)), .call (.f 30) []⟩, ⟨(some 160), none, .pick (.t 158) (.t 159) (.v (.bool false))⟩, ⟨(some 2), none, .mv (.t 160)⟩] (some ⟨[2], [], []⟩))
  .ret))))))))))))))))
theorem c_iw : compileCode Try.prog Try.f7.ntmps (Try.f7.body.getD .skip) A_iw = some (C_iw, []) := by kernel_rfl
theorem r_iw : compileRes Try.prog Try.f7.results.toList = some [.t 2] := by kernel_rfl
theorem b_iw : Try.f7.body = some (Try.f7.body.getD .skip) := by kernel_rfl
theorem n_iw : (Try.f7.name == "runtime.NumGoroutine") = false := by kernel_rfl
theorem fc_iw {xt : Option (List Cel)} {args : List Val} {R : List Cel → Val → Prop} (hn : (if xt.isSome then 1 else 0) + args.length ≤ Try.f7.ntmps) (h : ex Try.prog C_iw [] (fpost xt [.t 2] R) (initSt xt args)) : FC Try.prog 7 xt args R :=
  fc_of_awp Try.func7 b_iw n_iw c_iw r_iw (of_decide_eq_true (by kernel_rfl)) hn h


theorem orSp_ne {a : Int} (h : ¬a = 0) (l : List Int) : orSp (a :: l) = a := by rw [orSp, if_pos h]
theorem orSp_z (l : List Int) : orSp (0 :: l) = orSp l := by rw [orSp, if_neg (by simp)]
theorem orSp_1 (a : Int) : orSp [a] = a := by rw [orSp]; split <;> simp_all [orSp]
theorem abvSp_ok {l : List Smp} {f t L : Int} (h1 : bothFault l f t = 0) (h2 : limF L = 0) : abvSp l f t L = ((abW L f t l).1, (abW L f t l).2, 0) := by
  unfold abvSp; rw [if_neg (by omega), if_neg (by omega)]
theorem abW_len (L f t : Int) (l : List Smp) : (abW L f t l).1.length ≤ l.length := by
  have h : ∀ (m : List Pc) (x : List (Int × Int) × Int), (m.foldl (abStep L) x).1.length ≤ x.1.length + m.length := by
    intro m
    induction m with
    | nil => intro x; simp
    | cons p r ih =>
      intro x
      rw [List.foldl_cons, List.length_cons]
      have h1 := ih (abStep L x p)
      have h2 : (abStep L x p).1.length ≤ x.1.length + 1 := by
        unfold abStep
        split
        · omega
        · simp only []
          split
          · rw [setTo_len]; omega
          · simp
      omega
  have h1 := h (vals f t l) ([], 0)
  have h2 := vals_len f t l
  unfold abW
  simp only [List.length_nil, Nat.zero_add] at h1
  omega
theorem bksGo_len (l : List Smp) (ev to : Int) : ∀ (n : Nat) (a : Int), (bksGo l ev to n a).length ≤ n
  | 0, a => by simp [bksGo]
  | n + 1, a => by
    rw [bksGo]
    split
    · have := bksGo_len l ev to n (a + ev)
      rw [List.length_cons]; omega
    · simp
def eqBSt (fr fr' : Bool) (l : List Bk) (i : Int) : AS := ⟨tabV [(0, bksV fr l), (1, bksV fr' l), (12, iv l.length), (13, iv i)], tabO [], tabO []⟩
theorem eqBk_fc (fr fr' : Bool) (l : List Bk) (hl : l.length ≤ 4611686018427387904) : FC Try.prog 62 none [bksV fr l, bksV fr' l] (fun _ r => r = bv true) := by
  refine fc_eqBk (by simp +arith) ?_
  unfold C_eqBk
  simp (maxSteps := 1000000) (disch := omega) only [go_sem, eq_self, decide_true, decide_false, not_true_eq_false, not_false_eq_true, reduceIte, reduceCtorEq, Nat.reduceEqDiff, Nat.reduceAdd, Nat.reduceSub, Nat.reduceLeDiff]
  refine ex_loop1 (eqBSt fr fr' l) (fun i => 0 ≤ i ∧ i ≤ l.length) (fun i => (l.length - i).toNat) 0 ⟨by omega, by omega⟩ rfl ?_
  rintro i ⟨g1, g2⟩
  unfold eqBSt
  by_cases hi : i < l.length
  · simp (maxSteps := 1000000) (disch := omega) only [go_sem, eq_self, decide_true, decide_false, not_true_eq_false, not_false_eq_true, reduceIte, reduceCtorEq, Nat.reduceEqDiff, Nat.reduceAdd, Nat.reduceSub, Nat.reduceLeDiff]
    exact ⟨_, rfl, ⟨by omega, by omega⟩, by omega⟩
  · simp (maxSteps := 1000000) (disch := omega) only [go_sem, eq_self, decide_true, decide_false, not_true_eq_false, not_false_eq_true, reduceIte, reduceCtorEq, Nat.reduceEqDiff, Nat.reduceAdd, Nat.reduceSub, Nat.reduceLeDiff]
def eqWSt (fr fr' : Bool) (l : List (Int × Int)) (i : Int) : AS := ⟨tabV [(0, frsV fr l), (1, frsV fr' l), (12, iv l.length), (13, iv i)], tabO [], tabO []⟩
theorem eqWin_fc (fr fr' : Bool) (l : List (Int × Int)) (hl : l.length ≤ 4611686018427387904) : FC Try.prog 63 none [frsV fr l, frsV fr' l] (fun _ r => r = bv true) := by
  refine fc_eqWin (by simp +arith) ?_
  unfold C_eqWin
  simp (maxSteps := 1000000) (disch := omega) only [go_sem, eq_self, decide_true, decide_false, not_true_eq_false, not_false_eq_true, reduceIte, reduceCtorEq, Nat.reduceEqDiff, Nat.reduceAdd, Nat.reduceSub, Nat.reduceLeDiff]
  refine ex_loop1 (eqWSt fr fr' l) (fun i => 0 ≤ i ∧ i ≤ l.length) (fun i => (l.length - i).toNat) 0 ⟨by omega, by omega⟩ rfl ?_
  rintro i ⟨g1, g2⟩
  unfold eqWSt
  by_cases hi : i < l.length
  · simp (maxSteps := 1000000) (disch := omega) only [go_sem, eq_self, decide_true, decide_false, not_true_eq_false, not_false_eq_true, reduceIte, reduceCtorEq, Nat.reduceEqDiff, Nat.reduceAdd, Nat.reduceSub, Nat.reduceLeDiff]
    exact ⟨_, rfl, ⟨by omega, by omega⟩, by omega⟩
  · simp (maxSteps := 1000000) (disch := omega) only [go_sem, eq_self, decide_true, decide_false, not_true_eq_false, not_false_eq_true, reduceIte, reduceCtorEq, Nat.reduceEqDiff, Nat.reduceAdd, Nat.reduceSub, Nat.reduceLeDiff]
theorem bkss_ok {l : List Smp} {f t ev : Int} (h1 : bothFault l f t = 0) (h2 : evFault f t ev = 0) : bksSp l f t ev = (bks l f t ev, 0) := by
  have : ptsFault l f t ev = 0 := by unfold ptsFault; rw [if_neg (by omega)]; exact h2
  unfold bksSp; rw [if_neg (by omega)]
theorem bkss_ev {l : List Smp} {f t ev : Int} (h1 : bothFault l f t = 0) (h2 : ¬evFault f t ev = 0) : bksSp l f t ev = ([], evFault f t ev) := by
  have : ptsFault l f t ev = evFault f t ev := by unfold ptsFault; rw [if_neg (by omega)]
  unfold bksSp; rw [if_pos (by omega), this]
theorem bkss_no {l : List Smp} {f t : Int} (ev : Int) (h1 : ¬bothFault l f t = 0) : bksSp l f t ev = ([], bothFault l f t) := by
  have : ptsFault l f t ev = bothFault l f t := by unfold ptsFault; rw [if_pos h1]
  unfold bksSp; rw [if_pos (by omega), this]
theorem abvs_lim {l : List Smp} {f t L : Int} (h1 : bothFault l f t = 0) (h2 : ¬limF L = 0) : abvSp l f t L = ([], 0, limF L) := by
  unfold abvSp; rw [if_neg (by omega), if_pos h2]
theorem abvs_no {l : List Smp} {f t : Int} (L : Int) (h1 : ¬bothFault l f t = 0) : abvSp l f t L = ([], 0, bothFault l f t) := by
  unfold abvSp; rw [if_pos h1]
theorem cmps_ok {a b : List Smp} {f t w : Int} (h : cmpF a b f t w = 0) : cmpSp a b f t w = (S2 allB (vals f t b) (vals f t a), S2 (farB w) (vals f t b) (vals f t a), 0) := by
  unfold cmpSp; rw [if_neg (by omega)]
theorem cmps_no {a b : List Smp} {f t w : Int} (h : ¬cmpF a b f t w = 0) : cmpSp a b f t w = (0, 0, cmpF a b f t w) := by
  unfold cmpSp; rw [if_pos h]
theorem cmpF_4 (a b : List Smp) (f t w : Int) : orSp [serFault a, serFault b, winFault f t, if 0 ≤ w ∧ w ≤ 2000000 then 0 else 1] = cmpF a b f t w := by
  unfold cmpF bothFault
  simp only [orSp]
  by_cases h : serFault b = 0
  · simp [h]
  · simp [h]
theorem cmpF_z {a b : List Smp} {f t w : Int} (h : cmpF a b f t w = 0) : serFault a = 0 ∧ serFault b = 0 ∧ winFault f t = 0 := by
  rw [cmpF_cons] at h
  split at h
  · omega
  · rename_i h2
    obtain ⟨h3, h4⟩ := or2_z' (a := serFault a) (b := bothFault b f t) (by omega)
    exact ⟨h3, bothFault_ok h4⟩
set_option maxHeartbeats 12000000 in
theorem iw_fc (L : List Int) (hL : ∀ x ∈ L, I64 x) (hl : L.length ≤ 9223372036854775807) : FC Try.prog 7 none [ints false L] (fun _ r => r = bv true) := by
  refine fc_iw (by simp +arith) ?_
  unfold C_iw
  simp (maxSteps := 1000000) (disch := omega) only [go_sem, eq_self, decide_true, decide_false, not_true_eq_false, not_false_eq_true, reduceIte, reduceCtorEq, Nat.reduceEqDiff, Nat.reduceAdd, Nat.reduceSub, Nat.reduceLeDiff]
  refine callx_gen (p := 0) (curve_fc 9 (by omega) (by omega)) hL hl (by omega) (by omega) ⟨_, [], by simp, by simp, rfl⟩ ?_
  rintro pa r ha1 ha2 ⟨c, hcl, hc64, rfl⟩
  refine ⟨rfl, ?_⟩
  unfold strm
  simp (maxSteps := 1000000) (disch := omega) only [go_sem, eq_self, decide_true, decide_false, not_true_eq_false, not_false_eq_true, reduceIte, reduceCtorEq, Nat.reduceEqDiff, Nat.reduceAdd, Nat.reduceSub, Nat.reduceLeDiff]
  refine callx_gen (curve_fc 9 (by omega) (by omega)) hL hl (by omega) (by omega) ⟨_, [], by simp, by simp, rfl⟩ ?_
  rintro pb r hb1 hb2 ⟨d, hdl, hd64, rfl⟩
  refine ⟨rfl, ?_⟩
  unfold strm
  simp (maxSteps := 1000000) (disch := omega) only [go_sem, eq_self, decide_true, decide_false, not_true_eq_false, not_false_eq_true, reduceIte, reduceCtorEq, Nat.reduceEqDiff, Nat.reduceAdd, Nat.reduceSub, Nat.reduceLeDiff]
  refine callx_gen aspan_fc hL hl (by omega) (by omega) ⟨_, 0, 0, by simp [I64], by simp [I64], rfl⟩ ?_
  rintro pd r had hbd ⟨f, t, hf, ht, rfl⟩
  refine ⟨rfl, ?_⟩
  unfold strm
  simp (maxSteps := 1000000) (disch := omega) only [go_sem, eq_self, decide_true, decide_false, not_true_eq_false, not_false_eq_true, reduceIte, reduceCtorEq, Nat.reduceEqDiff, Nat.reduceAdd, Nat.reduceSub, Nat.reduceLeDiff]
  refine callx_gen (pick_fc false [1, 7, 20, 0] (by simp) (by simp)) hL hl (by omega) (by omega) ⟨_, 1, by simp, rfl⟩ ?_
  rintro pe r hae hbe ⟨ze, hze, rfl⟩
  refine ⟨rfl, ?_⟩
  unfold strm
  simp only [List.mem_cons, List.not_mem_nil, or_false] at hze
  simp (maxSteps := 1000000) (disch := omega) only [go_sem, eq_self, decide_true, decide_false, not_true_eq_false, not_false_eq_true, reduceIte, reduceCtorEq, Nat.reduceEqDiff, Nat.reduceAdd, Nat.reduceSub, Nat.reduceLeDiff]
  refine callx_gen alimit_fc hL hl (by omega) (by omega) ⟨_, 0, by simp [I64], rfl⟩ ?_
  rintro pf r haf hbf ⟨lim, hlim, rfl⟩
  refine ⟨rfl, ?_⟩
  unfold strm
  simp (maxSteps := 1000000) (disch := omega) only [go_sem, eq_self, decide_true, decide_false, not_true_eq_false, not_false_eq_true, reduceIte, reduceCtorEq, Nat.reduceEqDiff, Nat.reduceAdd, Nat.reduceSub, Nat.reduceLeDiff]
  refine callx_gen (pick_fc false [0, 1, 3, -1] (by simp) (by simp)) hL hl (by omega) (by omega) ⟨_, 0, by simp, rfl⟩ ?_
  rintro pw r haw hbw ⟨zw, hzw, rfl⟩
  refine ⟨rfl, ?_⟩
  unfold strm
  simp only [List.mem_cons, List.not_mem_nil, or_false] at hzw
  simp (maxSteps := 1000000) (disch := omega) only [go_sem, eq_self, decide_true, decide_false, not_true_eq_false, not_false_eq_true, reduceIte, reduceCtorEq, Nat.reduceEqDiff, Nat.reduceAdd, Nat.reduceSub, Nat.reduceLeDiff]
  refine CALL_det (seriesFault_fc c (by omega)) (.inl rfl) ?_
  simp (maxSteps := 1000000) (disch := omega) only [go_sem, eq_self, decide_true, decide_false, not_true_eq_false, not_false_eq_true, reduceIte, reduceCtorEq, Nat.reduceEqDiff, Nat.reduceAdd, Nat.reduceSub, Nat.reduceLeDiff]
  refine CALL_det (windowFault_fc f t) (.inl rfl) ?_
  simp (maxSteps := 1000000) (disch := omega) only [go_sem, eq_self, decide_true, decide_false, not_true_eq_false, not_false_eq_true, reduceIte, reduceCtorEq, Nat.reduceEqDiff, Nat.reduceAdd, Nat.reduceSub, Nat.reduceLeDiff]
  refine CALL_det (orE_fc false [serFault c, winFault f t] (by simp)) (.inl rfl) ?_
  rw [bothFault_or]
  simp (maxSteps := 1000000) (disch := omega) only [go_sem, eq_self, decide_true, decide_false, not_true_eq_false, not_false_eq_true, reduceIte, reduceCtorEq, Nat.reduceEqDiff, Nat.reduceAdd, Nat.reduceSub, Nat.reduceLeDiff]
  refine CALL_det (buckets_fc c (by omega) f t ze) (.inl rfl) ?_
  simp (maxSteps := 1000000) (disch := omega) only [go_sem, eq_self, decide_true, decide_false, not_true_eq_false, not_false_eq_true, reduceIte, reduceCtorEq, Nat.reduceEqDiff, Nat.reduceAdd, Nat.reduceSub, Nat.reduceLeDiff]
  refine CALL_det (above_fc c (by omega) f t lim) (.inl rfl) ?_
  simp (maxSteps := 1000000) (disch := omega) only [go_sem, eq_self, decide_true, decide_false, not_true_eq_false, not_false_eq_true, reduceIte, reduceCtorEq, Nat.reduceEqDiff, Nat.reduceAdd, Nat.reduceSub, Nat.reduceLeDiff]
  refine CALL_det (compare_fc c d (by omega) (by omega) f t zw) (.inl rfl) ?_
  simp (maxSteps := 1000000) (disch := omega) only [go_sem, eq_self, decide_true, decide_false, not_true_eq_false, not_false_eq_true, reduceIte, reduceCtorEq, Nat.reduceEqDiff, Nat.reduceAdd, Nat.reduceSub, Nat.reduceLeDiff]
  refine CALL_det (limitFault_fc lim) (.inl rfl) ?_
  simp (maxSteps := 1000000) (disch := omega) only [go_sem, eq_self, decide_true, decide_false, not_true_eq_false, not_false_eq_true, reduceIte, reduceCtorEq, Nat.reduceEqDiff, Nat.reduceAdd, Nat.reduceSub, Nat.reduceLeDiff]
  refine CALL_det (orE_fc false [bothFault c f t, limF lim] (by simp)) (.inl rfl) ?_
  simp (maxSteps := 1000000) (disch := omega) only [go_sem, eq_self, decide_true, decide_false, not_true_eq_false, not_false_eq_true, reduceIte, reduceCtorEq, Nat.reduceEqDiff, Nat.reduceAdd, Nat.reduceSub, Nat.reduceLeDiff]
  refine CALL_det (seriesFault_fc c (by omega)) (.inl rfl) ?_
  simp (maxSteps := 1000000) (disch := omega) only [go_sem, eq_self, decide_true, decide_false, not_true_eq_false, not_false_eq_true, reduceIte, reduceCtorEq, Nat.reduceEqDiff, Nat.reduceAdd, Nat.reduceSub, Nat.reduceLeDiff]
  refine CALL_det (seriesFault_fc d (by omega)) (.inl rfl) ?_
  simp (maxSteps := 1000000) (disch := omega) only [go_sem, eq_self, decide_true, decide_false, not_true_eq_false, not_false_eq_true, reduceIte, reduceCtorEq, Nat.reduceEqDiff, Nat.reduceAdd, Nat.reduceSub, Nat.reduceLeDiff]
  refine CALL_det (windowFault_fc f t) (.inl rfl) ?_
  simp (maxSteps := 1000000) (disch := omega) only [go_sem, eq_self, decide_true, decide_false, not_true_eq_false, not_false_eq_true, reduceIte, reduceCtorEq, Nat.reduceEqDiff, Nat.reduceAdd, Nat.reduceSub, Nat.reduceLeDiff]
  refine CALL_det (spanFault1_fc zw 0 2000000) (.inl rfl) ?_
  simp (maxSteps := 1000000) (disch := omega) only [go_sem, eq_self, decide_true, decide_false, not_true_eq_false, not_false_eq_true, reduceIte, reduceCtorEq, Nat.reduceEqDiff, Nat.reduceAdd, Nat.reduceSub, Nat.reduceLeDiff]
  refine CALL_det (orE_fc false [serFault c, serFault d, winFault f t, if 0 ≤ zw ∧ zw ≤ 2000000 then 0 else 1] (by simp)) (.inl rfl) ?_
  rw [cmpF_4]
  by_cases h1 : bothFault c f t = 0
  · have hs := (bothFault_ok h1).1
    have hwf := (bothFault_ok h1).2
    have hw := winFault_ok hwf
    have hbl : (bks c f t ze).length ≤ (t - f).toNat := bksGo_len c ze t _ f
    have hwl := abW_len lim f t c
    rw [h1, orSp_z, orSp_1]
    by_cases h2 : evFault f t ze = 0
    · by_cases h3 : limF lim = 0
      · by_cases h4 : cmpF c d f t zw = 0
        · rw [bkss_ok h1 h2, abvSp_ok h1 h3, h3, cmps_ok h4, h4]
          simp (maxSteps := 1000000) (disch := omega) only [go_sem, eq_self, decide_true, decide_false, not_true_eq_false, not_false_eq_true, reduceIte, reduceCtorEq, Nat.reduceEqDiff, Nat.reduceAdd, Nat.reduceSub, Nat.reduceLeDiff]
          refine CALL_det (everyFault1_fc f t ze hwf) (.inl rfl) ?_
          rw [h2]
          simp (maxSteps := 1000000) (disch := omega) only [go_sem, eq_self, decide_true, decide_false, not_true_eq_false, not_false_eq_true, reduceIte, reduceCtorEq, Nat.reduceEqDiff, Nat.reduceAdd, Nat.reduceSub, Nat.reduceLeDiff]
          refine CALL_det (bucketsOf_fc c hs f t ze hw (evFault_ok h2)) (.inl rfl) ?_
          simp (maxSteps := 1000000) (disch := omega) only [go_sem, eq_self, decide_true, decide_false, not_true_eq_false, not_false_eq_true, reduceIte, reduceCtorEq, Nat.reduceEqDiff, Nat.reduceAdd, Nat.reduceSub, Nat.reduceLeDiff]
          refine CALL_det (aboveOf_fc c hs f t lim hw) (.inl rfl) ?_
          simp (maxSteps := 1000000) (disch := omega) only [go_sem, eq_self, decide_true, decide_false, not_true_eq_false, not_false_eq_true, reduceIte, reduceCtorEq, Nat.reduceEqDiff, Nat.reduceAdd, Nat.reduceSub, Nat.reduceLeDiff]
          refine CALL_det (comparedOf_fc c d hs (cmpF_z h4).2.1 hcl hdl f t zw hw) (.inl rfl) ?_
          simp (maxSteps := 1000000) (disch := omega) only [go_sem, eq_self, decide_true, decide_false, not_true_eq_false, not_false_eq_true, reduceIte, reduceCtorEq, Nat.reduceEqDiff, Nat.reduceAdd, Nat.reduceSub, Nat.reduceLeDiff]
          refine CALL_det (eqBk_fc _ _ (bks c f t ze) (by omega)) (.inl rfl) ?_
          simp (maxSteps := 1000000) (disch := omega) only [go_sem, eq_self, decide_true, decide_false, not_true_eq_false, not_false_eq_true, reduceIte, reduceCtorEq, Nat.reduceEqDiff, Nat.reduceAdd, Nat.reduceSub, Nat.reduceLeDiff]
          refine CALL_det (eqWin_fc _ _ (abW lim f t c).1 (by omega)) (.inl rfl) ?_
          simp (maxSteps := 1000000) (disch := omega) only [go_sem, eq_self, decide_true, decide_false, not_true_eq_false, not_false_eq_true, reduceIte, reduceCtorEq, Nat.reduceEqDiff, Nat.reduceAdd, Nat.reduceSub, Nat.reduceLeDiff]
          refine CALL_det queried_fc (.inl rfl) ?_
          simp (maxSteps := 1000000) (disch := omega) only [go_sem, eq_self, decide_true, decide_false, not_true_eq_false, not_false_eq_true, reduceIte, reduceCtorEq, Nat.reduceEqDiff, Nat.reduceAdd, Nat.reduceSub, Nat.reduceLeDiff]
        · rw [bkss_ok h1 h2, abvSp_ok h1 h3, h3, cmps_no h4]
          simp (maxSteps := 1000000) (disch := omega) only [go_sem, eq_self, decide_true, decide_false, not_true_eq_false, not_false_eq_true, reduceIte, reduceCtorEq, Nat.reduceEqDiff, Nat.reduceAdd, Nat.reduceSub, Nat.reduceLeDiff]
          refine CALL_det (everyFault1_fc f t ze hwf) (.inl rfl) ?_
          rw [h2]
          simp (maxSteps := 1000000) (disch := omega) only [go_sem, eq_self, decide_true, decide_false, not_true_eq_false, not_false_eq_true, reduceIte, reduceCtorEq, Nat.reduceEqDiff, Nat.reduceAdd, Nat.reduceSub, Nat.reduceLeDiff]
          refine CALL_det (bucketsOf_fc c hs f t ze hw (evFault_ok h2)) (.inl rfl) ?_
          simp (maxSteps := 1000000) (disch := omega) only [go_sem, eq_self, decide_true, decide_false, not_true_eq_false, not_false_eq_true, reduceIte, reduceCtorEq, Nat.reduceEqDiff, Nat.reduceAdd, Nat.reduceSub, Nat.reduceLeDiff]
          refine CALL_det (aboveOf_fc c hs f t lim hw) (.inl rfl) ?_
          simp (maxSteps := 1000000) (disch := omega) only [go_sem, eq_self, decide_true, decide_false, not_true_eq_false, not_false_eq_true, reduceIte, reduceCtorEq, Nat.reduceEqDiff, Nat.reduceAdd, Nat.reduceSub, Nat.reduceLeDiff]
          refine CALL_det (eqBk_fc _ _ (bks c f t ze) (by omega)) (.inl rfl) ?_
          simp (maxSteps := 1000000) (disch := omega) only [go_sem, eq_self, decide_true, decide_false, not_true_eq_false, not_false_eq_true, reduceIte, reduceCtorEq, Nat.reduceEqDiff, Nat.reduceAdd, Nat.reduceSub, Nat.reduceLeDiff]
          refine CALL_det (eqWin_fc _ _ (abW lim f t c).1 (by omega)) (.inl rfl) ?_
          simp (maxSteps := 1000000) (disch := omega) only [go_sem, eq_self, decide_true, decide_false, not_true_eq_false, not_false_eq_true, reduceIte, reduceCtorEq, Nat.reduceEqDiff, Nat.reduceAdd, Nat.reduceSub, Nat.reduceLeDiff]
          refine CALL_det queried_fc (.inl rfl) ?_
          simp (maxSteps := 1000000) (disch := omega) only [go_sem, eq_self, decide_true, decide_false, not_true_eq_false, not_false_eq_true, reduceIte, reduceCtorEq, Nat.reduceEqDiff, Nat.reduceAdd, Nat.reduceSub, Nat.reduceLeDiff]
      · by_cases h4 : cmpF c d f t zw = 0
        · rw [bkss_ok h1 h2, abvs_lim h1 h3, cmps_ok h4, h4]
          simp (maxSteps := 1000000) (disch := omega) only [go_sem, eq_self, decide_true, decide_false, not_true_eq_false, not_false_eq_true, reduceIte, reduceCtorEq, Nat.reduceEqDiff, Nat.reduceAdd, Nat.reduceSub, Nat.reduceLeDiff]
          refine CALL_det (everyFault1_fc f t ze hwf) (.inl rfl) ?_
          rw [h2]
          simp (maxSteps := 1000000) (disch := omega) only [go_sem, eq_self, decide_true, decide_false, not_true_eq_false, not_false_eq_true, reduceIte, reduceCtorEq, Nat.reduceEqDiff, Nat.reduceAdd, Nat.reduceSub, Nat.reduceLeDiff]
          refine CALL_det (bucketsOf_fc c hs f t ze hw (evFault_ok h2)) (.inl rfl) ?_
          simp (maxSteps := 1000000) (disch := omega) only [go_sem, eq_self, decide_true, decide_false, not_true_eq_false, not_false_eq_true, reduceIte, reduceCtorEq, Nat.reduceEqDiff, Nat.reduceAdd, Nat.reduceSub, Nat.reduceLeDiff]
          refine CALL_det (comparedOf_fc c d hs (cmpF_z h4).2.1 hcl hdl f t zw hw) (.inl rfl) ?_
          simp (maxSteps := 1000000) (disch := omega) only [go_sem, eq_self, decide_true, decide_false, not_true_eq_false, not_false_eq_true, reduceIte, reduceCtorEq, Nat.reduceEqDiff, Nat.reduceAdd, Nat.reduceSub, Nat.reduceLeDiff]
          refine CALL_det (eqBk_fc _ _ (bks c f t ze) (by omega)) (.inl rfl) ?_
          simp (maxSteps := 1000000) (disch := omega) only [go_sem, eq_self, decide_true, decide_false, not_true_eq_false, not_false_eq_true, reduceIte, reduceCtorEq, Nat.reduceEqDiff, Nat.reduceAdd, Nat.reduceSub, Nat.reduceLeDiff]
          refine CALL_det (eqWin_fc _ _ [] (by simp)) (.inl rfl) ?_
          simp (maxSteps := 1000000) (disch := omega) only [go_sem, eq_self, decide_true, decide_false, not_true_eq_false, not_false_eq_true, reduceIte, reduceCtorEq, Nat.reduceEqDiff, Nat.reduceAdd, Nat.reduceSub, Nat.reduceLeDiff]
          refine CALL_det queried_fc (.inl rfl) ?_
          simp (maxSteps := 1000000) (disch := omega) only [go_sem, eq_self, decide_true, decide_false, not_true_eq_false, not_false_eq_true, reduceIte, reduceCtorEq, Nat.reduceEqDiff, Nat.reduceAdd, Nat.reduceSub, Nat.reduceLeDiff]
        · rw [bkss_ok h1 h2, abvs_lim h1 h3, cmps_no h4]
          simp (maxSteps := 1000000) (disch := omega) only [go_sem, eq_self, decide_true, decide_false, not_true_eq_false, not_false_eq_true, reduceIte, reduceCtorEq, Nat.reduceEqDiff, Nat.reduceAdd, Nat.reduceSub, Nat.reduceLeDiff]
          refine CALL_det (everyFault1_fc f t ze hwf) (.inl rfl) ?_
          rw [h2]
          simp (maxSteps := 1000000) (disch := omega) only [go_sem, eq_self, decide_true, decide_false, not_true_eq_false, not_false_eq_true, reduceIte, reduceCtorEq, Nat.reduceEqDiff, Nat.reduceAdd, Nat.reduceSub, Nat.reduceLeDiff]
          refine CALL_det (bucketsOf_fc c hs f t ze hw (evFault_ok h2)) (.inl rfl) ?_
          simp (maxSteps := 1000000) (disch := omega) only [go_sem, eq_self, decide_true, decide_false, not_true_eq_false, not_false_eq_true, reduceIte, reduceCtorEq, Nat.reduceEqDiff, Nat.reduceAdd, Nat.reduceSub, Nat.reduceLeDiff]
          refine CALL_det (eqBk_fc _ _ (bks c f t ze) (by omega)) (.inl rfl) ?_
          simp (maxSteps := 1000000) (disch := omega) only [go_sem, eq_self, decide_true, decide_false, not_true_eq_false, not_false_eq_true, reduceIte, reduceCtorEq, Nat.reduceEqDiff, Nat.reduceAdd, Nat.reduceSub, Nat.reduceLeDiff]
          refine CALL_det (eqWin_fc _ _ [] (by simp)) (.inl rfl) ?_
          simp (maxSteps := 1000000) (disch := omega) only [go_sem, eq_self, decide_true, decide_false, not_true_eq_false, not_false_eq_true, reduceIte, reduceCtorEq, Nat.reduceEqDiff, Nat.reduceAdd, Nat.reduceSub, Nat.reduceLeDiff]
          refine CALL_det queried_fc (.inl rfl) ?_
          simp (maxSteps := 1000000) (disch := omega) only [go_sem, eq_self, decide_true, decide_false, not_true_eq_false, not_false_eq_true, reduceIte, reduceCtorEq, Nat.reduceEqDiff, Nat.reduceAdd, Nat.reduceSub, Nat.reduceLeDiff]
    · by_cases h3 : limF lim = 0
      · by_cases h4 : cmpF c d f t zw = 0
        · rw [bkss_ev h1 h2, abvSp_ok h1 h3, h3, cmps_ok h4, h4]
          simp (maxSteps := 1000000) (disch := omega) only [go_sem, eq_self, decide_true, decide_false, not_true_eq_false, not_false_eq_true, reduceIte, reduceCtorEq, Nat.reduceEqDiff, Nat.reduceAdd, Nat.reduceSub, Nat.reduceLeDiff]
          refine CALL_det (everyFault1_fc f t ze hwf) (.inl rfl) ?_
          simp (maxSteps := 1000000) (disch := omega) only [go_sem, eq_self, decide_true, decide_false, not_true_eq_false, not_false_eq_true, reduceIte, reduceCtorEq, Nat.reduceEqDiff, Nat.reduceAdd, Nat.reduceSub, Nat.reduceLeDiff]
          refine CALL_det (aboveOf_fc c hs f t lim hw) (.inl rfl) ?_
          simp (maxSteps := 1000000) (disch := omega) only [go_sem, eq_self, decide_true, decide_false, not_true_eq_false, not_false_eq_true, reduceIte, reduceCtorEq, Nat.reduceEqDiff, Nat.reduceAdd, Nat.reduceSub, Nat.reduceLeDiff]
          refine CALL_det (comparedOf_fc c d hs (cmpF_z h4).2.1 hcl hdl f t zw hw) (.inl rfl) ?_
          simp (maxSteps := 1000000) (disch := omega) only [go_sem, eq_self, decide_true, decide_false, not_true_eq_false, not_false_eq_true, reduceIte, reduceCtorEq, Nat.reduceEqDiff, Nat.reduceAdd, Nat.reduceSub, Nat.reduceLeDiff]
          refine CALL_det (eqBk_fc _ _ [] (by simp)) (.inl rfl) ?_
          simp (maxSteps := 1000000) (disch := omega) only [go_sem, eq_self, decide_true, decide_false, not_true_eq_false, not_false_eq_true, reduceIte, reduceCtorEq, Nat.reduceEqDiff, Nat.reduceAdd, Nat.reduceSub, Nat.reduceLeDiff]
          refine CALL_det (eqWin_fc _ _ (abW lim f t c).1 (by omega)) (.inl rfl) ?_
          simp (maxSteps := 1000000) (disch := omega) only [go_sem, eq_self, decide_true, decide_false, not_true_eq_false, not_false_eq_true, reduceIte, reduceCtorEq, Nat.reduceEqDiff, Nat.reduceAdd, Nat.reduceSub, Nat.reduceLeDiff]
          refine CALL_det queried_fc (.inl rfl) ?_
          simp (maxSteps := 1000000) (disch := omega) only [go_sem, eq_self, decide_true, decide_false, not_true_eq_false, not_false_eq_true, reduceIte, reduceCtorEq, Nat.reduceEqDiff, Nat.reduceAdd, Nat.reduceSub, Nat.reduceLeDiff]
        · rw [bkss_ev h1 h2, abvSp_ok h1 h3, h3, cmps_no h4]
          simp (maxSteps := 1000000) (disch := omega) only [go_sem, eq_self, decide_true, decide_false, not_true_eq_false, not_false_eq_true, reduceIte, reduceCtorEq, Nat.reduceEqDiff, Nat.reduceAdd, Nat.reduceSub, Nat.reduceLeDiff]
          refine CALL_det (everyFault1_fc f t ze hwf) (.inl rfl) ?_
          simp (maxSteps := 1000000) (disch := omega) only [go_sem, eq_self, decide_true, decide_false, not_true_eq_false, not_false_eq_true, reduceIte, reduceCtorEq, Nat.reduceEqDiff, Nat.reduceAdd, Nat.reduceSub, Nat.reduceLeDiff]
          refine CALL_det (aboveOf_fc c hs f t lim hw) (.inl rfl) ?_
          simp (maxSteps := 1000000) (disch := omega) only [go_sem, eq_self, decide_true, decide_false, not_true_eq_false, not_false_eq_true, reduceIte, reduceCtorEq, Nat.reduceEqDiff, Nat.reduceAdd, Nat.reduceSub, Nat.reduceLeDiff]
          refine CALL_det (eqBk_fc _ _ [] (by simp)) (.inl rfl) ?_
          simp (maxSteps := 1000000) (disch := omega) only [go_sem, eq_self, decide_true, decide_false, not_true_eq_false, not_false_eq_true, reduceIte, reduceCtorEq, Nat.reduceEqDiff, Nat.reduceAdd, Nat.reduceSub, Nat.reduceLeDiff]
          refine CALL_det (eqWin_fc _ _ (abW lim f t c).1 (by omega)) (.inl rfl) ?_
          simp (maxSteps := 1000000) (disch := omega) only [go_sem, eq_self, decide_true, decide_false, not_true_eq_false, not_false_eq_true, reduceIte, reduceCtorEq, Nat.reduceEqDiff, Nat.reduceAdd, Nat.reduceSub, Nat.reduceLeDiff]
          refine CALL_det queried_fc (.inl rfl) ?_
          simp (maxSteps := 1000000) (disch := omega) only [go_sem, eq_self, decide_true, decide_false, not_true_eq_false, not_false_eq_true, reduceIte, reduceCtorEq, Nat.reduceEqDiff, Nat.reduceAdd, Nat.reduceSub, Nat.reduceLeDiff]
      · by_cases h4 : cmpF c d f t zw = 0
        · rw [bkss_ev h1 h2, abvs_lim h1 h3, cmps_ok h4, h4]
          simp (maxSteps := 1000000) (disch := omega) only [go_sem, eq_self, decide_true, decide_false, not_true_eq_false, not_false_eq_true, reduceIte, reduceCtorEq, Nat.reduceEqDiff, Nat.reduceAdd, Nat.reduceSub, Nat.reduceLeDiff]
          refine CALL_det (everyFault1_fc f t ze hwf) (.inl rfl) ?_
          simp (maxSteps := 1000000) (disch := omega) only [go_sem, eq_self, decide_true, decide_false, not_true_eq_false, not_false_eq_true, reduceIte, reduceCtorEq, Nat.reduceEqDiff, Nat.reduceAdd, Nat.reduceSub, Nat.reduceLeDiff]
          refine CALL_det (comparedOf_fc c d hs (cmpF_z h4).2.1 hcl hdl f t zw hw) (.inl rfl) ?_
          simp (maxSteps := 1000000) (disch := omega) only [go_sem, eq_self, decide_true, decide_false, not_true_eq_false, not_false_eq_true, reduceIte, reduceCtorEq, Nat.reduceEqDiff, Nat.reduceAdd, Nat.reduceSub, Nat.reduceLeDiff]
          refine CALL_det (eqBk_fc _ _ [] (by simp)) (.inl rfl) ?_
          simp (maxSteps := 1000000) (disch := omega) only [go_sem, eq_self, decide_true, decide_false, not_true_eq_false, not_false_eq_true, reduceIte, reduceCtorEq, Nat.reduceEqDiff, Nat.reduceAdd, Nat.reduceSub, Nat.reduceLeDiff]
          refine CALL_det (eqWin_fc _ _ [] (by simp)) (.inl rfl) ?_
          simp (maxSteps := 1000000) (disch := omega) only [go_sem, eq_self, decide_true, decide_false, not_true_eq_false, not_false_eq_true, reduceIte, reduceCtorEq, Nat.reduceEqDiff, Nat.reduceAdd, Nat.reduceSub, Nat.reduceLeDiff]
          refine CALL_det queried_fc (.inl rfl) ?_
          simp (maxSteps := 1000000) (disch := omega) only [go_sem, eq_self, decide_true, decide_false, not_true_eq_false, not_false_eq_true, reduceIte, reduceCtorEq, Nat.reduceEqDiff, Nat.reduceAdd, Nat.reduceSub, Nat.reduceLeDiff]
        · rw [bkss_ev h1 h2, abvs_lim h1 h3, cmps_no h4]
          simp (maxSteps := 1000000) (disch := omega) only [go_sem, eq_self, decide_true, decide_false, not_true_eq_false, not_false_eq_true, reduceIte, reduceCtorEq, Nat.reduceEqDiff, Nat.reduceAdd, Nat.reduceSub, Nat.reduceLeDiff]
          refine CALL_det (everyFault1_fc f t ze hwf) (.inl rfl) ?_
          simp (maxSteps := 1000000) (disch := omega) only [go_sem, eq_self, decide_true, decide_false, not_true_eq_false, not_false_eq_true, reduceIte, reduceCtorEq, Nat.reduceEqDiff, Nat.reduceAdd, Nat.reduceSub, Nat.reduceLeDiff]
          refine CALL_det (eqBk_fc _ _ [] (by simp)) (.inl rfl) ?_
          simp (maxSteps := 1000000) (disch := omega) only [go_sem, eq_self, decide_true, decide_false, not_true_eq_false, not_false_eq_true, reduceIte, reduceCtorEq, Nat.reduceEqDiff, Nat.reduceAdd, Nat.reduceSub, Nat.reduceLeDiff]
          refine CALL_det (eqWin_fc _ _ [] (by simp)) (.inl rfl) ?_
          simp (maxSteps := 1000000) (disch := omega) only [go_sem, eq_self, decide_true, decide_false, not_true_eq_false, not_false_eq_true, reduceIte, reduceCtorEq, Nat.reduceEqDiff, Nat.reduceAdd, Nat.reduceSub, Nat.reduceLeDiff]
          refine CALL_det queried_fc (.inl rfl) ?_
          simp (maxSteps := 1000000) (disch := omega) only [go_sem, eq_self, decide_true, decide_false, not_true_eq_false, not_false_eq_true, reduceIte, reduceCtorEq, Nat.reduceEqDiff, Nat.reduceAdd, Nat.reduceSub, Nat.reduceLeDiff]
  · have h4 : ¬cmpF c d f t zw = 0 := fun h => by
      obtain ⟨k1, _, k3⟩ := cmpF_z h
      apply h1; unfold bothFault; rw [if_neg (by omega)]; exact k3
    rw [orSp_ne h1, bkss_no ze h1, abvs_no lim h1, cmps_no h4]
    simp (maxSteps := 1000000) (disch := omega) only [go_sem, eq_self, decide_true, decide_false, not_true_eq_false, not_false_eq_true, reduceIte, reduceCtorEq, Nat.reduceEqDiff, Nat.reduceAdd, Nat.reduceSub, Nat.reduceLeDiff]
    refine CALL_det (eqBk_fc _ _ [] (by simp)) (.inl rfl) ?_
    simp (maxSteps := 1000000) (disch := omega) only [go_sem, eq_self, decide_true, decide_false, not_true_eq_false, not_false_eq_true, reduceIte, reduceCtorEq, Nat.reduceEqDiff, Nat.reduceAdd, Nat.reduceSub, Nat.reduceLeDiff]
    refine CALL_det (eqWin_fc _ _ [] (by simp)) (.inl rfl) ?_
    simp (maxSteps := 1000000) (disch := omega) only [go_sem, eq_self, decide_true, decide_false, not_true_eq_false, not_false_eq_true, reduceIte, reduceCtorEq, Nat.reduceEqDiff, Nat.reduceAdd, Nat.reduceSub, Nat.reduceLeDiff]
    refine CALL_det queried_fc (.inl rfl) ?_
    simp (maxSteps := 1000000) (disch := omega) only [go_sem, eq_self, decide_true, decide_false, not_true_eq_false, not_false_eq_true, reduceIte, reduceCtorEq, Nat.reduceEqDiff, Nat.reduceAdd, Nat.reduceSub, Nat.reduceLeDiff]
theorem iw_own : ownKnob Try.prog.godebug = none := by kernel_rfl
theorem iw_laid : laidOutB Try.prog = true := by kernel_rfl
set_option maxRecDepth 100000 in
theorem iw_lifted (os : Os) (started : os.Started) (H : Type) (enc : TypeId × Value → H) :
    ReturnsInHanded {} Try.checked os 7 .any (Rows.intervalsWeighedSpec.pre6 enc Try.prog Try.f7 Rows.intervalsWeighedRow.domain false) (Rows.intervalsWeighedSpec.post enc Try.prog Try.f7 false true false false) := by
  refine returnsInHanded_of_change (C := Try.checked) iw_own started (by kernel_rfl) Try.func7
    (ChangeSpec.witness6 (enc := enc) (C := Try.checked) false ⟨#[], #[.slice none 0 0], []⟩ 8 (by kernel_rfl) (by kernel_rfl) (by kernel_rfl) (by kernel_rfl)) ?_
  intro W base args ds gs before hval hW _ _
  exact law_contract (P := Try.prog) (fun L h1 h2 => iw_fc L h1 h2) (fun _ _ => rfl) rfl rfl rfl iw_laid (by kernel_rfl) (of_decide_eq_true (by kernel_rfl)) Try.underlying22 Try.underlying3 (by kernel_rfl) Try.underlying4 W base args ds gs before hval hW
theorem iw_over : Rows.intervalsWeighedRow.holds Try.pinned (OpenSpec.ofChange Rows.intervalsWeighedSpec) :=
  OpenClaim.holds_of_wide 7 Try.f7 rfl rfl rfl rfl rfl rfl rfl ⟨rfl, rfl, rfl, rfl, rfl⟩ rfl rfl rfl rfl rfl (by kernel_rfl) Try.func7 (by kernel_rfl)
    (of_decide_eq_true (by kernel_rfl)) (by unfold Func.isWrapper; first | (rw [if_pos (by decide +kernel)]; kernel_rfl) | (rw [if_neg (by decide +kernel)]; exact ⟨rfl, rfl⟩))
    (fun os started H enc _ => iw_lifted os started H enc)
theorem intervals_weighed : Rows.IntervalsWeighedSaid := iw_over
end Go.Proofs.Ytkecmbgjhamhiaa

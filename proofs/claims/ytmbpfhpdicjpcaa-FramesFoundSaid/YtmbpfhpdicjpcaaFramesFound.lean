
/-
  FramesFound returns true for every slice of integers, and leaves the slice as it was: CheckTrigger, Frames, CheckFrames and Overlaps are as the reference says, for all triggers, samples and frames that its generators make of the slice. No condition.
-/
import Derived.Test.YtmbpfhpdicjpcaaFrh
import Derived.Test.YtmbpfhpdicjpcaaAiRow
import Derived.Test.YtmbpfhpdicjpcaaRows
namespace Go.Proofs.Ytmbpfhpdicjpcaa
open Go Go.Ai
set_option linter.unusedSimpArgs false
set_option linter.unusedVariables false
set_option maxHeartbeats 4000000
def A_eqWin : List Ann := [⟨(some ⟨[0,1], [], []⟩), [], [], [], []⟩, ⟨(some ⟨[0,1,10], [], []⟩), [], [], [], []⟩, ⟨(some ⟨[4], [], []⟩), [], [], [], []⟩, ⟨(some ⟨[0,1,12,13], [], []⟩), [], [], [], []⟩, ⟨(some ⟨[0,1,12,13,14], [], []⟩), [], [], [], []⟩, ⟨(some ⟨[0,1,5,12,13], [], []⟩), [], [], [], []⟩, ⟨(some ⟨[0,1,12,13,24], [], []⟩), [], [], [], []⟩, ⟨(some ⟨[4], [], []⟩), [], [], [], []⟩, ⟨(some ⟨[0,1,12,13], [], []⟩), [], [], [], []⟩, ⟨(some ⟨[4], [], []⟩), [], [], [], []⟩]
def C_eqWin : AC := (.seq (.reg false [⟨(some 4), none, .mv (.v (.bool false))⟩] (some ⟨[0,1], [], []⟩))
  (.seq (.seq (.reg false [⟨(some 6), none, .mv (.t 0)⟩, ⟨(some 7), none, .len (.t 6)⟩, ⟨(some 8), none, .mv (.t 1)⟩, ⟨(some 9), none, .len (.t 8)⟩, ⟨(some 10), none, .bin .neq (.t 7) (.t 9)⟩] (some ⟨[0,1,10], [], []⟩))
  (.cond (.t 10)
  (.seq (.reg false [⟨(some 4), none, .mv (.v (.bool false))⟩] (some ⟨[4], [], []⟩))
  .ret)
  .skip))
  (.seq (.seq (.reg false [⟨(some 11), none, .mv (.t 0)⟩, ⟨(some 12), none, .len (.t 11)⟩, ⟨(some 13), none, .mv (.v (.int .i64 (0)))⟩] (some ⟨[0,1,12,13], [], []⟩))
  (.block 0 (.loop (.seq (.reg false [⟨(some 14), none, .bin .lss (.t 13) (.t 12)⟩] (some ⟨[0,1,12,13,14], [], []⟩))
  (.seq (.cond (.t 14)
  .skip
  (.exit 0))
  (.seq (.block 1 (.seq (.reg false [⟨(some 15), none, .mv (.t 13)⟩, ⟨(some 5), none, .mv (.t 15)⟩] (some ⟨[0,1,5,12,13], [], []⟩))
  (.seq (.reg true [⟨(some 16), none, .mv (.t 0)⟩, ⟨(some 17), none, .mv (.t 5)⟩, ⟨(some 18), none, .iadr 2 (.t 16) (.t 17)⟩, ⟨(some 19), none, .load true 2 (.t 18)⟩, ⟨(some 20), none, .mv (.t 1)⟩, ⟨(some 21), none, .mv (.t 5)⟩, ⟨(some 22), none, .iadr 2 (.t 20) (.t 21)⟩, ⟨(some 23), none, .load true 2 (.t 22)⟩, ⟨(some 24), none, .eqs true true [.i .i64, .i .i64] (.t 19) (.t 23)⟩] (some ⟨[0,1,12,13,24], [], []⟩))
  (.cond (.t 24)
  (.seq (.reg false [⟨(some 4), none, .mv (.v (.bool false))⟩] (some ⟨[4], [], []⟩))
  .ret)
  .skip))))
  (.reg false [⟨(some 25), none, .bin .add (.t 13) (.v (.int .i64 (1)))⟩, ⟨(some 13), none, .mv (.t 25)⟩] (some ⟨[0,1,12,13], [], []⟩))))))))
  (.seq (.reg false [⟨(some 4), none, .mv (.v (.bool true))⟩] (some ⟨[4], [], []⟩))
  .ret))))
theorem c_eqWin : compileCode Try.prog Try.f30.ntmps (Try.f30.body.getD .skip) A_eqWin = some (C_eqWin, []) := by kernel_rfl
theorem r_eqWin : compileRes Try.prog Try.f30.results.toList = some [.t 4] := by kernel_rfl
theorem b_eqWin : Try.f30.body = some (Try.f30.body.getD .skip) := by kernel_rfl
theorem n_eqWin : (Try.f30.name == "runtime.NumGoroutine") = false := by kernel_rfl
theorem fc_eqWin {xt : Option (List Cel)} {args : List Val} {R : List Cel → Val → Prop} (hn : (if xt.isSome then 1 else 0) + args.length ≤ Try.f30.ntmps) (h : ex Try.prog C_eqWin [] (fpost xt [.t 4] R) (initSt xt args)) : FC Try.prog 30 xt args R :=
  fc_of_awp Try.func30 b_eqWin n_eqWin c_eqWin r_eqWin (of_decide_eq_true (by kernel_rfl)) hn h

def A_batched : List Ann := [⟨(some ⟨[], [], []⟩), [], [], [], []⟩, ⟨(some ⟨[1,2], [], []⟩), [], [], [], []⟩, ⟨(some ⟨[0], [], []⟩), [], [], [], []⟩]
def C_batched : AC := (.seq (.reg false [⟨(some 0), none, .mv (.v (.bool false))⟩] (some ⟨[], [], []⟩))
  (.seq (.reg false [⟨(some 4), none, .build [(.int .i64 (0)), (.int .i64 (0)), (.int .i64 (0)), (.int .i64 (0))] [(0, 1, (.v (.int .i64 (5)))), (1, 1, (.v (.int .i64 (5))))]⟩, ⟨(some 5), none, .build [(.int .i64 (0)), (.int .i64 (0)), (.int .i64 (0))] [(0, 1, (.v (.int .i64 (3)))), (1, 1, (.v (.int .i64 (6))))]⟩, ⟨(some 6), none, .bslice 3 1 [(.t 5)]⟩, ⟨(some 7), none, .call (.f 23) [(.t 4), (.t 6), (.v (.int .i64 (9)))]⟩, ⟨(some 3), none, .mv (.t 7)⟩, ⟨(some 8), none, .extr (.t 3) 0⟩, ⟨(some 9), none, .extr (.t 3) 1⟩, ⟨(some 1), none, .mv (.t 8)⟩, ⟨(some 2), none, .mv (.t 9)⟩] (some ⟨[1,2], [], []⟩))
  (.seq (.reg false [⟨(some 10), none, .mv (.t 2)⟩, ⟨(some 11), none, .bin .eql (.t 10) (.v (.int .i64 (0)))⟩, ⟨(some 12), none, .mv (.t 11)⟩, ⟨(some 13), (some (12, true)), .mv (.t 1)⟩, ⟨(some 14), (some (12, true)), .build [(.int .i64 (0)), (.int .i64 (0))] [(0, 1, (.v (.int .i64 (3)))), (1, 1, (.v (.int .i64 (9))))]⟩, ⟨(some 15), (some (12, true)), .bslice 2 1 [(.t 14)]⟩, ⟨(some 16), (some (12, true)), .call (.f 30) [(.t 13), (.t 15)]⟩, ⟨(some 17), none, .pick (.t 12) (.t 16) (.v (.bool false))⟩, ⟨(some 0), none, .mv (.t 17)⟩] (some ⟨[0], [], []⟩))
  .ret)))
theorem c_batched : compileCode Try.prog Try.f31.ntmps (Try.f31.body.getD .skip) A_batched = some (C_batched, []) := by kernel_rfl
theorem r_batched : compileRes Try.prog Try.f31.results.toList = some [.t 0] := by kernel_rfl
theorem b_batched : Try.f31.body = some (Try.f31.body.getD .skip) := by kernel_rfl
theorem n_batched : (Try.f31.name == "runtime.NumGoroutine") = false := by kernel_rfl
theorem fc_batched {xt : Option (List Cel)} {args : List Val} {R : List Cel → Val → Prop} (hn : (if xt.isSome then 1 else 0) + args.length ≤ Try.f31.ntmps) (h : ex Try.prog C_batched [] (fpost xt [.t 0] R) (initSt xt args)) : FC Try.prog 31 xt args R :=
  fc_of_awp Try.func31 b_batched n_batched c_batched r_batched (of_decide_eq_true (by kernel_rfl)) hn h

def A_ff : List Ann := [⟨(some ⟨[0], [], []⟩), [], [], [], []⟩, ⟨(some ⟨[3,23], [23], []⟩), [], [], [], []⟩, ⟨(some ⟨[4,5,6,7,8], [4], []⟩), [], [], [], []⟩, ⟨(some ⟨[4,5,6,7,8,9,10], [4], []⟩), [], [], [], []⟩, ⟨(some ⟨[4,5,6,7,8,9,10,48], [4], []⟩), [], [], [], []⟩, ⟨(some ⟨[2], [], []⟩), [], [], [], []⟩, ⟨(some ⟨[4,5,6,7,8,9,10,11,12], [4], []⟩), [], [], [], []⟩, ⟨(some ⟨[4,5,6,7,8,9,10,11,12,13,14,15], [4], []⟩), [], [], [], []⟩, ⟨(some ⟨[4,5,6,7,8,11,12,13,14,15,16,17], [4], []⟩), [], [], [], []⟩, ⟨(some ⟨[4,5,6,7,8,11,12,13,14,15,16,17,18,19], [4], []⟩), [], [], [(18, 2), (19, 2)], []⟩, ⟨(some ⟨[4,5,6,7,8,11,12,13,14,15,16,17,18,19,20], [4], []⟩), [], [], [], []⟩, ⟨(some ⟨[4,5,6,7,8,11,12,13,14,15,16,17,18,19,20,76], [4], []⟩), [], [], [], []⟩, ⟨(some ⟨[7,8,11,12,13,14,15,16,17,18,19,20], [], []⟩), [], [], [], []⟩, ⟨(some ⟨[7,8,11,12,13,14,15,16,17,18,19,20,85], [], []⟩), [], [], [], []⟩, ⟨(some ⟨[11,12,13,14,15,16,17,18,19,20], [], []⟩), [], [], [], []⟩, ⟨(some ⟨[2], [], []⟩), [], [], [], []⟩]
def C_ff : AC := (.seq (.reg false [⟨(some 2), none, .mv (.v (.bool false))⟩] (some ⟨[0], [], []⟩))
  (.seq (.reg false [⟨(some 21), none, .mv (.t 0)⟩, ⟨(some 22), none, .build [(.slice none 0 0), (.int .i64 (0))] [(0, 1, (.t 21))]⟩, ⟨(some 23), none, .box (.t 22)⟩, ⟨(some 3), none, .mv (.t 23)⟩] (some ⟨[3,23], [23], []⟩))
  (.seq (.reg false [⟨(some 24), none, .mv (.t 3)⟩, ⟨(some 25), none, .callx (.f 15) [(.t 24)]⟩, ⟨(some 26), none, .mv (.t 3)⟩, ⟨(some 27), none, .callx (.f 16) [(.t 26), (.v (.int .i64 (12)))]⟩, ⟨(some 28), none, .mv (.t 3)⟩, ⟨(some 29), none, .bslice 1 6 [(.v (.int .i64 (0))), (.v (.int .i64 (30))), (.v (.int .i64 (60))), (.v (.int .i64 (200))), (.v (.int .i64 (345686400000))), (.v (.int .i64 (-1)))]⟩, ⟨(some 30), none, .callx (.f 17) [(.t 28), (.t 29)]⟩, ⟨(some 31), none, .mv (.t 3)⟩, ⟨(some 32), none, .callx (.f 18) [(.t 31)]⟩, ⟨(some 33), none, .mv (.t 3)⟩, ⟨(some 34), none, .callx (.f 18) [(.t 33)]⟩, ⟨(some 4), none, .alloc [(.int .i64 (0)), (.int .i64 (0)), (.int .i64 (0)), (.int .i64 (0))]⟩, ⟨none, none, .store 4 (.t 4) (.t 25)⟩, ⟨(some 5), none, .mv (.t 27)⟩, ⟨(some 6), none, .mv (.t 30)⟩, ⟨(some 7), none, .mv (.t 32)⟩, ⟨(some 8), none, .mv (.t 34)⟩] (some ⟨[4,5,6,7,8], [4], []⟩))
  (.seq (.reg false [⟨(some 35), none, .load true 4 (.t 4)⟩, ⟨(some 36), none, .call (.f 19) [(.t 35)]⟩, ⟨(some 37), none, .mv (.t 7)⟩, ⟨(some 38), none, .call (.f 20) [(.t 37)]⟩, ⟨(some 9), none, .mv (.t 36)⟩, ⟨(some 10), none, .mv (.t 38)⟩] (some ⟨[4,5,6,7,8,9,10], [4], []⟩))
  (.seq (.seq (.reg false [⟨(some 39), none, .load true 4 (.t 4)⟩, ⟨(some 40), none, .call (.f 21) [(.t 39)]⟩, ⟨(some 41), none, .mv (.t 9)⟩, ⟨(some 42), none, .bin .neq (.t 40) (.t 41)⟩, ⟨(some 43), none, .mv (.t 42)⟩, ⟨(some 44), (some (43, false)), .mv (.t 7)⟩, ⟨(some 45), (some (43, false)), .call (.f 22) [(.t 44)]⟩, ⟨(some 46), (some (43, false)), .mv (.t 10)⟩, ⟨(some 47), (some (43, false)), .bin .neq (.t 45) (.t 46)⟩, ⟨(some 48), none, .pick (.t 43) (.v (.bool true)) (.t 47)⟩] (some ⟨[4,5,6,7,8,9,10,48], [4], []⟩))
  (.cond (.t 48)
  (.seq (.reg false [⟨(some 2), none, .mv (.v (.bool false))⟩] (some ⟨[2], [], []⟩))
  .ret)
  .skip))
  (.seq (.reg false [⟨(some 50), none, .load true 4 (.t 4)⟩, ⟨(some 51), none, .mv (.t 5)⟩, ⟨(some 52), none, .mv (.t 6)⟩, ⟨(some 53), none, .call (.f 23) [(.t 50), (.t 51), (.t 52)]⟩, ⟨(some 49), none, .mv (.t 53)⟩, ⟨(some 54), none, .extr (.t 49) 0⟩, ⟨(some 55), none, .extr (.t 49) 1⟩, ⟨(some 11), none, .mv (.t 54)⟩, ⟨(some 12), none, .mv (.t 55)⟩] (some ⟨[4,5,6,7,8,9,10,11,12], [4], []⟩))
  (.seq (.reg false [⟨(some 57), none, .mv (.t 7)⟩, ⟨(some 58), none, .mv (.t 8)⟩, ⟨(some 59), none, .call (.f 24) [(.t 57), (.t 58)]⟩, ⟨(some 56), none, .mv (.t 59)⟩, ⟨(some 60), none, .extr (.t 56) 0⟩, ⟨(some 61), none, .extr (.t 56) 1⟩, ⟨(some 62), none, .extr (.t 56) 2⟩, ⟨(some 13), none, .mv (.t 60)⟩, ⟨(some 14), none, .mv (.t 61)⟩, ⟨(some 15), none, .mv (.t 62)⟩] (some ⟨[4,5,6,7,8,9,10,11,12,13,14,15], [4], []⟩))
  (.seq (.reg false [⟨(some 63), none, .mv (.t 9)⟩, ⟨(some 64), none, .mv (.t 5)⟩, ⟨(some 65), none, .call (.f 26) [(.t 64)]⟩, ⟨(some 66), none, .mv (.t 6)⟩, ⟨(some 67), none, .call (.f 27) [(.t 66), (.v (.int .i64 (0))), (.v (.int .i64 (345686400000)))]⟩, ⟨(some 68), none, .bslice 1 3 [(.t 63), (.t 65), (.t 67)]⟩, ⟨(some 69), none, .call (.f 25) [(.t 68)]⟩, ⟨(some 70), none, .mv (.t 10)⟩, ⟨(some 71), none, .mv (.t 8)⟩, ⟨(some 72), none, .call (.f 20) [(.t 71)]⟩, ⟨(some 73), none, .bslice 1 2 [(.t 70), (.t 72)]⟩, ⟨(some 74), none, .call (.f 25) [(.t 73)]⟩, ⟨(some 16), none, .mv (.t 69)⟩, ⟨(some 17), none, .mv (.t 74)⟩] (some ⟨[4,5,6,7,8,11,12,13,14,15,16,17], [4], []⟩))
  (.seq (.seq (.seq (.reg false [⟨(some 18), none, .mv (.v (.slice none 0 0))⟩, ⟨(some 19), none, .mv (.v (.slice none 0 0))⟩] (some ⟨[4,5,6,7,8,11,12,13,14,15,16,17,18,19], [4], []⟩))
  (.ty 18 2))
  (.ty 19 2))
  (.seq (.reg false [⟨(some 20), none, .mv (.v (.int .i64 (0)))⟩] (some ⟨[4,5,6,7,8,11,12,13,14,15,16,17,18,19,20], [4], []⟩))
  (.seq (.seq (.reg false [⟨(some 75), none, .mv (.t 16)⟩, ⟨(some 76), none, .bin .eql (.t 75) (.v (.int .i64 (0)))⟩] (some ⟨[4,5,6,7,8,11,12,13,14,15,16,17,18,19,20,76], [4], []⟩))
  (.cond (.t 76)
  (.reg false [⟨(some 78), none, .load true 4 (.t 4)⟩, ⟨(some 79), none, .mv (.t 5)⟩, ⟨(some 80), none, .mv (.t 6)⟩, ⟨(some 81), none, .call (.f 28) [(.t 78), (.t 79), (.t 80)]⟩, ⟨(some 77), none, .mv (.t 81)⟩, ⟨(some 82), none, .extr (.t 77) 0⟩, ⟨(some 83), none, .extr (.t 77) 1⟩, ⟨(some 18), none, .mv (.t 82)⟩, ⟨(some 16), none, .mv (.t 83)⟩] (some ⟨[7,8,11,12,13,14,15,16,17,18,19,20], [], []⟩))
  .skip))
  (.seq (.seq (.reg false [⟨(some 84), none, .mv (.t 17)⟩, ⟨(some 85), none, .bin .eql (.t 84) (.v (.int .i64 (0)))⟩] (some ⟨[7,8,11,12,13,14,15,16,17,18,19,20,85], [], []⟩))
  (.cond (.t 85)
  (.reg false [⟨(some 87), none, .mv (.t 7)⟩, ⟨(some 88), none, .mv (.t 8)⟩, ⟨(some 89), none, .call (.f 29) [(.t 87), (.t 88)]⟩, ⟨(some 86), none, .mv (.t 89)⟩, ⟨(some 90), none, .extr (.t 86) 0⟩, ⟨(some 91), none, .extr (.t 86) 1⟩, ⟨(some 19), none, .mv (.t 90)⟩, ⟨(some 20), none, .mv (.t 91)⟩] (some ⟨[11,12,13,14,15,16,17,18,19,20], [], []⟩))
  .skip))
  (.seq (.reg false [⟨(some 92), none, .mv (.t 12)⟩, ⟨(some 93), none, .mv (.t 16)⟩, ⟨(some 94), none, .bin .eql (.t 92) (.t 93)⟩, ⟨(some 95), none, .mv (.t 94)⟩, ⟨(some 96), (some (95, true)), .mv (.t 11)⟩, ⟨(some 97), (some (95, true)), .mv (.t 18)⟩, ⟨(some 98), (some (95, true)), .call (.f 30) [(.t 96), (.t 97)]⟩, ⟨(some 99), none, .pick (.t 95) (.t 98) (.v (.bool false))⟩, ⟨(some 100), none, .mv (.t 99)⟩, ⟨(some 101), (some (100, true)), .mv (.t 15)⟩, ⟨(some 102), (some (100, true)), .mv (.t 17)⟩, ⟨(some 103), (some (100, true)), .bin .eql (.t 101) (.t 102)⟩, ⟨(some 104), none, .pick (.t 100) (.t 103) (.v (.bool false))⟩, ⟨(some 105), none, .mv (.t 104)⟩, ⟨(some 106), (some (105, true)), .mv (.t 13)⟩, ⟨(some 107), (some (105, true)), .mv (.t 19)⟩, ⟨(some 108), (some (105, true)), .call (.f 30) [(.t 106), (.t 107)]⟩, ⟨(some 109), none, .pick (.t 105) (.t 108) (.v (.bool false))⟩, ⟨(some 110), none, .mv (.t 109)⟩, ⟨(some 111), (some (110, true)), .mv (.t 14)⟩, ⟨(some 112), (some (110, true)), .mv (.t 20)⟩, ⟨(some 113), (some (110, true)), .bin .eql (.t 111) (.t 112)⟩, ⟨(some 114), none, .pick (.t 110) (.t 113) (.v (.bool false))⟩, ⟨(some 115), none, .mv (.t 114)⟩, ⟨(some 116), (some (115, true)), .call (.f 31) []⟩, ⟨(some 117), none, .pick (.t 115) (.t 116) (.v (.bool false))⟩, ⟨(some 2), none, .mv (.t 117)⟩] (some ⟨[2], [], []⟩))
  .ret)))))))))))))
theorem c_ff : compileCode Try.prog Try.f3.ntmps (Try.f3.body.getD .skip) A_ff = some (C_ff, []) := by kernel_rfl
theorem r_ff : compileRes Try.prog Try.f3.results.toList = some [.t 2] := by kernel_rfl
theorem b_ff : Try.f3.body = some (Try.f3.body.getD .skip) := by kernel_rfl
theorem n_ff : (Try.f3.name == "runtime.NumGoroutine") = false := by kernel_rfl
theorem fc_ff {xt : Option (List Cel)} {args : List Val} {R : List Cel → Val → Prop} (hn : (if xt.isSome then 1 else 0) + args.length ≤ Try.f3.ntmps) (h : ex Try.prog C_ff [] (fpost xt [.t 2] R) (initSt xt args)) : FC Try.prog 3 xt args R :=
  fc_of_awp Try.func3 b_ff n_ff c_ff r_ff (of_decide_eq_true (by kernel_rfl)) hn h


def eqWSt (fr fr' : Bool) (l : List (Int × Int)) (i : Int) : AS := ⟨tabV [(0, frsV fr l), (1, frsV fr' l), (12, iv l.length), (13, iv i)], tabO [], tabO []⟩
theorem eqWin_fc (fr fr' : Bool) (l : List (Int × Int)) (hl : l.length ≤ 4611686018427387904) : FC Try.prog 30 none [frsV fr l, frsV fr' l] (fun _ r => r = bv true) := by
  refine fc_eqWin (by simp +arith) ?_
  unfold C_eqWin
  simp (maxSteps := 1000000) (disch := omega) only [go_sem, eq_self, decide_true, decide_false, not_true_eq_false, not_false_eq_true, reduceIte, reduceCtorEq, Nat.reduceEqDiff, Nat.reduceAdd, Nat.reduceSub, Nat.reduceLeDiff]
  refine ex_loop1 (eqWSt fr fr' l) (fun i => 0 ≤ i ∧ i ≤ l.length) (fun i => (l.length - i).toNat) 0 ⟨by omega, by omega⟩ rfl ?_
  rintro i ⟨g1, g2⟩
  unfold eqWSt
  by_cases hi : i < l.length
  · simp (maxSteps := 1000000) (disch := omega) only [go_sem, eq_self, decide_true, decide_false, not_true_eq_false, not_false_eq_true, reduceIte, reduceCtorEq, Nat.reduceEqDiff, Nat.reduceAdd, Nat.reduceSub, Nat.reduceLeDiff]
    exact ⟨_, rfl, ⟨by omega, by omega⟩, by omega⟩
  · simp (maxSteps := 1000000) (disch := omega) only [go_sem, eq_self, decide_true, decide_false, not_true_eq_false, not_false_eq_true, reduceIte, reduceCtorEq, Nat.reduceEqDiff, Nat.reduceAdd, Nat.reduceSub, Nat.reduceLeDiff]
theorem batched_fc : FC Try.prog 31 none [] (fun _ r => r = bv true) := by
  refine fc_batched (by simp +arith) ?_
  unfold C_batched
  simp (maxSteps := 1000000) (disch := omega) only [go_sem, eq_self, decide_true, decide_false, not_true_eq_false, not_false_eq_true, reduceIte, reduceCtorEq, Nat.reduceEqDiff, Nat.reduceAdd, Nat.reduceSub, Nat.reduceLeDiff]
  refine CALL_det (frames_fc [⟨3, 6, 0⟩] (by simp) 5 5 0 0 9) (.inl rfl) ?_
  have e3 : frmSp [⟨3, 6, 0⟩] 5 5 0 0 9 = ([(3, 9)], 0) := by kernel_rfl
  rw [e3]
  simp (maxSteps := 1000000) (disch := omega) only [go_sem, eq_self, decide_true, decide_false, not_true_eq_false, not_false_eq_true, reduceIte, reduceCtorEq, Nat.reduceEqDiff, Nat.reduceAdd, Nat.reduceSub, Nat.reduceLeDiff]
  refine CALL_det (eqWin_fc false false [(3, 9)] (by simp)) (.inl rfl) ?_
  simp (maxSteps := 1000000) (disch := omega) only [go_sem, eq_self, decide_true, decide_false, not_true_eq_false, not_false_eq_true, reduceIte, reduceCtorEq, Nat.reduceEqDiff, Nat.reduceAdd, Nat.reduceSub, Nat.reduceLeDiff]
theorem frm_one {c : List Smp} {st sp jn ls un : Int} (h : orSp [trgF st sp jn ls, serFault c, if 0 ≤ un ∧ un ≤ 345686400000 then 0 else 1] = 0) : trgF st sp jn ls = 0 ∧ serFault c = 0 ∧ (0 ≤ un ∧ un ≤ 345686400000) ∧ frmSp c st sp jn ls un = frmRf c st sp jn ls un := by
  simp only [orSp] at h
  have h1 : trgF st sp jn ls = 0 := by split at h <;> omega
  have h2 : serFault c = 0 := by rw [h1] at h; simp only [ne_eq, not_true_eq_false, if_false] at h; split at h <;> omega
  have h3 : 0 ≤ un ∧ un ≤ 345686400000 := by
    rw [h1, h2] at h
    simp only [ne_eq, not_true_eq_false, if_false] at h
    rcases Decidable.em (0 ≤ un ∧ un ≤ 345686400000) with h3 | h3
    · exact h3
    · rw [if_neg h3] at h; simp at h
  refine ⟨h1, h2, h3, ?_⟩
  unfold frmSp frmRf
  rw [if_neg (by rw [h1, h2]; decide), if_neg (by omega)]
theorem frm_bad {c : List Smp} {st sp jn ls un : Int} (h : ¬orSp [trgF st sp jn ls, serFault c, if 0 ≤ un ∧ un ≤ 345686400000 then 0 else 1] = 0) : frmSp c st sp jn ls un = ([], orSp [trgF st sp jn ls, serFault c, if 0 ≤ un ∧ un ≤ 345686400000 then 0 else 1]) := by
  unfold frmSp
  by_cases h1 : trgF st sp jn ls = 0
  · by_cases h2 : serFault c = 0
    · by_cases h3 : 0 ≤ un ∧ un ≤ 345686400000
      · rw [h1, h2, if_pos h3] at h; exact absurd rfl h
      · rw [h1, h2, if_neg h3, if_neg (by decide), if_pos (by omega)]; rfl
    · rw [h1]; simp [orSp, h2]
  · simp [orSp, h1]
theorem frmRf_len (c : List Smp) (st sp jn ls un : Int) : (frmRf c st sp jn ls un).1.length ≤ c.length := by
  have := frm_len st sp jn ls un c
  unfold frmRf
  split
  · simp
  · exact this
theorem ovSp_ok {a b : List (Int × Int)} (h : orSp [fwF a, fwF b] = 0) : ovSp a b = (OV2 b a, lenS (OV2 b a), 0) := by unfold ovSp; rw [if_neg (by omega)]
theorem ovSp_no {a b : List (Int × Int)} (h : ¬orSp [fwF a, fwF b] = 0) : ovSp a b = ([], 0, orSp [fwF a, fwF b]) := by unfold ovSp; rw [if_pos h]
set_option maxHeartbeats 12000000 in
theorem ff_fc (L : List Int) (hL : ∀ x ∈ L, I64 x) (hl : L.length ≤ 9223372036854775807) : FC Try.prog 3 none [ints false L] (fun _ r => r = bv true) := by
  refine fc_ff (by simp +arith) ?_
  unfold C_ff
  simp (maxSteps := 1000000) (disch := omega) only [go_sem, eq_self, decide_true, decide_false, not_true_eq_false, not_false_eq_true, reduceIte, reduceCtorEq, Nat.reduceEqDiff, Nat.reduceAdd, Nat.reduceSub, Nat.reduceLeDiff]
  refine callx_gen (p := 0) triggerOf_fc hL hl (by omega) (by omega) ⟨_, 0, 0, 0, 0, by simp [I64], by simp [I64], by simp [I64], by simp [I64], rfl⟩ ?_
  rintro pa r ha1 ha2 ⟨st, sp, jn, ls, _, _, _, _, rfl⟩
  refine ⟨rfl, ?_⟩
  unfold strm
  simp (maxSteps := 1000000) (disch := omega) only [go_sem, eq_self, decide_true, decide_false, not_true_eq_false, not_false_eq_true, reduceIte, reduceCtorEq, Nat.reduceEqDiff, Nat.reduceAdd, Nat.reduceSub, Nat.reduceLeDiff]
  refine callx_gen (curve_fc 12 (by omega) (by omega)) hL hl (by omega) (by omega) ⟨_, [], by simp, by simp, rfl⟩ ?_
  rintro pb r hb1 hb2 ⟨c, hcl, hc64, rfl⟩
  refine ⟨rfl, ?_⟩
  unfold strm
  simp (maxSteps := 1000000) (disch := omega) only [go_sem, eq_self, decide_true, decide_false, not_true_eq_false, not_false_eq_true, reduceIte, reduceCtorEq, Nat.reduceEqDiff, Nat.reduceAdd, Nat.reduceSub, Nat.reduceLeDiff]
  refine callx_gen (pick_fc false [0, 30, 60, 200, 345686400000, -1] (by simp) (by simp)) hL hl (by omega) (by omega) ⟨_, 0, by simp, rfl⟩ ?_
  rintro pu r hau hbu ⟨zu, hzu, rfl⟩
  refine ⟨rfl, ?_⟩
  unfold strm
  simp only [List.mem_cons, List.not_mem_nil, or_false] at hzu
  simp (maxSteps := 1000000) (disch := omega) only [go_sem, eq_self, decide_true, decide_false, not_true_eq_false, not_false_eq_true, reduceIte, reduceCtorEq, Nat.reduceEqDiff, Nat.reduceAdd, Nat.reduceSub, Nat.reduceLeDiff]
  refine callx_gen frameList_fc hL hl (by omega) (by omega) ⟨_, [], by simp, by simp, rfl⟩ ?_
  rintro pc r hc1 hc2 ⟨a, hal, ha64, rfl⟩
  refine ⟨rfl, ?_⟩
  unfold strm
  simp (maxSteps := 1000000) (disch := omega) only [go_sem, eq_self, decide_true, decide_false, not_true_eq_false, not_false_eq_true, reduceIte, reduceCtorEq, Nat.reduceEqDiff, Nat.reduceAdd, Nat.reduceSub, Nat.reduceLeDiff]
  refine callx_gen frameList_fc hL hl (by omega) (by omega) ⟨_, [], by simp, by simp, rfl⟩ ?_
  rintro pd r hd1 hd2 ⟨b, hbl, hb64, rfl⟩
  refine ⟨rfl, ?_⟩
  unfold strm
  simp (maxSteps := 1000000) (disch := omega) only [go_sem, eq_self, decide_true, decide_false, not_true_eq_false, not_false_eq_true, reduceIte, reduceCtorEq, Nat.reduceEqDiff, Nat.reduceAdd, Nat.reduceSub, Nat.reduceLeDiff]
  refine CALL_det (triggerFault_fc st sp jn ls) (.inl rfl) ?_
  simp (maxSteps := 1000000) (disch := omega) only [go_sem, eq_self, decide_true, decide_false, not_true_eq_false, not_false_eq_true, reduceIte, reduceCtorEq, Nat.reduceEqDiff, Nat.reduceAdd, Nat.reduceSub, Nat.reduceLeDiff]
  refine CALL_det (frameFault_fc a (by omega)) (.inl rfl) ?_
  simp (maxSteps := 1000000) (disch := omega) only [go_sem, eq_self, decide_true, decide_false, not_true_eq_false, not_false_eq_true, reduceIte, reduceCtorEq, Nat.reduceEqDiff, Nat.reduceAdd, Nat.reduceSub, Nat.reduceLeDiff]
  refine CALL_det (checkTrigger_fc st sp jn ls) (.inl rfl) ?_
  simp (maxSteps := 1000000) (disch := omega) only [go_sem, eq_self, decide_true, decide_false, not_true_eq_false, not_false_eq_true, reduceIte, reduceCtorEq, Nat.reduceEqDiff, Nat.reduceAdd, Nat.reduceSub, Nat.reduceLeDiff]
  refine CALL_det (checkFrames_fc a (by omega)) (.inl rfl) ?_
  simp (maxSteps := 1000000) (disch := omega) only [go_sem, eq_self, decide_true, decide_false, not_true_eq_false, not_false_eq_true, reduceIte, reduceCtorEq, Nat.reduceEqDiff, Nat.reduceAdd, Nat.reduceSub, Nat.reduceLeDiff]
  refine CALL_det (frames_fc c (by omega) st sp jn ls zu) (.inl rfl) ?_
  simp (maxSteps := 1000000) (disch := omega) only [go_sem, eq_self, decide_true, decide_false, not_true_eq_false, not_false_eq_true, reduceIte, reduceCtorEq, Nat.reduceEqDiff, Nat.reduceAdd, Nat.reduceSub, Nat.reduceLeDiff]
  refine CALL_det (overlaps_fc a b (by omega) (by omega)) (.inl rfl) ?_
  simp (maxSteps := 1000000) (disch := omega) only [go_sem, eq_self, decide_true, decide_false, not_true_eq_false, not_false_eq_true, reduceIte, reduceCtorEq, Nat.reduceEqDiff, Nat.reduceAdd, Nat.reduceSub, Nat.reduceLeDiff]
  refine CALL_det (seriesFault_fc c (by omega)) (.inl rfl) ?_
  simp (maxSteps := 1000000) (disch := omega) only [go_sem, eq_self, decide_true, decide_false, not_true_eq_false, not_false_eq_true, reduceIte, reduceCtorEq, Nat.reduceEqDiff, Nat.reduceAdd, Nat.reduceSub, Nat.reduceLeDiff]
  refine CALL_det (spanFault1_fc zu 0 345686400000) (.inl rfl) ?_
  simp (maxSteps := 1000000) (disch := omega) only [go_sem, eq_self, decide_true, decide_false, not_true_eq_false, not_false_eq_true, reduceIte, reduceCtorEq, Nat.reduceEqDiff, Nat.reduceAdd, Nat.reduceSub, Nat.reduceLeDiff]
  refine CALL_det (orE_fc false [trgF st sp jn ls, serFault c, if 0 ≤ zu ∧ zu ≤ 345686400000 then 0 else 1] (by simp)) (.inl rfl) ?_
  simp (maxSteps := 1000000) (disch := omega) only [go_sem, eq_self, decide_true, decide_false, not_true_eq_false, not_false_eq_true, reduceIte, reduceCtorEq, Nat.reduceEqDiff, Nat.reduceAdd, Nat.reduceSub, Nat.reduceLeDiff]
  refine CALL_det (frameFault_fc b (by omega)) (.inl rfl) ?_
  simp (maxSteps := 1000000) (disch := omega) only [go_sem, eq_self, decide_true, decide_false, not_true_eq_false, not_false_eq_true, reduceIte, reduceCtorEq, Nat.reduceEqDiff, Nat.reduceAdd, Nat.reduceSub, Nat.reduceLeDiff]
  refine CALL_det (orE_fc false [fwF a, fwF b] (by simp)) (.inl rfl) ?_
  have hrl := frmRf_len c st sp jn ls zu
  have hol := OV2_len b a
  by_cases h2 : orSp [fwF a, fwF b] = 0
  · obtain ⟨k1, k2⟩ := or2_z' h2
    obtain ⟨hla, hA⟩ := fwF_ok k1
    obtain ⟨hlb, hB⟩ := fwF_ok k2
    have hol2 : a.length * b.length ≤ 2000 * 2000 := Nat.mul_le_mul hla hlb
    by_cases h1 : orSp [trgF st sp jn ls, serFault c, if 0 ≤ zu ∧ zu ≤ 345686400000 then 0 else 1] = 0
    · obtain ⟨m1, m2, m3, m4⟩ := frm_one h1
      rw [h1, h2, ovSp_ok h2, m4]
      simp (maxSteps := 1000000) (disch := omega) only [go_sem, eq_self, decide_true, decide_false, not_true_eq_false, not_false_eq_true, reduceIte, reduceCtorEq, Nat.reduceEqDiff, Nat.reduceAdd, Nat.reduceSub, Nat.reduceLeDiff]
      refine CALL_det (framesOf_fc c (good_of m2) st sp jn ls zu m3) (.inl rfl) ?_
      simp (maxSteps := 1000000) (disch := omega) only [go_sem, eq_self, decide_true, decide_false, not_true_eq_false, not_false_eq_true, reduceIte, reduceCtorEq, Nat.reduceEqDiff, Nat.reduceAdd, Nat.reduceSub, Nat.reduceLeDiff]
      refine CALL_det (overlapsOf_fc a b hla hlb (fun w hw => by have := hA.ge w hw; omega) (fun w hw => by have := hB.ge w hw; omega)) (.inl rfl) ?_
      simp (maxSteps := 1000000) (disch := omega) only [go_sem, eq_self, decide_true, decide_false, not_true_eq_false, not_false_eq_true, reduceIte, reduceCtorEq, Nat.reduceEqDiff, Nat.reduceAdd, Nat.reduceSub, Nat.reduceLeDiff]
      refine CALL_det (eqWin_fc _ _ (frmRf c st sp jn ls zu).1 (by omega)) (.inl rfl) ?_
      simp (maxSteps := 1000000) (disch := omega) only [go_sem, eq_self, decide_true, decide_false, not_true_eq_false, not_false_eq_true, reduceIte, reduceCtorEq, Nat.reduceEqDiff, Nat.reduceAdd, Nat.reduceSub, Nat.reduceLeDiff]
      refine CALL_det (eqWin_fc _ _ (OV2 b a) (by omega)) (.inl rfl) ?_
      simp (maxSteps := 1000000) (disch := omega) only [go_sem, eq_self, decide_true, decide_false, not_true_eq_false, not_false_eq_true, reduceIte, reduceCtorEq, Nat.reduceEqDiff, Nat.reduceAdd, Nat.reduceSub, Nat.reduceLeDiff]
      refine CALL_det batched_fc (.inl rfl) ?_
      simp (maxSteps := 1000000) (disch := omega) only [go_sem, eq_self, decide_true, decide_false, not_true_eq_false, not_false_eq_true, reduceIte, reduceCtorEq, Nat.reduceEqDiff, Nat.reduceAdd, Nat.reduceSub, Nat.reduceLeDiff]
    · rw [h2, ovSp_ok h2, frm_bad h1]
      simp (maxSteps := 1000000) (disch := omega) only [go_sem, eq_self, decide_true, decide_false, not_true_eq_false, not_false_eq_true, reduceIte, reduceCtorEq, Nat.reduceEqDiff, Nat.reduceAdd, Nat.reduceSub, Nat.reduceLeDiff]
      refine CALL_det (overlapsOf_fc a b hla hlb (fun w hw => by have := hA.ge w hw; omega) (fun w hw => by have := hB.ge w hw; omega)) (.inl rfl) ?_
      simp (maxSteps := 1000000) (disch := omega) only [go_sem, eq_self, decide_true, decide_false, not_true_eq_false, not_false_eq_true, reduceIte, reduceCtorEq, Nat.reduceEqDiff, Nat.reduceAdd, Nat.reduceSub, Nat.reduceLeDiff]
      refine CALL_det (eqWin_fc _ _ [] (by simp)) (.inl rfl) ?_
      simp (maxSteps := 1000000) (disch := omega) only [go_sem, eq_self, decide_true, decide_false, not_true_eq_false, not_false_eq_true, reduceIte, reduceCtorEq, Nat.reduceEqDiff, Nat.reduceAdd, Nat.reduceSub, Nat.reduceLeDiff]
      refine CALL_det (eqWin_fc _ _ (OV2 b a) (by omega)) (.inl rfl) ?_
      simp (maxSteps := 1000000) (disch := omega) only [go_sem, eq_self, decide_true, decide_false, not_true_eq_false, not_false_eq_true, reduceIte, reduceCtorEq, Nat.reduceEqDiff, Nat.reduceAdd, Nat.reduceSub, Nat.reduceLeDiff]
      refine CALL_det batched_fc (.inl rfl) ?_
      simp (maxSteps := 1000000) (disch := omega) only [go_sem, eq_self, decide_true, decide_false, not_true_eq_false, not_false_eq_true, reduceIte, reduceCtorEq, Nat.reduceEqDiff, Nat.reduceAdd, Nat.reduceSub, Nat.reduceLeDiff]
  · by_cases h1 : orSp [trgF st sp jn ls, serFault c, if 0 ≤ zu ∧ zu ≤ 345686400000 then 0 else 1] = 0
    · obtain ⟨m1, m2, m3, m4⟩ := frm_one h1
      rw [h1, ovSp_no h2, m4]
      simp (maxSteps := 1000000) (disch := omega) only [go_sem, eq_self, decide_true, decide_false, not_true_eq_false, not_false_eq_true, reduceIte, reduceCtorEq, Nat.reduceEqDiff, Nat.reduceAdd, Nat.reduceSub, Nat.reduceLeDiff]
      refine CALL_det (framesOf_fc c (good_of m2) st sp jn ls zu m3) (.inl rfl) ?_
      simp (maxSteps := 1000000) (disch := omega) only [go_sem, eq_self, decide_true, decide_false, not_true_eq_false, not_false_eq_true, reduceIte, reduceCtorEq, Nat.reduceEqDiff, Nat.reduceAdd, Nat.reduceSub, Nat.reduceLeDiff]
      refine CALL_det (eqWin_fc _ _ (frmRf c st sp jn ls zu).1 (by omega)) (.inl rfl) ?_
      simp (maxSteps := 1000000) (disch := omega) only [go_sem, eq_self, decide_true, decide_false, not_true_eq_false, not_false_eq_true, reduceIte, reduceCtorEq, Nat.reduceEqDiff, Nat.reduceAdd, Nat.reduceSub, Nat.reduceLeDiff]
      refine CALL_det (eqWin_fc _ _ [] (by simp)) (.inl rfl) ?_
      simp (maxSteps := 1000000) (disch := omega) only [go_sem, eq_self, decide_true, decide_false, not_true_eq_false, not_false_eq_true, reduceIte, reduceCtorEq, Nat.reduceEqDiff, Nat.reduceAdd, Nat.reduceSub, Nat.reduceLeDiff]
      refine CALL_det batched_fc (.inl rfl) ?_
      simp (maxSteps := 1000000) (disch := omega) only [go_sem, eq_self, decide_true, decide_false, not_true_eq_false, not_false_eq_true, reduceIte, reduceCtorEq, Nat.reduceEqDiff, Nat.reduceAdd, Nat.reduceSub, Nat.reduceLeDiff]
    · rw [ovSp_no h2, frm_bad h1]
      simp (maxSteps := 1000000) (disch := omega) only [go_sem, eq_self, decide_true, decide_false, not_true_eq_false, not_false_eq_true, reduceIte, reduceCtorEq, Nat.reduceEqDiff, Nat.reduceAdd, Nat.reduceSub, Nat.reduceLeDiff]
      refine CALL_det (eqWin_fc _ _ [] (by simp)) (.inl rfl) ?_
      simp (maxSteps := 1000000) (disch := omega) only [go_sem, eq_self, decide_true, decide_false, not_true_eq_false, not_false_eq_true, reduceIte, reduceCtorEq, Nat.reduceEqDiff, Nat.reduceAdd, Nat.reduceSub, Nat.reduceLeDiff]
      refine CALL_det (eqWin_fc _ _ [] (by simp)) (.inl rfl) ?_
      simp (maxSteps := 1000000) (disch := omega) only [go_sem, eq_self, decide_true, decide_false, not_true_eq_false, not_false_eq_true, reduceIte, reduceCtorEq, Nat.reduceEqDiff, Nat.reduceAdd, Nat.reduceSub, Nat.reduceLeDiff]
      refine CALL_det batched_fc (.inl rfl) ?_
      simp (maxSteps := 1000000) (disch := omega) only [go_sem, eq_self, decide_true, decide_false, not_true_eq_false, not_false_eq_true, reduceIte, reduceCtorEq, Nat.reduceEqDiff, Nat.reduceAdd, Nat.reduceSub, Nat.reduceLeDiff]
theorem ff_own : ownKnob Try.prog.godebug = none := by kernel_rfl
theorem ff_laid : laidOutB Try.prog = true := by kernel_rfl
set_option maxRecDepth 100000 in
theorem ff_lifted (os : Os) (started : os.Started) (H : Type) (enc : TypeId × Value → H) :
    ReturnsInHanded {} Try.checked os 3 .any (Rows.framesFoundSpec.pre6 enc Try.prog Try.f3 Rows.framesFoundRow.domain false) (Rows.framesFoundSpec.post enc Try.prog Try.f3 false true false false) := by
  refine returnsInHanded_of_change (C := Try.checked) ff_own started (by kernel_rfl) Try.func3
    (ChangeSpec.witness6 (enc := enc) (C := Try.checked) false ⟨#[], #[.slice none 0 0], []⟩ 8 (by kernel_rfl) (by kernel_rfl) (by kernel_rfl) (by kernel_rfl)) ?_
  intro W base args ds gs before hval hW _ _
  exact law_contract (P := Try.prog) (fun L h1 h2 => ff_fc L h1 h2) (fun _ _ => rfl) rfl rfl rfl ff_laid (by kernel_rfl) (of_decide_eq_true (by kernel_rfl)) Try.underlying22 Try.underlying3 (by kernel_rfl) Try.underlying4 W base args ds gs before hval hW
theorem ff_over : Rows.framesFoundRow.holds Try.pinned (OpenSpec.ofChange Rows.framesFoundSpec) :=
  OpenClaim.holds_of_wide 3 Try.f3 rfl rfl rfl rfl rfl rfl rfl ⟨rfl, rfl, rfl, rfl, rfl⟩ rfl rfl rfl rfl rfl (by kernel_rfl) Try.func3 (by kernel_rfl)
    (of_decide_eq_true (by kernel_rfl)) (by unfold Func.isWrapper; first | (rw [if_pos (by decide +kernel)]; kernel_rfl) | (rw [if_neg (by decide +kernel)]; exact ⟨rfl, rfl⟩))
    (fun os started H enc _ => ff_lifted os started H enc)
theorem frames_found : Rows.FramesFoundSaid := ff_over
end Go.Proofs.Ytmbpfhpdicjpcaa

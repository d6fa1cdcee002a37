
/-
  SamplesReconstructed returns true for every slice of integers, and leaves the slice as it was: Keep, Reconstruct, Error and Ratio are as the reference says, for all samples and indices that its generators make of the slice. No condition.
-/
import Derived.Test.YtmbpfhpdicjpcaaSrb
import Derived.Test.YtmbpfhpdicjpcaaKat
import Derived.Test.YtmbpfhpdicjpcaaAiRow
import Derived.Test.YtmbpfhpdicjpcaaRows
namespace Go.Proofs.Ytmbpfhpdicjpcaa
open Go Go.Ai
set_option linter.unusedSimpArgs false
set_option linter.unusedVariables false
set_option maxHeartbeats 4000000
def A_eqSmp : List Ann := [⟨(some ⟨[0,1], [], []⟩), [], [], [], []⟩, ⟨(some ⟨[0,1,10], [], []⟩), [], [], [], []⟩, ⟨(some ⟨[4], [], []⟩), [], [], [], []⟩, ⟨(some ⟨[0,1,12,13], [], []⟩), [], [], [], []⟩, ⟨(some ⟨[0,1,12,13,14], [], []⟩), [], [], [], []⟩, ⟨(some ⟨[0,1,5,12,13], [], []⟩), [], [], [], []⟩, ⟨(some ⟨[0,1,12,13,24], [], []⟩), [], [], [], []⟩, ⟨(some ⟨[4], [], []⟩), [], [], [], []⟩, ⟨(some ⟨[0,1,12,13], [], []⟩), [], [], [], []⟩, ⟨(some ⟨[4], [], []⟩), [], [], [], []⟩]
def C_eqSmp : AC := (.seq (.reg false [⟨(some 4), none, .mv (.v (.bool false))⟩] (some ⟨[0,1], [], []⟩))
  (.seq (.seq (.reg false [⟨(some 6), none, .mv (.t 0)⟩, ⟨(some 7), none, .len (.t 6)⟩, ⟨(some 8), none, .mv (.t 1)⟩, ⟨(some 9), none, .len (.t 8)⟩, ⟨(some 10), none, .bin .neq (.t 7) (.t 9)⟩] (some ⟨[0,1,10], [], []⟩))
  (.cond (.t 10)
  (.seq (.reg false [⟨(some 4), none, .mv (.v (.bool false))⟩] (some ⟨[4], [], []⟩))
  .ret)
  .skip))
  (.seq (.seq (.reg false [⟨(some 11), none, .mv (.t 0)⟩, ⟨(some 12), none, .len (.t 11)⟩, ⟨(some 13), none, .mv (.v (.int .i64 (0)))⟩] (some ⟨[0,1,12,13], [], []⟩))
  (.block 0 (.loop (.seq (.reg false [⟨(some 14), none, .bin .lss (.t 13) (.t 12)⟩] (some ⟨[0,1,12,13,14], [], []⟩))
  (.seq (.cond (.t 14)
  .skip
  (.exit 0))
  (.seq (.block 1 (.seq (.reg false [⟨(some 15), none, .mv (.t 13)⟩, ⟨(some 5), none, .mv (.t 15)⟩] (some ⟨[0,1,5,12,13], [], []⟩))
  (.seq (.reg true [⟨(some 16), none, .mv (.t 0)⟩, ⟨(some 17), none, .mv (.t 5)⟩, ⟨(some 18), none, .iadr 3 (.t 16) (.t 17)⟩, ⟨(some 19), none, .load true 3 (.t 18)⟩, ⟨(some 20), none, .mv (.t 1)⟩, ⟨(some 21), none, .mv (.t 5)⟩, ⟨(some 22), none, .iadr 3 (.t 20) (.t 21)⟩, ⟨(some 23), none, .load true 3 (.t 22)⟩, ⟨(some 24), none, .eqs true true [.i .i64, .i .i64, .i .i64] (.t 19) (.t 23)⟩] (some ⟨[0,1,12,13,24], [], []⟩))
  (.cond (.t 24)
  (.seq (.reg false [⟨(some 4), none, .mv (.v (.bool false))⟩] (some ⟨[4], [], []⟩))
  .ret)
  .skip))))
  (.reg false [⟨(some 25), none, .bin .add (.t 13) (.v (.int .i64 (1)))⟩, ⟨(some 13), none, .mv (.t 25)⟩] (some ⟨[0,1,12,13], [], []⟩))))))))
  (.seq (.reg false [⟨(some 4), none, .mv (.v (.bool true))⟩] (some ⟨[4], [], []⟩))
  .ret))))
theorem c_eqSmp : compileCode Try.prog Try.f40.ntmps (Try.f40.body.getD .skip) A_eqSmp = some (C_eqSmp, []) := by kernel_rfl
theorem r_eqSmp : compileRes Try.prog Try.f40.results.toList = some [.t 4] := by kernel_rfl
theorem b_eqSmp : Try.f40.body = some (Try.f40.body.getD .skip) := by kernel_rfl
theorem n_eqSmp : (Try.f40.name == "runtime.NumGoroutine") = false := by kernel_rfl
theorem fc_eqSmp {xt : Option (List Cel)} {args : List Val} {R : List Cel → Val → Prop} (hn : (if xt.isSome then 1 else 0) + args.length ≤ Try.f40.ntmps) (h : ex Try.prog C_eqSmp [] (fpost xt [.t 4] R) (initSt xt args)) : FC Try.prog 40 xt args R :=
  fc_of_awp Try.func40 b_eqSmp n_eqSmp c_eqSmp r_eqSmp (of_decide_eq_true (by kernel_rfl)) hn h

def A_sre : List Ann := [⟨(some ⟨[0], [], []⟩), [], [], [], []⟩, ⟨(some ⟨[3,29], [29], []⟩), [], [], [], []⟩, ⟨(some ⟨[3,4,5,29], [29], []⟩), [], [], [], []⟩, ⟨(some ⟨[4,5,6], [], []⟩), [], [], [], []⟩, ⟨(some ⟨[4,5,6,7,8], [], []⟩), [], [], [], []⟩, ⟨(some ⟨[4,5,6,7,8,42], [], []⟩), [], [], [], []⟩, ⟨(some ⟨[4,5,6,7,8], [], []⟩), [], [], [], []⟩, ⟨(some ⟨[4,5,6,7,8,9,10], [], []⟩), [], [], [], []⟩, ⟨(some ⟨[4,5,6,7,8,9,10,11,12,13], [11], []⟩), [], [], [], []⟩, ⟨(some ⟨[4,5,6,7,8,9,10,11,12,13,14,15,16], [11,14], []⟩), [], [], [], []⟩, ⟨(some ⟨[4,5,6,7,8,9,10,11,12,13,14,15,16,17,18,19], [11,14,17], []⟩), [], [], [], []⟩, ⟨(some ⟨[4,5,6,8,9,10,11,12,13,14,15,16,17,18,19,20], [11,14,17], []⟩), [], [], [], []⟩, ⟨(some ⟨[4,5,6,8,9,10,11,12,13,14,15,16,17,18,19,20,21], [11,14,17,21], []⟩), [], [], [], []⟩, ⟨(some ⟨[4,5,6,8,9,10,11,12,13,14,15,16,17,18,19,20,21,22], [11,14,17,21], []⟩), [], [], [], []⟩, ⟨(some ⟨[4,5,6,8,9,10,11,12,13,14,15,16,17,18,19,20,21,22,79], [11,14,17,21], []⟩), [], [], [], []⟩, ⟨(some ⟨[4,6,8,9,10,11,12,13,14,15,16,17,18,19,20,21,22], [11,14,17,21], []⟩), [], [], [], []⟩, ⟨(some ⟨[4,6,8,9,10,14,15,16,17,18,19,98], [14,17], []⟩), [], [], [], []⟩, ⟨(some ⟨[2], [], []⟩), [], [], [], []⟩, ⟨(some ⟨[4,6,8,9,10,14,15,16,17,18,19,100], [14,17], []⟩), [], [], [], []⟩, ⟨(some ⟨[2], [], []⟩), [], [], [], []⟩, ⟨(some ⟨[4,6,9,10,14,15,16,17,18,19,23,24,25], [14,17,23], []⟩), [], [], [], []⟩, ⟨(some ⟨[4,6,9,10,14,15,16,17,18,19,23,24,25,26], [14,17,23,26], []⟩), [], [], [], []⟩, ⟨(some ⟨[4,6,9,10,14,15,16,17,18,19,23,24,25,26,149], [14,17,23,26], []⟩), [], [], [], []⟩, ⟨(some ⟨[4,6,9,10,14,15,16,17,18,19,23,24,25,26], [14,17,23,26], []⟩), [], [], [], []⟩, ⟨(some ⟨[2], [], []⟩), [], [], [], []⟩]
def C_sre : AC := (.seq (.reg false [⟨(some 2), none, .mv (.v (.bool false))⟩] (some ⟨[0], [], []⟩))
  (.seq (.reg false [⟨(some 27), none, .mv (.t 0)⟩, ⟨(some 28), none, .build [(.slice none 0 0), (.int .i64 (0))] [(0, 1, (.t 27))]⟩, ⟨(some 29), none, .box (.t 28)⟩, ⟨(some 3), none, .mv (.t 29)⟩] (some ⟨[3,29], [29], []⟩))
  (.seq (.reg false [⟨(some 30), none, .mv (.t 3)⟩, ⟨(some 31), none, .callx (.f 16) [(.t 30), (.v (.int .i64 (12)))]⟩, ⟨(some 32), none, .mv (.t 3)⟩, ⟨(some 33), none, .callx (.f 43) [(.t 32)]⟩, ⟨(some 4), none, .mv (.t 31)⟩, ⟨(some 5), none, .mv (.t 33)⟩] (some ⟨[3,4,5,29], [29], []⟩))
  (.seq (.reg false [⟨(some 34), none, .mv (.t 3)⟩, ⟨(some 35), none, .mv (.t 4)⟩, ⟨(some 36), none, .callx (.f 44) [(.t 34), (.t 35)]⟩, ⟨(some 6), none, .mv (.t 36)⟩] (some ⟨[4,5,6], [], []⟩))
  (.seq (.reg false [⟨(some 37), none, .mv (.t 4)⟩, ⟨(some 38), none, .call (.f 26) [(.t 37)]⟩, ⟨(some 39), none, .mv (.t 4)⟩, ⟨(some 40), none, .call (.f 26) [(.t 39)]⟩, ⟨(some 7), none, .mv (.t 38)⟩, ⟨(some 8), none, .mv (.t 40)⟩] (some ⟨[4,5,6,7,8], [], []⟩))
  (.seq (.seq (.reg false [⟨(some 41), none, .mv (.t 8)⟩, ⟨(some 42), none, .bin .eql (.t 41) (.v (.int .i64 (0)))⟩] (some ⟨[4,5,6,7,8,42], [], []⟩))
  (.cond (.t 42)
  (.reg false [⟨(some 43), none, .mv (.t 4)⟩, ⟨(some 44), none, .mv (.t 6)⟩, ⟨(some 45), none, .call (.f 45) [(.t 43), (.t 44)]⟩, ⟨(some 8), none, .mv (.t 45)⟩] (some ⟨[4,5,6,7,8], [], []⟩))
  .skip))
  (.seq (.reg false [⟨(some 47), none, .mv (.t 4)⟩, ⟨(some 48), none, .mv (.t 6)⟩, ⟨(some 49), none, .call (.f 46) [(.t 47), (.t 48)]⟩, ⟨(some 46), none, .mv (.t 49)⟩, ⟨(some 50), none, .extr (.t 46) 0⟩, ⟨(some 51), none, .extr (.t 46) 1⟩, ⟨(some 9), none, .mv (.t 50)⟩, ⟨(some 10), none, .mv (.t 51)⟩] (some ⟨[4,5,6,7,8,9,10], [], []⟩))
  (.seq (.reg false [⟨(some 53), none, .mv (.t 4)⟩, ⟨(some 54), none, .mv (.t 5)⟩, ⟨(some 55), none, .call (.f 47) [(.t 53), (.t 54)]⟩, ⟨(some 52), none, .mv (.t 55)⟩, ⟨(some 56), none, .extr (.t 52) 0⟩, ⟨(some 57), none, .extr (.t 52) 1⟩, ⟨(some 58), none, .extr (.t 52) 2⟩, ⟨(some 11), none, .alloc [(.int .i64 (0)), (.int .i64 (0))]⟩, ⟨none, none, .store 2 (.t 11) (.t 56)⟩, ⟨(some 12), none, .mv (.t 57)⟩, ⟨(some 13), none, .mv (.t 58)⟩] (some ⟨[4,5,6,7,8,9,10,11,12,13], [11], []⟩))
  (.seq (.reg false [⟨(some 60), none, .mv (.t 4)⟩, ⟨(some 61), none, .mv (.t 6)⟩, ⟨(some 62), none, .call (.f 48) [(.t 60), (.t 61)]⟩, ⟨(some 59), none, .mv (.t 62)⟩, ⟨(some 63), none, .extr (.t 59) 0⟩, ⟨(some 64), none, .extr (.t 59) 1⟩, ⟨(some 65), none, .extr (.t 59) 2⟩, ⟨(some 14), none, .alloc [(.int .i64 (0)), (.int .i64 (0))]⟩, ⟨none, none, .store 2 (.t 14) (.t 63)⟩, ⟨(some 15), none, .mv (.t 64)⟩, ⟨(some 16), none, .mv (.t 65)⟩] (some ⟨[4,5,6,7,8,9,10,11,12,13,14,15,16], [11,14], []⟩))
  (.seq (.reg false [⟨(some 67), none, .mv (.t 4)⟩, ⟨(some 68), none, .mv (.t 6)⟩, ⟨(some 69), none, .call (.f 49) [(.t 67), (.t 68)]⟩, ⟨(some 66), none, .mv (.t 69)⟩, ⟨(some 70), none, .extr (.t 66) 0⟩, ⟨(some 71), none, .extr (.t 66) 1⟩, ⟨(some 72), none, .extr (.t 66) 2⟩, ⟨(some 17), none, .alloc [(.int .i64 (0)), (.int .i64 (0))]⟩, ⟨none, none, .store 2 (.t 17) (.t 70)⟩, ⟨(some 18), none, .mv (.t 71)⟩, ⟨(some 19), none, .mv (.t 72)⟩] (some ⟨[4,5,6,7,8,9,10,11,12,13,14,15,16,17,18,19], [11,14,17], []⟩))
  (.seq (.reg false [⟨(some 73), none, .mv (.t 7)⟩, ⟨(some 74), none, .mv (.t 5)⟩, ⟨(some 75), none, .call (.f 50) [(.t 74)]⟩, ⟨(some 76), none, .bslice 1 2 [(.t 73), (.t 75)]⟩, ⟨(some 77), none, .call (.f 25) [(.t 76)]⟩, ⟨(some 20), none, .mv (.t 77)⟩] (some ⟨[4,5,6,8,9,10,11,12,13,14,15,16,17,18,19,20], [11,14,17], []⟩))
  (.seq (.reg false [⟨(some 21), none, .alloc [(.int .i64 (0)), (.int .i64 (0))]⟩] (some ⟨[4,5,6,8,9,10,11,12,13,14,15,16,17,18,19,20,21], [11,14,17,21], []⟩))
  (.seq (.reg false [⟨(some 22), none, .mv (.v (.bool false))⟩] (some ⟨[4,5,6,8,9,10,11,12,13,14,15,16,17,18,19,20,21,22], [11,14,17,21], []⟩))
  (.seq (.seq (.reg false [⟨(some 78), none, .mv (.t 20)⟩, ⟨(some 79), none, .bin .eql (.t 78) (.v (.int .i64 (0)))⟩] (some ⟨[4,5,6,8,9,10,11,12,13,14,15,16,17,18,19,20,21,22,79], [11,14,17,21], []⟩))
  (.cond (.t 79)
  (.reg false [⟨(some 81), none, .mv (.t 4)⟩, ⟨(some 82), none, .mv (.t 5)⟩, ⟨(some 83), none, .call (.f 51) [(.t 81), (.t 82)]⟩, ⟨(some 80), none, .mv (.t 83)⟩, ⟨(some 84), none, .extr (.t 80) 0⟩, ⟨(some 85), none, .extr (.t 80) 1⟩, ⟨none, none, .store 2 (.t 21) (.t 84)⟩, ⟨(some 22), none, .mv (.t 85)⟩] (some ⟨[4,6,8,9,10,11,12,13,14,15,16,17,18,19,20,21,22], [11,14,17,21], []⟩))
  .skip))
  (.seq (.seq (.reg false [⟨(some 86), none, .mv (.t 13)⟩, ⟨(some 87), none, .mv (.t 20)⟩, ⟨(some 88), none, .bin .neq (.t 86) (.t 87)⟩, ⟨(some 89), none, .mv (.t 88)⟩, ⟨(some 90), (some (89, false)), .load true 2 (.t 11)⟩, ⟨(some 91), (some (89, false)), .load true 2 (.t 21)⟩, ⟨(some 92), (some (89, false)), .eqs true true [.i .i64, .i .i64] (.t 90) (.t 91)⟩, ⟨(some 93), none, .pick (.t 89) (.v (.bool true)) (.t 92)⟩, ⟨(some 94), none, .mv (.t 93)⟩, ⟨(some 95), (some (94, false)), .mv (.t 12)⟩, ⟨(some 96), (some (94, false)), .mv (.t 22)⟩, ⟨(some 97), (some (94, false)), .eqs true false [.b] (.t 95) (.t 96)⟩, ⟨(some 98), none, .pick (.t 94) (.v (.bool true)) (.t 97)⟩] (some ⟨[4,6,8,9,10,14,15,16,17,18,19,98], [14,17], []⟩))
  (.cond (.t 98)
  (.seq (.reg false [⟨(some 2), none, .mv (.v (.bool false))⟩] (some ⟨[2], [], []⟩))
  .ret)
  .skip))
  (.seq (.seq (.reg false [⟨(some 99), none, .mv (.t 8)⟩, ⟨(some 100), none, .bin .neq (.t 99) (.v (.int .i64 (0)))⟩] (some ⟨[4,6,8,9,10,14,15,16,17,18,19,100], [14,17], []⟩))
  (.cond (.t 100)
  (.seq (.reg false [⟨(some 101), none, .mv (.t 10)⟩, ⟨(some 102), none, .mv (.t 8)⟩, ⟨(some 103), none, .bin .eql (.t 101) (.t 102)⟩, ⟨(some 104), none, .mv (.t 103)⟩, ⟨(some 105), (some (104, true)), .mv (.t 16)⟩, ⟨(some 106), (some (104, true)), .mv (.t 8)⟩, ⟨(some 107), (some (104, true)), .bin .eql (.t 105) (.t 106)⟩, ⟨(some 108), none, .pick (.t 104) (.t 107) (.v (.bool false))⟩, ⟨(some 109), none, .mv (.t 108)⟩, ⟨(some 110), (some (109, true)), .mv (.t 19)⟩, ⟨(some 111), (some (109, true)), .mv (.t 8)⟩, ⟨(some 112), (some (109, true)), .bin .eql (.t 110) (.t 111)⟩, ⟨(some 113), none, .pick (.t 109) (.t 112) (.v (.bool false))⟩, ⟨(some 114), none, .mv (.t 113)⟩, ⟨(some 115), (some (114, true)), .mv (.t 9)⟩, ⟨(some 116), (some (114, true)), .len (.t 115)⟩, ⟨(some 117), (some (114, true)), .bin .eql (.t 116) (.v (.int .i64 (0)))⟩, ⟨(some 118), none, .pick (.t 114) (.t 117) (.v (.bool false))⟩, ⟨(some 119), none, .mv (.t 118)⟩, ⟨(some 120), (some (119, true)), .load true 2 (.t 14)⟩, ⟨(some 121), (some (119, true)), .build [(.int .i64 (0)), (.int .i64 (0))] []⟩, ⟨(some 122), (some (119, true)), .eqs false true [.i .i64, .i .i64] (.t 120) (.t 121)⟩, ⟨(some 123), none, .pick (.t 119) (.t 122) (.v (.bool false))⟩, ⟨(some 124), none, .mv (.t 123)⟩, ⟨(some 125), (some (124, true)), .mv (.t 15)⟩, ⟨(some 126), (some (124, true)), .bin .eql (.t 125) (.v (.int .i64 (0)))⟩, ⟨(some 127), none, .pick (.t 124) (.t 126) (.v (.bool false))⟩, ⟨(some 128), none, .mv (.t 127)⟩, ⟨(some 129), (some (128, true)), .mv (.t 18)⟩, ⟨(some 130), (some (128, true)), .un .not (.t 129)⟩, ⟨(some 131), none, .pick (.t 128) (.t 130) (.v (.bool false))⟩, ⟨(some 132), none, .mv (.t 131)⟩, ⟨(some 133), (some (132, true)), .load true 2 (.t 17)⟩, ⟨(some 134), (some (132, true)), .build [(.int .i64 (0)), (.int .i64 (0))] []⟩, ⟨(some 135), (some (132, true)), .eqs false true [.i .i64, .i .i64] (.t 133) (.t 134)⟩, ⟨(some 136), none, .pick (.t 132) (.t 135) (.v (.bool false))⟩, ⟨(some 137), none, .mv (.t 136)⟩, ⟨(some 138), (some (137, true)), .call (.f 35) []⟩, ⟨(some 139), none, .pick (.t 137) (.t 138) (.v (.bool false))⟩, ⟨(some 2), none, .mv (.t 139)⟩] (some ⟨[2], [], []⟩))
  .ret)
  .skip))
  (.seq (.reg false [⟨(some 141), none, .mv (.t 4)⟩, ⟨(some 142), none, .mv (.t 6)⟩, ⟨(some 143), none, .call (.f 52) [(.t 141), (.t 142)]⟩, ⟨(some 140), none, .mv (.t 143)⟩, ⟨(some 144), none, .extr (.t 140) 0⟩, ⟨(some 145), none, .extr (.t 140) 1⟩, ⟨(some 146), none, .extr (.t 140) 2⟩, ⟨(some 23), none, .alloc [(.int .i64 (0)), (.int .i64 (0))]⟩, ⟨none, none, .store 2 (.t 23) (.t 144)⟩, ⟨(some 24), none, .mv (.t 145)⟩, ⟨(some 25), none, .mv (.t 146)⟩] (some ⟨[4,6,9,10,14,15,16,17,18,19,23,24,25], [14,17,23], []⟩))
  (.seq (.reg false [⟨(some 26), none, .alloc [(.int .i64 (0)), (.int .i64 (0))]⟩] (some ⟨[4,6,9,10,14,15,16,17,18,19,23,24,25,26], [14,17,23,26], []⟩))
  (.seq (.seq (.reg false [⟨(some 147), none, .mv (.t 6)⟩, ⟨(some 148), none, .len (.t 147)⟩, ⟨(some 149), none, .bin .gtr (.t 148) (.v (.int .i64 (0)))⟩] (some ⟨[4,6,9,10,14,15,16,17,18,19,23,24,25,26,149], [14,17,23,26], []⟩))
  (.cond (.t 149)
  (.reg false [⟨(some 150), none, .mv (.t 4)⟩, ⟨(some 151), none, .len (.t 150)⟩, ⟨(some 152), none, .mv (.t 6)⟩, ⟨(some 153), none, .len (.t 152)⟩, ⟨(some 154), none, .call (.f 53) [(.t 151), (.t 153)]⟩, ⟨none, none, .store 2 (.t 26) (.t 154)⟩] (some ⟨[4,6,9,10,14,15,16,17,18,19,23,24,25,26], [14,17,23,26], []⟩))
  .skip))
  (.seq (.reg false [⟨(some 155), none, .mv (.t 10)⟩, ⟨(some 156), none, .bin .eql (.t 155) (.v (.int .i64 (0)))⟩, ⟨(some 157), none, .mv (.t 156)⟩, ⟨(some 158), (some (157, true)), .mv (.t 9)⟩, ⟨(some 159), (some (157, true)), .mv (.t 4)⟩, ⟨(some 160), (some (157, true)), .mv (.t 6)⟩, ⟨(some 161), (some (157, true)), .call (.f 41) [(.t 159), (.t 160)]⟩, ⟨(some 162), (some (157, true)), .call (.f 40) [(.t 158), (.t 161)]⟩, ⟨(some 163), none, .pick (.t 157) (.t 162) (.v (.bool false))⟩, ⟨(some 164), none, .mv (.t 163)⟩, ⟨(some 165), (some (164, true)), .mv (.t 16)⟩, ⟨(some 166), (some (164, true)), .mv (.t 25)⟩, ⟨(some 167), (some (164, true)), .un .not (.t 166)⟩, ⟨(some 168), (some (164, true)), .call (.f 54) [(.t 167)]⟩, ⟨(some 169), (some (164, true)), .bin .eql (.t 165) (.t 168)⟩, ⟨(some 170), none, .pick (.t 164) (.t 169) (.v (.bool false))⟩, ⟨(some 171), none, .mv (.t 170)⟩, ⟨(some 172), (some (171, true)), .load true 2 (.t 14)⟩, ⟨(some 173), (some (171, true)), .load true 2 (.t 23)⟩, ⟨(some 174), (some (171, true)), .eqs false true [.i .i64, .i .i64] (.t 172) (.t 173)⟩, ⟨(some 175), none, .pick (.t 171) (.t 174) (.v (.bool false))⟩, ⟨(some 176), none, .mv (.t 175)⟩, ⟨(some 177), (some (176, true)), .mv (.t 15)⟩, ⟨(some 178), (some (176, true)), .mv (.t 24)⟩, ⟨(some 179), (some (176, true)), .bin .eql (.t 177) (.t 178)⟩, ⟨(some 180), none, .pick (.t 176) (.t 179) (.v (.bool false))⟩, ⟨(some 181), none, .mv (.t 180)⟩, ⟨(some 182), (some (181, true)), .mv (.t 19)⟩, ⟨(some 183), (some (181, true)), .bin .eql (.t 182) (.v (.int .i64 (0)))⟩, ⟨(some 184), none, .pick (.t 181) (.t 183) (.v (.bool false))⟩, ⟨(some 185), none, .mv (.t 184)⟩, ⟨(some 186), (some (185, true)), .mv (.t 18)⟩, ⟨(some 187), (some (185, true)), .mv (.t 6)⟩, ⟨(some 188), (some (185, true)), .len (.t 187)⟩, ⟨(some 189), (some (185, true)), .bin .gtr (.t 188) (.v (.int .i64 (0)))⟩, ⟨(some 190), (some (185, true)), .eqs false false [.b] (.t 186) (.t 189)⟩, ⟨(some 191), none, .pick (.t 185) (.t 190) (.v (.bool false))⟩, ⟨(some 192), none, .mv (.t 191)⟩, ⟨(some 193), (some (192, true)), .load true 2 (.t 17)⟩, ⟨(some 194), (some (192, true)), .load true 2 (.t 26)⟩, ⟨(some 195), (some (192, true)), .eqs false true [.i .i64, .i .i64] (.t 193) (.t 194)⟩, ⟨(some 196), none, .pick (.t 192) (.t 195) (.v (.bool false))⟩, ⟨(some 197), none, .mv (.t 196)⟩, ⟨(some 198), (some (197, true)), .call (.f 35) []⟩, ⟨(some 199), none, .pick (.t 197) (.t 198) (.v (.bool false))⟩, ⟨(some 2), none, .mv (.t 199)⟩] (some ⟨[2], [], []⟩))
  .ret))))))))))))))))))))
theorem c_sre : compileCode Try.prog Try.f5.ntmps (Try.f5.body.getD .skip) A_sre = some (C_sre, []) := by kernel_rfl
theorem r_sre : compileRes Try.prog Try.f5.results.toList = some [.t 2] := by kernel_rfl
theorem b_sre : Try.f5.body = some (Try.f5.body.getD .skip) := by kernel_rfl
theorem n_sre : (Try.f5.name == "runtime.NumGoroutine") = false := by kernel_rfl
theorem fc_sre {xt : Option (List Cel)} {args : List Val} {R : List Cel → Val → Prop} (hn : (if xt.isSome then 1 else 0) + args.length ≤ Try.f5.ntmps) (h : ex Try.prog C_sre [] (fpost xt [.t 2] R) (initSt xt args)) : FC Try.prog 5 xt args R :=
  fc_of_awp Try.func5 b_sre n_sre c_sre r_sre (of_decide_eq_true (by kernel_rfl)) hn h


def eqSSt (fr fr' : Bool) (l : List Smp) (i : Int) : AS := ⟨tabV [(0, smps fr l), (1, smps fr' l), (12, iv l.length), (13, iv i)], tabO [], tabO []⟩
theorem eqSmp_fc (fr fr' : Bool) (l : List Smp) (hl : l.length ≤ 4611686018427387904) : FC Try.prog 40 none [smps fr l, smps fr' l] (fun _ r => r = bv true) := by
  refine fc_eqSmp (by simp +arith) ?_
  unfold C_eqSmp
  simp (maxSteps := 1000000) (disch := omega) only [go_sem, eq_self, decide_true, decide_false, not_true_eq_false, not_false_eq_true, reduceIte, reduceCtorEq, Nat.reduceEqDiff, Nat.reduceAdd, Nat.reduceSub, Nat.reduceLeDiff]
  refine ex_loop1 (eqSSt fr fr' l) (fun i => 0 ≤ i ∧ i ≤ l.length) (fun i => (l.length - i).toNat) 0 ⟨by omega, by omega⟩ rfl ?_
  rintro i ⟨g1, g2⟩
  unfold eqSSt
  by_cases hi : i < l.length
  · simp (maxSteps := 1000000) (disch := omega) only [go_sem, eq_self, decide_true, decide_false, not_true_eq_false, not_false_eq_true, reduceIte, reduceCtorEq, Nat.reduceEqDiff, Nat.reduceAdd, Nat.reduceSub, Nat.reduceLeDiff]
    exact ⟨_, rfl, ⟨by omega, by omega⟩, by omega⟩
  · simp (maxSteps := 1000000) (disch := omega) only [go_sem, eq_self, decide_true, decide_false, not_true_eq_false, not_false_eq_true, reduceIte, reduceCtorEq, Nat.reduceEqDiff, Nat.reduceAdd, Nat.reduceSub, Nat.reduceLeDiff]
theorem orm_z {a b : Int} : orSp [a, b] = 0 ↔ a = 0 ∧ b = 0 := by
  simp only [orSp]
  constructor
  · intro h
    split at h
    · omega
    · split at h
      · omega
      · exact ⟨by omega, by omega⟩
  · rintro ⟨rfl, rfl⟩; rfl
/-- What both ways answer at a moment. -/
theorem reco_rf (l : List Smp) (at_ : Int) : recoSp l at_ = if orSp [serFault l, momFault at_] = 0 then ((rfSp l at_).1, (rfSp l at_).2, 0) else ((0, 0), false, orSp [serFault l, momFault at_]) := by
  unfold recoSp
  by_cases h1 : serFault l = 0
  · rw [if_neg (by omega)]
    by_cases h2 : 0 ≤ at_ ∧ at_ ≤ 345686399999
    · have e : momFault at_ = 0 := by unfold momFault; rw [if_pos h2]
      rw [if_neg (by omega), if_pos (orm_z.2 ⟨h1, e⟩)]
      unfold rfSp
      split <;> rfl
    · have e : momFault at_ = 1 := by unfold momFault; rw [if_neg h2]
      rw [if_pos h2, if_neg (fun h => by have := (orm_z.1 h).2; omega), h1, e]; rfl
  · have e : orSp [serFault l, momFault at_] = serFault l := by simp [orSp, h1]
    rw [if_pos (by omega), if_neg (fun h => h1 (orm_z.1 h).1), e]
theorem err_eo {l : List Smp} {kept : List Int} (h : kptF l kept = 0) : errSp l kept = ((eoSp l (kep l kept)).1, (eoSp l (kep l kept)).2.1, if (!(eoSp l (kep l kept)).2.2) = true then 8 else 0) := by
  unfold errSp eoSp
  rw [if_neg (by omega)]
  by_cases h1 : (erGo (kep l kept) 0 ((0, 0), -1) l).2 < 0
  · rw [if_pos h1, if_pos h1]; rfl
  · rw [if_neg h1, if_neg h1]; simp
theorem bfault_eq (l : List Smp) (kept : List Int) : kptF l kept = if serFault l = 0 then idxF l kept else serFault l := by
  rw [kptF_idx]; by_cases h : serFault l = 0 <;> simp [h]
set_option maxHeartbeats 12000000 in
set_option maxRecDepth 8000 in
theorem sre_fc (L : List Int) (hL : ∀ x ∈ L, I64 x) (hl : L.length ≤ 9223372036854775807) : FC Try.prog 5 none [ints false L] (fun _ r => r = bv true) := by
  refine fc_sre (by simp +arith) ?_
  unfold C_sre
  simp (maxSteps := 1000000) (disch := omega) only [go_sem, eq_self, decide_true, decide_false, not_true_eq_false, not_false_eq_true, reduceIte, reduceCtorEq, Nat.reduceEqDiff, Nat.reduceAdd, Nat.reduceSub, Nat.reduceLeDiff]
  refine callx_gen (p := 0) (curve_fc 12 (by omega) (by omega)) hL hl (by omega) (by omega) ⟨_, [], by simp, by simp, rfl⟩ ?_
  rintro pa r ha1 ha2 ⟨c, hcl, hc64, rfl⟩
  refine ⟨rfl, ?_⟩
  unfold strm
  simp (maxSteps := 1000000) (disch := omega) only [go_sem, eq_self, decide_true, decide_false, not_true_eq_false, not_false_eq_true, reduceIte, reduceCtorEq, Nat.reduceEqDiff, Nat.reduceAdd, Nat.reduceSub, Nat.reduceLeDiff]
  refine callx_gen amoment_fc hL hl (by omega) (by omega) ⟨_, 0, by simp [I64], rfl⟩ ?_
  rintro pb r hb1 hb2 ⟨at_, hat, rfl⟩
  refine ⟨rfl, ?_⟩
  unfold strm
  simp (maxSteps := 1000000) (disch := omega) only [go_sem, eq_self, decide_true, decide_false, not_true_eq_false, not_false_eq_true, reduceIte, reduceCtorEq, Nat.reduceEqDiff, Nat.reduceAdd, Nat.reduceSub, Nat.reduceLeDiff]
  refine callx_gen (keptList_fc c (by omega)) hL hl (by omega) (by omega) ⟨_, [], by simp, by simp, rfl⟩ ?_
  rintro pc r hc1 hc2 ⟨kept, hkl, hk64, rfl⟩
  refine ⟨rfl, ?_⟩
  unfold strm
  simp (maxSteps := 1000000) (disch := omega) only [go_sem, eq_self, decide_true, decide_false, not_true_eq_false, not_false_eq_true, reduceIte, reduceCtorEq, Nat.reduceEqDiff, Nat.reduceAdd, Nat.reduceSub, Nat.reduceLeDiff]
  refine CALL_det (seriesFault_fc c (by omega)) (.inl rfl) ?_
  simp (maxSteps := 1000000) (disch := omega) only [go_sem, eq_self, decide_true, decide_false, not_true_eq_false, not_false_eq_true, reduceIte, reduceCtorEq, Nat.reduceEqDiff, Nat.reduceAdd, Nat.reduceSub, Nat.reduceLeDiff]
  refine CALL_det (seriesFault_fc c (by omega)) (.inl rfl) ?_
  have hrf := reco_rf c at_
  have hor := orE_fc false [serFault c, momFault at_] (by simp)
  have hbf := bfault_eq c kept
  by_cases h1 : serFault c = 0
  · have hg := good_of h1
    rw [h1] at hrf hor
    rw [if_pos h1] at hbf
    rw [h1]
    simp (maxSteps := 1000000) (disch := omega) only [go_sem, eq_self, decide_true, decide_false, not_true_eq_false, not_false_eq_true, reduceIte, reduceCtorEq, Nat.reduceEqDiff, Nat.reduceAdd, Nat.reduceSub, Nat.reduceLeDiff]
    refine CALL_det (indicesFault_fc c (by omega) kept (by omega)) (.inl rfl) ?_
    by_cases h2 : idxF c kept = 0
    · have hk : kptF c kept = 0 := by rw [hbf]; exact h2
      obtain ⟨k1, k2, k3⟩ := kptF_ok hk
      have hin := kfGo_ok _ kept none k3
      have hgk := good_of (kep_fault hk)
      have e1 : kepSp c kept = (kep c kept, 0) := by unfold kepSp; rw [if_neg (by omega)]
      have e2 := err_eo hk
      have hkeq : (kep c kept).length = kept.length := by unfold kep; simp
      have heo := errorOf_fc c h1 kept k2 hin hgk
      rw [h2]
      generalize eoSp c (kep c kept) = y at *
      by_cases h4 : kept.length = 0
      · have e3 : rtSp c kept = ((0, 0), false, 0) := by unfold rtSp; rw [if_neg (by omega), if_pos h4]
        simp (maxSteps := 1000000) (disch := omega) only [go_sem, eq_self, decide_true, decide_false, not_true_eq_false, not_false_eq_true, reduceIte, reduceCtorEq, Nat.reduceEqDiff, Nat.reduceAdd, Nat.reduceSub, Nat.reduceLeDiff]
        refine CALL_det (keepP_fc c (by omega) kept (by omega)) (.inl rfl) ?_
        rw [e1]
        simp (maxSteps := 1000000) (disch := omega) only [go_sem, eq_self, decide_true, decide_false, not_true_eq_false, not_false_eq_true, reduceIte, reduceCtorEq, Nat.reduceEqDiff, Nat.reduceAdd, Nat.reduceSub, Nat.reduceLeDiff]
        refine CALL_det (reconstruct_fc c (by omega) at_) (.inl rfl) ?_
        simp (maxSteps := 1000000) (disch := omega) only [go_sem, eq_self, decide_true, decide_false, not_true_eq_false, not_false_eq_true, reduceIte, reduceCtorEq, Nat.reduceEqDiff, Nat.reduceAdd, Nat.reduceSub, Nat.reduceLeDiff]
        refine CALL_det (error_fc c (by omega) kept (by omega) (fun h => good_of (kep_fault h))) (.inl rfl) ?_
        rw [e2]
        simp (maxSteps := 1000000) (disch := omega) only [go_sem, eq_self, decide_true, decide_false, not_true_eq_false, not_false_eq_true, reduceIte, reduceCtorEq, Nat.reduceEqDiff, Nat.reduceAdd, Nat.reduceSub, Nat.reduceLeDiff]
        refine CALL_det (ratio_fc c (by omega) kept (by omega)) (.inl rfl) ?_
        rw [e3]
        simp (maxSteps := 1000000) (disch := omega) only [go_sem, eq_self, decide_true, decide_false, not_true_eq_false, not_false_eq_true, reduceIte, reduceCtorEq, Nat.reduceEqDiff, Nat.reduceAdd, Nat.reduceSub, Nat.reduceLeDiff]
        refine CALL_det (momentFault1_fc at_) (.inl rfl) ?_
        simp (maxSteps := 1000000) (disch := omega) only [go_sem, eq_self, decide_true, decide_false, not_true_eq_false, not_false_eq_true, reduceIte, reduceCtorEq, Nat.reduceEqDiff, Nat.reduceAdd, Nat.reduceSub, Nat.reduceLeDiff]
        refine CALL_det (hor) (.inl rfl) ?_
        by_cases h3 : orSp [0, momFault at_] = 0
        · have h3' := momFault_ok (orm_z.1 h3).2
          rw [h3]
          rw [if_pos h3] at hrf
          simp (maxSteps := 1000000) (disch := omega) only [go_sem, eq_self, decide_true, decide_false, not_true_eq_false, not_false_eq_true, reduceIte, reduceCtorEq, Nat.reduceEqDiff, Nat.reduceAdd, Nat.reduceSub, Nat.reduceLeDiff]
          refine CALL_det (reconstructedOf_fc c hg at_ (by omega)) (.inl rfl) ?_
          rw [hrf]
          simp (maxSteps := 1000000) (disch := omega) only [go_sem, eq_self, decide_true, decide_false, not_true_eq_false, not_false_eq_true, reduceIte, reduceCtorEq, Nat.reduceEqDiff, Nat.reduceAdd, Nat.reduceSub, Nat.reduceLeDiff]
          refine CALL_det (heo) (.inl rfl) ?_
          simp (maxSteps := 1000000) (disch := omega) only [go_sem, eq_self, decide_true, decide_false, not_true_eq_false, not_false_eq_true, reduceIte, reduceCtorEq, Nat.reduceEqDiff, Nat.reduceAdd, Nat.reduceSub, Nat.reduceLeDiff]
          refine CALL_det (keptOf_fc c hg.len kept k2 hin) (.inl rfl) ?_
          simp (maxSteps := 1000000) (disch := omega) only [go_sem, eq_self, decide_true, decide_false, not_true_eq_false, not_false_eq_true, reduceIte, reduceCtorEq, Nat.reduceEqDiff, Nat.reduceAdd, Nat.reduceSub, Nat.reduceLeDiff]
          refine CALL_det (eqSmp_fc _ _ (kep c kept) (by omega)) (.inl rfl) ?_
          simp (maxSteps := 1000000) (disch := omega) only [go_sem, eq_self, decide_true, decide_false, not_true_eq_false, not_false_eq_true, reduceIte, reduceCtorEq, Nat.reduceEqDiff, Nat.reduceAdd, Nat.reduceSub, Nat.reduceLeDiff]
          refine CALL_det (noneFault_fc _) (.inl rfl) ?_
          simp (maxSteps := 1000000) (disch := omega) only [go_sem, eq_self, decide_true, decide_false, not_true_eq_false, not_false_eq_true, reduceIte, reduceCtorEq, Nat.reduceEqDiff, Nat.reduceAdd, Nat.reduceSub, Nat.reduceLeDiff]
          refine ⟨fun _ => ?_, fun h => absurd (decide_eq_false (by omega)).symm h⟩
          refine CALL_det (pressed_fc) (.inl rfl) ?_
          simp (maxSteps := 1000000) (disch := omega) only [go_sem, eq_self, decide_true, decide_false, not_true_eq_false, not_false_eq_true, reduceIte, reduceCtorEq, Nat.reduceEqDiff, Nat.reduceAdd, Nat.reduceSub, Nat.reduceLeDiff]
        · rw [if_neg h3] at hrf
          rw [hrf]
          simp (maxSteps := 1000000) (disch := omega) only [go_sem, eq_self, decide_true, decide_false, not_true_eq_false, not_false_eq_true, reduceIte, reduceCtorEq, Nat.reduceEqDiff, Nat.reduceAdd, Nat.reduceSub, Nat.reduceLeDiff]
          refine CALL_det (heo) (.inl rfl) ?_
          simp (maxSteps := 1000000) (disch := omega) only [go_sem, eq_self, decide_true, decide_false, not_true_eq_false, not_false_eq_true, reduceIte, reduceCtorEq, Nat.reduceEqDiff, Nat.reduceAdd, Nat.reduceSub, Nat.reduceLeDiff]
          refine CALL_det (keptOf_fc c hg.len kept k2 hin) (.inl rfl) ?_
          simp (maxSteps := 1000000) (disch := omega) only [go_sem, eq_self, decide_true, decide_false, not_true_eq_false, not_false_eq_true, reduceIte, reduceCtorEq, Nat.reduceEqDiff, Nat.reduceAdd, Nat.reduceSub, Nat.reduceLeDiff]
          refine CALL_det (eqSmp_fc _ _ (kep c kept) (by omega)) (.inl rfl) ?_
          simp (maxSteps := 1000000) (disch := omega) only [go_sem, eq_self, decide_true, decide_false, not_true_eq_false, not_false_eq_true, reduceIte, reduceCtorEq, Nat.reduceEqDiff, Nat.reduceAdd, Nat.reduceSub, Nat.reduceLeDiff]
          refine CALL_det (noneFault_fc _) (.inl rfl) ?_
          simp (maxSteps := 1000000) (disch := omega) only [go_sem, eq_self, decide_true, decide_false, not_true_eq_false, not_false_eq_true, reduceIte, reduceCtorEq, Nat.reduceEqDiff, Nat.reduceAdd, Nat.reduceSub, Nat.reduceLeDiff]
          refine ⟨fun _ => ?_, fun h => absurd (decide_eq_false (by omega)).symm h⟩
          refine CALL_det (pressed_fc) (.inl rfl) ?_
          simp (maxSteps := 1000000) (disch := omega) only [go_sem, eq_self, decide_true, decide_false, not_true_eq_false, not_false_eq_true, reduceIte, reduceCtorEq, Nat.reduceEqDiff, Nat.reduceAdd, Nat.reduceSub, Nat.reduceLeDiff]
      · have e3 : rtSp c kept = ((lowN c.length kept.length, lowD c.length kept.length), true, 0) := by unfold rtSp; rw [if_neg (by omega), if_neg h4]
        simp (maxSteps := 1000000) (disch := omega) only [go_sem, eq_self, decide_true, decide_false, not_true_eq_false, not_false_eq_true, reduceIte, reduceCtorEq, Nat.reduceEqDiff, Nat.reduceAdd, Nat.reduceSub, Nat.reduceLeDiff]
        refine CALL_det (keepP_fc c (by omega) kept (by omega)) (.inl rfl) ?_
        rw [e1]
        simp (maxSteps := 1000000) (disch := omega) only [go_sem, eq_self, decide_true, decide_false, not_true_eq_false, not_false_eq_true, reduceIte, reduceCtorEq, Nat.reduceEqDiff, Nat.reduceAdd, Nat.reduceSub, Nat.reduceLeDiff]
        refine CALL_det (reconstruct_fc c (by omega) at_) (.inl rfl) ?_
        simp (maxSteps := 1000000) (disch := omega) only [go_sem, eq_self, decide_true, decide_false, not_true_eq_false, not_false_eq_true, reduceIte, reduceCtorEq, Nat.reduceEqDiff, Nat.reduceAdd, Nat.reduceSub, Nat.reduceLeDiff]
        refine CALL_det (error_fc c (by omega) kept (by omega) (fun h => good_of (kep_fault h))) (.inl rfl) ?_
        rw [e2]
        simp (maxSteps := 1000000) (disch := omega) only [go_sem, eq_self, decide_true, decide_false, not_true_eq_false, not_false_eq_true, reduceIte, reduceCtorEq, Nat.reduceEqDiff, Nat.reduceAdd, Nat.reduceSub, Nat.reduceLeDiff]
        refine CALL_det (ratio_fc c (by omega) kept (by omega)) (.inl rfl) ?_
        rw [e3]
        simp (maxSteps := 1000000) (disch := omega) only [go_sem, eq_self, decide_true, decide_false, not_true_eq_false, not_false_eq_true, reduceIte, reduceCtorEq, Nat.reduceEqDiff, Nat.reduceAdd, Nat.reduceSub, Nat.reduceLeDiff]
        refine CALL_det (momentFault1_fc at_) (.inl rfl) ?_
        simp (maxSteps := 1000000) (disch := omega) only [go_sem, eq_self, decide_true, decide_false, not_true_eq_false, not_false_eq_true, reduceIte, reduceCtorEq, Nat.reduceEqDiff, Nat.reduceAdd, Nat.reduceSub, Nat.reduceLeDiff]
        refine CALL_det (hor) (.inl rfl) ?_
        by_cases h3 : orSp [0, momFault at_] = 0
        · have h3' := momFault_ok (orm_z.1 h3).2
          rw [h3]
          rw [if_pos h3] at hrf
          simp (maxSteps := 1000000) (disch := omega) only [go_sem, eq_self, decide_true, decide_false, not_true_eq_false, not_false_eq_true, reduceIte, reduceCtorEq, Nat.reduceEqDiff, Nat.reduceAdd, Nat.reduceSub, Nat.reduceLeDiff]
          refine CALL_det (reconstructedOf_fc c hg at_ (by omega)) (.inl rfl) ?_
          rw [hrf]
          simp (maxSteps := 1000000) (disch := omega) only [go_sem, eq_self, decide_true, decide_false, not_true_eq_false, not_false_eq_true, reduceIte, reduceCtorEq, Nat.reduceEqDiff, Nat.reduceAdd, Nat.reduceSub, Nat.reduceLeDiff]
          refine CALL_det (heo) (.inl rfl) ?_
          simp (maxSteps := 1000000) (disch := omega) only [go_sem, eq_self, decide_true, decide_false, not_true_eq_false, not_false_eq_true, reduceIte, reduceCtorEq, Nat.reduceEqDiff, Nat.reduceAdd, Nat.reduceSub, Nat.reduceLeDiff]
          refine CALL_det (lowest_fc c.length kept.length (by omega) (by omega) (by omega)) (.inl rfl) ?_
          simp (maxSteps := 1000000) (disch := omega) only [go_sem, eq_self, decide_true, decide_false, not_true_eq_false, not_false_eq_true, reduceIte, reduceCtorEq, Nat.reduceEqDiff, Nat.reduceAdd, Nat.reduceSub, Nat.reduceLeDiff]
          refine CALL_det (keptOf_fc c hg.len kept k2 hin) (.inl rfl) ?_
          simp (maxSteps := 1000000) (disch := omega) only [go_sem, eq_self, decide_true, decide_false, not_true_eq_false, not_false_eq_true, reduceIte, reduceCtorEq, Nat.reduceEqDiff, Nat.reduceAdd, Nat.reduceSub, Nat.reduceLeDiff]
          refine CALL_det (eqSmp_fc _ _ (kep c kept) (by omega)) (.inl rfl) ?_
          simp (maxSteps := 1000000) (disch := omega) only [go_sem, eq_self, decide_true, decide_false, not_true_eq_false, not_false_eq_true, reduceIte, reduceCtorEq, Nat.reduceEqDiff, Nat.reduceAdd, Nat.reduceSub, Nat.reduceLeDiff]
          refine CALL_det (noneFault_fc _) (.inl rfl) ?_
          simp (maxSteps := 1000000) (disch := omega) only [go_sem, eq_self, decide_true, decide_false, not_true_eq_false, not_false_eq_true, reduceIte, reduceCtorEq, Nat.reduceEqDiff, Nat.reduceAdd, Nat.reduceSub, Nat.reduceLeDiff]
          refine ⟨fun _ => ?_, fun h => absurd (decide_eq_true (by omega)).symm h⟩
          refine CALL_det (pressed_fc) (.inl rfl) ?_
          simp (maxSteps := 1000000) (disch := omega) only [go_sem, eq_self, decide_true, decide_false, not_true_eq_false, not_false_eq_true, reduceIte, reduceCtorEq, Nat.reduceEqDiff, Nat.reduceAdd, Nat.reduceSub, Nat.reduceLeDiff]
        · rw [if_neg h3] at hrf
          rw [hrf]
          simp (maxSteps := 1000000) (disch := omega) only [go_sem, eq_self, decide_true, decide_false, not_true_eq_false, not_false_eq_true, reduceIte, reduceCtorEq, Nat.reduceEqDiff, Nat.reduceAdd, Nat.reduceSub, Nat.reduceLeDiff]
          refine CALL_det (heo) (.inl rfl) ?_
          simp (maxSteps := 1000000) (disch := omega) only [go_sem, eq_self, decide_true, decide_false, not_true_eq_false, not_false_eq_true, reduceIte, reduceCtorEq, Nat.reduceEqDiff, Nat.reduceAdd, Nat.reduceSub, Nat.reduceLeDiff]
          refine CALL_det (lowest_fc c.length kept.length (by omega) (by omega) (by omega)) (.inl rfl) ?_
          simp (maxSteps := 1000000) (disch := omega) only [go_sem, eq_self, decide_true, decide_false, not_true_eq_false, not_false_eq_true, reduceIte, reduceCtorEq, Nat.reduceEqDiff, Nat.reduceAdd, Nat.reduceSub, Nat.reduceLeDiff]
          refine CALL_det (keptOf_fc c hg.len kept k2 hin) (.inl rfl) ?_
          simp (maxSteps := 1000000) (disch := omega) only [go_sem, eq_self, decide_true, decide_false, not_true_eq_false, not_false_eq_true, reduceIte, reduceCtorEq, Nat.reduceEqDiff, Nat.reduceAdd, Nat.reduceSub, Nat.reduceLeDiff]
          refine CALL_det (eqSmp_fc _ _ (kep c kept) (by omega)) (.inl rfl) ?_
          simp (maxSteps := 1000000) (disch := omega) only [go_sem, eq_self, decide_true, decide_false, not_true_eq_false, not_false_eq_true, reduceIte, reduceCtorEq, Nat.reduceEqDiff, Nat.reduceAdd, Nat.reduceSub, Nat.reduceLeDiff]
          refine CALL_det (noneFault_fc _) (.inl rfl) ?_
          simp (maxSteps := 1000000) (disch := omega) only [go_sem, eq_self, decide_true, decide_false, not_true_eq_false, not_false_eq_true, reduceIte, reduceCtorEq, Nat.reduceEqDiff, Nat.reduceAdd, Nat.reduceSub, Nat.reduceLeDiff]
          refine ⟨fun _ => ?_, fun h => absurd (decide_eq_true (by omega)).symm h⟩
          refine CALL_det (pressed_fc) (.inl rfl) ?_
          simp (maxSteps := 1000000) (disch := omega) only [go_sem, eq_self, decide_true, decide_false, not_true_eq_false, not_false_eq_true, reduceIte, reduceCtorEq, Nat.reduceEqDiff, Nat.reduceAdd, Nat.reduceSub, Nat.reduceLeDiff]
    · have e1 : kepSp c kept = ([], idxF c kept) := by unfold kepSp; rw [if_pos (by omega), hbf]
      have e2 : errSp c kept = ((0, 0), 0, idxF c kept) := by unfold errSp; rw [if_pos (by omega), hbf]
      have e3 : rtSp c kept = ((0, 0), false, idxF c kept) := by unfold rtSp; rw [if_pos (by omega), hbf]
      simp (maxSteps := 1000000) (disch := omega) only [go_sem, eq_self, decide_true, decide_false, not_true_eq_false, not_false_eq_true, reduceIte, reduceCtorEq, Nat.reduceEqDiff, Nat.reduceAdd, Nat.reduceSub, Nat.reduceLeDiff]
      refine CALL_det (keepP_fc c (by omega) kept (by omega)) (.inl rfl) ?_
      rw [e1]
      simp (maxSteps := 1000000) (disch := omega) only [go_sem, eq_self, decide_true, decide_false, not_true_eq_false, not_false_eq_true, reduceIte, reduceCtorEq, Nat.reduceEqDiff, Nat.reduceAdd, Nat.reduceSub, Nat.reduceLeDiff]
      refine CALL_det (reconstruct_fc c (by omega) at_) (.inl rfl) ?_
      simp (maxSteps := 1000000) (disch := omega) only [go_sem, eq_self, decide_true, decide_false, not_true_eq_false, not_false_eq_true, reduceIte, reduceCtorEq, Nat.reduceEqDiff, Nat.reduceAdd, Nat.reduceSub, Nat.reduceLeDiff]
      refine CALL_det (error_fc c (by omega) kept (by omega) (fun h => good_of (kep_fault h))) (.inl rfl) ?_
      rw [e2]
      simp (maxSteps := 1000000) (disch := omega) only [go_sem, eq_self, decide_true, decide_false, not_true_eq_false, not_false_eq_true, reduceIte, reduceCtorEq, Nat.reduceEqDiff, Nat.reduceAdd, Nat.reduceSub, Nat.reduceLeDiff]
      refine CALL_det (ratio_fc c (by omega) kept (by omega)) (.inl rfl) ?_
      rw [e3]
      simp (maxSteps := 1000000) (disch := omega) only [go_sem, eq_self, decide_true, decide_false, not_true_eq_false, not_false_eq_true, reduceIte, reduceCtorEq, Nat.reduceEqDiff, Nat.reduceAdd, Nat.reduceSub, Nat.reduceLeDiff]
      refine CALL_det (momentFault1_fc at_) (.inl rfl) ?_
      simp (maxSteps := 1000000) (disch := omega) only [go_sem, eq_self, decide_true, decide_false, not_true_eq_false, not_false_eq_true, reduceIte, reduceCtorEq, Nat.reduceEqDiff, Nat.reduceAdd, Nat.reduceSub, Nat.reduceLeDiff]
      refine CALL_det (hor) (.inl rfl) ?_
      by_cases h3 : orSp [0, momFault at_] = 0
      · have h3' := momFault_ok (orm_z.1 h3).2
        rw [h3]
        rw [if_pos h3] at hrf
        simp (maxSteps := 1000000) (disch := omega) only [go_sem, eq_self, decide_true, decide_false, not_true_eq_false, not_false_eq_true, reduceIte, reduceCtorEq, Nat.reduceEqDiff, Nat.reduceAdd, Nat.reduceSub, Nat.reduceLeDiff]
        refine CALL_det (reconstructedOf_fc c hg at_ (by omega)) (.inl rfl) ?_
        rw [hrf]
        simp (maxSteps := 1000000) (disch := omega) only [go_sem, eq_self, decide_true, decide_false, not_true_eq_false, not_false_eq_true, reduceIte, reduceCtorEq, Nat.reduceEqDiff, Nat.reduceAdd, Nat.reduceSub, Nat.reduceLeDiff]
        refine CALL_det (pressed_fc) (.inl rfl) ?_
        simp (maxSteps := 1000000) (disch := omega) only [go_sem, eq_self, decide_true, decide_false, not_true_eq_false, not_false_eq_true, reduceIte, reduceCtorEq, Nat.reduceEqDiff, Nat.reduceAdd, Nat.reduceSub, Nat.reduceLeDiff]
      · rw [if_neg h3] at hrf
        rw [hrf]
        simp (maxSteps := 1000000) (disch := omega) only [go_sem, eq_self, decide_true, decide_false, not_true_eq_false, not_false_eq_true, reduceIte, reduceCtorEq, Nat.reduceEqDiff, Nat.reduceAdd, Nat.reduceSub, Nat.reduceLeDiff]
        refine CALL_det (pressed_fc) (.inl rfl) ?_
        simp (maxSteps := 1000000) (disch := omega) only [go_sem, eq_self, decide_true, decide_false, not_true_eq_false, not_false_eq_true, reduceIte, reduceCtorEq, Nat.reduceEqDiff, Nat.reduceAdd, Nat.reduceSub, Nat.reduceLeDiff]
  · have h3 : orSp [serFault c, momFault at_] = serFault c := by simp [orSp, h1]
    rw [if_neg h1] at hbf
    rw [h3, if_neg h1] at hrf
    rw [h3] at hor
    have e1 : kepSp c kept = ([], serFault c) := by unfold kepSp; rw [if_pos (by omega), hbf]
    have e2 : errSp c kept = ((0, 0), 0, serFault c) := by unfold errSp; rw [if_pos (by omega), hbf]
    have e3 : rtSp c kept = ((0, 0), false, serFault c) := by unfold rtSp; rw [if_pos (by omega), hbf]
    simp (maxSteps := 1000000) (disch := omega) only [go_sem, eq_self, decide_true, decide_false, not_true_eq_false, not_false_eq_true, reduceIte, reduceCtorEq, Nat.reduceEqDiff, Nat.reduceAdd, Nat.reduceSub, Nat.reduceLeDiff]
    refine CALL_det (keepP_fc c (by omega) kept (by omega)) (.inl rfl) ?_
    rw [e1]
    simp (maxSteps := 1000000) (disch := omega) only [go_sem, eq_self, decide_true, decide_false, not_true_eq_false, not_false_eq_true, reduceIte, reduceCtorEq, Nat.reduceEqDiff, Nat.reduceAdd, Nat.reduceSub, Nat.reduceLeDiff]
    refine CALL_det (reconstruct_fc c (by omega) at_) (.inl rfl) ?_
    rw [hrf]
    simp (maxSteps := 1000000) (disch := omega) only [go_sem, eq_self, decide_true, decide_false, not_true_eq_false, not_false_eq_true, reduceIte, reduceCtorEq, Nat.reduceEqDiff, Nat.reduceAdd, Nat.reduceSub, Nat.reduceLeDiff]
    refine CALL_det (error_fc c (by omega) kept (by omega) (fun h => good_of (kep_fault h))) (.inl rfl) ?_
    rw [e2]
    simp (maxSteps := 1000000) (disch := omega) only [go_sem, eq_self, decide_true, decide_false, not_true_eq_false, not_false_eq_true, reduceIte, reduceCtorEq, Nat.reduceEqDiff, Nat.reduceAdd, Nat.reduceSub, Nat.reduceLeDiff]
    refine CALL_det (ratio_fc c (by omega) kept (by omega)) (.inl rfl) ?_
    rw [e3]
    simp (maxSteps := 1000000) (disch := omega) only [go_sem, eq_self, decide_true, decide_false, not_true_eq_false, not_false_eq_true, reduceIte, reduceCtorEq, Nat.reduceEqDiff, Nat.reduceAdd, Nat.reduceSub, Nat.reduceLeDiff]
    refine CALL_det (momentFault1_fc at_) (.inl rfl) ?_
    simp (maxSteps := 1000000) (disch := omega) only [go_sem, eq_self, decide_true, decide_false, not_true_eq_false, not_false_eq_true, reduceIte, reduceCtorEq, Nat.reduceEqDiff, Nat.reduceAdd, Nat.reduceSub, Nat.reduceLeDiff]
    refine CALL_det (hor) (.inl rfl) ?_
    simp (maxSteps := 1000000) (disch := omega) only [go_sem, eq_self, decide_true, decide_false, not_true_eq_false, not_false_eq_true, reduceIte, reduceCtorEq, Nat.reduceEqDiff, Nat.reduceAdd, Nat.reduceSub, Nat.reduceLeDiff]
    refine CALL_det (pressed_fc) (.inl rfl) ?_
    simp (maxSteps := 1000000) (disch := omega) only [go_sem, eq_self, decide_true, decide_false, not_true_eq_false, not_false_eq_true, reduceIte, reduceCtorEq, Nat.reduceEqDiff, Nat.reduceAdd, Nat.reduceSub, Nat.reduceLeDiff]
theorem sre_own : ownKnob Try.prog.godebug = none := by kernel_rfl
theorem sre_laid : laidOutB Try.prog = true := by kernel_rfl
set_option maxRecDepth 100000 in
theorem sre_lifted (os : Os) (started : os.Started) (H : Type) (enc : TypeId × Value → H) :
    ReturnsInHanded {} Try.checked os 5 .any (Rows.samplesReconstructedSpec.pre6 enc Try.prog Try.f5 Rows.samplesReconstructedRow.domain false) (Rows.samplesReconstructedSpec.post enc Try.prog Try.f5 false true false false) := by
  refine returnsInHanded_of_change (C := Try.checked) sre_own started (by kernel_rfl) Try.func5
    (ChangeSpec.witness6 (enc := enc) (C := Try.checked) false ⟨#[], #[.slice none 0 0], []⟩ 8 (by kernel_rfl) (by kernel_rfl) (by kernel_rfl) (by kernel_rfl)) ?_
  intro W base args ds gs before hval hW _ _
  exact law_contract (P := Try.prog) (fun L h1 h2 => sre_fc L h1 h2) (fun _ _ => rfl) rfl rfl rfl sre_laid (by kernel_rfl) (of_decide_eq_true (by kernel_rfl)) Try.underlying22 Try.underlying3 (by kernel_rfl) Try.underlying4 W base args ds gs before hval hW
theorem sre_over : Rows.samplesReconstructedRow.holds Try.pinned (OpenSpec.ofChange Rows.samplesReconstructedSpec) :=
  OpenClaim.holds_of_wide 5 Try.f5 rfl rfl rfl rfl rfl rfl rfl ⟨rfl, rfl, rfl, rfl, rfl⟩ rfl rfl rfl rfl rfl (by kernel_rfl) Try.func5 (by kernel_rfl)
    (of_decide_eq_true (by kernel_rfl)) (by unfold Func.isWrapper; first | (rw [if_pos (by decide +kernel)]; kernel_rfl) | (rw [if_neg (by decide +kernel)]; exact ⟨rfl, rfl⟩))
    (fun os started H enc _ => sre_lifted os started H enc)
theorem samples_reconstructed : Rows.SamplesReconstructedSaid := sre_over
end Go.Proofs.Ytmbpfhpdicjpcaa

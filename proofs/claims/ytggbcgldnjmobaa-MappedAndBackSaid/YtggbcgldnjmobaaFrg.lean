
/-
  What draws triggers and frames, and what checks frames.
-/
import Derived.Test.YtggbcgldnjmobaaFrp
import Derived.Test.YtggbcgldnjmobaaGenB
namespace Go.Proofs.Ytggbcgldnjmobaa
open Go Go.Ai
set_option linter.unusedSimpArgs false
set_option linter.unusedVariables false
set_option maxHeartbeats 4000000
def A_frameList : List Ann := [⟨(some ⟨[0], [0], []⟩), [], [], [], []⟩, ⟨(some ⟨[0,3], [0], []⟩), [(3, 66, 2)], [], [], []⟩, ⟨(some ⟨[0,3,4], [0], [3]⟩), [], [], [], []⟩, ⟨(some ⟨[0,3,4,11,12], [0], [3]⟩), [], [], [], []⟩, ⟨(some ⟨[0,3,4,11,12,13], [0], [3]⟩), [], [], [], []⟩, ⟨(some ⟨[0,3,5,11,12], [0,5], [3]⟩), [], [], [], []⟩, ⟨(some ⟨[0,3,5,11,12], [0,5], [3]⟩), [], [], [], []⟩, ⟨(some ⟨[0,3,4,11,12], [0], [3]⟩), [], [(0, (some 5)), (1, (some 5)), (4, (some 0))], [], []⟩, ⟨(some ⟨[0,3,4,11,12], [0], [3]⟩), [], [], [], []⟩, ⟨(some ⟨[0,3,38], [0], [3]⟩), [], [], [], []⟩, ⟨(some ⟨[0,3,6], [0], [3]⟩), [], [], [], []⟩, ⟨(some ⟨[3], [0], []⟩), [], [(13, (some 0)), (16, (some 999999999)), (17, (some 999999999)), (18, (some 999999999))], [], []⟩, ⟨(some ⟨[2], [0], []⟩), [], [], [], []⟩]
def C_frameList : AC := (.seq (.reg false [⟨(some 2), none, .mv (.v (.slice none 0 0))⟩] (some ⟨[0], [0], []⟩))
  (.seq (.seq (.reg false [⟨(some 3), none, .mv (.v (.slice none 0 0))⟩] (some ⟨[0,3], [0], []⟩))
  (.own 3 66 2))
  (.seq (.reg false [⟨(some 7), none, .mv (.t 0)⟩, ⟨(some 8), none, .bslice 1 3 [(.v (.int .i64 (0))), (.v (.int .i64 (3))), (.v (.int .i64 (10)))]⟩, ⟨(some 9), none, .callx (.f 57) [(.t 7), (.t 8)]⟩, ⟨(some 4), none, .mv (.t 9)⟩] (some ⟨[0,3,4], [0], [3]⟩))
  (.seq (.seq (.reg false [⟨(some 10), none, .mv (.t 0)⟩, ⟨(some 11), none, .callx (.f 40) [(.t 10), (.v (.int .i64 (0))), (.v (.int .i64 (4)))]⟩, ⟨(some 12), none, .mv (.v (.int .i64 (0)))⟩] (some ⟨[0,3,4,11,12], [0], [3]⟩))
  (.block 0 (.loop (.seq (.reg false [⟨(some 13), none, .bin .lss (.t 12) (.t 11)⟩] (some ⟨[0,3,4,11,12,13], [0], [3]⟩))
  (.seq (.cond (.t 13)
  .skip
  (.exit 0))
  (.seq (.block 1 (.seq (.reg false [⟨(some 14), none, .mv (.t 4)⟩, ⟨(some 15), none, .mv (.t 4)⟩, ⟨(some 16), none, .mv (.t 0)⟩, ⟨(some 17), none, .bslice 1 4 [(.v (.int .i64 (1))), (.v (.int .i64 (5))), (.v (.int .i64 (20))), (.v (.int .i64 (33)))]⟩, ⟨(some 18), none, .callx (.f 57) [(.t 16), (.t 17)]⟩, ⟨(some 19), none, .bin .add (.t 15) (.t 18)⟩, ⟨(some 20), none, .build [(.int .i64 (0)), (.int .i64 (0))] [(0, 1, (.t 14)), (1, 1, (.t 19))]⟩, ⟨(some 5), none, .alloc [(.int .i64 (0)), (.int .i64 (0))]⟩, ⟨none, none, .store 2 (.t 5) (.t 20)⟩] (some ⟨[0,3,5,11,12], [0,5], [3]⟩))
  (.seq (.reg false [⟨(some 21), none, .mv (.t 3)⟩, ⟨(some 22), none, .load true 2 (.t 5)⟩, ⟨(some 23), none, .bslice 2 1 [(.t 22)]⟩, ⟨(some 24), none, .append 66 2 16 (.t 21) (.t 23)⟩, ⟨(some 3), none, .mv (.t 24)⟩] (some ⟨[0,3,5,11,12], [0,5], [3]⟩))
  (.reg true [⟨none, none, .chk (.t 5) (some 5)⟩, ⟨(some 25), none, .fadr 1 (.t 5)⟩, ⟨none, none, .chk (.t 25) (some 5)⟩, ⟨(some 26), none, .load false 1 (.t 25)⟩, ⟨(some 27), none, .mv (.t 0)⟩, ⟨(some 28), none, .bslice 1 3 [(.v (.int .i64 (0))), (.v (.int .i64 (1))), (.v (.int .i64 (10)))]⟩, ⟨none, none, .chk (.t 27) (some 0)⟩, ⟨(some 29), none, .callx (.f 57) [(.t 27), (.t 28)]⟩, ⟨(some 30), none, .bin .add (.t 26) (.t 29)⟩, ⟨(some 4), none, .mv (.t 30)⟩] (some ⟨[0,3,4,11,12], [0], [3]⟩)))))
  (.reg false [⟨(some 31), none, .bin .add (.t 12) (.v (.int .i64 (1)))⟩, ⟨(some 12), none, .mv (.t 31)⟩] (some ⟨[0,3,4,11,12], [0], [3]⟩))))))))
  (.seq (.seq (.reg false [⟨(some 32), none, .mv (.t 3)⟩, ⟨(some 33), none, .len (.t 32)⟩, ⟨(some 34), none, .bin .gtr (.t 33) (.v (.int .i64 (0)))⟩, ⟨(some 35), none, .mv (.t 34)⟩, ⟨(some 36), (some (35, true)), .mv (.t 0)⟩, ⟨(some 37), (some (35, true)), .callx (.f 21) [(.t 36), (.v (.int .i64 (12)))]⟩, ⟨(some 38), none, .pick (.t 35) (.t 37) (.v (.bool false))⟩] (some ⟨[0,3,38], [0], [3]⟩))
  (.cond (.t 38)
  (.seq (.reg false [⟨(some 39), none, .mv (.t 3)⟩, ⟨(some 40), none, .mv (.t 0)⟩, ⟨(some 41), none, .mv (.t 3)⟩, ⟨(some 42), none, .len (.t 41)⟩, ⟨(some 43), none, .callx (.f 44) [(.t 40), (.t 42)]⟩, ⟨(some 44), none, .iadr 2 (.t 39) (.t 43)⟩, ⟨(some 6), none, .mv (.t 44)⟩] (some ⟨[0,3,6], [0], [3]⟩))
  (.reg true [⟨(some 45), none, .mv (.t 6)⟩, ⟨(some 46), none, .mv (.t 6)⟩, ⟨(some 47), none, .mv (.t 0)⟩, ⟨(some 48), none, .mv (.t 6)⟩, ⟨(some 49), none, .nilchk (.t 48)⟩, ⟨(some 50), none, .fadr 0 (.t 49)⟩, ⟨(some 51), none, .load false 1 (.t 50)⟩, ⟨(some 52), none, .bin .sub (.t 51) (.v (.int .i64 (4)))⟩, ⟨(some 53), none, .mv (.t 6)⟩, ⟨(some 54), none, .nilchk (.t 53)⟩, ⟨(some 55), none, .fadr 1 (.t 54)⟩, ⟨(some 56), none, .load false 1 (.t 55)⟩, ⟨(some 57), none, .bslice 1 3 [(.t 52), (.v (.int .i64 (-1))), (.t 56)]⟩, ⟨none, none, .chk (.t 47) (some 0)⟩, ⟨(some 58), none, .callx (.f 57) [(.t 47), (.t 57)]⟩, ⟨(some 59), none, .mv (.t 0)⟩, ⟨(some 60), none, .mv (.t 6)⟩, ⟨none, none, .chk (.t 60) (some 999999999)⟩, ⟨(some 61), none, .nilchk (.t 60)⟩, ⟨none, none, .chk (.t 61) (some 999999999)⟩, ⟨(some 62), none, .fadr 1 (.t 61)⟩, ⟨none, none, .chk (.t 62) (some 999999999)⟩, ⟨(some 63), none, .load false 1 (.t 62)⟩, ⟨(some 64), none, .bslice 1 3 [(.t 63), (.v (.int .i64 (345686400000))), (.v (.int .i64 (345686400001)))]⟩, ⟨(some 65), none, .callx (.f 57) [(.t 59), (.t 64)]⟩, ⟨(some 66), none, .nilchk (.t 45)⟩, ⟨(some 67), none, .fadr 0 (.t 66)⟩, ⟨none, none, .store 1 (.t 67) (.t 58)⟩, ⟨(some 68), none, .nilchk (.t 46)⟩, ⟨(some 69), none, .fadr 1 (.t 68)⟩, ⟨none, none, .store 1 (.t 69) (.t 65)⟩] (some ⟨[3], [0], []⟩)))
  .skip))
  (.seq (.reg false [⟨(some 70), none, .mv (.t 3)⟩, ⟨(some 2), none, .mv (.t 70)⟩] (some ⟨[2], [0], []⟩))
  .ret))))))
theorem c_frameList : compileCode Try.prog Try.f39.ntmps (Try.f39.body.getD .skip) A_frameList = some (C_frameList, []) := by kernel_rfl
theorem r_frameList : compileRes Try.prog Try.f39.results.toList = some [.t 2] := by kernel_rfl
theorem b_frameList : Try.f39.body = some (Try.f39.body.getD .skip) := by kernel_rfl
theorem n_frameList : (Try.f39.name == "runtime.NumGoroutine") = false := by kernel_rfl
theorem fc_frameList {xt : Option (List Cel)} {args : List Val} {R : List Cel → Val → Prop} (hn : (if xt.isSome then 1 else 0) + args.length ≤ Try.f39.ntmps) (h : ex Try.prog C_frameList [] (fpost xt [.t 2] R) (initSt xt args)) : FC Try.prog 39 xt args R :=
  fc_of_awp Try.func39 b_frameList n_frameList c_frameList r_frameList (of_decide_eq_true (by kernel_rfl)) hn h

def A_checkFrames : List Ann := [⟨(some ⟨[0], [], []⟩), [], [], [], []⟩, ⟨(some ⟨[0,7], [], []⟩), [], [], [], []⟩, ⟨(some ⟨[2], [], []⟩), [], [], [], []⟩, ⟨(some ⟨[0,8,9,10], [], []⟩), [], [], [], []⟩, ⟨(some ⟨[0,8,9,10,11], [], []⟩), [], [], [], []⟩, ⟨(some ⟨[0,3,4,8,9,10], [4], []⟩), [], [], [], []⟩, ⟨(some ⟨[0,3,4,8,9,10,15], [4], []⟩), [], [], [], []⟩, ⟨(some ⟨[2], [], []⟩), [], [], [], []⟩, ⟨(some ⟨[0,8,9,10,31], [], []⟩), [], [], [], []⟩, ⟨(some ⟨[2], [], []⟩), [], [], [], []⟩, ⟨(some ⟨[0,8,9,10], [], []⟩), [], [], [], []⟩, ⟨(some ⟨[2], [], []⟩), [], [], [], []⟩]
def C_checkFrames : AC := (.seq (.reg false [⟨(some 2), none, .mv (.v (.int .i64 (0)))⟩] (some ⟨[0], [], []⟩))
  (.seq (.seq (.reg false [⟨(some 5), none, .mv (.t 0)⟩, ⟨(some 6), none, .len (.t 5)⟩, ⟨(some 7), none, .bin .gtr (.t 6) (.v (.int .i64 (2000)))⟩] (some ⟨[0,7], [], []⟩))
  (.cond (.t 7)
  (.seq (.reg false [⟨(some 2), none, .mv (.v (.int .i64 (2)))⟩] (some ⟨[2], [], []⟩))
  .ret)
  .skip))
  (.seq (.seq (.reg false [⟨(some 8), none, .mv (.t 0)⟩, ⟨(some 9), none, .len (.t 8)⟩, ⟨(some 10), none, .mv (.v (.int .i64 (0)))⟩] (some ⟨[0,8,9,10], [], []⟩))
  (.block 0 (.loop (.seq (.reg false [⟨(some 11), none, .bin .lss (.t 10) (.t 9)⟩] (some ⟨[0,8,9,10,11], [], []⟩))
  (.seq (.cond (.t 11)
  .skip
  (.exit 0))
  (.seq (.block 1 (.seq (.reg false [⟨(some 12), none, .mv (.t 10)⟩, ⟨(some 13), none, .iadr 2 (.t 8) (.t 10)⟩, ⟨(some 14), none, .load true 2 (.t 13)⟩, ⟨(some 4), none, .alloc [(.int .i64 (0)), (.int .i64 (0))]⟩, ⟨(some 3), none, .mv (.t 12)⟩, ⟨none, none, .store 2 (.t 4) (.t 14)⟩] (some ⟨[0,3,4,8,9,10], [4], []⟩))
  (.block 2 (.seq (.reg false [⟨(some 16), none, .fadr 0 (.t 4)⟩, ⟨(some 17), none, .load false 1 (.t 16)⟩, ⟨(some 18), none, .bin .lss (.t 17) (.v (.int .i64 (0)))⟩, ⟨(some 19), none, .mv (.t 18)⟩, ⟨(some 20), (some (19, false)), .fadr 0 (.t 4)⟩, ⟨(some 21), (some (19, false)), .load false 1 (.t 20)⟩, ⟨(some 22), (some (19, false)), .fadr 1 (.t 4)⟩, ⟨(some 23), (some (19, false)), .load false 1 (.t 22)⟩, ⟨(some 24), (some (19, false)), .bin .geq (.t 21) (.t 23)⟩, ⟨(some 25), none, .pick (.t 19) (.v (.bool true)) (.t 24)⟩, ⟨(some 26), none, .mv (.t 25)⟩, ⟨(some 27), (some (26, false)), .fadr 1 (.t 4)⟩, ⟨(some 28), (some (26, false)), .load false 1 (.t 27)⟩, ⟨(some 29), (some (26, false)), .bin .gtr (.t 28) (.v (.int .i64 (345686400000)))⟩, ⟨(some 30), none, .pick (.t 26) (.v (.bool true)) (.t 29)⟩, ⟨(some 15), none, .mv (.t 30)⟩] (some ⟨[0,3,4,8,9,10,15], [4], []⟩))
  (.cond (.t 15)
  (.seq (.reg false [⟨(some 2), none, .mv (.v (.int .i64 (1)))⟩] (some ⟨[2], [], []⟩))
  .ret)
  (.seq (.reg true [⟨(some 32), none, .mv (.t 3)⟩, ⟨(some 33), none, .bin .gtr (.t 32) (.v (.int .i64 (0)))⟩, ⟨(some 34), none, .mv (.t 33)⟩, ⟨(some 35), (some (34, true)), .fadr 0 (.t 4)⟩, ⟨(some 36), (some (34, true)), .load false 1 (.t 35)⟩, ⟨(some 37), (some (34, true)), .mv (.t 0)⟩, ⟨(some 38), (some (34, true)), .mv (.t 3)⟩, ⟨(some 39), (some (34, true)), .bin .sub (.t 38) (.v (.int .i64 (1)))⟩, ⟨(some 40), (some (34, true)), .iadr 2 (.t 37) (.t 39)⟩, ⟨(some 41), (some (34, true)), .fadr 1 (.t 40)⟩, ⟨(some 42), (some (34, true)), .load false 1 (.t 41)⟩, ⟨(some 43), (some (34, true)), .bin .lss (.t 36) (.t 42)⟩, ⟨(some 44), none, .pick (.t 34) (.t 43) (.v (.bool false))⟩, ⟨(some 31), none, .mv (.t 44)⟩] (some ⟨[0,8,9,10,31], [], []⟩))
  (.cond (.t 31)
  (.seq (.reg false [⟨(some 2), none, .mv (.v (.int .i64 (7)))⟩] (some ⟨[2], [], []⟩))
  .ret)
  .skip)))))))
  (.reg false [⟨(some 45), none, .bin .add (.t 10) (.v (.int .i64 (1)))⟩, ⟨(some 10), none, .mv (.t 45)⟩] (some ⟨[0,8,9,10], [], []⟩))))))))
  (.seq (.reg false [⟨(some 2), none, .mv (.v (.int .i64 (0)))⟩] (some ⟨[2], [], []⟩))
  .ret))))
theorem c_checkFrames : compileCode Try.prog Try.f100.ntmps (Try.f100.body.getD .skip) A_checkFrames = some (C_checkFrames, []) := by kernel_rfl
theorem r_checkFrames : compileRes Try.prog Try.f100.results.toList = some [.t 2] := by kernel_rfl
theorem b_checkFrames : Try.f100.body = some (Try.f100.body.getD .skip) := by kernel_rfl
theorem n_checkFrames : (Try.f100.name == "runtime.NumGoroutine") = false := by kernel_rfl
theorem fc_checkFrames {xt : Option (List Cel)} {args : List Val} {R : List Cel → Val → Prop} (hn : (if xt.isSome then 1 else 0) + args.length ≤ Try.f100.ntmps) (h : ex Try.prog C_checkFrames [] (fpost xt [.t 2] R) (initSt xt args)) : FC Try.prog 100 xt args R :=
  fc_of_awp Try.func100 b_checkFrames n_checkFrames c_checkFrames r_checkFrames (of_decide_eq_true (by kernel_rfl)) hn h

def A_frameFault : List Ann := [⟨(some ⟨[0], [], []⟩), [], [], [], []⟩, ⟨(some ⟨[0,7], [], []⟩), [], [], [], []⟩, ⟨(some ⟨[2], [], []⟩), [], [], [], []⟩, ⟨(some ⟨[0,8,9,10], [], []⟩), [], [], [], []⟩, ⟨(some ⟨[0,8,9,10,11], [], []⟩), [], [], [], []⟩, ⟨(some ⟨[0,3,4,8,9,10], [4], []⟩), [], [], [], []⟩, ⟨(some ⟨[0,3,4,8,9,10,15], [4], []⟩), [], [], [], []⟩, ⟨(some ⟨[2], [], []⟩), [], [], [], []⟩, ⟨(some ⟨[0,8,9,10,31], [], []⟩), [], [], [], []⟩, ⟨(some ⟨[2], [], []⟩), [], [], [], []⟩, ⟨(some ⟨[0,8,9,10], [], []⟩), [], [], [], []⟩, ⟨(some ⟨[2], [], []⟩), [], [], [], []⟩]
def C_frameFault : AC := (.seq (.reg false [⟨(some 2), none, .mv (.v (.int .i64 (0)))⟩] (some ⟨[0], [], []⟩))
  (.seq (.seq (.reg false [⟨(some 5), none, .mv (.t 0)⟩, ⟨(some 6), none, .len (.t 5)⟩, ⟨(some 7), none, .bin .gtr (.t 6) (.v (.int .i64 (2000)))⟩] (some ⟨[0,7], [], []⟩))
  (.cond (.t 7)
  (.seq (.reg false [⟨(some 2), none, .mv (.v (.int .i64 (2)))⟩] (some ⟨[2], [], []⟩))
  .ret)
  .skip))
  (.seq (.seq (.reg false [⟨(some 8), none, .mv (.t 0)⟩, ⟨(some 9), none, .len (.t 8)⟩, ⟨(some 10), none, .mv (.v (.int .i64 (0)))⟩] (some ⟨[0,8,9,10], [], []⟩))
  (.block 0 (.loop (.seq (.reg false [⟨(some 11), none, .bin .lss (.t 10) (.t 9)⟩] (some ⟨[0,8,9,10,11], [], []⟩))
  (.seq (.cond (.t 11)
  .skip
  (.exit 0))
  (.seq (.block 1 (.seq (.reg false [⟨(some 12), none, .mv (.t 10)⟩, ⟨(some 13), none, .iadr 2 (.t 8) (.t 10)⟩, ⟨(some 14), none, .load true 2 (.t 13)⟩, ⟨(some 4), none, .alloc [(.int .i64 (0)), (.int .i64 (0))]⟩, ⟨(some 3), none, .mv (.t 12)⟩, ⟨none, none, .store 2 (.t 4) (.t 14)⟩] (some ⟨[0,3,4,8,9,10], [4], []⟩))
  (.block 2 (.seq (.reg false [⟨(some 16), none, .fadr 0 (.t 4)⟩, ⟨(some 17), none, .load false 1 (.t 16)⟩, ⟨(some 18), none, .bin .lss (.t 17) (.v (.int .i64 (0)))⟩, ⟨(some 19), none, .mv (.t 18)⟩, ⟨(some 20), (some (19, false)), .fadr 0 (.t 4)⟩, ⟨(some 21), (some (19, false)), .load false 1 (.t 20)⟩, ⟨(some 22), (some (19, false)), .fadr 1 (.t 4)⟩, ⟨(some 23), (some (19, false)), .load false 1 (.t 22)⟩, ⟨(some 24), (some (19, false)), .bin .geq (.t 21) (.t 23)⟩, ⟨(some 25), none, .pick (.t 19) (.v (.bool true)) (.t 24)⟩, ⟨(some 26), none, .mv (.t 25)⟩, ⟨(some 27), (some (26, false)), .fadr 1 (.t 4)⟩, ⟨(some 28), (some (26, false)), .load false 1 (.t 27)⟩, ⟨(some 29), (some (26, false)), .bin .gtr (.t 28) (.v (.int .i64 (345686400000)))⟩, ⟨(some 30), none, .pick (.t 26) (.v (.bool true)) (.t 29)⟩, ⟨(some 15), none, .mv (.t 30)⟩] (some ⟨[0,3,4,8,9,10,15], [4], []⟩))
  (.cond (.t 15)
  (.seq (.reg false [⟨(some 2), none, .mv (.v (.int .i64 (1)))⟩] (some ⟨[2], [], []⟩))
  .ret)
  (.seq (.reg true [⟨(some 32), none, .mv (.t 3)⟩, ⟨(some 33), none, .bin .gtr (.t 32) (.v (.int .i64 (0)))⟩, ⟨(some 34), none, .mv (.t 33)⟩, ⟨(some 35), (some (34, true)), .fadr 0 (.t 4)⟩, ⟨(some 36), (some (34, true)), .load false 1 (.t 35)⟩, ⟨(some 37), (some (34, true)), .mv (.t 0)⟩, ⟨(some 38), (some (34, true)), .mv (.t 3)⟩, ⟨(some 39), (some (34, true)), .bin .sub (.t 38) (.v (.int .i64 (1)))⟩, ⟨(some 40), (some (34, true)), .iadr 2 (.t 37) (.t 39)⟩, ⟨(some 41), (some (34, true)), .fadr 1 (.t 40)⟩, ⟨(some 42), (some (34, true)), .load false 1 (.t 41)⟩, ⟨(some 43), (some (34, true)), .bin .lss (.t 36) (.t 42)⟩, ⟨(some 44), none, .pick (.t 34) (.t 43) (.v (.bool false))⟩, ⟨(some 31), none, .mv (.t 44)⟩] (some ⟨[0,8,9,10,31], [], []⟩))
  (.cond (.t 31)
  (.seq (.reg false [⟨(some 2), none, .mv (.v (.int .i64 (7)))⟩] (some ⟨[2], [], []⟩))
  .ret)
  .skip)))))))
  (.reg false [⟨(some 45), none, .bin .add (.t 10) (.v (.int .i64 (1)))⟩, ⟨(some 10), none, .mv (.t 45)⟩] (some ⟨[0,8,9,10], [], []⟩))))))))
  (.seq (.reg false [⟨(some 2), none, .mv (.v (.int .i64 (0)))⟩] (some ⟨[2], [], []⟩))
  .ret))))
theorem c_frameFault : compileCode Try.prog Try.f41.ntmps (Try.f41.body.getD .skip) A_frameFault = some (C_frameFault, []) := by kernel_rfl
theorem r_frameFault : compileRes Try.prog Try.f41.results.toList = some [.t 2] := by kernel_rfl
theorem b_frameFault : Try.f41.body = some (Try.f41.body.getD .skip) := by kernel_rfl
theorem n_frameFault : (Try.f41.name == "runtime.NumGoroutine") = false := by kernel_rfl
theorem fc_frameFault {xt : Option (List Cel)} {args : List Val} {R : List Cel → Val → Prop} (hn : (if xt.isSome then 1 else 0) + args.length ≤ Try.f41.ntmps) (h : ex Try.prog C_frameFault [] (fpost xt [.t 2] R) (initSt xt args)) : FC Try.prog 41 xt args R :=
  fc_of_awp Try.func41 b_frameFault n_frameFault c_frameFault r_frameFault (of_decide_eq_true (by kernel_rfl)) hn h


theorem getE_set_map {α β : Type} (f : α → β) (l : List α) (i : Nat) (x : β) (h : i < l.length) : ((l.map f).set i x)[i]? = some x := by
  simp [h]
theorem set_map_set {α β : Type} (f : α → β) (l : List α) (i : Nat) (x y : β) : ((l.map f).set i x).set i y = (l.map f).set i y := by simp
attribute [go_sem] getE_set_map set_map_set
def flSt (L : List Int) (n : Int) (i a q : Int) (out : List (Int × Int)) : AS :=
  ⟨tabV [(0, .one (.bx 0 0)), (3, .one (.ow 3 0)), (4, iv a), (11, iv n), (12, iv i)], tabO [(0, strm L q)], tabO [(3, winRow out)]⟩
theorem frameList_fc : Gen Try.prog 39 [] 20 (fun r => ∃ l : List (Int × Int), l.length ≤ 4 ∧ (∀ w ∈ l, I64 w.1 ∧ I64 w.2) ∧ r = frsV true l) := by
  intro L p hL hl h0 hp
  refine fc_frameList (by simp +arith) ?_
  unfold C_frameList strm
  simp (maxSteps := 1000000) (disch := omega) only [go_sem, eq_self, decide_true, decide_false, not_true_eq_false, not_false_eq_true, reduceIte, reduceCtorEq, Nat.reduceEqDiff, Nat.reduceAdd, Nat.reduceSub, Nat.reduceLeDiff]
  refine callx_gen (pick_fc false [0, 3, 10] (by simp) (by simp)) hL hl (by omega) (by omega) ⟨_, 0, by simp, rfl⟩ ?_
  rintro pa r haa hba ⟨za, hza, rfl⟩
  refine ⟨rfl, ?_⟩
  unfold strm
  simp only [List.mem_cons, List.not_mem_nil, or_false] at hza
  simp (maxSteps := 1000000) (disch := omega) only [go_sem, eq_self, decide_true, decide_false, not_true_eq_false, not_false_eq_true, reduceIte, reduceCtorEq, Nat.reduceEqDiff, Nat.reduceAdd, Nat.reduceSub, Nat.reduceLeDiff]
  refine callx_gen (range_fc 0 4 (by omega) (by omega) (by omega)) hL hl (by omega) (by omega) ⟨_, 0, by omega, by omega, rfl⟩ ?_
  rintro pb r hab hbb ⟨zb, hzb, hyb, rfl⟩
  refine ⟨rfl, ?_⟩
  unfold strm
  simp (maxSteps := 1000000) (disch := omega) only [go_sem, eq_self, decide_true, decide_false, not_true_eq_false, not_false_eq_true, reduceIte, reduceCtorEq, Nat.reduceEqDiff, Nat.reduceAdd, Nat.reduceSub, Nat.reduceLeDiff]
  refine ex_loop4 (flSt L zb) (fun i a q out => 0 ≤ i ∧ i ≤ zb ∧ out.length = i ∧ p ≤ q ∧ q ≤ p + 2 + 2 * i ∧ 0 ≤ a ∧ a ≤ 100 * i + 100 ∧ ∀ w ∈ out, 0 ≤ w.1 ∧ w.1 ≤ 2000 ∧ 0 ≤ w.2 ∧ w.2 ≤ 2000) (fun i _ _ _ => (zb - i).toNat) 0 za pb [] ⟨by omega, by omega, by simp, by omega, by omega, by omega, by omega, by simp⟩ rfl ?_
  rintro i a q out ⟨g1, g2, g3, g4, g5, g6, g7, g8⟩
  unfold flSt strm
  by_cases hi : i < zb
  · simp (maxSteps := 1000000) (disch := omega) only [go_sem, eq_self, decide_true, decide_false, not_true_eq_false, not_false_eq_true, reduceIte, reduceCtorEq, Nat.reduceEqDiff, Nat.reduceAdd, Nat.reduceSub, Nat.reduceLeDiff]
    refine callx_gen (pick_fc false [1, 5, 20, 33] (by simp) (by simp)) hL hl (by omega) (by omega) ⟨_, 1, by simp, rfl⟩ ?_
    rintro pc r hac hbc ⟨zc, hzc, rfl⟩
    refine ⟨rfl, ?_⟩
    unfold strm
    simp only [List.mem_cons, List.not_mem_nil, or_false] at hzc
    simp (maxSteps := 1000000) (disch := omega) only [go_sem, eq_self, decide_true, decide_false, not_true_eq_false, not_false_eq_true, reduceIte, reduceCtorEq, Nat.reduceEqDiff, Nat.reduceAdd, Nat.reduceSub, Nat.reduceLeDiff]
    refine callx_gen (pick_fc false [0, 1, 10] (by simp) (by simp)) hL hl (by omega) (by omega) ⟨_, 0, by simp, rfl⟩ ?_
    rintro pd r had hbd ⟨zd, hzd, rfl⟩
    refine ⟨rfl, ?_⟩
    unfold strm
    simp only [List.mem_cons, List.not_mem_nil, or_false] at hzd
    simp (maxSteps := 1000000) (disch := omega) only [go_sem, eq_self, decide_true, decide_false, not_true_eq_false, not_false_eq_true, reduceIte, reduceCtorEq, Nat.reduceEqDiff, Nat.reduceAdd, Nat.reduceSub, Nat.reduceLeDiff]
    refine ⟨i + 1, a + zc + zd, pd, out ++ [(a, a + zc)], by simp only [flSt, strm, winRow, List.map_append, List.map_cons, List.map_nil, frC_eq], ⟨by omega, by omega, by simp; omega, by omega, by omega, by omega, by omega, fun w hw => ?_⟩, by omega⟩
    simp only [List.mem_append, List.mem_cons, List.not_mem_nil, or_false] at hw
    rcases hw with hw | rfl
    · exact g8 w hw
    · simp only; omega
  · simp (maxSteps := 1000000) (disch := omega) only [go_sem, eq_self, decide_true, decide_false, not_true_eq_false, not_false_eq_true, reduceIte, reduceCtorEq, Nat.reduceEqDiff, Nat.reduceAdd, Nat.reduceSub, Nat.reduceLeDiff]
    have g9 : ∀ w ∈ out, I64 w.1 ∧ I64 w.2 := fun w hw => by have := g8 w hw; unfold I64; omega
    refine ⟨fun hlen => ?_, fun hlen => ?_⟩
    ·
      refine callx_gen (flip_fc 12 (by omega) (by omega)) hL hl (by omega) (by omega) ⟨_, true, rfl⟩ ?_
      rintro pe r hae hbe ⟨be, rfl⟩
      refine ⟨rfl, ?_⟩
      unfold strm
      simp (maxSteps := 1000000) (disch := omega) only [go_sem, eq_self, decide_true, decide_false, not_true_eq_false, not_false_eq_true, reduceIte, reduceCtorEq, Nat.reduceEqDiff, Nat.reduceAdd, Nat.reduceSub, Nat.reduceLeDiff]
      refine ⟨fun hb => ?_, fun hb => ?_⟩
      ·
        refine callx_gen (next_fc out.length (by omega) (by omega)) hL hl (by omega) (by omega) ⟨_, 0, by omega, by omega, rfl⟩ ?_
        rintro pf r haf hbf ⟨zf, hzf, hyf, rfl⟩
        refine ⟨rfl, ?_⟩
        unfold strm
        simp (maxSteps := 1000000) (disch := omega) only [go_sem, eq_self, decide_true, decide_false, not_true_eq_false, not_false_eq_true, reduceIte, reduceCtorEq, Nat.reduceEqDiff, Nat.reduceAdd, Nat.reduceSub, Nat.reduceLeDiff]
        have gw := g8 _ (getD_mem out zf.toNat (by omega))
        have eo := getE_map_in frC out zf.toNat (by omega)
        simp (maxSteps := 1000000) (disch := omega) only [go_sem, eq_self, decide_true, decide_false, not_true_eq_false, not_false_eq_true, reduceIte, reduceCtorEq, Nat.reduceEqDiff, Nat.reduceAdd, Nat.reduceSub, Nat.reduceLeDiff]
        refine callx_gen (pick_fc false [(out.getD zf.toNat default).1 - 4, -1, (out.getD zf.toNat default).2] (by simp) (by simp)) hL hl (by omega) (by omega) ⟨_, (-1), by simp, rfl⟩ ?_
        rintro pg r hag hbg ⟨zg, hzg, rfl⟩
        refine ⟨rfl, ?_⟩
        unfold strm
        simp only [List.mem_cons, List.not_mem_nil, or_false] at hzg
        simp (maxSteps := 1000000) (disch := omega) only [go_sem, eq_self, decide_true, decide_false, not_true_eq_false, not_false_eq_true, reduceIte, reduceCtorEq, Nat.reduceEqDiff, Nat.reduceAdd, Nat.reduceSub, Nat.reduceLeDiff]
        refine callx_gen (pick_fc false [(out.getD zf.toNat default).2, 345686400000, 345686400001] (by simp) (by simp)) hL hl (by omega) (by omega) ⟨_, 345686400000, by simp, rfl⟩ ?_
        rintro ph r hah hbh ⟨zh, hzh, rfl⟩
        refine ⟨rfl, ?_⟩
        unfold strm
        simp only [List.mem_cons, List.not_mem_nil, or_false] at hzh
        simp (maxSteps := 1000000) (disch := omega) only [go_sem, eq_self, decide_true, decide_false, not_true_eq_false, not_false_eq_true, reduceIte, reduceCtorEq, Nat.reduceEqDiff, Nat.reduceAdd, Nat.reduceSub, Nat.reduceLeDiff]
        refine ⟨⟨ph, by omega, by omega, rfl⟩, out.set zf.toNat (zg, zh), by simp; omega, fun x hx => ?_, by simp [frC_eq, List.map_set, frE_set, frE_fr, freshC]⟩
        rcases List.mem_or_eq_of_mem_set hx with hx | rfl
        · exact g9 x hx
        · unfold I64; simp only; omega
      · exact ⟨⟨pe, by omega, by omega, rfl⟩, out, by omega, g9, rfl⟩
    · exact ⟨⟨q, by omega, by omega, rfl⟩, out, by omega, g9, rfl⟩
def cwSt (l : List (Int × Int)) (i : Int) : AS := ⟨tabV [(0, frsV false l), (8, frsV false l), (9, iv l.length), (10, iv i)], tabO [], tabO []⟩
theorem checkFrames_fc (l : List (Int × Int)) (hl : l.length ≤ 4611686018427387904) : FC Try.prog 100 none [frsV false l] (fun _ r => r = iv (fwF l)) := by
  refine fc_checkFrames (by simp +arith) ?_
  unfold C_checkFrames fwF
  by_cases h : 2000 < l.length
  · rw [if_pos h]
    simp (maxSteps := 1000000) (disch := omega) only [go_sem, eq_self, decide_true, decide_false, not_true_eq_false, not_false_eq_true, reduceIte, reduceCtorEq, Nat.reduceEqDiff, Nat.reduceAdd, Nat.reduceSub, Nat.reduceLeDiff]
  rw [if_neg h]
  simp (maxSteps := 1000000) (disch := omega) only [go_sem, eq_self, decide_true, decide_false, not_true_eq_false, not_false_eq_true, reduceIte, reduceCtorEq, Nat.reduceEqDiff, Nat.reduceAdd, Nat.reduceSub, Nat.reduceLeDiff]
  refine ex_loop1 (cwSt l) (fun i => 0 ≤ i ∧ i ≤ l.length ∧ fwGo (prvW l i.toNat) (l.drop i.toNat) = fwGo none l) (fun i => (l.length - i).toNat) 0 ⟨by omega, by omega, rfl⟩ rfl ?_
  rintro i ⟨g1, g2, g3⟩
  unfold cwSt
  by_cases hi : i < l.length
  · have g4 := fwGo_step l i.toNat (by omega)
    have e1 : (i - 1).toNat = i.toNat - 1 := by omega
    have e2 : (i + 1).toNat = i.toNat + 1 := by omega
    rw [g3] at g4
    by_cases c1 : (l.getD i.toNat default).1 < 0 ∨ (l.getD i.toNat default).1 ≥ (l.getD i.toNat default).2 ∨ (l.getD i.toNat default).2 > 345686400000
    · rw [if_pos c1] at g4
      rw [g4]
      by_cases d1 : (l.getD i.toNat default).1 < 0
      · simp (maxSteps := 1000000) (disch := omega) only [go_sem, eq_self, decide_true, decide_false, not_true_eq_false, not_false_eq_true, reduceIte, reduceCtorEq, Nat.reduceEqDiff, Nat.reduceAdd, Nat.reduceSub, Nat.reduceLeDiff]
      by_cases d2 : (l.getD i.toNat default).1 ≥ (l.getD i.toNat default).2
      · simp (maxSteps := 1000000) (disch := omega) only [go_sem, eq_self, decide_true, decide_false, not_true_eq_false, not_false_eq_true, reduceIte, reduceCtorEq, Nat.reduceEqDiff, Nat.reduceAdd, Nat.reduceSub, Nat.reduceLeDiff]
      have d3 : (l.getD i.toNat default).2 > 345686400000 := by omega
      simp (maxSteps := 1000000) (disch := omega) only [go_sem, eq_self, decide_true, decide_false, not_true_eq_false, not_false_eq_true, reduceIte, reduceCtorEq, Nat.reduceEqDiff, Nat.reduceAdd, Nat.reduceSub, Nat.reduceLeDiff]
    · rw [if_neg c1] at g4
      have d1 : ¬(l.getD i.toNat default).1 < 0 := by omega
      have d2 : ¬(l.getD i.toNat default).1 ≥ (l.getD i.toNat default).2 := by omega
      have d3 : ¬(l.getD i.toNat default).2 > 345686400000 := by omega
      by_cases c2 : 0 < i
      · by_cases c3 : (l.getD i.toNat default).1 < (l.getD (i - 1).toNat default).2
        · rw [if_pos ⟨by omega, by rw [← e1]; exact c3⟩] at g4
          rw [g4]
          simp (maxSteps := 1000000) (disch := omega) only [go_sem, eq_self, decide_true, decide_false, not_true_eq_false, not_false_eq_true, reduceIte, reduceCtorEq, Nat.reduceEqDiff, Nat.reduceAdd, Nat.reduceSub, Nat.reduceLeDiff]
        · rw [if_neg (fun h => c3 (by rw [e1]; exact h.2)), ← e2] at g4
          simp (maxSteps := 1000000) (disch := omega) only [go_sem, eq_self, decide_true, decide_false, not_true_eq_false, not_false_eq_true, reduceIte, reduceCtorEq, Nat.reduceEqDiff, Nat.reduceAdd, Nat.reduceSub, Nat.reduceLeDiff]
          exact ⟨i + 1, rfl, ⟨by omega, by omega, g4.symm⟩, by omega⟩
      · rw [if_neg (fun h => c2 (by omega)), ← e2] at g4
        simp (maxSteps := 1000000) (disch := omega) only [go_sem, eq_self, decide_true, decide_false, not_true_eq_false, not_false_eq_true, reduceIte, reduceCtorEq, Nat.reduceEqDiff, Nat.reduceAdd, Nat.reduceSub, Nat.reduceLeDiff]
        exact ⟨i + 1, rfl, ⟨by omega, by omega, g4.symm⟩, by omega⟩
  · rw [List.drop_eq_nil_of_le (by omega)] at g3
    simp (maxSteps := 1000000) (disch := omega) only [go_sem, eq_self, decide_true, decide_false, not_true_eq_false, not_false_eq_true, reduceIte, reduceCtorEq, Nat.reduceEqDiff, Nat.reduceAdd, Nat.reduceSub, Nat.reduceLeDiff]
    rw [← g3]; rfl
theorem frameFault_fc (l : List (Int × Int)) (hl : l.length ≤ 4611686018427387904) : FC Try.prog 41 none [frsV false l] (fun _ r => r = iv (fwF l)) := by
  refine fc_frameFault (by simp +arith) ?_
  unfold C_frameFault fwF
  by_cases h : 2000 < l.length
  · rw [if_pos h]
    simp (maxSteps := 1000000) (disch := omega) only [go_sem, eq_self, decide_true, decide_false, not_true_eq_false, not_false_eq_true, reduceIte, reduceCtorEq, Nat.reduceEqDiff, Nat.reduceAdd, Nat.reduceSub, Nat.reduceLeDiff]
  rw [if_neg h]
  simp (maxSteps := 1000000) (disch := omega) only [go_sem, eq_self, decide_true, decide_false, not_true_eq_false, not_false_eq_true, reduceIte, reduceCtorEq, Nat.reduceEqDiff, Nat.reduceAdd, Nat.reduceSub, Nat.reduceLeDiff]
  refine ex_loop1 (cwSt l) (fun i => 0 ≤ i ∧ i ≤ l.length ∧ fwGo (prvW l i.toNat) (l.drop i.toNat) = fwGo none l) (fun i => (l.length - i).toNat) 0 ⟨by omega, by omega, rfl⟩ rfl ?_
  rintro i ⟨g1, g2, g3⟩
  unfold cwSt
  by_cases hi : i < l.length
  · have g4 := fwGo_step l i.toNat (by omega)
    have e1 : (i - 1).toNat = i.toNat - 1 := by omega
    have e2 : (i + 1).toNat = i.toNat + 1 := by omega
    rw [g3] at g4
    by_cases c1 : (l.getD i.toNat default).1 < 0 ∨ (l.getD i.toNat default).1 ≥ (l.getD i.toNat default).2 ∨ (l.getD i.toNat default).2 > 345686400000
    · rw [if_pos c1] at g4
      rw [g4]
      by_cases d1 : (l.getD i.toNat default).1 < 0
      · simp (maxSteps := 1000000) (disch := omega) only [go_sem, eq_self, decide_true, decide_false, not_true_eq_false, not_false_eq_true, reduceIte, reduceCtorEq, Nat.reduceEqDiff, Nat.reduceAdd, Nat.reduceSub, Nat.reduceLeDiff]
      by_cases d2 : (l.getD i.toNat default).1 ≥ (l.getD i.toNat default).2
      · simp (maxSteps := 1000000) (disch := omega) only [go_sem, eq_self, decide_true, decide_false, not_true_eq_false, not_false_eq_true, reduceIte, reduceCtorEq, Nat.reduceEqDiff, Nat.reduceAdd, Nat.reduceSub, Nat.reduceLeDiff]
      have d3 : (l.getD i.toNat default).2 > 345686400000 := by omega
      simp (maxSteps := 1000000) (disch := omega) only [go_sem, eq_self, decide_true, decide_false, not_true_eq_false, not_false_eq_true, reduceIte, reduceCtorEq, Nat.reduceEqDiff, Nat.reduceAdd, Nat.reduceSub, Nat.reduceLeDiff]
    · rw [if_neg c1] at g4
      have d1 : ¬(l.getD i.toNat default).1 < 0 := by omega
      have d2 : ¬(l.getD i.toNat default).1 ≥ (l.getD i.toNat default).2 := by omega
      have d3 : ¬(l.getD i.toNat default).2 > 345686400000 := by omega
      by_cases c2 : 0 < i
      · by_cases c3 : (l.getD i.toNat default).1 < (l.getD (i - 1).toNat default).2
        · rw [if_pos ⟨by omega, by rw [← e1]; exact c3⟩] at g4
          rw [g4]
          simp (maxSteps := 1000000) (disch := omega) only [go_sem, eq_self, decide_true, decide_false, not_true_eq_false, not_false_eq_true, reduceIte, reduceCtorEq, Nat.reduceEqDiff, Nat.reduceAdd, Nat.reduceSub, Nat.reduceLeDiff]
        · rw [if_neg (fun h => c3 (by rw [e1]; exact h.2)), ← e2] at g4
          simp (maxSteps := 1000000) (disch := omega) only [go_sem, eq_self, decide_true, decide_false, not_true_eq_false, not_false_eq_true, reduceIte, reduceCtorEq, Nat.reduceEqDiff, Nat.reduceAdd, Nat.reduceSub, Nat.reduceLeDiff]
          exact ⟨i + 1, rfl, ⟨by omega, by omega, g4.symm⟩, by omega⟩
      · rw [if_neg (fun h => c2 (by omega)), ← e2] at g4
        simp (maxSteps := 1000000) (disch := omega) only [go_sem, eq_self, decide_true, decide_false, not_true_eq_false, not_false_eq_true, reduceIte, reduceCtorEq, Nat.reduceEqDiff, Nat.reduceAdd, Nat.reduceSub, Nat.reduceLeDiff]
        exact ⟨i + 1, rfl, ⟨by omega, by omega, g4.symm⟩, by omega⟩
  · rw [List.drop_eq_nil_of_le (by omega)] at g3
    simp (maxSteps := 1000000) (disch := omega) only [go_sem, eq_self, decide_true, decide_false, not_true_eq_false, not_false_eq_true, reduceIte, reduceCtorEq, Nat.reduceEqDiff, Nat.reduceAdd, Nat.reduceSub, Nat.reduceLeDiff]
    rw [← g3]; rfl
end Go.Proofs.Ytggbcgldnjmobaa

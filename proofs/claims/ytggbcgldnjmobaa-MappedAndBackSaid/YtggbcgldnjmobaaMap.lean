
/-
  Phases that are drawn; a moment mapped from the phases of a batch to those of another one, by both ways.
-/
import Derived.Test.YtggbcgldnjmobaaPha
import Derived.Test.YtggbcgldnjmobaaMul
namespace Go.Proofs.Ytggbcgldnjmobaa
open Go Go.Ai
set_option linter.unusedSimpArgs false
set_option linter.unusedVariables false
set_option maxHeartbeats 4000000
def A_phaseList : List Ann := [⟨(some ⟨[0,1], [0], []⟩), [], [], [], []⟩, ⟨(some ⟨[0,1,5], [0], []⟩), [(5, 76, 3)], [], [], []⟩, ⟨(some ⟨[0,1,5,6], [0], [5]⟩), [], [], [], []⟩, ⟨(some ⟨[0,5,6,14,15], [0], [5]⟩), [], [], [], []⟩, ⟨(some ⟨[0,5,6,14,15,16], [0], [5]⟩), [], [], [], []⟩, ⟨(some ⟨[0,5,7,14,15], [0,7], [5]⟩), [], [], [], []⟩, ⟨(some ⟨[0,5,7,14,15], [0,7], [5]⟩), [], [(3, (some 0)), (4, (some 7))], [], []⟩, ⟨(some ⟨[0,5,6,14,15], [0], [5]⟩), [], [(0, (some 7)), (1, (some 7)), (4, (some 0))], [], []⟩, ⟨(some ⟨[0,5,6,14,15], [0], [5]⟩), [], [], [], []⟩, ⟨(some ⟨[0,5,45], [0], [5]⟩), [], [], [], []⟩, ⟨(some ⟨[0,5,8], [0], [5]⟩), [], [], [], []⟩, ⟨(some ⟨[5], [0], []⟩), [], [(3, (some 0)), (6, (some 999999999)), (7, (some 999999999)), (8, (some 999999999)), (9, (some 999999999)), (11, (some 999999999)), (12, (some 999999999)), (13, (some 999999999)), (14, (some 999999999))], [], []⟩, ⟨(some ⟨[4], [0], []⟩), [], [], [], []⟩]
def C_phaseList : AC := (.seq (.reg false [⟨(some 4), none, .mv (.v (.slice none 0 0))⟩] (some ⟨[0,1], [0], []⟩))
  (.seq (.seq (.reg false [⟨(some 5), none, .mv (.v (.slice none 0 0))⟩] (some ⟨[0,1,5], [0], []⟩))
  (.own 5 76 3))
  (.seq (.reg false [⟨(some 9), none, .mv (.t 0)⟩, ⟨(some 10), none, .bslice 1 2 [(.v (.int .i64 (0))), (.v (.int .i64 (3)))]⟩, ⟨(some 11), none, .callx (.f 57) [(.t 9), (.t 10)]⟩, ⟨(some 6), none, .mv (.t 11)⟩] (some ⟨[0,1,5,6], [0], [5]⟩))
  (.seq (.seq (.reg false [⟨(some 12), none, .mv (.t 0)⟩, ⟨(some 13), none, .mv (.t 1)⟩, ⟨(some 14), none, .callx (.f 40) [(.t 12), (.v (.int .i64 (0))), (.t 13)]⟩, ⟨(some 15), none, .mv (.v (.int .i64 (0)))⟩] (some ⟨[0,5,6,14,15], [0], [5]⟩))
  (.block 0 (.loop (.seq (.reg false [⟨(some 16), none, .bin .lss (.t 15) (.t 14)⟩] (some ⟨[0,5,6,14,15,16], [0], [5]⟩))
  (.seq (.cond (.t 16)
  .skip
  (.exit 0))
  (.seq (.block 1 (.seq (.reg false [⟨(some 17), none, .mv (.t 6)⟩, ⟨(some 18), none, .mv (.t 6)⟩, ⟨(some 19), none, .mv (.t 0)⟩, ⟨(some 20), none, .bslice 1 3 [(.v (.int .i64 (1))), (.v (.int .i64 (5))), (.v (.int .i64 (20)))]⟩, ⟨(some 21), none, .callx (.f 57) [(.t 19), (.t 20)]⟩, ⟨(some 22), none, .bin .add (.t 18) (.t 21)⟩, ⟨(some 23), none, .build [(.int .i64 (0)), (.int .i64 (0))] [(0, 1, (.t 17)), (1, 1, (.t 22))]⟩, ⟨(some 7), none, .alloc [(.int .i64 (0)), (.int .i64 (0))]⟩, ⟨none, none, .store 2 (.t 7) (.t 23)⟩] (some ⟨[0,5,7,14,15], [0,7], [5]⟩))
  (.seq (.reg true [⟨(some 24), none, .mv (.t 5)⟩, ⟨(some 25), none, .mv (.t 0)⟩, ⟨(some 26), none, .bslice 1 5 [(.v (.int .i64 (1))), (.v (.int .i64 (1))), (.v (.int .i64 (2))), (.v (.int .i64 (2))), (.v (.int .i64 (3)))]⟩, ⟨none, none, .chk (.t 25) (some 0)⟩, ⟨(some 27), none, .callx (.f 57) [(.t 25), (.t 26)]⟩, ⟨none, none, .chk (.t 7) (some 7)⟩, ⟨(some 28), none, .load true 2 (.t 7)⟩, ⟨(some 29), none, .build [(.int .i64 (0)), (.int .i64 (0)), (.int .i64 (0))] [(0, 1, (.t 27)), (1, 2, (.t 28))]⟩, ⟨(some 30), none, .bslice 3 1 [(.t 29)]⟩, ⟨(some 31), none, .append 76 3 24 (.t 24) (.t 30)⟩, ⟨(some 5), none, .mv (.t 31)⟩] (some ⟨[0,5,7,14,15], [0,7], [5]⟩))
  (.reg true [⟨none, none, .chk (.t 7) (some 7)⟩, ⟨(some 32), none, .fadr 1 (.t 7)⟩, ⟨none, none, .chk (.t 32) (some 7)⟩, ⟨(some 33), none, .load false 1 (.t 32)⟩, ⟨(some 34), none, .mv (.t 0)⟩, ⟨(some 35), none, .bslice 1 3 [(.v (.int .i64 (0))), (.v (.int .i64 (0))), (.v (.int .i64 (4)))]⟩, ⟨none, none, .chk (.t 34) (some 0)⟩, ⟨(some 36), none, .callx (.f 57) [(.t 34), (.t 35)]⟩, ⟨(some 37), none, .bin .add (.t 33) (.t 36)⟩, ⟨(some 6), none, .mv (.t 37)⟩] (some ⟨[0,5,6,14,15], [0], [5]⟩)))))
  (.reg false [⟨(some 38), none, .bin .add (.t 15) (.v (.int .i64 (1)))⟩, ⟨(some 15), none, .mv (.t 38)⟩] (some ⟨[0,5,6,14,15], [0], [5]⟩))))))))
  (.seq (.seq (.reg false [⟨(some 39), none, .mv (.t 5)⟩, ⟨(some 40), none, .len (.t 39)⟩, ⟨(some 41), none, .bin .gtr (.t 40) (.v (.int .i64 (0)))⟩, ⟨(some 42), none, .mv (.t 41)⟩, ⟨(some 43), (some (42, true)), .mv (.t 0)⟩, ⟨(some 44), (some (42, true)), .callx (.f 21) [(.t 43), (.v (.int .i64 (12)))]⟩, ⟨(some 45), none, .pick (.t 42) (.t 44) (.v (.bool false))⟩] (some ⟨[0,5,45], [0], [5]⟩))
  (.cond (.t 45)
  (.seq (.reg false [⟨(some 46), none, .mv (.t 5)⟩, ⟨(some 47), none, .mv (.t 0)⟩, ⟨(some 48), none, .mv (.t 5)⟩, ⟨(some 49), none, .len (.t 48)⟩, ⟨(some 50), none, .callx (.f 44) [(.t 47), (.t 49)]⟩, ⟨(some 51), none, .iadr 3 (.t 46) (.t 50)⟩, ⟨(some 8), none, .mv (.t 51)⟩] (some ⟨[0,5,8], [0], [5]⟩))
  (.reg true [⟨(some 52), none, .mv (.t 8)⟩, ⟨(some 53), none, .mv (.t 8)⟩, ⟨(some 54), none, .mv (.t 0)⟩, ⟨none, none, .chk (.t 54) (some 0)⟩, ⟨(some 55), none, .callx (.f 74) [(.t 54), (.v (.int .i64 (0))), (.v (.int .i64 (1000)))]⟩, ⟨(some 56), none, .mv (.t 0)⟩, ⟨(some 57), none, .mv (.t 8)⟩, ⟨none, none, .chk (.t 57) (some 999999999)⟩, ⟨(some 58), none, .nilchk (.t 57)⟩, ⟨none, none, .chk (.t 58) (some 999999999)⟩, ⟨(some 59), none, .fadr 1 (.t 58)⟩, ⟨none, none, .chk (.t 59) (some 999999999)⟩, ⟨(some 60), none, .fadr 0 (.t 59)⟩, ⟨none, none, .chk (.t 60) (some 999999999)⟩, ⟨(some 61), none, .load false 1 (.t 60)⟩, ⟨(some 62), none, .mv (.t 8)⟩, ⟨none, none, .chk (.t 62) (some 999999999)⟩, ⟨(some 63), none, .nilchk (.t 62)⟩, ⟨none, none, .chk (.t 63) (some 999999999)⟩, ⟨(some 64), none, .fadr 1 (.t 63)⟩, ⟨none, none, .chk (.t 64) (some 999999999)⟩, ⟨(some 65), none, .fadr 1 (.t 64)⟩, ⟨none, none, .chk (.t 65) (some 999999999)⟩, ⟨(some 66), none, .load false 1 (.t 65)⟩, ⟨(some 67), none, .bslice 1 3 [(.t 61), (.v (.int .i64 (-1))), (.t 66)]⟩, ⟨(some 68), none, .callx (.f 57) [(.t 56), (.t 67)]⟩, ⟨(some 69), none, .nilchk (.t 52)⟩, ⟨(some 70), none, .fadr 0 (.t 69)⟩, ⟨none, none, .store 1 (.t 70) (.t 55)⟩, ⟨(some 71), none, .nilchk (.t 53)⟩, ⟨(some 72), none, .fadr 1 (.t 71)⟩, ⟨(some 73), none, .fadr 0 (.t 72)⟩, ⟨none, none, .store 1 (.t 73) (.t 68)⟩] (some ⟨[5], [0], []⟩)))
  .skip))
  (.seq (.reg false [⟨(some 74), none, .mv (.t 5)⟩, ⟨(some 4), none, .mv (.t 74)⟩] (some ⟨[4], [0], []⟩))
  .ret))))))
theorem c_phaseList : compileCode Try.prog Try.f47.ntmps (Try.f47.body.getD .skip) A_phaseList = some (C_phaseList, []) := by kernel_rfl
theorem r_phaseList : compileRes Try.prog Try.f47.results.toList = some [.t 4] := by kernel_rfl
theorem b_phaseList : Try.f47.body = some (Try.f47.body.getD .skip) := by kernel_rfl
theorem n_phaseList : (Try.f47.name == "runtime.NumGoroutine") = false := by kernel_rfl
theorem fc_phaseList {xt : Option (List Cel)} {args : List Val} {R : List Cel → Val → Prop} (hn : (if xt.isSome then 1 else 0) + args.length ≤ Try.f47.ntmps) (h : ex Try.prog C_phaseList [] (fpost xt [.t 4] R) (initSt xt args)) : FC Try.prog 47 xt args R :=
  fc_of_awp Try.func47 b_phaseList n_phaseList c_phaseList r_phaseList (of_decide_eq_true (by kernel_rfl)) hn h

def A_div64 : List Ann := [⟨(some ⟨[0,1,2], [], []⟩), [], [], [], []⟩, ⟨(some ⟨[0,1,2,20], [], []⟩), [], [], [], []⟩, ⟨(some ⟨[0,1,2], [], []⟩), [], [], [], []⟩, ⟨(some ⟨[0,1,2,24], [], []⟩), [], [], [], []⟩, ⟨(some ⟨[0,1,2], [], []⟩), [], [], [], []⟩, ⟨(some ⟨[0,1,2,27], [], []⟩), [], [], [], []⟩, ⟨(some ⟨[6,7], [], []⟩), [], [], [], []⟩, ⟨(some ⟨[0,1,2,8], [], []⟩), [], [], [], []⟩, ⟨(some ⟨[0,1,2,8], [], []⟩), [], [], [], []⟩, ⟨(some ⟨[0,1,2,8,9], [], []⟩), [], [], [], []⟩, ⟨(some ⟨[0,1,2,8,9,10], [], []⟩), [], [], [], []⟩, ⟨(some ⟨[1,2,8,9,10,11], [], []⟩), [], [], [], []⟩, ⟨(some ⟨[2,8,9,10,11,12], [], []⟩), [], [], [], []⟩, ⟨(some ⟨[2,8,9,10,11,12,13], [], []⟩), [], [], [], []⟩, ⟨(some ⟨[2,8,9,10,11,13,14], [], []⟩), [], [], [], []⟩, ⟨(some ⟨[2,8,9,10,11,13,14,15], [], []⟩), [], [], [], []⟩, ⟨(some ⟨[2,8,9,10,11,13,14,15,16], [], []⟩), [], [], [], []⟩, ⟨(some ⟨[2,8,9,10,11,13,14,15,16,78], [], []⟩), [], [], [], []⟩, ⟨(some ⟨[2,8,9,10,11,13,14,15,16], [], []⟩), [], [], [], []⟩, ⟨(some ⟨[2,8,9,10,11,13,14,15,16], [], []⟩), [], [], [], []⟩, ⟨(some ⟨[2,8,9,10,11,13,14,15,16,85], [], []⟩), [], [], [], []⟩, ⟨(some ⟨[2,8,9,10,14,15,17], [], []⟩), [], [], [], []⟩, ⟨(some ⟨[2,8,9,10,14,15,17,18], [], []⟩), [], [], [], []⟩, ⟨(some ⟨[2,8,9,10,14,15,16,17,18], [], []⟩), [], [], [], []⟩, ⟨(some ⟨[2,8,9,10,14,15,16,17,18,113], [], []⟩), [], [], [], []⟩, ⟨(some ⟨[2,8,9,10,14,15,16,17,18], [], []⟩), [], [], [], []⟩, ⟨(some ⟨[2,8,9,10,14,15,16,17,18], [], []⟩), [], [], [], []⟩, ⟨(some ⟨[2,8,9,10,14,15,16,17,18,120], [], []⟩), [], [], [], []⟩, ⟨(some ⟨[6,7], [], []⟩), [], [], [], []⟩]
def C_div64 : AC := (.seq (.reg false [⟨(some 6), none, .mv (.v (.int .u64 (0)))⟩, ⟨(some 7), none, .mv (.v (.int .u64 (0)))⟩] (some ⟨[0,1,2], [], []⟩))
  (.seq (.seq (.reg false [⟨(some 19), none, .mv (.t 2)⟩, ⟨(some 20), none, .bin .eql (.t 19) (.v (.int .u64 (0)))⟩] (some ⟨[0,1,2,20], [], []⟩))
  (.cond (.t 20)
  (.reg false [⟨(some 21), none, .un .neg (.f 0)⟩, ⟨none, none, .un .neg (.f 0)⟩] (some ⟨[0,1,2], [], []⟩))
  .skip))
  (.seq (.seq (.reg false [⟨(some 22), none, .mv (.t 2)⟩, ⟨(some 23), none, .mv (.t 0)⟩, ⟨(some 24), none, .bin .leq (.t 22) (.t 23)⟩] (some ⟨[0,1,2,24], [], []⟩))
  (.cond (.t 24)
  (.reg false [⟨(some 25), none, .un .neg (.f 0)⟩, ⟨none, none, .un .neg (.f 0)⟩] (some ⟨[0,1,2], [], []⟩))
  .skip))
  (.seq (.seq (.reg false [⟨(some 26), none, .mv (.t 0)⟩, ⟨(some 27), none, .bin .eql (.t 26) (.v (.int .u64 (0)))⟩] (some ⟨[0,1,2,27], [], []⟩))
  (.cond (.t 27)
  (.seq (.reg true [⟨(some 28), none, .mv (.t 1)⟩, ⟨(some 29), none, .mv (.t 2)⟩, ⟨(some 30), none, .bin .quo (.t 28) (.t 29)⟩, ⟨(some 31), none, .mv (.t 1)⟩, ⟨(some 32), none, .mv (.t 2)⟩, ⟨(some 33), none, .bin .rem (.t 31) (.t 32)⟩, ⟨(some 6), none, .mv (.t 30)⟩, ⟨(some 7), none, .mv (.t 33)⟩] (some ⟨[6,7], [], []⟩))
  .ret)
  .skip))
  (.seq (.reg false [⟨(some 34), none, .mv (.t 2)⟩, ⟨(some 35), none, .call (.f 181) [(.t 34)]⟩, ⟨(some 36), none, .conv .u64 (.t 35)⟩, ⟨(some 8), none, .mv (.t 36)⟩] (some ⟨[0,1,2,8], [], []⟩))
  (.seq (.reg false [⟨(some 37), none, .mv (.t 2)⟩, ⟨(some 38), none, .mv (.t 8)⟩, ⟨(some 39), none, .bin .shl (.t 37) (.t 38)⟩, ⟨(some 2), none, .mv (.t 39)⟩] (some ⟨[0,1,2,8], [], []⟩))
  (.seq (.reg false [⟨(some 40), none, .mv (.t 2)⟩, ⟨(some 41), none, .bin .shr (.t 40) (.v (.int .u64 (32)))⟩, ⟨(some 9), none, .mv (.t 41)⟩] (some ⟨[0,1,2,8,9], [], []⟩))
  (.seq (.reg false [⟨(some 42), none, .mv (.t 2)⟩, ⟨(some 43), none, .bin .and (.t 42) (.v (.int .u64 (4294967295)))⟩, ⟨(some 10), none, .mv (.t 43)⟩] (some ⟨[0,1,2,8,9,10], [], []⟩))
  (.seq (.reg false [⟨(some 44), none, .mv (.t 0)⟩, ⟨(some 45), none, .mv (.t 8)⟩, ⟨(some 46), none, .bin .shl (.t 44) (.t 45)⟩, ⟨(some 47), none, .mv (.t 1)⟩, ⟨(some 48), none, .mv (.t 8)⟩, ⟨(some 49), none, .bin .sub (.v (.int .u64 (64))) (.t 48)⟩, ⟨(some 50), none, .bin .shr (.t 47) (.t 49)⟩, ⟨(some 51), none, .bin .or (.t 46) (.t 50)⟩, ⟨(some 11), none, .mv (.t 51)⟩] (some ⟨[1,2,8,9,10,11], [], []⟩))
  (.seq (.reg false [⟨(some 52), none, .mv (.t 1)⟩, ⟨(some 53), none, .mv (.t 8)⟩, ⟨(some 54), none, .bin .shl (.t 52) (.t 53)⟩, ⟨(some 12), none, .mv (.t 54)⟩] (some ⟨[2,8,9,10,11,12], [], []⟩))
  (.seq (.reg false [⟨(some 55), none, .mv (.t 12)⟩, ⟨(some 56), none, .bin .shr (.t 55) (.v (.int .u64 (32)))⟩, ⟨(some 13), none, .mv (.t 56)⟩] (some ⟨[2,8,9,10,11,12,13], [], []⟩))
  (.seq (.reg false [⟨(some 57), none, .mv (.t 12)⟩, ⟨(some 58), none, .bin .and (.t 57) (.v (.int .u64 (4294967295)))⟩, ⟨(some 14), none, .mv (.t 58)⟩] (some ⟨[2,8,9,10,11,13,14], [], []⟩))
  (.seq (.reg false [⟨(some 59), none, .mv (.t 11)⟩, ⟨(some 60), none, .mv (.t 9)⟩, ⟨(some 61), none, .bin .quo (.t 59) (.t 60)⟩, ⟨(some 15), none, .mv (.t 61)⟩] (some ⟨[2,8,9,10,11,13,14,15], [], []⟩))
  (.seq (.reg false [⟨(some 62), none, .mv (.t 11)⟩, ⟨(some 63), none, .mv (.t 15)⟩, ⟨(some 64), none, .mv (.t 9)⟩, ⟨(some 65), none, .bin .mul (.t 63) (.t 64)⟩, ⟨(some 66), none, .bin .sub (.t 62) (.t 65)⟩, ⟨(some 16), none, .mv (.t 66)⟩] (some ⟨[2,8,9,10,11,13,14,15,16], [], []⟩))
  (.seq (.block 0 (.loop (.seq (.seq (.reg false [⟨(some 67), none, .mv (.t 15)⟩, ⟨(some 68), none, .bin .geq (.t 67) (.v (.int .u64 (4294967296)))⟩, ⟨(some 69), none, .mv (.t 68)⟩, ⟨(some 70), (some (69, false)), .mv (.t 15)⟩, ⟨(some 71), (some (69, false)), .mv (.t 10)⟩, ⟨(some 72), (some (69, false)), .bin .mul (.t 70) (.t 71)⟩, ⟨(some 73), (some (69, false)), .mv (.t 16)⟩, ⟨(some 74), (some (69, false)), .bin .mul (.v (.int .u64 (4294967296))) (.t 73)⟩, ⟨(some 75), (some (69, false)), .mv (.t 13)⟩, ⟨(some 76), (some (69, false)), .bin .add (.t 74) (.t 75)⟩, ⟨(some 77), (some (69, false)), .bin .gtr (.t 72) (.t 76)⟩, ⟨(some 78), none, .pick (.t 69) (.v (.bool true)) (.t 77)⟩] (some ⟨[2,8,9,10,11,13,14,15,16,78], [], []⟩))
  (.cond (.t 78)
  .skip
  (.exit 0)))
  (.block 1 (.seq (.reg false [⟨(some 79), none, .mv (.t 15)⟩, ⟨(some 80), none, .bin .sub (.t 79) (.v (.int .u64 (1)))⟩, ⟨(some 15), none, .mv (.t 80)⟩] (some ⟨[2,8,9,10,11,13,14,15,16], [], []⟩))
  (.seq (.reg false [⟨(some 81), none, .mv (.t 16)⟩, ⟨(some 82), none, .mv (.t 9)⟩, ⟨(some 83), none, .bin .add (.t 81) (.t 82)⟩, ⟨(some 16), none, .mv (.t 83)⟩] (some ⟨[2,8,9,10,11,13,14,15,16], [], []⟩))
  (.seq (.reg false [⟨(some 84), none, .mv (.t 16)⟩, ⟨(some 85), none, .bin .geq (.t 84) (.v (.int .u64 (4294967296)))⟩] (some ⟨[2,8,9,10,11,13,14,15,16,85], [], []⟩))
  (.cond (.t 85)
  (.exit 0)
  .skip))))))))
  (.seq (.reg false [⟨(some 86), none, .mv (.t 11)⟩, ⟨(some 87), none, .bin .mul (.t 86) (.v (.int .u64 (4294967296)))⟩, ⟨(some 88), none, .mv (.t 13)⟩, ⟨(some 89), none, .bin .add (.t 87) (.t 88)⟩, ⟨(some 90), none, .mv (.t 15)⟩, ⟨(some 91), none, .mv (.t 2)⟩, ⟨(some 92), none, .bin .mul (.t 90) (.t 91)⟩, ⟨(some 93), none, .bin .sub (.t 89) (.t 92)⟩, ⟨(some 17), none, .mv (.t 93)⟩] (some ⟨[2,8,9,10,14,15,17], [], []⟩))
  (.seq (.reg false [⟨(some 94), none, .mv (.t 17)⟩, ⟨(some 95), none, .mv (.t 9)⟩, ⟨(some 96), none, .bin .quo (.t 94) (.t 95)⟩, ⟨(some 18), none, .mv (.t 96)⟩] (some ⟨[2,8,9,10,14,15,17,18], [], []⟩))
  (.seq (.reg false [⟨(some 97), none, .mv (.t 17)⟩, ⟨(some 98), none, .mv (.t 18)⟩, ⟨(some 99), none, .mv (.t 9)⟩, ⟨(some 100), none, .bin .mul (.t 98) (.t 99)⟩, ⟨(some 101), none, .bin .sub (.t 97) (.t 100)⟩, ⟨(some 16), none, .mv (.t 101)⟩] (some ⟨[2,8,9,10,14,15,16,17,18], [], []⟩))
  (.seq (.block 2 (.loop (.seq (.seq (.reg false [⟨(some 102), none, .mv (.t 18)⟩, ⟨(some 103), none, .bin .geq (.t 102) (.v (.int .u64 (4294967296)))⟩, ⟨(some 104), none, .mv (.t 103)⟩, ⟨(some 105), (some (104, false)), .mv (.t 18)⟩, ⟨(some 106), (some (104, false)), .mv (.t 10)⟩, ⟨(some 107), (some (104, false)), .bin .mul (.t 105) (.t 106)⟩, ⟨(some 108), (some (104, false)), .mv (.t 16)⟩, ⟨(some 109), (some (104, false)), .bin .mul (.v (.int .u64 (4294967296))) (.t 108)⟩, ⟨(some 110), (some (104, false)), .mv (.t 14)⟩, ⟨(some 111), (some (104, false)), .bin .add (.t 109) (.t 110)⟩, ⟨(some 112), (some (104, false)), .bin .gtr (.t 107) (.t 111)⟩, ⟨(some 113), none, .pick (.t 104) (.v (.bool true)) (.t 112)⟩] (some ⟨[2,8,9,10,14,15,16,17,18,113], [], []⟩))
  (.cond (.t 113)
  .skip
  (.exit 2)))
  (.block 3 (.seq (.reg false [⟨(some 114), none, .mv (.t 18)⟩, ⟨(some 115), none, .bin .sub (.t 114) (.v (.int .u64 (1)))⟩, ⟨(some 18), none, .mv (.t 115)⟩] (some ⟨[2,8,9,10,14,15,16,17,18], [], []⟩))
  (.seq (.reg false [⟨(some 116), none, .mv (.t 16)⟩, ⟨(some 117), none, .mv (.t 9)⟩, ⟨(some 118), none, .bin .add (.t 116) (.t 117)⟩, ⟨(some 16), none, .mv (.t 118)⟩] (some ⟨[2,8,9,10,14,15,16,17,18], [], []⟩))
  (.seq (.reg false [⟨(some 119), none, .mv (.t 16)⟩, ⟨(some 120), none, .bin .geq (.t 119) (.v (.int .u64 (4294967296)))⟩] (some ⟨[2,8,9,10,14,15,16,17,18,120], [], []⟩))
  (.cond (.t 120)
  (.exit 2)
  .skip))))))))
  (.seq (.reg false [⟨(some 121), none, .mv (.t 15)⟩, ⟨(some 122), none, .bin .mul (.t 121) (.v (.int .u64 (4294967296)))⟩, ⟨(some 123), none, .mv (.t 18)⟩, ⟨(some 124), none, .bin .add (.t 122) (.t 123)⟩, ⟨(some 125), none, .mv (.t 17)⟩, ⟨(some 126), none, .bin .mul (.t 125) (.v (.int .u64 (4294967296)))⟩, ⟨(some 127), none, .mv (.t 14)⟩, ⟨(some 128), none, .bin .add (.t 126) (.t 127)⟩, ⟨(some 129), none, .mv (.t 18)⟩, ⟨(some 130), none, .mv (.t 2)⟩, ⟨(some 131), none, .bin .mul (.t 129) (.t 130)⟩, ⟨(some 132), none, .bin .sub (.t 128) (.t 131)⟩, ⟨(some 133), none, .mv (.t 8)⟩, ⟨(some 134), none, .bin .shr (.t 132) (.t 133)⟩, ⟨(some 6), none, .mv (.t 124)⟩, ⟨(some 7), none, .mv (.t 134)⟩] (some ⟨[6,7], [], []⟩))
  .ret))))))))))))))))))))
theorem c_div64 : compileCode Try.prog Try.f155.ntmps (Try.f155.body.getD .skip) A_div64 = some (C_div64, []) := by kernel_rfl
theorem r_div64 : compileRes Try.prog Try.f155.results.toList = some [.t 6, .t 7] := by kernel_rfl
theorem b_div64 : Try.f155.body = some (Try.f155.body.getD .skip) := by kernel_rfl
theorem n_div64 : (Try.f155.name == "runtime.NumGoroutine") = false := by kernel_rfl
theorem fc_div64 {xt : Option (List Cel)} {args : List Val} {R : List Cel → Val → Prop} (hn : (if xt.isSome then 1 else 0) + args.length ≤ Try.f155.ntmps) (h : ex Try.prog C_div64 [] (fpost xt [.t 6, .t 7] R) (initSt xt args)) : FC Try.prog 155 xt args R :=
  fc_of_awp Try.func155 b_div64 n_div64 c_div64 r_div64 (of_decide_eq_true (by kernel_rfl)) hn h

def A_mulDiv : List Ann := [⟨(some ⟨[0,1,2], [], []⟩), [], [], [], []⟩, ⟨(some ⟨[2,7,8], [], []⟩), [], [], [], []⟩, ⟨(some ⟨[9], [], []⟩), [], [], [], []⟩, ⟨(some ⟨[6], [], []⟩), [], [], [], []⟩]
def C_mulDiv : AC := (.seq (.reg false [⟨(some 6), none, .mv (.v (.int .i64 (0)))⟩] (some ⟨[0,1,2], [], []⟩))
  (.seq (.reg false [⟨(some 12), none, .mv (.t 0)⟩, ⟨(some 13), none, .conv .u64 (.t 12)⟩, ⟨(some 14), none, .mv (.t 1)⟩, ⟨(some 15), none, .conv .u64 (.t 14)⟩, ⟨(some 16), none, .call (.f 154) [(.t 13), (.t 15)]⟩, ⟨(some 11), none, .mv (.t 16)⟩, ⟨(some 17), none, .extr (.t 11) 0⟩, ⟨(some 18), none, .extr (.t 11) 1⟩, ⟨(some 7), none, .mv (.t 17)⟩, ⟨(some 8), none, .mv (.t 18)⟩] (some ⟨[2,7,8], [], []⟩))
  (.seq (.reg false [⟨(some 20), none, .mv (.t 7)⟩, ⟨(some 21), none, .mv (.t 8)⟩, ⟨(some 22), none, .mv (.t 2)⟩, ⟨(some 23), none, .conv .u64 (.t 22)⟩, ⟨(some 24), none, .call (.f 155) [(.t 20), (.t 21), (.t 23)]⟩, ⟨(some 19), none, .mv (.t 24)⟩, ⟨(some 25), none, .extr (.t 19) 0⟩, ⟨(some 26), none, .extr (.t 19) 1⟩, ⟨(some 9), none, .mv (.t 25)⟩, ⟨(some 10), none, .mv (.t 26)⟩] (some ⟨[9], [], []⟩))
  (.seq (.reg false [⟨(some 27), none, .mv (.t 9)⟩, ⟨(some 28), none, .conv .i64 (.t 27)⟩, ⟨(some 6), none, .mv (.t 28)⟩] (some ⟨[6], [], []⟩))
  .ret))))
theorem c_mulDiv : compileCode Try.prog Try.f108.ntmps (Try.f108.body.getD .skip) A_mulDiv = some (C_mulDiv, []) := by kernel_rfl
theorem r_mulDiv : compileRes Try.prog Try.f108.results.toList = some [.t 6] := by kernel_rfl
theorem b_mulDiv : Try.f108.body = some (Try.f108.body.getD .skip) := by kernel_rfl
theorem n_mulDiv : (Try.f108.name == "runtime.NumGoroutine") = false := by kernel_rfl
theorem fc_mulDiv {xt : Option (List Cel)} {args : List Val} {R : List Cel → Val → Prop} (hn : (if xt.isSome then 1 else 0) + args.length ≤ Try.f108.ntmps) (h : ex Try.prog C_mulDiv [] (fpost xt [.t 6] R) (initSt xt args)) : FC Try.prog 108 xt args R :=
  fc_of_awp Try.func108 b_mulDiv n_mulDiv c_mulDiv r_mulDiv (of_decide_eq_true (by kernel_rfl)) hn h

def A_inWin : List Ann := [⟨(some ⟨[1,2], [2], []⟩), [], [], [], []⟩, ⟨(some ⟨[4], [], []⟩), [], [], [], []⟩]
def C_inWin : AC := (.seq (.reg false [⟨(some 2), none, .box (.t 0)⟩, ⟨(some 4), none, .mv (.v (.bool false))⟩] (some ⟨[1,2], [2], []⟩))
  (.seq (.reg false [⟨(some 5), none, .mv (.t 1)⟩, ⟨(some 6), none, .fadr 0 (.t 2)⟩, ⟨(some 7), none, .load false 1 (.t 6)⟩, ⟨(some 8), none, .bin .geq (.t 5) (.t 7)⟩, ⟨(some 9), none, .mv (.t 8)⟩, ⟨(some 10), (some (9, true)), .mv (.t 1)⟩, ⟨(some 11), (some (9, true)), .fadr 1 (.t 2)⟩, ⟨(some 12), (some (9, true)), .load false 1 (.t 11)⟩, ⟨(some 13), (some (9, true)), .bin .lss (.t 10) (.t 12)⟩, ⟨(some 14), none, .pick (.t 9) (.t 13) (.v (.bool false))⟩, ⟨(some 4), none, .mv (.t 14)⟩] (some ⟨[4], [], []⟩))
  .ret))
theorem c_inWin : compileCode Try.prog Try.f107.ntmps (Try.f107.body.getD .skip) A_inWin = some (C_inWin, []) := by kernel_rfl
theorem r_inWin : compileRes Try.prog Try.f107.results.toList = some [.t 4] := by kernel_rfl
theorem b_inWin : Try.f107.body = some (Try.f107.body.getD .skip) := by kernel_rfl
theorem n_inWin : (Try.f107.name == "runtime.NumGoroutine") = false := by kernel_rfl
theorem fc_inWin {xt : Option (List Cel)} {args : List Val} {R : List Cel → Val → Prop} (hn : (if xt.isSome then 1 else 0) + args.length ≤ Try.f107.ntmps) (h : ex Try.prog C_inWin [] (fpost xt [.t 4] R) (initSt xt args)) : FC Try.prog 107 xt args R :=
  fc_of_awp Try.func107 b_inWin n_inWin c_inWin r_inWin (of_decide_eq_true (by kernel_rfl)) hn h

def A_mtClos : List Ann := [⟨(some ⟨[1,2], [2], []⟩), [], [], [], []⟩, ⟨(some ⟨[3], [], []⟩), [], [], [], []⟩]
def C_mtClos : AC := (.seq (.reg false [⟨(some 2), none, .box (.t 0)⟩, ⟨(some 3), none, .mv (.v (.bool false))⟩] (some ⟨[1,2], [2], []⟩))
  (.seq (.reg false [⟨(some 4), none, .fadr 1 (.t 2)⟩, ⟨(some 5), none, .load true 2 (.t 4)⟩, ⟨(some 6), none, .load false 1 (.t 1)⟩, ⟨(some 7), none, .call (.f 107) [(.t 5), (.t 6)]⟩, ⟨(some 3), none, .mv (.t 7)⟩] (some ⟨[3], [], []⟩))
  .ret))
theorem c_mtClos : compileCode Try.prog Try.f106.ntmps (Try.f106.body.getD .skip) A_mtClos = some (C_mtClos, []) := by kernel_rfl
theorem r_mtClos : compileRes Try.prog Try.f106.results.toList = some [.t 3] := by kernel_rfl
theorem b_mtClos : Try.f106.body = some (Try.f106.body.getD .skip) := by kernel_rfl
theorem n_mtClos : (Try.f106.name == "runtime.NumGoroutine") = false := by kernel_rfl
theorem fc_mtClos {xt : Option (List Cel)} {args : List Val} {R : List Cel → Val → Prop} (hn : (if xt.isSome then 1 else 0) + args.length ≤ Try.f106.ntmps) (h : ex Try.prog C_mtClos [] (fpost xt [.t 3] R) (initSt xt args)) : FC Try.prog 106 xt args R :=
  fc_of_awp Try.func106 b_mtClos n_mtClos c_mtClos r_mtClos (of_decide_eq_true (by kernel_rfl)) hn h

def A_idxPh : List Ann := [⟨(some ⟨[0,1], [], []⟩), [], [], [], []⟩, ⟨(some ⟨[0,1,7,8], [], []⟩), [], [], [], []⟩, ⟨(some ⟨[0,1,7,8,9], [], []⟩), [], [], [], []⟩, ⟨(some ⟨[0,1,5,7,8], [], []⟩), [], [], [], []⟩, ⟨(some ⟨[0,1,5,7,8,16], [], []⟩), [], [], [], []⟩, ⟨(some ⟨[4], [], []⟩), [], [], [], []⟩, ⟨(some ⟨[0,1,7,8], [], []⟩), [], [], [], []⟩, ⟨(some ⟨[4], [], []⟩), [], [], [], []⟩]
def C_idxPh : AC := (.seq (.reg false [⟨(some 4), none, .mv (.v (.int .i64 (0)))⟩] (some ⟨[0,1], [], []⟩))
  (.seq (.seq (.reg false [⟨(some 6), none, .mv (.t 0)⟩, ⟨(some 7), none, .len (.t 6)⟩, ⟨(some 8), none, .mv (.v (.int .i64 (0)))⟩] (some ⟨[0,1,7,8], [], []⟩))
  (.block 0 (.loop (.seq (.reg false [⟨(some 9), none, .bin .lss (.t 8) (.t 7)⟩] (some ⟨[0,1,7,8,9], [], []⟩))
  (.seq (.cond (.t 9)
  .skip
  (.exit 0))
  (.seq (.block 1 (.seq (.reg false [⟨(some 10), none, .mv (.t 8)⟩, ⟨(some 5), none, .mv (.t 10)⟩] (some ⟨[0,1,5,7,8], [], []⟩))
  (.seq (.reg false [⟨(some 11), none, .mv (.t 1)⟩, ⟨(some 12), none, .mv (.t 0)⟩, ⟨(some 13), none, .mv (.t 5)⟩, ⟨(some 14), none, .iadr 3 (.t 12) (.t 13)⟩, ⟨(some 15), none, .load true 3 (.t 14)⟩, ⟨(some 16), none, .call (.t 11) [(.t 15)]⟩] (some ⟨[0,1,5,7,8,16], [], []⟩))
  (.cond (.t 16)
  (.seq (.reg false [⟨(some 17), none, .mv (.t 5)⟩, ⟨(some 4), none, .mv (.t 17)⟩] (some ⟨[4], [], []⟩))
  .ret)
  .skip))))
  (.reg false [⟨(some 18), none, .bin .add (.t 8) (.v (.int .i64 (1)))⟩, ⟨(some 8), none, .mv (.t 18)⟩] (some ⟨[0,1,7,8], [], []⟩))))))))
  (.seq (.reg false [⟨(some 4), none, .mv (.v (.int .i64 (-1)))⟩] (some ⟨[4], [], []⟩))
  .ret)))
theorem c_idxPh : compileCode Try.prog Try.f105.ntmps (Try.f105.body.getD .skip) A_idxPh = some (C_idxPh, []) := by kernel_rfl
theorem r_idxPh : compileRes Try.prog Try.f105.results.toList = some [.t 4] := by kernel_rfl
theorem b_idxPh : Try.f105.body = some (Try.f105.body.getD .skip) := by kernel_rfl
theorem n_idxPh : (Try.f105.name == "runtime.NumGoroutine") = false := by kernel_rfl
theorem fc_idxPh {xt : Option (List Cel)} {args : List Val} {R : List Cel → Val → Prop} (hn : (if xt.isSome then 1 else 0) + args.length ≤ Try.f105.ntmps) (h : ex Try.prog C_idxPh [] (fpost xt [.t 4] R) (initSt xt args)) : FC Try.prog 105 xt args R :=
  fc_of_awp Try.func105 b_idxPh n_idxPh c_idxPh r_idxPh (of_decide_eq_true (by kernel_rfl)) hn h

def A_mapTime : List Ann := [⟨(some ⟨[0,1,5], [5], []⟩), [], [], [], []⟩, ⟨(some ⟨[0,1,5,9], [5], []⟩), [], [], [], []⟩, ⟨(some ⟨[0,1,5,9,20], [5], []⟩), [], [], [], []⟩, ⟨(some ⟨[6,7,8], [], []⟩), [], [], [], []⟩, ⟨(some ⟨[0,1,5,24], [5], []⟩), [], [], [], []⟩, ⟨(some ⟨[6,7,8], [], []⟩), [], [], [], []⟩, ⟨(some ⟨[0,1,5,10], [5], []⟩), [], [], [], []⟩, ⟨(some ⟨[0,1,5,10,48], [5], []⟩), [], [], [], []⟩, ⟨(some ⟨[6,7,8], [], []⟩), [], [], [], []⟩, ⟨(some ⟨[5,11,12], [5,11,12], []⟩), [], [(2, none), (3, none), (4, none), (7, none), (8, none), (9, none)], [], []⟩, ⟨(some ⟨[6,7,8], [], []⟩), [], [], [], []⟩]
def C_mapTime : AC := (.seq (.reg false [⟨(some 5), none, .box (.t 2)⟩, ⟨(some 6), none, .mv (.v (.int .i64 (0)))⟩, ⟨(some 7), none, .mv (.v (.bool false))⟩, ⟨(some 8), none, .mv (.v (.int .i64 (0)))⟩] (some ⟨[0,1,5], [5], []⟩))
  (.seq (.seq (.reg false [⟨(some 13), none, .mv (.t 0)⟩, ⟨(some 14), none, .call (.f 103) [(.t 13)]⟩, ⟨(some 15), none, .mv (.t 1)⟩, ⟨(some 16), none, .call (.f 103) [(.t 15)]⟩, ⟨(some 17), none, .bslice 1 2 [(.t 14), (.t 16)]⟩, ⟨(some 18), none, .call (.f 84) [(.t 17)]⟩, ⟨(some 9), none, .mv (.t 18)⟩] (some ⟨[0,1,5,9], [5], []⟩))
  (.seq (.reg false [⟨(some 19), none, .mv (.t 9)⟩, ⟨(some 20), none, .bin .neq (.t 19) (.v (.int .i64 (0)))⟩] (some ⟨[0,1,5,9,20], [5], []⟩))
  (.cond (.t 20)
  (.seq (.reg false [⟨(some 21), none, .mv (.t 9)⟩, ⟨(some 6), none, .mv (.v (.int .i64 (0)))⟩, ⟨(some 7), none, .mv (.v (.bool false))⟩, ⟨(some 8), none, .mv (.t 21)⟩] (some ⟨[6,7,8], [], []⟩))
  .ret)
  .skip)))
  (.seq (.seq (.reg false [⟨(some 22), none, .load false 1 (.t 5)⟩, ⟨(some 23), none, .call (.f 104) [(.t 22)]⟩, ⟨(some 24), none, .un .not (.t 23)⟩] (some ⟨[0,1,5,24], [5], []⟩))
  (.cond (.t 24)
  (.seq (.reg false [⟨(some 6), none, .mv (.v (.int .i64 (0)))⟩, ⟨(some 7), none, .mv (.v (.bool false))⟩, ⟨(some 8), none, .mv (.v (.int .i64 (1)))⟩] (some ⟨[6,7,8], [], []⟩))
  .ret)
  .skip))
  (.seq (.reg false [⟨(some 25), none, .mv (.t 0)⟩, ⟨(some 26), none, .mkfn 106 [(.t 5)]⟩, ⟨(some 27), none, .call (.f 105) [(.t 25), (.t 26)]⟩, ⟨(some 10), none, .mv (.t 27)⟩] (some ⟨[0,1,5,10], [5], []⟩))
  (.seq (.seq (.reg true [⟨(some 28), none, .mv (.t 10)⟩, ⟨(some 29), none, .bin .lss (.t 28) (.v (.int .i64 (0)))⟩, ⟨(some 30), none, .mv (.t 29)⟩, ⟨(some 31), (some (30, false)), .mv (.t 10)⟩, ⟨(some 32), (some (30, false)), .mv (.t 1)⟩, ⟨(some 33), (some (30, false)), .len (.t 32)⟩, ⟨(some 34), (some (30, false)), .bin .geq (.t 31) (.t 33)⟩, ⟨(some 35), none, .pick (.t 30) (.v (.bool true)) (.t 34)⟩, ⟨(some 36), none, .mv (.t 35)⟩, ⟨(some 37), (some (36, false)), .mv (.t 1)⟩, ⟨(some 38), (some (36, false)), .mv (.t 10)⟩, ⟨(some 39), (some (36, false)), .iadr 3 (.t 37) (.t 38)⟩, ⟨(some 40), (some (36, false)), .fadr 0 (.t 39)⟩, ⟨(some 41), (some (36, false)), .load false 1 (.t 40)⟩, ⟨(some 42), (some (36, false)), .mv (.t 0)⟩, ⟨(some 43), (some (36, false)), .mv (.t 10)⟩, ⟨(some 44), (some (36, false)), .iadr 3 (.t 42) (.t 43)⟩, ⟨(some 45), (some (36, false)), .fadr 0 (.t 44)⟩, ⟨(some 46), (some (36, false)), .load false 1 (.t 45)⟩, ⟨(some 47), (some (36, false)), .bin .neq (.t 41) (.t 46)⟩, ⟨(some 48), none, .pick (.t 36) (.v (.bool true)) (.t 47)⟩] (some ⟨[0,1,5,10,48], [5], []⟩))
  (.cond (.t 48)
  (.seq (.reg false [⟨(some 6), none, .mv (.v (.int .i64 (0)))⟩, ⟨(some 7), none, .mv (.v (.bool false))⟩, ⟨(some 8), none, .mv (.v (.int .i64 (0)))⟩] (some ⟨[6,7,8], [], []⟩))
  .ret)
  .skip))
  (.seq (.reg true [⟨(some 49), none, .mv (.t 0)⟩, ⟨(some 50), none, .mv (.t 10)⟩, ⟨none, none, .chk (.t 49) none⟩, ⟨(some 51), none, .iadr 3 (.t 49) (.t 50)⟩, ⟨none, none, .chk (.t 51) none⟩, ⟨(some 52), none, .fadr 1 (.t 51)⟩, ⟨none, none, .chk (.t 52) none⟩, ⟨(some 53), none, .load true 2 (.t 52)⟩, ⟨(some 54), none, .mv (.t 1)⟩, ⟨(some 55), none, .mv (.t 10)⟩, ⟨none, none, .chk (.t 54) none⟩, ⟨(some 56), none, .iadr 3 (.t 54) (.t 55)⟩, ⟨none, none, .chk (.t 56) none⟩, ⟨(some 57), none, .fadr 1 (.t 56)⟩, ⟨none, none, .chk (.t 57) none⟩, ⟨(some 58), none, .load true 2 (.t 57)⟩, ⟨(some 11), none, .alloc [(.int .i64 (0)), (.int .i64 (0))]⟩, ⟨(some 12), none, .alloc [(.int .i64 (0)), (.int .i64 (0))]⟩, ⟨none, none, .store 2 (.t 11) (.t 53)⟩, ⟨none, none, .store 2 (.t 12) (.t 58)⟩] (some ⟨[5,11,12], [5,11,12], []⟩))
  (.seq (.reg true [⟨(some 59), none, .fadr 0 (.t 12)⟩, ⟨(some 60), none, .load false 1 (.t 59)⟩, ⟨(some 61), none, .load false 1 (.t 5)⟩, ⟨(some 62), none, .fadr 0 (.t 11)⟩, ⟨(some 63), none, .load false 1 (.t 62)⟩, ⟨(some 64), none, .bin .sub (.t 61) (.t 63)⟩, ⟨(some 65), none, .fadr 1 (.t 12)⟩, ⟨(some 66), none, .load false 1 (.t 65)⟩, ⟨(some 67), none, .fadr 0 (.t 12)⟩, ⟨(some 68), none, .load false 1 (.t 67)⟩, ⟨(some 69), none, .bin .sub (.t 66) (.t 68)⟩, ⟨(some 70), none, .fadr 1 (.t 11)⟩, ⟨(some 71), none, .load false 1 (.t 70)⟩, ⟨(some 72), none, .fadr 0 (.t 11)⟩, ⟨(some 73), none, .load false 1 (.t 72)⟩, ⟨(some 74), none, .bin .sub (.t 71) (.t 73)⟩, ⟨(some 75), none, .call (.f 108) [(.t 64), (.t 69), (.t 74)]⟩, ⟨(some 76), none, .bin .add (.t 60) (.t 75)⟩, ⟨(some 6), none, .mv (.t 76)⟩, ⟨(some 7), none, .mv (.v (.bool true))⟩, ⟨(some 8), none, .mv (.v (.int .i64 (0)))⟩] (some ⟨[6,7,8], [], []⟩))
  .ret)))))))
theorem c_mapTime : compileCode Try.prog Try.f49.ntmps (Try.f49.body.getD .skip) A_mapTime = some (C_mapTime, []) := by kernel_rfl
theorem r_mapTime : compileRes Try.prog Try.f49.results.toList = some [.t 6, .t 7, .t 8] := by kernel_rfl
theorem b_mapTime : Try.f49.body = some (Try.f49.body.getD .skip) := by kernel_rfl
theorem n_mapTime : (Try.f49.name == "runtime.NumGoroutine") = false := by kernel_rfl
theorem fc_mapTime {xt : Option (List Cel)} {args : List Val} {R : List Cel → Val → Prop} (hn : (if xt.isSome then 1 else 0) + args.length ≤ Try.f49.ntmps) (h : ex Try.prog C_mapTime [] (fpost xt [.t 6, .t 7, .t 8] R) (initSt xt args)) : FC Try.prog 49 xt args R :=
  fc_of_awp Try.func49 b_mapTime n_mapTime c_mapTime r_mapTime (of_decide_eq_true (by kernel_rfl)) hn h


def phlSt (L : List Int) (n : Int) (i a q : Int) (out : List Ph) : AS :=
  ⟨tabV [(0, .one (.bx 0 0)), (5, .one (.ow 5 0)), (6, iv a), (14, iv n), (15, iv i)], tabO [(0, strm L q)], tabO [(5, phRow out)]⟩
theorem getE_set_map' {α β : Type} (f : α → β) (l : List α) (i : Nat) (x : β) (h : i < l.length) : ((l.map f).set i x)[i]? = some x := by
  simp [h]
theorem phaseList_fc (most : Int) (hm : 0 ≤ most ∧ most ≤ 20) : Gen Try.prog 47 [iv most] 200 (fun r => ∃ l : List Ph, l.length ≤ most ∧ (∀ x ∈ l, I64 x.n ∧ (-1 ≤ x.f ∧ x.f ≤ 2000) ∧ (0 ≤ x.t ∧ x.t ≤ 2000)) ∧ r = phsV true l) := by
  intro L p hL hl h0 hp
  refine fc_phaseList (by simp +arith) ?_
  unfold C_phaseList strm
  simp (maxSteps := 1000000) (disch := omega) only [go_sem, eq_self, decide_true, decide_false, not_true_eq_false, not_false_eq_true, reduceIte, reduceCtorEq, Nat.reduceEqDiff, Nat.reduceAdd, Nat.reduceSub, Nat.reduceLeDiff]
  refine callx_gen (pick_fc false [0, 3] (by simp) (by simp)) hL hl (by omega) (by omega) ⟨_, 0, by simp, rfl⟩ ?_
  rintro pa r haa hba ⟨za, hza, rfl⟩
  refine ⟨rfl, ?_⟩
  unfold strm
  simp only [List.mem_cons, List.not_mem_nil, or_false] at hza
  simp (maxSteps := 1000000) (disch := omega) only [go_sem, eq_self, decide_true, decide_false, not_true_eq_false, not_false_eq_true, reduceIte, reduceCtorEq, Nat.reduceEqDiff, Nat.reduceAdd, Nat.reduceSub, Nat.reduceLeDiff]
  refine callx_gen (range_fc 0 most (by omega) (by omega) (by omega)) hL hl (by omega) (by omega) ⟨_, 0, by omega, by omega, rfl⟩ ?_
  rintro pb r hab hbb ⟨zb, hzb, hyb, rfl⟩
  refine ⟨rfl, ?_⟩
  unfold strm
  simp (maxSteps := 1000000) (disch := omega) only [go_sem, eq_self, decide_true, decide_false, not_true_eq_false, not_false_eq_true, reduceIte, reduceCtorEq, Nat.reduceEqDiff, Nat.reduceAdd, Nat.reduceSub, Nat.reduceLeDiff]
  refine ex_loop4 (phlSt L zb) (fun i a q out => 0 ≤ i ∧ i ≤ zb ∧ out.length = i ∧ p ≤ q ∧ q ≤ p + 2 + 3 * i ∧ 0 ≤ a ∧ a ≤ 24 * i + 3 ∧ ∀ w ∈ out, (0 ≤ w.n ∧ w.n ≤ 3) ∧ (0 ≤ w.f ∧ w.f ≤ 2000) ∧ (0 ≤ w.t ∧ w.t ≤ 2000)) (fun i _ _ _ => (zb - i).toNat) 0 za pb [] ⟨by omega, by omega, by simp, by omega, by omega, by omega, by omega, by simp⟩ rfl ?_
  rintro i a q out ⟨g1, g2, g3, g4, g5, g6, g7, g8⟩
  unfold phlSt strm
  by_cases hi : i < zb
  · simp (maxSteps := 1000000) (disch := omega) only [go_sem, eq_self, decide_true, decide_false, not_true_eq_false, not_false_eq_true, reduceIte, reduceCtorEq, Nat.reduceEqDiff, Nat.reduceAdd, Nat.reduceSub, Nat.reduceLeDiff]
    refine callx_gen (pick_fc false [1, 5, 20] (by simp) (by simp)) hL hl (by omega) (by omega) ⟨_, 1, by simp, rfl⟩ ?_
    rintro pc r hac hbc ⟨zc, hzc, rfl⟩
    refine ⟨rfl, ?_⟩
    unfold strm
    simp only [List.mem_cons, List.not_mem_nil, or_false] at hzc
    simp (maxSteps := 1000000) (disch := omega) only [go_sem, eq_self, decide_true, decide_false, not_true_eq_false, not_false_eq_true, reduceIte, reduceCtorEq, Nat.reduceEqDiff, Nat.reduceAdd, Nat.reduceSub, Nat.reduceLeDiff]
    refine callx_gen (pick_fc false [1, 1, 2, 2, 3] (by simp) (by simp)) hL hl (by omega) (by omega) ⟨_, 1, by simp, rfl⟩ ?_
    rintro pd r had hbd ⟨zd, hzd, rfl⟩
    refine ⟨rfl, ?_⟩
    unfold strm
    simp only [List.mem_cons, List.not_mem_nil, or_false] at hzd
    simp (maxSteps := 1000000) (disch := omega) only [go_sem, eq_self, decide_true, decide_false, not_true_eq_false, not_false_eq_true, reduceIte, reduceCtorEq, Nat.reduceEqDiff, Nat.reduceAdd, Nat.reduceSub, Nat.reduceLeDiff]
    refine callx_gen (pick_fc false [0, 0, 4] (by simp) (by simp)) hL hl (by omega) (by omega) ⟨_, 0, by simp, rfl⟩ ?_
    rintro pe r hae hbe ⟨ze, hze, rfl⟩
    refine ⟨rfl, ?_⟩
    unfold strm
    simp only [List.mem_cons, List.not_mem_nil, or_false] at hze
    simp (maxSteps := 1000000) (disch := omega) only [go_sem, eq_self, decide_true, decide_false, not_true_eq_false, not_false_eq_true, reduceIte, reduceCtorEq, Nat.reduceEqDiff, Nat.reduceAdd, Nat.reduceSub, Nat.reduceLeDiff]
    refine ⟨i + 1, a + zc + ze, pe, out ++ [⟨zd, a, a + zc⟩], by simp only [phlSt, strm, phRow, List.map_append, List.map_cons, List.map_nil, phC_eq], ⟨by omega, by omega, by simp; omega, by omega, by omega, by omega, by omega, fun w hw => ?_⟩, by omega⟩
    simp only [List.mem_append, List.mem_cons, List.not_mem_nil, or_false] at hw
    rcases hw with hw | rfl
    · exact g8 w hw
    · simp only; omega
  · have g9 : ∀ w ∈ out, I64 w.n ∧ (-1 ≤ w.f ∧ w.f ≤ 2000) ∧ (0 ≤ w.t ∧ w.t ≤ 2000) := fun w hw => by have := g8 w hw; unfold I64; omega
    by_cases c1 : 0 < out.length
    · simp (maxSteps := 1000000) (disch := omega) only [go_sem, eq_self, decide_true, decide_false, not_true_eq_false, not_false_eq_true, reduceIte, reduceCtorEq, Nat.reduceEqDiff, Nat.reduceAdd, Nat.reduceSub, Nat.reduceLeDiff]
      refine callx_gen (flip_fc 12 (by omega) (by omega)) hL hl (by omega) (by omega) ⟨_, true, rfl⟩ ?_
      rintro pe r hae hbe ⟨be, rfl⟩
      refine ⟨rfl, ?_⟩
      unfold strm
      simp (maxSteps := 1000000) (disch := omega) only [go_sem, eq_self, decide_true, decide_false, not_true_eq_false, not_false_eq_true, reduceIte, reduceCtorEq, Nat.reduceEqDiff, Nat.reduceAdd, Nat.reduceSub, Nat.reduceLeDiff]
      refine ⟨fun hb => ?_, fun hb => ?_⟩
      ·
        refine callx_gen (next_fc out.length (by omega) (by omega)) hL hl (by omega) (by omega) ⟨_, 0, by omega, by omega, rfl⟩ ?_
        rintro pf r haf hbf ⟨zf, hzf, hyf, rfl⟩
        refine ⟨rfl, ?_⟩
        unfold strm
        simp (maxSteps := 1000000) (disch := omega) only [go_sem, eq_self, decide_true, decide_false, not_true_eq_false, not_false_eq_true, reduceIte, reduceCtorEq, Nat.reduceEqDiff, Nat.reduceAdd, Nat.reduceSub, Nat.reduceLeDiff]
        have gw := g8 _ (getD_mem out zf.toNat (by omega))
        have eo := getE_map_in phC out zf.toNat (by omega)
        refine callx_gen (odd_fc 0 1000 (by omega) (by omega) (by omega)) hL hl (by omega) (by omega) ⟨_, 0, by simp [I64], rfl⟩ ?_
        rintro pg r hag hbg ⟨zg, hzg, rfl⟩
        refine ⟨rfl, ?_⟩
        unfold strm
        simp (maxSteps := 1000000) (disch := omega) only [go_sem, eq_self, decide_true, decide_false, not_true_eq_false, not_false_eq_true, reduceIte, reduceCtorEq, Nat.reduceEqDiff, Nat.reduceAdd, Nat.reduceSub, Nat.reduceLeDiff]
        refine callx_gen (pick_fc false [(out.getD zf.toNat default).f, -1, (out.getD zf.toNat default).t] (by simp) (by simp)) hL hl (by omega) (by omega) ⟨_, (-1), by simp, rfl⟩ ?_
        rintro ph r hah hbh ⟨zh, hzh, rfl⟩
        refine ⟨rfl, ?_⟩
        unfold strm
        simp only [List.mem_cons, List.not_mem_nil, or_false] at hzh
        simp (maxSteps := 1000000) (disch := omega) only [go_sem, eq_self, decide_true, decide_false, not_true_eq_false, not_false_eq_true, reduceIte, reduceCtorEq, Nat.reduceEqDiff, Nat.reduceAdd, Nat.reduceSub, Nat.reduceLeDiff]
        refine ⟨⟨ph, by omega, by omega, rfl⟩, out.set zf.toNat ⟨zg, zh, (out.getD zf.toNat default).t⟩, by simp; omega, fun x hx => ?_, by simp [phC_eq, List.map_set, frE_set, frE_ph, freshC]⟩
        rcases List.mem_or_eq_of_mem_set hx with hx | rfl
        · exact g9 x hx
        · exact ⟨hzg, by simp only; omega, by simp only; omega⟩
      · exact ⟨⟨pe, by omega, by omega, rfl⟩, out, by omega, g9, rfl⟩
    · simp (maxSteps := 1000000) (disch := omega) only [go_sem, eq_self, decide_true, decide_false, not_true_eq_false, not_false_eq_true, reduceIte, reduceCtorEq, Nat.reduceEqDiff, Nat.reduceAdd, Nat.reduceSub, Nat.reduceLeDiff]
      exact ⟨⟨q, by omega, by omega, rfl⟩, out, by omega, g9, rfl⟩
theorem div64_fc (x y : Int) (hx : 0 ≤ x ∧ x ≤ 9223372036854775807) (hy : 1 ≤ y ∧ y ≤ 9223372036854775807) : FC Try.prog 155 none [uv 0, uv x, uv y] (fun _ r => r = .tu [uv (x / y), uv (x % y)]) := by
  refine fc_div64 (by simp +arith) ?_
  have e1 : x.tdiv y = x / y := Int.tdiv_eq_ediv_of_nonneg hx.1
  have e2 : x.tmod y = x % y := Int.tmod_eq_emod_of_nonneg hx.1
  have h1 := Int.tdiv_nonneg hx.1 (show 0 ≤ y by omega)
  have h2 := Int.tdiv_le_self y hx.1
  rw [← e1, ← e2]
  unfold C_div64
  simp (maxSteps := 1000000) (disch := omega) only [go_sem, eq_self, decide_true, decide_false, not_true_eq_false, not_false_eq_true, reduceIte, reduceCtorEq, Nat.reduceEqDiff, Nat.reduceAdd, Nat.reduceSub, Nat.reduceLeDiff]
theorem mulDiv_fc (a b c : Int) (ha : 0 ≤ a ∧ a ≤ 1000000) (hb : 0 ≤ b ∧ b ≤ 1000000) (hc : 1 ≤ c ∧ c ≤ 1000000) : FC Try.prog 108 none [iv a, iv b, iv c] (fun _ r => r = iv (a * b / c)) := by
  obtain ⟨a, rfl⟩ := Int.eq_ofNat_of_zero_le ha.1
  obtain ⟨b, rfl⟩ := Int.eq_ofNat_of_zero_le hb.1
  have e1 := mul64_fc a b (by omega) (by omega)
  have h1 : a * b ≤ 1000000 * 1000000 := Nat.mul_le_mul (by omega) (by omega)
  rw [← Int.natCast_mul]
  have z1 : a * b / 18446744073709551616 = 0 := by omega
  have z2 : a * b % 18446744073709551616 = a * b := by omega
  rw [z1, z2] at e1
  have e2 := div64_fc ((a * b : Nat) : Int) c (by omega) (by omega)
  have h2 : 0 ≤ ((a * b : Nat) : Int) / c := Int.ediv_nonneg (by omega) (by omega)
  have h3 : ((a * b : Nat) : Int) / c ≤ ((a * b : Nat) : Int) := Int.ediv_le_self _ (by omega)
  refine fc_mulDiv (by simp +arith) ?_
  generalize a * b = x at *
  unfold C_mulDiv
  simp (maxSteps := 1000000) (disch := omega) only [go_sem, eq_self, decide_true, decide_false, not_true_eq_false, not_false_eq_true, reduceIte, reduceCtorEq, Nat.reduceEqDiff, Nat.reduceAdd, Nat.reduceSub, Nat.reduceLeDiff]
  refine CALL_det e1 (.inl rfl) ?_
  simp (maxSteps := 1000000) (disch := omega) only [go_sem, eq_self, decide_true, decide_false, not_true_eq_false, not_false_eq_true, reduceIte, reduceCtorEq, Nat.reduceEqDiff, Nat.reduceAdd, Nat.reduceSub, Nat.reduceLeDiff]
  refine CALL_det e2 (.inl rfl) ?_
  simp (maxSteps := 1000000) (disch := omega) only [go_sem, eq_self, decide_true, decide_false, not_true_eq_false, not_false_eq_true, reduceIte, reduceCtorEq, Nat.reduceEqDiff, Nat.reduceAdd, Nat.reduceSub, Nat.reduceLeDiff]
theorem inWin_fc (f t a : Int) : FC Try.prog 107 none [winV f t, iv a] (fun _ r => r = bv (decide (f ≤ a ∧ a < t))) := by
  refine fc_inWin (by simp +arith) ?_
  unfold C_inWin
  by_cases h : f ≤ a
  · simp (maxSteps := 1000000) (disch := omega) only [go_sem, eq_self, decide_true, decide_false, not_true_eq_false, not_false_eq_true, reduceIte, reduceCtorEq, Nat.reduceEqDiff, Nat.reduceAdd, Nat.reduceSub, Nat.reduceLeDiff]
    exact bv_congr (by simp [h])
  · simp (maxSteps := 1000000) (disch := omega) only [go_sem, eq_self, decide_true, decide_false, not_true_eq_false, not_false_eq_true, reduceIte, reduceCtorEq, Nat.reduceEqDiff, Nat.reduceAdd, Nat.reduceSub, Nat.reduceLeDiff]
    exact bv_congr (by simp [h])
def inPh (at_ : Int) (x : Ph) : Bool := decide (x.f ≤ at_ ∧ at_ < x.t)
theorem mtClos_fc (at_ : Int) (x : Ph) : FC Try.prog 106 none [.ag (phC x), .one (.ep [.g (.int .i64 at_)])] (fun _ r => r = bv (inPh at_ x)) := by
  refine fc_mtClos (by simp +arith) ?_
  unfold C_mtClos inPh
  simp (maxSteps := 1000000) (disch := omega) only [go_sem, eq_self, decide_true, decide_false, not_true_eq_false, not_false_eq_true, reduceIte, reduceCtorEq, Nat.reduceEqDiff, Nat.reduceAdd, Nat.reduceSub, Nat.reduceLeDiff]
  refine CALL_det (inWin_fc x.f x.t at_) (.inl rfl) ?_
  simp (maxSteps := 1000000) (disch := omega) only [go_sem, eq_self, decide_true, decide_false, not_true_eq_false, not_false_eq_true, reduceIte, reduceCtorEq, Nat.reduceEqDiff, Nat.reduceAdd, Nat.reduceSub, Nat.reduceLeDiff]
def ixP1 (cl : FuncId) (cs : List Cel) (l : List Ph) (i : Int) : AS := ⟨tabV [(0, phsV false l), (1, .one (.fn cl [.ep cs])), (7, iv l.length), (8, iv i)], tabO [], tabO []⟩
theorem idxPh_fc (cl : FuncId) (cs : List Cel) (p : Ph → Bool) (l : List Ph) (hl : l.length ≤ 1000000) (hcl : ∀ x, FC Try.prog cl none [.ag (phC x), .one (.ep cs)] (fun _ r => r = bv (p x))) : FC Try.prog 105 none [phsV false l, .one (.fn cl [.ep cs])] (fun _ r => r = iv (idxG p 0 l)) := by
  refine fc_idxPh (by simp +arith) ?_
  unfold C_idxPh
  simp (maxSteps := 1000000) (disch := omega) only [go_sem, eq_self, decide_true, decide_false, not_true_eq_false, not_false_eq_true, reduceIte, reduceCtorEq, Nat.reduceEqDiff, Nat.reduceAdd, Nat.reduceSub, Nat.reduceLeDiff]
  refine ex_loop1 (ixP1 cl cs l) (fun i => 0 ≤ i ∧ i ≤ l.length ∧ idxG p i (l.drop i.toNat) = idxG p 0 l) (fun i => (l.length - i).toNat) 0 ⟨by omega, by omega, rfl⟩ rfl ?_
  rintro i ⟨g1, g2, g3⟩
  unfold ixP1
  by_cases hi : i < l.length
  · rw [drop_cons l i.toNat (by omega), idxG] at g3
    have e2 : (i + 1).toNat = i.toNat + 1 := by omega
    simp (maxSteps := 1000000) (disch := omega) only [go_sem, eq_self, decide_true, decide_false, not_true_eq_false, not_false_eq_true, reduceIte, reduceCtorEq, Nat.reduceEqDiff, Nat.reduceAdd, Nat.reduceSub, Nat.reduceLeDiff]
    refine CALL_det (hcl _) (.inl rfl) ?_
    cases h : p (l.getD i.toNat default) with
    | true => rw [h, if_pos rfl] at g3; simp (maxSteps := 1000000) (disch := omega) only [go_sem, eq_self, decide_true, decide_false, not_true_eq_false, not_false_eq_true, reduceIte, reduceCtorEq, Nat.reduceEqDiff, Nat.reduceAdd, Nat.reduceSub, Nat.reduceLeDiff]; rw [← g3]
    | false =>
      rw [h, if_neg (by simp)] at g3
      simp (maxSteps := 1000000) (disch := omega) only [go_sem, eq_self, decide_true, decide_false, not_true_eq_false, not_false_eq_true, reduceIte, reduceCtorEq, Nat.reduceEqDiff, Nat.reduceAdd, Nat.reduceSub, Nat.reduceLeDiff]
      exact ⟨_, rfl, ⟨by omega, by omega, by rw [e2]; exact g3⟩, by omega⟩
  · rw [List.drop_eq_nil_of_le (by omega), idxG] at g3
    simp (maxSteps := 1000000) (disch := omega) only [go_sem, eq_self, decide_true, decide_false, not_true_eq_false, not_false_eq_true, reduceIte, reduceCtorEq, Nat.reduceEqDiff, Nat.reduceAdd, Nat.reduceSub, Nat.reduceLeDiff]
    rw [← g3]
def mpV (a b : List Ph) (at_ : Int) : Int × Bool :=
  let k := idxG (inPh at_) 0 a
  if k < 0 ∨ k ≥ b.length ∨ ¬(b.getD k.toNat default).n = (a.getD k.toNat default).n then (0, false)
  else ((b.getD k.toNat default).f + (at_ - (a.getD k.toNat default).f) * ((b.getD k.toNat default).t - (b.getD k.toNat default).f) / ((a.getD k.toNat default).t - (a.getD k.toNat default).f), true)
def mpSp (a b : List Ph) (at_ : Int) : Int × Bool × Int :=
  if orSp [phF a, phF b] ≠ 0 then (0, false, orSp [phF a, phF b]) else if ¬(0 ≤ at_ ∧ at_ ≤ 345686399999) then (0, false, 1) else ((mpV a b at_).1, (mpV a b at_).2, 0)
theorem phF_ok {p : List Ph} (h : phF p = 0) : p.length ≤ 5000 ∧ Fch 0 (p.map winP) := by
  unfold phF at h
  split at h
  · omega
  · split at h
    · omega
    · exact ⟨by omega, (fwF_ok h).2⟩
theorem ph_ge {p : List Ph} (h : Fch 0 (p.map winP)) {i : Nat} (hi : i < p.length) : 0 ≤ (p.getD i default).f ∧ (p.getD i default).f < (p.getD i default).t ∧ (p.getD i default).t ≤ 345686400000 := by
  have := h.ge (winP (p.getD i default)) (List.mem_map.2 ⟨_, getD_mem p i hi, rfl⟩)
  simpa [winP] using this
def smallP (p : List Ph) : Prop := ∀ x ∈ p, x.t ≤ 2000
theorem ediv_bd' {x c : Int} (h : 0 ≤ x) (hc : 1 ≤ c) : 0 ≤ x / c ∧ x / c ≤ x := ⟨Int.ediv_nonneg h (by omega), Int.ediv_le_self _ h⟩
theorem mapTime_fc (a b : List Ph) (ha : a.length ≤ 1000) (hb : b.length ≤ 1000) (hsa : smallP a) (hsb : smallP b) (at_ : Int) : FC Try.prog 49 none [phsV false a, phsV false b, iv at_] (fun _ r => r = .tu [iv (mpSp a b at_).1, bv (mpSp a b at_).2.1, iv (mpSp a b at_).2.2]) := by
  refine fc_mapTime (by simp +arith) ?_
  unfold C_mapTime mpSp
  simp (maxSteps := 1000000) (disch := omega) only [go_sem, eq_self, decide_true, decide_false, not_true_eq_false, not_false_eq_true, reduceIte, reduceCtorEq, Nat.reduceEqDiff, Nat.reduceAdd, Nat.reduceSub, Nat.reduceLeDiff]
  refine CALL_det (phasesFault_fc a (by omega)) (.inl rfl) ?_
  simp (maxSteps := 1000000) (disch := omega) only [go_sem, eq_self, decide_true, decide_false, not_true_eq_false, not_false_eq_true, reduceIte, reduceCtorEq, Nat.reduceEqDiff, Nat.reduceAdd, Nat.reduceSub, Nat.reduceLeDiff]
  refine CALL_det (phasesFault_fc b (by omega)) (.inl rfl) ?_
  simp (maxSteps := 1000000) (disch := omega) only [go_sem, eq_self, decide_true, decide_false, not_true_eq_false, not_false_eq_true, reduceIte, reduceCtorEq, Nat.reduceEqDiff, Nat.reduceAdd, Nat.reduceSub, Nat.reduceLeDiff]
  refine CALL_det (first_fc false [phF a, phF b] (by simp)) (.inl rfl) ?_
  by_cases h1 : orSp [phF a, phF b] = 0
  · obtain ⟨h2, h3⟩ := or2_z' h1
    have fa := (phF_ok h2).2
    have fb := (phF_ok h3).2
    rw [if_neg (show ¬(orSp [phF a, phF b] ≠ 0) by omega), h1]
    simp (maxSteps := 1000000) (disch := omega) only [go_sem, eq_self, decide_true, decide_false, not_true_eq_false, not_false_eq_true, reduceIte, reduceCtorEq, Nat.reduceEqDiff, Nat.reduceAdd, Nat.reduceSub, Nat.reduceLeDiff]
    refine CALL_det (moment_fc at_) (.inl rfl) ?_
    by_cases h4 : 0 ≤ at_ ∧ at_ ≤ 345686399999
    · rw [if_neg (by omega), decide_eq_true h4]
      have hix := idxPh_fc 106 [.g (.int .i64 at_)] (inPh at_) a (by omega) (fun x => mtClos_fc at_ x)
      have hsp := idxG_spec (inPh at_) a 0 (by omega)
      unfold mpV
      simp only []
      generalize idxG (inPh at_) 0 a = k at *
      by_cases c1 : k < 0
      · rw [if_pos (.inl c1)]
        simp (maxSteps := 1000000) (disch := omega) only [go_sem, eq_self, decide_true, decide_false, not_true_eq_false, not_false_eq_true, reduceIte, reduceCtorEq, Nat.reduceEqDiff, Nat.reduceAdd, Nat.reduceSub, Nat.reduceLeDiff]
        refine CALL_det hix (.inl rfl) ?_
        simp (maxSteps := 1000000) (disch := omega) only [go_sem, eq_self, decide_true, decide_false, not_true_eq_false, not_false_eq_true, reduceIte, reduceCtorEq, Nat.reduceEqDiff, Nat.reduceAdd, Nat.reduceSub, Nat.reduceLeDiff]
      · obtain ⟨k1, k2, k3, _⟩ := hsp.resolve_left (by omega)
        rw [show (k - 0).toNat = k.toNat by omega] at k3
        unfold inPh at k3
        have k3 := of_decide_eq_true k3
        have ea := getD_map_at phC a k [] (by omega) (by omega)
        have ga := ph_ge fa (i := k.toNat) (by omega)
        have sa := hsa _ (getD_mem a k.toNat (by omega))
        by_cases c2 : k ≥ b.length
        · rw [if_pos (.inr (.inl c2))]
          simp (maxSteps := 1000000) (disch := omega) only [go_sem, eq_self, decide_true, decide_false, not_true_eq_false, not_false_eq_true, reduceIte, reduceCtorEq, Nat.reduceEqDiff, Nat.reduceAdd, Nat.reduceSub, Nat.reduceLeDiff]
          refine CALL_det hix (.inl rfl) ?_
          simp (maxSteps := 1000000) (disch := omega) only [go_sem, eq_self, decide_true, decide_false, not_true_eq_false, not_false_eq_true, reduceIte, reduceCtorEq, Nat.reduceEqDiff, Nat.reduceAdd, Nat.reduceSub, Nat.reduceLeDiff]
        · have eb := getD_map_at phC b k [] (by omega) (by omega)
          have gb := ph_ge fb (i := k.toNat) (by omega)
          have sb := hsb _ (getD_mem b k.toNat (by omega))
          by_cases c3 : (b.getD k.toNat default).n = (a.getD k.toNat default).n
          · rw [if_neg (by rintro (h | h | h); omega; omega; exact h c3)]
            have hml := Int.mul_le_mul (show at_ - (a.getD k.toNat default).f ≤ 2000 by omega) (show (b.getD k.toNat default).t - (b.getD k.toNat default).f ≤ 2000 by omega) (by omega) (by omega)
            have hmn := Int.mul_nonneg (show 0 ≤ at_ - (a.getD k.toNat default).f by omega) (show 0 ≤ (b.getD k.toNat default).t - (b.getD k.toNat default).f by omega)
            have hd := ediv_bd' hmn (show 1 ≤ (a.getD k.toNat default).t - (a.getD k.toNat default).f by omega)
            simp (maxSteps := 1000000) (disch := omega) only [go_sem, eq_self, decide_true, decide_false, not_true_eq_false, not_false_eq_true, reduceIte, reduceCtorEq, Nat.reduceEqDiff, Nat.reduceAdd, Nat.reduceSub, Nat.reduceLeDiff]
            refine CALL_det hix (.inl rfl) ?_
            simp (maxSteps := 1000000) (disch := omega) only [go_sem, eq_self, decide_true, decide_false, not_true_eq_false, not_false_eq_true, reduceIte, reduceCtorEq, Nat.reduceEqDiff, Nat.reduceAdd, Nat.reduceSub, Nat.reduceLeDiff]
            refine CALL_det (mulDiv_fc (at_ - (a.getD k.toNat default).f) ((b.getD k.toNat default).t - (b.getD k.toNat default).f) ((a.getD k.toNat default).t - (a.getD k.toNat default).f) (by omega) (by omega) (by omega)) (.inl rfl) ?_
            simp (maxSteps := 1000000) (disch := omega) only [go_sem, eq_self, decide_true, decide_false, not_true_eq_false, not_false_eq_true, reduceIte, reduceCtorEq, Nat.reduceEqDiff, Nat.reduceAdd, Nat.reduceSub, Nat.reduceLeDiff]
          · rw [if_pos (.inr (.inr c3))]
            simp (maxSteps := 1000000) (disch := omega) only [go_sem, eq_self, decide_true, decide_false, not_true_eq_false, not_false_eq_true, reduceIte, reduceCtorEq, Nat.reduceEqDiff, Nat.reduceAdd, Nat.reduceSub, Nat.reduceLeDiff]
            refine CALL_det hix (.inl rfl) ?_
            simp (maxSteps := 1000000) (disch := omega) only [go_sem, eq_self, decide_true, decide_false, not_true_eq_false, not_false_eq_true, reduceIte, reduceCtorEq, Nat.reduceEqDiff, Nat.reduceAdd, Nat.reduceSub, Nat.reduceLeDiff]
    · rw [if_pos h4, decide_eq_false h4]
      simp (maxSteps := 1000000) (disch := omega) only [go_sem, eq_self, decide_true, decide_false, not_true_eq_false, not_false_eq_true, reduceIte, reduceCtorEq, Nat.reduceEqDiff, Nat.reduceAdd, Nat.reduceSub, Nat.reduceLeDiff]
  · rw [if_pos (show orSp [phF a, phF b] ≠ 0 by omega)]
    simp (maxSteps := 1000000) (disch := omega) only [go_sem, eq_self, decide_true, decide_false, not_true_eq_false, not_false_eq_true, reduceIte, reduceCtorEq, Nat.reduceEqDiff, Nat.reduceAdd, Nat.reduceSub, Nat.reduceLeDiff]
end Go.Proofs.Ytggbcgldnjmobaa

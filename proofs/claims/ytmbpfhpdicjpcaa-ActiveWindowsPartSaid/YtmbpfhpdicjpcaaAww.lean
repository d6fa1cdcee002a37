
/-
  ActiveWindowsPart returns true for every slice of integers, and leaves the slice as it was: the windows in which an alarm is active are apart; a larger deadband, and a longer delay, bring no more of them. No condition.
-/
import Derived.Test.YtmbpfhpdicjpcaaAwp
import Derived.Test.YtmbpfhpdicjpcaaRdy
import Derived.Test.YtmbpfhpdicjpcaaGenC
import Derived.Test.YtmbpfhpdicjpcaaAiRow
import Derived.Test.YtmbpfhpdicjpcaaRows
namespace Go.Proofs.Ytmbpfhpdicjpcaa
open Go Go.Ai
set_option linter.unusedSimpArgs false
set_option linter.unusedVariables false
set_option maxHeartbeats 4000000
def A_contW : List Ann := [⟨(some ⟨[0,1], [], []⟩), [], [], [], []⟩, ⟨(some ⟨[4], [], []⟩), [], [], [], []⟩]
def C_contW : AC := (.seq (.reg false [⟨(some 4), none, .mv (.v (.bool false))⟩] (some ⟨[0,1], [], []⟩))
  (.seq (.reg false [⟨(some 5), none, .mv (.t 0)⟩, ⟨(some 6), none, .mv (.t 1)⟩, ⟨(some 7), none, .call (.f 125) [(.t 5), (.t 6)]⟩, ⟨(some 8), none, .bin .geq (.t 7) (.v (.int .i64 (0)))⟩, ⟨(some 4), none, .mv (.t 8)⟩] (some ⟨[4], [], []⟩))
  .ret))
theorem c_contW : compileCode Try.prog Try.f58.ntmps (Try.f58.body.getD .skip) A_contW = some (C_contW, []) := by kernel_rfl
theorem r_contW : compileRes Try.prog Try.f58.results.toList = some [.t 4] := by kernel_rfl
theorem b_contW : Try.f58.body = some (Try.f58.body.getD .skip) := by kernel_rfl
theorem n_contW : (Try.f58.name == "runtime.NumGoroutine") = false := by kernel_rfl
theorem fc_contW {xt : Option (List Cel)} {args : List Val} {R : List Cel → Val → Prop} (hn : (if xt.isSome then 1 else 0) + args.length ≤ Try.f58.ntmps) (h : ex Try.prog C_contW [] (fpost xt [.t 4] R) (initSt xt args)) : FC Try.prog 58 xt args R :=
  fc_of_awp Try.func58 b_contW n_contW c_contW r_contW (of_decide_eq_true (by kernel_rfl)) hn h

def A_awClos : List Ann := [⟨(some ⟨[1,2], [2], []⟩), [], [], [], []⟩, ⟨(some ⟨[3], [], []⟩), [], [], [], []⟩]
def C_awClos : AC := (.seq (.reg false [⟨(some 2), none, .box (.t 0)⟩, ⟨(some 3), none, .mv (.v (.bool false))⟩] (some ⟨[1,2], [2], []⟩))
  (.seq (.reg false [⟨(some 4), none, .fadr 0 (.t 2)⟩, ⟨(some 5), none, .load false 1 (.t 4)⟩, ⟨(some 6), none, .fadr 0 (.t 1)⟩, ⟨(some 7), none, .load false 1 (.t 6)⟩, ⟨(some 8), none, .bin .leq (.t 5) (.t 7)⟩, ⟨(some 9), none, .mv (.t 8)⟩, ⟨(some 10), (some (9, true)), .fadr 0 (.t 1)⟩, ⟨(some 11), (some (9, true)), .load false 1 (.t 10)⟩, ⟨(some 12), (some (9, true)), .fadr 1 (.t 2)⟩, ⟨(some 13), (some (9, true)), .load false 1 (.t 12)⟩, ⟨(some 14), (some (9, true)), .bin .leq (.t 11) (.t 13)⟩, ⟨(some 15), none, .pick (.t 9) (.t 14) (.v (.bool false))⟩, ⟨(some 3), none, .mv (.t 15)⟩] (some ⟨[3], [], []⟩))
  .ret))
theorem c_awClos : compileCode Try.prog Try.f59.ntmps (Try.f59.body.getD .skip) A_awClos = some (C_awClos, []) := by kernel_rfl
theorem r_awClos : compileRes Try.prog Try.f59.results.toList = some [.t 3] := by kernel_rfl
theorem b_awClos : Try.f59.body = some (Try.f59.body.getD .skip) := by kernel_rfl
theorem n_awClos : (Try.f59.name == "runtime.NumGoroutine") = false := by kernel_rfl
theorem fc_awClos {xt : Option (List Cel)} {args : List Val} {R : List Cel → Val → Prop} (hn : (if xt.isSome then 1 else 0) + args.length ≤ Try.f59.ntmps) (h : ex Try.prog C_awClos [] (fpost xt [.t 3] R) (initSt xt args)) : FC Try.prog 59 xt args R :=
  fc_of_awp Try.func59 b_awClos n_awClos c_awClos r_awClos (of_decide_eq_true (by kernel_rfl)) hn h

def A_aww : List Ann := [⟨(some ⟨[0], [], []⟩), [], [], [], []⟩, ⟨(some ⟨[3,20], [20], []⟩), [], [], [], []⟩, ⟨(some ⟨[3,4,20], [20], []⟩), [], [], [], []⟩, ⟨(some ⟨[3,4,5,20], [5,20], []⟩), [], [], [], []⟩, ⟨(some ⟨[3,4,5,6,20], [5,6,20], []⟩), [], [], [], []⟩, ⟨(some ⟨[3,4,5,6,20], [5,6,20], []⟩), [], [(0, (some 6)), (1, (some 6)), (3, (some 20))], [], []⟩, ⟨(some ⟨[3,4,5,6,7,20], [5,6,7,20], []⟩), [], [], [], []⟩, ⟨(some ⟨[4,5,6,7], [5,6,7], []⟩), [], [], [], []⟩, ⟨(some ⟨[4,6,7,8,9], [6,7], []⟩), [], [], [], []⟩, ⟨(some ⟨[4,7,8,9,10,11], [7], []⟩), [], [], [], []⟩, ⟨(some ⟨[8,9,10,11,12,13], [], []⟩), [], [], [], []⟩, ⟨(some ⟨[8,12,78], [], []⟩), [], [], [], []⟩, ⟨(some ⟨[2], [], []⟩), [], [], [], []⟩, ⟨(some ⟨[8,12,79,80,81], [], []⟩), [], [], [], []⟩, ⟨(some ⟨[8,12,79,80,81,82], [], []⟩), [], [], [], []⟩, ⟨(some ⟨[8,12,14,15,79,80,81], [15], []⟩), [], [], [], []⟩, ⟨(some ⟨[8,12,79,80,81,105], [], []⟩), [], [], [], []⟩, ⟨(some ⟨[2], [], []⟩), [], [], [], []⟩, ⟨(some ⟨[8,12,79,80,81], [], []⟩), [], [], [], []⟩, ⟨(some ⟨[8,107,108,109], [], []⟩), [], [], [], []⟩, ⟨(some ⟨[8,107,108,109,110], [], []⟩), [], [], [], []⟩, ⟨(some ⟨[8,17,107,108,109], [17], []⟩), [], [], [], []⟩, ⟨(some ⟨[8,107,108,109,116], [], []⟩), [], [], [], []⟩, ⟨(some ⟨[2], [], []⟩), [], [], [], []⟩, ⟨(some ⟨[8,107,108,109], [], []⟩), [], [], [], []⟩, ⟨(some ⟨[2], [], []⟩), [], [], [], []⟩]
def C_aww : AC := (.seq (.reg false [⟨(some 2), none, .mv (.v (.bool false))⟩] (some ⟨[0], [], []⟩))
  (.seq (.reg false [⟨(some 18), none, .mv (.t 0)⟩, ⟨(some 19), none, .build [(.slice none 0 0), (.int .i64 (0))] [(0, 1, (.t 18))]⟩, ⟨(some 20), none, .box (.t 19)⟩, ⟨(some 3), none, .mv (.t 20)⟩] (some ⟨[3,20], [20], []⟩))
  (.seq (.reg false [⟨(some 21), none, .mv (.t 3)⟩, ⟨(some 22), none, .callx (.f 55) [(.t 21), (.v (.int .i64 (14)))]⟩, ⟨(some 4), none, .mv (.t 22)⟩] (some ⟨[3,4,20], [20], []⟩))
  (.seq (.reg false [⟨(some 23), none, .mv (.t 3)⟩, ⟨(some 24), none, .callx (.f 56) [(.t 23), (.v (.int .i64 (1))), (.v (.int .i64 (2)))]⟩, ⟨(some 25), none, .mv (.t 3)⟩, ⟨(some 26), none, .callx (.f 56) [(.t 25), (.v (.int .i64 (0))), (.v (.int .i64 (6)))]⟩, ⟨(some 27), none, .mv (.t 3)⟩, ⟨(some 28), none, .callx (.f 56) [(.t 27), (.v (.int .i64 (0))), (.v (.int .i64 (3)))]⟩, ⟨(some 29), none, .mv (.t 3)⟩, ⟨(some 30), none, .bslice 1 2 [(.v (.int .i64 (0))), (.v (.int .i64 (5)))]⟩, ⟨(some 31), none, .callx (.f 17) [(.t 29), (.t 30)]⟩, ⟨(some 32), none, .build [(.string (ByteArray.mk #[])), (.string (ByteArray.mk #[])), (.int .i64 (0)), (.int .i64 (0)), (.int .i64 (0)), (.int .i64 (0)), (.int .i64 (0)), (.int .i64 (0)), (.bool false), (.string (ByteArray.mk #[]))] [(0, 1, (.v (.string (ByteArray.mk #[97])))), (1, 1, (.v (.string (ByteArray.mk #[116])))), (2, 1, (.t 24)), (3, 1, (.t 26)), (4, 1, (.t 28)), (6, 1, (.t 31)), (7, 1, (.v (.int .i64 (1))))]⟩, ⟨(some 5), none, .alloc [(.string (ByteArray.mk #[])), (.string (ByteArray.mk #[])), (.int .i64 (0)), (.int .i64 (0)), (.int .i64 (0)), (.int .i64 (0)), (.int .i64 (0)), (.int .i64 (0)), (.bool false), (.string (ByteArray.mk #[]))]⟩, ⟨none, none, .store 10 (.t 5) (.t 32)⟩] (some ⟨[3,4,5,20], [5,20], []⟩))
  (.seq (.reg false [⟨(some 33), none, .load true 10 (.t 5)⟩, ⟨(some 6), none, .alloc [(.string (ByteArray.mk #[])), (.string (ByteArray.mk #[])), (.int .i64 (0)), (.int .i64 (0)), (.int .i64 (0)), (.int .i64 (0)), (.int .i64 (0)), (.int .i64 (0)), (.bool false), (.string (ByteArray.mk #[]))]⟩, ⟨none, none, .store 10 (.t 6) (.t 33)⟩] (some ⟨[3,4,5,6,20], [5,6,20], []⟩))
  (.seq (.reg true [⟨none, none, .chk (.t 6) (some 6)⟩, ⟨(some 34), none, .fadr 4 (.t 6)⟩, ⟨none, none, .chk (.t 34) (some 6)⟩, ⟨(some 35), none, .load false 1 (.t 34)⟩, ⟨(some 36), none, .mv (.t 3)⟩, ⟨none, none, .chk (.t 36) (some 20)⟩, ⟨(some 37), none, .callx (.f 56) [(.t 36), (.v (.int .i64 (0))), (.v (.int .i64 (3)))]⟩, ⟨(some 38), none, .bin .add (.t 35) (.t 37)⟩, ⟨(some 39), none, .fadr 4 (.t 6)⟩, ⟨none, none, .store 1 (.t 39) (.t 38)⟩] (some ⟨[3,4,5,6,20], [5,6,20], []⟩))
  (.seq (.reg false [⟨(some 40), none, .load true 10 (.t 5)⟩, ⟨(some 7), none, .alloc [(.string (ByteArray.mk #[])), (.string (ByteArray.mk #[])), (.int .i64 (0)), (.int .i64 (0)), (.int .i64 (0)), (.int .i64 (0)), (.int .i64 (0)), (.int .i64 (0)), (.bool false), (.string (ByteArray.mk #[]))]⟩, ⟨none, none, .store 10 (.t 7) (.t 40)⟩] (some ⟨[3,4,5,6,7,20], [5,6,7,20], []⟩))
  (.seq (.reg false [⟨(some 41), none, .mv (.t 3)⟩, ⟨(some 42), none, .callx (.f 56) [(.t 41), (.v (.int .i64 (1))), (.v (.int .i64 (30)))]⟩, ⟨(some 43), none, .fadr 5 (.t 7)⟩, ⟨none, none, .store 1 (.t 43) (.t 42)⟩] (some ⟨[4,5,6,7], [5,6,7], []⟩))
  (.seq (.reg false [⟨(some 45), none, .load true 10 (.t 5)⟩, ⟨(some 46), none, .mv (.t 4)⟩, ⟨(some 47), none, .call (.f 57) [(.t 45), (.t 46), (.v (.int .i64 (300)))]⟩, ⟨(some 44), none, .mv (.t 47)⟩, ⟨(some 48), none, .extr (.t 44) 0⟩, ⟨(some 49), none, .extr (.t 44) 1⟩, ⟨(some 8), none, .mv (.t 48)⟩, ⟨(some 9), none, .mv (.t 49)⟩] (some ⟨[4,6,7,8,9], [6,7], []⟩))
  (.seq (.reg false [⟨(some 51), none, .load true 10 (.t 6)⟩, ⟨(some 52), none, .mv (.t 4)⟩, ⟨(some 53), none, .call (.f 57) [(.t 51), (.t 52), (.v (.int .i64 (300)))]⟩, ⟨(some 50), none, .mv (.t 53)⟩, ⟨(some 54), none, .extr (.t 50) 0⟩, ⟨(some 55), none, .extr (.t 50) 1⟩, ⟨(some 10), none, .mv (.t 54)⟩, ⟨(some 11), none, .mv (.t 55)⟩] (some ⟨[4,7,8,9,10,11], [7], []⟩))
  (.seq (.reg false [⟨(some 57), none, .load true 10 (.t 7)⟩, ⟨(some 58), none, .mv (.t 4)⟩, ⟨(some 59), none, .call (.f 57) [(.t 57), (.t 58), (.v (.int .i64 (300)))]⟩, ⟨(some 56), none, .mv (.t 59)⟩, ⟨(some 60), none, .extr (.t 56) 0⟩, ⟨(some 61), none, .extr (.t 56) 1⟩, ⟨(some 12), none, .mv (.t 60)⟩, ⟨(some 13), none, .mv (.t 61)⟩] (some ⟨[8,9,10,11,12,13], [], []⟩))
  (.seq (.seq (.reg false [⟨(some 62), none, .mv (.t 9)⟩, ⟨(some 63), none, .bin .neq (.t 62) (.v (.int .i64 (0)))⟩, ⟨(some 64), none, .mv (.t 63)⟩, ⟨(some 65), (some (64, false)), .mv (.t 11)⟩, ⟨(some 66), (some (64, false)), .bin .neq (.t 65) (.v (.int .i64 (0)))⟩, ⟨(some 67), none, .pick (.t 64) (.v (.bool true)) (.t 66)⟩, ⟨(some 68), none, .mv (.t 67)⟩, ⟨(some 69), (some (68, false)), .mv (.t 13)⟩, ⟨(some 70), (some (68, false)), .bin .neq (.t 69) (.v (.int .i64 (0)))⟩, ⟨(some 71), none, .pick (.t 68) (.v (.bool true)) (.t 70)⟩, ⟨(some 72), none, .mv (.t 71)⟩, ⟨(some 73), (some (72, false)), .mv (.t 10)⟩, ⟨(some 74), (some (72, false)), .len (.t 73)⟩, ⟨(some 75), (some (72, false)), .mv (.t 8)⟩, ⟨(some 76), (some (72, false)), .len (.t 75)⟩, ⟨(some 77), (some (72, false)), .bin .gtr (.t 74) (.t 76)⟩, ⟨(some 78), none, .pick (.t 72) (.v (.bool true)) (.t 77)⟩] (some ⟨[8,12,78], [], []⟩))
  (.cond (.t 78)
  (.seq (.reg false [⟨(some 2), none, .mv (.v (.bool false))⟩] (some ⟨[2], [], []⟩))
  .ret)
  .skip))
  (.seq (.seq (.reg false [⟨(some 79), none, .mv (.t 8)⟩, ⟨(some 80), none, .len (.t 79)⟩, ⟨(some 81), none, .mv (.v (.int .i64 (0)))⟩] (some ⟨[8,12,79,80,81], [], []⟩))
  (.block 0 (.loop (.seq (.reg false [⟨(some 82), none, .bin .lss (.t 81) (.t 80)⟩] (some ⟨[8,12,79,80,81,82], [], []⟩))
  (.seq (.cond (.t 82)
  .skip
  (.exit 0))
  (.seq (.block 1 (.seq (.reg false [⟨(some 83), none, .mv (.t 81)⟩, ⟨(some 84), none, .iadr 2 (.t 79) (.t 81)⟩, ⟨(some 85), none, .load true 2 (.t 84)⟩, ⟨(some 15), none, .alloc [(.int .i64 (0)), (.int .i64 (0))]⟩, ⟨(some 14), none, .mv (.t 83)⟩, ⟨none, none, .store 2 (.t 15) (.t 85)⟩] (some ⟨[8,12,14,15,79,80,81], [15], []⟩))
  (.seq (.reg true [⟨(some 86), none, .fadr 0 (.t 15)⟩, ⟨(some 87), none, .load false 1 (.t 86)⟩, ⟨(some 88), none, .fadr 1 (.t 15)⟩, ⟨(some 89), none, .load false 1 (.t 88)⟩, ⟨(some 90), none, .bin .geq (.t 87) (.t 89)⟩, ⟨(some 91), none, .mv (.t 90)⟩, ⟨(some 92), (some (91, false)), .mv (.t 14)⟩, ⟨(some 93), (some (91, false)), .bin .gtr (.t 92) (.v (.int .i64 (0)))⟩, ⟨(some 94), (some (91, false)), .mv (.t 93)⟩, ⟨(some 95), (some (94, true)), .fadr 0 (.t 15)⟩, ⟨(some 96), (some (94, true)), .load false 1 (.t 95)⟩, ⟨(some 97), (some (94, true)), .mv (.t 8)⟩, ⟨(some 98), (some (94, true)), .mv (.t 14)⟩, ⟨(some 99), (some (94, true)), .bin .sub (.t 98) (.v (.int .i64 (1)))⟩, ⟨(some 100), (some (94, true)), .iadr 2 (.t 97) (.t 99)⟩, ⟨(some 101), (some (94, true)), .fadr 1 (.t 100)⟩, ⟨(some 102), (some (94, true)), .load false 1 (.t 101)⟩, ⟨(some 103), (some (94, true)), .bin .lss (.t 96) (.t 102)⟩, ⟨(some 104), (some (91, false)), .pick (.t 94) (.t 103) (.v (.bool false))⟩, ⟨(some 105), none, .pick (.t 91) (.v (.bool true)) (.t 104)⟩] (some ⟨[8,12,79,80,81,105], [], []⟩))
  (.cond (.t 105)
  (.seq (.reg false [⟨(some 2), none, .mv (.v (.bool false))⟩] (some ⟨[2], [], []⟩))
  .ret)
  .skip))))
  (.reg false [⟨(some 106), none, .bin .add (.t 81) (.v (.int .i64 (1)))⟩, ⟨(some 81), none, .mv (.t 106)⟩] (some ⟨[8,12,79,80,81], [], []⟩))))))))
  (.seq (.seq (.reg false [⟨(some 107), none, .mv (.t 12)⟩, ⟨(some 108), none, .len (.t 107)⟩, ⟨(some 109), none, .mv (.v (.int .i64 (0)))⟩] (some ⟨[8,107,108,109], [], []⟩))
  (.block 2 (.loop (.seq (.reg false [⟨(some 110), none, .bin .lss (.t 109) (.t 108)⟩] (some ⟨[8,107,108,109,110], [], []⟩))
  (.seq (.cond (.t 110)
  .skip
  (.exit 2))
  (.seq (.block 3 (.seq (.reg false [⟨(some 111), none, .iadr 2 (.t 107) (.t 109)⟩, ⟨(some 112), none, .load true 2 (.t 111)⟩, ⟨(some 17), none, .alloc [(.int .i64 (0)), (.int .i64 (0))]⟩, ⟨none, none, .store 2 (.t 17) (.t 112)⟩] (some ⟨[8,17,107,108,109], [17], []⟩))
  (.seq (.reg false [⟨(some 113), none, .mv (.t 8)⟩, ⟨(some 114), none, .mkfn 59 [(.t 17)]⟩, ⟨(some 115), none, .call (.f 58) [(.t 113), (.t 114)]⟩, ⟨(some 116), none, .un .not (.t 115)⟩] (some ⟨[8,107,108,109,116], [], []⟩))
  (.cond (.t 116)
  (.seq (.reg false [⟨(some 2), none, .mv (.v (.bool false))⟩] (some ⟨[2], [], []⟩))
  .ret)
  .skip))))
  (.reg false [⟨(some 117), none, .bin .add (.t 109) (.v (.int .i64 (1)))⟩, ⟨(some 109), none, .mv (.t 117)⟩] (some ⟨[8,107,108,109], [], []⟩))))))))
  (.seq (.reg false [⟨(some 118), none, .call (.f 60) []⟩, ⟨(some 2), none, .mv (.t 118)⟩] (some ⟨[2], [], []⟩))
  .ret)))))))))))))))
theorem c_aww : compileCode Try.prog Try.f6.ntmps (Try.f6.body.getD .skip) A_aww = some (C_aww, []) := by kernel_rfl
theorem r_aww : compileRes Try.prog Try.f6.results.toList = some [.t 2] := by kernel_rfl
theorem b_aww : Try.f6.body = some (Try.f6.body.getD .skip) := by kernel_rfl
theorem n_aww : (Try.f6.name == "runtime.NumGoroutine") = false := by kernel_rfl
theorem fc_aww {xt : Option (List Cel)} {args : List Val} {R : List Cel → Val → Prop} (hn : (if xt.isSome then 1 else 0) + args.length ≤ Try.f6.ntmps) (h : ex Try.prog C_aww [] (fpost xt [.t 2] R) (initSt xt args)) : FC Try.prog 6 xt args R :=
  fc_of_awp Try.func6 b_aww n_aww c_aww r_aww (of_decide_eq_true (by kernel_rfl)) hn h


theorem idxG_any {α : Type} [Inhabited α] (p : α → Bool) (l : List α) : decide (idxG p 0 l ≥ 0) = l.any p := by
  rcases idxG_spec p l 0 (by omega) with ⟨h1, h2⟩ | ⟨h1, h2, h3, _⟩
  · rw [h1]
    have : l.any p = false := by rw [List.any_eq_false]; intro x hx; rw [h2 x hx]; simp
    rw [this]; rfl
  · have : l.any p = true := List.any_eq_true.2 ⟨_, getD_mem l _ (by omega), h3⟩
    rw [this]; simp [h1]
theorem contW_fc (cl : FuncId) (cs : List Cel) (p : Int × Int → Bool) (l : List (Int × Int)) (hl : l.length ≤ 1000000) (hcl : ∀ x ∈ l, FC Try.prog cl none [.ag (frC x), .one (.ep cs)] (fun _ r => r = bv (p x))) : FC Try.prog 58 none [frsV false l, .one (.fn cl [.ep cs])] (fun _ r => r = bv (l.any p)) := by
  refine fc_contW (by simp +arith) ?_
  unfold C_contW
  simp (maxSteps := 1000000) (disch := omega) only [go_sem, eq_self, decide_true, decide_false, not_true_eq_false, not_false_eq_true, reduceIte, reduceCtorEq, Nat.reduceEqDiff, Nat.reduceAdd, Nat.reduceSub, Nat.reduceLeDiff]
  refine CALL_det (idxW_fc cl cs p l hl hcl) (.inl rfl) ?_
  simp (maxSteps := 1000000) (disch := omega) only [go_sem, eq_self, decide_true, decide_false, not_true_eq_false, not_false_eq_true, reduceIte, reduceCtorEq, Nat.reduceEqDiff, Nat.reduceAdd, Nat.reduceSub, Nat.reduceLeDiff]
  rw [← idxG_any p l]
def awB (w v : Int × Int) : Bool := decide (v.1 ≤ w.1 ∧ w.1 ≤ v.2)
theorem awClos_fc (v w : Int × Int) : FC Try.prog 59 none [.ag (frC v), .one (.ep (frC w))] (fun _ r => r = bv (awB w v)) := by
  refine fc_awClos (by simp +arith) ?_
  unfold C_awClos awB
  by_cases h : v.1 ≤ w.1
  · simp (maxSteps := 1000000) (disch := omega) only [go_sem, eq_self, decide_true, decide_false, not_true_eq_false, not_false_eq_true, reduceIte, reduceCtorEq, Nat.reduceEqDiff, Nat.reduceAdd, Nat.reduceSub, Nat.reduceLeDiff]
    exact bv_congr (by simp [h])
  · simp (maxSteps := 1000000) (disch := omega) only [go_sem, eq_self, decide_true, decide_false, not_true_eq_false, not_false_eq_true, reduceIte, reduceCtorEq, Nat.reduceEqDiff, Nat.reduceAdd, Nat.reduceSub, Nat.reduceLeDiff]
    exact bv_congr (by simp [h])
theorem actSp_kd {kd lim db on off un : Int} {l : List Smp} (hk : kd = 1 ∨ kd = 2) (hlim : -1000000 ≤ lim ∧ lim ≤ 1000000) (hdb : 0 ≤ db ∧ db ≤ 2000000) (hon : 0 ≤ on ∧ on ≤ 86400000) (hoff : 0 ≤ off ∧ off ≤ 86400000) (hu : 0 ≤ un ∧ un ≤ 345686400000) (hs : serFault l = 0) : actSp kd lim db on off 1 l un = (actW kd lim db on off un l, 0) := by
  have e : almF kd lim db on off 1 = 0 := by
    unfold almF
    rw [if_neg (by omega), if_neg (by omega), if_neg (by omega)]
  have e2 : unF kd lim db on off 1 l un = 0 := by
    unfold unF
    rw [e, hs, if_neg (fun h => by omega)]; rfl
  unfold actSp
  rw [if_neg (by omega)]
def aw1St (a d : List (Int × Int)) (i : Int) : AS := ⟨tabV [(8, frsV true a), (12, frsV true d), (79, frsV true a), (80, iv a.length), (81, iv i)], tabO [], tabO []⟩
def aw2St (a d : List (Int × Int)) (i : Int) : AS := ⟨tabV [(8, frsV true a), (107, frsV true d), (108, iv d.length), (109, iv i)], tabO [], tabO []⟩
theorem fch_at : ∀ {l : List (Int × Int)} {lo : Int}, Fch lo l → ∀ i : Nat, i + 1 < l.length → (l.getD i default).2 ≤ (l.getD (i + 1) default).1
  | [], _, _, i, h => by simp at h
  | [w], _, _, i, h => by simp at h
  | w :: y :: r, lo, h, i, hi => by
    obtain ⟨h1, h2, h3, h4⟩ := h
    cases i with
    | zero => exact h4.1
    | succ i => exact fch_at h4 i (by simpa using hi)
set_option maxHeartbeats 12000000 in
set_option maxRecDepth 8000 in
theorem aww_fc (L : List Int) (hL : ∀ x ∈ L, I64 x) (hl : L.length ≤ 9223372036854775807) : FC Try.prog 6 none [ints false L] (fun _ r => r = bv true) := by
  refine fc_aww (by simp +arith) ?_
  unfold C_aww
  simp (maxSteps := 1000000) (disch := omega) only [go_sem, eq_self, decide_true, decide_false, not_true_eq_false, not_false_eq_true, reduceIte, reduceCtorEq, Nat.reduceEqDiff, Nat.reduceAdd, Nat.reduceSub, Nat.reduceLeDiff]
  refine callx_gen (p := 0) (rightCurve_fc 14 (by omega) (by omega)) hL hl (by omega) (by omega) ⟨_, [], rfl, by simp, rfl⟩ ?_
  rintro pa r ha1 ha2 ⟨l, hs, hlm, rfl⟩
  refine ⟨rfl, ?_⟩
  unfold strm
  simp (maxSteps := 1000000) (disch := omega) only [go_sem, eq_self, decide_true, decide_false, not_true_eq_false, not_false_eq_true, reduceIte, reduceCtorEq, Nat.reduceEqDiff, Nat.reduceAdd, Nat.reduceSub, Nat.reduceLeDiff]
  refine callx_gen (range_fc 1 2 (by omega) (by omega) (by omega)) hL hl (by omega) (by omega) ⟨_, 1, by omega, by omega, rfl⟩ ?_
  rintro pb r hb1 hb2 ⟨kd, hk1, hk2, rfl⟩
  refine ⟨rfl, ?_⟩
  unfold strm
  simp (maxSteps := 1000000) (disch := omega) only [go_sem, eq_self, decide_true, decide_false, not_true_eq_false, not_false_eq_true, reduceIte, reduceCtorEq, Nat.reduceEqDiff, Nat.reduceAdd, Nat.reduceSub, Nat.reduceLeDiff]
  refine callx_gen (range_fc 0 6 (by omega) (by omega) (by omega)) hL hl (by omega) (by omega) ⟨_, 1, by omega, by omega, rfl⟩ ?_
  rintro pc r hc1 hc2 ⟨lim, hl1, hl2, rfl⟩
  refine ⟨rfl, ?_⟩
  unfold strm
  simp (maxSteps := 1000000) (disch := omega) only [go_sem, eq_self, decide_true, decide_false, not_true_eq_false, not_false_eq_true, reduceIte, reduceCtorEq, Nat.reduceEqDiff, Nat.reduceAdd, Nat.reduceSub, Nat.reduceLeDiff]
  refine callx_gen (range_fc 0 3 (by omega) (by omega) (by omega)) hL hl (by omega) (by omega) ⟨_, 1, by omega, by omega, rfl⟩ ?_
  rintro pd r hd1 hd2 ⟨db, hd3, hd4, rfl⟩
  refine ⟨rfl, ?_⟩
  unfold strm
  simp (maxSteps := 1000000) (disch := omega) only [go_sem, eq_self, decide_true, decide_false, not_true_eq_false, not_false_eq_true, reduceIte, reduceCtorEq, Nat.reduceEqDiff, Nat.reduceAdd, Nat.reduceSub, Nat.reduceLeDiff]
  refine callx_gen (pick_fc false [0, 5] (by simp) (by simp)) hL hl (by omega) (by omega) ⟨_, 0, by simp, rfl⟩ ?_
  rintro po r hao hbo ⟨zo, hzo, rfl⟩
  refine ⟨rfl, ?_⟩
  unfold strm
  simp only [List.mem_cons, List.not_mem_nil, or_false] at hzo
  simp (maxSteps := 1000000) (disch := omega) only [go_sem, eq_self, decide_true, decide_false, not_true_eq_false, not_false_eq_true, reduceIte, reduceCtorEq, Nat.reduceEqDiff, Nat.reduceAdd, Nat.reduceSub, Nat.reduceLeDiff]
  refine callx_gen (range_fc 0 3 (by omega) (by omega) (by omega)) hL hl (by omega) (by omega) ⟨_, 1, by omega, by omega, rfl⟩ ?_
  rintro pe r he1 he2 ⟨de, he3, he4, rfl⟩
  refine ⟨rfl, ?_⟩
  unfold strm
  simp (maxSteps := 1000000) (disch := omega) only [go_sem, eq_self, decide_true, decide_false, not_true_eq_false, not_false_eq_true, reduceIte, reduceCtorEq, Nat.reduceEqDiff, Nat.reduceAdd, Nat.reduceSub, Nat.reduceLeDiff]
  refine callx_gen (range_fc 1 30 (by omega) (by omega) (by omega)) hL hl (by omega) (by omega) ⟨_, 1, by omega, by omega, rfl⟩ ?_
  rintro pf r hf1 hf2 ⟨on, hf3, hf4, rfl⟩
  refine ⟨rfl, ?_⟩
  unfold strm
  have hk : kd = 1 ∨ kd = 2 := by omega
  have hasc := asc_of hs
  have e1 := actSp_kd (lim := lim) (db := db) (on := 0) (off := zo) (un := 300) hk (by omega) (by omega) (by omega) (by omega) (by omega) hs
  have e2 := actSp_kd (lim := lim) (db := db + de) (on := 0) (off := zo) (un := 300) hk (by omega) (by omega) (by omega) (by omega) (by omega) hs
  have e3 := actSp_kd (lim := lim) (db := db) (on := on) (off := zo) (un := 300) hk (by omega) (by omega) (by omega) (by omega) (by omega) hs
  have f1 := act_apart (kd := kd) (lim := lim) (db := db) (on := 0) (off := zo) (un := 300) (by omega) (by omega) hasc
  have f2 := act_db (kd := kd) (lim := lim) (db := db) (db' := db + de) (off := zo) (un := 300) (by omega) (by omega) hk hasc
  have f3 := act_on (kd := kd) (lim := lim) (db := db) (on := on) (off := zo) (un := 300) (by omega) (by omega) (by omega) hasc
  have n1 := act_len (kd := kd) (lim := lim) (db := db) (on := 0) (off := zo) (un := 300) l
  have n3 := act_len (kd := kd) (lim := lim) (db := db) (on := on) (off := zo) (un := 300) l
  generalize actW kd lim db 0 zo 300 l = a at *
  generalize actW kd lim (db + de) 0 zo 300 l = b at *
  generalize actW kd lim db on zo 300 l = d at *
  simp (maxSteps := 1000000) (disch := omega) only [go_sem, eq_self, decide_true, decide_false, not_true_eq_false, not_false_eq_true, reduceIte, reduceCtorEq, Nat.reduceEqDiff, Nat.reduceAdd, Nat.reduceSub, Nat.reduceLeDiff]
  refine CALL_det (activeP_fc kd lim db 0 zo 1 300 l (by omega)) (.inl rfl) ?_
  rw [e1]
  simp (maxSteps := 1000000) (disch := omega) only [go_sem, eq_self, decide_true, decide_false, not_true_eq_false, not_false_eq_true, reduceIte, reduceCtorEq, Nat.reduceEqDiff, Nat.reduceAdd, Nat.reduceSub, Nat.reduceLeDiff]
  refine CALL_det (activeP_fc kd lim (db + de) 0 zo 1 300 l (by omega)) (.inl rfl) ?_
  rw [e2]
  simp (maxSteps := 1000000) (disch := omega) only [go_sem, eq_self, decide_true, decide_false, not_true_eq_false, not_false_eq_true, reduceIte, reduceCtorEq, Nat.reduceEqDiff, Nat.reduceAdd, Nat.reduceSub, Nat.reduceLeDiff]
  refine CALL_det (activeP_fc kd lim db on zo 1 300 l (by omega)) (.inl rfl) ?_
  rw [e3]
  have hge := fun w hw => f1.ge w hw
  simp (maxSteps := 1000000) (disch := omega) only [go_sem, eq_self, decide_true, decide_false, not_true_eq_false, not_false_eq_true, reduceIte, reduceCtorEq, Nat.reduceEqDiff, Nat.reduceAdd, Nat.reduceSub, Nat.reduceLeDiff]
  refine ex_loop1 (aw1St a d) (fun i => 0 ≤ i ∧ i ≤ a.length) (fun i => (a.length - i).toNat) 0 ⟨by omega, by omega⟩ rfl ?_
  rintro i ⟨g1, g2⟩
  unfold aw1St
  by_cases hi : i < a.length
  · have em := getD_map_at frC a i [] g1 hi
    have hx := hge _ (getD_mem a i.toNat (by omega))
    by_cases c1 : 0 < i
    · have k := fch_at f1 (i - 1).toNat (by omega)
      rw [show (i - 1).toNat + 1 = i.toNat by omega] at k
      simp (maxSteps := 1000000) (disch := omega) only [go_sem, eq_self, decide_true, decide_false, not_true_eq_false, not_false_eq_true, reduceIte, reduceCtorEq, Nat.reduceEqDiff, Nat.reduceAdd, Nat.reduceSub, Nat.reduceLeDiff]
      exact ⟨_, rfl, ⟨by omega, by omega⟩, by omega⟩
    · simp (maxSteps := 1000000) (disch := omega) only [go_sem, eq_self, decide_true, decide_false, not_true_eq_false, not_false_eq_true, reduceIte, reduceCtorEq, Nat.reduceEqDiff, Nat.reduceAdd, Nat.reduceSub, Nat.reduceLeDiff]
      exact ⟨_, rfl, ⟨by omega, by omega⟩, by omega⟩
  · simp (maxSteps := 1000000) (disch := omega) only [go_sem, eq_self, decide_true, decide_false, not_true_eq_false, not_false_eq_true, reduceIte, reduceCtorEq, Nat.reduceEqDiff, Nat.reduceAdd, Nat.reduceSub, Nat.reduceLeDiff]
    refine ex_loop1 (aw2St a d) (fun i => 0 ≤ i ∧ i ≤ d.length) (fun i => (d.length - i).toNat) 0 ⟨by omega, by omega⟩ rfl ?_
    rintro j ⟨g3, g4⟩
    unfold aw2St
    by_cases hj : j < d.length
    · have em := getD_map_at frC d j [] g3 hj
      obtain ⟨v, hv, hv2⟩ := f3 _ (getD_mem d j.toNat (by omega))
      have hany : a.any (awB (d.getD j.toNat default)) = true := List.any_eq_true.2 ⟨v, hv, by unfold awB; exact decide_eq_true hv2⟩
      simp (maxSteps := 1000000) (disch := omega) only [go_sem, eq_self, decide_true, decide_false, not_true_eq_false, not_false_eq_true, reduceIte, reduceCtorEq, Nat.reduceEqDiff, Nat.reduceAdd, Nat.reduceSub, Nat.reduceLeDiff]
      refine CALL_det (contW_fc 59 (frC (d.getD j.toNat default)) (awB (d.getD j.toNat default)) a (by omega) (fun x _ => awClos_fc x (d.getD j.toNat default))) (.inl rfl) ?_
      rw [hany]
      simp (maxSteps := 1000000) (disch := omega) only [go_sem, eq_self, decide_true, decide_false, not_true_eq_false, not_false_eq_true, reduceIte, reduceCtorEq, Nat.reduceEqDiff, Nat.reduceAdd, Nat.reduceSub, Nat.reduceLeDiff]
      exact ⟨_, rfl, ⟨by omega, by omega⟩, by omega⟩
    · simp (maxSteps := 1000000) (disch := omega) only [go_sem, eq_self, decide_true, decide_false, not_true_eq_false, not_false_eq_true, reduceIte, reduceCtorEq, Nat.reduceEqDiff, Nat.reduceAdd, Nat.reduceSub, Nat.reduceLeDiff]
      refine CALL_det ready_fc (.inl rfl) ?_
      simp (maxSteps := 1000000) (disch := omega) only [go_sem, eq_self, decide_true, decide_false, not_true_eq_false, not_false_eq_true, reduceIte, reduceCtorEq, Nat.reduceEqDiff, Nat.reduceAdd, Nat.reduceSub, Nat.reduceLeDiff]
theorem aww_own : ownKnob Try.prog.godebug = none := by kernel_rfl
theorem aww_laid : laidOutB Try.prog = true := by kernel_rfl
set_option maxRecDepth 100000 in
theorem aww_lifted (os : Os) (started : os.Started) (H : Type) (enc : TypeId × Value → H) :
    ReturnsInHanded {} Try.checked os 6 .any (Rows.activeWindowsPartSpec.pre6 enc Try.prog Try.f6 Rows.activeWindowsPartRow.domain false) (Rows.activeWindowsPartSpec.post enc Try.prog Try.f6 false true false false) := by
  refine returnsInHanded_of_change (C := Try.checked) aww_own started (by kernel_rfl) Try.func6
    (ChangeSpec.witness6 (enc := enc) (C := Try.checked) false ⟨#[], #[.slice none 0 0], []⟩ 8 (by kernel_rfl) (by kernel_rfl) (by kernel_rfl) (by kernel_rfl)) ?_
  intro W base args ds gs before hval hW _ _
  exact law_contract (P := Try.prog) (fun L h1 h2 => aww_fc L h1 h2) (fun _ _ => rfl) rfl rfl rfl aww_laid (by kernel_rfl) (of_decide_eq_true (by kernel_rfl)) Try.underlying22 Try.underlying3 (by kernel_rfl) Try.underlying4 W base args ds gs before hval hW
theorem aww_over : Rows.activeWindowsPartRow.holds Try.pinned (OpenSpec.ofChange Rows.activeWindowsPartSpec) :=
  OpenClaim.holds_of_wide 6 Try.f6 rfl rfl rfl rfl rfl rfl rfl ⟨rfl, rfl, rfl, rfl, rfl⟩ rfl rfl rfl rfl rfl (by kernel_rfl) Try.func6 (by kernel_rfl)
    (of_decide_eq_true (by kernel_rfl)) (by unfold Func.isWrapper; first | (rw [if_pos (by decide +kernel)]; kernel_rfl) | (rw [if_neg (by decide +kernel)]; exact ⟨rfl, rfl⟩))
    (fun os started H enc _ => aww_lifted os started H enc)
theorem active_windows_part : Rows.ActiveWindowsPartSaid := aww_over
end Go.Proofs.Ytmbpfhpdicjpcaa

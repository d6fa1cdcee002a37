
/-
  ConditionsHold: the walk.
-/
import Derived.Test.YtggbcgldnjmobaaDoorRdb
import Derived.Test.YtggbcgldnjmobaaDoorSom
import Derived.Test.YtggbcgldnjmobaaDoorGenB
namespace Go.Proofs.YtggbcgldnjmobaaDoor
open Go Go.Ai
set_option linter.unusedSimpArgs false
set_option linter.unusedVariables false
set_option maxHeartbeats 4000000
def A_eqWin : List Ann := [⟨(some ⟨[0,1], [], []⟩), [], [], [], []⟩, ⟨(some ⟨[0,1,10], [], []⟩), [], [], [], []⟩, ⟨(some ⟨[4], [], []⟩), [], [], [], []⟩, ⟨(some ⟨[0,1,12,13], [], []⟩), [], [], [], []⟩, ⟨(some ⟨[0,1,12,13,14], [], []⟩), [], [], [], []⟩, ⟨(some ⟨[0,1,5,12,13], [], []⟩), [], [], [], []⟩, ⟨(some ⟨[0,1,12,13,24], [], []⟩), [], [], [], []⟩, ⟨(some ⟨[4], [], []⟩), [], [], [], []⟩, ⟨(some ⟨[0,1,12,13], [], []⟩), [], [], [], []⟩, ⟨(some ⟨[4], [], []⟩), [], [], [], []⟩]
def C_eqWin : AC := (.seq (.reg false [⟨(some 4), none, .mv (.v (.bool false))⟩] (some ⟨[0,1], [], []⟩))
  (.seq (.seq (.reg false [⟨(some 6), none, .mv (.t 0)⟩, ⟨(some 7), none, .len (.t 6)⟩, ⟨(some 8), none, .mv (.t 1)⟩, ⟨(some 9), none, .len (.t 8)⟩, ⟨(some 10), none, .bin .neq (.t 7) (.t 9)⟩] (some ⟨[0,1,10], [], []⟩))
  (.cond (.t 10)
  (.seq (.reg false [⟨(some 4), none, .mv (.v (.bool false))⟩] (some ⟨[4], [], []⟩))
  .ret)
  .skip))
  (.seq (.seq (.reg false [⟨(some 11), none, .mv (.t 0)⟩, ⟨(some 12), none, .len (.t 11)⟩, ⟨(some 13), none, .mv (.v (.int .i64 (0)))⟩] (some ⟨[0,1,12,13], [], []⟩))
  (.block 0 (.loop (.seq (.reg false [⟨(some 14), none, .bin .lss (.t 13) (.t 12)⟩] (some ⟨[0,1,12,13,14], [], []⟩))
  (.seq (.cond (.t 14)
  .skip
  (.exit 0))
  (.seq (.block 1 (.seq (.reg false [⟨(some 15), none, .mv (.t 13)⟩, ⟨(some 5), none, .mv (.t 15)⟩] (some ⟨[0,1,5,12,13], [], []⟩))
  (.seq (.reg true [⟨(some 16), none, .mv (.t 0)⟩, ⟨(some 17), none, .mv (.t 5)⟩, ⟨(some 18), none, .iadr 2 (.t 16) (.t 17)⟩, ⟨(some 19), none, .load true 2 (.t 18)⟩, ⟨(some 20), none, .mv (.t 1)⟩, ⟨(some 21), none, .mv (.t 5)⟩, ⟨(some 22), none, .iadr 2 (.t 20) (.t 21)⟩, ⟨(some 23), none, .load true 2 (.t 22)⟩, ⟨(some 24), none, .eqs true true [.i .i64, .i .i64] (.t 19) (.t 23)⟩] (some ⟨[0,1,12,13,24], [], []⟩))
  (.cond (.t 24)
  (.seq (.reg false [⟨(some 4), none, .mv (.v (.bool false))⟩] (some ⟨[4], [], []⟩))
  .ret)
  .skip))))
  (.reg false [⟨(some 25), none, .bin .add (.t 13) (.v (.int .i64 (1)))⟩, ⟨(some 13), none, .mv (.t 25)⟩] (some ⟨[0,1,12,13], [], []⟩))))))))
  (.seq (.reg false [⟨(some 4), none, .mv (.v (.bool true))⟩] (some ⟨[4], [], []⟩))
  .ret))))
theorem c_eqWin : compileCode Tryd.prog Tryd.f15.ntmps (Tryd.f15.body.getD .skip) A_eqWin = some (C_eqWin, []) := by kernel_rfl
theorem r_eqWin : compileRes Tryd.prog Tryd.f15.results.toList = some [.t 4] := by kernel_rfl
theorem b_eqWin : Tryd.f15.body = some (Tryd.f15.body.getD .skip) := by kernel_rfl
theorem n_eqWin : (Tryd.f15.name == "runtime.NumGoroutine") = false := by kernel_rfl
theorem fc_eqWin {xt : Option (List Cel)} {args : List Val} {R : List Cel → Val → Prop} (hn : (if xt.isSome then 1 else 0) + args.length ≤ Tryd.f15.ntmps) (h : ex Tryd.prog C_eqWin [] (fpost xt [.t 4] R) (initSt xt args)) : FC Tryd.prog 15 xt args R :=
  fc_of_awp Tryd.func15 b_eqWin n_eqWin c_eqWin r_eqWin (of_decide_eq_true (by kernel_rfl)) hn h

def A_alarmed : List Ann := [⟨(some ⟨[], [], []⟩), [], [], [], []⟩, ⟨(some ⟨[1,2], [], []⟩), [], [], [], []⟩, ⟨(some ⟨[0], [], []⟩), [], [], [], []⟩]
def C_alarmed : AC := (.seq (.reg false [⟨(some 0), none, .mv (.v (.bool false))⟩] (some ⟨[], [], []⟩))
  (.seq (.reg false [⟨(some 4), none, .build [(.string (ByteArray.mk #[])), (.string (ByteArray.mk #[])), (.int .i64 (0)), (.int .i64 (0)), (.int .i64 (0)), (.int .i64 (0)), (.int .i64 (0)), (.int .i64 (0)), (.bool false), (.string (ByteArray.mk #[]))] [(0, 1, (.v (.string (ByteArray.mk #[97])))), (1, 1, (.v (.string (ByteArray.mk #[116])))), (2, 1, (.v (.int .i64 (1)))), (3, 1, (.v (.int .i64 (5)))), (7, 1, (.v (.int .i64 (1))))]⟩, ⟨(some 5), none, .build [(.int .i64 (0)), (.int .i64 (0)), (.int .i64 (0))] [(0, 1, (.v (.int .i64 (3)))), (1, 1, (.v (.int .i64 (6))))]⟩, ⟨(some 6), none, .bslice 3 1 [(.t 5)]⟩, ⟨(some 7), none, .call (.f 13) [(.t 4), (.t 6), (.v (.int .i64 (9)))]⟩, ⟨(some 3), none, .mv (.t 7)⟩, ⟨(some 8), none, .extr (.t 3) 0⟩, ⟨(some 9), none, .extr (.t 3) 1⟩, ⟨(some 1), none, .mv (.t 8)⟩, ⟨(some 2), none, .mv (.t 9)⟩] (some ⟨[1,2], [], []⟩))
  (.seq (.reg false [⟨(some 10), none, .mv (.t 2)⟩, ⟨(some 11), none, .bin .eql (.t 10) (.v (.int .i64 (0)))⟩, ⟨(some 12), none, .mv (.t 11)⟩, ⟨(some 13), (some (12, true)), .mv (.t 1)⟩, ⟨(some 14), (some (12, true)), .build [(.int .i64 (0)), (.int .i64 (0))] [(0, 1, (.v (.int .i64 (3)))), (1, 1, (.v (.int .i64 (9))))]⟩, ⟨(some 15), (some (12, true)), .bslice 2 1 [(.t 14)]⟩, ⟨(some 16), (some (12, true)), .call (.f 15) [(.t 13), (.t 15)]⟩, ⟨(some 17), none, .pick (.t 12) (.t 16) (.v (.bool false))⟩, ⟨(some 0), none, .mv (.t 17)⟩] (some ⟨[0], [], []⟩))
  .ret)))
theorem c_alarmed : compileCode Tryd.prog Tryd.f18.ntmps (Tryd.f18.body.getD .skip) A_alarmed = some (C_alarmed, []) := by kernel_rfl
theorem r_alarmed : compileRes Tryd.prog Tryd.f18.results.toList = some [.t 0] := by kernel_rfl
theorem b_alarmed : Tryd.f18.body = some (Tryd.f18.body.getD .skip) := by kernel_rfl
theorem n_alarmed : (Tryd.f18.name == "runtime.NumGoroutine") = false := by kernel_rfl
theorem fc_alarmed {xt : Option (List Cel)} {args : List Val} {R : List Cel → Val → Prop} (hn : (if xt.isSome then 1 else 0) + args.length ≤ Tryd.f18.ntmps) (h : ex Tryd.prog C_alarmed [] (fpost xt [.t 0] R) (initSt xt args)) : FC Tryd.prog 18 xt args R :=
  fc_of_awp Tryd.func18 b_alarmed n_alarmed c_alarmed r_alarmed (of_decide_eq_true (by kernel_rfl)) hn h

def A_con : List Ann := [⟨(some ⟨[0], [], []⟩), [], [], [], []⟩, ⟨(some ⟨[3,18], [18], []⟩), [], [], [], []⟩, ⟨(some ⟨[3,4,18], [4,18], []⟩), [], [], [], []⟩, ⟨(some ⟨[3,4,18,45], [4,18], []⟩), [], [], [], []⟩, ⟨(some ⟨[3,4,18], [4,18], []⟩), [], [], [], []⟩, ⟨(some ⟨[3,4,18,49], [4,18], []⟩), [], [], [], []⟩, ⟨(some ⟨[3,4,18], [4,18], []⟩), [], [], [], []⟩, ⟨(some ⟨[4,5,6,7], [4], []⟩), [], [], [], []⟩, ⟨(some ⟨[4,5,6,7,8], [4], []⟩), [], [], [], []⟩, ⟨(some ⟨[4,5,6,7,8,9,10], [4], []⟩), [], [], [], []⟩, ⟨(some ⟨[4,5,6,7,8,9,10,11,12,13], [4], []⟩), [], [], [], []⟩, ⟨(some ⟨[4,5,6,7,11,12,13,116], [4], []⟩), [], [], [], []⟩, ⟨(some ⟨[2], [], []⟩), [], [], [], []⟩, ⟨(some ⟨[4,5,6,7,11,12,13,14], [4], []⟩), [], [], [], []⟩, ⟨(some ⟨[4,5,6,7,11,12,13,14,123], [4], []⟩), [], [], [], []⟩, ⟨(some ⟨[2], [], []⟩), [], [], [], []⟩, ⟨(some ⟨[11,12,13,15], [], []⟩), [], [], [], []⟩, ⟨(some ⟨[2], [], []⟩), [], [], [], []⟩]
def C_con : AC := (.seq (.reg false [⟨(some 2), none, .mv (.v (.bool false))⟩] (some ⟨[0], [], []⟩))
  (.seq (.reg false [⟨(some 16), none, .mv (.t 0)⟩, ⟨(some 17), none, .build [(.slice none 0 0), (.int .i64 (0))] [(0, 1, (.t 16))]⟩, ⟨(some 18), none, .box (.t 17)⟩, ⟨(some 3), none, .mv (.t 18)⟩] (some ⟨[3,18], [18], []⟩))
  (.seq (.reg false [⟨(some 19), none, .mv (.t 3)⟩, ⟨(some 20), none, .bslice 1 4 [(.v (.int .i64 (1))), (.v (.int .i64 (1))), (.v (.int .i64 (2))), (.v (.int .i64 (3)))]⟩, ⟨(some 21), none, .callx (.f 4) [(.t 19), (.t 20)]⟩, ⟨(some 22), none, .mv (.t 3)⟩, ⟨(some 23), none, .bslice 1 2 [(.v (.int .i64 (3))), (.v (.int .i64 (5)))]⟩, ⟨(some 24), none, .callx (.f 4) [(.t 22), (.t 23)]⟩, ⟨(some 25), none, .mv (.t 3)⟩, ⟨(some 26), none, .bslice 1 3 [(.v (.int .i64 (0))), (.v (.int .i64 (0))), (.v (.int .i64 (2)))]⟩, ⟨(some 27), none, .callx (.f 4) [(.t 25), (.t 26)]⟩, ⟨(some 28), none, .mv (.t 3)⟩, ⟨(some 29), none, .bslice 1 3 [(.v (.int .i64 (0))), (.v (.int .i64 (5))), (.v (.int .i64 (20)))]⟩, ⟨(some 30), none, .callx (.f 4) [(.t 28), (.t 29)]⟩, ⟨(some 31), none, .mv (.t 3)⟩, ⟨(some 32), none, .bslice 1 2 [(.v (.int .i64 (0))), (.v (.int .i64 (5)))]⟩, ⟨(some 33), none, .callx (.f 4) [(.t 31), (.t 32)]⟩, ⟨(some 34), none, .mv (.t 3)⟩, ⟨(some 35), none, .bslice 1 2 [(.v (.string (ByteArray.mk #[]))), (.v (.string (ByteArray.mk #[122, 122])))]⟩, ⟨(some 36), none, .callx (.f 5) [(.t 34), (.t 35)]⟩, ⟨(some 37), none, .build [(.string (ByteArray.mk #[])), (.string (ByteArray.mk #[])), (.int .i64 (0)), (.int .i64 (0)), (.int .i64 (0)), (.int .i64 (0)), (.int .i64 (0)), (.int .i64 (0)), (.bool false), (.string (ByteArray.mk #[]))] [(0, 1, (.v (.string (ByteArray.mk #[97, 49])))), (1, 1, (.v (.string (ByteArray.mk #[116])))), (2, 1, (.t 21)), (3, 1, (.t 24)), (4, 1, (.t 27)), (5, 1, (.t 30)), (6, 1, (.t 33)), (7, 1, (.v (.int .i64 (1)))), (9, 1, (.t 36))]⟩, ⟨(some 4), none, .alloc [(.string (ByteArray.mk #[])), (.string (ByteArray.mk #[])), (.int .i64 (0)), (.int .i64 (0)), (.int .i64 (0)), (.int .i64 (0)), (.int .i64 (0)), (.int .i64 (0)), (.bool false), (.string (ByteArray.mk #[]))]⟩, ⟨none, none, .store 10 (.t 4) (.t 37)⟩] (some ⟨[3,4,18], [4,18], []⟩))
  (.seq (.seq (.reg false [⟨(some 38), none, .fadr 2 (.t 4)⟩, ⟨(some 39), none, .load false 1 (.t 38)⟩, ⟨(some 40), none, .bin .eql (.t 39) (.v (.int .i64 (3)))⟩, ⟨(some 41), none, .mv (.t 40)⟩, ⟨(some 42), (some (41, true)), .mv (.t 3)⟩, ⟨(some 43), (some (41, true)), .callx (.f 6) [(.t 42), (.v (.int .i64 (8)))]⟩, ⟨(some 44), (some (41, true)), .un .not (.t 43)⟩, ⟨(some 45), none, .pick (.t 41) (.t 44) (.v (.bool false))⟩] (some ⟨[3,4,18,45], [4,18], []⟩))
  (.cond (.t 45)
  (.reg false [⟨(some 46), none, .fadr 3 (.t 4)⟩, ⟨none, none, .store 1 (.t 46) (.v (.int .i64 (0)))⟩, ⟨(some 47), none, .fadr 4 (.t 4)⟩, ⟨none, none, .store 1 (.t 47) (.v (.int .i64 (0)))⟩] (some ⟨[3,4,18], [4,18], []⟩))
  .skip))
  (.seq (.seq (.reg false [⟨(some 48), none, .mv (.t 3)⟩, ⟨(some 49), none, .callx (.f 6) [(.t 48), (.v (.int .i64 (15)))]⟩] (some ⟨[3,4,18,49], [4,18], []⟩))
  (.cond (.t 49)
  (.reg false [⟨(some 50), none, .mv (.t 3)⟩, ⟨(some 51), none, .bslice 1 2 [(.v (.string (ByteArray.mk #[97, 49]))), (.v (.string (ByteArray.mk #[])))]⟩, ⟨(some 52), none, .callx (.f 5) [(.t 50), (.t 51)]⟩, ⟨(some 53), none, .mv (.t 3)⟩, ⟨(some 54), none, .callx (.f 7) [(.t 53), (.v (.int .i64 (0))), (.v (.int .i64 (86400000)))]⟩, ⟨(some 55), none, .mv (.t 3)⟩, ⟨(some 56), none, .callx (.f 7) [(.t 55), (.v (.int .i64 (1))), (.v (.int .i64 (1000)))]⟩, ⟨(some 57), none, .fadr 0 (.t 4)⟩, ⟨none, none, .store 1 (.t 57) (.t 52)⟩, ⟨(some 58), none, .fadr 5 (.t 4)⟩, ⟨none, none, .store 1 (.t 58) (.t 54)⟩, ⟨(some 59), none, .fadr 7 (.t 4)⟩, ⟨none, none, .store 1 (.t 59) (.t 56)⟩] (some ⟨[3,4,18], [4,18], []⟩))
  .skip))
  (.seq (.reg false [⟨(some 60), none, .mv (.t 3)⟩, ⟨(some 61), none, .callx (.f 8) [(.t 60), (.v (.int .i64 (12)))]⟩, ⟨(some 62), none, .mv (.t 3)⟩, ⟨(some 63), none, .bslice 1 6 [(.v (.int .i64 (0))), (.v (.int .i64 (20))), (.v (.int .i64 (60))), (.v (.int .i64 (200))), (.v (.int .i64 (345686400000))), (.v (.int .i64 (-1)))]⟩, ⟨(some 64), none, .callx (.f 4) [(.t 62), (.t 63)]⟩, ⟨(some 65), none, .mv (.t 3)⟩, ⟨(some 66), none, .bslice 1 4 [(.v (.int .i64 (1))), (.v (.int .i64 (1))), (.v (.int .i64 (2))), (.v (.int .i64 (0)))]⟩, ⟨(some 67), none, .callx (.f 4) [(.t 65), (.t 66)]⟩, ⟨(some 5), none, .mv (.t 61)⟩, ⟨(some 6), none, .mv (.t 64)⟩, ⟨(some 7), none, .mv (.t 67)⟩] (some ⟨[4,5,6,7], [4], []⟩))
  (.seq (.reg false [⟨(some 68), none, .load true 10 (.t 4)⟩, ⟨(some 69), none, .call (.f 10) [(.t 68)]⟩, ⟨(some 70), none, .mv (.t 5)⟩, ⟨(some 71), none, .call (.f 11) [(.t 70)]⟩, ⟨(some 72), none, .mv (.t 6)⟩, ⟨(some 73), none, .call (.f 12) [(.t 72), (.v (.int .i64 (0))), (.v (.int .i64 (345686400000)))]⟩, ⟨(some 74), none, .bslice 1 3 [(.t 69), (.t 71), (.t 73)]⟩, ⟨(some 75), none, .call (.f 9) [(.t 74)]⟩, ⟨(some 8), none, .mv (.t 75)⟩] (some ⟨[4,5,6,7,8], [4], []⟩))
  (.seq (.reg false [⟨(some 77), none, .load true 10 (.t 4)⟩, ⟨(some 78), none, .mv (.t 5)⟩, ⟨(some 79), none, .mv (.t 6)⟩, ⟨(some 80), none, .call (.f 13) [(.t 77), (.t 78), (.t 79)]⟩, ⟨(some 76), none, .mv (.t 80)⟩, ⟨(some 81), none, .extr (.t 76) 0⟩, ⟨(some 82), none, .extr (.t 76) 1⟩, ⟨(some 9), none, .mv (.t 81)⟩, ⟨(some 10), none, .mv (.t 82)⟩] (some ⟨[4,5,6,7,8,9,10], [4], []⟩))
  (.seq (.reg false [⟨(some 84), none, .load true 10 (.t 4)⟩, ⟨(some 85), none, .mv (.t 5)⟩, ⟨(some 86), none, .mv (.t 6)⟩, ⟨(some 87), none, .mv (.t 7)⟩, ⟨(some 88), none, .call (.f 14) [(.t 84), (.t 85), (.t 86), (.t 87)]⟩, ⟨(some 83), none, .mv (.t 88)⟩, ⟨(some 89), none, .extr (.t 83) 0⟩, ⟨(some 90), none, .extr (.t 83) 1⟩, ⟨(some 91), none, .extr (.t 83) 2⟩, ⟨(some 11), none, .mv (.t 89)⟩, ⟨(some 12), none, .mv (.t 90)⟩, ⟨(some 13), none, .mv (.t 91)⟩] (some ⟨[4,5,6,7,8,9,10,11,12,13], [4], []⟩))
  (.seq (.seq (.reg false [⟨(some 92), none, .mv (.t 10)⟩, ⟨(some 93), none, .mv (.t 8)⟩, ⟨(some 94), none, .bin .neq (.t 92) (.t 93)⟩, ⟨(some 95), none, .mv (.t 94)⟩, ⟨(some 96), (some (95, false)), .mv (.t 8)⟩, ⟨(some 97), (some (95, false)), .bin .eql (.t 96) (.v (.int .i64 (0)))⟩, ⟨(some 98), (some (95, false)), .mv (.t 97)⟩, ⟨(some 99), (some (98, true)), .mv (.t 9)⟩, ⟨(some 100), (some (98, true)), .load true 10 (.t 4)⟩, ⟨(some 101), (some (98, true)), .mv (.t 5)⟩, ⟨(some 102), (some (98, true)), .mv (.t 6)⟩, ⟨(some 103), (some (98, true)), .call (.f 16) [(.t 100), (.t 101), (.t 102)]⟩, ⟨(some 104), (some (98, true)), .call (.f 15) [(.t 99), (.t 103)]⟩, ⟨(some 105), (some (98, true)), .un .not (.t 104)⟩, ⟨(some 106), (some (95, false)), .pick (.t 98) (.t 105) (.v (.bool false))⟩, ⟨(some 107), none, .pick (.t 95) (.v (.bool true)) (.t 106)⟩, ⟨(some 108), none, .mv (.t 107)⟩, ⟨(some 109), (some (108, false)), .mv (.t 8)⟩, ⟨(some 110), (some (108, false)), .bin .neq (.t 109) (.v (.int .i64 (0)))⟩, ⟨(some 111), (some (108, false)), .mv (.t 110)⟩, ⟨(some 112), (some (111, true)), .mv (.t 9)⟩, ⟨(some 113), (some (111, true)), .len (.t 112)⟩, ⟨(some 114), (some (111, true)), .bin .gtr (.t 113) (.v (.int .i64 (0)))⟩, ⟨(some 115), (some (108, false)), .pick (.t 111) (.t 114) (.v (.bool false))⟩, ⟨(some 116), none, .pick (.t 108) (.v (.bool true)) (.t 115)⟩] (some ⟨[4,5,6,7,11,12,13,116], [4], []⟩))
  (.cond (.t 116)
  (.seq (.reg false [⟨(some 2), none, .mv (.v (.bool false))⟩] (some ⟨[2], [], []⟩))
  .ret)
  .skip))
  (.seq (.reg false [⟨(some 117), none, .load true 10 (.t 4)⟩, ⟨(some 118), none, .mv (.t 5)⟩, ⟨(some 119), none, .mv (.t 6)⟩, ⟨(some 120), none, .mv (.t 7)⟩, ⟨(some 121), none, .call (.f 17) [(.t 117), (.t 118), (.t 119), (.t 120)]⟩, ⟨(some 14), none, .mv (.t 121)⟩] (some ⟨[4,5,6,7,11,12,13,14], [4], []⟩))
  (.seq (.seq (.reg false [⟨(some 122), none, .mv (.t 14)⟩, ⟨(some 123), none, .bin .neq (.t 122) (.v (.int .i64 (0)))⟩] (some ⟨[4,5,6,7,11,12,13,14,123], [4], []⟩))
  (.cond (.t 123)
  (.seq (.reg false [⟨(some 124), none, .mv (.t 13)⟩, ⟨(some 125), none, .mv (.t 14)⟩, ⟨(some 126), none, .bin .eql (.t 124) (.t 125)⟩, ⟨(some 127), none, .mv (.t 126)⟩, ⟨(some 128), (some (127, true)), .mv (.t 11)⟩, ⟨(some 129), (some (127, true)), .bin .eql (.t 128) (.v (.int .i64 (0)))⟩, ⟨(some 130), none, .pick (.t 127) (.t 129) (.v (.bool false))⟩, ⟨(some 131), none, .mv (.t 130)⟩, ⟨(some 132), (some (131, true)), .mv (.t 12)⟩, ⟨(some 133), (some (131, true)), .un .not (.t 132)⟩, ⟨(some 134), none, .pick (.t 131) (.t 133) (.v (.bool false))⟩, ⟨(some 135), none, .mv (.t 134)⟩, ⟨(some 136), (some (135, true)), .call (.f 18) []⟩, ⟨(some 137), none, .pick (.t 135) (.t 136) (.v (.bool false))⟩, ⟨(some 2), none, .mv (.t 137)⟩] (some ⟨[2], [], []⟩))
  .ret)
  .skip))
  (.seq (.reg false [⟨(some 138), none, .load true 10 (.t 4)⟩, ⟨(some 139), none, .mv (.t 5)⟩, ⟨(some 140), none, .mv (.t 6)⟩, ⟨(some 141), none, .mv (.t 7)⟩, ⟨(some 142), none, .call (.f 19) [(.t 138), (.t 139), (.t 140), (.t 141)]⟩, ⟨(some 15), none, .mv (.t 142)⟩] (some ⟨[11,12,13,15], [], []⟩))
  (.seq (.reg false [⟨(some 143), none, .mv (.t 13)⟩, ⟨(some 144), none, .bin .eql (.t 143) (.v (.int .i64 (0)))⟩, ⟨(some 145), none, .mv (.t 144)⟩, ⟨(some 146), (some (145, true)), .mv (.t 12)⟩, ⟨(some 147), (some (145, true)), .mv (.t 15)⟩, ⟨(some 148), (some (145, true)), .bin .geq (.t 147) (.v (.int .i64 (0)))⟩, ⟨(some 149), (some (145, true)), .eqs false false [.b] (.t 146) (.t 148)⟩, ⟨(some 150), none, .pick (.t 145) (.t 149) (.v (.bool false))⟩, ⟨(some 151), none, .mv (.t 150)⟩, ⟨(some 152), (some (151, true)), .mv (.t 11)⟩, ⟨(some 153), (some (151, true)), .mv (.t 15)⟩, ⟨(some 154), (some (151, true)), .mnx true (.t 153) (.v (.int .i64 (0)))⟩, ⟨(some 155), (some (151, true)), .bin .eql (.t 152) (.t 154)⟩, ⟨(some 156), none, .pick (.t 151) (.t 155) (.v (.bool false))⟩, ⟨(some 157), none, .mv (.t 156)⟩, ⟨(some 158), (some (157, true)), .call (.f 18) []⟩, ⟨(some 159), none, .pick (.t 157) (.t 158) (.v (.bool false))⟩, ⟨(some 2), none, .mv (.t 159)⟩] (some ⟨[2], [], []⟩))
  .ret))))))))))))))
theorem c_con : compileCode Tryd.prog Tryd.f3.ntmps (Tryd.f3.body.getD .skip) A_con = some (C_con, []) := by kernel_rfl
theorem r_con : compileRes Tryd.prog Tryd.f3.results.toList = some [.t 2] := by kernel_rfl
theorem b_con : Tryd.f3.body = some (Tryd.f3.body.getD .skip) := by kernel_rfl
theorem n_con : (Tryd.f3.name == "runtime.NumGoroutine") = false := by kernel_rfl
theorem fc_con {xt : Option (List Cel)} {args : List Val} {R : List Cel → Val → Prop} (hn : (if xt.isSome then 1 else 0) + args.length ≤ Tryd.f3.ntmps) (h : ex Tryd.prog C_con [] (fpost xt [.t 2] R) (initSt xt args)) : FC Tryd.prog 3 xt args R :=
  fc_of_awp Tryd.func3 b_con n_con c_con r_con (of_decide_eq_true (by kernel_rfl)) hn h


def eqWSt (fr fr' : Bool) (l : List (Int × Int)) (i : Int) : AS := ⟨tabV [(0, frsV fr l), (1, frsV fr' l), (12, iv l.length), (13, iv i)], tabO [], tabO []⟩
theorem eqWin_fc (fr fr' : Bool) (l : List (Int × Int)) (hl : l.length ≤ 4611686018427387904) : FC Tryd.prog 15 none [frsV fr l, frsV fr' l] (fun _ r => r = bv true) := by
  refine fc_eqWin (by simp +arith) ?_
  unfold C_eqWin
  simp (maxSteps := 1000000) (disch := omega) only [go_sem, eq_self, decide_true, decide_false, not_true_eq_false, not_false_eq_true, reduceIte, reduceCtorEq, Nat.reduceEqDiff, Nat.reduceAdd, Nat.reduceSub, Nat.reduceLeDiff]
  refine ex_loop1 (eqWSt fr fr' l) (fun i => 0 ≤ i ∧ i ≤ l.length) (fun i => (l.length - i).toNat) 0 ⟨by omega, by omega⟩ rfl ?_
  rintro i ⟨g1, g2⟩
  unfold eqWSt
  by_cases hi : i < l.length
  · simp (maxSteps := 1000000) (disch := omega) only [go_sem, eq_self, decide_true, decide_false, not_true_eq_false, not_false_eq_true, reduceIte, reduceCtorEq, Nat.reduceEqDiff, Nat.reduceAdd, Nat.reduceSub, Nat.reduceLeDiff]
    exact ⟨_, rfl, ⟨by omega, by omega⟩, by omega⟩
  · simp (maxSteps := 1000000) (disch := omega) only [go_sem, eq_self, decide_true, decide_false, not_true_eq_false, not_false_eq_true, reduceIte, reduceCtorEq, Nat.reduceEqDiff, Nat.reduceAdd, Nat.reduceSub, Nat.reduceLeDiff]
theorem alarmed_fc : FC Tryd.prog 18 none [] (fun _ r => r = bv true) := by
  refine fc_alarmed (by simp +arith) ?_
  unfold C_alarmed
  simp (maxSteps := 1000000) (disch := omega) only [go_sem, eq_self, decide_true, decide_false, not_true_eq_false, not_false_eq_true, reduceIte, reduceCtorEq, Nat.reduceEqDiff, Nat.reduceAdd, Nat.reduceSub, Nat.reduceLeDiff]
  refine CALL_det (activeP_fc (ByteArray.mk #[97]) (ByteArray.mk #[116]) (ByteArray.mk #[]) false (of_decide_eq_true (by kernel_rfl)) (of_decide_eq_true (by kernel_rfl)) 1 5 0 0 0 1 9 [⟨3, 6, 0⟩] (by simp)) (.inl rfl) ?_
  have e3 : actSp (keyOk (ByteArray.mk #[97]) && keyOk (ByteArray.mk #[116])) 1 5 0 0 0 1 [⟨3, 6, 0⟩] 9 = ([(3, 9)], 0) := by kernel_rfl
  rw [e3]
  simp (maxSteps := 1000000) (disch := omega) only [go_sem, eq_self, decide_true, decide_false, not_true_eq_false, not_false_eq_true, reduceIte, reduceCtorEq, Nat.reduceEqDiff, Nat.reduceAdd, Nat.reduceSub, Nat.reduceLeDiff]
  refine CALL_det (eqWin_fc false false [(3, 9)] (by simp)) (.inl rfl) ?_
  simp (maxSteps := 1000000) (disch := omega) only [go_sem, eq_self, decide_true, decide_false, not_true_eq_false, not_false_eq_true, reduceIte, reduceCtorEq, Nat.reduceEqDiff, Nat.reduceAdd, Nat.reduceSub, Nat.reduceLeDiff]
def acL : AC → AC
  | .seq a _ => a
  | c => c
def acR : AC → AC
  | .seq _ b => b
  | c => c
/-- What is done when all is drawn but the samples and the moments. -/
def C_tail : AC := acR (acR (acR (acR (acR C_con))))
theorem con_eq : C_con = .seq (acL C_con) (.seq (acL (acR C_con)) (.seq (acL (acR (acR C_con))) (.seq (acL (acR (acR (acR C_con)))) (.seq (acL (acR (acR (acR (acR C_con))))) C_tail)))) := rfl
theorem span_unF {kk : Bool} {kd lim db on off pr un : Int} {l : List Smp} : orSp [almG kk kd lim db on off pr, serFault l, if 0 ≤ un ∧ un ≤ 345686400000 then 0 else 1] = unF kk kd lim db on off pr l un := by
  unfold unF
  generalize almG kk kd lim db on off pr = a
  generalize serFault l = b
  simp only [orSp]
  by_cases h1 : a = 0 <;> by_cases h2 : b = 0 <;> by_cases h3 : 0 ≤ un ∧ un ≤ 345686400000 <;> simp [h1, h2, h3] <;> omega
theorem dbF_nonneg {kd lim on off un many : Int} {l : List Smp} {d : Int} (h : dbF kd lim on off un many l (dbC kd lim l) = some d) : 0 ≤ d := by
  unfold dbF at h
  have h1 := List.mem_of_find?_eq_some h
  unfold dbC at h1
  rw [cpt_mem, srtI_mem] at h1
  exact (trN_rng kd lim l _ d h1).1
def tB : ByteArray := ByteArray.mk #[116]
def tlSt (L : List Int) (kb pb : ByteArray) (kd lim db on off pr p : Int) (b : Bool) : AS := ⟨tabV [(3, .one (.bx 18 0)), (4, .one (.bx 4 0)), (18, .one (.bx 18 0)), (49, bv b)], tabO [(4, almC kb tB pb false kd lim db on off pr), (18, [Cel.sl false 1 (List.map intC L), .g (.int .i64 p)])], tabO []⟩
set_option maxHeartbeats 12000000 in
set_option maxRecDepth 8000 in
theorem tail_ok (L : List Int) (hL : ∀ x ∈ L, I64 x) (hl : L.length ≤ 9223372036854775807) (kb pb : ByteArray) (hkb : kb.size ≤ 9223372036854775807) (kd lim db on off pr p : Int) (hp : 0 ≤ p ∧ p ≤ 1000) (b : Bool) : ex Tryd.prog C_tail [] (fpost none [RV.t 2] fun x r => r = bv true) (tlSt L kb pb kd lim db on off pr p b) := by
  unfold C_tail
  simp only [C_con, acR]
  unfold tlSt almC
  simp (maxSteps := 1000000) (disch := omega) only [go_sem, eq_self, decide_true, decide_false, not_true_eq_false, not_false_eq_true, reduceIte, reduceCtorEq, Nat.reduceEqDiff, Nat.reduceAdd, Nat.reduceSub, Nat.reduceLeDiff]
  refine callx_gen (curve_fc 12 (by omega) (by omega)) hL hl (by omega) (by omega) ⟨_, [], by simp, by simp, rfl⟩ ?_
  rintro pa r ha1 ha2 ⟨l, hlm, h64, rfl⟩
  refine ⟨rfl, ?_⟩
  unfold strm
  simp (maxSteps := 1000000) (disch := omega) only [go_sem, eq_self, decide_true, decide_false, not_true_eq_false, not_false_eq_true, reduceIte, reduceCtorEq, Nat.reduceEqDiff, Nat.reduceAdd, Nat.reduceSub, Nat.reduceLeDiff]
  refine callx_gen (pick_fc false [0, 20, 60, 200, 345686400000, -1] (by simp) (by simp)) hL hl (by omega) (by omega) ⟨_, 0, by simp, rfl⟩ ?_
  rintro pu r hau hbu ⟨zu, hzu, rfl⟩
  refine ⟨rfl, ?_⟩
  unfold strm
  simp only [List.mem_cons, List.not_mem_nil, or_false] at hzu
  simp (maxSteps := 1000000) (disch := omega) only [go_sem, eq_self, decide_true, decide_false, not_true_eq_false, not_false_eq_true, reduceIte, reduceCtorEq, Nat.reduceEqDiff, Nat.reduceAdd, Nat.reduceSub, Nat.reduceLeDiff]
  refine callx_gen (pick_fc false [1, 1, 2, 0] (by simp) (by simp)) hL hl (by omega) (by omega) ⟨_, 1, by simp, rfl⟩ ?_
  rintro pm r ham hbm ⟨zm, hzm, rfl⟩
  refine ⟨rfl, ?_⟩
  unfold strm
  simp only [List.mem_cons, List.not_mem_nil, or_false] at hzm
  simp (maxSteps := 1000000) (disch := omega) only [go_sem, eq_self, decide_true, decide_false, not_true_eq_false, not_false_eq_true, reduceIte, reduceCtorEq, Nat.reduceEqDiff, Nat.reduceAdd, Nat.reduceSub, Nat.reduceLeDiff]
  have hll : l.length ≤ 4611686018427387904 := by omega
  have htb : tB.size ≤ 9223372036854775807 := of_decide_eq_true (by kernel_rfl)
  have c1 := ralmP_fc kb tB pb false hkb htb kd lim db on off pr
  have c2 := seriesFault_fc l hll
  have c3 := spanFault1_fc zu 0 345686400000
  have c4 := orE_fc false [almG (keyOk kb && keyOk tB) kd lim db on off pr, serFault l, if 0 ≤ zu ∧ zu ≤ 345686400000 then 0 else 1] (by simp)
  have c5 := activeP_fc kb tB pb false hkb htb kd lim db on off pr zu l hll
  have c6 := dbd_fc kb tB pb false hkb htb kd lim db on off pr zu zm l hll
  have c7 := rdbf_fc kb tB pb false hkb htb kd lim db on off pr zu zm l hll
  rw [span_unF] at c4
  generalize (keyOk kb && keyOk tB) = kk at *
  refine CALL_det c1 (.inl rfl) ?_
  simp (maxSteps := 1000000) (disch := omega) only [go_sem, eq_self, decide_true, decide_false, not_true_eq_false, not_false_eq_true, reduceIte, reduceCtorEq, Nat.reduceEqDiff, Nat.reduceAdd, Nat.reduceSub, Nat.reduceLeDiff]
  refine CALL_det c2 (.inl rfl) ?_
  simp (maxSteps := 1000000) (disch := omega) only [go_sem, eq_self, decide_true, decide_false, not_true_eq_false, not_false_eq_true, reduceIte, reduceCtorEq, Nat.reduceEqDiff, Nat.reduceAdd, Nat.reduceSub, Nat.reduceLeDiff]
  refine CALL_det c3 (.inl rfl) ?_
  simp (maxSteps := 1000000) (disch := omega) only [go_sem, eq_self, decide_true, decide_false, not_true_eq_false, not_false_eq_true, reduceIte, reduceCtorEq, Nat.reduceEqDiff, Nat.reduceAdd, Nat.reduceSub, Nat.reduceLeDiff]
  refine CALL_det c4 (.inl rfl) ?_
  simp (maxSteps := 1000000) (disch := omega) only [go_sem, eq_self, decide_true, decide_false, not_true_eq_false, not_false_eq_true, reduceIte, reduceCtorEq, Nat.reduceEqDiff, Nat.reduceAdd, Nat.reduceSub, Nat.reduceLeDiff]
  refine CALL_det c5 (.inl rfl) ?_
  by_cases hF : unF kk kd lim db on off pr l zu = 0
  · obtain ⟨f1, f2, f3⟩ := unF_ok hF
    obtain ⟨f4, f5⟩ := almG_ok f1
    obtain ⟨a1, a2, a3, a4, a5, a6⟩ := almF_ok f5
    have e5 : actSp kk kd lim db on off pr l zu = (actW kd lim db on off zu l, 0) := by unfold actSp; rw [if_neg (by omega)]
    have c8 := activeOf_fc kb tB pb false kd lim db on off pr zu l (good_of f2) a2 a3 a4 a5 f3
    have hal := act_len (kd := kd) (lim := lim) (db := db) (on := on) (off := off) (un := zu) l
    have c9 := eqWin_fc false false (actW kd lim db on off zu l) (by omega)
    rw [e5, hF]
    by_cases hD : dfF kk kd lim db on off pr l zu zm = 0
    · obtain ⟨g1, g2, g3, g4, g5⟩ := dfF_ok hD
      have hk : kd = 1 ∨ kd = 2 := by omega
      have e6 : dbdR kk kd lim db on off pr l zu zm = .tu [iv (dbR (dbF kd lim on off zu zm l (dbC kd lim l))).1, bv (dbR (dbF kd lim on off zu zm l (dbC kd lim l))).2, iv 0] := by unfold dbdR; rw [if_neg (by omega)]
      have c10 := rdb_fc kb tB pb false kd lim db on off pr zu zm l f2 hk f5 g4 g5
      have hnn := fun d => dbF_nonneg (kd := kd) (lim := lim) (on := on) (off := off) (un := zu) (many := zm) (l := l) (d := d)
      rw [e6] at c6
      rw [hD] at c7
      generalize actW kd lim db on off zu l = A at *
      cases hdb : dbF kd lim on off zu zm l (dbC kd lim l) with
      | some d =>
        have hd := hnn d hdb
        rw [hdb] at c6 c10
        simp only [dbR, rdbR] at c6 c10
        simp (maxSteps := 1000000) (disch := omega) only [go_sem, eq_self, decide_true, decide_false, not_true_eq_false, not_false_eq_true, reduceIte, reduceCtorEq, Nat.reduceEqDiff, Nat.reduceAdd, Nat.reduceSub, Nat.reduceLeDiff]
        refine CALL_det c6 (.inl rfl) ?_
        simp (maxSteps := 1000000) (disch := omega) only [go_sem, eq_self, decide_true, decide_false, not_true_eq_false, not_false_eq_true, reduceIte, reduceCtorEq, Nat.reduceEqDiff, Nat.reduceAdd, Nat.reduceSub, Nat.reduceLeDiff]
        refine CALL_det c8 (.inl rfl) ?_
        simp (maxSteps := 1000000) (disch := omega) only [go_sem, eq_self, decide_true, decide_false, not_true_eq_false, not_false_eq_true, reduceIte, reduceCtorEq, Nat.reduceEqDiff, Nat.reduceAdd, Nat.reduceSub, Nat.reduceLeDiff]
        refine CALL_det c9 (.inl rfl) ?_
        simp (maxSteps := 1000000) (disch := omega) only [go_sem, eq_self, decide_true, decide_false, not_true_eq_false, not_false_eq_true, reduceIte, reduceCtorEq, Nat.reduceEqDiff, Nat.reduceAdd, Nat.reduceSub, Nat.reduceLeDiff]
        refine CALL_det c7 (.inl rfl) ?_
        simp (maxSteps := 1000000) (disch := omega) only [go_sem, eq_self, decide_true, decide_false, not_true_eq_false, not_false_eq_true, reduceIte, reduceCtorEq, Nat.reduceEqDiff, Nat.reduceAdd, Nat.reduceSub, Nat.reduceLeDiff]
        refine CALL_det c10 (.inl rfl) ?_
        simp (maxSteps := 1000000) (disch := omega) only [go_sem, eq_self, decide_true, decide_false, not_true_eq_false, not_false_eq_true, reduceIte, reduceCtorEq, Nat.reduceEqDiff, Nat.reduceAdd, Nat.reduceSub, Nat.reduceLeDiff]
        refine ⟨fun _ => CALL_det alarmed_fc (.inl rfl) ?_, fun h => absurd (decide_eq_true hd).symm h⟩
        simp (maxSteps := 1000000) (disch := omega) only [go_sem, eq_self, decide_true, decide_false, not_true_eq_false, not_false_eq_true, reduceIte, reduceCtorEq, Nat.reduceEqDiff, Nat.reduceAdd, Nat.reduceSub, Nat.reduceLeDiff]
      | none =>
        rw [hdb] at c6 c10
        simp only [dbR, rdbR] at c6 c10
        simp (maxSteps := 1000000) (disch := omega) only [go_sem, eq_self, decide_true, decide_false, not_true_eq_false, not_false_eq_true, reduceIte, reduceCtorEq, Nat.reduceEqDiff, Nat.reduceAdd, Nat.reduceSub, Nat.reduceLeDiff]
        refine CALL_det c6 (.inl rfl) ?_
        simp (maxSteps := 1000000) (disch := omega) only [go_sem, eq_self, decide_true, decide_false, not_true_eq_false, not_false_eq_true, reduceIte, reduceCtorEq, Nat.reduceEqDiff, Nat.reduceAdd, Nat.reduceSub, Nat.reduceLeDiff]
        refine CALL_det c8 (.inl rfl) ?_
        simp (maxSteps := 1000000) (disch := omega) only [go_sem, eq_self, decide_true, decide_false, not_true_eq_false, not_false_eq_true, reduceIte, reduceCtorEq, Nat.reduceEqDiff, Nat.reduceAdd, Nat.reduceSub, Nat.reduceLeDiff]
        refine CALL_det c9 (.inl rfl) ?_
        simp (maxSteps := 1000000) (disch := omega) only [go_sem, eq_self, decide_true, decide_false, not_true_eq_false, not_false_eq_true, reduceIte, reduceCtorEq, Nat.reduceEqDiff, Nat.reduceAdd, Nat.reduceSub, Nat.reduceLeDiff]
        refine CALL_det c7 (.inl rfl) ?_
        simp (maxSteps := 1000000) (disch := omega) only [go_sem, eq_self, decide_true, decide_false, not_true_eq_false, not_false_eq_true, reduceIte, reduceCtorEq, Nat.reduceEqDiff, Nat.reduceAdd, Nat.reduceSub, Nat.reduceLeDiff]
        refine CALL_det c10 (.inl rfl) ?_
        simp (maxSteps := 1000000) (disch := omega) only [go_sem, eq_self, decide_true, decide_false, not_true_eq_false, not_false_eq_true, reduceIte, reduceCtorEq, Nat.reduceEqDiff, Nat.reduceAdd, Nat.reduceSub, Nat.reduceLeDiff]
        refine ⟨fun _ => CALL_det alarmed_fc (.inl rfl) ?_, fun h => absurd (by decide) h⟩
        simp (maxSteps := 1000000) (disch := omega) only [go_sem, eq_self, decide_true, decide_false, not_true_eq_false, not_false_eq_true, reduceIte, reduceCtorEq, Nat.reduceEqDiff, Nat.reduceAdd, Nat.reduceSub, Nat.reduceLeDiff]
    · have e6 : dbdR kk kd lim db on off pr l zu zm = .tu [iv 0, bv false, iv (dfF kk kd lim db on off pr l zu zm)] := by unfold dbdR; rw [if_pos hD]
      rw [e6] at c6
      generalize dfF kk kd lim db on off pr l zu zm = D at *
      generalize actW kd lim db on off zu l = A at *
      simp (maxSteps := 1000000) (disch := omega) only [go_sem, eq_self, decide_true, decide_false, not_true_eq_false, not_false_eq_true, reduceIte, reduceCtorEq, Nat.reduceEqDiff, Nat.reduceAdd, Nat.reduceSub, Nat.reduceLeDiff]
      refine CALL_det c6 (.inl rfl) ?_
      simp (maxSteps := 1000000) (disch := omega) only [go_sem, eq_self, decide_true, decide_false, not_true_eq_false, not_false_eq_true, reduceIte, reduceCtorEq, Nat.reduceEqDiff, Nat.reduceAdd, Nat.reduceSub, Nat.reduceLeDiff]
      refine CALL_det c8 (.inl rfl) ?_
      simp (maxSteps := 1000000) (disch := omega) only [go_sem, eq_self, decide_true, decide_false, not_true_eq_false, not_false_eq_true, reduceIte, reduceCtorEq, Nat.reduceEqDiff, Nat.reduceAdd, Nat.reduceSub, Nat.reduceLeDiff]
      refine CALL_det c9 (.inl rfl) ?_
      simp (maxSteps := 1000000) (disch := omega) only [go_sem, eq_self, decide_true, decide_false, not_true_eq_false, not_false_eq_true, reduceIte, reduceCtorEq, Nat.reduceEqDiff, Nat.reduceAdd, Nat.reduceSub, Nat.reduceLeDiff]
      refine CALL_det c7 (.inl rfl) ?_
      simp (maxSteps := 1000000) (disch := omega) only [go_sem, eq_self, decide_true, decide_false, not_true_eq_false, not_false_eq_true, reduceIte, reduceCtorEq, Nat.reduceEqDiff, Nat.reduceAdd, Nat.reduceSub, Nat.reduceLeDiff]
      refine CALL_det alarmed_fc (.inl rfl) ?_
      simp (maxSteps := 1000000) (disch := omega) only [go_sem, eq_self, decide_true, decide_false, not_true_eq_false, not_false_eq_true, reduceIte, reduceCtorEq, Nat.reduceEqDiff, Nat.reduceAdd, Nat.reduceSub, Nat.reduceLeDiff]
  · have e5 : actSp kk kd lim db on off pr l zu = ([], unF kk kd lim db on off pr l zu) := by unfold actSp; rw [if_pos hF]
    have hD : dfF kk kd lim db on off pr l zu zm ≠ 0 := fun h => by
      obtain ⟨g1, g2, g3, g4, g5⟩ := dfF_ok h
      apply hF
      unfold unF
      rw [g1, g2, if_neg (by omega)]; rfl
    have e6 : dbdR kk kd lim db on off pr l zu zm = .tu [iv 0, bv false, iv (dfF kk kd lim db on off pr l zu zm)] := by unfold dbdR; rw [if_pos hD]
    rw [e6] at c6
    rw [e5]
    generalize dfF kk kd lim db on off pr l zu zm = D at *
    generalize unF kk kd lim db on off pr l zu = F at *
    simp (maxSteps := 1000000) (disch := omega) only [go_sem, eq_self, decide_true, decide_false, not_true_eq_false, not_false_eq_true, reduceIte, reduceCtorEq, Nat.reduceEqDiff, Nat.reduceAdd, Nat.reduceSub, Nat.reduceLeDiff]
    refine CALL_det c6 (.inl rfl) ?_
    simp (maxSteps := 1000000) (disch := omega) only [go_sem, eq_self, decide_true, decide_false, not_true_eq_false, not_false_eq_true, reduceIte, reduceCtorEq, Nat.reduceEqDiff, Nat.reduceAdd, Nat.reduceSub, Nat.reduceLeDiff]
    refine CALL_det c7 (.inl rfl) ?_
    simp (maxSteps := 1000000) (disch := omega) only [go_sem, eq_self, decide_true, decide_false, not_true_eq_false, not_false_eq_true, reduceIte, reduceCtorEq, Nat.reduceEqDiff, Nat.reduceAdd, Nat.reduceSub, Nat.reduceLeDiff]
    refine CALL_det alarmed_fc (.inl rfl) ?_
    simp (maxSteps := 1000000) (disch := omega) only [go_sem, eq_self, decide_true, decide_false, not_true_eq_false, not_false_eq_true, reduceIte, reduceCtorEq, Nat.reduceEqDiff, Nat.reduceAdd, Nat.reduceSub, Nat.reduceLeDiff]
set_option maxHeartbeats 12000000 in
set_option maxRecDepth 8000 in
theorem con_fc (L : List Int) (hL : ∀ x ∈ L, I64 x) (hl : L.length ≤ 9223372036854775807) : FC Tryd.prog 3 none [ints false L] (fun _ r => r = bv true) := by
  refine fc_con (by simp +arith) ?_
  rw [con_eq]
  simp only [C_con, acL, acR]
  simp (maxSteps := 1000000) (disch := omega) only [go_sem, eq_self, decide_true, decide_false, not_true_eq_false, not_false_eq_true, reduceIte, reduceCtorEq, Nat.reduceEqDiff, Nat.reduceAdd, Nat.reduceSub, Nat.reduceLeDiff]
  refine callx_gen (pick_fc false [1, 1, 2, 3] (by simp) (by simp)) hL hl (by omega) (by omega) ⟨_, 1, by simp, rfl⟩ ?_
  rintro pa r haa hba ⟨za, hza, rfl⟩
  refine ⟨rfl, ?_⟩
  unfold strm
  simp only [List.mem_cons, List.not_mem_nil, or_false] at hza
  simp (maxSteps := 1000000) (disch := omega) only [go_sem, eq_self, decide_true, decide_false, not_true_eq_false, not_false_eq_true, reduceIte, reduceCtorEq, Nat.reduceEqDiff, Nat.reduceAdd, Nat.reduceSub, Nat.reduceLeDiff]
  refine callx_gen (pick_fc false [3, 5] (by simp) (by simp)) hL hl (by omega) (by omega) ⟨_, 3, by simp, rfl⟩ ?_
  rintro pb r hab hbb ⟨zb, hzb, rfl⟩
  refine ⟨rfl, ?_⟩
  unfold strm
  simp only [List.mem_cons, List.not_mem_nil, or_false] at hzb
  simp (maxSteps := 1000000) (disch := omega) only [go_sem, eq_self, decide_true, decide_false, not_true_eq_false, not_false_eq_true, reduceIte, reduceCtorEq, Nat.reduceEqDiff, Nat.reduceAdd, Nat.reduceSub, Nat.reduceLeDiff]
  refine callx_gen (pick_fc false [0, 0, 2] (by simp) (by simp)) hL hl (by omega) (by omega) ⟨_, 0, by simp, rfl⟩ ?_
  rintro pc r hac hbc ⟨zc, hzc, rfl⟩
  refine ⟨rfl, ?_⟩
  unfold strm
  simp only [List.mem_cons, List.not_mem_nil, or_false] at hzc
  simp (maxSteps := 1000000) (disch := omega) only [go_sem, eq_self, decide_true, decide_false, not_true_eq_false, not_false_eq_true, reduceIte, reduceCtorEq, Nat.reduceEqDiff, Nat.reduceAdd, Nat.reduceSub, Nat.reduceLeDiff]
  refine callx_gen (pick_fc false [0, 5, 20] (by simp) (by simp)) hL hl (by omega) (by omega) ⟨_, 0, by simp, rfl⟩ ?_
  rintro pd r had hbd ⟨zd, hzd, rfl⟩
  refine ⟨rfl, ?_⟩
  unfold strm
  simp only [List.mem_cons, List.not_mem_nil, or_false] at hzd
  simp (maxSteps := 1000000) (disch := omega) only [go_sem, eq_self, decide_true, decide_false, not_true_eq_false, not_false_eq_true, reduceIte, reduceCtorEq, Nat.reduceEqDiff, Nat.reduceAdd, Nat.reduceSub, Nat.reduceLeDiff]
  refine callx_gen (pick_fc false [0, 5] (by simp) (by simp)) hL hl (by omega) (by omega) ⟨_, 0, by simp, rfl⟩ ?_
  rintro pe r hae hbe ⟨ze, hze, rfl⟩
  refine ⟨rfl, ?_⟩
  unfold strm
  simp only [List.mem_cons, List.not_mem_nil, or_false] at hze
  simp (maxSteps := 1000000) (disch := omega) only [go_sem, eq_self, decide_true, decide_false, not_true_eq_false, not_false_eq_true, reduceIte, reduceCtorEq, Nat.reduceEqDiff, Nat.reduceAdd, Nat.reduceSub, Nat.reduceLeDiff]
  refine callx_gen (some_fc false [ByteArray.mk #[], ByteArray.mk #[122, 122]] (by simp) (by simp)) hL hl (by omega) (by omega) ⟨_, ByteArray.mk #[], by simp, rfl⟩ ?_
  rintro pf r haf hbf ⟨zf, hzf, rfl⟩
  refine ⟨rfl, ?_⟩
  unfold strm
  by_cases c3 : za = 3
  · subst c3
    simp (maxSteps := 1000000) (disch := omega) only [go_sem, eq_self, decide_true, decide_false, not_true_eq_false, not_false_eq_true, reduceIte, reduceCtorEq, Nat.reduceEqDiff, Nat.reduceAdd, Nat.reduceSub, Nat.reduceLeDiff]
    refine callx_gen (flip_fc 8 (by omega) (by omega)) hL hl (by omega) (by omega) ⟨_, true, rfl⟩ ?_
    rintro pg r hag hbg ⟨bg, rfl⟩
    refine ⟨rfl, ?_⟩
    unfold strm
    simp (maxSteps := 1000000) (disch := omega) only [go_sem, eq_self, decide_true, decide_false, not_true_eq_false, not_false_eq_true, reduceIte, reduceCtorEq, Nat.reduceEqDiff, Nat.reduceAdd, Nat.reduceSub, Nat.reduceLeDiff]
    cases bg with
    | true =>
      simp (maxSteps := 1000000) (disch := omega) only [go_sem, eq_self, decide_true, decide_false, not_true_eq_false, not_false_eq_true, reduceIte, reduceCtorEq, Nat.reduceEqDiff, Nat.reduceAdd, Nat.reduceSub, Nat.reduceLeDiff]
      refine callx_gen (flip_fc 15 (by omega) (by omega)) hL hl (by omega) (by omega) ⟨_, true, rfl⟩ ?_
      rintro ph r hah hbh ⟨bh, rfl⟩
      refine ⟨rfl, ?_⟩
      unfold strm
      simp (maxSteps := 1000000) (disch := omega) only [go_sem, eq_self, decide_true, decide_false, not_true_eq_false, not_false_eq_true, reduceIte, reduceCtorEq, Nat.reduceEqDiff, Nat.reduceAdd, Nat.reduceSub, Nat.reduceLeDiff]
      cases bh with
      | true =>
        simp (maxSteps := 1000000) (disch := omega) only [go_sem, eq_self, decide_true, decide_false, not_true_eq_false, not_false_eq_true, reduceIte, reduceCtorEq, Nat.reduceEqDiff, Nat.reduceAdd, Nat.reduceSub, Nat.reduceLeDiff]
        refine callx_gen (some_fc false [ByteArray.mk #[97, 49], ByteArray.mk #[]] (by simp) (by simp)) hL hl (by omega) (by omega) ⟨_, ByteArray.mk #[], by simp, rfl⟩ ?_
        rintro pi r hai hbi ⟨zi, hzi, rfl⟩
        refine ⟨rfl, ?_⟩
        have hs : zi.size ≤ 9223372036854775807 := by
          simp only [List.mem_cons, List.not_mem_nil, or_false] at hzi
          rcases hzi with rfl | rfl
          · exact of_decide_eq_true (by kernel_rfl)
          · exact of_decide_eq_true (by kernel_rfl)
        unfold strm
        simp (maxSteps := 1000000) (disch := omega) only [go_sem, eq_self, decide_true, decide_false, not_true_eq_false, not_false_eq_true, reduceIte, reduceCtorEq, Nat.reduceEqDiff, Nat.reduceAdd, Nat.reduceSub, Nat.reduceLeDiff]
        refine callx_gen (odd_fc 0 86400000 (by omega) (by omega) (by omega)) hL hl (by omega) (by omega) ⟨_, 0, by simp [I64], rfl⟩ ?_
        rintro pj r haj hbj ⟨zj, hzj, rfl⟩
        refine ⟨rfl, ?_⟩
        unfold strm
        simp (maxSteps := 1000000) (disch := omega) only [go_sem, eq_self, decide_true, decide_false, not_true_eq_false, not_false_eq_true, reduceIte, reduceCtorEq, Nat.reduceEqDiff, Nat.reduceAdd, Nat.reduceSub, Nat.reduceLeDiff]
        refine callx_gen (odd_fc 1 1000 (by omega) (by omega) (by omega)) hL hl (by omega) (by omega) ⟨_, 0, by simp [I64], rfl⟩ ?_
        rintro pk r hak hbk ⟨zk, hzk, rfl⟩
        refine ⟨rfl, ?_⟩
        unfold strm
        simp (maxSteps := 1000000) (disch := omega) only [go_sem, eq_self, decide_true, decide_false, not_true_eq_false, not_false_eq_true, reduceIte, reduceCtorEq, Nat.reduceEqDiff, Nat.reduceAdd, Nat.reduceSub, Nat.reduceLeDiff]
        exact tail_ok L hL hl zi zf hs 3 zb zc zj ze zk pk ⟨by omega, by omega⟩ true
      | false =>
        simp (maxSteps := 1000000) (disch := omega) only [go_sem, eq_self, decide_true, decide_false, not_true_eq_false, not_false_eq_true, reduceIte, reduceCtorEq, Nat.reduceEqDiff, Nat.reduceAdd, Nat.reduceSub, Nat.reduceLeDiff]
        exact tail_ok L hL hl (ByteArray.mk #[97, 49]) zf (of_decide_eq_true (by kernel_rfl)) 3 zb zc zd ze 1 ph ⟨by omega, by omega⟩ false
    | false =>
      simp (maxSteps := 1000000) (disch := omega) only [go_sem, eq_self, decide_true, decide_false, not_true_eq_false, not_false_eq_true, reduceIte, reduceCtorEq, Nat.reduceEqDiff, Nat.reduceAdd, Nat.reduceSub, Nat.reduceLeDiff]
      refine callx_gen (flip_fc 15 (by omega) (by omega)) hL hl (by omega) (by omega) ⟨_, true, rfl⟩ ?_
      rintro ph r hah hbh ⟨bh, rfl⟩
      refine ⟨rfl, ?_⟩
      unfold strm
      simp (maxSteps := 1000000) (disch := omega) only [go_sem, eq_self, decide_true, decide_false, not_true_eq_false, not_false_eq_true, reduceIte, reduceCtorEq, Nat.reduceEqDiff, Nat.reduceAdd, Nat.reduceSub, Nat.reduceLeDiff]
      cases bh with
      | true =>
        simp (maxSteps := 1000000) (disch := omega) only [go_sem, eq_self, decide_true, decide_false, not_true_eq_false, not_false_eq_true, reduceIte, reduceCtorEq, Nat.reduceEqDiff, Nat.reduceAdd, Nat.reduceSub, Nat.reduceLeDiff]
        refine callx_gen (some_fc false [ByteArray.mk #[97, 49], ByteArray.mk #[]] (by simp) (by simp)) hL hl (by omega) (by omega) ⟨_, ByteArray.mk #[], by simp, rfl⟩ ?_
        rintro pi r hai hbi ⟨zi, hzi, rfl⟩
        refine ⟨rfl, ?_⟩
        have hs : zi.size ≤ 9223372036854775807 := by
          simp only [List.mem_cons, List.not_mem_nil, or_false] at hzi
          rcases hzi with rfl | rfl
          · exact of_decide_eq_true (by kernel_rfl)
          · exact of_decide_eq_true (by kernel_rfl)
        unfold strm
        simp (maxSteps := 1000000) (disch := omega) only [go_sem, eq_self, decide_true, decide_false, not_true_eq_false, not_false_eq_true, reduceIte, reduceCtorEq, Nat.reduceEqDiff, Nat.reduceAdd, Nat.reduceSub, Nat.reduceLeDiff]
        refine callx_gen (odd_fc 0 86400000 (by omega) (by omega) (by omega)) hL hl (by omega) (by omega) ⟨_, 0, by simp [I64], rfl⟩ ?_
        rintro pj r haj hbj ⟨zj, hzj, rfl⟩
        refine ⟨rfl, ?_⟩
        unfold strm
        simp (maxSteps := 1000000) (disch := omega) only [go_sem, eq_self, decide_true, decide_false, not_true_eq_false, not_false_eq_true, reduceIte, reduceCtorEq, Nat.reduceEqDiff, Nat.reduceAdd, Nat.reduceSub, Nat.reduceLeDiff]
        refine callx_gen (odd_fc 1 1000 (by omega) (by omega) (by omega)) hL hl (by omega) (by omega) ⟨_, 0, by simp [I64], rfl⟩ ?_
        rintro pk r hak hbk ⟨zk, hzk, rfl⟩
        refine ⟨rfl, ?_⟩
        unfold strm
        simp (maxSteps := 1000000) (disch := omega) only [go_sem, eq_self, decide_true, decide_false, not_true_eq_false, not_false_eq_true, reduceIte, reduceCtorEq, Nat.reduceEqDiff, Nat.reduceAdd, Nat.reduceSub, Nat.reduceLeDiff]
        exact tail_ok L hL hl zi zf hs 3 0 0 zj ze zk pk ⟨by omega, by omega⟩ true
      | false =>
        simp (maxSteps := 1000000) (disch := omega) only [go_sem, eq_self, decide_true, decide_false, not_true_eq_false, not_false_eq_true, reduceIte, reduceCtorEq, Nat.reduceEqDiff, Nat.reduceAdd, Nat.reduceSub, Nat.reduceLeDiff]
        exact tail_ok L hL hl (ByteArray.mk #[97, 49]) zf (of_decide_eq_true (by kernel_rfl)) 3 0 0 zd ze 1 ph ⟨by omega, by omega⟩ false
  · simp (maxSteps := 1000000) (disch := omega) only [go_sem, eq_self, decide_true, decide_false, not_true_eq_false, not_false_eq_true, reduceIte, reduceCtorEq, Nat.reduceEqDiff, Nat.reduceAdd, Nat.reduceSub, Nat.reduceLeDiff]
    refine callx_gen (flip_fc 15 (by omega) (by omega)) hL hl (by omega) (by omega) ⟨_, true, rfl⟩ ?_
    rintro ph r hah hbh ⟨bh, rfl⟩
    refine ⟨rfl, ?_⟩
    unfold strm
    simp (maxSteps := 1000000) (disch := omega) only [go_sem, eq_self, decide_true, decide_false, not_true_eq_false, not_false_eq_true, reduceIte, reduceCtorEq, Nat.reduceEqDiff, Nat.reduceAdd, Nat.reduceSub, Nat.reduceLeDiff]
    cases bh with
    | true =>
      simp (maxSteps := 1000000) (disch := omega) only [go_sem, eq_self, decide_true, decide_false, not_true_eq_false, not_false_eq_true, reduceIte, reduceCtorEq, Nat.reduceEqDiff, Nat.reduceAdd, Nat.reduceSub, Nat.reduceLeDiff]
      refine callx_gen (some_fc false [ByteArray.mk #[97, 49], ByteArray.mk #[]] (by simp) (by simp)) hL hl (by omega) (by omega) ⟨_, ByteArray.mk #[], by simp, rfl⟩ ?_
      rintro pi r hai hbi ⟨zi, hzi, rfl⟩
      refine ⟨rfl, ?_⟩
      have hs : zi.size ≤ 9223372036854775807 := by
        simp only [List.mem_cons, List.not_mem_nil, or_false] at hzi
        rcases hzi with rfl | rfl
        · exact of_decide_eq_true (by kernel_rfl)
        · exact of_decide_eq_true (by kernel_rfl)
      unfold strm
      simp (maxSteps := 1000000) (disch := omega) only [go_sem, eq_self, decide_true, decide_false, not_true_eq_false, not_false_eq_true, reduceIte, reduceCtorEq, Nat.reduceEqDiff, Nat.reduceAdd, Nat.reduceSub, Nat.reduceLeDiff]
      refine callx_gen (odd_fc 0 86400000 (by omega) (by omega) (by omega)) hL hl (by omega) (by omega) ⟨_, 0, by simp [I64], rfl⟩ ?_
      rintro pj r haj hbj ⟨zj, hzj, rfl⟩
      refine ⟨rfl, ?_⟩
      unfold strm
      simp (maxSteps := 1000000) (disch := omega) only [go_sem, eq_self, decide_true, decide_false, not_true_eq_false, not_false_eq_true, reduceIte, reduceCtorEq, Nat.reduceEqDiff, Nat.reduceAdd, Nat.reduceSub, Nat.reduceLeDiff]
      refine callx_gen (odd_fc 1 1000 (by omega) (by omega) (by omega)) hL hl (by omega) (by omega) ⟨_, 0, by simp [I64], rfl⟩ ?_
      rintro pk r hak hbk ⟨zk, hzk, rfl⟩
      refine ⟨rfl, ?_⟩
      unfold strm
      simp (maxSteps := 1000000) (disch := omega) only [go_sem, eq_self, decide_true, decide_false, not_true_eq_false, not_false_eq_true, reduceIte, reduceCtorEq, Nat.reduceEqDiff, Nat.reduceAdd, Nat.reduceSub, Nat.reduceLeDiff]
      exact tail_ok L hL hl zi zf hs za zb zc zj ze zk pk ⟨by omega, by omega⟩ true
    | false =>
      simp (maxSteps := 1000000) (disch := omega) only [go_sem, eq_self, decide_true, decide_false, not_true_eq_false, not_false_eq_true, reduceIte, reduceCtorEq, Nat.reduceEqDiff, Nat.reduceAdd, Nat.reduceSub, Nat.reduceLeDiff]
      exact tail_ok L hL hl (ByteArray.mk #[97, 49]) zf (of_decide_eq_true (by kernel_rfl)) za zb zc zd ze 1 ph ⟨by omega, by omega⟩ false
end Go.Proofs.YtggbcgldnjmobaaDoor

/-
  Crossings of a limit, continued: the reference's; values in thousandths; changes.
-/
import Derived.Test.YtkecmbgjhamhiaaCrossb
namespace Go.Proofs.Ytkecmbgjhamhiaa
open Go Go.Ai
set_option linter.unusedSimpArgs false
set_option linter.unusedVariables false
set_option maxHeartbeats 4000000
def A_crClos : List Ann := [⟨(some ⟨[1,2], [2], []⟩), [], [], [], []⟩, ⟨(some ⟨[3], [], []⟩), [], [], [], []⟩]
def C_crClos : AC := (.seq (.reg false [⟨(some 2), none, .box (.t 0)⟩, ⟨(some 3), none, .mv (.v (.bool false))⟩] (some ⟨[1,2], [2], []⟩))
  (.seq (.reg false [⟨(some 4), none, .fadr 1 (.t 2)⟩, ⟨(some 5), none, .load false 1 (.t 4)⟩, ⟨(some 6), none, .load false 1 (.t 1)⟩, ⟨(some 7), none, .bin .neq (.t 5) (.t 6)⟩, ⟨(some 8), none, .mv (.t 7)⟩, ⟨(some 9), (some (8, false)), .fadr 2 (.t 2)⟩, ⟨(some 10), (some (8, false)), .load false 1 (.t 9)⟩, ⟨(some 11), (some (8, false)), .bin .eql (.t 10) (.v (.int .i64 (2)))⟩, ⟨(some 12), none, .pick (.t 8) (.v (.bool true)) (.t 11)⟩, ⟨(some 3), none, .mv (.t 12)⟩] (some ⟨[3], [], []⟩))
  .ret))
theorem c_crClos : compileCode Try.prog Try.f108.ntmps (Try.f108.body.getD .skip) A_crClos = some (C_crClos, []) := by kernel_rfl
theorem r_crClos : compileRes Try.prog Try.f108.results.toList = some [.t 3] := by kernel_rfl
theorem b_crClos : Try.f108.body = some (Try.f108.body.getD .skip) := by kernel_rfl
theorem n_crClos : (Try.f108.name == "runtime.NumGoroutine") = false := by kernel_rfl
theorem fc_crClos {xt : Option (List Cel)} {args : List Val} {R : List Cel → Val → Prop} (hn : (if xt.isSome then 1 else 0) + args.length ≤ Try.f108.ntmps) (h : ex Try.prog C_crClos [] (fpost xt [.t 3] R) (initSt xt args)) : FC Try.prog 108 xt args R :=
  fc_of_awp Try.func108 b_crClos n_crClos c_crClos r_crClos (of_decide_eq_true (by kernel_rfl)) hn h

def A_contSmp : List Ann := [⟨(some ⟨[0,1], [], []⟩), [], [], [], []⟩, ⟨(some ⟨[4], [], []⟩), [], [], [], []⟩]
def C_contSmp : AC := (.seq (.reg false [⟨(some 4), none, .mv (.v (.bool false))⟩] (some ⟨[0,1], [], []⟩))
  (.seq (.reg false [⟨(some 5), none, .mv (.t 0)⟩, ⟨(some 6), none, .mv (.t 1)⟩, ⟨(some 7), none, .call (.f 140) [(.t 5), (.t 6)]⟩, ⟨(some 8), none, .bin .geq (.t 7) (.v (.int .i64 (0)))⟩, ⟨(some 4), none, .mv (.t 8)⟩] (some ⟨[4], [], []⟩))
  .ret))
theorem c_contSmp : compileCode Try.prog Try.f107.ntmps (Try.f107.body.getD .skip) A_contSmp = some (C_contSmp, []) := by kernel_rfl
theorem r_contSmp : compileRes Try.prog Try.f107.results.toList = some [.t 4] := by kernel_rfl
theorem b_contSmp : Try.f107.body = some (Try.f107.body.getD .skip) := by kernel_rfl
theorem n_contSmp : (Try.f107.name == "runtime.NumGoroutine") = false := by kernel_rfl
theorem fc_contSmp {xt : Option (List Cel)} {args : List Val} {R : List Cel → Val → Prop} (hn : (if xt.isSome then 1 else 0) + args.length ≤ Try.f107.ntmps) (h : ex Try.prog C_contSmp [] (fpost xt [.t 4] R) (initSt xt args)) : FC Try.prog 107 xt args R :=
  fc_of_awp Try.func107 b_contSmp n_contSmp c_contSmp r_contSmp (of_decide_eq_true (by kernel_rfl)) hn h

def A_idxSmp : List Ann := [⟨(some ⟨[0,1], [], []⟩), [], [], [], []⟩, ⟨(some ⟨[0,1,7,8], [], []⟩), [], [], [], []⟩, ⟨(some ⟨[0,1,7,8,9], [], []⟩), [], [], [], []⟩, ⟨(some ⟨[0,1,5,7,8], [], []⟩), [], [], [], []⟩, ⟨(some ⟨[0,1,5,7,8,16], [], []⟩), [], [], [], []⟩, ⟨(some ⟨[4], [], []⟩), [], [], [], []⟩, ⟨(some ⟨[0,1,7,8], [], []⟩), [], [], [], []⟩, ⟨(some ⟨[4], [], []⟩), [], [], [], []⟩]
def C_idxSmp : AC := (.seq (.reg false [⟨(some 4), none, .mv (.v (.int .i64 (0)))⟩] (some ⟨[0,1], [], []⟩))
  (.seq (.seq (.reg false [⟨(some 6), none, .mv (.t 0)⟩, ⟨(some 7), none, .len (.t 6)⟩, ⟨(some 8), none, .mv (.v (.int .i64 (0)))⟩] (some ⟨[0,1,7,8], [], []⟩))
  (.block 0 (.loop (.seq (.reg false [⟨(some 9), none, .bin .lss (.t 8) (.t 7)⟩] (some ⟨[0,1,7,8,9], [], []⟩))
  (.seq (.cond (.t 9)
  .skip
  (.exit 0))
  (.seq (.block 1 (.seq (.reg false [⟨(some 10), none, .mv (.t 8)⟩, ⟨(some 5), none, .mv (.t 10)⟩] (some ⟨[0,1,5,7,8], [], []⟩))
  (.seq (.reg false [⟨(some 11), none, .mv (.t 1)⟩, ⟨(some 12), none, .mv (.t 0)⟩, ⟨(some 13), none, .mv (.t 5)⟩, ⟨(some 14), none, .iadr 3 (.t 12) (.t 13)⟩, ⟨(some 15), none, .load true 3 (.t 14)⟩, ⟨(some 16), none, .call (.t 11) [(.t 15)]⟩] (some ⟨[0,1,5,7,8,16], [], []⟩))
  (.cond (.t 16)
  (.seq (.reg false [⟨(some 17), none, .mv (.t 5)⟩, ⟨(some 4), none, .mv (.t 17)⟩] (some ⟨[4], [], []⟩))
  .ret)
  .skip))))
  (.reg false [⟨(some 18), none, .bin .add (.t 8) (.v (.int .i64 (1)))⟩, ⟨(some 8), none, .mv (.t 18)⟩] (some ⟨[0,1,7,8], [], []⟩))))))))
  (.seq (.reg false [⟨(some 4), none, .mv (.v (.int .i64 (-1)))⟩] (some ⟨[4], [], []⟩))
  .ret)))
theorem c_idxSmp : compileCode Try.prog Try.f140.ntmps (Try.f140.body.getD .skip) A_idxSmp = some (C_idxSmp, []) := by kernel_rfl
theorem r_idxSmp : compileRes Try.prog Try.f140.results.toList = some [.t 4] := by kernel_rfl
theorem b_idxSmp : Try.f140.body = some (Try.f140.body.getD .skip) := by kernel_rfl
theorem n_idxSmp : (Try.f140.name == "runtime.NumGoroutine") = false := by kernel_rfl
theorem fc_idxSmp {xt : Option (List Cel)} {args : List Val} {R : List Cel → Val → Prop} (hn : (if xt.isSome then 1 else 0) + args.length ≤ Try.f140.ntmps) (h : ex Try.prog C_idxSmp [] (fpost xt [.t 4] R) (initSt xt args)) : FC Try.prog 140 xt args R :=
  fc_of_awp Try.func140 b_idxSmp n_idxSmp c_idxSmp r_idxSmp (of_decide_eq_true (by kernel_rfl)) hn h

def A_crossingsOf : List Ann := [⟨(some ⟨[0,4,5], [4,5], []⟩), [], [], [], []⟩, ⟨(some ⟨[0,4,5,7], [4,5], []⟩), [(7, 37, 2)], [], [], []⟩, ⟨(some ⟨[0,4,5,7,16,17], [4,5], [7]⟩), [], [], [], []⟩, ⟨(some ⟨[0,4,5,7,16,17,18], [4,5], [7]⟩), [], [], [], []⟩, ⟨(some ⟨[0,4,5,7,8,16,17], [4,5], [7]⟩), [], [], [], []⟩, ⟨(some ⟨[0,4,5,7,8,9,16,17], [4,5], [7]⟩), [], [], [], []⟩, ⟨(some ⟨[0,4,5,7,8,9,16,17,25], [4,5], [7]⟩), [], [], [], []⟩, ⟨(some ⟨[0,4,5,7,8,9,10,11,16,17], [4,5,10,11], [7]⟩), [], [(2, none), (3, none), (6, none), (7, none)], [], []⟩, ⟨(some ⟨[0,4,5,7,8,9,10,11,12,16,17], [4,5,10,11], [7]⟩), [], [], [], []⟩, ⟨(some ⟨[0,4,5,7,8,9,10,11,16,17,67], [4,5,10,11], [7]⟩), [], [], [], []⟩, ⟨(some ⟨[0,4,5,7,8,9,10,11,13,16,17], [4,5,10,11,13], [7]⟩), [], [], [], []⟩, ⟨(some ⟨[0,4,5,7,8,9,10,11,13,16,17,78], [4,5,10,11,13], [7]⟩), [], [], [], []⟩, ⟨(some ⟨[0,4,5,7,8,9,10,11,13,14,16,17], [4,5,10,11,13], [7]⟩), [], [], [], []⟩, ⟨(some ⟨[0,4,5,7,8,9,13,16,17], [4,5,13], [7]⟩), [], [], [], []⟩, ⟨(some ⟨[0,4,5,7,8,9,13,16,17,118], [4,5,13], [7]⟩), [], [], [], []⟩, ⟨(some ⟨[0,4,5,7,8,9,16,17], [4,5], [7]⟩), [], [], [], []⟩, ⟨(some ⟨[0,4,5,7,8,9,16,17], [4,5], [7]⟩), [], [], [], []⟩, ⟨(some ⟨[0,4,5,7,16,17], [4,5], [7]⟩), [], [], [], []⟩, ⟨(some ⟨[6], [], []⟩), [], [], [], []⟩]
def C_crossingsOf : AC := (.seq (.reg false [⟨(some 4), none, .box (.t 1)⟩, ⟨(some 5), none, .box (.t 2)⟩, ⟨(some 6), none, .mv (.v (.slice none 0 0))⟩] (some ⟨[0,4,5], [4,5], []⟩))
  (.seq (.seq (.reg false [⟨(some 7), none, .mv (.v (.slice none 0 0))⟩] (some ⟨[0,4,5,7], [4,5], []⟩))
  (.own 7 37 2))
  (.seq (.seq (.reg false [⟨(some 15), none, .mv (.t 0)⟩, ⟨(some 16), none, .len (.t 15)⟩, ⟨(some 17), none, .mv (.v (.int .i64 (0)))⟩] (some ⟨[0,4,5,7,16,17], [4,5], [7]⟩))
  (.block 0 (.loop (.seq (.reg false [⟨(some 18), none, .bin .lss (.t 17) (.t 16)⟩] (some ⟨[0,4,5,7,16,17,18], [4,5], [7]⟩))
  (.seq (.cond (.t 18)
  .skip
  (.exit 0))
  (.seq (.block 1 (.seq (.reg false [⟨(some 19), none, .mv (.t 17)⟩, ⟨(some 8), none, .mv (.t 19)⟩] (some ⟨[0,4,5,7,8,16,17], [4,5], [7]⟩))
  (.seq (.reg false [⟨(some 20), none, .mv (.t 8)⟩, ⟨(some 21), none, .bin .add (.t 20) (.v (.int .i64 (1)))⟩, ⟨(some 9), none, .mv (.t 21)⟩] (some ⟨[0,4,5,7,8,9,16,17], [4,5], [7]⟩))
  (.block 2 (.loop (.seq (.seq (.reg false [⟨(some 22), none, .mv (.t 9)⟩, ⟨(some 23), none, .mv (.t 0)⟩, ⟨(some 24), none, .len (.t 23)⟩, ⟨(some 25), none, .bin .lss (.t 22) (.t 24)⟩] (some ⟨[0,4,5,7,8,9,16,17,25], [4,5], [7]⟩))
  (.cond (.t 25)
  .skip
  (.exit 2)))
  (.seq (.block 3 (.seq (.reg true [⟨(some 28), none, .mv (.t 0)⟩, ⟨(some 29), none, .mv (.t 8)⟩, ⟨none, none, .chk (.t 28) none⟩, ⟨(some 30), none, .iadr 3 (.t 28) (.t 29)⟩, ⟨none, none, .chk (.t 30) none⟩, ⟨(some 31), none, .load true 3 (.t 30)⟩, ⟨(some 32), none, .mv (.t 0)⟩, ⟨(some 33), none, .mv (.t 9)⟩, ⟨none, none, .chk (.t 32) none⟩, ⟨(some 34), none, .iadr 3 (.t 32) (.t 33)⟩, ⟨none, none, .chk (.t 34) none⟩, ⟨(some 35), none, .load true 3 (.t 34)⟩, ⟨(some 10), none, .alloc [(.int .i64 (0)), (.int .i64 (0)), (.int .i64 (0))]⟩, ⟨(some 11), none, .alloc [(.int .i64 (0)), (.int .i64 (0)), (.int .i64 (0))]⟩, ⟨none, none, .store 3 (.t 10) (.t 31)⟩, ⟨none, none, .store 3 (.t 11) (.t 35)⟩] (some ⟨[0,4,5,7,8,9,10,11,16,17], [4,5,10,11], [7]⟩))
  (.seq (.reg false [⟨(some 36), none, .mv (.t 0)⟩, ⟨(some 37), none, .mv (.t 8)⟩, ⟨(some 38), none, .bin .add (.t 37) (.v (.int .i64 (1)))⟩, ⟨(some 39), none, .mv (.t 9)⟩, ⟨(some 40), none, .slc 3 (.t 36) (some (.t 38)) (some (.t 39))⟩, ⟨(some 41), none, .mkfn 108 [(.t 5)]⟩, ⟨(some 42), none, .call (.f 107) [(.t 40), (.t 41)]⟩, ⟨(some 43), none, .un .not (.t 42)⟩, ⟨(some 12), none, .mv (.t 43)⟩] (some ⟨[0,4,5,7,8,9,10,11,12,16,17], [4,5,10,11], [7]⟩))
  (.seq (.seq (.reg true [⟨(some 44), none, .mv (.t 12)⟩, ⟨(some 45), none, .un .not (.t 44)⟩, ⟨(some 46), none, .mv (.t 45)⟩, ⟨(some 47), (some (46, false)), .fadr 2 (.t 10)⟩, ⟨(some 48), (some (46, false)), .load false 1 (.t 47)⟩, ⟨(some 49), (some (46, false)), .bin .eql (.t 48) (.v (.int .i64 (2)))⟩, ⟨(some 50), none, .pick (.t 46) (.v (.bool true)) (.t 49)⟩, ⟨(some 51), none, .mv (.t 50)⟩, ⟨(some 52), (some (51, false)), .fadr 2 (.t 11)⟩, ⟨(some 53), (some (51, false)), .load false 1 (.t 52)⟩, ⟨(some 54), (some (51, false)), .bin .eql (.t 53) (.v (.int .i64 (2)))⟩, ⟨(some 55), none, .pick (.t 51) (.v (.bool true)) (.t 54)⟩, ⟨(some 56), none, .mv (.t 55)⟩, ⟨(some 57), (some (56, false)), .fadr 1 (.t 10)⟩, ⟨(some 58), (some (56, false)), .load false 1 (.t 57)⟩, ⟨(some 59), (some (56, false)), .load false 1 (.t 5)⟩, ⟨(some 60), (some (56, false)), .call (.f 109) [(.t 58), (.t 59)]⟩, ⟨(some 61), (some (56, false)), .fadr 1 (.t 11)⟩, ⟨(some 62), (some (56, false)), .load false 1 (.t 61)⟩, ⟨(some 63), (some (56, false)), .load false 1 (.t 5)⟩, ⟨(some 64), (some (56, false)), .call (.f 109) [(.t 62), (.t 63)]⟩, ⟨(some 65), (some (56, false)), .bin .mul (.t 60) (.t 64)⟩, ⟨(some 66), (some (56, false)), .bin .geq (.t 65) (.v (.int .i64 (0)))⟩, ⟨(some 67), none, .pick (.t 56) (.v (.bool true)) (.t 66)⟩] (some ⟨[0,4,5,7,8,9,10,11,16,17,67], [4,5,10,11], [7]⟩))
  (.cond (.t 67)
  (.exit 3)
  .skip))
  (.seq (.reg false [⟨(some 68), none, .mv (.t 0)⟩, ⟨(some 69), none, .mv (.t 8)⟩, ⟨(some 70), none, .bin .add (.t 69) (.v (.int .i64 (1)))⟩, ⟨(some 71), none, .iadr 3 (.t 68) (.t 70)⟩, ⟨(some 72), none, .fadr 0 (.t 71)⟩, ⟨(some 73), none, .load false 1 (.t 72)⟩, ⟨(some 74), none, .build [(.int .i64 (0)), (.int .i64 (0))] [(0, 1, (.t 73)), (1, 1, (.v (.int .i64 (1))))]⟩, ⟨(some 13), none, .alloc [(.int .i64 (0)), (.int .i64 (0))]⟩, ⟨none, none, .store 2 (.t 13) (.t 74)⟩] (some ⟨[0,4,5,7,8,9,10,11,13,16,17], [4,5,10,11,13], [7]⟩))
  (.seq (.seq (.reg false [⟨(some 75), none, .mv (.t 9)⟩, ⟨(some 76), none, .mv (.t 8)⟩, ⟨(some 77), none, .bin .add (.t 76) (.v (.int .i64 (1)))⟩, ⟨(some 78), none, .bin .eql (.t 75) (.t 77)⟩] (some ⟨[0,4,5,7,8,9,10,11,13,16,17,78], [4,5,10,11,13], [7]⟩))
  (.cond (.t 78)
  (.seq (.reg false [⟨(some 79), none, .fadr 1 (.t 11)⟩, ⟨(some 80), none, .load false 1 (.t 79)⟩, ⟨(some 81), none, .fadr 1 (.t 10)⟩, ⟨(some 82), none, .load false 1 (.t 81)⟩, ⟨(some 83), none, .call (.f 96) [(.t 80), (.t 82)]⟩, ⟨(some 14), none, .mv (.t 83)⟩] (some ⟨[0,4,5,7,8,9,10,11,13,14,16,17], [4,5,10,11,13], [7]⟩))
  (.reg true [⟨(some 84), none, .fadr 0 (.t 10)⟩, ⟨(some 85), none, .load false 1 (.t 84)⟩, ⟨(some 86), none, .mv (.t 14)⟩, ⟨(some 87), none, .bin .mul (.t 85) (.t 86)⟩, ⟨(some 88), none, .fadr 0 (.t 11)⟩, ⟨(some 89), none, .load false 1 (.t 88)⟩, ⟨(some 90), none, .fadr 0 (.t 10)⟩, ⟨(some 91), none, .load false 1 (.t 90)⟩, ⟨(some 92), none, .bin .sub (.t 89) (.t 91)⟩, ⟨(some 93), none, .load false 1 (.t 5)⟩, ⟨(some 94), none, .fadr 1 (.t 10)⟩, ⟨(some 95), none, .load false 1 (.t 94)⟩, ⟨(some 96), none, .call (.f 96) [(.t 93), (.t 95)]⟩, ⟨(some 97), none, .bin .mul (.t 92) (.t 96)⟩, ⟨(some 98), none, .bin .add (.t 87) (.t 97)⟩, ⟨(some 99), none, .mv (.t 14)⟩, ⟨(some 100), none, .call (.f 110) [(.t 98), (.t 99)]⟩, ⟨none, none, .store 2 (.t 13) (.t 100)⟩] (some ⟨[0,4,5,7,8,9,13,16,17], [4,5,13], [7]⟩)))
  .skip))
  (.seq (.reg false [⟨(some 101), none, .fadr 0 (.t 13)⟩, ⟨(some 102), none, .load false 1 (.t 101)⟩, ⟨(some 103), none, .fadr 0 (.t 4)⟩, ⟨(some 104), none, .load false 1 (.t 103)⟩, ⟨(some 105), none, .fadr 1 (.t 13)⟩, ⟨(some 106), none, .load false 1 (.t 105)⟩, ⟨(some 107), none, .bin .mul (.t 104) (.t 106)⟩, ⟨(some 108), none, .bin .geq (.t 102) (.t 107)⟩, ⟨(some 109), none, .mv (.t 108)⟩, ⟨(some 110), (some (109, true)), .fadr 0 (.t 13)⟩, ⟨(some 111), (some (109, true)), .load false 1 (.t 110)⟩, ⟨(some 112), (some (109, true)), .fadr 1 (.t 4)⟩, ⟨(some 113), (some (109, true)), .load false 1 (.t 112)⟩, ⟨(some 114), (some (109, true)), .fadr 1 (.t 13)⟩, ⟨(some 115), (some (109, true)), .load false 1 (.t 114)⟩, ⟨(some 116), (some (109, true)), .bin .mul (.t 113) (.t 115)⟩, ⟨(some 117), (some (109, true)), .bin .lss (.t 111) (.t 116)⟩, ⟨(some 118), none, .pick (.t 109) (.t 117) (.v (.bool false))⟩] (some ⟨[0,4,5,7,8,9,13,16,17,118], [4,5,13], [7]⟩))
  (.cond (.t 118)
  (.reg false [⟨(some 119), none, .mv (.t 7)⟩, ⟨(some 120), none, .load true 2 (.t 13)⟩, ⟨(some 121), none, .bslice 2 1 [(.t 120)]⟩, ⟨(some 122), none, .append 37 2 16 (.t 119) (.t 121)⟩, ⟨(some 7), none, .mv (.t 122)⟩] (some ⟨[0,4,5,7,8,9,16,17], [4,5], [7]⟩))
  .skip))))))))
  (.reg false [⟨(some 26), none, .mv (.t 9)⟩, ⟨(some 27), none, .bin .add (.t 26) (.v (.int .i64 (1)))⟩, ⟨(some 9), none, .mv (.t 27)⟩] (some ⟨[0,4,5,7,8,9,16,17], [4,5], [7]⟩)))))))))
  (.reg false [⟨(some 123), none, .bin .add (.t 17) (.v (.int .i64 (1)))⟩, ⟨(some 17), none, .mv (.t 123)⟩] (some ⟨[0,4,5,7,16,17], [4,5], [7]⟩))))))))
  (.seq (.reg false [⟨(some 124), none, .mv (.t 7)⟩, ⟨(some 6), none, .mv (.t 124)⟩] (some ⟨[6], [], []⟩))
  .ret))))
theorem c_crossingsOf : compileCode Try.prog Try.f52.ntmps (Try.f52.body.getD .skip) A_crossingsOf = some (C_crossingsOf, []) := by kernel_rfl
theorem r_crossingsOf : compileRes Try.prog Try.f52.results.toList = some [.t 6] := by kernel_rfl
theorem b_crossingsOf : Try.f52.body = some (Try.f52.body.getD .skip) := by kernel_rfl
theorem n_crossingsOf : (Try.f52.name == "runtime.NumGoroutine") = false := by kernel_rfl
theorem fc_crossingsOf {xt : Option (List Cel)} {args : List Val} {R : List Cel → Val → Prop} (hn : (if xt.isSome then 1 else 0) + args.length ≤ Try.f52.ntmps) (h : ex Try.prog C_crossingsOf [] (fpost xt [.t 6] R) (initSt xt args)) : FC Try.prog 52 xt args R :=
  fc_of_awp Try.func52 b_crossingsOf n_crossingsOf c_crossingsOf r_crossingsOf (of_decide_eq_true (by kernel_rfl)) hn h


theorem takeM {α β : Type} {C : α → β} {l : List α} {n : Nat} : (l.map C).take n = (l.take n).map C := List.map_take.symm
theorem dropM {α β : Type} {C : α → β} {l : List α} {n : Nat} : (l.map C).drop n = (l.drop n).map C := List.map_drop.symm
attribute [go_sem] takeM dropM
def neB (L : Int) (x : Smp) : Bool := decide (x.v ≠ L) || decide (x.q = 2)
theorem crClos_fc (x : Smp) (L : Int) : FC Try.prog 108 none [smpV x, .one (.ep [.g (.int .i64 L)])] (fun _ r => r = bv (neB L x)) := by
  refine fc_crClos (by simp +arith) ?_
  unfold C_crClos
  by_cases h : x.v = L
  · by_cases h2 : x.q = 2
    · have e : neB L x = true := by simp [neB, h2]
      rw [e]
      simp (maxSteps := 1000000) (disch := omega) only [go_sem, eq_self, decide_true, decide_false, not_true_eq_false, not_false_eq_true, reduceIte, reduceCtorEq, Nat.reduceEqDiff, Nat.reduceAdd, Nat.reduceSub, Nat.reduceLeDiff]
      rw [decide_eq_true h2]
    · have e : neB L x = false := by simp [neB, h2, h]
      rw [e]
      simp (maxSteps := 1000000) (disch := omega) only [go_sem, eq_self, decide_true, decide_false, not_true_eq_false, not_false_eq_true, reduceIte, reduceCtorEq, Nat.reduceEqDiff, Nat.reduceAdd, Nat.reduceSub, Nat.reduceLeDiff]
      rw [decide_eq_false h2]
  · have e : neB L x = true := by simp [neB, h]
    rw [e]
    simp (maxSteps := 1000000) (disch := omega) only [go_sem, eq_self, decide_true, decide_false, not_true_eq_false, not_false_eq_true, reduceIte, reduceCtorEq, Nat.reduceEqDiff, Nat.reduceAdd, Nat.reduceSub, Nat.reduceLeDiff]
def idxP (p : Smp → Bool) : Int → List Smp → Int
  | _, [] => -1
  | i, x :: l => if p x = true then i else idxP p (i + 1) l
theorem idxP_any (p : Smp → Bool) : ∀ (l : List Smp) (i : Int), 0 ≤ i → (0 ≤ idxP p i l ↔ l.any p = true)
  | [], i, h => by simp [idxP]
  | x :: l, i, h => by
    rw [idxP, List.any_cons]
    cases hx : p x with
    | true => simp; omega
    | false => simp only [Bool.false_eq_true, if_false, Bool.false_or]; exact idxP_any p l (i + 1) (by omega)
def idxsSt (L : Int) (l : List Smp) (i : Int) : AS := ⟨tabV [(0, smps false l), (1, .one (.fn 108 [.ep [.g (.int .i64 L)]])), (7, iv l.length), (8, iv i)], tabO [], tabO []⟩
theorem idxSmp_fc (l : List Smp) (hl : l.length ≤ 5000) (L : Int) : FC Try.prog 140 none [smps false l, .one (.fn 108 [.ep [.g (.int .i64 L)]])] (fun _ r => r = iv (idxP (neB L) 0 l)) := by
  refine fc_idxSmp (by simp +arith) ?_
  unfold C_idxSmp
  simp (maxSteps := 1000000) (disch := omega) only [go_sem, eq_self, decide_true, decide_false, not_true_eq_false, not_false_eq_true, reduceIte, reduceCtorEq, Nat.reduceEqDiff, Nat.reduceAdd, Nat.reduceSub, Nat.reduceLeDiff]
  refine ex_loop1 (idxsSt L l) (fun i => 0 ≤ i ∧ i ≤ l.length ∧ idxP (neB L) i (l.drop i.toNat) = idxP (neB L) 0 l) (fun i => (l.length - i).toNat) 0 ⟨by omega, by omega, rfl⟩ rfl ?_
  rintro i ⟨g1, g2, g3⟩
  unfold idxsSt
  by_cases hi : i < l.length
  · rw [drop_cons l i.toNat (by omega), idxP] at g3
    have e2 : (i + 1).toNat = i.toNat + 1 := by omega
    simp (maxSteps := 1000000) (disch := omega) only [go_sem, eq_self, decide_true, decide_false, not_true_eq_false, not_false_eq_true, reduceIte, reduceCtorEq, Nat.reduceEqDiff, Nat.reduceAdd, Nat.reduceSub, Nat.reduceLeDiff]
    refine CALL_det (crClos_fc _ _) (.inl rfl) ?_
    cases h : neB L (l.getD i.toNat default) with
    | true => rw [h, if_pos rfl] at g3; simp (maxSteps := 1000000) (disch := omega) only [go_sem, eq_self, decide_true, decide_false, not_true_eq_false, not_false_eq_true, reduceIte, reduceCtorEq, Nat.reduceEqDiff, Nat.reduceAdd, Nat.reduceSub, Nat.reduceLeDiff]; rw [← g3]
    | false =>
      rw [h, if_neg (by simp)] at g3
      simp (maxSteps := 1000000) (disch := omega) only [go_sem, eq_self, decide_true, decide_false, not_true_eq_false, not_false_eq_true, reduceIte, reduceCtorEq, Nat.reduceEqDiff, Nat.reduceAdd, Nat.reduceSub, Nat.reduceLeDiff]
      exact ⟨_, rfl, ⟨by omega, by omega, by rw [e2]; exact g3⟩, by omega⟩
  · rw [List.drop_eq_nil_of_le (by omega), idxP] at g3
    simp (maxSteps := 1000000) (disch := omega) only [go_sem, eq_self, decide_true, decide_false, not_true_eq_false, not_false_eq_true, reduceIte, reduceCtorEq, Nat.reduceEqDiff, Nat.reduceAdd, Nat.reduceSub, Nat.reduceLeDiff]
    rw [← g3]
theorem contSmp_fc (l : List Smp) (hl : l.length ≤ 5000) (L : Int) : FC Try.prog 107 none [smps false l, .one (.fn 108 [.ep [.g (.int .i64 L)]])] (fun _ r => r = bv (l.any (neB L))) := by
  refine fc_contSmp (by simp +arith) ?_
  unfold C_contSmp
  simp (maxSteps := 1000000) (disch := omega) only [go_sem, eq_self, decide_true, decide_false, not_true_eq_false, not_false_eq_true, reduceIte, reduceCtorEq, Nat.reduceEqDiff, Nat.reduceAdd, Nat.reduceSub, Nat.reduceLeDiff]
  refine CALL_det (idxSmp_fc l hl L) (.inl rfl) ?_
  simp (maxSteps := 1000000) (disch := omega) only [go_sem, eq_self, decide_true, decide_false, not_true_eq_false, not_false_eq_true, reduceIte, reduceCtorEq, Nat.reduceEqDiff, Nat.reduceAdd, Nat.reduceSub, Nat.reduceLeDiff]
  exact bv_congr (by simp only [decide_eq_true_eq]; exact idxP_any _ l 0 (by omega))
def some1 (L : Int) (l : List Smp) (i k : Int) : Bool := ((l.take k.toNat).drop (i + 1).toNat).any (neB L)
theorem some1_0 (L : Int) (l : List Smp) (i : Int) (hi : i < l.length) : some1 L l i (i + 1) = false := by
  unfold some1
  rw [List.drop_eq_nil_of_le (by simp; omega)]; rfl
theorem some1_s (L : Int) (l : List Smp) (i k : Int) (hi : 0 ≤ i) (hk : i + 1 ≤ k) (h : k < l.length) : some1 L l i (k + 1) = (some1 L l i k || neB L (l.getD k.toNat default)) := by
  unfold some1
  have e : (k + 1).toNat = k.toNat + 1 := by omega
  have e2 : l.take (k.toNat + 1) = l.take k.toNat ++ [l.getD k.toNat default] := by
    rw [List.take_succ_eq_append_getElem (by omega)]; simp [List.getD_eq_getElem?_getD, show k.toNat < l.length by omega]
  rw [e, e2, List.drop_append_of_le_length (by simp; omega), List.any_append]
  simp
theorem inn_len (L f t : Int) (a : Smp) : ∀ (l : List Smp) (nx : Option Int), (inn L f t a nx l).length ≤ 1
  | [], nx => by simp [inn]
  | b :: r, nx => by
    rw [inn]; split
    · exact inn_len L f t a r _
    · unfold emit; split
      · split <;> simp
      · simp
theorem nxt_s (l : List Smp) (i k : Int) (hk : i + 1 ≤ k) : nxt l i (k + 1) = some ((nxt l i k).getD (l.getD k.toNat default).a) := by
  unfold nxt
  rw [if_pos (by omega)]
  by_cases h : k > i + 1
  · rw [if_pos h]; rfl
  · rw [if_neg h]; have : i + 1 = k := by omega
    rw [this]; rfl
def croO (l : List Smp) (f t L i : Int) (acc : List (Int × Int)) : AS := ⟨tabV [(0, smps false l), (4, .one (.bx 4 0)), (5, .one (.bx 5 0)), (7, .one (.ow 7 0)), (16, iv l.length), (17, iv i)], tabO [(4, [.g (.int .i64 f), .g (.int .i64 t)]), (5, [.g (.int .i64 L)])], tabO [(7, ⟨0, 37, 2, acc.map frC⟩)]⟩
def croI (l : List Smp) (f t L i k : Int) (acc : List (Int × Int)) : AS := ⟨tabV [(0, smps false l), (4, .one (.bx 4 0)), (5, .one (.bx 5 0)), (7, .one (.ow 7 0)), (8, iv i), (9, iv k), (16, iv l.length), (17, iv i)], tabO [(4, [.g (.int .i64 f), .g (.int .i64 t)]), (5, [.g (.int .i64 L)])], tabO [(7, ⟨0, 37, 2, acc.map frC⟩)]⟩
/-- How far the inner loop is. -/
def croInv (L f t : Int) (l : List Smp) (i k : Int) (acc acc' : List (Int × Int)) : Prop :=
  (some1 L l i k = false ∧ acc' = acc ∧ inn L f t (l.getD i.toNat default) (nxt l i k) (l.drop k.toNat) = inn L f t (l.getD i.toNat default) none (l.drop (i + 1).toNat)) ∨
  (some1 L l i k = true ∧ acc' = acc ++ inn L f t (l.getD i.toNat default) none (l.drop (i + 1).toNat))
theorem croInv_on {L f t : Int} {l : List Smp} {i k : Int} {acc acc' : List (Int × Int)} (hi : 0 ≤ i) (hk : i + 1 ≤ k) (h : k < l.length) (he : some1 L l i k = true) (hI : croInv L f t l i k acc acc') : croInv L f t l i (k + 1) acc acc' := by
  rcases hI with ⟨h1, _⟩ | ⟨h1, h2⟩
  · rw [he] at h1; cases h1
  · exact .inr ⟨by rw [some1_s L l i k hi hk h, he]; rfl, h2⟩
theorem croInv_go {L f t : Int} {l : List Smp} {i k : Int} {acc acc' : List (Int × Int)} (hi : 0 ≤ i) (hk : i + 1 ≤ k) (h : k < l.length) (he : some1 L l i k = false) (hI : croInv L f t l i k acc acc') :
    acc' = acc ∧ (((l.getD k.toNat default).q ≠ 2 ∧ (l.getD k.toNat default).v = L) ∧ croInv L f t l i (k + 1) acc acc ∨
      ¬((l.getD k.toNat default).q ≠ 2 ∧ (l.getD k.toNat default).v = L) ∧ croInv L f t l i (k + 1) acc (acc ++ emit L f t (l.getD i.toNat default) (nxt l i k) (l.getD k.toNat default))) := by
  rcases hI with ⟨_, rfl, h3⟩ | ⟨h1, _⟩
  · refine ⟨rfl, ?_⟩
    rw [drop_cons l k.toNat (by omega), inn] at h3
    have e : (k + 1).toNat = k.toNat + 1 := by omega
    by_cases hb : (l.getD k.toNat default).q ≠ 2 ∧ (l.getD k.toNat default).v = L
    · rw [if_pos hb, ← nxt_s l i k hk, ← e] at h3
      exact .inl ⟨hb, .inl ⟨by rw [some1_s L l i k hi hk h, he, Bool.false_or]; unfold neB; rw [decide_eq_false (fun h => h hb.2), decide_eq_false hb.1]; rfl, rfl, h3⟩⟩
    · rw [if_neg hb] at h3
      refine .inr ⟨hb, .inr ⟨?_, by rw [h3]⟩⟩
      rw [some1_s L l i k hi hk h, he, Bool.false_or]
      unfold neB
      by_cases h4 : (l.getD k.toNat default).v = L
      · have h5 : (l.getD k.toNat default).q = 2 := by
          by_cases h6 : (l.getD k.toNat default).q = 2
          · exact h6
          · exact absurd ⟨h6, h4⟩ hb
        rw [decide_eq_true h5, Bool.or_true]
      · rw [decide_eq_true h4, Bool.true_or]
  · rw [he] at h1; cases h1
theorem croInv_skip {L f t : Int} {l : List Smp} {i k : Int} {acc acc' : List (Int × Int)} (hi : 0 ≤ i) (hk : i + 1 ≤ k) (h : k < l.length) (he : some1 L l i k = false) (hI : croInv L f t l i k acc acc') (hs : ¬((l.getD i.toNat default).q ≠ 2 ∧ (l.getD k.toNat default).q ≠ 2 ∧ sd L (l.getD i.toNat default).v * sd L (l.getD k.toNat default).v < 0)) : croInv L f t l i (k + 1) acc acc' := by
  obtain ⟨rfl, h1 | h1⟩ := croInv_go hi hk h he hI
  · exact h1.2
  · have h2 := h1.2
    unfold emit at h2
    rw [if_neg hs, List.append_nil] at h2
    exact h2
theorem crossingsOf_fc (l : List Smp) (hg : Good l) (f t L : Int) (hL : -1000000 ≤ L ∧ L ≤ 1000000) (hw : 0 ≤ f ∧ f ≤ t ∧ t ≤ 345686400000) : FC Try.prog 52 none [smps false l, winV f t, iv L] (fun _ r => r = frsV true (refGo L f t l)) := by
  refine fc_crossingsOf (by simp +arith) ?_
  have hlen := hg.len
  unfold C_crossingsOf
  simp (maxSteps := 1000000) (disch := omega) only [go_sem, eq_self, decide_true, decide_false, not_true_eq_false, not_false_eq_true, reduceIte, reduceCtorEq, Nat.reduceEqDiff, Nat.reduceAdd, Nat.reduceSub, Nat.reduceLeDiff]
  refine ex_loop2 (croO l f t L) (fun i acc => 0 ≤ i ∧ i ≤ l.length ∧ acc.length ≤ i ∧ acc ++ refGo L f t (l.drop i.toNat) = refGo L f t l) (fun i _ => (l.length - i).toNat) 0 [] ⟨by omega, by omega, by simp, by simp⟩ rfl ?_
  rintro i acc ⟨g1, g2, g3, g4⟩
  unfold croO
  by_cases hi : i < l.length
  · have e2 : (i + 1).toNat = i.toNat + 1 := by omega
    rw [drop_cons l i.toNat (by omega), refGo, ← e2] at g4
    have hil := inn_len L f t (l.getD i.toNat default) (l.drop (i + 1).toNat) none
    simp (maxSteps := 1000000) (disch := omega) only [go_sem, eq_self, decide_true, decide_false, not_true_eq_false, not_false_eq_true, reduceIte, reduceCtorEq, Nat.reduceEqDiff, Nat.reduceAdd, Nat.reduceSub, Nat.reduceLeDiff]
    refine ex_loop2 (croI l f t L i) (fun k acc' => i + 1 ≤ k ∧ k ≤ l.length ∧ croInv L f t l i k acc acc') (fun k _ => (l.length - k).toNat) (i + 1) acc ⟨by omega, by omega, .inl ⟨some1_0 L l i hi, rfl, by unfold nxt; rw [if_neg (by omega)]⟩⟩ rfl ?_
    rintro k acc' ⟨k1, k2, k3⟩
    unfold croI
    by_cases hk : k < l.length
    · have em := getD_map_at smpC l i [] g1 hi
      have ek := getD_map_at smpC l k [] (by omega) hk
      have hoi := hg.ok i.toNat (by omega)
      have hok := hg.ok k.toNat (by omega)
      have hup := hg.up i.toNat k.toNat (by omega) (by omega)
      simp (maxSteps := 1000000) (disch := omega) only [go_sem, eq_self, decide_true, decide_false, not_true_eq_false, not_false_eq_true, reduceIte, reduceCtorEq, Nat.reduceEqDiff, Nat.reduceAdd, Nat.reduceSub, Nat.reduceLeDiff]
      refine CALL_det (contSmp_fc ((l.take k.toNat).drop (i + 1).toNat) (by simp; omega) L) (.inl rfl) ?_
      cases he : some1 L l i k with
      | true =>
        have he' := he
        unfold some1 at he'
        rw [he']
        simp (maxSteps := 1000000) (disch := omega) only [go_sem, eq_self, decide_true, decide_false, not_true_eq_false, not_false_eq_true, reduceIte, reduceCtorEq, Nat.reduceEqDiff, Nat.reduceAdd, Nat.reduceSub, Nat.reduceLeDiff]
        exact ⟨_, _, rfl, ⟨by omega, by omega, croInv_on g1 k1 hk he k3⟩, by omega⟩
      | false =>
        have he' := he
        unfold some1 at he'
        rw [he']
        by_cases a1 : (l.getD i.toNat default).q = 2
        · simp (maxSteps := 1000000) (disch := omega) only [go_sem, eq_self, decide_true, decide_false, not_true_eq_false, not_false_eq_true, reduceIte, reduceCtorEq, Nat.reduceEqDiff, Nat.reduceAdd, Nat.reduceSub, Nat.reduceLeDiff]
          exact ⟨_, _, rfl, ⟨by omega, by omega, croInv_skip g1 k1 hk he k3 (fun h => h.1 a1)⟩, by omega⟩
        by_cases b1 : (l.getD k.toNat default).q = 2
        · simp (maxSteps := 1000000) (disch := omega) only [go_sem, eq_self, decide_true, decide_false, not_true_eq_false, not_false_eq_true, reduceIte, reduceCtorEq, Nat.reduceEqDiff, Nat.reduceAdd, Nat.reduceSub, Nat.reduceLeDiff]
          exact ⟨_, _, rfl, ⟨by omega, by omega, croInv_skip g1 k1 hk he k3 (fun h => h.2.1 b1)⟩, by omega⟩
        have hp : -1 ≤ sd L (l.getD i.toNat default).v * sd L (l.getD k.toNat default).v ∧ sd L (l.getD i.toNat default).v * sd L (l.getD k.toNat default).v ≤ 1 := by
          rcases sd_cases L (l.getD i.toNat default).v with ⟨_, h'⟩ | ⟨_, h'⟩ | ⟨_, h'⟩ <;> rcases sd_cases L (l.getD k.toNat default).v with ⟨_, h''⟩ | ⟨_, h''⟩ | ⟨_, h''⟩ <;> rw [h', h''] <;> omega
        simp (maxSteps := 1000000) (disch := omega) only [go_sem, eq_self, decide_true, decide_false, not_true_eq_false, not_false_eq_true, reduceIte, reduceCtorEq, Nat.reduceEqDiff, Nat.reduceAdd, Nat.reduceSub, Nat.reduceLeDiff]
        refine CALL_det (cmpInt_fc _ _) (.inl rfl) ?_
        simp (maxSteps := 1000000) (disch := omega) only [go_sem, eq_self, decide_true, decide_false, not_true_eq_false, not_false_eq_true, reduceIte, reduceCtorEq, Nat.reduceEqDiff, Nat.reduceAdd, Nat.reduceSub, Nat.reduceLeDiff]
        refine CALL_det (cmpInt_fc _ _) (.inl rfl) ?_
        by_cases hs : sd L (l.getD i.toNat default).v * sd L (l.getD k.toNat default).v < 0
        · obtain ⟨rfl, h5⟩ := croInv_go g1 k1 hk he k3
          have ho := opp_of hs
          have h6 : ¬((l.getD k.toNat default).q ≠ 2 ∧ (l.getD k.toNat default).v = L) := by unfold opp at ho; omega
          have h7 := h5.resolve_left (fun h => h6 h.1)
          have h8 := h7.2
          unfold emit at h8
          rw [if_pos ⟨a1, b1, hs⟩] at h8
          have hbd := crN_bd hoi hok hL hup ho
          have e1 := getD_map_at smpC l (i + 1) [] (by omega) (by omega)
          by_cases hk1 : k = i + 1
          · have en : nxt l i k = none := by unfold nxt; rw [if_neg (by omega)]
            rw [en] at h8
            simp only [crP] at h8
            unfold okSmp at hoi hok
            obtain ⟨q1, q2⟩ := low_win f (crN L (l.getD i.toNat default) (l.getD k.toNat default)) (crD (l.getD i.toNat default) (l.getD k.toNat default)) (by omega)
            obtain ⟨q3, q4⟩ := low_win t (crN L (l.getD i.toNat default) (l.getD k.toNat default)) (crD (l.getD i.toNat default) (l.getD k.toNat default)) (by omega)
            simp only [← q1, ← q4] at h8
            have hN : crN L (l.getD i.toNat default) (l.getD k.toNat default) = (l.getD i.toNat default).a * crD (l.getD i.toNat default) (l.getD k.toNat default) + ((l.getD k.toNat default).a - (l.getD i.toNat default).a) * max (L - (l.getD i.toNat default).v) ((l.getD i.toNat default).v - L) := rfl
            have hD : max ((l.getD k.toNat default).v - (l.getD i.toNat default).v) ((l.getD i.toNat default).v - (l.getD k.toNat default).v) = crD (l.getD i.toNat default) (l.getD k.toNat default) := rfl
            simp (maxSteps := 1000000) (disch := omega) only [go_sem, eq_self, decide_true, decide_false, not_true_eq_false, not_false_eq_true, reduceIte, reduceCtorEq, Nat.reduceEqDiff, Nat.reduceAdd, Nat.reduceSub, Nat.reduceLeDiff]
            refine CALL_det (far_fc _ _ (by omega) (by omega)) (.inl rfl) ?_
            rw [hD]
            simp (maxSteps := 1000000) (disch := omega) only [go_sem, eq_self, decide_true, decide_false, not_true_eq_false, not_false_eq_true, reduceIte, reduceCtorEq, Nat.reduceEqDiff, Nat.reduceAdd, Nat.reduceSub, Nat.reduceLeDiff]
            refine CALL_det (far_fc _ _ (by omega) (by omega)) (.inl rfl) ?_
            simp (maxSteps := 1000000) (disch := omega) only [go_sem, eq_self, decide_true, decide_false, not_true_eq_false, not_false_eq_true, reduceIte, reduceCtorEq, Nat.reduceEqDiff, Nat.reduceAdd, Nat.reduceSub, Nat.reduceLeDiff]
            rw [← hN]
            refine CALL_det (lowest_fc _ _ (by omega) (by omega) (by omega)) (.inl rfl) ?_
            have hlw := low_eq (crN L (l.getD i.toNat default) (l.getD k.toNat default)) (crD (l.getD i.toNat default) (l.getD k.toNat default)) (by omega)
            have hdb := tdiv_bd (n := crD (l.getD i.toNat default) (l.getD k.toNat default)) (B := 2000000) hlw.2.2.1 (by omega) (by omega)
            have hdb' : lowD (crN L (l.getD i.toNat default) (l.getD k.toNat default)) (crD (l.getD i.toNat default) (l.getD k.toNat default)) ≤ 2000000 := hdb.2
            have hd1 := hlw.2.2.2
            generalize lowN (crN L (l.getD i.toNat default) (l.getD k.toNat default)) (crD (l.getD i.toNat default) (l.getD k.toNat default)) = N at *
            generalize lowD (crN L (l.getD i.toNat default) (l.getD k.toNat default)) (crD (l.getD i.toNat default) (l.getD k.toNat default)) = D at *
            have m1 := mul_bd (a := f) (b := D) (A := 345686400000) (B := 2000000) ⟨by omega, by omega⟩ ⟨by omega, by omega⟩
            have m2 := mul_bd (a := t) (b := D) (A := 345686400000) (B := 2000000) ⟨by omega, by omega⟩ ⟨by omega, by omega⟩
            by_cases c5 : f * D ≤ N
            · by_cases c6 : N < t * D
              · rw [if_pos ⟨c5, c6⟩] at h8
                simp (maxSteps := 1000000) (disch := omega) only [go_sem, eq_self, decide_true, decide_false, not_true_eq_false, not_false_eq_true, reduceIte, reduceCtorEq, Nat.reduceEqDiff, Nat.reduceAdd, Nat.reduceSub, Nat.reduceLeDiff]
                exact ⟨k + 1, acc' ++ [(N, D)], by simp only [croI, List.map_append, List.map_cons, List.map_nil, frC_eq], ⟨by omega, by omega, h8⟩, by omega⟩
              · rw [if_neg (fun h => c6 h.2), List.append_nil] at h8
                simp (maxSteps := 1000000) (disch := omega) only [go_sem, eq_self, decide_true, decide_false, not_true_eq_false, not_false_eq_true, reduceIte, reduceCtorEq, Nat.reduceEqDiff, Nat.reduceAdd, Nat.reduceSub, Nat.reduceLeDiff]
                exact ⟨_, _, rfl, ⟨by omega, by omega, h8⟩, by omega⟩
            · rw [if_neg (fun h => c5 h.1), List.append_nil] at h8
              simp (maxSteps := 1000000) (disch := omega) only [go_sem, eq_self, decide_true, decide_false, not_true_eq_false, not_false_eq_true, reduceIte, reduceCtorEq, Nat.reduceEqDiff, Nat.reduceAdd, Nat.reduceSub, Nat.reduceLeDiff]
              exact ⟨_, _, rfl, ⟨by omega, by omega, h8⟩, by omega⟩
          · have en : nxt l i k = some (l.getD (i + 1).toNat default).a := by unfold nxt; rw [if_pos (by omega)]
            rw [en] at h8
            simp only [crP, lowN_one, lowD_one] at h8
            have ho1 := hg.ok (i + 1).toNat (by omega)
            unfold okSmp at ho1
            by_cases c5 : f * 1 ≤ (l.getD (i + 1).toNat default).a
            · by_cases c6 : (l.getD (i + 1).toNat default).a < t * 1
              · rw [if_pos ⟨c5, c6⟩] at h8
                simp (maxSteps := 1000000) (disch := omega) only [go_sem, eq_self, decide_true, decide_false, not_true_eq_false, not_false_eq_true, reduceIte, reduceCtorEq, Nat.reduceEqDiff, Nat.reduceAdd, Nat.reduceSub, Nat.reduceLeDiff]
                exact ⟨k + 1, acc' ++ [((l.getD (i + 1).toNat default).a, 1)], by simp only [croI, List.map_append, List.map_cons, List.map_nil, frC_eq], ⟨by omega, by omega, h8⟩, by omega⟩
              · rw [if_neg (fun h => c6 h.2), List.append_nil] at h8
                simp (maxSteps := 1000000) (disch := omega) only [go_sem, eq_self, decide_true, decide_false, not_true_eq_false, not_false_eq_true, reduceIte, reduceCtorEq, Nat.reduceEqDiff, Nat.reduceAdd, Nat.reduceSub, Nat.reduceLeDiff]
                exact ⟨_, _, rfl, ⟨by omega, by omega, h8⟩, by omega⟩
            · rw [if_neg (fun h => c5 h.1), List.append_nil] at h8
              simp (maxSteps := 1000000) (disch := omega) only [go_sem, eq_self, decide_true, decide_false, not_true_eq_false, not_false_eq_true, reduceIte, reduceCtorEq, Nat.reduceEqDiff, Nat.reduceAdd, Nat.reduceSub, Nat.reduceLeDiff]
              exact ⟨_, _, rfl, ⟨by omega, by omega, h8⟩, by omega⟩
        · simp (maxSteps := 1000000) (disch := omega) only [go_sem, eq_self, decide_true, decide_false, not_true_eq_false, not_false_eq_true, reduceIte, reduceCtorEq, Nat.reduceEqDiff, Nat.reduceAdd, Nat.reduceSub, Nat.reduceLeDiff]
          exact ⟨_, _, rfl, ⟨by omega, by omega, croInv_skip g1 k1 hk he k3 (fun h => hs h.2.2)⟩, by omega⟩
    · have hkk : k = l.length := by omega
      have hr : acc' = acc ++ inn L f t (l.getD i.toNat default) none (l.drop (i + 1).toNat) := by
        rcases k3 with ⟨_, h2, h3⟩ | ⟨_, h2⟩
        · rw [List.drop_eq_nil_of_le (show l.length ≤ k.toNat by omega), inn] at h3
          rw [← h3, List.append_nil, h2]
        · exact h2
      simp (maxSteps := 1000000) (disch := omega) only [go_sem, eq_self, decide_true, decide_false, not_true_eq_false, not_false_eq_true, reduceIte, reduceCtorEq, Nat.reduceEqDiff, Nat.reduceAdd, Nat.reduceSub, Nat.reduceLeDiff]
      refine ⟨_, _, rfl, ⟨by omega, by omega, by rw [hr, List.length_append]; omega, by rw [hr, List.append_assoc]; exact g4⟩, by omega⟩
  · rw [List.drop_eq_nil_of_le (by omega), refGo, List.append_nil] at g4
    simp (maxSteps := 1000000) (disch := omega) only [go_sem, eq_self, decide_true, decide_false, not_true_eq_false, not_false_eq_true, reduceIte, reduceCtorEq, Nat.reduceEqDiff, Nat.reduceAdd, Nat.reduceSub, Nat.reduceLeDiff]
    rw [g4]
end Go.Proofs.Ytkecmbgjhamhiaa

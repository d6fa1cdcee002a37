
/-
  The reference's frames; overlaps, by both ways.
-/
import Derived.Test.YtmbpfhpdicjpcaaFrg
import Derived.Test.YtmbpfhpdicjpcaaFrl
namespace Go.Proofs.Ytmbpfhpdicjpcaa
open Go Go.Ai
set_option linter.unusedSimpArgs false
set_option linter.unusedVariables false
set_option maxHeartbeats 4000000
def A_rlong : List Ann := [⟨(some ⟨[1], [1], []⟩), [], [], [], []⟩, ⟨(some ⟨[2], [], []⟩), [], [], [], []⟩]
def C_rlong : AC := (.seq (.reg false [⟨(some 1), none, .box (.t 0)⟩, ⟨(some 2), none, .mv (.v (.int .i64 (0)))⟩] (some ⟨[1], [1], []⟩))
  (.seq (.reg false [⟨(some 3), none, .fadr 1 (.t 1)⟩, ⟨(some 4), none, .load false 1 (.t 3)⟩, ⟨(some 5), none, .fadr 0 (.t 1)⟩, ⟨(some 6), none, .load false 1 (.t 5)⟩, ⟨(some 7), none, .bin .sub (.t 4) (.t 6)⟩, ⟨(some 2), none, .mv (.t 7)⟩] (some ⟨[2], [], []⟩))
  .ret))
theorem c_rlong : compileCode Try.prog Try.f104.ntmps (Try.f104.body.getD .skip) A_rlong = some (C_rlong, []) := by kernel_rfl
theorem r_rlong : compileRes Try.prog Try.f104.results.toList = some [.t 2] := by kernel_rfl
theorem b_rlong : Try.f104.body = some (Try.f104.body.getD .skip) := by kernel_rfl
theorem n_rlong : (Try.f104.name == "runtime.NumGoroutine") = false := by kernel_rfl
theorem fc_rlong {xt : Option (List Cel)} {args : List Val} {R : List Cel → Val → Prop} (hn : (if xt.isSome then 1 else 0) + args.length ≤ Try.f104.ntmps) (h : ex Try.prog C_rlong [] (fpost xt [.t 2] R) (initSt xt args)) : FC Try.prog 104 xt args R :=
  fc_of_awp Try.func104 b_rlong n_rlong c_rlong r_rlong (of_decide_eq_true (by kernel_rfl)) hn h

def A_overlaps : List Ann := [⟨(some ⟨[0,1], [], []⟩), [], [], [], []⟩, ⟨(some ⟨[0,1,7], [], []⟩), [], [], [], []⟩, ⟨(some ⟨[0,1,7,18], [], []⟩), [], [], [], []⟩, ⟨(some ⟨[4,5,6], [], []⟩), [], [], [(4, 2)], []⟩, ⟨(some ⟨[0,1,8], [], []⟩), [(8, 49, 2)], [], [], []⟩, ⟨(some ⟨[0,1,8,9], [], [8]⟩), [], [], [], []⟩, ⟨(some ⟨[0,1,8,9,27], [], [8]⟩), [], [], [], []⟩, ⟨(some ⟨[0,1,8,9,10], [10], [8]⟩), [], [(1, none), (2, none), (3, none), (5, none), (6, none), (7, none), (10, none), (11, none), (12, none), (14, none), (15, none), (16, none)], [], []⟩, ⟨(some ⟨[0,1,8,9,10,51], [10], [8]⟩), [], [], [], []⟩, ⟨(some ⟨[0,1,8,9,10], [10], [8]⟩), [], [], [], []⟩, ⟨(some ⟨[0,1,8,9], [], [8]⟩), [], [], [], []⟩, ⟨(some ⟨[0,1,8,9,71], [], [8]⟩), [], [], [], []⟩, ⟨(some ⟨[0,1,8,9], [], [8]⟩), [], [], [], []⟩, ⟨(some ⟨[0,1,8,9], [], [8]⟩), [], [], [], []⟩, ⟨(some ⟨[4,5,6], [], []⟩), [], [], [], []⟩]
def C_overlaps : AC := (.seq (.reg false [⟨(some 4), none, .mv (.v (.slice none 0 0))⟩, ⟨(some 5), none, .mv (.v (.int .i64 (0)))⟩, ⟨(some 6), none, .mv (.v (.int .i64 (0)))⟩] (some ⟨[0,1], [], []⟩))
  (.seq (.seq (.reg false [⟨(some 11), none, .mv (.t 0)⟩, ⟨(some 12), none, .call (.f 22) [(.t 11)]⟩, ⟨(some 13), none, .mv (.t 1)⟩, ⟨(some 14), none, .call (.f 22) [(.t 13)]⟩, ⟨(some 15), none, .bslice 1 2 [(.t 12), (.t 14)]⟩, ⟨(some 16), none, .call (.f 97) [(.t 15)]⟩, ⟨(some 7), none, .mv (.t 16)⟩] (some ⟨[0,1,7], [], []⟩))
  (.seq (.reg false [⟨(some 17), none, .mv (.t 7)⟩, ⟨(some 18), none, .bin .neq (.t 17) (.v (.int .i64 (0)))⟩] (some ⟨[0,1,7,18], [], []⟩))
  (.cond (.t 18)
  (.seq (.seq (.reg false [⟨(some 19), none, .mv (.t 7)⟩, ⟨(some 4), none, .mv (.v (.slice none 0 0))⟩, ⟨(some 5), none, .mv (.v (.int .i64 (0)))⟩, ⟨(some 6), none, .mv (.t 19)⟩] (some ⟨[4,5,6], [], []⟩))
  (.ty 4 2))
  .ret)
  .skip)))
  (.seq (.seq (.reg false [⟨(some 8), none, .mv (.v (.slice none 0 0))⟩] (some ⟨[0,1,8], [], []⟩))
  (.own 8 49 2))
  (.seq (.reg false [⟨(some 9), none, .mv (.v (.int .i64 (0)))⟩] (some ⟨[0,1,8,9], [], [8]⟩))
  (.seq (.block 0 (.loop (.seq (.seq (.reg false [⟨(some 20), none, .mv (.t 0)⟩, ⟨(some 21), none, .len (.t 20)⟩, ⟨(some 22), none, .bin .gtr (.t 21) (.v (.int .i64 (0)))⟩, ⟨(some 23), none, .mv (.t 22)⟩, ⟨(some 24), (some (23, true)), .mv (.t 1)⟩, ⟨(some 25), (some (23, true)), .len (.t 24)⟩, ⟨(some 26), (some (23, true)), .bin .gtr (.t 25) (.v (.int .i64 (0)))⟩, ⟨(some 27), none, .pick (.t 23) (.t 26) (.v (.bool false))⟩] (some ⟨[0,1,8,9,27], [], [8]⟩))
  (.cond (.t 27)
  .skip
  (.exit 0)))
  (.block 1 (.seq (.reg true [⟨(some 28), none, .mv (.t 0)⟩, ⟨none, none, .chk (.t 28) none⟩, ⟨(some 29), none, .iadr 2 (.t 28) (.v (.int .i64 (0)))⟩, ⟨none, none, .chk (.t 29) none⟩, ⟨(some 30), none, .fadr 0 (.t 29)⟩, ⟨none, none, .chk (.t 30) none⟩, ⟨(some 31), none, .load false 1 (.t 30)⟩, ⟨(some 32), none, .mv (.t 1)⟩, ⟨none, none, .chk (.t 32) none⟩, ⟨(some 33), none, .iadr 2 (.t 32) (.v (.int .i64 (0)))⟩, ⟨none, none, .chk (.t 33) none⟩, ⟨(some 34), none, .fadr 0 (.t 33)⟩, ⟨none, none, .chk (.t 34) none⟩, ⟨(some 35), none, .load false 1 (.t 34)⟩, ⟨(some 36), none, .mnx true (.t 31) (.t 35)⟩, ⟨(some 37), none, .mv (.t 0)⟩, ⟨none, none, .chk (.t 37) none⟩, ⟨(some 38), none, .iadr 2 (.t 37) (.v (.int .i64 (0)))⟩, ⟨none, none, .chk (.t 38) none⟩, ⟨(some 39), none, .fadr 1 (.t 38)⟩, ⟨none, none, .chk (.t 39) none⟩, ⟨(some 40), none, .load false 1 (.t 39)⟩, ⟨(some 41), none, .mv (.t 1)⟩, ⟨none, none, .chk (.t 41) none⟩, ⟨(some 42), none, .iadr 2 (.t 41) (.v (.int .i64 (0)))⟩, ⟨none, none, .chk (.t 42) none⟩, ⟨(some 43), none, .fadr 1 (.t 42)⟩, ⟨none, none, .chk (.t 43) none⟩, ⟨(some 44), none, .load false 1 (.t 43)⟩, ⟨(some 45), none, .mnx false (.t 40) (.t 44)⟩, ⟨(some 46), none, .build [(.int .i64 (0)), (.int .i64 (0))] [(0, 1, (.t 36)), (1, 1, (.t 45))]⟩, ⟨(some 10), none, .alloc [(.int .i64 (0)), (.int .i64 (0))]⟩, ⟨none, none, .store 2 (.t 10) (.t 46)⟩] (some ⟨[0,1,8,9,10], [10], [8]⟩))
  (.seq (.seq (.reg false [⟨(some 47), none, .fadr 0 (.t 10)⟩, ⟨(some 48), none, .load false 1 (.t 47)⟩, ⟨(some 49), none, .fadr 1 (.t 10)⟩, ⟨(some 50), none, .load false 1 (.t 49)⟩, ⟨(some 51), none, .bin .lss (.t 48) (.t 50)⟩] (some ⟨[0,1,8,9,10,51], [10], [8]⟩))
  (.cond (.t 51)
  (.seq (.reg false [⟨(some 52), none, .mv (.t 9)⟩, ⟨(some 53), none, .fadr 1 (.t 10)⟩, ⟨(some 54), none, .load false 1 (.t 53)⟩, ⟨(some 55), none, .fadr 0 (.t 10)⟩, ⟨(some 56), none, .load false 1 (.t 55)⟩, ⟨(some 57), none, .bin .sub (.t 54) (.t 56)⟩, ⟨(some 58), none, .bin .add (.t 52) (.t 57)⟩, ⟨(some 9), none, .mv (.t 58)⟩] (some ⟨[0,1,8,9,10], [10], [8]⟩))
  (.reg false [⟨(some 59), none, .mv (.t 8)⟩, ⟨(some 60), none, .load true 2 (.t 10)⟩, ⟨(some 61), none, .bslice 2 1 [(.t 60)]⟩, ⟨(some 62), none, .append 49 2 16 (.t 59) (.t 61)⟩, ⟨(some 8), none, .mv (.t 62)⟩] (some ⟨[0,1,8,9], [], [8]⟩)))
  .skip))
  (.seq (.reg true [⟨(some 63), none, .mv (.t 0)⟩, ⟨(some 64), none, .iadr 2 (.t 63) (.v (.int .i64 (0)))⟩, ⟨(some 65), none, .fadr 1 (.t 64)⟩, ⟨(some 66), none, .load false 1 (.t 65)⟩, ⟨(some 67), none, .mv (.t 1)⟩, ⟨(some 68), none, .iadr 2 (.t 67) (.v (.int .i64 (0)))⟩, ⟨(some 69), none, .fadr 1 (.t 68)⟩, ⟨(some 70), none, .load false 1 (.t 69)⟩, ⟨(some 71), none, .bin .leq (.t 66) (.t 70)⟩] (some ⟨[0,1,8,9,71], [], [8]⟩))
  (.cond (.t 71)
  (.reg false [⟨(some 72), none, .mv (.t 0)⟩, ⟨(some 73), none, .slc 2 (.t 72) (some (.v (.int .i64 (1)))) none⟩, ⟨(some 0), none, .mv (.t 73)⟩] (some ⟨[0,1,8,9], [], [8]⟩))
  (.reg false [⟨(some 74), none, .mv (.t 1)⟩, ⟨(some 75), none, .slc 2 (.t 74) (some (.v (.int .i64 (1)))) none⟩, ⟨(some 1), none, .mv (.t 75)⟩] (some ⟨[0,1,8,9], [], [8]⟩))))))))))
  (.seq (.reg false [⟨(some 76), none, .mv (.t 8)⟩, ⟨(some 77), none, .mv (.t 9)⟩, ⟨(some 4), none, .mv (.t 76)⟩, ⟨(some 5), none, .mv (.t 77)⟩, ⟨(some 6), none, .mv (.v (.int .i64 (0)))⟩] (some ⟨[4,5,6], [], []⟩))
  .ret))))))
theorem c_overlaps : compileCode Try.prog Try.f24.ntmps (Try.f24.body.getD .skip) A_overlaps = some (C_overlaps, []) := by kernel_rfl
theorem r_overlaps : compileRes Try.prog Try.f24.results.toList = some [.t 4, .t 5, .t 6] := by kernel_rfl
theorem b_overlaps : Try.f24.body = some (Try.f24.body.getD .skip) := by kernel_rfl
theorem n_overlaps : (Try.f24.name == "runtime.NumGoroutine") = false := by kernel_rfl
theorem fc_overlaps {xt : Option (List Cel)} {args : List Val} {R : List Cel → Val → Prop} (hn : (if xt.isSome then 1 else 0) + args.length ≤ Try.f24.ntmps) (h : ex Try.prog C_overlaps [] (fpost xt [.t 4, .t 5, .t 6] R) (initSt xt args)) : FC Try.prog 24 xt args R :=
  fc_of_awp Try.func24 b_overlaps n_overlaps c_overlaps r_overlaps (of_decide_eq_true (by kernel_rfl)) hn h

def A_overlapsOf : List Ann := [⟨(some ⟨[0,1], [], []⟩), [], [], [], []⟩, ⟨(some ⟨[0,1,6], [], []⟩), [(6, 49, 2)], [], [], []⟩, ⟨(some ⟨[0,1,6,7], [], [6]⟩), [], [], [], []⟩, ⟨(some ⟨[1,6,7,13,14,15], [], [6]⟩), [], [], [], []⟩, ⟨(some ⟨[1,6,7,13,14,15,16], [], [6]⟩), [], [], [], []⟩, ⟨(some ⟨[1,6,7,9,13,14,15], [9], [6]⟩), [], [], [], []⟩, ⟨(some ⟨[1,6,7,9,13,14,15,19,20,21], [9], [6]⟩), [], [], [], []⟩, ⟨(some ⟨[1,6,7,9,13,14,15,19,20,21,22], [9], [6]⟩), [], [], [], []⟩, ⟨(some ⟨[1,6,7,9,11,13,14,15,19,20,21], [9,11], [6]⟩), [], [], [], []⟩, ⟨(some ⟨[1,6,7,9,12,13,14,15,19,20,21], [9,12], [6]⟩), [], [], [], []⟩, ⟨(some ⟨[1,6,7,9,12,13,14,15,19,20,21,40], [9,12], [6]⟩), [], [], [], []⟩, ⟨(some ⟨[1,6,7,9,12,13,14,15,19,20,21], [9,12], [6]⟩), [], [], [], []⟩, ⟨(some ⟨[1,6,7,9,13,14,15,19,20,21], [9], [6]⟩), [], [], [], []⟩, ⟨(some ⟨[1,6,7,9,13,14,15,19,20,21], [9], [6]⟩), [], [], [], []⟩, ⟨(some ⟨[1,6,7,13,14,15], [], [6]⟩), [], [], [], []⟩, ⟨(some ⟨[4,5], [], []⟩), [], [], [], []⟩]
def C_overlapsOf : AC := (.seq (.reg false [⟨(some 4), none, .mv (.v (.slice none 0 0))⟩, ⟨(some 5), none, .mv (.v (.int .i64 (0)))⟩] (some ⟨[0,1], [], []⟩))
  (.seq (.seq (.reg false [⟨(some 6), none, .mv (.v (.slice none 0 0))⟩] (some ⟨[0,1,6], [], []⟩))
  (.own 6 49 2))
  (.seq (.reg false [⟨(some 7), none, .mv (.v (.int .i64 (0)))⟩] (some ⟨[0,1,6,7], [], [6]⟩))
  (.seq (.seq (.reg false [⟨(some 13), none, .mv (.t 0)⟩, ⟨(some 14), none, .len (.t 13)⟩, ⟨(some 15), none, .mv (.v (.int .i64 (0)))⟩] (some ⟨[1,6,7,13,14,15], [], [6]⟩))
  (.block 0 (.loop (.seq (.reg false [⟨(some 16), none, .bin .lss (.t 15) (.t 14)⟩] (some ⟨[1,6,7,13,14,15,16], [], [6]⟩))
  (.seq (.cond (.t 16)
  .skip
  (.exit 0))
  (.seq (.block 1 (.seq (.reg false [⟨(some 17), none, .iadr 2 (.t 13) (.t 15)⟩, ⟨(some 18), none, .load true 2 (.t 17)⟩, ⟨(some 9), none, .alloc [(.int .i64 (0)), (.int .i64 (0))]⟩, ⟨none, none, .store 2 (.t 9) (.t 18)⟩] (some ⟨[1,6,7,9,13,14,15], [9], [6]⟩))
  (.seq (.reg false [⟨(some 19), none, .mv (.t 1)⟩, ⟨(some 20), none, .len (.t 19)⟩, ⟨(some 21), none, .mv (.v (.int .i64 (0)))⟩] (some ⟨[1,6,7,9,13,14,15,19,20,21], [9], [6]⟩))
  (.block 2 (.loop (.seq (.reg false [⟨(some 22), none, .bin .lss (.t 21) (.t 20)⟩] (some ⟨[1,6,7,9,13,14,15,19,20,21,22], [9], [6]⟩))
  (.seq (.cond (.t 22)
  .skip
  (.exit 2))
  (.seq (.block 3 (.seq (.reg false [⟨(some 23), none, .iadr 2 (.t 19) (.t 21)⟩, ⟨(some 24), none, .load true 2 (.t 23)⟩, ⟨(some 11), none, .alloc [(.int .i64 (0)), (.int .i64 (0))]⟩, ⟨none, none, .store 2 (.t 11) (.t 24)⟩] (some ⟨[1,6,7,9,11,13,14,15,19,20,21], [9,11], [6]⟩))
  (.seq (.reg false [⟨(some 25), none, .fadr 0 (.t 9)⟩, ⟨(some 26), none, .load false 1 (.t 25)⟩, ⟨(some 27), none, .fadr 0 (.t 11)⟩, ⟨(some 28), none, .load false 1 (.t 27)⟩, ⟨(some 29), none, .mnx true (.t 26) (.t 28)⟩, ⟨(some 30), none, .fadr 1 (.t 9)⟩, ⟨(some 31), none, .load false 1 (.t 30)⟩, ⟨(some 32), none, .fadr 1 (.t 11)⟩, ⟨(some 33), none, .load false 1 (.t 32)⟩, ⟨(some 34), none, .mnx false (.t 31) (.t 33)⟩, ⟨(some 35), none, .build [(.int .i64 (0)), (.int .i64 (0))] [(0, 1, (.t 29)), (1, 1, (.t 34))]⟩, ⟨(some 12), none, .alloc [(.int .i64 (0)), (.int .i64 (0))]⟩, ⟨none, none, .store 2 (.t 12) (.t 35)⟩] (some ⟨[1,6,7,9,12,13,14,15,19,20,21], [9,12], [6]⟩))
  (.seq (.reg false [⟨(some 36), none, .fadr 0 (.t 12)⟩, ⟨(some 37), none, .load false 1 (.t 36)⟩, ⟨(some 38), none, .fadr 1 (.t 12)⟩, ⟨(some 39), none, .load false 1 (.t 38)⟩, ⟨(some 40), none, .bin .lss (.t 37) (.t 39)⟩] (some ⟨[1,6,7,9,12,13,14,15,19,20,21,40], [9,12], [6]⟩))
  (.cond (.t 40)
  (.seq (.reg false [⟨(some 41), none, .mv (.t 6)⟩, ⟨(some 42), none, .load true 2 (.t 12)⟩, ⟨(some 43), none, .bslice 2 1 [(.t 42)]⟩, ⟨(some 44), none, .append 49 2 16 (.t 41) (.t 43)⟩, ⟨(some 6), none, .mv (.t 44)⟩] (some ⟨[1,6,7,9,12,13,14,15,19,20,21], [9,12], [6]⟩))
  (.reg false [⟨(some 45), none, .mv (.t 7)⟩, ⟨(some 46), none, .load true 2 (.t 12)⟩, ⟨(some 47), none, .call (.f 104) [(.t 46)]⟩, ⟨(some 48), none, .bin .add (.t 45) (.t 47)⟩, ⟨(some 7), none, .mv (.t 48)⟩] (some ⟨[1,6,7,9,13,14,15,19,20,21], [9], [6]⟩)))
  .skip)))))
  (.reg false [⟨(some 49), none, .bin .add (.t 21) (.v (.int .i64 (1)))⟩, ⟨(some 21), none, .mv (.t 49)⟩] (some ⟨[1,6,7,9,13,14,15,19,20,21], [9], [6]⟩))))))))))
  (.reg false [⟨(some 50), none, .bin .add (.t 15) (.v (.int .i64 (1)))⟩, ⟨(some 15), none, .mv (.t 50)⟩] (some ⟨[1,6,7,13,14,15], [], [6]⟩))))))))
  (.seq (.reg false [⟨(some 51), none, .mv (.t 6)⟩, ⟨(some 52), none, .mv (.t 7)⟩, ⟨(some 4), none, .mv (.t 51)⟩, ⟨(some 5), none, .mv (.t 52)⟩] (some ⟨[4,5], [], []⟩))
  .ret)))))
theorem c_overlapsOf : compileCode Try.prog Try.f29.ntmps (Try.f29.body.getD .skip) A_overlapsOf = some (C_overlapsOf, []) := by kernel_rfl
theorem r_overlapsOf : compileRes Try.prog Try.f29.results.toList = some [.t 4, .t 5] := by kernel_rfl
theorem b_overlapsOf : Try.f29.body = some (Try.f29.body.getD .skip) := by kernel_rfl
theorem n_overlapsOf : (Try.f29.name == "runtime.NumGoroutine") = false := by kernel_rfl
theorem fc_overlapsOf {xt : Option (List Cel)} {args : List Val} {R : List Cel → Val → Prop} (hn : (if xt.isSome then 1 else 0) + args.length ≤ Try.f29.ntmps) (h : ex Try.prog C_overlapsOf [] (fpost xt [.t 4, .t 5] R) (initSt xt args)) : FC Try.prog 29 xt args R :=
  fc_of_awp Try.func29 b_overlapsOf n_overlapsOf c_overlapsOf r_overlapsOf (of_decide_eq_true (by kernel_rfl)) hn h

def A_foClos : List Ann := [⟨(some ⟨[1,2], [2], []⟩), [], [], [], []⟩, ⟨(some ⟨[3], [], []⟩), [], [], [], []⟩]
def C_foClos : AC := (.seq (.reg false [⟨(some 2), none, .box (.t 0)⟩, ⟨(some 3), none, .mv (.v (.bool false))⟩] (some ⟨[1,2], [2], []⟩))
  (.seq (.reg true [⟨(some 4), none, .load true 2 (.t 2)⟩, ⟨(some 5), none, .call (.f 104) [(.t 4)]⟩, ⟨(some 6), none, .fadr 3 (.t 1)⟩, ⟨(some 7), none, .load false 1 (.t 6)⟩, ⟨(some 8), none, .bin .lss (.t 5) (.t 7)⟩, ⟨(some 3), none, .mv (.t 8)⟩] (some ⟨[3], [], []⟩))
  .ret))
theorem c_foClos : compileCode Try.prog Try.f103.ntmps (Try.f103.body.getD .skip) A_foClos = some (C_foClos, []) := by kernel_rfl
theorem r_foClos : compileRes Try.prog Try.f103.results.toList = some [.t 3] := by kernel_rfl
theorem b_foClos : Try.f103.body = some (Try.f103.body.getD .skip) := by kernel_rfl
theorem n_foClos : (Try.f103.name == "runtime.NumGoroutine") = false := by kernel_rfl
theorem fc_foClos {xt : Option (List Cel)} {args : List Val} {R : List Cel → Val → Prop} (hn : (if xt.isSome then 1 else 0) + args.length ≤ Try.f103.ntmps) (h : ex Try.prog C_foClos [] (fpost xt [.t 3] R) (initSt xt args)) : FC Try.prog 103 xt args R :=
  fc_of_awp Try.func103 b_foClos n_foClos c_foClos r_foClos (of_decide_eq_true (by kernel_rfl)) hn h

def A_framesOf : List Ann := [⟨(some ⟨[1,2,3], [3], []⟩), [], [], [], []⟩, ⟨(some ⟨[1,2,3,8], [3], []⟩), [(8, 49, 2)], [], [], []⟩, ⟨(some ⟨[1,2,3,8,9], [3], [8]⟩), [], [], [], []⟩, ⟨(some ⟨[2,3,8,9,16,17,18], [3], [8]⟩), [], [], [], []⟩, ⟨(some ⟨[2,3,8,9,16,17,18,19], [3], [8]⟩), [], [], [], []⟩, ⟨(some ⟨[2,3,8,9,11,16,17,18], [3,11], [8]⟩), [], [], [], []⟩, ⟨(some ⟨[2,3,8,9,11,16,17,18,22], [3,11], [8]⟩), [], [], [], []⟩, ⟨(some ⟨[2,3,8,9,11,16,17,18,32], [3,11], [8]⟩), [], [], [], []⟩, ⟨(some ⟨[2,3,8,9,16,17,18], [3], [8]⟩), [], [], [], []⟩, ⟨(some ⟨[2,3,8,9,11,16,17,18,49], [3,11], [8]⟩), [], [], [], []⟩, ⟨(some ⟨[2,3,8,9,16,17,18], [3], [8]⟩), [], [], [], []⟩, ⟨(some ⟨[2,3,8,9,16,17,18], [3], [8]⟩), [], [], [], []⟩, ⟨(some ⟨[3,8,12], [3], []⟩), [(12, 49, 2)], [], [], []⟩, ⟨(some ⟨[3,12,67,68,69], [3], [12]⟩), [], [], [], []⟩, ⟨(some ⟨[3,12,67,68,69,70], [3], [12]⟩), [], [], [], []⟩, ⟨(some ⟨[3,12,14,67,68,69], [3,14], [12]⟩), [], [], [], []⟩, ⟨(some ⟨[3,12,14,15,67,68,69], [3,14], [12]⟩), [], [], [], []⟩, ⟨(some ⟨[3,12,14,15,67,68,69,90], [3,14], [12]⟩), [], [], [], []⟩, ⟨(some ⟨[3,12,67,68,69], [3], [12]⟩), [], [], [], []⟩, ⟨(some ⟨[3,12,67,68,69], [3], [12]⟩), [], [], [], []⟩, ⟨(some ⟨[3,12,67,68,69], [3], [12]⟩), [], [], [], []⟩, ⟨(some ⟨[3,12], [3], []⟩), [], [], [], [(105, ⟨[3], [12], [3], [12]⟩)]⟩, ⟨(some ⟨[3,12,108], [3], []⟩), [], [], [], []⟩, ⟨(some ⟨[3,6,7], [3], []⟩), [], [], [(6, 2)], []⟩, ⟨(some ⟨[3,6,7], [3], []⟩), [], [], [], []⟩]
def C_framesOf : AC := (.seq (.reg false [⟨(some 3), none, .box (.t 0)⟩, ⟨(some 6), none, .mv (.v (.slice none 0 0))⟩, ⟨(some 7), none, .mv (.v (.int .i64 (0)))⟩] (some ⟨[1,2,3], [3], []⟩))
  (.seq (.seq (.reg false [⟨(some 8), none, .mv (.v (.slice none 0 0))⟩] (some ⟨[1,2,3,8], [3], []⟩))
  (.own 8 49 2))
  (.seq (.reg false [⟨(some 9), none, .mv (.v (.bool false))⟩] (some ⟨[1,2,3,8,9], [3], [8]⟩))
  (.seq (.seq (.reg false [⟨(some 16), none, .mv (.t 1)⟩, ⟨(some 17), none, .len (.t 16)⟩, ⟨(some 18), none, .mv (.v (.int .i64 (0)))⟩] (some ⟨[2,3,8,9,16,17,18], [3], [8]⟩))
  (.block 0 (.loop (.seq (.reg false [⟨(some 19), none, .bin .lss (.t 18) (.t 17)⟩] (some ⟨[2,3,8,9,16,17,18,19], [3], [8]⟩))
  (.seq (.cond (.t 19)
  .skip
  (.exit 0))
  (.seq (.block 1 (.seq (.reg false [⟨(some 20), none, .iadr 3 (.t 16) (.t 18)⟩, ⟨(some 21), none, .load true 3 (.t 20)⟩, ⟨(some 11), none, .alloc [(.int .i64 (0)), (.int .i64 (0)), (.int .i64 (0))]⟩, ⟨none, none, .store 3 (.t 11) (.t 21)⟩] (some ⟨[2,3,8,9,11,16,17,18], [3,11], [8]⟩))
  (.block 2 (.seq (.reg false [⟨(some 23), none, .fadr 0 (.t 11)⟩, ⟨(some 24), none, .load false 1 (.t 23)⟩, ⟨(some 25), none, .mv (.t 2)⟩, ⟨(some 26), none, .bin .geq (.t 24) (.t 25)⟩, ⟨(some 27), none, .mv (.t 26)⟩, ⟨(some 28), (some (27, false)), .fadr 2 (.t 11)⟩, ⟨(some 29), (some (27, false)), .load false 1 (.t 28)⟩, ⟨(some 30), (some (27, false)), .bin .eql (.t 29) (.v (.int .i64 (2)))⟩, ⟨(some 31), none, .pick (.t 27) (.v (.bool true)) (.t 30)⟩, ⟨(some 22), none, .mv (.t 31)⟩] (some ⟨[2,3,8,9,11,16,17,18,22], [3,11], [8]⟩))
  (.cond (.t 22)
  .skip
  (.seq (.reg false [⟨(some 33), none, .mv (.t 9)⟩, ⟨(some 34), none, .un .not (.t 33)⟩, ⟨(some 35), none, .mv (.t 34)⟩, ⟨(some 36), (some (35, true)), .fadr 1 (.t 11)⟩, ⟨(some 37), (some (35, true)), .load false 1 (.t 36)⟩, ⟨(some 38), (some (35, true)), .fadr 0 (.t 3)⟩, ⟨(some 39), (some (35, true)), .load false 1 (.t 38)⟩, ⟨(some 40), (some (35, true)), .bin .geq (.t 37) (.t 39)⟩, ⟨(some 41), none, .pick (.t 35) (.t 40) (.v (.bool false))⟩, ⟨(some 32), none, .mv (.t 41)⟩] (some ⟨[2,3,8,9,11,16,17,18,32], [3,11], [8]⟩))
  (.cond (.t 32)
  (.reg false [⟨(some 42), none, .mv (.t 8)⟩, ⟨(some 43), none, .fadr 0 (.t 11)⟩, ⟨(some 44), none, .load false 1 (.t 43)⟩, ⟨(some 45), none, .mv (.t 2)⟩, ⟨(some 46), none, .build [(.int .i64 (0)), (.int .i64 (0))] [(0, 1, (.t 44)), (1, 1, (.t 45))]⟩, ⟨(some 47), none, .bslice 2 1 [(.t 46)]⟩, ⟨(some 48), none, .append 49 2 16 (.t 42) (.t 47)⟩, ⟨(some 8), none, .mv (.t 48)⟩, ⟨(some 9), none, .mv (.v (.bool true))⟩] (some ⟨[2,3,8,9,16,17,18], [3], [8]⟩))
  (.seq (.reg false [⟨(some 50), none, .mv (.t 9)⟩, ⟨(some 51), none, .mv (.t 50)⟩, ⟨(some 52), (some (51, true)), .fadr 1 (.t 11)⟩, ⟨(some 53), (some (51, true)), .load false 1 (.t 52)⟩, ⟨(some 54), (some (51, true)), .fadr 1 (.t 3)⟩, ⟨(some 55), (some (51, true)), .load false 1 (.t 54)⟩, ⟨(some 56), (some (51, true)), .bin .lss (.t 53) (.t 55)⟩, ⟨(some 57), none, .pick (.t 51) (.t 56) (.v (.bool false))⟩, ⟨(some 49), none, .mv (.t 57)⟩] (some ⟨[2,3,8,9,11,16,17,18,49], [3,11], [8]⟩))
  (.cond (.t 49)
  (.reg false [⟨(some 58), none, .mv (.t 8)⟩, ⟨(some 59), none, .mv (.t 8)⟩, ⟨(some 60), none, .len (.t 59)⟩, ⟨(some 61), none, .bin .sub (.t 60) (.v (.int .i64 (1)))⟩, ⟨(some 62), none, .fadr 0 (.t 11)⟩, ⟨(some 63), none, .load false 1 (.t 62)⟩, ⟨(some 64), none, .iadr 2 (.t 58) (.t 61)⟩, ⟨(some 65), none, .fadr 1 (.t 64)⟩, ⟨none, none, .store 1 (.t 65) (.t 63)⟩, ⟨(some 9), none, .mv (.v (.bool false))⟩] (some ⟨[2,3,8,9,16,17,18], [3], [8]⟩))
  .skip)))))))))
  (.reg false [⟨(some 66), none, .bin .add (.t 18) (.v (.int .i64 (1)))⟩, ⟨(some 18), none, .mv (.t 66)⟩] (some ⟨[2,3,8,9,16,17,18], [3], [8]⟩))))))))
  (.seq (.seq (.reg false [⟨(some 12), none, .mv (.v (.slice none 0 0))⟩] (some ⟨[3,8,12], [3], []⟩))
  (.own 12 49 2))
  (.seq (.seq (.reg false [⟨(some 67), none, .mv (.t 8)⟩, ⟨(some 68), none, .len (.t 67)⟩, ⟨(some 69), none, .mv (.v (.int .i64 (0)))⟩] (some ⟨[3,12,67,68,69], [3], [12]⟩))
  (.block 3 (.loop (.seq (.reg false [⟨(some 70), none, .bin .lss (.t 69) (.t 68)⟩] (some ⟨[3,12,67,68,69,70], [3], [12]⟩))
  (.seq (.cond (.t 70)
  .skip
  (.exit 3))
  (.seq (.block 4 (.seq (.reg false [⟨(some 71), none, .iadr 2 (.t 67) (.t 69)⟩, ⟨(some 72), none, .load true 2 (.t 71)⟩, ⟨(some 14), none, .alloc [(.int .i64 (0)), (.int .i64 (0))]⟩, ⟨none, none, .store 2 (.t 14) (.t 72)⟩] (some ⟨[3,12,14,67,68,69], [3,14], [12]⟩))
  (.seq (.seq (.reg false [⟨(some 73), none, .mv (.t 12)⟩, ⟨(some 74), none, .len (.t 73)⟩, ⟨(some 15), none, .mv (.t 74)⟩] (some ⟨[3,12,14,15,67,68,69], [3,14], [12]⟩))
  (.seq (.reg true [⟨(some 75), none, .mv (.t 15)⟩, ⟨(some 76), none, .bin .gtr (.t 75) (.v (.int .i64 (0)))⟩, ⟨(some 77), none, .mv (.t 76)⟩, ⟨(some 78), (some (77, true)), .fadr 0 (.t 14)⟩, ⟨(some 79), (some (77, true)), .load false 1 (.t 78)⟩, ⟨(some 80), (some (77, true)), .mv (.t 12)⟩, ⟨(some 81), (some (77, true)), .mv (.t 15)⟩, ⟨(some 82), (some (77, true)), .bin .sub (.t 81) (.v (.int .i64 (1)))⟩, ⟨(some 83), (some (77, true)), .iadr 2 (.t 80) (.t 82)⟩, ⟨(some 84), (some (77, true)), .fadr 1 (.t 83)⟩, ⟨(some 85), (some (77, true)), .load false 1 (.t 84)⟩, ⟨(some 86), (some (77, true)), .bin .sub (.t 79) (.t 85)⟩, ⟨(some 87), (some (77, true)), .fadr 2 (.t 3)⟩, ⟨(some 88), (some (77, true)), .load false 1 (.t 87)⟩, ⟨(some 89), (some (77, true)), .bin .lss (.t 86) (.t 88)⟩, ⟨(some 90), none, .pick (.t 77) (.t 89) (.v (.bool false))⟩] (some ⟨[3,12,14,15,67,68,69,90], [3,14], [12]⟩))
  (.cond (.t 90)
  (.seq (.reg false [⟨(some 91), none, .mv (.t 12)⟩, ⟨(some 92), none, .mv (.t 15)⟩, ⟨(some 93), none, .bin .sub (.t 92) (.v (.int .i64 (1)))⟩, ⟨(some 94), none, .fadr 1 (.t 14)⟩, ⟨(some 95), none, .load false 1 (.t 94)⟩, ⟨(some 96), none, .iadr 2 (.t 91) (.t 93)⟩, ⟨(some 97), none, .fadr 1 (.t 96)⟩, ⟨none, none, .store 1 (.t 97) (.t 95)⟩] (some ⟨[3,12,67,68,69], [3], [12]⟩))
  (.exit 4))
  .skip)))
  (.reg false [⟨(some 98), none, .mv (.t 12)⟩, ⟨(some 99), none, .load true 2 (.t 14)⟩, ⟨(some 100), none, .bslice 2 1 [(.t 99)]⟩, ⟨(some 101), none, .append 49 2 16 (.t 98) (.t 100)⟩, ⟨(some 12), none, .mv (.t 101)⟩] (some ⟨[3,12,67,68,69], [3], [12]⟩)))))
  (.reg false [⟨(some 102), none, .bin .add (.t 69) (.v (.int .i64 (1)))⟩, ⟨(some 69), none, .mv (.t 102)⟩] (some ⟨[3,12,67,68,69], [3], [12]⟩))))))))
  (.seq (.reg false [⟨(some 103), none, .mv (.t 12)⟩, ⟨(some 104), none, .mkfn 103 [(.t 3)]⟩, ⟨(some 105), none, .callm (.f 100) [(.t 103), (.t 104)] ⟨[3], [12], [3], [12]⟩⟩, ⟨(some 12), none, .mv (.t 105)⟩] (some ⟨[3,12], [3], []⟩))
  (.seq (.seq (.reg false [⟨(some 106), none, .mv (.t 12)⟩, ⟨(some 107), none, .len (.t 106)⟩, ⟨(some 108), none, .bin .gtr (.t 107) (.v (.int .i64 (2000)))⟩] (some ⟨[3,12,108], [3], []⟩))
  (.cond (.t 108)
  (.seq (.seq (.reg false [⟨(some 6), none, .mv (.v (.slice none 0 0))⟩, ⟨(some 7), none, .mv (.v (.int .i64 (2)))⟩] (some ⟨[3,6,7], [3], []⟩))
  (.ty 6 2))
  .ret)
  .skip))
  (.seq (.reg false [⟨(some 109), none, .mv (.t 12)⟩, ⟨(some 6), none, .mv (.t 109)⟩, ⟨(some 7), none, .mv (.v (.int .i64 (0)))⟩] (some ⟨[3,6,7], [3], []⟩))
  .ret)))))))))
theorem c_framesOf : compileCode Try.prog Try.f28.ntmps (Try.f28.body.getD .skip) A_framesOf = some (C_framesOf, []) := by kernel_rfl
theorem r_framesOf : compileRes Try.prog Try.f28.results.toList = some [.t 6, .t 7] := by kernel_rfl
theorem b_framesOf : Try.f28.body = some (Try.f28.body.getD .skip) := by kernel_rfl
theorem n_framesOf : (Try.f28.name == "runtime.NumGoroutine") = false := by kernel_rfl
theorem fc_framesOf {xt : Option (List Cel)} {args : List Val} {R : List Cel → Val → Prop} (hn : (if xt.isSome then 1 else 0) + args.length ≤ Try.f28.ntmps) (h : ex Try.prog C_framesOf [] (fpost xt [.t 6, .t 7] R) (initSt xt args)) : FC Try.prog 28 xt args R :=
  fc_of_awp Try.func28 b_framesOf n_framesOf c_framesOf r_framesOf (of_decide_eq_true (by kernel_rfl)) hn h
theorem fcm_framesOf {H : Hp} {K : Keep} {args : List Val} {R : Hp → Val → Prop} (hn : args.length ≤ Try.f28.ntmps) (hkb : ∀ p ∈ H.bs, p.1 = 0 ∨ XK ≤ p.1) (hkr : ∀ p ∈ H.rs, XK ≤ p.1) (h : ex Try.prog C_framesOf [] (mpost H K [.t 6, .t 7] R) (initM H args)) : FCM Try.prog 28 H args R :=
  fcm_of_awp Try.func28 b_framesOf n_framesOf c_framesOf r_framesOf (of_decide_eq_true (by kernel_rfl)) hn hkb hkr h

def A_triggerFault : List Ann := [⟨(some ⟨[1], [1], []⟩), [], [], [], []⟩, ⟨(some ⟨[31], [], []⟩), [], [], [], []⟩, ⟨(some ⟨[2], [], []⟩), [], [], [], []⟩, ⟨(some ⟨[2], [], []⟩), [], [], [], []⟩]
def C_triggerFault : AC := (.seq (.reg false [⟨(some 1), none, .box (.t 0)⟩, ⟨(some 2), none, .mv (.v (.int .i64 (0)))⟩] (some ⟨[1], [1], []⟩))
  (.seq (.seq (.reg false [⟨(some 3), none, .fadr 0 (.t 1)⟩, ⟨(some 4), none, .load false 1 (.t 3)⟩, ⟨(some 5), none, .call (.f 76) [(.t 4)]⟩, ⟨(some 6), none, .bin .neq (.t 5) (.v (.int .i64 (0)))⟩, ⟨(some 7), none, .mv (.t 6)⟩, ⟨(some 8), (some (7, false)), .fadr 1 (.t 1)⟩, ⟨(some 9), (some (7, false)), .load false 1 (.t 8)⟩, ⟨(some 10), (some (7, false)), .call (.f 76) [(.t 9)]⟩, ⟨(some 11), (some (7, false)), .bin .neq (.t 10) (.v (.int .i64 (0)))⟩, ⟨(some 12), none, .pick (.t 7) (.v (.bool true)) (.t 11)⟩, ⟨(some 13), none, .mv (.t 12)⟩, ⟨(some 14), (some (13, false)), .fadr 1 (.t 1)⟩, ⟨(some 15), (some (13, false)), .load false 1 (.t 14)⟩, ⟨(some 16), (some (13, false)), .fadr 0 (.t 1)⟩, ⟨(some 17), (some (13, false)), .load false 1 (.t 16)⟩, ⟨(some 18), (some (13, false)), .bin .gtr (.t 15) (.t 17)⟩, ⟨(some 19), none, .pick (.t 13) (.v (.bool true)) (.t 18)⟩, ⟨(some 20), none, .mv (.t 19)⟩, ⟨(some 21), (some (20, false)), .fadr 2 (.t 1)⟩, ⟨(some 22), (some (20, false)), .load false 1 (.t 21)⟩, ⟨(some 23), (some (20, false)), .call (.f 95) [(.t 22), (.v (.int .i64 (0))), (.v (.int .i64 (86400000)))]⟩, ⟨(some 24), (some (20, false)), .un .not (.t 23)⟩, ⟨(some 25), none, .pick (.t 20) (.v (.bool true)) (.t 24)⟩, ⟨(some 26), none, .mv (.t 25)⟩, ⟨(some 27), (some (26, false)), .fadr 3 (.t 1)⟩, ⟨(some 28), (some (26, false)), .load false 1 (.t 27)⟩, ⟨(some 29), (some (26, false)), .call (.f 95) [(.t 28), (.v (.int .i64 (0))), (.v (.int .i64 (86400000)))]⟩, ⟨(some 30), (some (26, false)), .un .not (.t 29)⟩, ⟨(some 31), none, .pick (.t 26) (.v (.bool true)) (.t 30)⟩] (some ⟨[31], [], []⟩))
  (.cond (.t 31)
  (.seq (.reg false [⟨(some 2), none, .mv (.v (.int .i64 (1)))⟩] (some ⟨[2], [], []⟩))
  .ret)
  .skip))
  (.seq (.reg false [⟨(some 2), none, .mv (.v (.int .i64 (0)))⟩] (some ⟨[2], [], []⟩))
  .ret)))
theorem c_triggerFault : compileCode Try.prog Try.f19.ntmps (Try.f19.body.getD .skip) A_triggerFault = some (C_triggerFault, []) := by kernel_rfl
theorem r_triggerFault : compileRes Try.prog Try.f19.results.toList = some [.t 2] := by kernel_rfl
theorem b_triggerFault : Try.f19.body = some (Try.f19.body.getD .skip) := by kernel_rfl
theorem n_triggerFault : (Try.f19.name == "runtime.NumGoroutine") = false := by kernel_rfl
theorem fc_triggerFault {xt : Option (List Cel)} {args : List Val} {R : List Cel → Val → Prop} (hn : (if xt.isSome then 1 else 0) + args.length ≤ Try.f19.ntmps) (h : ex Try.prog C_triggerFault [] (fpost xt [.t 2] R) (initSt xt args)) : FC Try.prog 19 xt args R :=
  fc_of_awp Try.func19 b_triggerFault n_triggerFault c_triggerFault r_triggerFault (of_decide_eq_true (by kernel_rfl)) hn h


theorem rlong_fc (f t : Int) (h1 : -4611686018427387904 ≤ t - f) (h2 : t - f ≤ 4611686018427387904) : FC Try.prog 104 none [winV f t] (fun _ r => r = iv (t - f)) := by
  refine fc_rlong (by simp +arith) ?_
  unfold C_rlong
  simp (maxSteps := 1000000) (disch := omega) only [go_sem, eq_self, decide_true, decide_false, not_true_eq_false, not_false_eq_true, reduceIte, reduceCtorEq, Nat.reduceEqDiff, Nat.reduceAdd, Nat.reduceSub, Nat.reduceLeDiff]
theorem triggerFault_fc (st sp jn ls : Int) : FC Try.prog 19 none [trgV st sp jn ls] (fun _ r => r = iv (trgF st sp jn ls)) := by
  refine fc_triggerFault (by simp +arith) ?_
  unfold C_triggerFault
  simp (maxSteps := 1000000) (disch := omega) only [go_sem, eq_self, decide_true, decide_false, not_true_eq_false, not_false_eq_true, reduceIte, reduceCtorEq, Nat.reduceEqDiff, Nat.reduceAdd, Nat.reduceSub, Nat.reduceLeDiff]
  refine CALL_det (limitFault_fc _) (.inl rfl) ?_
  by_cases h1 : -1000000 ≤ st ∧ st ≤ 1000000
  · have e1 : limF st = 0 := by unfold limF; rw [if_pos h1]
    rw [e1]
    simp (maxSteps := 1000000) (disch := omega) only [go_sem, eq_self, decide_true, decide_false, not_true_eq_false, not_false_eq_true, reduceIte, reduceCtorEq, Nat.reduceEqDiff, Nat.reduceAdd, Nat.reduceSub, Nat.reduceLeDiff]
    refine CALL_det (limitFault_fc _) (.inl rfl) ?_
    by_cases h2 : -1000000 ≤ sp ∧ sp ≤ 1000000
    · have e2 : limF sp = 0 := by unfold limF; rw [if_pos h2]
      rw [e2]
      by_cases h3 : sp > st
      · simp (maxSteps := 1000000) (disch := omega) only [go_sem, eq_self, decide_true, decide_false, not_true_eq_false, not_false_eq_true, reduceIte, reduceCtorEq, Nat.reduceEqDiff, Nat.reduceAdd, Nat.reduceSub, Nat.reduceLeDiff]
        exact iv_congr (by unfold trgF; rw [if_neg (by omega)])
      · simp (maxSteps := 1000000) (disch := omega) only [go_sem, eq_self, decide_true, decide_false, not_true_eq_false, not_false_eq_true, reduceIte, reduceCtorEq, Nat.reduceEqDiff, Nat.reduceAdd, Nat.reduceSub, Nat.reduceLeDiff]
        refine CALL_det (rin1_fc _ _ _) (.inl rfl) ?_
        by_cases h4 : 0 ≤ jn ∧ jn ≤ 86400000
        · rw [decide_eq_true h4]
          simp (maxSteps := 1000000) (disch := omega) only [go_sem, eq_self, decide_true, decide_false, not_true_eq_false, not_false_eq_true, reduceIte, reduceCtorEq, Nat.reduceEqDiff, Nat.reduceAdd, Nat.reduceSub, Nat.reduceLeDiff]
          refine CALL_det (rin1_fc _ _ _) (.inl rfl) ?_
          by_cases h5 : 0 ≤ ls ∧ ls ≤ 86400000
          · rw [decide_eq_true h5]
            simp (maxSteps := 1000000) (disch := omega) only [go_sem, eq_self, decide_true, decide_false, not_true_eq_false, not_false_eq_true, reduceIte, reduceCtorEq, Nat.reduceEqDiff, Nat.reduceAdd, Nat.reduceSub, Nat.reduceLeDiff]
            exact iv_congr (by unfold trgF; rw [if_pos (by omega)])
          · rw [decide_eq_false h5]
            simp (maxSteps := 1000000) (disch := omega) only [go_sem, eq_self, decide_true, decide_false, not_true_eq_false, not_false_eq_true, reduceIte, reduceCtorEq, Nat.reduceEqDiff, Nat.reduceAdd, Nat.reduceSub, Nat.reduceLeDiff]
            exact iv_congr (by unfold trgF; rw [if_neg (by omega)])
        · rw [decide_eq_false h4]
          simp (maxSteps := 1000000) (disch := omega) only [go_sem, eq_self, decide_true, decide_false, not_true_eq_false, not_false_eq_true, reduceIte, reduceCtorEq, Nat.reduceEqDiff, Nat.reduceAdd, Nat.reduceSub, Nat.reduceLeDiff]
          exact iv_congr (by unfold trgF; rw [if_neg (by omega)])
    · have e2 : limF sp = 1 := by unfold limF; rw [if_neg h2]
      rw [e2]
      simp (maxSteps := 1000000) (disch := omega) only [go_sem, eq_self, decide_true, decide_false, not_true_eq_false, not_false_eq_true, reduceIte, reduceCtorEq, Nat.reduceEqDiff, Nat.reduceAdd, Nat.reduceSub, Nat.reduceLeDiff]
      exact iv_congr (by unfold trgF; rw [if_neg (by omega)])
  · have e1 : limF st = 1 := by unfold limF; rw [if_neg h1]
    rw [e1]
    simp (maxSteps := 1000000) (disch := omega) only [go_sem, eq_self, decide_true, decide_false, not_true_eq_false, not_false_eq_true, reduceIte, reduceCtorEq, Nat.reduceEqDiff, Nat.reduceAdd, Nat.reduceSub, Nat.reduceLeDiff]
    exact iv_congr (by unfold trgF; rw [if_neg (by omega)])
def ovSp (a b : List (Int × Int)) : List (Int × Int) × Int × Int := if orSp [fwF a, fwF b] ≠ 0 then ([], 0, orSp [fwF a, fwF b]) else (OV2 b a, lenS (OV2 b a), 0)
def ovSt (n : Int) (out A B : List (Int × Int)) : AS := ⟨tabV [(0, frsV false A), (1, frsV false B), (8, .one (.ow 8 0)), (9, iv n)], tabO [], tabO [(8, winRow out)]⟩
set_option maxHeartbeats 12000000 in
theorem overlaps_fc (a b : List (Int × Int)) (ha : a.length ≤ 4611686018427387904) (hb : b.length ≤ 4611686018427387904) : FC Try.prog 24 none [frsV false a, frsV false b] (fun _ r => r = .tu [frsV true (ovSp a b).1, iv (ovSp a b).2.1, iv (ovSp a b).2.2]) := by
  refine fc_overlaps (by simp +arith) ?_
  unfold C_overlaps ovSp
  simp (maxSteps := 1000000) (disch := omega) only [go_sem, eq_self, decide_true, decide_false, not_true_eq_false, not_false_eq_true, reduceIte, reduceCtorEq, Nat.reduceEqDiff, Nat.reduceAdd, Nat.reduceSub, Nat.reduceLeDiff]
  refine CALL_det (checkFrames_fc a ha) (.inl rfl) ?_
  simp (maxSteps := 1000000) (disch := omega) only [go_sem, eq_self, decide_true, decide_false, not_true_eq_false, not_false_eq_true, reduceIte, reduceCtorEq, Nat.reduceEqDiff, Nat.reduceAdd, Nat.reduceSub, Nat.reduceLeDiff]
  refine CALL_det (checkFrames_fc b hb) (.inl rfl) ?_
  simp (maxSteps := 1000000) (disch := omega) only [go_sem, eq_self, decide_true, decide_false, not_true_eq_false, not_false_eq_true, reduceIte, reduceCtorEq, Nat.reduceEqDiff, Nat.reduceAdd, Nat.reduceSub, Nat.reduceLeDiff]
  refine CALL_det (first_fc false [fwF a, fwF b] (by simp)) (.inl rfl) ?_
  by_cases h1 : orSp [fwF a, fwF b] = 0
  · obtain ⟨h2, h3⟩ := or2_z' h1
    obtain ⟨hla, hA⟩ := fwF_ok h2
    obtain ⟨hlb, hB⟩ := fwF_ok h3
    rw [if_neg (show ¬(orSp [fwF a, fwF b] ≠ 0) by omega), h1]
    simp (maxSteps := 1000000) (disch := omega) only [go_sem, eq_self, decide_true, decide_false, not_true_eq_false, not_false_eq_true, reduceIte, reduceCtorEq, Nat.reduceEqDiff, Nat.reduceAdd, Nat.reduceSub, Nat.reduceLeDiff]
    refine ex_loop4 ovSt (fun n out A B => (∃ lo, 0 ≤ lo ∧ Fch lo A) ∧ (∃ lo, 0 ≤ lo ∧ Fch lo B) ∧ A.length ≤ a.length ∧ B.length ≤ b.length ∧ out.length ≤ (a.length + b.length) - (A.length + B.length) ∧ 0 ≤ n ∧ n ≤ ((a.length + b.length : Int) - (A.length + B.length : Int)) * 345686400000 ∧ out ++ OV2 B A = OV2 b a ∧ n + lenS (OV2 B A) = lenS (OV2 b a)) (fun _ _ A B => A.length + B.length) 0 [] a b ⟨⟨0, by omega, hA⟩, ⟨0, by omega, hB⟩, by omega, by omega, by simp, by omega, by omega, rfl, by omega⟩ rfl ?_
    rintro n out A B ⟨⟨lo, hlo, cA⟩, ⟨lo', hlo', cB⟩, l1, l2, l3, n1, n2, s1, s2⟩
    unfold ovSt
    cases A with
    | nil =>
      simp only [OV2, lenS, List.append_nil, Int.add_zero] at s1 s2
      rw [← s2, ← s1]
      simp (maxSteps := 1000000) (disch := omega) only [go_sem, eq_self, decide_true, decide_false, not_true_eq_false, not_false_eq_true, reduceIte, reduceCtorEq, Nat.reduceEqDiff, Nat.reduceAdd, Nat.reduceSub, Nat.reduceLeDiff]
    | cons p A =>
      cases B with
      | nil =>
        simp only [OV2_nil, lenS, List.append_nil, Int.add_zero] at s1 s2
        rw [← s2, ← s1]
        have e0 : (p :: A).length = A.length + 1 := rfl
        generalize p :: A = m at *
        simp (maxSteps := 1000000) (disch := omega) only [go_sem, eq_self, decide_true, decide_false, not_true_eq_false, not_false_eq_true, reduceIte, reduceCtorEq, Nat.reduceEqDiff, Nat.reduceAdd, Nat.reduceSub, Nat.reduceLeDiff]
      | cons q B =>
        rw [OV2_step cA cB] at s1 s2
        obtain ⟨a1, a2, a3, cA'⟩ := cA
        obtain ⟨b1, b2, b3, cB'⟩ := cB
        have cA0 : Fch p.1 (p :: A) := ⟨by omega, a2, a3, cA'⟩
        have cB0 : Fch q.1 (q :: B) := ⟨by omega, b2, b3, cB'⟩
        have eA : (p :: A).length = A.length + 1 := rfl
        have eB : (q :: B).length = B.length + 1 := rfl
        have gA : (p :: A).getD (Int.toNat 0) default = p := rfl
        have gB : (q :: B).getD (Int.toNat 0) default = q := rfl
        have dA : ((p :: A).map frC).drop (Int.toNat 1) = A.map frC := rfl
        have dB : ((q :: B).map frC).drop (Int.toNat 1) = B.map frC := rfl
        unfold ovlW at s1 s2
        generalize hmA : p :: A = m at *
        generalize hmB : q :: B = k at *
        subst gA
        subst gB
        by_cases c1 : max (m.getD (Int.toNat 0) default).1 (k.getD (Int.toNat 0) default).1 < min (m.getD (Int.toNat 0) default).2 (k.getD (Int.toNat 0) default).2
        · rw [if_pos c1] at s1 s2
          rw [lenS_app, lenS, lenS] at s2
          simp only at s2
          rw [← List.append_assoc] at s1
          by_cases c3 : (m.getD (Int.toNat 0) default).2 ≤ (k.getD (Int.toNat 0) default).2
          · rw [if_pos c3] at s1 s2
            simp (maxSteps := 1000000) (disch := omega) only [go_sem, eq_self, decide_true, decide_false, not_true_eq_false, not_false_eq_true, reduceIte, reduceCtorEq, Nat.reduceEqDiff, Nat.reduceAdd, Nat.reduceSub, Nat.reduceLeDiff]
            simp only [dA]
            exact ⟨n + (min (m.getD (Int.toNat 0) default).2 (k.getD (Int.toNat 0) default).2 - max (m.getD (Int.toNat 0) default).1 (k.getD (Int.toNat 0) default).1), out ++ [_], A, k, by simp only [ovSt, winRow, List.map_append, List.map_cons, List.map_nil, frC_eq], ⟨⟨_, by omega, cA'⟩, ⟨_, by omega, cB0⟩, by omega, by omega, by simp; omega, by omega, by omega, s1, by omega⟩, by omega⟩
          · rw [if_neg c3] at s1 s2
            simp (maxSteps := 1000000) (disch := omega) only [go_sem, eq_self, decide_true, decide_false, not_true_eq_false, not_false_eq_true, reduceIte, reduceCtorEq, Nat.reduceEqDiff, Nat.reduceAdd, Nat.reduceSub, Nat.reduceLeDiff]
            simp only [dB]
            exact ⟨n + (min (m.getD (Int.toNat 0) default).2 (k.getD (Int.toNat 0) default).2 - max (m.getD (Int.toNat 0) default).1 (k.getD (Int.toNat 0) default).1), out ++ [_], m, B, by simp only [ovSt, winRow, List.map_append, List.map_cons, List.map_nil, frC_eq], ⟨⟨_, by omega, cA0⟩, ⟨_, by omega, cB'⟩, by omega, by omega, by simp; omega, by omega, by omega, s1, by omega⟩, by omega⟩
        · rw [if_neg c1, List.nil_append] at s1 s2
          by_cases c3 : (m.getD (Int.toNat 0) default).2 ≤ (k.getD (Int.toNat 0) default).2
          · rw [if_pos c3] at s1 s2
            simp (maxSteps := 1000000) (disch := omega) only [go_sem, eq_self, decide_true, decide_false, not_true_eq_false, not_false_eq_true, reduceIte, reduceCtorEq, Nat.reduceEqDiff, Nat.reduceAdd, Nat.reduceSub, Nat.reduceLeDiff]
            simp only [dA]
            exact ⟨_, _, A, k, rfl, ⟨⟨_, by omega, cA'⟩, ⟨_, by omega, cB0⟩, by omega, by omega, by omega, by omega, by omega, s1, by omega⟩, by omega⟩
          · rw [if_neg c3] at s1 s2
            simp (maxSteps := 1000000) (disch := omega) only [go_sem, eq_self, decide_true, decide_false, not_true_eq_false, not_false_eq_true, reduceIte, reduceCtorEq, Nat.reduceEqDiff, Nat.reduceAdd, Nat.reduceSub, Nat.reduceLeDiff]
            simp only [dB]
            exact ⟨_, _, m, B, rfl, ⟨⟨_, by omega, cA0⟩, ⟨_, by omega, cB'⟩, by omega, by omega, by omega, by omega, by omega, s1, by omega⟩, by omega⟩
  · rw [if_pos (show orSp [fwF a, fwF b] ≠ 0 by omega)]
    simp (maxSteps := 1000000) (disch := omega) only [go_sem, eq_self, decide_true, decide_false, not_true_eq_false, not_false_eq_true, reduceIte, reduceCtorEq, Nat.reduceEqDiff, Nat.reduceAdd, Nat.reduceSub, Nat.reduceLeDiff]
    rfl
def ooSt (a b : List (Int × Int)) (i n : Int) (out : List (Int × Int)) : AS := ⟨tabV [(1, frsV false b), (6, .one (.ow 6 0)), (7, iv n), (13, frsV false a), (14, iv a.length), (15, iv i)], tabO [], tabO [(6, winRow out)]⟩
def oiSt (a b : List (Int × Int)) (i k n : Int) (out : List (Int × Int)) : AS := ⟨tabV [(1, frsV false b), (6, .one (.ow 6 0)), (7, iv n), (9, .one (.bx 9 0)), (13, frsV false a), (14, iv a.length), (15, iv i), (19, frsV false b), (20, iv b.length), (21, iv k)], tabO [(9, frC (a.getD i.toNat default))], tabO [(6, winRow out)]⟩
theorem overlapsOf_fc (a b : List (Int × Int)) (ha : a.length ≤ 2000) (hb : b.length ≤ 2000) (hA : ∀ w ∈ a, 0 ≤ w.1 ∧ w.2 ≤ 345686400000) (hB : ∀ w ∈ b, 0 ≤ w.1 ∧ w.2 ≤ 345686400000) : FC Try.prog 29 none [frsV false a, frsV false b] (fun _ r => r = .tu [frsV true (OV2 b a), iv (lenS (OV2 b a))]) := by
  refine fc_overlapsOf (by simp +arith) ?_
  unfold C_overlapsOf
  simp (maxSteps := 1000000) (disch := omega) only [go_sem, eq_self, decide_true, decide_false, not_true_eq_false, not_false_eq_true, reduceIte, reduceCtorEq, Nat.reduceEqDiff, Nat.reduceAdd, Nat.reduceSub, Nat.reduceLeDiff]
  refine ex_loop3 (ooSt a b) (fun i n out => 0 ≤ i ∧ i ≤ a.length ∧ (out.length : Int) ≤ i * b.length ∧ 0 ≤ n ∧ n ≤ i * 691372800000000 ∧ out ++ OV2 b (a.drop i.toNat) = OV2 b a ∧ n + lenS (OV2 b (a.drop i.toNat)) = lenS (OV2 b a)) (fun i _ _ => (a.length - i).toNat) 0 0 [] ⟨by omega, by omega, by simp, by omega, by omega, rfl, by simp⟩ rfl ?_
  rintro i n out ⟨g1, g2, g3, g4, g5, g6, g7⟩
  unfold ooSt
  by_cases hi : i < a.length
  · have e2 : (i + 1).toNat = i.toNat + 1 := by omega
    have em := getD_map_at frC a i [] g1 hi
    have hx := hA _ (getD_mem a i.toNat (by omega))
    rw [drop_cons a i.toNat (by omega), ← e2, OV2] at g6 g7
    rw [lenS_app] at g7
    have hib : i * (b.length : Int) ≤ i * 2000 := Int.mul_le_mul_of_nonneg_left (by omega) g1
    have hib2 : (i + 1) * (b.length : Int) = i * b.length + b.length := by rw [Int.add_mul, Int.one_mul]
    simp (maxSteps := 1000000) (disch := omega) only [go_sem, eq_self, decide_true, decide_false, not_true_eq_false, not_false_eq_true, reduceIte, reduceCtorEq, Nat.reduceEqDiff, Nat.reduceAdd, Nat.reduceSub, Nat.reduceLeDiff]
    refine ex_loop3 (oiSt a b i) (fun k n' out' => 0 ≤ k ∧ k ≤ b.length ∧ (out'.length : Int) ≤ i * b.length + k ∧ 0 ≤ n' ∧ n' ≤ i * 691372800000000 + k * 345686400000 ∧ out' ++ OV1 (a.getD i.toNat default) (b.drop k.toNat) = out ++ OV1 (a.getD i.toNat default) b ∧ n' + lenS (OV1 (a.getD i.toNat default) (b.drop k.toNat)) = n + lenS (OV1 (a.getD i.toNat default) b)) (fun k _ _ => (b.length - k).toNat) 0 n out ⟨by omega, by omega, by omega, by omega, by omega, rfl, rfl⟩ (by simp only [oiSt, frC_eq]) ?_
    rintro k n' out' ⟨k1, k2, k3, k4, k5, k6, k7⟩
    unfold oiSt
    by_cases hk : k < b.length
    · have e3 : (k + 1).toNat = k.toNat + 1 := by omega
      have en := getD_map_at frC b k [] k1 hk
      have hy := hB _ (getD_mem b k.toNat (by omega))
      rw [drop_cons b k.toNat (by omega), ← e3, OV1] at k6 k7
      rw [lenS_app] at k7
      unfold ovlW at k6 k7
      by_cases c1 : max (a.getD i.toNat default).1 (b.getD k.toNat default).1 < min (a.getD i.toNat default).2 (b.getD k.toNat default).2
      · rw [if_pos c1] at k6 k7
        rw [← List.append_assoc] at k6
        rw [lenS, lenS] at k7
        simp only at k7
        simp (maxSteps := 1000000) (disch := omega) only [go_sem, eq_self, decide_true, decide_false, not_true_eq_false, not_false_eq_true, reduceIte, reduceCtorEq, Nat.reduceEqDiff, Nat.reduceAdd, Nat.reduceSub, Nat.reduceLeDiff]
        refine CALL_det (rlong_fc _ _ (by omega) (by omega)) (.inl rfl) ?_
        simp (maxSteps := 1000000) (disch := omega) only [go_sem, eq_self, decide_true, decide_false, not_true_eq_false, not_false_eq_true, reduceIte, reduceCtorEq, Nat.reduceEqDiff, Nat.reduceAdd, Nat.reduceSub, Nat.reduceLeDiff]
        exact ⟨k + 1, n' + (min (a.getD i.toNat default).2 (b.getD k.toNat default).2 - max (a.getD i.toNat default).1 (b.getD k.toNat default).1), out' ++ [_], by simp only [oiSt, winRow, List.map_append, List.map_cons, List.map_nil, frC_eq], ⟨by omega, by omega, by simp; omega, by omega, by omega, k6, by omega⟩, by omega⟩
      · rw [if_neg c1] at k6 k7
        rw [List.nil_append] at k6
        rw [lenS] at k7
        simp (maxSteps := 1000000) (disch := omega) only [go_sem, eq_self, decide_true, decide_false, not_true_eq_false, not_false_eq_true, reduceIte, reduceCtorEq, Nat.reduceEqDiff, Nat.reduceAdd, Nat.reduceSub, Nat.reduceLeDiff]
        exact ⟨k + 1, _, _, rfl, ⟨by omega, by omega, by omega, by omega, by omega, k6, by omega⟩, by omega⟩
    · rw [List.drop_eq_nil_of_le (by omega)] at k6 k7
      simp only [OV1, lenS, List.append_nil, Int.add_zero] at k6 k7
      simp (maxSteps := 1000000) (disch := omega) only [go_sem, eq_self, decide_true, decide_false, not_true_eq_false, not_false_eq_true, reduceIte, reduceCtorEq, Nat.reduceEqDiff, Nat.reduceAdd, Nat.reduceSub, Nat.reduceLeDiff]
      exact ⟨i + 1, _, _, rfl, ⟨by omega, by omega, by omega, by omega, by omega, by rw [k6, List.append_assoc]; exact g6, by omega⟩, by omega⟩
  · rw [List.drop_eq_nil_of_le (by omega)] at g6 g7
    simp only [OV2, lenS, List.append_nil, Int.add_zero] at g6 g7
    rw [← g7, ← g6]
    simp (maxSteps := 1000000) (disch := omega) only [go_sem, eq_self, decide_true, decide_false, not_true_eq_false, not_false_eq_true, reduceIte, reduceCtorEq, Nat.reduceEqDiff, Nat.reduceAdd, Nat.reduceSub, Nat.reduceLeDiff]
theorem foClos_fc (x : Int × Int) (st sp jn ls : Int) (h : okW x) : FC Try.prog 103 none [.ag (frC x), .one (.ep [.g (.int .i64 st), .g (.int .i64 sp), .g (.int .i64 jn), .g (.int .i64 ls)])] (fun _ r => r = bv (shortB ls x)) := by
  refine fc_foClos (by simp +arith) ?_
  unfold okW at h
  unfold C_foClos shortB
  simp (maxSteps := 1000000) (disch := omega) only [go_sem, eq_self, decide_true, decide_false, not_true_eq_false, not_false_eq_true, reduceIte, reduceCtorEq, Nat.reduceEqDiff, Nat.reduceAdd, Nat.reduceSub, Nat.reduceLeDiff]
  refine CALL_det (rlong_fc x.1 x.2 (by omega) (by omega)) (.inl rfl) ?_
  simp (maxSteps := 1000000) (disch := omega) only [go_sem, eq_self, decide_true, decide_false, not_true_eq_false, not_false_eq_true, reduceIte, reduceCtorEq, Nat.reduceEqDiff, Nat.reduceAdd, Nat.reduceSub, Nat.reduceLeDiff]
def fo1St (l : List Smp) (st sp jn ls un i : Int) (out : List (Int × Int)) (op : Bool) : AS := ⟨tabV [(2, iv un), (3, .one (.bx 3 0)), (8, .one (.ow 8 0)), (9, bv op), (16, smps false l), (17, iv l.length), (18, iv i)], tabO [(3, [.g (.int .i64 st), .g (.int .i64 sp), .g (.int .i64 jn), .g (.int .i64 ls)])], tabO [(8, winRow out)]⟩
def fo2St (m : List (Int × Int)) (st sp jn ls i : Int) (out : List (Int × Int)) : AS := ⟨tabV [(3, .one (.bx 3 0)), (12, .one (.ow 12 0)), (67, frsV true m), (68, iv m.length), (69, iv i)], tabO [(3, [.g (.int .i64 st), .g (.int .i64 sp), .g (.int .i64 jn), .g (.int .i64 ls)])], tabO [(12, winRow out)]⟩
def frmRf (l : List Smp) (st sp jn ls un : Int) : List (Int × Int) × Int := if (frmW st sp jn ls un l).length > 2000 then ([], 2) else (frmW st sp jn ls un l, 0)
theorem framesOf_fc (l : List Smp) (hg : Good l) (st sp jn ls un : Int) (hun : 0 ≤ un ∧ un ≤ 345686400000) : FC Try.prog 28 none [trgV st sp jn ls, smps false l, iv un] (fun _ r => r = .tu [frsV true (frmRf l st sp jn ls un).1, iv (frmRf l st sp jn ls un).2]) := by
  refine fc_framesOf (by simp +arith) ?_
  have hl := hg.len
  unfold C_framesOf frmRf
  simp (maxSteps := 1000000) (disch := omega) only [go_sem, eq_self, decide_true, decide_false, not_true_eq_false, not_false_eq_true, reduceIte, reduceCtorEq, Nat.reduceEqDiff, Nat.reduceAdd, Nat.reduceSub, Nat.reduceLeDiff]
  refine ex_loop3 (fo1St l st sp jn ls un) (fun i out op => 0 ≤ i ∧ i ≤ l.length ∧ out.length ≤ i ∧ (op = true → 1 ≤ out.length) ∧ (l.drop i.toNat).foldl (rawStep st sp un) (out, op) = l.foldl (rawStep st sp un) ([], false)) (fun i _ _ => (l.length - i).toNat) 0 [] false ⟨by omega, by omega, by simp, by simp, rfl⟩ rfl ?_
  rintro i out op ⟨g1, g2, g3, g4, g5⟩
  unfold fo1St
  by_cases hi : i < l.length
  · have e2 : (i + 1).toNat = i.toNat + 1 := by omega
    have em := getD_map_at smpC l i [] g1 hi
    rw [drop_cons l i.toNat (by omega), List.foldl_cons, ← e2] at g5
    unfold rawStep at g5
    by_cases c1 : (l.getD i.toNat default).a ≥ un
    · rw [if_pos (.inl c1)] at g5
      simp (maxSteps := 1000000) (disch := omega) only [go_sem, eq_self, decide_true, decide_false, not_true_eq_false, not_false_eq_true, reduceIte, reduceCtorEq, Nat.reduceEqDiff, Nat.reduceAdd, Nat.reduceSub, Nat.reduceLeDiff]
      exact ⟨_, _, _, rfl, ⟨by omega, by omega, by omega, g4, g5⟩, by omega⟩
    by_cases c2 : (l.getD i.toNat default).q = 2
    · rw [if_pos (.inr c2)] at g5
      simp (maxSteps := 1000000) (disch := omega) only [go_sem, eq_self, decide_true, decide_false, not_true_eq_false, not_false_eq_true, reduceIte, reduceCtorEq, Nat.reduceEqDiff, Nat.reduceAdd, Nat.reduceSub, Nat.reduceLeDiff]
      exact ⟨_, _, _, rfl, ⟨by omega, by omega, by omega, g4, g5⟩, by omega⟩
    rw [if_neg (by omega)] at g5
    cases op with
    | false =>
      by_cases c3 : (l.getD i.toNat default).v ≥ st
      · rw [if_pos ⟨rfl, c3⟩] at g5
        simp (maxSteps := 1000000) (disch := omega) only [go_sem, eq_self, decide_true, decide_false, not_true_eq_false, not_false_eq_true, reduceIte, reduceCtorEq, Nat.reduceEqDiff, Nat.reduceAdd, Nat.reduceSub, Nat.reduceLeDiff]
        exact ⟨i + 1, out ++ [((l.getD i.toNat default).a, un)], true, by simp only [fo1St, winRow, List.map_append, List.map_cons, List.map_nil, frC_eq], ⟨by omega, by omega, by simp; omega, by simp, g5⟩, by omega⟩
      · rw [if_neg (fun h => c3 h.2), if_neg (by simp)] at g5
        simp (maxSteps := 1000000) (disch := omega) only [go_sem, eq_self, decide_true, decide_false, not_true_eq_false, not_false_eq_true, reduceIte, reduceCtorEq, Nat.reduceEqDiff, Nat.reduceAdd, Nat.reduceSub, Nat.reduceLeDiff]
        exact ⟨_, _, _, rfl, ⟨by omega, by omega, by omega, g4, g5⟩, by omega⟩
    | true =>
      have g4 := g4 rfl
      rw [if_neg (by simp)] at g5
      by_cases c3 : (l.getD i.toNat default).v < sp
      · rw [if_pos ⟨rfl, c3⟩] at g5
        have eo := getE_map_in frC out ((out.length : Int) - 1).toNat (by omega)
        simp (maxSteps := 1000000) (disch := omega) only [go_sem, eq_self, decide_true, decide_false, not_true_eq_false, not_false_eq_true, reduceIte, reduceCtorEq, Nat.reduceEqDiff, Nat.reduceAdd, Nat.reduceSub, Nat.reduceLeDiff]
        exact ⟨i + 1, setTo out (l.getD i.toNat default).a, false, by simp only [fo1St, winRow, setTo_map], ⟨by omega, by omega, by rw [setTo_len]; omega, by simp, g5⟩, by omega⟩
      · rw [if_neg (fun h => c3 h.2)] at g5
        simp (maxSteps := 1000000) (disch := omega) only [go_sem, eq_self, decide_true, decide_false, not_true_eq_false, not_false_eq_true, reduceIte, reduceCtorEq, Nat.reduceEqDiff, Nat.reduceAdd, Nat.reduceSub, Nat.reduceLeDiff]
        exact ⟨_, _, _, rfl, ⟨by omega, by omega, by omega, fun _ => g4, g5⟩, by omega⟩
  · rw [List.drop_eq_nil_of_le (by omega), List.foldl_nil] at g5
    have hok := raw_ok st sp un (by omega) l ([], false) hg.all (by simp) (by simp)
    have hrl := raw_len st sp un l ([], false)
    have hjo := jn_ok jn (rawW st sp un l) [] hok (by simp)
    have hjl := jn_len jn (rawW st sp un l) []
    change (rawW st sp un l).length ≤ _ at hrl
    simp only [List.length_nil, Nat.zero_add] at hrl hjl
    change ∀ w ∈ rawW st sp un l, okW w at hok
    have e9 : out = rawW st sp un l := by unfold rawW; rw [← g5]
    rw [e9]
    unfold frmW jnW
    clear g3 g4 g5 e9
    generalize rawW st sp un l = m at *
    simp (maxSteps := 1000000) (disch := omega) only [go_sem, eq_self, decide_true, decide_false, not_true_eq_false, not_false_eq_true, reduceIte, reduceCtorEq, Nat.reduceEqDiff, Nat.reduceAdd, Nat.reduceSub, Nat.reduceLeDiff]
    refine ex_loop2 (fo2St m st sp jn ls) (fun i out => 0 ≤ i ∧ i ≤ m.length ∧ out.length ≤ i ∧ (∀ w ∈ out, okW w) ∧ (m.drop i.toNat).foldl (jnStep jn) out = m.foldl (jnStep jn) []) (fun i _ => (m.length - i).toNat) 0 [] ⟨by omega, by omega, by simp, by simp, rfl⟩ rfl ?_
    clear g1 g2 hi
    rintro i out ⟨g1, g2, g3, g4, g5⟩
    unfold fo2St
    by_cases hi : i < m.length
    · have e2 : (i + 1).toNat = i.toNat + 1 := by omega
      have em := getD_map_at frC m i [] g1 hi
      have hmi := hok _ (getD_mem m i.toNat (by omega))
      rw [drop_cons m i.toNat (by omega), List.foldl_cons, ← e2] at g5
      unfold okW at hmi
      unfold jnStep at g5
      by_cases c1 : 1 ≤ out.length
      · have eo := getE_map_in frC out ((out.length : Int) - 1).toNat (by omega)
        have hlo := g4 _ (lastW_mem c1)
        unfold okW lastW at hlo
        by_cases c2 : (m.getD i.toNat default).1 - (out.getD ((out.length : Int) - 1).toNat default).2 < jn
        · rw [if_pos ⟨c1, c2⟩] at g5
          simp (maxSteps := 1000000) (disch := omega) only [go_sem, eq_self, decide_true, decide_false, not_true_eq_false, not_false_eq_true, reduceIte, reduceCtorEq, Nat.reduceEqDiff, Nat.reduceAdd, Nat.reduceSub, Nat.reduceLeDiff]
          exact ⟨i + 1, setTo out (m.getD i.toNat default).2, by simp only [fo2St, winRow, setTo_map], ⟨by omega, by omega, by rw [setTo_len]; omega, setTo_all g4 c1 ⟨hlo.1, hlo.2.1, hmi.2.2⟩, g5⟩, by omega⟩
        · rw [if_neg (fun h => c2 h.2)] at g5
          simp (maxSteps := 1000000) (disch := omega) only [go_sem, eq_self, decide_true, decide_false, not_true_eq_false, not_false_eq_true, reduceIte, reduceCtorEq, Nat.reduceEqDiff, Nat.reduceAdd, Nat.reduceSub, Nat.reduceLeDiff]
          exact ⟨i + 1, out ++ [m.getD i.toNat default], by simp only [fo2St, winRow, List.map_append, List.map_cons, List.map_nil, frC_eq], ⟨by omega, by omega, by simp; omega, fun w hw => by
            simp only [List.mem_append, List.mem_cons, List.not_mem_nil, or_false] at hw
            rcases hw with hw | rfl
            · exact g4 w hw
            · exact hmi, g5⟩, by omega⟩
      · rw [if_neg (fun h => c1 h.1)] at g5
        have : out.length = 0 := by omega
        simp (maxSteps := 1000000) (disch := omega) only [go_sem, eq_self, decide_true, decide_false, not_true_eq_false, not_false_eq_true, reduceIte, reduceCtorEq, Nat.reduceEqDiff, Nat.reduceAdd, Nat.reduceSub, Nat.reduceLeDiff]
        exact ⟨i + 1, out ++ [m.getD i.toNat default], by simp only [fo2St, winRow, List.map_append, List.map_cons, List.map_nil, frC_eq], ⟨by omega, by omega, by simp; omega, fun w hw => by
            simp only [List.mem_append, List.mem_cons, List.not_mem_nil, or_false] at hw
            rcases hw with hw | rfl
            · exact g4 w hw
            · exact hmi, g5⟩, by omega⟩
    · rw [List.drop_eq_nil_of_le (by omega), List.foldl_nil] at g5
      subst g5
      have hfl := List.length_filter_le (fun f => !shortB ls f) (m.foldl (jnStep jn) [])
      simp (maxSteps := 1000000) (disch := omega) only [go_sem, eq_self, decide_true, decide_false, not_true_eq_false, not_false_eq_true, reduceIte, reduceCtorEq, Nat.reduceEqDiff, Nat.reduceAdd, Nat.reduceSub, Nat.reduceLeDiff]
      refine ⟨rfl, CALLM_rnE ⟨[(3, [.g (.int .i64 st), .g (.int .i64 sp), .g (.int .i64 jn), .g (.int .i64 ls)])], [(12, winRow ((m.foldl (jnStep jn) []).filter fun f => !shortB ls f))]⟩ (.one (.ow 12 0)) (swp 3 1000001) (swp 12 1000000) (swp_swp 3 1000001) (swp_swp 12 1000000) (delW_fcm 103 st sp jn ls (shortB ls) (m.foldl (jnStep jn) []) (by omega) (fun x hx => foClos_fc x st sp jn ls (hjo x hx))) (by simp) rfl rfl rfl rfl ⟨rfl, rfl⟩ ?_⟩
      generalize (m.foldl (jnStep jn) []).filter (fun f => !shortB ls f) = z at *
      by_cases c3 : z.length > 2000
      · rw [if_pos c3]
        simp (maxSteps := 1000000) (disch := omega) only [go_sem, eq_self, decide_true, decide_false, not_true_eq_false, not_false_eq_true, reduceIte, reduceCtorEq, Nat.reduceEqDiff, Nat.reduceAdd, Nat.reduceSub, Nat.reduceLeDiff]
        rfl
      · rw [if_neg c3]
        simp (maxSteps := 1000000) (disch := omega) only [go_sem, eq_self, decide_true, decide_false, not_true_eq_false, not_false_eq_true, reduceIte, reduceCtorEq, Nat.reduceEqDiff, Nat.reduceAdd, Nat.reduceSub, Nat.reduceLeDiff]
end Go.Proofs.Ytmbpfhpdicjpcaa

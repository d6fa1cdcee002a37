/-
  Two series compared.
-/
import Derived.Test.YtkecmbgjhamhiaaRefI
import Derived.Test.YtkecmbgjhamhiaaRep
namespace Go.Proofs.Ytkecmbgjhamhiaa
open Go Go.Ai
set_option linter.unusedSimpArgs false
set_option linter.unusedVariables false
set_option maxHeartbeats 4000000
def A_compare : List Ann := [⟨(some ⟨[0,1,3,6], [6], []⟩), [], [], [], []⟩, ⟨(some ⟨[0,1,3,6,11], [6], []⟩), [], [], [], []⟩, ⟨(some ⟨[0,1,3,6,11,28], [6], []⟩), [], [], [], []⟩, ⟨(some ⟨[8,9,10], [], []⟩), [], [], [], []⟩, ⟨(some ⟨[0,1,3,6,31], [6], []⟩), [], [], [], []⟩, ⟨(some ⟨[8,9,10], [], []⟩), [], [], [], []⟩, ⟨(some ⟨[0,1,3,6,12,13], [6], []⟩), [], [], [], []⟩, ⟨(some ⟨[3,12,13,14,15], [], []⟩), [], [], [], []⟩, ⟨(some ⟨[3,12,13,14,15,45], [], []⟩), [], [], [], []⟩, ⟨(some ⟨[3,12,13,14,15,16,17], [16,17], []⟩), [], [(1, none), (2, none), (4, none), (5, none)], [], []⟩, ⟨(some ⟨[3,12,13,14,15,16,17,18], [16,17], []⟩), [], [], [], []⟩, ⟨(some ⟨[3,12,13,14,15,16,17,18,68], [16,17], []⟩), [], [], [], []⟩, ⟨(some ⟨[3,12,13,14,15,16,17,18], [16,17], []⟩), [], [], [], []⟩, ⟨(some ⟨[3,12,13,14,15,16,17,18,19], [16,17], []⟩), [], [], [], []⟩, ⟨(some ⟨[3,12,13,14,15,16,17,18,82], [16,17], []⟩), [], [], [], []⟩, ⟨(some ⟨[3,12,13,14,15,16,17], [16,17], []⟩), [], [], [], []⟩, ⟨(some ⟨[3,12,13,14,15,92], [], []⟩), [], [], [], []⟩, ⟨(some ⟨[3,12,13,14,15], [], []⟩), [], [], [], []⟩, ⟨(some ⟨[3,12,13,14,15], [], []⟩), [], [], [], []⟩, ⟨(some ⟨[8,9,10], [], []⟩), [], [], [], []⟩]
def C_compare : AC := (.seq (.reg false [⟨(some 6), none, .box (.t 2)⟩, ⟨(some 8), none, .mv (.v (.int .i64 (0)))⟩, ⟨(some 9), none, .mv (.v (.int .i64 (0)))⟩, ⟨(some 10), none, .mv (.v (.int .i64 (0)))⟩] (some ⟨[0,1,3,6], [6], []⟩))
  (.seq (.seq (.reg true [⟨(some 20), none, .mv (.t 0)⟩, ⟨(some 21), none, .call (.f 85) [(.t 20)]⟩, ⟨(some 22), none, .mv (.t 1)⟩, ⟨(some 23), none, .load true 2 (.t 6)⟩, ⟨(some 24), none, .call (.f 88) [(.t 22), (.t 23)]⟩, ⟨(some 25), none, .bslice 1 2 [(.t 21), (.t 24)]⟩, ⟨(some 26), none, .call (.f 94) [(.t 25)]⟩, ⟨(some 11), none, .mv (.t 26)⟩] (some ⟨[0,1,3,6,11], [6], []⟩))
  (.seq (.reg false [⟨(some 27), none, .mv (.t 11)⟩, ⟨(some 28), none, .bin .neq (.t 27) (.v (.int .i64 (0)))⟩] (some ⟨[0,1,3,6,11,28], [6], []⟩))
  (.cond (.t 28)
  (.seq (.reg false [⟨(some 29), none, .mv (.t 11)⟩, ⟨(some 8), none, .mv (.v (.int .i64 (0)))⟩, ⟨(some 9), none, .mv (.v (.int .i64 (0)))⟩, ⟨(some 10), none, .mv (.t 29)⟩] (some ⟨[8,9,10], [], []⟩))
  .ret)
  .skip)))
  (.seq (.seq (.reg false [⟨(some 30), none, .mv (.t 3)⟩, ⟨(some 31), none, .call (.f 93) [(.t 30), (.v (.int .i64 (0))), (.v (.int .i64 (2000000)))]⟩] (some ⟨[0,1,3,6,31], [6], []⟩))
  (.cond (.t 31)
  (.seq (.reg false [⟨(some 8), none, .mv (.v (.int .i64 (0)))⟩, ⟨(some 9), none, .mv (.v (.int .i64 (0)))⟩, ⟨(some 10), none, .mv (.v (.int .i64 (1)))⟩] (some ⟨[8,9,10], [], []⟩))
  .ret)
  .skip))
  (.seq (.reg false [⟨(some 12), none, .mv (.v (.int .i64 (0)))⟩, ⟨(some 13), none, .mv (.v (.int .i64 (0)))⟩] (some ⟨[0,1,3,6,12,13], [6], []⟩))
  (.seq (.reg true [⟨(some 32), none, .mv (.t 0)⟩, ⟨(some 33), none, .load true 2 (.t 6)⟩, ⟨(some 34), none, .call (.f 113) [(.t 32), (.t 33)]⟩, ⟨(some 35), none, .mv (.t 1)⟩, ⟨(some 36), none, .load true 2 (.t 6)⟩, ⟨(some 37), none, .call (.f 113) [(.t 35), (.t 36)]⟩, ⟨(some 14), none, .mv (.t 34)⟩, ⟨(some 15), none, .mv (.t 37)⟩] (some ⟨[3,12,13,14,15], [], []⟩))
  (.seq (.block 0 (.loop (.seq (.seq (.reg false [⟨(some 38), none, .mv (.t 14)⟩, ⟨(some 39), none, .len (.t 38)⟩, ⟨(some 40), none, .bin .gtr (.t 39) (.v (.int .i64 (0)))⟩, ⟨(some 41), none, .mv (.t 40)⟩, ⟨(some 42), (some (41, true)), .mv (.t 15)⟩, ⟨(some 43), (some (41, true)), .len (.t 42)⟩, ⟨(some 44), (some (41, true)), .bin .gtr (.t 43) (.v (.int .i64 (0)))⟩, ⟨(some 45), none, .pick (.t 41) (.t 44) (.v (.bool false))⟩] (some ⟨[3,12,13,14,15,45], [], []⟩))
  (.cond (.t 45)
  .skip
  (.exit 0)))
  (.block 1 (.seq (.reg true [⟨(some 46), none, .mv (.t 14)⟩, ⟨none, none, .chk (.t 46) none⟩, ⟨(some 47), none, .iadr 4 (.t 46) (.v (.int .i64 (0)))⟩, ⟨none, none, .chk (.t 47) none⟩, ⟨(some 48), none, .load true 4 (.t 47)⟩, ⟨(some 49), none, .mv (.t 15)⟩, ⟨none, none, .chk (.t 49) none⟩, ⟨(some 50), none, .iadr 4 (.t 49) (.v (.int .i64 (0)))⟩, ⟨none, none, .chk (.t 50) none⟩, ⟨(some 51), none, .load true 4 (.t 50)⟩, ⟨(some 16), none, .alloc [(.int .i64 (0)), (.int .i64 (0)), (.int .i64 (0)), (.int .i64 (0))]⟩, ⟨(some 17), none, .alloc [(.int .i64 (0)), (.int .i64 (0)), (.int .i64 (0)), (.int .i64 (0))]⟩, ⟨none, none, .store 4 (.t 16) (.t 48)⟩, ⟨none, none, .store 4 (.t 17) (.t 51)⟩] (some ⟨[3,12,13,14,15,16,17], [16,17], []⟩))
  (.seq (.seq (.reg false [⟨(some 52), none, .fadr 0 (.t 16)⟩, ⟨(some 53), none, .fadr 1 (.t 52)⟩, ⟨(some 54), none, .load false 1 (.t 53)⟩, ⟨(some 55), none, .fadr 0 (.t 17)⟩, ⟨(some 56), none, .fadr 1 (.t 55)⟩, ⟨(some 57), none, .load false 1 (.t 56)⟩, ⟨(some 58), none, .mnx false (.t 54) (.t 57)⟩, ⟨(some 59), none, .fadr 0 (.t 16)⟩, ⟨(some 60), none, .fadr 0 (.t 59)⟩, ⟨(some 61), none, .load false 1 (.t 60)⟩, ⟨(some 62), none, .fadr 0 (.t 17)⟩, ⟨(some 63), none, .fadr 0 (.t 62)⟩, ⟨(some 64), none, .load false 1 (.t 63)⟩, ⟨(some 65), none, .mnx true (.t 61) (.t 64)⟩, ⟨(some 66), none, .bin .sub (.t 58) (.t 65)⟩, ⟨(some 18), none, .mv (.t 66)⟩] (some ⟨[3,12,13,14,15,16,17,18], [16,17], []⟩))
  (.seq (.reg false [⟨(some 67), none, .mv (.t 18)⟩, ⟨(some 68), none, .bin .gtr (.t 67) (.v (.int .i64 (0)))⟩] (some ⟨[3,12,13,14,15,16,17,18,68], [16,17], []⟩))
  (.cond (.t 68)
  (.seq (.reg false [⟨(some 69), none, .mv (.t 12)⟩, ⟨(some 70), none, .mv (.t 18)⟩, ⟨(some 71), none, .bin .add (.t 69) (.t 70)⟩, ⟨(some 12), none, .mv (.t 71)⟩] (some ⟨[3,12,13,14,15,16,17,18], [16,17], []⟩))
  (.seq (.reg false [⟨(some 72), none, .fadr 2 (.t 16)⟩, ⟨(some 73), none, .load false 1 (.t 72)⟩, ⟨(some 74), none, .fadr 2 (.t 17)⟩, ⟨(some 75), none, .load false 1 (.t 74)⟩, ⟨(some 76), none, .bin .sub (.t 73) (.t 75)⟩, ⟨(some 19), none, .mv (.t 76)⟩] (some ⟨[3,12,13,14,15,16,17,18,19], [16,17], []⟩))
  (.seq (.reg false [⟨(some 77), none, .mv (.t 19)⟩, ⟨(some 78), none, .mv (.t 19)⟩, ⟨(some 79), none, .un .neg (.t 78)⟩, ⟨(some 80), none, .mnx true (.t 77) (.t 79)⟩, ⟨(some 81), none, .mv (.t 3)⟩, ⟨(some 82), none, .bin .gtr (.t 80) (.t 81)⟩] (some ⟨[3,12,13,14,15,16,17,18,82], [16,17], []⟩))
  (.cond (.t 82)
  (.reg false [⟨(some 83), none, .mv (.t 13)⟩, ⟨(some 84), none, .mv (.t 18)⟩, ⟨(some 85), none, .bin .add (.t 83) (.t 84)⟩, ⟨(some 13), none, .mv (.t 85)⟩] (some ⟨[3,12,13,14,15,16,17], [16,17], []⟩))
  .skip))))
  .skip)))
  (.seq (.reg false [⟨(some 86), none, .fadr 0 (.t 16)⟩, ⟨(some 87), none, .fadr 1 (.t 86)⟩, ⟨(some 88), none, .load false 1 (.t 87)⟩, ⟨(some 89), none, .fadr 0 (.t 17)⟩, ⟨(some 90), none, .fadr 1 (.t 89)⟩, ⟨(some 91), none, .load false 1 (.t 90)⟩, ⟨(some 92), none, .bin .leq (.t 88) (.t 91)⟩] (some ⟨[3,12,13,14,15,92], [], []⟩))
  (.cond (.t 92)
  (.reg false [⟨(some 93), none, .mv (.t 14)⟩, ⟨(some 94), none, .slc 4 (.t 93) (some (.v (.int .i64 (1)))) none⟩, ⟨(some 14), none, .mv (.t 94)⟩] (some ⟨[3,12,13,14,15], [], []⟩))
  (.reg false [⟨(some 95), none, .mv (.t 15)⟩, ⟨(some 96), none, .slc 4 (.t 95) (some (.v (.int .i64 (1)))) none⟩, ⟨(some 15), none, .mv (.t 96)⟩] (some ⟨[3,12,13,14,15], [], []⟩))))))))))
  (.seq (.reg false [⟨(some 97), none, .mv (.t 12)⟩, ⟨(some 98), none, .mv (.t 13)⟩, ⟨(some 8), none, .mv (.t 97)⟩, ⟨(some 9), none, .mv (.t 98)⟩, ⟨(some 10), none, .mv (.v (.int .i64 (0)))⟩] (some ⟨[8,9,10], [], []⟩))
  .ret)))))))
theorem c_compare : compileCode Try.prog Try.f57.ntmps (Try.f57.body.getD .skip) A_compare = some (C_compare, []) := by kernel_rfl
theorem r_compare : compileRes Try.prog Try.f57.results.toList = some [.t 8, .t 9, .t 10] := by kernel_rfl
theorem b_compare : Try.f57.body = some (Try.f57.body.getD .skip) := by kernel_rfl
theorem n_compare : (Try.f57.name == "runtime.NumGoroutine") = false := by kernel_rfl
theorem fc_compare {xt : Option (List Cel)} {args : List Val} {R : List Cel → Val → Prop} (hn : (if xt.isSome then 1 else 0) + args.length ≤ Try.f57.ntmps) (h : ex Try.prog C_compare [] (fpost xt [.t 8, .t 9, .t 10] R) (initSt xt args)) : FC Try.prog 57 xt args R :=
  fc_of_awp Try.func57 b_compare n_compare c_compare r_compare (of_decide_eq_true (by kernel_rfl)) hn h

def A_comparedOf : List Ann := [⟨(some ⟨[0,1,3,6,8,9], [6], []⟩), [], [], [], []⟩, ⟨(some ⟨[1,3,8,9,16,17,18], [], []⟩), [], [], [], []⟩, ⟨(some ⟨[1,3,8,9,16,17,18,19], [], []⟩), [], [], [], []⟩, ⟨(some ⟨[1,3,8,9,11,16,17,18], [11], []⟩), [], [], [], []⟩, ⟨(some ⟨[1,3,8,9,11,16,17,18,25,26,27], [11], []⟩), [], [], [], []⟩, ⟨(some ⟨[1,3,8,9,11,16,17,18,25,26,27,28], [11], []⟩), [], [], [], []⟩, ⟨(some ⟨[1,3,8,9,11,13,16,17,18,25,26,27], [11,13], []⟩), [], [], [], []⟩, ⟨(some ⟨[1,3,8,9,11,13,16,17,18,25,26,27], [11,13], []⟩), [], [], [], []⟩, ⟨(some ⟨[1,3,8,9,11,13,16,17,18,25,26,27,44], [11,13], []⟩), [], [], [], []⟩, ⟨(some ⟨[1,3,8,9,11,16,17,18,25,26,27], [11], []⟩), [], [], [], []⟩, ⟨(some ⟨[1,3,8,9,11,16,17,18,25,26,27], [11], []⟩), [], [], [], []⟩, ⟨(some ⟨[1,3,8,9,16,17,18], [], []⟩), [], [], [], []⟩, ⟨(some ⟨[8,9], [], []⟩), [], [], [], []⟩]
def C_comparedOf : AC := (.seq (.reg false [⟨(some 6), none, .box (.t 2)⟩, ⟨(some 8), none, .mv (.v (.int .i64 (0)))⟩, ⟨(some 9), none, .mv (.v (.int .i64 (0)))⟩] (some ⟨[0,1,3,6,8,9], [6], []⟩))
  (.seq (.seq (.reg false [⟨(some 14), none, .mv (.t 0)⟩, ⟨(some 15), none, .load true 2 (.t 6)⟩, ⟨(some 16), none, .call (.f 117) [(.t 14), (.t 15)]⟩, ⟨(some 17), none, .len (.t 16)⟩, ⟨(some 18), none, .mv (.v (.int .i64 (0)))⟩] (some ⟨[1,3,8,9,16,17,18], [], []⟩))
  (.block 0 (.loop (.seq (.reg false [⟨(some 19), none, .bin .lss (.t 18) (.t 17)⟩] (some ⟨[1,3,8,9,16,17,18,19], [], []⟩))
  (.seq (.cond (.t 19)
  .skip
  (.exit 0))
  (.seq (.block 1 (.seq (.reg false [⟨(some 20), none, .iadr 5 (.t 16) (.t 18)⟩, ⟨(some 21), none, .load true 5 (.t 20)⟩, ⟨(some 11), none, .alloc [(.int .i64 (0)), (.int .i64 (0)), (.int .i64 (0)), (.int .i64 (0)), (.int .i64 (0))]⟩, ⟨none, none, .store 5 (.t 11) (.t 21)⟩] (some ⟨[1,3,8,9,11,16,17,18], [11], []⟩))
  (.seq (.reg false [⟨(some 22), none, .mv (.t 1)⟩, ⟨(some 23), none, .fadr 0 (.t 11)⟩, ⟨(some 24), none, .load true 2 (.t 23)⟩, ⟨(some 25), none, .call (.f 117) [(.t 22), (.t 24)]⟩, ⟨(some 26), none, .len (.t 25)⟩, ⟨(some 27), none, .mv (.v (.int .i64 (0)))⟩] (some ⟨[1,3,8,9,11,16,17,18,25,26,27], [11], []⟩))
  (.block 2 (.loop (.seq (.reg false [⟨(some 28), none, .bin .lss (.t 27) (.t 26)⟩] (some ⟨[1,3,8,9,11,16,17,18,25,26,27,28], [11], []⟩))
  (.seq (.cond (.t 28)
  .skip
  (.exit 2))
  (.seq (.block 3 (.seq (.reg false [⟨(some 29), none, .iadr 5 (.t 25) (.t 27)⟩, ⟨(some 30), none, .load true 5 (.t 29)⟩, ⟨(some 13), none, .alloc [(.int .i64 (0)), (.int .i64 (0)), (.int .i64 (0)), (.int .i64 (0)), (.int .i64 (0))]⟩, ⟨none, none, .store 5 (.t 13) (.t 30)⟩] (some ⟨[1,3,8,9,11,13,16,17,18,25,26,27], [11,13], []⟩))
  (.seq (.reg false [⟨(some 31), none, .mv (.t 8)⟩, ⟨(some 32), none, .fadr 0 (.t 13)⟩, ⟨(some 33), none, .load true 2 (.t 32)⟩, ⟨(some 34), none, .call (.f 118) [(.t 33)]⟩, ⟨(some 35), none, .bin .add (.t 31) (.t 34)⟩, ⟨(some 8), none, .mv (.t 35)⟩] (some ⟨[1,3,8,9,11,13,16,17,18,25,26,27], [11,13], []⟩))
  (.seq (.reg false [⟨(some 36), none, .fadr 2 (.t 11)⟩, ⟨(some 37), none, .fadr 1 (.t 36)⟩, ⟨(some 38), none, .load false 1 (.t 37)⟩, ⟨(some 39), none, .fadr 2 (.t 13)⟩, ⟨(some 40), none, .fadr 1 (.t 39)⟩, ⟨(some 41), none, .load false 1 (.t 40)⟩, ⟨(some 42), none, .call (.f 96) [(.t 38), (.t 41)]⟩, ⟨(some 43), none, .mv (.t 3)⟩, ⟨(some 44), none, .bin .gtr (.t 42) (.t 43)⟩] (some ⟨[1,3,8,9,11,13,16,17,18,25,26,27,44], [11,13], []⟩))
  (.cond (.t 44)
  (.reg false [⟨(some 45), none, .mv (.t 9)⟩, ⟨(some 46), none, .fadr 0 (.t 13)⟩, ⟨(some 47), none, .load true 2 (.t 46)⟩, ⟨(some 48), none, .call (.f 118) [(.t 47)]⟩, ⟨(some 49), none, .bin .add (.t 45) (.t 48)⟩, ⟨(some 9), none, .mv (.t 49)⟩] (some ⟨[1,3,8,9,11,16,17,18,25,26,27], [11], []⟩))
  .skip)))))
  (.reg false [⟨(some 50), none, .bin .add (.t 27) (.v (.int .i64 (1)))⟩, ⟨(some 27), none, .mv (.t 50)⟩] (some ⟨[1,3,8,9,11,16,17,18,25,26,27], [11], []⟩))))))))))
  (.reg false [⟨(some 51), none, .bin .add (.t 18) (.v (.int .i64 (1)))⟩, ⟨(some 18), none, .mv (.t 51)⟩] (some ⟨[1,3,8,9,16,17,18], [], []⟩))))))))
  (.seq (.reg false [⟨(some 52), none, .mv (.t 8)⟩, ⟨(some 53), none, .mv (.t 9)⟩, ⟨(some 8), none, .mv (.t 52)⟩, ⟨(some 9), none, .mv (.t 53)⟩] (some ⟨[8,9], [], []⟩))
  .ret)))
theorem c_comparedOf : compileCode Try.prog Try.f61.ntmps (Try.f61.body.getD .skip) A_comparedOf = some (C_comparedOf, []) := by kernel_rfl
theorem r_comparedOf : compileRes Try.prog Try.f61.results.toList = some [.t 8, .t 9] := by kernel_rfl
theorem b_comparedOf : Try.f61.body = some (Try.f61.body.getD .skip) := by kernel_rfl
theorem n_comparedOf : (Try.f61.name == "runtime.NumGoroutine") = false := by kernel_rfl
theorem fc_comparedOf {xt : Option (List Cel)} {args : List Val} {R : List Cel → Val → Prop} (hn : (if xt.isSome then 1 else 0) + args.length ≤ Try.f61.ntmps) (h : ex Try.prog C_comparedOf [] (fpost xt [.t 8, .t 9] R) (initSt xt args)) : FC Try.prog 61 xt args R :=
  fc_of_awp Try.func61 b_comparedOf n_comparedOf c_comparedOf r_comparedOf (of_decide_eq_true (by kernel_rfl)) hn h


def ov (p q : Pc) : Int := max 0 (min p.t q.t - max p.f q.f)
def wt (c : Pc → Pc → Bool) (p q : Pc) : Int := if c p q = true then ov p q else 0
def S1 (c : Pc → Pc → Bool) (p : Pc) : List Pc → Int
  | [] => 0
  | q :: B => wt c p q + S1 c p B
def S2 (c : Pc → Pc → Bool) (B : List Pc) : List Pc → Int
  | [] => 0
  | p :: A => S1 c p B + S2 c B A
def allB (_ _ : Pc) : Bool := true
def farB (w : Int) (p q : Pc) : Bool := decide (max (p.v - q.v) (q.v - p.v) > w)
theorem Chain.ge : ∀ {m : List Pc} {lo hi : Int}, Chain lo hi m → ∀ p ∈ m, lo ≤ p.f ∧ p.f < p.t ∧ p.t ≤ hi ∧ (-1000000 ≤ p.v ∧ p.v ≤ 1000000)
  | [], lo, hi, _, p, hp => by cases hp
  | x :: r, lo, hi, h, p, hp => by
    obtain ⟨h1, h2, h3, h4⟩ := h
    have h5 := h4.le
    simp only [List.mem_cons] at hp
    rcases hp with rfl | hp
    · exact ⟨h1, h2, h5, h3⟩
    · have := h4.ge p hp; exact ⟨by omega, this.2⟩
theorem wt_zero {c : Pc → Pc → Bool} {p q : Pc} (h : p.t ≤ q.f ∨ q.t ≤ p.f) : wt c p q = 0 := by
  unfold wt ov; split <;> omega
theorem S1_zero {c : Pc → Pc → Bool} {p : Pc} : ∀ {B : List Pc}, (∀ q ∈ B, p.t ≤ q.f) → S1 c p B = 0
  | [], _ => rfl
  | q :: B, h => by
    rw [S1, wt_zero (.inl (h q (by simp))), S1_zero (fun x hx => h x (by simp [hx]))]; rfl
theorem S2_nil (c : Pc → Pc → Bool) : ∀ A : List Pc, S2 c [] A = 0
  | [] => rfl
  | p :: A => by rw [S2, S2_nil c A]; rfl
theorem S2_col {c : Pc → Pc → Bool} {q : Pc} {B : List Pc} : ∀ {A : List Pc}, (∀ p ∈ A, q.t ≤ p.f) → S2 c (q :: B) A = S2 c B A
  | [], _ => rfl
  | p :: A, h => by
    rw [S2, S2, S1, wt_zero (.inr (h p (by simp))), S2_col (fun x hx => h x (by simp [hx]))]; omega
theorem S2_step (c : Pc → Pc → Bool) {p q : Pc} {A B : List Pc} {lo lo' hi hi' : Int} (hA : Chain lo hi (p :: A)) (hB : Chain lo' hi' (q :: B)) : S2 c (q :: B) (p :: A) = wt c p q + (if p.t ≤ q.t then S2 c (q :: B) A else S2 c B (p :: A)) := by
  by_cases h : p.t ≤ q.t
  · rw [if_pos h, S2, S1, S1_zero (fun x hx => by have := (hB.2.2.2.ge x hx).1; omega)]; omega
  · rw [if_neg h, S2, S1, S2, S2_col (fun x hx => by have := (hA.2.2.2.ge x hx).1; omega)]; omega
def cmpSt (w : Int) (x y : Int) (A B : List Pc) : AS := ⟨tabV [(3, iv w), (12, iv x), (13, iv y), (14, pcsV true A), (15, pcsV true B)], tabO [], tabO []⟩
def cmpF (a b : List Smp) (f t w : Int) : Int := orSp [serFault a, bothFault b f t, if 0 ≤ w ∧ w ≤ 2000000 then 0 else 1]
def cmpSp (a b : List Smp) (f t w : Int) : Int × Int × Int := if cmpF a b f t w ≠ 0 then (0, 0, cmpF a b f t w) else (S2 allB (vals f t b) (vals f t a), S2 (farB w) (vals f t b) (vals f t a), 0)
theorem cmpF_cons (a b : List Smp) (f t w : Int) : cmpF a b f t w = if orSp [serFault a, bothFault b f t] ≠ 0 then orSp [serFault a, bothFault b f t] else if 0 ≤ w ∧ w ≤ 2000000 then 0 else 1 := by
  unfold cmpF
  simp only [orSp]
  by_cases h1 : serFault a = 0
  · by_cases h2 : bothFault b f t = 0
    · simp only [h1, h2]; simp
    · simp [h1, h2]
  · simp [h1]
set_option maxHeartbeats 12000000 in
theorem compare_fc (a b : List Smp) (ha : a.length ≤ 4611686018427387904) (hb : b.length ≤ 4611686018427387904) (f t w : Int) : FC Try.prog 57 none [smps false a, smps false b, winV f t, iv w] (fun _ r => r = .tu [iv (cmpSp a b f t w).1, iv (cmpSp a b f t w).2.1, iv (cmpSp a b f t w).2.2]) := by
  refine fc_compare (by simp +arith) ?_
  unfold C_compare cmpSp
  rw [cmpF_cons]
  simp (maxSteps := 1000000) (disch := omega) only [go_sem, eq_self, decide_true, decide_false, not_true_eq_false, not_false_eq_true, reduceIte, reduceCtorEq, Nat.reduceEqDiff, Nat.reduceAdd, Nat.reduceSub, Nat.reduceLeDiff]
  refine CALL_det (checkSeries_fc a ha) (.inl rfl) ?_
  simp (maxSteps := 1000000) (disch := omega) only [go_sem, eq_self, decide_true, decide_false, not_true_eq_false, not_false_eq_true, reduceIte, reduceCtorEq, Nat.reduceEqDiff, Nat.reduceAdd, Nat.reduceSub, Nat.reduceLeDiff]
  refine CALL_det (fault_fc b hb f t) (.inl rfl) ?_
  simp (maxSteps := 1000000) (disch := omega) only [go_sem, eq_self, decide_true, decide_false, not_true_eq_false, not_false_eq_true, reduceIte, reduceCtorEq, Nat.reduceEqDiff, Nat.reduceAdd, Nat.reduceSub, Nat.reduceLeDiff]
  refine CALL_det (first_fc false [serFault a, bothFault b f t] (by simp)) (.inl rfl) ?_
  by_cases h1 : orSp [serFault a, bothFault b f t] = 0
  · obtain ⟨h2, h3⟩ := or2_z' h1
    have hw := winFault_ok (bothFault_ok h3).2
    have hsb := (bothFault_ok h3).1
    have hla := (good_of h2).len
    have hlb := (good_of hsb).len
    rw [if_neg (show ¬(orSp [serFault a, bothFault b f t] ≠ 0) by omega), h1]
    simp (maxSteps := 1000000) (disch := omega) only [go_sem, eq_self, decide_true, decide_false, not_true_eq_false, not_false_eq_true, reduceIte, reduceCtorEq, Nat.reduceEqDiff, Nat.reduceAdd, Nat.reduceSub, Nat.reduceLeDiff]
    refine CALL_det (out_fc _ _ _) (.inl rfl) ?_
    by_cases h4 : 0 ≤ w ∧ w ≤ 2000000
    · rw [if_pos h4, decide_eq_false (show ¬(w < 0 ∨ w > 2000000) by omega), if_neg (show ¬((0 : Int) ≠ 0) by simp)]
      simp (maxSteps := 1000000) (disch := omega) only [go_sem, eq_self, decide_true, decide_false, not_true_eq_false, not_false_eq_true, reduceIte, reduceCtorEq, Nat.reduceEqDiff, Nat.reduceAdd, Nat.reduceSub, Nat.reduceLeDiff]
      refine CALL_det (valued_fc a (by omega) f t) (.inl rfl) ?_
      simp (maxSteps := 1000000) (disch := omega) only [go_sem, eq_self, decide_true, decide_false, not_true_eq_false, not_false_eq_true, reduceIte, reduceCtorEq, Nat.reduceEqDiff, Nat.reduceAdd, Nat.reduceSub, Nat.reduceLeDiff]
      refine CALL_det (valued_fc b (by omega) f t) (.inl rfl) ?_
      have hA := vals_chain hw.2.1 h2
      have hB := vals_chain hw.2.1 hsb
      have hAl := vals_len f t a
      have hBl := vals_len f t b
      generalize vals f t a = A0 at *
      generalize vals f t b = B0 at *
      simp (maxSteps := 1000000) (disch := omega) only [go_sem, eq_self, decide_true, decide_false, not_true_eq_false, not_false_eq_true, reduceIte, reduceCtorEq, Nat.reduceEqDiff, Nat.reduceAdd, Nat.reduceSub, Nat.reduceLeDiff]
      refine ex_loop4 (cmpSt w) (fun x y A B => (∃ lo, f ≤ lo ∧ Chain lo t A) ∧ (∃ lo, f ≤ lo ∧ Chain lo t B) ∧ A.length ≤ A0.length ∧ B.length ≤ B0.length ∧ 0 ≤ x ∧ x ≤ ((A0.length + B0.length : Int) - (A.length + B.length : Int)) * 345686400000 ∧ 0 ≤ y ∧ y ≤ ((A0.length + B0.length : Int) - (A.length + B.length : Int)) * 345686400000 ∧ x + S2 allB B A = S2 allB B0 A0 ∧ y + S2 (farB w) B A = S2 (farB w) B0 A0) (fun _ _ A B => A.length + B.length) 0 0 A0 B0 ⟨⟨f, by omega, hA⟩, ⟨f, by omega, hB⟩, by omega, by omega, by omega, by omega, by omega, by omega, by omega, by omega⟩ rfl ?_
      rintro x y A B ⟨⟨lo, hlo, cA⟩, ⟨lo', hlo', cB⟩, l1, l2, x1, x2, y1, y2, s1, s2⟩
      unfold cmpSt
      cases A with
      | nil =>
        simp only [S2, Int.add_zero] at s1 s2
        rw [← s1, ← s2]
        simp (maxSteps := 1000000) (disch := omega) only [go_sem, eq_self, decide_true, decide_false, not_true_eq_false, not_false_eq_true, reduceIte, reduceCtorEq, Nat.reduceEqDiff, Nat.reduceAdd, Nat.reduceSub, Nat.reduceLeDiff]
      | cons p A =>
        cases B with
        | nil =>
          simp only [S2_nil, Int.add_zero] at s1 s2
          rw [← s1, ← s2]
          have e0 : (p :: A).length = A.length + 1 := rfl
          generalize p :: A = m at *
          simp (maxSteps := 1000000) (disch := omega) only [go_sem, eq_self, decide_true, decide_false, not_true_eq_false, not_false_eq_true, reduceIte, reduceCtorEq, Nat.reduceEqDiff, Nat.reduceAdd, Nat.reduceSub, Nat.reduceLeDiff]
        | cons q B =>
          rw [S2_step allB cA cB] at s1
          rw [S2_step (farB w) cA cB] at s2
          obtain ⟨a1, a2, a3, cA'⟩ := cA
          obtain ⟨b1, b2, b3, cB'⟩ := cB
          have cAle := cA'.le
          have cBle := cB'.le
          have cA0 : Chain p.f t (p :: A) := ⟨by omega, a2, a3, cA'⟩
          have cB0 : Chain q.f t (q :: B) := ⟨by omega, b2, b3, cB'⟩
          have eA : (p :: A).length = A.length + 1 := rfl
          have eB : (q :: B).length = B.length + 1 := rfl
          have gA : (p :: A).getD (Int.toNat 0) default = p := rfl
          have gB : (q :: B).getD (Int.toNat 0) default = q := rfl
          have dA : ((p :: A).map pcC).drop (Int.toNat 1) = A.map pcC := rfl
          have dB : ((q :: B).map pcC).drop (Int.toNat 1) = B.map pcC := rfl
          have e1 : ((p :: A).map pcC).getD (Int.toNat 0) [] = pcC p := rfl
          have e2 : ((q :: B).map pcC).getD (Int.toNat 0) [] = pcC q := rfl
          have w1 : wt allB p q = if min p.t q.t - max p.f q.f > 0 then min p.t q.t - max p.f q.f else 0 := by
            unfold wt allB ov; rw [if_pos rfl]; split <;> omega
          have w2 : wt (farB w) p q = if max (p.v - q.v) (q.v - p.v) > w then (if min p.t q.t - max p.f q.f > 0 then min p.t q.t - max p.f q.f else 0) else 0 := by
            unfold wt farB ov; simp only [decide_eq_true_eq]; split
            · split <;> omega
            · rfl
          rw [w1] at s1
          rw [w2] at s2
          generalize hmA : p :: A = m at *
          generalize hmB : q :: B = n at *
          subst gA
          subst gB
          clear e1 e2
          by_cases c1 : min (m.getD (Int.toNat 0) default).t (n.getD (Int.toNat 0) default).t - max (m.getD (Int.toNat 0) default).f (n.getD (Int.toNat 0) default).f > 0
          · rw [if_pos c1] at s1 s2
            by_cases c2 : max ((m.getD (Int.toNat 0) default).v - (n.getD (Int.toNat 0) default).v) ((n.getD (Int.toNat 0) default).v - (m.getD (Int.toNat 0) default).v) > w
            · rw [if_pos c2] at s2
              by_cases c3 : (m.getD (Int.toNat 0) default).t ≤ (n.getD (Int.toNat 0) default).t
              · rw [if_pos c3] at s1 s2
                simp (maxSteps := 1000000) (disch := omega) only [go_sem, eq_self, decide_true, decide_false, not_true_eq_false, not_false_eq_true, reduceIte, reduceCtorEq, Nat.reduceEqDiff, Nat.reduceAdd, Nat.reduceSub, Nat.reduceLeDiff]
                simp only [dA]
                exact ⟨_, _, A, n, rfl, ⟨⟨_, by omega, cA'⟩, ⟨_, by omega, cB0⟩, by omega, by omega, by omega, by omega, by omega, by omega, by omega, by omega⟩, by omega⟩
              · rw [if_neg c3] at s1 s2
                simp (maxSteps := 1000000) (disch := omega) only [go_sem, eq_self, decide_true, decide_false, not_true_eq_false, not_false_eq_true, reduceIte, reduceCtorEq, Nat.reduceEqDiff, Nat.reduceAdd, Nat.reduceSub, Nat.reduceLeDiff]
                simp only [dB]
                exact ⟨_, _, m, B, rfl, ⟨⟨_, by omega, cA0⟩, ⟨_, by omega, cB'⟩, by omega, by omega, by omega, by omega, by omega, by omega, by omega, by omega⟩, by omega⟩
            · rw [if_neg c2] at s2
              by_cases c3 : (m.getD (Int.toNat 0) default).t ≤ (n.getD (Int.toNat 0) default).t
              · rw [if_pos c3] at s1 s2
                simp (maxSteps := 1000000) (disch := omega) only [go_sem, eq_self, decide_true, decide_false, not_true_eq_false, not_false_eq_true, reduceIte, reduceCtorEq, Nat.reduceEqDiff, Nat.reduceAdd, Nat.reduceSub, Nat.reduceLeDiff]
                simp only [dA]
                exact ⟨_, _, A, n, rfl, ⟨⟨_, by omega, cA'⟩, ⟨_, by omega, cB0⟩, by omega, by omega, by omega, by omega, by omega, by omega, by omega, by omega⟩, by omega⟩
              · rw [if_neg c3] at s1 s2
                simp (maxSteps := 1000000) (disch := omega) only [go_sem, eq_self, decide_true, decide_false, not_true_eq_false, not_false_eq_true, reduceIte, reduceCtorEq, Nat.reduceEqDiff, Nat.reduceAdd, Nat.reduceSub, Nat.reduceLeDiff]
                simp only [dB]
                exact ⟨_, _, m, B, rfl, ⟨⟨_, by omega, cA0⟩, ⟨_, by omega, cB'⟩, by omega, by omega, by omega, by omega, by omega, by omega, by omega, by omega⟩, by omega⟩
          · rw [if_neg c1] at s1 s2
            rw [ite_self] at s2
            by_cases c3 : (m.getD (Int.toNat 0) default).t ≤ (n.getD (Int.toNat 0) default).t
            · rw [if_pos c3] at s1 s2
              simp (maxSteps := 1000000) (disch := omega) only [go_sem, eq_self, decide_true, decide_false, not_true_eq_false, not_false_eq_true, reduceIte, reduceCtorEq, Nat.reduceEqDiff, Nat.reduceAdd, Nat.reduceSub, Nat.reduceLeDiff]
              simp only [dA]
              exact ⟨_, _, A, n, rfl, ⟨⟨_, by omega, cA'⟩, ⟨_, by omega, cB0⟩, by omega, by omega, by omega, by omega, by omega, by omega, by omega, by omega⟩, by omega⟩
            · rw [if_neg c3] at s1 s2
              simp (maxSteps := 1000000) (disch := omega) only [go_sem, eq_self, decide_true, decide_false, not_true_eq_false, not_false_eq_true, reduceIte, reduceCtorEq, Nat.reduceEqDiff, Nat.reduceAdd, Nat.reduceSub, Nat.reduceLeDiff]
              simp only [dB]
              exact ⟨_, _, m, B, rfl, ⟨⟨_, by omega, cA0⟩, ⟨_, by omega, cB'⟩, by omega, by omega, by omega, by omega, by omega, by omega, by omega, by omega⟩, by omega⟩
    · rw [if_neg h4, decide_eq_true (show w < 0 ∨ w > 2000000 by omega), if_pos (show (1 : Int) ≠ 0 by simp)]
      simp (maxSteps := 1000000) (disch := omega) only [go_sem, eq_self, decide_true, decide_false, not_true_eq_false, not_false_eq_true, reduceIte, reduceCtorEq, Nat.reduceEqDiff, Nat.reduceAdd, Nat.reduceSub, Nat.reduceLeDiff]
  · rw [if_pos (show orSp [serFault a, bothFault b f t] ≠ 0 by omega), if_pos (show orSp [serFault a, bothFault b f t] ≠ 0 by omega)]
    simp (maxSteps := 1000000) (disch := omega) only [go_sem, eq_self, decide_true, decide_false, not_true_eq_false, not_false_eq_true, reduceIte, reduceCtorEq, Nat.reduceEqDiff, Nat.reduceAdd, Nat.reduceSub, Nat.reduceLeDiff]
/-- The sum over pieces of their lengths, where c says so. -/
def SC (c : Pc → Pc → Bool) (x : Pc) : List Pc → Int
  | [] => 0
  | y :: r => (if c x y = true then y.t - y.f else 0) + SC c x r
theorem SC_app (c : Pc → Pc → Bool) (x : Pc) : ∀ a b : List Pc, SC c x (a ++ b) = SC c x a + SC c x b
  | [], b => by simp [SC]
  | y :: a, b => by rw [List.cons_append, SC, SC, SC_app c x a b]; omega
theorem S1_app (c : Pc → Pc → Bool) (x : Pc) : ∀ a b : List Pc, S1 c x (a ++ b) = S1 c x a + S1 c x b
  | [], b => by simp [S1]
  | y :: a, b => by rw [List.cons_append, S1, S1, S1_app c x a b]; omega
def nbB (x : Pc) : Bool := !decide (x.q = 2)
theorem clip1 (c : Pc → Pc → Bool) (x : Pc) (hc : ∀ q q' : Pc, q.v = q'.v → c x q = c x q') (f t a u v q : Int) (hf : f ≤ x.f) (hx : x.f < x.t) (ht : x.t ≤ t) :
    SC c x ((if max x.f a < min x.t u then [⟨max x.f a, min x.t u, v, q⟩] else []).filter nbB) = S1 c x ((if max f a < min t u then [⟨max f a, min t u, v, q⟩] else []).filter nbB) := by
  by_cases hq : q = 2
  · have h1 : ∀ (p : Prop) [Decidable p] (w : Pc), w.q = 2 → (if p then [w] else []).filter nbB = [] := by
      intro p _ w hw
      split
      · rw [List.filter_cons, if_neg (by simp [nbB, hw])]; rfl
      · rfl
    rw [h1 _ _ hq, h1 _ _ hq]; rfl
  · have h1 : ∀ (p : Prop) [Decidable p] (w : Pc), ¬w.q = 2 → (if p then [w] else []).filter nbB = if p then [w] else [] := by
      intro p _ w hw
      split
      · rw [List.filter_cons, if_pos (by simp [nbB, hw])]; rfl
      · rfl
    rw [h1 _ _ hq, h1 _ _ hq]
    have h2 := hc ⟨max x.f a, min x.t u, v, q⟩ ⟨max f a, min t u, v, q⟩ rfl
    by_cases c1 : max x.f a < min x.t u
    · rw [if_pos c1, if_pos (by omega), SC, S1, SC, S1, h2]
      unfold wt ov
      split
      · simp only; omega
      · rfl
    · rw [if_neg c1]
      by_cases c2 : max f a < min t u
      · rw [if_pos c2, S1, S1, SC]
        unfold wt ov
        split
        · simp only; omega
        · rfl
      · rw [if_neg c2]; rfl
theorem clip (c : Pc → Pc → Bool) (x : Pc) (hc : ∀ q q' : Pc, q.v = q'.v → c x q = c x q') (f t : Int) (hf : f ≤ x.f) (hx : x.f < x.t) (ht : x.t ≤ t) : ∀ l : List Smp, SC c x ((pcsGo x.f x.t l).filter nbB) = S1 c x ((pcsGo f t l).filter nbB)
  | [] => rfl
  | [s] => by
    have h := clip1 c x hc f t s.a t s.v s.q hf hx ht
    rw [show min x.t t = x.t by omega, Int.min_self] at h
    rw [pcsGo, pcsGo]; exact h
  | s :: s' :: r => by
    rw [pcsGo, pcsGo, List.filter_append, List.filter_append, SC_app, S1_app, clip c x hc f t hf hx ht (s' :: r), clip1 c x hc f t s.a s'.a s.v s.q hf hx ht]
end Go.Proofs.Ytkecmbgjhamhiaa

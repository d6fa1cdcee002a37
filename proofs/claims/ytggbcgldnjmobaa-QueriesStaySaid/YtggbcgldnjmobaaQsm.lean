
/-
  Points, Buckets and Above hand back new rows.
-/
import Derived.Test.YtggbcgldnjmobaaBkt
namespace Go.Proofs.Ytggbcgldnjmobaa
open Go Go.Ai
set_option linter.unusedSimpArgs false
set_option linter.unusedVariables false
set_option maxHeartbeats 4000000
def A_mpoints : List Ann := [⟨(some ⟨[0,1,3,6], [6], [12]⟩), [], [], [], []⟩, ⟨(some ⟨[0,1,3,6,10], [6], [12]⟩), [], [], [], []⟩, ⟨(some ⟨[0,1,3,6,10,20], [6], [12]⟩), [], [], [], []⟩, ⟨(some ⟨[8,9], [], [12]⟩), [], [], [(8, 4)], []⟩, ⟨(some ⟨[0,1,3,6,11], [6], [12]⟩), [], [], [], []⟩, ⟨(some ⟨[0,1,3,6,11,26], [6], [12]⟩), [], [], [], []⟩, ⟨(some ⟨[8,9], [], [12]⟩), [], [], [(8, 4)], []⟩, ⟨(some ⟨[0,1,3,6,12], [6], []⟩), [(12, 92, 4)], [], [], []⟩, ⟨(some ⟨[0,1,3,6,12,13], [6], [12]⟩), [], [], [], []⟩, ⟨(some ⟨[0,1,3,6,12,13,33], [6], [12]⟩), [], [], [], []⟩, ⟨(some ⟨[0,1,3,6,12,13,14,15], [6,14], [12]⟩), [], [], [], []⟩, ⟨(some ⟨[0,1,3,6,12,13,14,44], [6,14], [12]⟩), [], [], [], []⟩, ⟨(some ⟨[0,1,3,6,12,13], [6], [12]⟩), [], [], [], []⟩, ⟨(some ⟨[0,1,3,6,12,13], [6], [12]⟩), [], [], [], []⟩, ⟨(some ⟨[8,9], [], [12]⟩), [], [], [], []⟩]
def C_mpoints : AC := (.seq (.reg false [⟨(some 6), none, .box (.t 2)⟩, ⟨(some 8), none, .mv (.v (.slice none 0 0))⟩, ⟨(some 9), none, .mv (.v (.int .i64 (0)))⟩] (some ⟨[0,1,3,6], [6], [12]⟩))
  (.seq (.seq (.reg false [⟨(some 16), none, .mv (.t 0)⟩, ⟨(some 17), none, .load true 2 (.t 6)⟩, ⟨(some 18), none, .call (.f 110) [(.t 16), (.t 17)]⟩, ⟨(some 10), none, .mv (.t 18)⟩] (some ⟨[0,1,3,6,10], [6], [12]⟩))
  (.seq (.reg false [⟨(some 19), none, .mv (.t 10)⟩, ⟨(some 20), none, .bin .neq (.t 19) (.v (.int .i64 (0)))⟩] (some ⟨[0,1,3,6,10,20], [6], [12]⟩))
  (.cond (.t 20)
  (.seq (.seq (.reg false [⟨(some 21), none, .mv (.t 10)⟩, ⟨(some 8), none, .mv (.v (.slice none 0 0))⟩, ⟨(some 9), none, .mv (.t 21)⟩] (some ⟨[8,9], [], [12]⟩))
  (.ty 8 4))
  .ret)
  .skip)))
  (.seq (.seq (.reg false [⟨(some 22), none, .load true 2 (.t 6)⟩, ⟨(some 23), none, .mv (.t 3)⟩, ⟨(some 24), none, .call (.f 111) [(.t 22), (.t 23)]⟩, ⟨(some 11), none, .mv (.t 24)⟩] (some ⟨[0,1,3,6,11], [6], [12]⟩))
  (.seq (.reg false [⟨(some 25), none, .mv (.t 11)⟩, ⟨(some 26), none, .bin .neq (.t 25) (.v (.int .i64 (0)))⟩] (some ⟨[0,1,3,6,11,26], [6], [12]⟩))
  (.cond (.t 26)
  (.seq (.seq (.reg false [⟨(some 27), none, .mv (.t 11)⟩, ⟨(some 8), none, .mv (.v (.slice none 0 0))⟩, ⟨(some 9), none, .mv (.t 27)⟩] (some ⟨[8,9], [], [12]⟩))
  (.ty 8 4))
  .ret)
  .skip)))
  (.seq (.seq (.reg false [⟨(some 12), none, .mv (.v (.slice none 0 0))⟩] (some ⟨[0,1,3,6,12], [6], []⟩))
  (.own 12 92 4))
  (.seq (.seq (.reg false [⟨(some 28), none, .fadr 0 (.t 6)⟩, ⟨(some 29), none, .load false 1 (.t 28)⟩, ⟨(some 13), none, .mv (.t 29)⟩] (some ⟨[0,1,3,6,12,13], [6], [12]⟩))
  (.block 0 (.loop (.seq (.seq (.reg false [⟨(some 30), none, .mv (.t 13)⟩, ⟨(some 31), none, .fadr 1 (.t 6)⟩, ⟨(some 32), none, .load false 1 (.t 31)⟩, ⟨(some 33), none, .bin .lss (.t 30) (.t 32)⟩] (some ⟨[0,1,3,6,12,13,33], [6], [12]⟩))
  (.cond (.t 33)
  .skip
  (.exit 0)))
  (.seq (.block 1 (.seq (.reg false [⟨(some 38), none, .mv (.t 0)⟩, ⟨(some 39), none, .mv (.t 1)⟩, ⟨(some 40), none, .mv (.t 13)⟩, ⟨(some 41), none, .call (.f 112) [(.t 38), (.t 39), (.t 40)]⟩, ⟨(some 37), none, .mv (.t 41)⟩, ⟨(some 42), none, .extr (.t 37) 0⟩, ⟨(some 43), none, .extr (.t 37) 1⟩, ⟨(some 14), none, .alloc [(.int .i64 (0)), (.int .i64 (0)), (.int .i64 (0)), (.int .i64 (0))]⟩, ⟨none, none, .store 4 (.t 14) (.t 42)⟩, ⟨(some 15), none, .mv (.t 43)⟩] (some ⟨[0,1,3,6,12,13,14,15], [6,14], [12]⟩))
  (.seq (.reg false [⟨(some 44), none, .mv (.t 15)⟩] (some ⟨[0,1,3,6,12,13,14,44], [6,14], [12]⟩))
  (.cond (.t 44)
  (.reg false [⟨(some 45), none, .mv (.t 12)⟩, ⟨(some 46), none, .load true 4 (.t 14)⟩, ⟨(some 47), none, .bslice 4 1 [(.t 46)]⟩, ⟨(some 48), none, .append 92 4 32 (.t 45) (.t 47)⟩, ⟨(some 12), none, .mv (.t 48)⟩] (some ⟨[0,1,3,6,12,13], [6], [12]⟩))
  .skip))))
  (.reg false [⟨(some 34), none, .mv (.t 13)⟩, ⟨(some 35), none, .mv (.t 3)⟩, ⟨(some 36), none, .bin .add (.t 34) (.t 35)⟩, ⟨(some 13), none, .mv (.t 36)⟩] (some ⟨[0,1,3,6,12,13], [6], [12]⟩)))))))
  (.seq (.reg false [⟨(some 49), none, .mv (.t 12)⟩, ⟨(some 8), none, .mv (.t 49)⟩, ⟨(some 9), none, .mv (.v (.int .i64 (0)))⟩] (some ⟨[8,9], [], [12]⟩))
  .ret))))))
theorem c_mpoints : compileCode Try.prog Try.f53.ntmps (Try.f53.body.getD .skip) A_mpoints = some (C_mpoints, []) := by kernel_rfl
theorem r_mpoints : compileRes Try.prog Try.f53.results.toList = some [.t 8, .t 9] := by kernel_rfl
theorem b_mpoints : Try.f53.body = some (Try.f53.body.getD .skip) := by kernel_rfl
theorem n_mpoints : (Try.f53.name == "runtime.NumGoroutine") = false := by kernel_rfl
theorem fc_mpoints {xt : Option (List Cel)} {args : List Val} {R : List Cel → Val → Prop} (hn : (if xt.isSome then 1 else 0) + args.length ≤ Try.f53.ntmps) (h : ex Try.prog C_mpoints [] (fpost xt [.t 8, .t 9] R) (initSt xt args)) : FC Try.prog 53 xt args R :=
  fc_of_awp Try.func53 b_mpoints n_mpoints c_mpoints r_mpoints (of_decide_eq_true (by kernel_rfl)) hn h
theorem fcm_mpoints {H : Hp} {K : Keep} {args : List Val} {R : Hp → Val → Prop} (hn : args.length ≤ Try.f53.ntmps) (hkb : ∀ p ∈ H.bs, p.1 = 0 ∨ XK ≤ p.1) (hkr : ∀ p ∈ H.rs, XK ≤ p.1) (h : ex Try.prog C_mpoints [] (mpost H K [.t 8, .t 9] R) (initM H args)) : FCM Try.prog 53 H args R :=
  fcm_of_awp Try.func53 b_mpoints n_mpoints c_mpoints r_mpoints (of_decide_eq_true (by kernel_rfl)) hn hkb hkr h
theorem fcms_mpoints {S : List Nat} {H : Hp} {K : Keep} {args : List Val} {R : Hp → Val → Prop} (hn : args.length ≤ Try.f53.ntmps) (hkb : ∀ p ∈ H.bs, p.1 = 0 ∨ XK ≤ p.1) (hkr : ∀ p ∈ H.rs, XK ≤ p.1) (h : ex Try.prog C_mpoints [] (mpostS S H K [.t 8, .t 9] R) (initM H args))   : FCMS Try.prog 53 S H args R :=
  fcms_of_awp Try.func53 b_mpoints n_mpoints c_mpoints r_mpoints (of_decide_eq_true (by kernel_rfl)) hn hkb hkr h

def A_mbuckets : List Ann := [⟨(some ⟨[0,2,4], [4], [10]⟩), [], [], [], []⟩, ⟨(some ⟨[0,2,4,8], [4], [10]⟩), [], [], [], []⟩, ⟨(some ⟨[0,2,4,8,22], [4], [10]⟩), [], [], [], []⟩, ⟨(some ⟨[6,7], [], [10]⟩), [], [], [(6, 7)], []⟩, ⟨(some ⟨[0,2,4,9], [4], [10]⟩), [], [], [], []⟩, ⟨(some ⟨[0,2,4,9,28], [4], [10]⟩), [], [], [], []⟩, ⟨(some ⟨[6,7], [], [10]⟩), [], [], [(6, 7)], []⟩, ⟨(some ⟨[0,2,4,10], [4], []⟩), [(10, 94, 7)], [], [], []⟩, ⟨(some ⟨[0,2,4,10,11], [4], [10]⟩), [], [], [], []⟩, ⟨(some ⟨[0,2,4,10,11,35], [4], [10]⟩), [], [], [], []⟩, ⟨(some ⟨[0,2,4,10,11,12], [4,12], [10]⟩), [], [], [], []⟩, ⟨(some ⟨[0,2,4,10,11,12,13], [4,12,13], [10]⟩), [], [], [], []⟩, ⟨(some ⟨[0,2,4,10,11,12,13,14], [4,12,13], [10]⟩), [], [], [], []⟩, ⟨(some ⟨[0,2,4,10,11,13,15], [4,13], [10]⟩), [], [], [], []⟩, ⟨(some ⟨[0,2,4,10,11,13,15,68], [4,13], [10]⟩), [], [], [], []⟩, ⟨(some ⟨[0,2,4,10,11,13,15,16,17], [4,13], [10]⟩), [], [], [], []⟩, ⟨(some ⟨[0,2,4,10,11,13,15], [4,13], [10]⟩), [], [], [], []⟩, ⟨(some ⟨[0,2,4,10,11,13], [4,13], [10]⟩), [], [], [], []⟩, ⟨(some ⟨[0,2,4,10,11], [4], [10]⟩), [], [], [], []⟩, ⟨(some ⟨[0,2,4,10,11], [4], [10]⟩), [], [], [], []⟩, ⟨(some ⟨[6,7], [], [10]⟩), [], [], [], []⟩]
def C_mbuckets : AC := (.seq (.reg false [⟨(some 4), none, .box (.t 1)⟩, ⟨(some 6), none, .mv (.v (.slice none 0 0))⟩, ⟨(some 7), none, .mv (.v (.int .i64 (0)))⟩] (some ⟨[0,2,4], [4], [10]⟩))
  (.seq (.seq (.reg false [⟨(some 18), none, .mv (.t 0)⟩, ⟨(some 19), none, .load true 2 (.t 4)⟩, ⟨(some 20), none, .call (.f 110) [(.t 18), (.t 19)]⟩, ⟨(some 8), none, .mv (.t 20)⟩] (some ⟨[0,2,4,8], [4], [10]⟩))
  (.seq (.reg false [⟨(some 21), none, .mv (.t 8)⟩, ⟨(some 22), none, .bin .neq (.t 21) (.v (.int .i64 (0)))⟩] (some ⟨[0,2,4,8,22], [4], [10]⟩))
  (.cond (.t 22)
  (.seq (.seq (.reg false [⟨(some 23), none, .mv (.t 8)⟩, ⟨(some 6), none, .mv (.v (.slice none 0 0))⟩, ⟨(some 7), none, .mv (.t 23)⟩] (some ⟨[6,7], [], [10]⟩))
  (.ty 6 7))
  .ret)
  .skip)))
  (.seq (.seq (.reg false [⟨(some 24), none, .load true 2 (.t 4)⟩, ⟨(some 25), none, .mv (.t 2)⟩, ⟨(some 26), none, .call (.f 111) [(.t 24), (.t 25)]⟩, ⟨(some 9), none, .mv (.t 26)⟩] (some ⟨[0,2,4,9], [4], [10]⟩))
  (.seq (.reg false [⟨(some 27), none, .mv (.t 9)⟩, ⟨(some 28), none, .bin .neq (.t 27) (.v (.int .i64 (0)))⟩] (some ⟨[0,2,4,9,28], [4], [10]⟩))
  (.cond (.t 28)
  (.seq (.seq (.reg false [⟨(some 29), none, .mv (.t 9)⟩, ⟨(some 6), none, .mv (.v (.slice none 0 0))⟩, ⟨(some 7), none, .mv (.t 29)⟩] (some ⟨[6,7], [], [10]⟩))
  (.ty 6 7))
  .ret)
  .skip)))
  (.seq (.seq (.reg false [⟨(some 10), none, .mv (.v (.slice none 0 0))⟩] (some ⟨[0,2,4,10], [4], []⟩))
  (.own 10 94 7))
  (.seq (.seq (.reg false [⟨(some 30), none, .fadr 0 (.t 4)⟩, ⟨(some 31), none, .load false 1 (.t 30)⟩, ⟨(some 11), none, .mv (.t 31)⟩] (some ⟨[0,2,4,10,11], [4], [10]⟩))
  (.block 0 (.loop (.seq (.seq (.reg false [⟨(some 32), none, .mv (.t 11)⟩, ⟨(some 33), none, .fadr 1 (.t 4)⟩, ⟨(some 34), none, .load false 1 (.t 33)⟩, ⟨(some 35), none, .bin .lss (.t 32) (.t 34)⟩] (some ⟨[0,2,4,10,11,35], [4], [10]⟩))
  (.cond (.t 35)
  .skip
  (.exit 0)))
  (.seq (.block 1 (.seq (.reg false [⟨(some 39), none, .mv (.t 11)⟩, ⟨(some 40), none, .fadr 1 (.t 4)⟩, ⟨(some 41), none, .load false 1 (.t 40)⟩, ⟨(some 42), none, .mv (.t 11)⟩, ⟨(some 43), none, .mv (.t 2)⟩, ⟨(some 44), none, .bin .add (.t 42) (.t 43)⟩, ⟨(some 45), none, .mnx false (.t 41) (.t 44)⟩, ⟨(some 46), none, .build [(.int .i64 (0)), (.int .i64 (0))] [(0, 1, (.t 39)), (1, 1, (.t 45))]⟩, ⟨(some 12), none, .alloc [(.int .i64 (0)), (.int .i64 (0))]⟩, ⟨none, none, .store 2 (.t 12) (.t 46)⟩] (some ⟨[0,2,4,10,11,12], [4,12], [10]⟩))
  (.seq (.reg false [⟨(some 47), none, .load true 2 (.t 12)⟩, ⟨(some 48), none, .build [(.int .i64 (0)), (.int .i64 (0)), (.int .i64 (0)), (.int .i64 (0)), (.int .i64 (0)), (.int .i64 (0)), (.int .i64 (0))] [(0, 2, (.t 47))]⟩, ⟨(some 13), none, .alloc [(.int .i64 (0)), (.int .i64 (0)), (.int .i64 (0)), (.int .i64 (0)), (.int .i64 (0)), (.int .i64 (0)), (.int .i64 (0))]⟩, ⟨none, none, .store 7 (.t 13) (.t 48)⟩] (some ⟨[0,2,4,10,11,12,13], [4,12,13], [10]⟩))
  (.seq (.reg false [⟨(some 49), none, .mv (.t 0)⟩, ⟨(some 50), none, .fadr 0 (.t 12)⟩, ⟨(some 51), none, .load false 1 (.t 50)⟩, ⟨(some 52), none, .call (.f 113) [(.t 49), (.t 51)]⟩, ⟨(some 53), none, .mnx true (.v (.int .i64 (0))) (.t 52)⟩, ⟨(some 14), none, .mv (.t 53)⟩] (some ⟨[0,2,4,10,11,12,13,14], [4,12,13], [10]⟩))
  (.seq (.seq (.reg true [⟨(some 54), none, .mv (.t 0)⟩, ⟨(some 55), none, .mv (.t 14)⟩, ⟨(some 56), none, .mv (.t 14)⟩, ⟨(some 57), none, .mv (.t 0)⟩, ⟨(some 58), none, .fadr 1 (.t 12)⟩, ⟨(some 59), none, .load false 1 (.t 58)⟩, ⟨(some 60), none, .call (.f 113) [(.t 57), (.t 59)]⟩, ⟨(some 61), none, .bin .add (.t 60) (.v (.int .i64 (1)))⟩, ⟨(some 62), none, .mnx true (.t 56) (.t 61)⟩, ⟨(some 63), none, .slc 3 (.t 54) (some (.t 55)) (some (.t 62))⟩, ⟨(some 64), none, .load true 2 (.t 12)⟩, ⟨(some 65), none, .call (.f 114) [(.t 63), (.t 64)]⟩, ⟨(some 15), none, .mv (.t 65)⟩] (some ⟨[0,2,4,10,11,13,15], [4,13], [10]⟩))
  (.seq (.reg false [⟨(some 66), none, .mv (.t 15)⟩, ⟨(some 67), none, .len (.t 66)⟩, ⟨(some 68), none, .bin .gtr (.t 67) (.v (.int .i64 (0)))⟩] (some ⟨[0,2,4,10,11,13,15,68], [4,13], [10]⟩))
  (.cond (.t 68)
  (.seq (.reg false [⟨(some 70), none, .mv (.t 15)⟩, ⟨(some 71), none, .call (.f 115) [(.t 70)]⟩, ⟨(some 69), none, .mv (.t 71)⟩, ⟨(some 72), none, .extr (.t 69) 0⟩, ⟨(some 73), none, .extr (.t 69) 1⟩, ⟨(some 16), none, .mv (.t 72)⟩, ⟨(some 17), none, .mv (.t 73)⟩] (some ⟨[0,2,4,10,11,13,15,16,17], [4,13], [10]⟩))
  (.seq (.reg false [⟨(some 74), none, .mv (.t 17)⟩, ⟨(some 75), none, .mv (.t 16)⟩, ⟨(some 76), none, .mv (.t 17)⟩, ⟨(some 77), none, .call (.f 116) [(.t 75), (.t 76)]⟩, ⟨(some 78), none, .fadr 2 (.t 13)⟩, ⟨none, none, .store 1 (.t 78) (.t 74)⟩, ⟨(some 79), none, .fadr 3 (.t 13)⟩, ⟨none, none, .store 2 (.t 79) (.t 77)⟩] (some ⟨[0,2,4,10,11,13,15], [4,13], [10]⟩))
  (.reg false [⟨(some 81), none, .mv (.t 15)⟩, ⟨(some 82), none, .call (.f 117) [(.t 81)]⟩, ⟨(some 80), none, .mv (.t 82)⟩, ⟨(some 83), none, .extr (.t 80) 0⟩, ⟨(some 84), none, .extr (.t 80) 1⟩, ⟨(some 85), none, .fadr 5 (.t 13)⟩, ⟨none, none, .store 1 (.t 85) (.t 83)⟩, ⟨(some 86), none, .fadr 6 (.t 13)⟩, ⟨none, none, .store 1 (.t 86) (.t 84)⟩] (some ⟨[0,2,4,10,11,13], [4,13], [10]⟩))))
  .skip)))
  (.reg false [⟨(some 87), none, .mv (.t 10)⟩, ⟨(some 88), none, .load true 7 (.t 13)⟩, ⟨(some 89), none, .bslice 7 1 [(.t 88)]⟩, ⟨(some 90), none, .append 94 7 56 (.t 87) (.t 89)⟩, ⟨(some 10), none, .mv (.t 90)⟩] (some ⟨[0,2,4,10,11], [4], [10]⟩)))))))
  (.reg false [⟨(some 36), none, .mv (.t 11)⟩, ⟨(some 37), none, .mv (.t 2)⟩, ⟨(some 38), none, .bin .add (.t 36) (.t 37)⟩, ⟨(some 11), none, .mv (.t 38)⟩] (some ⟨[0,2,4,10,11], [4], [10]⟩)))))))
  (.seq (.reg false [⟨(some 91), none, .mv (.t 10)⟩, ⟨(some 6), none, .mv (.t 91)⟩, ⟨(some 7), none, .mv (.v (.int .i64 (0)))⟩] (some ⟨[6,7], [], [10]⟩))
  .ret))))))
theorem c_mbuckets : compileCode Try.prog Try.f54.ntmps (Try.f54.body.getD .skip) A_mbuckets = some (C_mbuckets, []) := by kernel_rfl
theorem r_mbuckets : compileRes Try.prog Try.f54.results.toList = some [.t 6, .t 7] := by kernel_rfl
theorem b_mbuckets : Try.f54.body = some (Try.f54.body.getD .skip) := by kernel_rfl
theorem n_mbuckets : (Try.f54.name == "runtime.NumGoroutine") = false := by kernel_rfl
theorem fc_mbuckets {xt : Option (List Cel)} {args : List Val} {R : List Cel → Val → Prop} (hn : (if xt.isSome then 1 else 0) + args.length ≤ Try.f54.ntmps) (h : ex Try.prog C_mbuckets [] (fpost xt [.t 6, .t 7] R) (initSt xt args)) : FC Try.prog 54 xt args R :=
  fc_of_awp Try.func54 b_mbuckets n_mbuckets c_mbuckets r_mbuckets (of_decide_eq_true (by kernel_rfl)) hn h
theorem fcm_mbuckets {H : Hp} {K : Keep} {args : List Val} {R : Hp → Val → Prop} (hn : args.length ≤ Try.f54.ntmps) (hkb : ∀ p ∈ H.bs, p.1 = 0 ∨ XK ≤ p.1) (hkr : ∀ p ∈ H.rs, XK ≤ p.1) (h : ex Try.prog C_mbuckets [] (mpost H K [.t 6, .t 7] R) (initM H args)) : FCM Try.prog 54 H args R :=
  fcm_of_awp Try.func54 b_mbuckets n_mbuckets c_mbuckets r_mbuckets (of_decide_eq_true (by kernel_rfl)) hn hkb hkr h
theorem fcms_mbuckets {S : List Nat} {H : Hp} {K : Keep} {args : List Val} {R : Hp → Val → Prop} (hn : args.length ≤ Try.f54.ntmps) (hkb : ∀ p ∈ H.bs, p.1 = 0 ∨ XK ≤ p.1) (hkr : ∀ p ∈ H.rs, XK ≤ p.1) (h : ex Try.prog C_mbuckets [] (mpostS S H K [.t 6, .t 7] R) (initM H args))   : FCMS Try.prog 54 S H args R :=
  fcms_of_awp Try.func54 b_mbuckets n_mbuckets c_mbuckets r_mbuckets (of_decide_eq_true (by kernel_rfl)) hn hkb hkr h

def A_mabove : List Ann := [⟨(some ⟨[0,2,4], [4], [10]⟩), [], [], [], []⟩, ⟨(some ⟨[0,2,4,9], [4], [10]⟩), [], [], [], []⟩, ⟨(some ⟨[0,2,4,9,19], [4], [10]⟩), [], [], [], []⟩, ⟨(some ⟨[6,7,8], [], [10]⟩), [], [], [(6, 2)], []⟩, ⟨(some ⟨[0,2,4,22], [4], [10]⟩), [], [], [], []⟩, ⟨(some ⟨[6,7,8], [], [10]⟩), [], [], [(6, 2)], []⟩, ⟨(some ⟨[0,2,4,10], [4], []⟩), [(10, 66, 2)], [], [], []⟩, ⟨(some ⟨[0,2,4,10,11], [4], [10]⟩), [], [], [], []⟩, ⟨(some ⟨[2,10,11,25,26,27], [], [10]⟩), [], [], [], []⟩, ⟨(some ⟨[2,10,11,25,26,27,28], [], [10]⟩), [], [], [], []⟩, ⟨(some ⟨[2,10,11,13,25,26,27], [13], [10]⟩), [], [], [], []⟩, ⟨(some ⟨[2,10,11,13,25,26,27,34], [13], [10]⟩), [], [], [], []⟩, ⟨(some ⟨[2,10,11,13,25,26,27], [13], [10]⟩), [], [], [], []⟩, ⟨(some ⟨[2,10,11,13,14,25,26,27], [13], [10]⟩), [], [], [], []⟩, ⟨(some ⟨[2,10,11,13,14,25,26,27,54], [13], [10]⟩), [], [], [], []⟩, ⟨(some ⟨[2,10,11,25,26,27], [], [10]⟩), [], [], [], []⟩, ⟨(some ⟨[2,10,11,25,26,27], [], [10]⟩), [], [], [], []⟩, ⟨(some ⟨[2,10,11,25,26,27], [], [10]⟩), [], [], [], []⟩, ⟨(some ⟨[6,7,8], [], [10]⟩), [], [], [], []⟩]
def C_mabove : AC := (.seq (.reg false [⟨(some 4), none, .box (.t 1)⟩, ⟨(some 6), none, .mv (.v (.slice none 0 0))⟩, ⟨(some 7), none, .mv (.v (.int .i64 (0)))⟩, ⟨(some 8), none, .mv (.v (.int .i64 (0)))⟩] (some ⟨[0,2,4], [4], [10]⟩))
  (.seq (.seq (.reg false [⟨(some 15), none, .mv (.t 0)⟩, ⟨(some 16), none, .load true 2 (.t 4)⟩, ⟨(some 17), none, .call (.f 110) [(.t 15), (.t 16)]⟩, ⟨(some 9), none, .mv (.t 17)⟩] (some ⟨[0,2,4,9], [4], [10]⟩))
  (.seq (.reg false [⟨(some 18), none, .mv (.t 9)⟩, ⟨(some 19), none, .bin .neq (.t 18) (.v (.int .i64 (0)))⟩] (some ⟨[0,2,4,9,19], [4], [10]⟩))
  (.cond (.t 19)
  (.seq (.seq (.reg false [⟨(some 20), none, .mv (.t 9)⟩, ⟨(some 6), none, .mv (.v (.slice none 0 0))⟩, ⟨(some 7), none, .mv (.v (.int .i64 (0)))⟩, ⟨(some 8), none, .mv (.t 20)⟩] (some ⟨[6,7,8], [], [10]⟩))
  (.ty 6 2))
  .ret)
  .skip)))
  (.seq (.seq (.reg false [⟨(some 21), none, .mv (.t 2)⟩, ⟨(some 22), none, .call (.f 97) [(.t 21), (.v (.int .i64 (-1000000))), (.v (.int .i64 (1000000)))]⟩] (some ⟨[0,2,4,22], [4], [10]⟩))
  (.cond (.t 22)
  (.seq (.seq (.reg false [⟨(some 6), none, .mv (.v (.slice none 0 0))⟩, ⟨(some 7), none, .mv (.v (.int .i64 (0)))⟩, ⟨(some 8), none, .mv (.v (.int .i64 (1)))⟩] (some ⟨[6,7,8], [], [10]⟩))
  (.ty 6 2))
  .ret)
  .skip))
  (.seq (.seq (.reg false [⟨(some 10), none, .mv (.v (.slice none 0 0))⟩] (some ⟨[0,2,4,10], [4], []⟩))
  (.own 10 66 2))
  (.seq (.reg false [⟨(some 11), none, .mv (.v (.int .i64 (0)))⟩] (some ⟨[0,2,4,10,11], [4], [10]⟩))
  (.seq (.seq (.reg false [⟨(some 23), none, .mv (.t 0)⟩, ⟨(some 24), none, .load true 2 (.t 4)⟩, ⟨(some 25), none, .call (.f 114) [(.t 23), (.t 24)]⟩, ⟨(some 26), none, .len (.t 25)⟩, ⟨(some 27), none, .mv (.v (.int .i64 (0)))⟩] (some ⟨[2,10,11,25,26,27], [], [10]⟩))
  (.block 0 (.loop (.seq (.reg false [⟨(some 28), none, .bin .lss (.t 27) (.t 26)⟩] (some ⟨[2,10,11,25,26,27,28], [], [10]⟩))
  (.seq (.cond (.t 28)
  .skip
  (.exit 0))
  (.seq (.block 1 (.seq (.reg false [⟨(some 29), none, .iadr 4 (.t 25) (.t 27)⟩, ⟨(some 30), none, .load true 4 (.t 29)⟩, ⟨(some 13), none, .alloc [(.int .i64 (0)), (.int .i64 (0)), (.int .i64 (0)), (.int .i64 (0))]⟩, ⟨none, none, .store 4 (.t 13) (.t 30)⟩] (some ⟨[2,10,11,13,25,26,27], [13], [10]⟩))
  (.seq (.seq (.reg false [⟨(some 31), none, .fadr 2 (.t 13)⟩, ⟨(some 32), none, .load false 1 (.t 31)⟩, ⟨(some 33), none, .mv (.t 2)⟩, ⟨(some 34), none, .bin .leq (.t 32) (.t 33)⟩] (some ⟨[2,10,11,13,25,26,27,34], [13], [10]⟩))
  (.cond (.t 34)
  (.exit 1)
  .skip))
  (.seq (.reg false [⟨(some 35), none, .mv (.t 11)⟩, ⟨(some 36), none, .load true 4 (.t 13)⟩, ⟨(some 37), none, .call (.f 118) [(.t 36)]⟩, ⟨(some 38), none, .bin .add (.t 35) (.t 37)⟩, ⟨(some 11), none, .mv (.t 38)⟩] (some ⟨[2,10,11,13,25,26,27], [13], [10]⟩))
  (.seq (.reg false [⟨(some 39), none, .mv (.t 10)⟩, ⟨(some 40), none, .len (.t 39)⟩, ⟨(some 41), none, .bin .sub (.t 40) (.v (.int .i64 (1)))⟩, ⟨(some 14), none, .mv (.t 41)⟩] (some ⟨[2,10,11,13,14,25,26,27], [13], [10]⟩))
  (.seq (.reg true [⟨(some 42), none, .mv (.t 14)⟩, ⟨(some 43), none, .bin .geq (.t 42) (.v (.int .i64 (0)))⟩, ⟨(some 44), none, .mv (.t 43)⟩, ⟨(some 45), (some (44, true)), .mv (.t 10)⟩, ⟨(some 46), (some (44, true)), .mv (.t 14)⟩, ⟨(some 47), (some (44, true)), .iadr 2 (.t 45) (.t 46)⟩, ⟨(some 48), (some (44, true)), .fadr 1 (.t 47)⟩, ⟨(some 49), (some (44, true)), .load false 1 (.t 48)⟩, ⟨(some 50), (some (44, true)), .fadr 0 (.t 13)⟩, ⟨(some 51), (some (44, true)), .fadr 0 (.t 50)⟩, ⟨(some 52), (some (44, true)), .load false 1 (.t 51)⟩, ⟨(some 53), (some (44, true)), .bin .eql (.t 49) (.t 52)⟩, ⟨(some 54), none, .pick (.t 44) (.t 53) (.v (.bool false))⟩] (some ⟨[2,10,11,13,14,25,26,27,54], [13], [10]⟩))
  (.cond (.t 54)
  (.reg false [⟨(some 55), none, .mv (.t 10)⟩, ⟨(some 56), none, .mv (.t 14)⟩, ⟨(some 57), none, .fadr 0 (.t 13)⟩, ⟨(some 58), none, .fadr 1 (.t 57)⟩, ⟨(some 59), none, .load false 1 (.t 58)⟩, ⟨(some 60), none, .iadr 2 (.t 55) (.t 56)⟩, ⟨(some 61), none, .fadr 1 (.t 60)⟩, ⟨none, none, .store 1 (.t 61) (.t 59)⟩] (some ⟨[2,10,11,25,26,27], [], [10]⟩))
  (.reg false [⟨(some 62), none, .mv (.t 10)⟩, ⟨(some 63), none, .fadr 0 (.t 13)⟩, ⟨(some 64), none, .load true 2 (.t 63)⟩, ⟨(some 65), none, .bslice 2 1 [(.t 64)]⟩, ⟨(some 66), none, .append 66 2 16 (.t 62) (.t 65)⟩, ⟨(some 10), none, .mv (.t 66)⟩] (some ⟨[2,10,11,25,26,27], [], [10]⟩)))))))))
  (.reg false [⟨(some 67), none, .bin .add (.t 27) (.v (.int .i64 (1)))⟩, ⟨(some 27), none, .mv (.t 67)⟩] (some ⟨[2,10,11,25,26,27], [], [10]⟩))))))))
  (.seq (.reg false [⟨(some 68), none, .mv (.t 10)⟩, ⟨(some 69), none, .mv (.t 11)⟩, ⟨(some 6), none, .mv (.t 68)⟩, ⟨(some 7), none, .mv (.t 69)⟩, ⟨(some 8), none, .mv (.v (.int .i64 (0)))⟩] (some ⟨[6,7,8], [], [10]⟩))
  .ret)))))))
theorem c_mabove : compileCode Try.prog Try.f55.ntmps (Try.f55.body.getD .skip) A_mabove = some (C_mabove, []) := by kernel_rfl
theorem r_mabove : compileRes Try.prog Try.f55.results.toList = some [.t 6, .t 7, .t 8] := by kernel_rfl
theorem b_mabove : Try.f55.body = some (Try.f55.body.getD .skip) := by kernel_rfl
theorem n_mabove : (Try.f55.name == "runtime.NumGoroutine") = false := by kernel_rfl
theorem fc_mabove {xt : Option (List Cel)} {args : List Val} {R : List Cel → Val → Prop} (hn : (if xt.isSome then 1 else 0) + args.length ≤ Try.f55.ntmps) (h : ex Try.prog C_mabove [] (fpost xt [.t 6, .t 7, .t 8] R) (initSt xt args)) : FC Try.prog 55 xt args R :=
  fc_of_awp Try.func55 b_mabove n_mabove c_mabove r_mabove (of_decide_eq_true (by kernel_rfl)) hn h
theorem fcm_mabove {H : Hp} {K : Keep} {args : List Val} {R : Hp → Val → Prop} (hn : args.length ≤ Try.f55.ntmps) (hkb : ∀ p ∈ H.bs, p.1 = 0 ∨ XK ≤ p.1) (hkr : ∀ p ∈ H.rs, XK ≤ p.1) (h : ex Try.prog C_mabove [] (mpost H K [.t 6, .t 7, .t 8] R) (initM H args)) : FCM Try.prog 55 H args R :=
  fcm_of_awp Try.func55 b_mabove n_mabove c_mabove r_mabove (of_decide_eq_true (by kernel_rfl)) hn hkb hkr h
theorem fcms_mabove {S : List Nat} {H : Hp} {K : Keep} {args : List Val} {R : Hp → Val → Prop} (hn : args.length ≤ Try.f55.ntmps) (hkb : ∀ p ∈ H.bs, p.1 = 0 ∨ XK ≤ p.1) (hkr : ∀ p ∈ H.rs, XK ≤ p.1) (h : ex Try.prog C_mabove [] (mpostS S H K [.t 6, .t 7, .t 8] R) (initM H args))   : FCMS Try.prog 55 S H args R :=
  fcms_of_awp Try.func55 b_mabove n_mabove c_mabove r_mabove (of_decide_eq_true (by kernel_rfl)) hn hkb hkr h


abbrev ptRow (l : List Pt) : Row := ⟨0, 92, 4, l.map ptC⟩
abbrev bkRow (l : List Bk) : Row := ⟨0, 94, 7, l.map bkC⟩
theorem mpoints_fcm (l : List Smp) (hl : l.length ≤ 4611686018427387904) (st : Bool) (f t ev : Int) (h1 : bothFault l f t = 0) (h4 : evFault f t ev = 0) : FCM Try.prog 53 ⟨[], []⟩ [smps false l, bv st, winV f t, iv ev] (fun H r => H = ⟨[], [(12, ptRow (pts l st f t ev))]⟩ ∧ r = .tu [.one (.ow 12 0), iv 0]) := by
  refine fcm_mpoints (K := ⟨[], [], [12]⟩) (by simp +arith) (by simp) (by simp) ?_
  unfold C_mpoints
  simp (maxSteps := 1000000) (disch := omega) only [go_sem, eq_self, decide_true, decide_false, not_true_eq_false, not_false_eq_true, reduceIte, reduceCtorEq, Nat.reduceEqDiff, Nat.reduceAdd, Nat.reduceSub, Nat.reduceLeDiff]
  obtain ⟨h2, h3⟩ := bothFault_ok h1
  have hg := good_of h2
  have hw := winFault_ok h3
  have he := evFault_ok h4
  refine CALL_det (fault_fc l hl f t) (.inl rfl) ?_
  simp (maxSteps := 1000000) (disch := omega) only [go_sem, eq_self, decide_true, decide_false, not_true_eq_false, not_false_eq_true, reduceIte, reduceCtorEq, Nat.reduceEqDiff, Nat.reduceAdd, Nat.reduceSub, Nat.reduceLeDiff]
  refine CALL_det (everyFault_fc f t ev h3) (.inl rfl) ?_
  simp (maxSteps := 1000000) (disch := omega) only [go_sem, eq_self, decide_true, decide_false, not_true_eq_false, not_false_eq_true, reduceIte, reduceCtorEq, Nat.reduceEqDiff, Nat.reduceAdd, Nat.reduceSub, Nat.reduceLeDiff]
  refine ex_loopI (pntSt l st f t ev) (fun x => f ≤ x.1 ∧ x.1 ≤ t + ev ∧ x.2.length ≤ x.1 - f ∧ x.2 ++ pts l st x.1 t ev = pts l st f t ev) (fun x => (t - x.1).toNat) (f, []) ⟨by simp, by simp only; omega, by simp, by simp⟩ rfl ?_
  rintro ⟨a, acc⟩ ⟨g1, g2, g3, g4⟩
  simp only at g1 g2 g3 g4
  unfold pntSt
  by_cases ha : a < t
  · rw [pts_step l st ev t a (by omega) ha] at g4
    simp (maxSteps := 1000000) (disch := omega) only [go_sem, eq_self, decide_true, decide_false, not_true_eq_false, not_false_eq_true, reduceIte, reduceCtorEq, Nat.reduceEqDiff, Nat.reduceAdd, Nat.reduceSub, Nat.reduceLeDiff]
    refine CALL_det (valueAt_fc l st a hg ⟨by omega, by omega⟩) (.inl rfl) ?_
    cases hb : (valSp l st a).2 with
    | true =>
      simp (maxSteps := 1000000) (disch := omega) only [go_sem, eq_self, decide_true, decide_false, not_true_eq_false, not_false_eq_true, reduceIte, reduceCtorEq, Nat.reduceEqDiff, Nat.reduceAdd, Nat.reduceSub, Nat.reduceLeDiff]
      rw [hb] at g4
      refine ⟨(a + ev, acc ++ [(valSp l st a).1]), ⟨by simp only; omega, by simp only; omega, by simp; omega, by simpa using g4⟩, by simp [pntSt, ptC], by simp only; omega⟩
    | false =>
      simp (maxSteps := 1000000) (disch := omega) only [go_sem, eq_self, decide_true, decide_false, not_true_eq_false, not_false_eq_true, reduceIte, reduceCtorEq, Nat.reduceEqDiff, Nat.reduceAdd, Nat.reduceSub, Nat.reduceLeDiff]
      rw [hb] at g4
      exact ⟨(a + ev, acc), ⟨by simp only; omega, by simp only; omega, by simp only; omega, by simpa using g4⟩, rfl, by simp only; omega⟩
  · simp (maxSteps := 1000000) (disch := omega) only [go_sem, eq_self, decide_true, decide_false, not_true_eq_false, not_false_eq_true, reduceIte, reduceCtorEq, Nat.reduceEqDiff, Nat.reduceAdd, Nat.reduceSub, Nat.reduceLeDiff]
    rw [pts_end l st ev t a ha, List.append_nil] at g4
    rw [g4]
theorem mbuckets_fcm (l : List Smp) (hl : l.length ≤ 4611686018427387904) (f t ev : Int) (h1 : bothFault l f t = 0) (h2 : evFault f t ev = 0) : FCM Try.prog 54 ⟨[], []⟩ [smps false l, winV f t, iv ev] (fun H r => H = ⟨[], [(10, bkRow (bks l f t ev))]⟩ ∧ r = .tu [.one (.ow 10 0), iv 0]) := by
  refine fcm_mbuckets (K := ⟨[], [], [10]⟩) (by simp +arith) (by simp) (by simp) ?_
  unfold C_mbuckets
  have hs := (bothFault_ok h1).1
  have hwf := (bothFault_ok h1).2
  have hw := winFault_ok hwf
  have hg := good_of hs
  have hlen := hg.len
  have he := evFault_ok h2
  simp (maxSteps := 1000000) (disch := omega) only [go_sem, eq_self, decide_true, decide_false, not_true_eq_false, not_false_eq_true, reduceIte, reduceCtorEq, Nat.reduceEqDiff, Nat.reduceAdd, Nat.reduceSub, Nat.reduceLeDiff]
  refine CALL_det (fault_fc l hl f t) (.inl rfl) ?_
  simp (maxSteps := 1000000) (disch := omega) only [go_sem, eq_self, decide_true, decide_false, not_true_eq_false, not_false_eq_true, reduceIte, reduceCtorEq, Nat.reduceEqDiff, Nat.reduceAdd, Nat.reduceSub, Nat.reduceLeDiff]
  refine CALL_det (everyFault_fc f t ev hwf) (.inl rfl) ?_
  simp (maxSteps := 1000000) (disch := omega) only [go_sem, eq_self, decide_true, decide_false, not_true_eq_false, not_false_eq_true, reduceIte, reduceCtorEq, Nat.reduceEqDiff, Nat.reduceAdd, Nat.reduceSub, Nat.reduceLeDiff]
  refine ex_loop2 (bktSt l f t ev) (fun a acc => f ≤ a ∧ a ≤ 345686400000 + 86400000 ∧ acc.length ≤ a - f ∧ acc ++ bks l a t ev = bks l f t ev) (fun a _ => (t - a).toNat) f [] ⟨by omega, by omega, by simp, by simp⟩ rfl ?_
  rintro a acc ⟨g1, g2, g3, g4⟩
  unfold bktSt
  by_cases ha : a < t
  · rw [bks_step l ev t a (by omega) ha] at g4
    have hsub := vals_sub hg (f := a) (t := min t (a + ev))
    have hml := vals_len a (min t (a + ev)) l
    have hc := vals_chain (show a ≤ min t (a + ev) by omega) hs
    obtain ⟨p1, p2, p3, p4⟩ := hold_spec l a (fun i j h h' => hg.le i j h h')
    obtain ⟨q1, q2, q3, q4⟩ := hold_spec l (min t (a + ev)) (fun i j h h' => hg.le i j h h')
    simp (maxSteps := 1000000) (disch := omega) only [go_sem, eq_self, decide_true, decide_false, not_true_eq_false, not_false_eq_true, reduceIte, reduceCtorEq, Nat.reduceEqDiff, Nat.reduceAdd, Nat.reduceSub, Nat.reduceLeDiff]
    refine CALL_det (last_fc l a hg (by omega)) (.inl rfl) ?_
    simp (maxSteps := 1000000) (disch := omega) only [go_sem, eq_self, decide_true, decide_false, not_true_eq_false, not_false_eq_true, reduceIte, reduceCtorEq, Nat.reduceEqDiff, Nat.reduceAdd, Nat.reduceSub, Nat.reduceLeDiff]
    refine CALL_det (last_fc l (min t (a + ev)) hg (by omega)) (.inl rfl) ?_
    simp (maxSteps := 1000000) (disch := omega) only [go_sem, eq_self, decide_true, decide_false, not_true_eq_false, not_false_eq_true, reduceIte, reduceCtorEq, Nat.reduceEqDiff, Nat.reduceAdd, Nat.reduceSub, Nat.reduceLeDiff]
    simp only [← List.map_take, ← List.map_drop]
    refine CALL_det (valued_fc ((l.take (max (max 0 (hold l a)) (hold l (min t (a + ev)) + 1)).toNat).drop (max 0 (hold l a)).toNat) (by simp; omega) a (min t (a + ev))) (.inl rfl) ?_
    rw [hsub]
    generalize vals a (min t (a + ev)) l = m at *
    cases m with
    | nil =>
      unfold bkOf at g4
      simp (maxSteps := 1000000) (disch := omega) only [go_sem, eq_self, decide_true, decide_false, not_true_eq_false, not_false_eq_true, reduceIte, reduceCtorEq, Nat.reduceEqDiff, Nat.reduceAdd, Nat.reduceSub, Nat.reduceLeDiff]
      exact ⟨a + ev, acc ++ [⟨a, min t (a + ev), 0, 0, 0, 0, 0⟩], by simp only [bktSt, List.map_append, List.map_cons, List.map_nil, bkC_eq], ⟨by omega, by omega, by simp; omega, by simpa using g4⟩, by omega⟩
    | cons p r =>
      have hb := int_bd hc
      have hp := intT_pos hc
      unfold bkOf at g4
      simp only [List.length_cons] at hml
      simp (maxSteps := 1000000) (disch := omega) only [go_sem, eq_self, decide_true, decide_false, not_true_eq_false, not_false_eq_true, reduceIte, reduceCtorEq, Nat.reduceEqDiff, Nat.reduceAdd, Nat.reduceSub, Nat.reduceLeDiff]
      refine CALL_det (integral_fc (p :: r) (by simp; omega) a (min t (a + ev)) hc ⟨by omega, by omega⟩) (.inl rfl) ?_
      simp (maxSteps := 1000000) (disch := omega) only [go_sem, eq_self, decide_true, decide_false, not_true_eq_false, not_false_eq_true, reduceIte, reduceCtorEq, Nat.reduceEqDiff, Nat.reduceAdd, Nat.reduceSub, Nat.reduceLeDiff]
      refine CALL_det (fraction_fc (intS (p :: r)) (intT (p :: r)) (by omega) (by omega) (by omega)) (.inl rfl) ?_
      simp (maxSteps := 1000000) (disch := omega) only [go_sem, eq_self, decide_true, decide_false, not_true_eq_false, not_false_eq_true, reduceIte, reduceCtorEq, Nat.reduceEqDiff, Nat.reduceAdd, Nat.reduceSub, Nat.reduceLeDiff]
      refine CALL_det (extremes_fc p r (by omega)) (.inl rfl) ?_
      simp (maxSteps := 1000000) (disch := omega) only [go_sem, eq_self, decide_true, decide_false, not_true_eq_false, not_false_eq_true, reduceIte, reduceCtorEq, Nat.reduceEqDiff, Nat.reduceAdd, Nat.reduceSub, Nat.reduceLeDiff]
      exact ⟨a + ev, acc ++ [⟨a, min t (a + ev), intT (p :: r), lowN (intS (p :: r)) (intT (p :: r)), lowD (intS (p :: r)) (intT (p :: r)), (minP p r).v, (maxP p r).v⟩], by simp only [bktSt, List.map_append, List.map_cons, List.map_nil, bkC_eq], ⟨by omega, by omega, by simp; omega, by simpa using g4⟩, by omega⟩
  · rw [bks_end l ev t a ha, List.append_nil] at g4
    simp (maxSteps := 1000000) (disch := omega) only [go_sem, eq_self, decide_true, decide_false, not_true_eq_false, not_false_eq_true, reduceIte, reduceCtorEq, Nat.reduceEqDiff, Nat.reduceAdd, Nat.reduceSub, Nat.reduceLeDiff]
    rw [g4]
theorem mabove_fcm (l : List Smp) (hl : l.length ≤ 4611686018427387904) (f t L : Int) (h1 : bothFault l f t = 0) (h4 : ¬(L < -1000000 ∨ L > 1000000)) : FCM Try.prog 55 ⟨[], []⟩ [smps false l, winV f t, iv L] (fun H r => H = ⟨[], [(10, winRow (abW L f t l).1)]⟩ ∧ r = .tu [.one (.ow 10 0), iv (abW L f t l).2, iv 0]) := by
  refine fcm_mabove (K := ⟨[], [], [10]⟩) (by simp +arith) (by simp) (by simp) ?_
  unfold C_mabove
  have hg := good_of (bothFault_ok h1).1
  have hw := winFault_ok (bothFault_ok h1).2
  have hlen := hg.len
  simp (maxSteps := 1000000) (disch := omega) only [go_sem, eq_self, decide_true, decide_false, not_true_eq_false, not_false_eq_true, reduceIte, reduceCtorEq, Nat.reduceEqDiff, Nat.reduceAdd, Nat.reduceSub, Nat.reduceLeDiff]
  refine CALL_det (fault_fc l hl f t) (.inl rfl) ?_
  simp (maxSteps := 1000000) (disch := omega) only [go_sem, eq_self, decide_true, decide_false, not_true_eq_false, not_false_eq_true, reduceIte, reduceCtorEq, Nat.reduceEqDiff, Nat.reduceAdd, Nat.reduceSub, Nat.reduceLeDiff]
  refine CALL_det (out_fc _ _ _) (.inl rfl) ?_
  rw [decide_eq_false h4]
  simp (maxSteps := 1000000) (disch := omega) only [go_sem, eq_self, decide_true, decide_false, not_true_eq_false, not_false_eq_true, reduceIte, reduceCtorEq, Nat.reduceEqDiff, Nat.reduceAdd, Nat.reduceSub, Nat.reduceLeDiff]
  refine CALL_det (valued_fc l (by omega) f t) (.inl rfl) ?_
  have hok := vals_ok f t hg
  have hml := vals_len f t l
  unfold abW
  generalize vals f t l = m at *
  simp (maxSteps := 1000000) (disch := omega) only [go_sem, eq_self, decide_true, decide_false, not_true_eq_false, not_false_eq_true, reduceIte, reduceCtorEq, Nat.reduceEqDiff, Nat.reduceAdd, Nat.reduceSub, Nat.reduceLeDiff]
  refine ex_loop3 (abvSt L m) (fun i out n => 0 ≤ i ∧ i ≤ m.length ∧ out.length ≤ i ∧ 0 ≤ n ∧ n ≤ i * 345686400000 ∧ (m.drop i.toNat).foldl (abStep L) (out, n) = m.foldl (abStep L) ([], 0)) (fun i _ _ => (m.length - i).toNat) 0 [] 0 ⟨by omega, by omega, by simp, by omega, by omega, rfl⟩ rfl ?_
  rintro i out n ⟨g1, g2, g3, g4, g4', g5⟩
  unfold abvSt
  by_cases hi : i < m.length
  · have e2 : (i + 1).toNat = i.toNat + 1 := by omega
    have em := getD_map_at pcC m i [] g1 hi
    have hmi := hok _ (getD_mem m i.toNat (by omega))
    unfold okPc at hmi
    rw [drop_cons m i.toNat (by omega), List.foldl_cons, ← e2] at g5
    unfold abStep at g5
    by_cases c0 : (m.getD i.toNat default).v ≤ L
    · rw [if_pos c0] at g5
      simp (maxSteps := 1000000) (disch := omega) only [go_sem, eq_self, decide_true, decide_false, not_true_eq_false, not_false_eq_true, reduceIte, reduceCtorEq, Nat.reduceEqDiff, Nat.reduceAdd, Nat.reduceSub, Nat.reduceLeDiff]
      exact ⟨_, _, _, rfl, ⟨by omega, by omega, by omega, by omega, by omega, g5⟩, by omega⟩
    rw [if_neg c0] at g5
    simp (maxSteps := 1000000) (disch := omega) only [go_sem, eq_self, decide_true, decide_false, not_true_eq_false, not_false_eq_true, reduceIte, reduceCtorEq, Nat.reduceEqDiff, Nat.reduceAdd, Nat.reduceSub, Nat.reduceLeDiff]
    refine CALL_det (long_fc (m.getD i.toNat default) (by omega) (by omega)) (.inl rfl) ?_
    by_cases c1 : 1 ≤ out.length
    · have eo := getE_map_in frC out ((out.length : Int) - 1).toNat (by omega)
      by_cases c2 : (out.getD ((out.length : Int) - 1).toNat default).2 = (m.getD i.toNat default).f
      · rw [if_pos ⟨c1, c2⟩] at g5
        simp (maxSteps := 1000000) (disch := omega) only [go_sem, eq_self, decide_true, decide_false, not_true_eq_false, not_false_eq_true, reduceIte, reduceCtorEq, Nat.reduceEqDiff, Nat.reduceAdd, Nat.reduceSub, Nat.reduceLeDiff]
        exact ⟨i + 1, setTo out (m.getD i.toNat default).t, n + ((m.getD i.toNat default).t - (m.getD i.toNat default).f), by simp only [abvSt, winRow, setTo_map], ⟨by omega, by omega, by rw [setTo_len]; omega, by omega, by omega, g5⟩, by omega⟩
      · rw [if_neg (fun h => c2 h.2)] at g5
        simp (maxSteps := 1000000) (disch := omega) only [go_sem, eq_self, decide_true, decide_false, not_true_eq_false, not_false_eq_true, reduceIte, reduceCtorEq, Nat.reduceEqDiff, Nat.reduceAdd, Nat.reduceSub, Nat.reduceLeDiff]
        exact ⟨i + 1, out ++ [((m.getD i.toNat default).f, (m.getD i.toNat default).t)], n + ((m.getD i.toNat default).t - (m.getD i.toNat default).f), by simp only [abvSt, winRow, List.map_append, List.map_cons, List.map_nil, frC_eq], ⟨by omega, by omega, by simp; omega, by omega, by omega, g5⟩, by omega⟩
    · rw [if_neg (fun h => c1 h.1)] at g5
      have : out.length = 0 := by omega
      simp (maxSteps := 1000000) (disch := omega) only [go_sem, eq_self, decide_true, decide_false, not_true_eq_false, not_false_eq_true, reduceIte, reduceCtorEq, Nat.reduceEqDiff, Nat.reduceAdd, Nat.reduceSub, Nat.reduceLeDiff]
      exact ⟨i + 1, out ++ [((m.getD i.toNat default).f, (m.getD i.toNat default).t)], n + ((m.getD i.toNat default).t - (m.getD i.toNat default).f), by simp only [abvSt, winRow, List.map_append, List.map_cons, List.map_nil, frC_eq], ⟨by omega, by omega, by simp; omega, by omega, by omega, g5⟩, by omega⟩
  · rw [List.drop_eq_nil_of_le (by omega), List.foldl_nil] at g5
    rw [← g5]
    simp (maxSteps := 1000000) (disch := omega) only [go_sem, eq_self, decide_true, decide_false, not_true_eq_false, not_false_eq_true, reduceIte, reduceCtorEq, Nat.reduceEqDiff, Nat.reduceAdd, Nat.reduceSub, Nat.reduceLeDiff]
end Go.Proofs.Ytggbcgldnjmobaa

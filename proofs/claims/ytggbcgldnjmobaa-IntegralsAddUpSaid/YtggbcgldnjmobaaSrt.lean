
/-
  slices.SortFunc over at most twelve pieces: insertion sort.
-/
import Derived.Test.YtggbcgldnjmobaaDelB
namespace Go.Proofs.Ytggbcgldnjmobaa
open Go Go.Ai
set_option linter.unusedSimpArgs false
set_option linter.unusedVariables false
set_option maxHeartbeats 4000000
def A_ins4 : List Ann := [⟨(some ⟨[0,1,2,3,8], [], [1000000]⟩), [], [], [], []⟩, ⟨(some ⟨[0,1,2,3,8,14], [], [1000000]⟩), [], [], [], []⟩, ⟨(some ⟨[0,1,2,3,8,9], [], [1000000]⟩), [], [], [], []⟩, ⟨(some ⟨[0,1,2,3,8,9,34], [], [1000000]⟩), [], [], [], []⟩, ⟨(some ⟨[0,1,2,3,8,9], [], [1000000]⟩), [], [], [], []⟩, ⟨(some ⟨[0,1,2,3,8,9], [], [1000000]⟩), [], [], [], []⟩, ⟨(some ⟨[0,1,2,3,8], [], [1000000]⟩), [], [], [], []⟩]
def C_ins4 : AC := (.seq (.reg false [⟨(some 10), none, .mv (.t 1)⟩, ⟨(some 11), none, .bin .add (.t 10) (.v (.int .i64 (1)))⟩, ⟨(some 8), none, .mv (.t 11)⟩] (some ⟨[0,1,2,3,8], [], [1000000]⟩))
  (.block 0 (.loop (.seq (.seq (.reg false [⟨(some 12), none, .mv (.t 8)⟩, ⟨(some 13), none, .mv (.t 2)⟩, ⟨(some 14), none, .bin .lss (.t 12) (.t 13)⟩] (some ⟨[0,1,2,3,8,14], [], [1000000]⟩))
  (.cond (.t 14)
  .skip
  (.exit 0)))
  (.seq (.block 1 (.seq (.reg false [⟨(some 17), none, .mv (.t 8)⟩, ⟨(some 9), none, .mv (.t 17)⟩] (some ⟨[0,1,2,3,8,9], [], [1000000]⟩))
  (.block 2 (.loop (.seq (.seq (.reg true [⟨(some 18), none, .mv (.t 9)⟩, ⟨(some 19), none, .mv (.t 1)⟩, ⟨(some 20), none, .bin .gtr (.t 18) (.t 19)⟩, ⟨(some 21), none, .mv (.t 20)⟩, ⟨(some 22), (some (21, true)), .mv (.t 3)⟩, ⟨(some 23), (some (21, true)), .mv (.t 0)⟩, ⟨(some 24), (some (21, true)), .mv (.t 9)⟩, ⟨(some 25), (some (21, true)), .iadr 4 (.t 23) (.t 24)⟩, ⟨(some 26), (some (21, true)), .load true 4 (.t 25)⟩, ⟨(some 27), (some (21, true)), .mv (.t 0)⟩, ⟨(some 28), (some (21, true)), .mv (.t 9)⟩, ⟨(some 29), (some (21, true)), .bin .sub (.t 28) (.v (.int .i64 (1)))⟩, ⟨(some 30), (some (21, true)), .iadr 4 (.t 27) (.t 29)⟩, ⟨(some 31), (some (21, true)), .load true 4 (.t 30)⟩, ⟨(some 32), (some (21, true)), .call (.t 22) [(.t 26), (.t 31)]⟩, ⟨(some 33), (some (21, true)), .bin .lss (.t 32) (.v (.int .i64 (0)))⟩, ⟨(some 34), none, .pick (.t 21) (.t 33) (.v (.bool false))⟩] (some ⟨[0,1,2,3,8,9,34], [], [1000000]⟩))
  (.cond (.t 34)
  .skip
  (.exit 2)))
  (.seq (.block 3 (.reg true [⟨(some 37), none, .mv (.t 0)⟩, ⟨(some 38), none, .mv (.t 9)⟩, ⟨(some 39), none, .mv (.t 0)⟩, ⟨(some 40), none, .mv (.t 9)⟩, ⟨(some 41), none, .bin .sub (.t 40) (.v (.int .i64 (1)))⟩, ⟨(some 42), none, .mv (.t 0)⟩, ⟨(some 43), none, .mv (.t 9)⟩, ⟨(some 44), none, .bin .sub (.t 43) (.v (.int .i64 (1)))⟩, ⟨(some 45), none, .iadr 4 (.t 42) (.t 44)⟩, ⟨(some 46), none, .load true 4 (.t 45)⟩, ⟨(some 47), none, .mv (.t 0)⟩, ⟨(some 48), none, .mv (.t 9)⟩, ⟨(some 49), none, .iadr 4 (.t 47) (.t 48)⟩, ⟨(some 50), none, .load true 4 (.t 49)⟩, ⟨(some 51), none, .iadr 4 (.t 37) (.t 38)⟩, ⟨none, none, .store 4 (.t 51) (.t 46)⟩, ⟨(some 52), none, .iadr 4 (.t 39) (.t 41)⟩, ⟨none, none, .store 4 (.t 52) (.t 50)⟩] (some ⟨[0,1,2,3,8,9], [], [1000000]⟩)))
  (.reg false [⟨(some 35), none, .mv (.t 9)⟩, ⟨(some 36), none, .bin .sub (.t 35) (.v (.int .i64 (1)))⟩, ⟨(some 9), none, .mv (.t 36)⟩] (some ⟨[0,1,2,3,8,9], [], [1000000]⟩))))))))
  (.reg false [⟨(some 15), none, .mv (.t 8)⟩, ⟨(some 16), none, .bin .add (.t 15) (.v (.int .i64 (1)))⟩, ⟨(some 8), none, .mv (.t 16)⟩] (some ⟨[0,1,2,3,8], [], [1000000]⟩)))))))
theorem c_ins4 : compileCode Try.prog Try.f194.ntmps (Try.f194.body.getD .skip) A_ins4 = some (C_ins4, []) := by kernel_rfl
theorem r_ins4 : compileRes Try.prog Try.f194.results.toList = some [] := by kernel_rfl
theorem b_ins4 : Try.f194.body = some (Try.f194.body.getD .skip) := by kernel_rfl
theorem n_ins4 : (Try.f194.name == "runtime.NumGoroutine") = false := by kernel_rfl
theorem fcm_ins4 {H : Hp} {K : Keep} {args : List Val} {R : Hp → Val → Prop} (hn : args.length ≤ Try.f194.ntmps) (hkb : ∀ p ∈ H.bs, p.1 = 0 ∨ XK ≤ p.1) (hkr : ∀ p ∈ H.rs, XK ≤ p.1) (h : ex Try.prog C_ins4 [] (mpost H K [] R) (initM H args)) : FCM Try.prog 194 H args R :=
  fcm_of_awp Try.func194 b_ins4 n_ins4 c_ins4 r_ins4 (of_decide_eq_true (by kernel_rfl)) hn hkb hkr h
theorem fcms_ins4 {S : List Nat} {H : Hp} {K : Keep} {args : List Val} {R : Hp → Val → Prop} (hn : args.length ≤ Try.f194.ntmps) (hkb : ∀ p ∈ H.bs, p.1 = 0 ∨ XK ≤ p.1) (hkr : ∀ p ∈ H.rs, XK ≤ p.1) (h : ex Try.prog C_ins4 [] (mpostS S H K [] R) (initM H args))   : FCMS Try.prog 194 S H args R :=
  fcms_of_awp Try.func194 b_ins4 n_ins4 c_ins4 r_ins4 (of_decide_eq_true (by kernel_rfl)) hn hkb hkr h

def A_pdq4 : List Ann := [⟨(some ⟨[0,1,2,3,4,10], [], [1000000]⟩), [], [], [], []⟩, ⟨(some ⟨[0,1,2,3,4,10,11], [], [1000000]⟩), [], [], [], []⟩, ⟨(some ⟨[0,1,2,3,4,10,11,12], [], [1000000]⟩), [], [], [], []⟩, ⟨(some ⟨[0,1,2,3,4,10,11,12,25], [], [1000000]⟩), [], [], [], []⟩, ⟨(some ⟨[], [], [1000000]⟩), [], [], [], [(30, ⟨[], [1000000], [], [1000000], [1000000]⟩)]⟩, ⟨(some ⟨[0,1,2,3,4,10,11,12,32], [], [1000000]⟩), [], [], [], []⟩, ⟨(some ⟨[], [], [1000000]⟩), [], [], [], []⟩, ⟨(some ⟨[0,1,2,3,4,10,11,12,39], [], [1000000]⟩), [], [], [], []⟩, ⟨(some ⟨[0,1,2,3,4,10,11,12], [], [1000000]⟩), [], [], [], []⟩, ⟨(some ⟨[0,1,2,3,4,10,11,12], [], [1000000]⟩), [], [], [], []⟩, ⟨(some ⟨[0,1,2,3,4,10,11,12,13,14], [], [1000000]⟩), [], [], [], []⟩, ⟨(some ⟨[0,1,2,3,4,10,11,12,13,14,56], [], [1000000]⟩), [], [], [], []⟩, ⟨(some ⟨[0,1,2,3,4,10,11,12,13], [], [1000000]⟩), [], [], [], []⟩, ⟨(some ⟨[0,1,2,3,4,10,11,12,13], [], [1000000]⟩), [], [], [], []⟩, ⟨(some ⟨[0,1,2,3,4,10,11,12,13,14], [], [1000000]⟩), [], [], [], []⟩, ⟨(some ⟨[0,1,2,3,4,10,11,12,13,75], [], [1000000]⟩), [], [], [], []⟩, ⟨(some ⟨[0,1,2,3,4,10,11,12,13,80], [], [1000000]⟩), [], [], [], []⟩, ⟨(some ⟨[0,1,2,3,4,10,11,12,13,97], [], [1000000]⟩), [], [], [], []⟩, ⟨(some ⟨[0,2,3,4,10,11,15], [], [1000000]⟩), [], [], [], []⟩, ⟨(some ⟨[0,1,2,3,4,10,11], [], [1000000]⟩), [], [], [], []⟩, ⟨(some ⟨[0,1,2,3,4,12,16,17], [], [1000000]⟩), [], [], [], []⟩, ⟨(some ⟨[0,1,2,3,4,11,12,16], [], [1000000]⟩), [], [], [], []⟩, ⟨(some ⟨[0,1,2,3,4,11,12,16,18,19], [], [1000000]⟩), [], [], [], []⟩, ⟨(some ⟨[0,1,2,3,4,11,16,18,19,20], [], [1000000]⟩), [], [], [], []⟩, ⟨(some ⟨[0,1,2,3,4,11,16,18,19,20,125], [], [1000000]⟩), [], [], [], []⟩, ⟨(some ⟨[0,1,2,3,4,10,11,16], [], [1000000]⟩), [], [], [], []⟩, ⟨(some ⟨[0,2,3,4,10,11,16], [], [1000000]⟩), [], [], [], []⟩, ⟨(some ⟨[0,1,2,3,4,10,11], [], [1000000]⟩), [], [], [], []⟩, ⟨(some ⟨[0,1,2,3,4,10,11,16], [], [1000000]⟩), [], [], [], []⟩, ⟨(some ⟨[0,1,3,4,10,11,16], [], [1000000]⟩), [], [], [], []⟩, ⟨(some ⟨[0,1,2,3,4,10,11], [], [1000000]⟩), [], [], [], []⟩]
def C_pdq4 : AC := (.seq (.reg false [⟨(some 10), none, .mv (.v (.bool true))⟩] (some ⟨[0,1,2,3,4,10], [], [1000000]⟩))
  (.seq (.reg false [⟨(some 11), none, .mv (.v (.bool true))⟩] (some ⟨[0,1,2,3,4,10,11], [], [1000000]⟩))
  (.block 0 (.loop (.block 1 (.seq (.reg false [⟨(some 21), none, .mv (.t 2)⟩, ⟨(some 22), none, .mv (.t 1)⟩, ⟨(some 23), none, .bin .sub (.t 21) (.t 22)⟩, ⟨(some 12), none, .mv (.t 23)⟩] (some ⟨[0,1,2,3,4,10,11,12], [], [1000000]⟩))
  (.seq (.seq (.reg false [⟨(some 24), none, .mv (.t 12)⟩, ⟨(some 25), none, .bin .leq (.t 24) (.v (.int .i64 (12)))⟩] (some ⟨[0,1,2,3,4,10,11,12,25], [], [1000000]⟩))
  (.cond (.t 25)
  (.seq (.reg false [⟨(some 26), none, .mv (.t 0)⟩, ⟨(some 27), none, .mv (.t 1)⟩, ⟨(some 28), none, .mv (.t 2)⟩, ⟨(some 29), none, .mv (.t 4)⟩, ⟨(some 30), none, .callm (.f 194) [(.t 26), (.t 27), (.t 28), (.t 29)] ⟨[], [1000000], [], [1000000], [1000000]⟩⟩] (some ⟨[], [], [1000000]⟩))
  .ret)
  .skip))
  (.seq (.seq (.reg false [⟨(some 31), none, .mv (.t 3)⟩, ⟨(some 32), none, .bin .eql (.t 31) (.v (.int .i64 (0)))⟩] (some ⟨[0,1,2,3,4,10,11,12,32], [], [1000000]⟩))
  (.cond (.t 32)
  (.seq (.reg false [⟨(some 33), none, .mv (.t 0)⟩, ⟨(some 34), none, .mv (.t 1)⟩, ⟨(some 35), none, .mv (.t 2)⟩, ⟨(some 36), none, .mv (.t 4)⟩, ⟨(some 37), none, .call (.f 195) [(.t 33), (.t 34), (.t 35), (.t 36)]⟩] (some ⟨[], [], [1000000]⟩))
  .ret)
  .skip))
  (.seq (.seq (.reg false [⟨(some 38), none, .mv (.t 10)⟩, ⟨(some 39), none, .un .not (.t 38)⟩] (some ⟨[0,1,2,3,4,10,11,12,39], [], [1000000]⟩))
  (.cond (.t 39)
  (.seq (.reg false [⟨(some 40), none, .mv (.t 0)⟩, ⟨(some 41), none, .mv (.t 1)⟩, ⟨(some 42), none, .mv (.t 2)⟩, ⟨(some 43), none, .mv (.t 4)⟩, ⟨(some 44), none, .call (.f 196) [(.t 40), (.t 41), (.t 42), (.t 43)]⟩] (some ⟨[0,1,2,3,4,10,11,12], [], [1000000]⟩))
  (.reg false [⟨(some 45), none, .mv (.t 3)⟩, ⟨(some 46), none, .bin .sub (.t 45) (.v (.int .i64 (1)))⟩, ⟨(some 3), none, .mv (.t 46)⟩] (some ⟨[0,1,2,3,4,10,11,12], [], [1000000]⟩)))
  .skip))
  (.seq (.reg false [⟨(some 48), none, .mv (.t 0)⟩, ⟨(some 49), none, .mv (.t 1)⟩, ⟨(some 50), none, .mv (.t 2)⟩, ⟨(some 51), none, .mv (.t 4)⟩, ⟨(some 52), none, .call (.f 197) [(.t 48), (.t 49), (.t 50), (.t 51)]⟩, ⟨(some 47), none, .mv (.t 52)⟩, ⟨(some 53), none, .extr (.t 47) 0⟩, ⟨(some 54), none, .extr (.t 47) 1⟩, ⟨(some 13), none, .mv (.t 53)⟩, ⟨(some 14), none, .mv (.t 54)⟩] (some ⟨[0,1,2,3,4,10,11,12,13,14], [], [1000000]⟩))
  (.seq (.seq (.reg false [⟨(some 55), none, .mv (.t 14)⟩, ⟨(some 56), none, .bin .eql (.t 55) (.v (.int .i64 (2)))⟩] (some ⟨[0,1,2,3,4,10,11,12,13,14,56], [], [1000000]⟩))
  (.cond (.t 56)
  (.seq (.reg false [⟨(some 57), none, .mv (.t 0)⟩, ⟨(some 58), none, .mv (.t 1)⟩, ⟨(some 59), none, .mv (.t 2)⟩, ⟨(some 60), none, .mv (.t 4)⟩, ⟨(some 61), none, .call (.f 198) [(.t 57), (.t 58), (.t 59), (.t 60)]⟩] (some ⟨[0,1,2,3,4,10,11,12,13], [], [1000000]⟩))
  (.seq (.reg false [⟨(some 62), none, .mv (.t 2)⟩, ⟨(some 63), none, .bin .sub (.t 62) (.v (.int .i64 (1)))⟩, ⟨(some 64), none, .mv (.t 13)⟩, ⟨(some 65), none, .mv (.t 1)⟩, ⟨(some 66), none, .bin .sub (.t 64) (.t 65)⟩, ⟨(some 67), none, .bin .sub (.t 63) (.t 66)⟩, ⟨(some 13), none, .mv (.t 67)⟩] (some ⟨[0,1,2,3,4,10,11,12,13], [], [1000000]⟩))
  (.reg false [⟨(some 14), none, .mv (.v (.int .i64 (1)))⟩] (some ⟨[0,1,2,3,4,10,11,12,13,14], [], [1000000]⟩))))
  .skip))
  (.seq (.seq (.reg false [⟨(some 68), none, .mv (.t 10)⟩, ⟨(some 69), none, .mv (.t 68)⟩, ⟨(some 70), (some (69, true)), .mv (.t 11)⟩, ⟨(some 71), none, .pick (.t 69) (.t 70) (.v (.bool false))⟩, ⟨(some 72), none, .mv (.t 71)⟩, ⟨(some 73), (some (72, true)), .mv (.t 14)⟩, ⟨(some 74), (some (72, true)), .bin .eql (.t 73) (.v (.int .i64 (1)))⟩, ⟨(some 75), none, .pick (.t 72) (.t 74) (.v (.bool false))⟩] (some ⟨[0,1,2,3,4,10,11,12,13,75], [], [1000000]⟩))
  (.cond (.t 75)
  (.seq (.reg false [⟨(some 76), none, .mv (.t 0)⟩, ⟨(some 77), none, .mv (.t 1)⟩, ⟨(some 78), none, .mv (.t 2)⟩, ⟨(some 79), none, .mv (.t 4)⟩, ⟨(some 80), none, .call (.f 199) [(.t 76), (.t 77), (.t 78), (.t 79)]⟩] (some ⟨[0,1,2,3,4,10,11,12,13,80], [], [1000000]⟩))
  (.cond (.t 80)
  .ret
  .skip))
  .skip))
  (.seq (.seq (.reg true [⟨(some 81), none, .mv (.t 1)⟩, ⟨(some 82), none, .bin .gtr (.t 81) (.v (.int .i64 (0)))⟩, ⟨(some 83), none, .mv (.t 82)⟩, ⟨(some 84), (some (83, true)), .mv (.t 4)⟩, ⟨(some 85), (some (83, true)), .mv (.t 0)⟩, ⟨(some 86), (some (83, true)), .mv (.t 1)⟩, ⟨(some 87), (some (83, true)), .bin .sub (.t 86) (.v (.int .i64 (1)))⟩, ⟨(some 88), (some (83, true)), .iadr 4 (.t 85) (.t 87)⟩, ⟨(some 89), (some (83, true)), .load true 4 (.t 88)⟩, ⟨(some 90), (some (83, true)), .mv (.t 0)⟩, ⟨(some 91), (some (83, true)), .mv (.t 13)⟩, ⟨(some 92), (some (83, true)), .iadr 4 (.t 90) (.t 91)⟩, ⟨(some 93), (some (83, true)), .load true 4 (.t 92)⟩, ⟨(some 94), (some (83, true)), .call (.t 84) [(.t 89), (.t 93)]⟩, ⟨(some 95), (some (83, true)), .bin .lss (.t 94) (.v (.int .i64 (0)))⟩, ⟨(some 96), (some (83, true)), .un .not (.t 95)⟩, ⟨(some 97), none, .pick (.t 83) (.t 96) (.v (.bool false))⟩] (some ⟨[0,1,2,3,4,10,11,12,13,97], [], [1000000]⟩))
  (.cond (.t 97)
  (.seq (.reg false [⟨(some 98), none, .mv (.t 0)⟩, ⟨(some 99), none, .mv (.t 1)⟩, ⟨(some 100), none, .mv (.t 2)⟩, ⟨(some 101), none, .mv (.t 13)⟩, ⟨(some 102), none, .mv (.t 4)⟩, ⟨(some 103), none, .call (.f 200) [(.t 98), (.t 99), (.t 100), (.t 101), (.t 102)]⟩, ⟨(some 15), none, .mv (.t 103)⟩] (some ⟨[0,2,3,4,10,11,15], [], [1000000]⟩))
  (.seq (.reg false [⟨(some 104), none, .mv (.t 15)⟩, ⟨(some 1), none, .mv (.t 104)⟩] (some ⟨[0,1,2,3,4,10,11], [], [1000000]⟩))
  (.exit 1)))
  .skip))
  (.seq (.reg false [⟨(some 106), none, .mv (.t 0)⟩, ⟨(some 107), none, .mv (.t 1)⟩, ⟨(some 108), none, .mv (.t 2)⟩, ⟨(some 109), none, .mv (.t 13)⟩, ⟨(some 110), none, .mv (.t 4)⟩, ⟨(some 111), none, .call (.f 201) [(.t 106), (.t 107), (.t 108), (.t 109), (.t 110)]⟩, ⟨(some 105), none, .mv (.t 111)⟩, ⟨(some 112), none, .extr (.t 105) 0⟩, ⟨(some 113), none, .extr (.t 105) 1⟩, ⟨(some 16), none, .mv (.t 112)⟩, ⟨(some 17), none, .mv (.t 113)⟩] (some ⟨[0,1,2,3,4,12,16,17], [], [1000000]⟩))
  (.seq (.reg false [⟨(some 114), none, .mv (.t 17)⟩, ⟨(some 11), none, .mv (.t 114)⟩] (some ⟨[0,1,2,3,4,11,12,16], [], [1000000]⟩))
  (.seq (.reg false [⟨(some 115), none, .mv (.t 16)⟩, ⟨(some 116), none, .mv (.t 1)⟩, ⟨(some 117), none, .bin .sub (.t 115) (.t 116)⟩, ⟨(some 118), none, .mv (.t 2)⟩, ⟨(some 119), none, .mv (.t 16)⟩, ⟨(some 120), none, .bin .sub (.t 118) (.t 119)⟩, ⟨(some 18), none, .mv (.t 117)⟩, ⟨(some 19), none, .mv (.t 120)⟩] (some ⟨[0,1,2,3,4,11,12,16,18,19], [], [1000000]⟩))
  (.seq (.reg false [⟨(some 121), none, .mv (.t 12)⟩, ⟨(some 122), none, .bin .quo (.t 121) (.v (.int .i64 (8)))⟩, ⟨(some 20), none, .mv (.t 122)⟩] (some ⟨[0,1,2,3,4,11,16,18,19,20], [], [1000000]⟩))
  (.seq (.reg false [⟨(some 123), none, .mv (.t 18)⟩, ⟨(some 124), none, .mv (.t 19)⟩, ⟨(some 125), none, .bin .lss (.t 123) (.t 124)⟩] (some ⟨[0,1,2,3,4,11,16,18,19,20,125], [], [1000000]⟩))
  (.cond (.t 125)
  (.seq (.reg false [⟨(some 126), none, .mv (.t 18)⟩, ⟨(some 127), none, .mv (.t 20)⟩, ⟨(some 128), none, .bin .geq (.t 126) (.t 127)⟩, ⟨(some 10), none, .mv (.t 128)⟩] (some ⟨[0,1,2,3,4,10,11,16], [], [1000000]⟩))
  (.seq (.reg false [⟨(some 129), none, .mv (.t 0)⟩, ⟨(some 130), none, .mv (.t 1)⟩, ⟨(some 131), none, .mv (.t 16)⟩, ⟨(some 132), none, .mv (.t 3)⟩, ⟨(some 133), none, .mv (.t 4)⟩, ⟨(some 134), none, .call (.f 170) [(.t 129), (.t 130), (.t 131), (.t 132), (.t 133)]⟩] (some ⟨[0,2,3,4,10,11,16], [], [1000000]⟩))
  (.reg false [⟨(some 135), none, .mv (.t 16)⟩, ⟨(some 136), none, .bin .add (.t 135) (.v (.int .i64 (1)))⟩, ⟨(some 1), none, .mv (.t 136)⟩] (some ⟨[0,1,2,3,4,10,11], [], [1000000]⟩))))
  (.seq (.reg false [⟨(some 137), none, .mv (.t 19)⟩, ⟨(some 138), none, .mv (.t 20)⟩, ⟨(some 139), none, .bin .geq (.t 137) (.t 138)⟩, ⟨(some 10), none, .mv (.t 139)⟩] (some ⟨[0,1,2,3,4,10,11,16], [], [1000000]⟩))
  (.seq (.reg false [⟨(some 140), none, .mv (.t 0)⟩, ⟨(some 141), none, .mv (.t 16)⟩, ⟨(some 142), none, .bin .add (.t 141) (.v (.int .i64 (1)))⟩, ⟨(some 143), none, .mv (.t 2)⟩, ⟨(some 144), none, .mv (.t 3)⟩, ⟨(some 145), none, .mv (.t 4)⟩, ⟨(some 146), none, .call (.f 170) [(.t 140), (.t 142), (.t 143), (.t 144), (.t 145)]⟩] (some ⟨[0,1,3,4,10,11,16], [], [1000000]⟩))
  (.reg false [⟨(some 147), none, .mv (.t 16)⟩, ⟨(some 2), none, .mv (.t 147)⟩] (some ⟨[0,1,2,3,4,10,11], [], [1000000]⟩)))))))))))))))))))))))
theorem c_pdq4 : compileCode Try.prog Try.f170.ntmps (Try.f170.body.getD .skip) A_pdq4 = some (C_pdq4, []) := by kernel_rfl
theorem r_pdq4 : compileRes Try.prog Try.f170.results.toList = some [] := by kernel_rfl
theorem b_pdq4 : Try.f170.body = some (Try.f170.body.getD .skip) := by kernel_rfl
theorem n_pdq4 : (Try.f170.name == "runtime.NumGoroutine") = false := by kernel_rfl
theorem fcm_pdq4 {H : Hp} {K : Keep} {args : List Val} {R : Hp → Val → Prop} (hn : args.length ≤ Try.f170.ntmps) (hkb : ∀ p ∈ H.bs, p.1 = 0 ∨ XK ≤ p.1) (hkr : ∀ p ∈ H.rs, XK ≤ p.1) (h : ex Try.prog C_pdq4 [] (mpost H K [] R) (initM H args)) : FCM Try.prog 170 H args R :=
  fcm_of_awp Try.func170 b_pdq4 n_pdq4 c_pdq4 r_pdq4 (of_decide_eq_true (by kernel_rfl)) hn hkb hkr h
theorem fcms_pdq4 {S : List Nat} {H : Hp} {K : Keep} {args : List Val} {R : Hp → Val → Prop} (hn : args.length ≤ Try.f170.ntmps) (hkb : ∀ p ∈ H.bs, p.1 = 0 ∨ XK ≤ p.1) (hkr : ∀ p ∈ H.rs, XK ≤ p.1) (h : ex Try.prog C_pdq4 [] (mpostS S H K [] R) (initM H args))   : FCMS Try.prog 170 S H args R :=
  fcms_of_awp Try.func170 b_pdq4 n_pdq4 c_pdq4 r_pdq4 (of_decide_eq_true (by kernel_rfl)) hn hkb hkr h

def A_srt4 : List Ann := [⟨(some ⟨[0,1,4], [], [1000000]⟩), [], [], [], []⟩, ⟨(some ⟨[], [], [1000000]⟩), [], [], [], [(13, ⟨[], [1000000], [], [1000000], [1000000]⟩)]⟩]
def C_srt4 : AC := (.seq (.reg false [⟨(some 5), none, .mv (.t 0)⟩, ⟨(some 6), none, .len (.t 5)⟩, ⟨(some 4), none, .mv (.t 6)⟩] (some ⟨[0,1,4], [], [1000000]⟩))
  (.reg false [⟨(some 7), none, .mv (.t 0)⟩, ⟨(some 8), none, .mv (.t 4)⟩, ⟨(some 9), none, .mv (.t 4)⟩, ⟨(some 10), none, .conv .u64 (.t 9)⟩, ⟨(some 11), none, .call (.f 168) [(.t 10)]⟩, ⟨(some 12), none, .mv (.t 1)⟩, ⟨(some 13), none, .callm (.f 170) [(.t 7), (.v (.int .i64 (0))), (.t 8), (.t 11), (.t 12)] ⟨[], [1000000], [], [1000000], [1000000]⟩⟩] (some ⟨[], [], [1000000]⟩)))
theorem c_srt4 : compileCode Try.prog Try.f126.ntmps (Try.f126.body.getD .skip) A_srt4 = some (C_srt4, []) := by kernel_rfl
theorem r_srt4 : compileRes Try.prog Try.f126.results.toList = some [] := by kernel_rfl
theorem b_srt4 : Try.f126.body = some (Try.f126.body.getD .skip) := by kernel_rfl
theorem n_srt4 : (Try.f126.name == "runtime.NumGoroutine") = false := by kernel_rfl
theorem fcm_srt4 {H : Hp} {K : Keep} {args : List Val} {R : Hp → Val → Prop} (hn : args.length ≤ Try.f126.ntmps) (hkb : ∀ p ∈ H.bs, p.1 = 0 ∨ XK ≤ p.1) (hkr : ∀ p ∈ H.rs, XK ≤ p.1) (h : ex Try.prog C_srt4 [] (mpost H K [] R) (initM H args)) : FCM Try.prog 126 H args R :=
  fcm_of_awp Try.func126 b_srt4 n_srt4 c_srt4 r_srt4 (of_decide_eq_true (by kernel_rfl)) hn hkb hkr h
theorem fcms_srt4 {S : List Nat} {H : Hp} {K : Keep} {args : List Val} {R : Hp → Val → Prop} (hn : args.length ≤ Try.f126.ntmps) (hkb : ∀ p ∈ H.bs, p.1 = 0 ∨ XK ≤ p.1) (hkr : ∀ p ∈ H.rs, XK ≤ p.1) (h : ex Try.prog C_srt4 [] (mpostS S H K [] R) (initM H args))   : FCMS Try.prog 126 S H args R :=
  fcms_of_awp Try.func126 b_srt4 n_srt4 c_srt4 r_srt4 (of_decide_eq_true (by kernel_rfl)) hn hkb hkr h

def A_bitsLen : List Ann := [⟨(some ⟨[0], [], []⟩), [], [], [], []⟩, ⟨(some ⟨[2], [], []⟩), [], [], [], []⟩, ⟨(some ⟨[2], [], []⟩), [], [], [], []⟩]
def C_bitsLen : AC := (.seq (.reg false [⟨(some 2), none, .mv (.v (.int .i64 (0)))⟩] (some ⟨[0], [], []⟩))
  (.seq (.cond (.v (.bool false))
  (.seq (.reg false [⟨(some 3), none, .mv (.t 0)⟩, ⟨(some 4), none, .conv .u32 (.t 3)⟩, ⟨(some 5), none, .call (.f 192) [(.t 4)]⟩, ⟨(some 2), none, .mv (.t 5)⟩] (some ⟨[2], [], []⟩))
  .ret)
  .skip)
  (.seq (.reg false [⟨(some 6), none, .mv (.t 0)⟩, ⟨(some 7), none, .call (.f 193) [(.t 6)]⟩, ⟨(some 2), none, .mv (.t 7)⟩] (some ⟨[2], [], []⟩))
  .ret)))
theorem c_bitsLen : compileCode Try.prog Try.f168.ntmps (Try.f168.body.getD .skip) A_bitsLen = some (C_bitsLen, []) := by kernel_rfl
theorem r_bitsLen : compileRes Try.prog Try.f168.results.toList = some [.t 2] := by kernel_rfl
theorem b_bitsLen : Try.f168.body = some (Try.f168.body.getD .skip) := by kernel_rfl
theorem n_bitsLen : (Try.f168.name == "runtime.NumGoroutine") = false := by kernel_rfl
theorem fc_bitsLen {xt : Option (List Cel)} {args : List Val} {R : List Cel → Val → Prop} (hn : (if xt.isSome then 1 else 0) + args.length ≤ Try.f168.ntmps) (h : ex Try.prog C_bitsLen [] (fpost xt [.t 2] R) (initSt xt args)) : FC Try.prog 168 xt args R :=
  fc_of_awp Try.func168 b_bitsLen n_bitsLen c_bitsLen r_bitsLen (of_decide_eq_true (by kernel_rfl)) hn h

def A_bitsLen64 : List Ann := [⟨(some ⟨[0,2], [], []⟩), [], [], [], []⟩, ⟨(some ⟨[0,2,4], [], []⟩), [], [], [], []⟩, ⟨(some ⟨[0], [], []⟩), [], [], [], []⟩, ⟨(some ⟨[0,2], [], []⟩), [], [], [], []⟩, ⟨(some ⟨[0,2,8], [], []⟩), [], [], [], []⟩, ⟨(some ⟨[0,2], [], []⟩), [], [], [], []⟩, ⟨(some ⟨[0,2], [], []⟩), [], [], [], []⟩, ⟨(some ⟨[0,2,14], [], []⟩), [], [], [], []⟩, ⟨(some ⟨[0,2], [], []⟩), [], [], [], []⟩, ⟨(some ⟨[0,2], [], []⟩), [], [], [], []⟩, ⟨(some ⟨[2], [], []⟩), [], [], [], []⟩]
def C_bitsLen64 : AC := (.seq (.reg false [⟨(some 2), none, .mv (.v (.int .i64 (0)))⟩] (some ⟨[0,2], [], []⟩))
  (.seq (.seq (.reg false [⟨(some 3), none, .mv (.t 0)⟩, ⟨(some 4), none, .bin .geq (.t 3) (.v (.int .u64 (4294967296)))⟩] (some ⟨[0,2,4], [], []⟩))
  (.cond (.t 4)
  (.seq (.reg false [⟨(some 5), none, .mv (.t 0)⟩, ⟨(some 6), none, .bin .shr (.t 5) (.v (.int .u64 (32)))⟩, ⟨(some 0), none, .mv (.t 6)⟩] (some ⟨[0], [], []⟩))
  (.reg false [⟨(some 2), none, .mv (.v (.int .i64 (32)))⟩] (some ⟨[0,2], [], []⟩)))
  .skip))
  (.seq (.seq (.reg false [⟨(some 7), none, .mv (.t 0)⟩, ⟨(some 8), none, .bin .geq (.t 7) (.v (.int .u64 (65536)))⟩] (some ⟨[0,2,8], [], []⟩))
  (.cond (.t 8)
  (.seq (.reg false [⟨(some 9), none, .mv (.t 0)⟩, ⟨(some 10), none, .bin .shr (.t 9) (.v (.int .u64 (16)))⟩, ⟨(some 0), none, .mv (.t 10)⟩] (some ⟨[0,2], [], []⟩))
  (.reg false [⟨(some 11), none, .mv (.t 2)⟩, ⟨(some 12), none, .bin .add (.t 11) (.v (.int .i64 (16)))⟩, ⟨(some 2), none, .mv (.t 12)⟩] (some ⟨[0,2], [], []⟩)))
  .skip))
  (.seq (.seq (.reg false [⟨(some 13), none, .mv (.t 0)⟩, ⟨(some 14), none, .bin .geq (.t 13) (.v (.int .u64 (256)))⟩] (some ⟨[0,2,14], [], []⟩))
  (.cond (.t 14)
  (.seq (.reg false [⟨(some 15), none, .mv (.t 0)⟩, ⟨(some 16), none, .bin .shr (.t 15) (.v (.int .u64 (8)))⟩, ⟨(some 0), none, .mv (.t 16)⟩] (some ⟨[0,2], [], []⟩))
  (.reg false [⟨(some 17), none, .mv (.t 2)⟩, ⟨(some 18), none, .bin .add (.t 17) (.v (.int .i64 (8)))⟩, ⟨(some 2), none, .mv (.t 18)⟩] (some ⟨[0,2], [], []⟩)))
  .skip))
  (.seq (.reg false [⟨(some 19), none, .mv (.t 2)⟩, ⟨(some 20), none, .mv (.t 0)⟩, ⟨(some 21), none, .conv .u8 (.t 20)⟩, ⟨(some 22), none, .idx (.v (.string (ByteArray.mk #[0, 1, 2, 2, 3, 3, 3, 3, 4, 4, 4, 4, 4, 4, 4, 4, 5, 5, 5, 5, 5, 5, 5, 5, 5, 5, 5, 5, 5, 5, 5, 5, 6, 6, 6, 6, 6, 6, 6, 6, 6, 6, 6, 6, 6, 6, 6, 6, 6, 6, 6, 6, 6, 6, 6, 6, 6, 6, 6, 6, 6, 6, 6, 6, 7, 7, 7, 7, 7, 7, 7, 7, 7, 7, 7, 7, 7, 7, 7, 7, 7, 7, 7, 7, 7, 7, 7, 7, 7, 7, 7, 7, 7, 7, 7, 7, 7, 7, 7, 7, 7, 7, 7, 7, 7, 7, 7, 7, 7, 7, 7, 7, 7, 7, 7, 7, 7, 7, 7, 7, 7, 7, 7, 7, 7, 7, 7, 7, 8, 8, 8, 8, 8, 8, 8, 8, 8, 8, 8, 8, 8, 8, 8, 8, 8, 8, 8, 8, 8, 8, 8, 8, 8, 8, 8, 8, 8, 8, 8, 8, 8, 8, 8, 8, 8, 8, 8, 8, 8, 8, 8, 8, 8, 8, 8, 8, 8, 8, 8, 8, 8, 8, 8, 8, 8, 8, 8, 8, 8, 8, 8, 8, 8, 8, 8, 8, 8, 8, 8, 8, 8, 8, 8, 8, 8, 8, 8, 8, 8, 8, 8, 8, 8, 8, 8, 8, 8, 8, 8, 8, 8, 8, 8, 8, 8, 8, 8, 8, 8, 8, 8, 8, 8, 8, 8, 8, 8, 8, 8, 8, 8, 8, 8, 8, 8, 8, 8, 8, 8, 8, 8, 8, 8, 8, 8, 8]))) (.t 21)⟩, ⟨(some 23), none, .conv .i64 (.t 22)⟩, ⟨(some 24), none, .bin .add (.t 19) (.t 23)⟩, ⟨(some 2), none, .mv (.t 24)⟩] (some ⟨[2], [], []⟩))
  .ret)))))
theorem c_bitsLen64 : compileCode Try.prog Try.f193.ntmps (Try.f193.body.getD .skip) A_bitsLen64 = some (C_bitsLen64, []) := by kernel_rfl
theorem r_bitsLen64 : compileRes Try.prog Try.f193.results.toList = some [.t 2] := by kernel_rfl
theorem b_bitsLen64 : Try.f193.body = some (Try.f193.body.getD .skip) := by kernel_rfl
theorem n_bitsLen64 : (Try.f193.name == "runtime.NumGoroutine") = false := by kernel_rfl
theorem fc_bitsLen64 {xt : Option (List Cel)} {args : List Val} {R : List Cel → Val → Prop} (hn : (if xt.isSome then 1 else 0) + args.length ≤ Try.f193.ntmps) (h : ex Try.prog C_bitsLen64 [] (fpost xt [.t 2] R) (initSt xt args)) : FC Try.prog 193 xt args R :=
  fc_of_awp Try.func193 b_bitsLen64 n_bitsLen64 c_bitsLen64 r_bitsLen64 (of_decide_eq_true (by kernel_rfl)) hn h

def A_medClos : List Ann := [⟨(some ⟨[2,3], [2,3], []⟩), [], [], [], []⟩, ⟨(some ⟨[4], [], []⟩), [], [], [], []⟩]
def C_medClos : AC := (.seq (.reg false [⟨(some 2), none, .box (.t 0)⟩, ⟨(some 3), none, .box (.t 1)⟩, ⟨(some 4), none, .mv (.v (.int .i64 (0)))⟩] (some ⟨[2,3], [2,3], []⟩))
  (.seq (.reg false [⟨(some 5), none, .fadr 2 (.t 2)⟩, ⟨(some 6), none, .load false 1 (.t 5)⟩, ⟨(some 7), none, .fadr 2 (.t 3)⟩, ⟨(some 8), none, .load false 1 (.t 7)⟩, ⟨(some 9), none, .call (.f 93) [(.t 6), (.t 8)]⟩, ⟨(some 4), none, .mv (.t 9)⟩] (some ⟨[4], [], []⟩))
  .ret))
theorem c_medClos : compileCode Try.prog Try.f127.ntmps (Try.f127.body.getD .skip) A_medClos = some (C_medClos, []) := by kernel_rfl
theorem r_medClos : compileRes Try.prog Try.f127.results.toList = some [.t 4] := by kernel_rfl
theorem b_medClos : Try.f127.body = some (Try.f127.body.getD .skip) := by kernel_rfl
theorem n_medClos : (Try.f127.name == "runtime.NumGoroutine") = false := by kernel_rfl
theorem fc_medClos {xt : Option (List Cel)} {args : List Val} {R : List Cel → Val → Prop} (hn : (if xt.isSome then 1 else 0) + args.length ≤ Try.f127.ntmps) (h : ex Try.prog C_medClos [] (fpost xt [.t 4] R) (initSt xt args)) : FC Try.prog 127 xt args R :=
  fc_of_awp Try.func127 b_medClos n_medClos c_medClos r_medClos (of_decide_eq_true (by kernel_rfl)) hn h


/-- The element at j goes down to its place. -/
def sink {α : Type} [Inhabited α] (lt : α → α → Bool) : Nat → List α → List α
  | 0, l => l
  | j + 1, l => if lt (l.getD (j + 1) default) (l.getD j default) = true then sink lt j ((l.set (j + 1) (l.getD j default)).set j (l.getD (j + 1) default)) else l
def isrt {α : Type} [Inhabited α] (lt : α → α → Bool) : Nat → List α → List α
  | 0, l => l
  | i + 1, l => sink lt i (isrt lt i l)
section
variable {α : Type} [Inhabited α] {lt : α → α → Bool}
theorem sink_len : ∀ (j : Nat) (l : List α), (sink lt j l).length = l.length
  | 0, l => rfl
  | j + 1, l => by
    rw [sink]
    split
    · rw [sink_len j, List.length_set, List.length_set]
    · rfl
theorem isrt_len : ∀ (i : Nat) (l : List α), (isrt lt i l).length = l.length
  | 0, l => rfl
  | i + 1, l => by rw [isrt, sink_len, isrt_len i]
theorem sink_at {j : Int} {l : List α} (h : 0 < j) : sink lt j.toNat l = if lt (l.getD j.toNat default) (l.getD (j - 1).toNat default) = true then sink lt (j - 1).toNat ((l.set j.toNat (l.getD (j - 1).toNat default)).set (j - 1).toNat (l.getD j.toNat default)) else l := by
  obtain ⟨n, hn⟩ : ∃ n : Nat, j.toNat = n + 1 := ⟨(j - 1).toNat, by omega⟩
  have hm : (j - 1).toNat = n := by omega
  rw [hn, hm, sink]
omit [Inhabited α] in
theorem set_other (l : List α) (x : α) {i j : Nat} (h : i ≠ j) : (l.set j x)[i]? = l[i]? := by rw [List.getElem?_set]; simp [h.symm]
theorem isrt_nil : ∀ i : Nat, isrt lt i ([] : List α) = []
  | i => List.length_eq_zero_iff.1 (by rw [isrt_len]; rfl)
end
def insSt (cl : FuncId) (n i : Int) (cur : List Pc) : AS := ⟨tabV [(0, .one (.ow 1000000 0)), (1, iv 0), (2, iv n), (3, .one (.fn cl [])), (8, iv i)], tabO [], tabO [(1000000, pcRow cur)]⟩
def injSt (cl : FuncId) (n i j : Int) (cur : List Pc) : AS := ⟨tabV [(0, .one (.ow 1000000 0)), (1, iv 0), (2, iv n), (3, .one (.fn cl [])), (8, iv i), (9, iv j)], tabO [], tabO [(1000000, pcRow cur)]⟩
theorem ins4_fcm (cl : FuncId) (cm : Pc → Pc → Int) (l : List Pc) (hl : l.length ≤ 1000) (hcl : ∀ x y, FC Try.prog cl none [.ag (pcC x), .ag (pcC y)] (fun _ r => r = iv (cm x y))) :
    FCMS Try.prog 194 [1000000] ⟨[], [(1000000, pcRow l)]⟩ [.one (.ow 1000000 0), iv 0, iv l.length, .one (.fn cl [])] (fun H r => H = ⟨[], [(1000000, pcRow (isrt (fun x y => decide (cm x y < 0)) l.length l))]⟩ ∧ r = .tu []) := by
  refine fcms_ins4 (K := ⟨[], [], [1000000]⟩) (by simp +arith) (by simp) (by simp [XK]) ?_
  unfold C_ins4
  simp (maxSteps := 1000000) (disch := omega) only [go_sem, eq_self, decide_true, decide_false, not_true_eq_false, not_false_eq_true, reduceIte, reduceCtorEq, Nat.reduceEqDiff, Nat.reduceAdd, Nat.reduceSub, Nat.reduceLeDiff]
  refine ex_loop1 (fun i => insSt cl l.length i (isrt (fun x y => decide (cm x y < 0)) i.toNat l)) (fun i => 1 ≤ i ∧ (1 ≤ l.length → i ≤ l.length)) (fun i => (l.length - i).toNat) 1 ⟨by omega, by omega⟩ rfl ?_
  rintro i ⟨g1, g2⟩
  unfold insSt
  by_cases hi : i < l.length
  · simp (maxSteps := 1000000) (disch := omega) only [go_sem, eq_self, decide_true, decide_false, not_true_eq_false, not_false_eq_true, reduceIte, reduceCtorEq, Nat.reduceEqDiff, Nat.reduceAdd, Nat.reduceSub, Nat.reduceLeDiff]
    refine ex_loop2 (injSt cl l.length i) (fun j cur => 0 ≤ j ∧ j ≤ i ∧ cur.length = l.length ∧ sink (fun x y => decide (cm x y < 0)) j.toNat cur = isrt (fun x y => decide (cm x y < 0)) (i + 1).toNat l) (fun j _ => j.toNat) i (isrt (fun x y => decide (cm x y < 0)) i.toNat l) ⟨by omega, by omega, isrt_len _ _, by rw [show (i + 1).toNat = i.toNat + 1 by omega, isrt]⟩ rfl ?_
    rintro j cur ⟨h1, h2, h3, h4⟩
    unfold injSt
    by_cases hj : 0 < j
    · rw [sink_at hj] at h4
      have ej := getD_map_at pcC cur j [] (by omega) (by omega)
      have ek := getD_map_at pcC cur (j - 1) [] (by omega) (by omega)
      simp (maxSteps := 1000000) (disch := omega) only [go_sem, eq_self, decide_true, decide_false, not_true_eq_false, not_false_eq_true, reduceIte, reduceCtorEq, Nat.reduceEqDiff, Nat.reduceAdd, Nat.reduceSub, Nat.reduceLeDiff]
      refine CALL_det (hcl _ _) (.inl rfl) ?_
      by_cases hc : cm (cur.getD j.toNat default) (cur.getD (j - 1).toNat default) < 0
      · rw [if_pos (by simpa using hc)] at h4
        have el : ((cur.map pcC).set j.toNat (pcC (cur.getD (j - 1).toNat default))).length = cur.length := by simp
        have es := set_other (cur.map pcC) (pcC (cur.getD (j - 1).toNat default)) (show (j - 1).toNat ≠ j.toNat by omega)
        rw [getE_map_in pcC cur (j - 1).toNat (by omega)] at es
        simp only [pcC_eq] at el es
        simp (maxSteps := 1000000) (disch := omega) only [go_sem, eq_self, decide_true, decide_false, not_true_eq_false, not_false_eq_true, reduceIte, reduceCtorEq, Nat.reduceEqDiff, Nat.reduceAdd, Nat.reduceSub, Nat.reduceLeDiff]
        rw [es]
        simp (maxSteps := 1000000) (disch := omega) only [go_sem, eq_self, decide_true, decide_false, not_true_eq_false, not_false_eq_true, reduceIte, reduceCtorEq, Nat.reduceEqDiff, Nat.reduceAdd, Nat.reduceSub, Nat.reduceLeDiff]
        exact ⟨j - 1, (cur.set j.toNat (cur.getD (j - 1).toNat default)).set (j - 1).toNat (cur.getD j.toNat default), by simp only [injSt, pcRow, List.map_set, pcC_eq], ⟨by omega, by omega, by rw [List.length_set, List.length_set]; exact h3, h4⟩, by omega⟩
      · rw [if_neg (by simpa using hc)] at h4
        simp (maxSteps := 1000000) (disch := omega) only [go_sem, eq_self, decide_true, decide_false, not_true_eq_false, not_false_eq_true, reduceIte, reduceCtorEq, Nat.reduceEqDiff, Nat.reduceAdd, Nat.reduceSub, Nat.reduceLeDiff]
        exact ⟨i + 1, by simp only [insSt, ← h4], by omega, by omega⟩
    · obtain rfl : j = 0 := by omega
      simp (maxSteps := 1000000) (disch := omega) only [go_sem, eq_self, decide_true, decide_false, not_true_eq_false, not_false_eq_true, reduceIte, reduceCtorEq, Nat.reduceEqDiff, Nat.reduceAdd, Nat.reduceSub, Nat.reduceLeDiff]
      exact ⟨i + 1, by simp only [insSt, ← h4]; rfl, by omega, by omega⟩
  · have he : isrt (fun x y => decide (cm x y < 0)) i.toNat l = isrt (fun x y => decide (cm x y < 0)) l.length l := by
      by_cases h0 : l.length = 0
      · rw [List.length_eq_zero_iff.1 h0]
        rw [isrt_nil, isrt_nil]
      · rw [show i.toNat = l.length by omega]
    rw [he]
    simp (maxSteps := 1000000) (disch := omega) only [go_sem, eq_self, decide_true, decide_false, not_true_eq_false, not_false_eq_true, reduceIte, reduceCtorEq, Nat.reduceEqDiff, Nat.reduceAdd, Nat.reduceSub, Nat.reduceLeDiff]
set_option maxRecDepth 20000 in
theorem bitsLen64_fc (n : Int) (h : 0 ≤ n ∧ n ≤ 12) : ∃ v : Int, FC Try.prog 193 none [.one (.g (.int .u64 n))] (fun _ r => r = iv v) := by
  obtain ⟨h1, h2⟩ := h
  refine Exists.imp (fun v => fc_bitsLen64 (by simp +arith)) ?_
  unfold C_bitsLen64
  generalize hb : ByteArray.mk _ = tab
  have hs : tab.size = 256 := by subst hb; rfl
  clear hb
  apply Exists.intro
  simp (maxSteps := 1000000) (disch := omega) only [go_sem, eq_self, decide_true, decide_false, not_true_eq_false, not_false_eq_true, reduceIte, reduceCtorEq, Nat.reduceEqDiff, Nat.reduceAdd, Nat.reduceSub, Nat.reduceLeDiff]
  rw [IntWalk.u8_in n ⟨h1, by omega⟩, hs]
  exact ⟨by omega, rfl⟩
theorem bitsLen_fc (n : Int) (h : 0 ≤ n ∧ n ≤ 12) : ∃ v : Int, FC Try.prog 168 none [.one (.g (.int .u64 n))] (fun _ r => r = iv v) := by
  obtain ⟨v, hv⟩ := bitsLen64_fc n h
  refine ⟨v, fc_bitsLen (by simp +arith) ?_⟩
  unfold C_bitsLen
  simp (maxSteps := 1000000) (disch := omega) only [go_sem, eq_self, decide_true, decide_false, not_true_eq_false, not_false_eq_true, reduceIte, reduceCtorEq, Nat.reduceEqDiff, Nat.reduceAdd, Nat.reduceSub, Nat.reduceLeDiff]
  refine CALL_det hv (.inl rfl) ?_
  simp (maxSteps := 1000000) (disch := omega) only [go_sem, eq_self, decide_true, decide_false, not_true_eq_false, not_false_eq_true, reduceIte, reduceCtorEq, Nat.reduceEqDiff, Nat.reduceAdd, Nat.reduceSub, Nat.reduceLeDiff]
theorem medClos_fc (x y : Pc) : FC Try.prog 127 none [.ag (pcC x), .ag (pcC y)] (fun _ r => r = iv (sd y.v x.v)) := by
  refine fc_medClos (by simp +arith) ?_
  unfold C_medClos
  simp (maxSteps := 1000000) (disch := omega) only [go_sem, eq_self, decide_true, decide_false, not_true_eq_false, not_false_eq_true, reduceIte, reduceCtorEq, Nat.reduceEqDiff, Nat.reduceAdd, Nat.reduceSub, Nat.reduceLeDiff]
  refine CALL_det (cmpInt_fc _ _) (.inl rfl) ?_
  simp (maxSteps := 1000000) (disch := omega) only [go_sem, eq_self, decide_true, decide_false, not_true_eq_false, not_false_eq_true, reduceIte, reduceCtorEq, Nat.reduceEqDiff, Nat.reduceAdd, Nat.reduceSub, Nat.reduceLeDiff]
theorem pdq4_fcm (cl : FuncId) (cm : Pc → Pc → Int) (l : List Pc) (hl : l.length ≤ 12) (w : Val) (hcl : ∀ x y, FC Try.prog cl none [.ag (pcC x), .ag (pcC y)] (fun _ r => r = iv (cm x y))) :
    FCMS Try.prog 170 [1000000] ⟨[], [(1000000, pcRow l)]⟩ [.one (.ow 1000000 0), iv 0, iv l.length, w, .one (.fn cl [])] (fun H r => H = ⟨[], [(1000000, pcRow (isrt (fun x y => decide (cm x y < 0)) l.length l))]⟩ ∧ r = .tu []) := by
  refine fcms_pdq4 (K := ⟨[], [], [1000000]⟩) (by simp +arith) (by simp) (by simp [XK]) ?_
  unfold C_pdq4
  simp (maxSteps := 1000000) (disch := omega) only [go_sem, eq_self, decide_true, decide_false, not_true_eq_false, not_false_eq_true, reduceIte, reduceCtorEq, Nat.reduceEqDiff, Nat.reduceAdd, Nat.reduceSub, Nat.reduceLeDiff]
  refine ex_rnd 1 ?_
  simp (maxSteps := 1000000) (disch := omega) only [go_sem, eq_self, decide_true, decide_false, not_true_eq_false, not_false_eq_true, reduceIte, reduceCtorEq, Nat.reduceEqDiff, Nat.reduceAdd, Nat.reduceSub, Nat.reduceLeDiff]
  refine ⟨rfl, CALLM_det (ins4_fcm cl cm l (by omega) hcl) ⟨rfl, rfl⟩ ?_⟩
  simp (maxSteps := 1000000) (disch := omega) only [go_sem, eq_self, decide_true, decide_false, not_true_eq_false, not_false_eq_true, reduceIte, reduceCtorEq, Nat.reduceEqDiff, Nat.reduceAdd, Nat.reduceSub, Nat.reduceLeDiff]
theorem srt4_fcm (cl : FuncId) (cm : Pc → Pc → Int) (l : List Pc) (hl : l.length ≤ 12) (hcl : ∀ x y, FC Try.prog cl none [.ag (pcC x), .ag (pcC y)] (fun _ r => r = iv (cm x y))) :
    FCMS Try.prog 126 [1000000] ⟨[], [(1000000, pcRow l)]⟩ [.one (.ow 1000000 0), .one (.fn cl [])] (fun H r => H = ⟨[], [(1000000, pcRow (isrt (fun x y => decide (cm x y < 0)) l.length l))]⟩ ∧ r = .tu []) := by
  refine fcms_srt4 (K := ⟨[], [], [1000000]⟩) (by simp +arith) (by simp) (by simp [XK]) ?_
  unfold C_srt4
  obtain ⟨v, hv⟩ := bitsLen_fc l.length (by omega)
  simp (maxSteps := 1000000) (disch := omega) only [go_sem, eq_self, decide_true, decide_false, not_true_eq_false, not_false_eq_true, reduceIte, reduceCtorEq, Nat.reduceEqDiff, Nat.reduceAdd, Nat.reduceSub, Nat.reduceLeDiff]
  refine CALL_det hv (.inl rfl) ?_
  simp (maxSteps := 1000000) (disch := omega) only [go_sem, eq_self, decide_true, decide_false, not_true_eq_false, not_false_eq_true, reduceIte, reduceCtorEq, Nat.reduceEqDiff, Nat.reduceAdd, Nat.reduceSub, Nat.reduceLeDiff]
  refine ⟨rfl, CALLM_det (pdq4_fcm cl cm l hl (iv v) hcl) ⟨rfl, rfl⟩ ?_⟩
  simp (maxSteps := 1000000) (disch := omega) only [go_sem, eq_self, decide_true, decide_false, not_true_eq_false, not_false_eq_true, reduceIte, reduceCtorEq, Nat.reduceEqDiff, Nat.reduceAdd, Nat.reduceSub, Nat.reduceLeDiff]
end Go.Proofs.Ytggbcgldnjmobaa


/-
  slices.Sort and slices.Compact at []int, on a row without elements.
-/
import Derived.Test.YtggbcgldnjmobaaDoorAiGen
import Derived.Test.YtggbcgldnjmobaaDoorProg
namespace Go.Proofs.YtggbcgldnjmobaaDoor
open Go Go.Ai
set_option linter.unusedSimpArgs false
set_option linter.unusedVariables false
set_option maxHeartbeats 4000000
def A_ins0 : List Ann := [⟨(some ⟨[0,1,2,6], [], [1000000]⟩), [], [], [], []⟩, ⟨(some ⟨[0,1,2,6,12], [], [1000000]⟩), [], [], [], []⟩, ⟨(some ⟨[0,1,2,6,7], [], [1000000]⟩), [], [], [], []⟩, ⟨(some ⟨[0,1,2,6,7,30], [], [1000000]⟩), [], [], [], []⟩, ⟨(some ⟨[0,1,2,6,7], [], [1000000]⟩), [], [], [], []⟩, ⟨(some ⟨[0,1,2,6,7], [], [1000000]⟩), [], [], [], []⟩, ⟨(some ⟨[0,1,2,6], [], [1000000]⟩), [], [], [], []⟩]
def C_ins0 : AC := (.seq (.reg false [⟨(some 8), none, .mv (.t 1)⟩, ⟨(some 9), none, .bin .add (.t 8) (.v (.int .i64 (1)))⟩, ⟨(some 6), none, .mv (.t 9)⟩] (some ⟨[0,1,2,6], [], [1000000]⟩))
  (.block 0 (.loop (.seq (.seq (.reg false [⟨(some 10), none, .mv (.t 6)⟩, ⟨(some 11), none, .mv (.t 2)⟩, ⟨(some 12), none, .bin .lss (.t 10) (.t 11)⟩] (some ⟨[0,1,2,6,12], [], [1000000]⟩))
  (.cond (.t 12)
  .skip
  (.exit 0)))
  (.seq (.block 1 (.seq (.reg false [⟨(some 15), none, .mv (.t 6)⟩, ⟨(some 7), none, .mv (.t 15)⟩] (some ⟨[0,1,2,6,7], [], [1000000]⟩))
  (.block 2 (.loop (.seq (.seq (.reg true [⟨(some 16), none, .mv (.t 7)⟩, ⟨(some 17), none, .mv (.t 1)⟩, ⟨(some 18), none, .bin .gtr (.t 16) (.t 17)⟩, ⟨(some 19), none, .mv (.t 18)⟩, ⟨(some 20), (some (19, true)), .mv (.t 0)⟩, ⟨(some 21), (some (19, true)), .mv (.t 7)⟩, ⟨(some 22), (some (19, true)), .iadr 1 (.t 20) (.t 21)⟩, ⟨(some 23), (some (19, true)), .load false 1 (.t 22)⟩, ⟨(some 24), (some (19, true)), .mv (.t 0)⟩, ⟨(some 25), (some (19, true)), .mv (.t 7)⟩, ⟨(some 26), (some (19, true)), .bin .sub (.t 25) (.v (.int .i64 (1)))⟩, ⟨(some 27), (some (19, true)), .iadr 1 (.t 24) (.t 26)⟩, ⟨(some 28), (some (19, true)), .load false 1 (.t 27)⟩, ⟨(some 29), (some (19, true)), .call (.f 57) [(.t 23), (.t 28)]⟩, ⟨(some 30), none, .pick (.t 19) (.t 29) (.v (.bool false))⟩] (some ⟨[0,1,2,6,7,30], [], [1000000]⟩))
  (.cond (.t 30)
  .skip
  (.exit 2)))
  (.seq (.block 3 (.reg true [⟨(some 33), none, .mv (.t 0)⟩, ⟨(some 34), none, .mv (.t 7)⟩, ⟨(some 35), none, .mv (.t 0)⟩, ⟨(some 36), none, .mv (.t 7)⟩, ⟨(some 37), none, .bin .sub (.t 36) (.v (.int .i64 (1)))⟩, ⟨(some 38), none, .mv (.t 0)⟩, ⟨(some 39), none, .mv (.t 7)⟩, ⟨(some 40), none, .bin .sub (.t 39) (.v (.int .i64 (1)))⟩, ⟨(some 41), none, .iadr 1 (.t 38) (.t 40)⟩, ⟨(some 42), none, .load false 1 (.t 41)⟩, ⟨(some 43), none, .mv (.t 0)⟩, ⟨(some 44), none, .mv (.t 7)⟩, ⟨(some 45), none, .iadr 1 (.t 43) (.t 44)⟩, ⟨(some 46), none, .load false 1 (.t 45)⟩, ⟨(some 47), none, .iadr 1 (.t 33) (.t 34)⟩, ⟨none, none, .store 1 (.t 47) (.t 42)⟩, ⟨(some 48), none, .iadr 1 (.t 35) (.t 37)⟩, ⟨none, none, .store 1 (.t 48) (.t 46)⟩] (some ⟨[0,1,2,6,7], [], [1000000]⟩)))
  (.reg false [⟨(some 31), none, .mv (.t 7)⟩, ⟨(some 32), none, .bin .sub (.t 31) (.v (.int .i64 (1)))⟩, ⟨(some 7), none, .mv (.t 32)⟩] (some ⟨[0,1,2,6,7], [], [1000000]⟩))))))))
  (.reg false [⟨(some 13), none, .mv (.t 6)⟩, ⟨(some 14), none, .bin .add (.t 13) (.v (.int .i64 (1)))⟩, ⟨(some 6), none, .mv (.t 14)⟩] (some ⟨[0,1,2,6], [], [1000000]⟩)))))))
theorem c_ins0 : compileCode Tryd.prog Tryd.f51.ntmps (Tryd.f51.body.getD .skip) A_ins0 = some (C_ins0, []) := by kernel_rfl
theorem r_ins0 : compileRes Tryd.prog Tryd.f51.results.toList = some [] := by kernel_rfl
theorem b_ins0 : Tryd.f51.body = some (Tryd.f51.body.getD .skip) := by kernel_rfl
theorem n_ins0 : (Tryd.f51.name == "runtime.NumGoroutine") = false := by kernel_rfl
theorem fcm_ins0 {H : Hp} {K : Keep} {args : List Val} {R : Hp → Val → Prop} (hn : args.length ≤ Tryd.f51.ntmps) (hkb : ∀ p ∈ H.bs, p.1 = 0 ∨ XK ≤ p.1) (hkr : ∀ p ∈ H.rs, XK ≤ p.1) (h : ex Tryd.prog C_ins0 [] (mpost H K [] R) (initM H args)) : FCM Tryd.prog 51 H args R :=
  fcm_of_awp Tryd.func51 b_ins0 n_ins0 c_ins0 r_ins0 (of_decide_eq_true (by kernel_rfl)) hn hkb hkr h
theorem fcms_ins0 {S : List Nat} {H : Hp} {K : Keep} {args : List Val} {R : Hp → Val → Prop} (hn : args.length ≤ Tryd.f51.ntmps) (hkb : ∀ p ∈ H.bs, p.1 = 0 ∨ XK ≤ p.1) (hkr : ∀ p ∈ H.rs, XK ≤ p.1) (h : ex Tryd.prog C_ins0 [] (mpostS S H K [] R) (initM H args))   : FCMS Tryd.prog 51 S H args R :=
  fcms_of_awp Tryd.func51 b_ins0 n_ins0 c_ins0 r_ins0 (of_decide_eq_true (by kernel_rfl)) hn hkb hkr h

def A_pdq0 : List Ann := [⟨(some ⟨[0,1,2,3,8], [], [1000000]⟩), [], [], [], []⟩, ⟨(some ⟨[0,1,2,3,8,9], [], [1000000]⟩), [], [], [], []⟩, ⟨(some ⟨[0,1,2,3,8,9,10], [], [1000000]⟩), [], [], [], []⟩, ⟨(some ⟨[0,1,2,3,8,9,10,23], [], [1000000]⟩), [], [], [], []⟩, ⟨(some ⟨[], [], [1000000]⟩), [], [], [], [(27, ⟨[], [1000000], [], [1000000], [1000000]⟩)]⟩, ⟨(some ⟨[0,1,2,3,8,9,10,29], [], [1000000]⟩), [], [], [], []⟩, ⟨(some ⟨[], [], [1000000]⟩), [], [], [], []⟩, ⟨(some ⟨[0,1,2,3,8,9,10,35], [], [1000000]⟩), [], [], [], []⟩, ⟨(some ⟨[0,1,2,3,8,9,10], [], [1000000]⟩), [], [], [], []⟩, ⟨(some ⟨[0,1,2,3,8,9,10], [], [1000000]⟩), [], [], [], []⟩, ⟨(some ⟨[0,1,2,3,8,9,10,11,12], [], [1000000]⟩), [], [], [], []⟩, ⟨(some ⟨[0,1,2,3,8,9,10,11,12,50], [], [1000000]⟩), [], [], [], []⟩, ⟨(some ⟨[0,1,2,3,8,9,10,11], [], [1000000]⟩), [], [], [], []⟩, ⟨(some ⟨[0,1,2,3,8,9,10,11], [], [1000000]⟩), [], [], [], []⟩, ⟨(some ⟨[0,1,2,3,8,9,10,11,12], [], [1000000]⟩), [], [], [], []⟩, ⟨(some ⟨[0,1,2,3,8,9,10,11,68], [], [1000000]⟩), [], [], [], []⟩, ⟨(some ⟨[0,1,2,3,8,9,10,11,72], [], [1000000]⟩), [], [], [], []⟩, ⟨(some ⟨[0,1,2,3,8,9,10,11,87], [], [1000000]⟩), [], [], [], []⟩, ⟨(some ⟨[0,2,3,8,9,13], [], [1000000]⟩), [], [], [], []⟩, ⟨(some ⟨[0,1,2,3,8,9], [], [1000000]⟩), [], [], [], []⟩, ⟨(some ⟨[0,1,2,3,10,14,15], [], [1000000]⟩), [], [], [], []⟩, ⟨(some ⟨[0,1,2,3,9,10,14], [], [1000000]⟩), [], [], [], []⟩, ⟨(some ⟨[0,1,2,3,9,10,14,16,17], [], [1000000]⟩), [], [], [], []⟩, ⟨(some ⟨[0,1,2,3,9,14,16,17,18], [], [1000000]⟩), [], [], [], []⟩, ⟨(some ⟨[0,1,2,3,9,14,16,17,18,113], [], [1000000]⟩), [], [], [], []⟩, ⟨(some ⟨[0,1,2,3,8,9,14], [], [1000000]⟩), [], [], [], []⟩, ⟨(some ⟨[0,2,3,8,9,14], [], [1000000]⟩), [], [], [], []⟩, ⟨(some ⟨[0,1,2,3,8,9], [], [1000000]⟩), [], [], [], []⟩, ⟨(some ⟨[0,1,2,3,8,9,14], [], [1000000]⟩), [], [], [], []⟩, ⟨(some ⟨[0,1,3,8,9,14], [], [1000000]⟩), [], [], [], []⟩, ⟨(some ⟨[0,1,2,3,8,9], [], [1000000]⟩), [], [], [], []⟩]
def C_pdq0 : AC := (.seq (.reg false [⟨(some 8), none, .mv (.v (.bool true))⟩] (some ⟨[0,1,2,3,8], [], [1000000]⟩))
  (.seq (.reg false [⟨(some 9), none, .mv (.v (.bool true))⟩] (some ⟨[0,1,2,3,8,9], [], [1000000]⟩))
  (.block 0 (.loop (.block 1 (.seq (.reg false [⟨(some 19), none, .mv (.t 2)⟩, ⟨(some 20), none, .mv (.t 1)⟩, ⟨(some 21), none, .bin .sub (.t 19) (.t 20)⟩, ⟨(some 10), none, .mv (.t 21)⟩] (some ⟨[0,1,2,3,8,9,10], [], [1000000]⟩))
  (.seq (.seq (.reg false [⟨(some 22), none, .mv (.t 10)⟩, ⟨(some 23), none, .bin .leq (.t 22) (.v (.int .i64 (12)))⟩] (some ⟨[0,1,2,3,8,9,10,23], [], [1000000]⟩))
  (.cond (.t 23)
  (.seq (.reg false [⟨(some 24), none, .mv (.t 0)⟩, ⟨(some 25), none, .mv (.t 1)⟩, ⟨(some 26), none, .mv (.t 2)⟩, ⟨(some 27), none, .callm (.f 51) [(.t 24), (.t 25), (.t 26)] ⟨[], [1000000], [], [1000000], [1000000]⟩⟩] (some ⟨[], [], [1000000]⟩))
  .ret)
  .skip))
  (.seq (.seq (.reg false [⟨(some 28), none, .mv (.t 3)⟩, ⟨(some 29), none, .bin .eql (.t 28) (.v (.int .i64 (0)))⟩] (some ⟨[0,1,2,3,8,9,10,29], [], [1000000]⟩))
  (.cond (.t 29)
  (.seq (.reg false [⟨(some 30), none, .mv (.t 0)⟩, ⟨(some 31), none, .mv (.t 1)⟩, ⟨(some 32), none, .mv (.t 2)⟩, ⟨(some 33), none, .call (.f 52) [(.t 30), (.t 31), (.t 32)]⟩] (some ⟨[], [], [1000000]⟩))
  .ret)
  .skip))
  (.seq (.seq (.reg false [⟨(some 34), none, .mv (.t 8)⟩, ⟨(some 35), none, .un .not (.t 34)⟩] (some ⟨[0,1,2,3,8,9,10,35], [], [1000000]⟩))
  (.cond (.t 35)
  (.seq (.reg false [⟨(some 36), none, .mv (.t 0)⟩, ⟨(some 37), none, .mv (.t 1)⟩, ⟨(some 38), none, .mv (.t 2)⟩, ⟨(some 39), none, .call (.f 53) [(.t 36), (.t 37), (.t 38)]⟩] (some ⟨[0,1,2,3,8,9,10], [], [1000000]⟩))
  (.reg false [⟨(some 40), none, .mv (.t 3)⟩, ⟨(some 41), none, .bin .sub (.t 40) (.v (.int .i64 (1)))⟩, ⟨(some 3), none, .mv (.t 41)⟩] (some ⟨[0,1,2,3,8,9,10], [], [1000000]⟩)))
  .skip))
  (.seq (.reg false [⟨(some 43), none, .mv (.t 0)⟩, ⟨(some 44), none, .mv (.t 1)⟩, ⟨(some 45), none, .mv (.t 2)⟩, ⟨(some 46), none, .call (.f 54) [(.t 43), (.t 44), (.t 45)]⟩, ⟨(some 42), none, .mv (.t 46)⟩, ⟨(some 47), none, .extr (.t 42) 0⟩, ⟨(some 48), none, .extr (.t 42) 1⟩, ⟨(some 11), none, .mv (.t 47)⟩, ⟨(some 12), none, .mv (.t 48)⟩] (some ⟨[0,1,2,3,8,9,10,11,12], [], [1000000]⟩))
  (.seq (.seq (.reg false [⟨(some 49), none, .mv (.t 12)⟩, ⟨(some 50), none, .bin .eql (.t 49) (.v (.int .i64 (2)))⟩] (some ⟨[0,1,2,3,8,9,10,11,12,50], [], [1000000]⟩))
  (.cond (.t 50)
  (.seq (.reg false [⟨(some 51), none, .mv (.t 0)⟩, ⟨(some 52), none, .mv (.t 1)⟩, ⟨(some 53), none, .mv (.t 2)⟩, ⟨(some 54), none, .call (.f 55) [(.t 51), (.t 52), (.t 53)]⟩] (some ⟨[0,1,2,3,8,9,10,11], [], [1000000]⟩))
  (.seq (.reg false [⟨(some 55), none, .mv (.t 2)⟩, ⟨(some 56), none, .bin .sub (.t 55) (.v (.int .i64 (1)))⟩, ⟨(some 57), none, .mv (.t 11)⟩, ⟨(some 58), none, .mv (.t 1)⟩, ⟨(some 59), none, .bin .sub (.t 57) (.t 58)⟩, ⟨(some 60), none, .bin .sub (.t 56) (.t 59)⟩, ⟨(some 11), none, .mv (.t 60)⟩] (some ⟨[0,1,2,3,8,9,10,11], [], [1000000]⟩))
  (.reg false [⟨(some 12), none, .mv (.v (.int .i64 (1)))⟩] (some ⟨[0,1,2,3,8,9,10,11,12], [], [1000000]⟩))))
  .skip))
  (.seq (.seq (.reg false [⟨(some 61), none, .mv (.t 8)⟩, ⟨(some 62), none, .mv (.t 61)⟩, ⟨(some 63), (some (62, true)), .mv (.t 9)⟩, ⟨(some 64), none, .pick (.t 62) (.t 63) (.v (.bool false))⟩, ⟨(some 65), none, .mv (.t 64)⟩, ⟨(some 66), (some (65, true)), .mv (.t 12)⟩, ⟨(some 67), (some (65, true)), .bin .eql (.t 66) (.v (.int .i64 (1)))⟩, ⟨(some 68), none, .pick (.t 65) (.t 67) (.v (.bool false))⟩] (some ⟨[0,1,2,3,8,9,10,11,68], [], [1000000]⟩))
  (.cond (.t 68)
  (.seq (.reg false [⟨(some 69), none, .mv (.t 0)⟩, ⟨(some 70), none, .mv (.t 1)⟩, ⟨(some 71), none, .mv (.t 2)⟩, ⟨(some 72), none, .call (.f 56) [(.t 69), (.t 70), (.t 71)]⟩] (some ⟨[0,1,2,3,8,9,10,11,72], [], [1000000]⟩))
  (.cond (.t 72)
  .ret
  .skip))
  .skip))
  (.seq (.seq (.reg true [⟨(some 73), none, .mv (.t 1)⟩, ⟨(some 74), none, .bin .gtr (.t 73) (.v (.int .i64 (0)))⟩, ⟨(some 75), none, .mv (.t 74)⟩, ⟨(some 76), (some (75, true)), .mv (.t 0)⟩, ⟨(some 77), (some (75, true)), .mv (.t 1)⟩, ⟨(some 78), (some (75, true)), .bin .sub (.t 77) (.v (.int .i64 (1)))⟩, ⟨(some 79), (some (75, true)), .iadr 1 (.t 76) (.t 78)⟩, ⟨(some 80), (some (75, true)), .load false 1 (.t 79)⟩, ⟨(some 81), (some (75, true)), .mv (.t 0)⟩, ⟨(some 82), (some (75, true)), .mv (.t 11)⟩, ⟨(some 83), (some (75, true)), .iadr 1 (.t 81) (.t 82)⟩, ⟨(some 84), (some (75, true)), .load false 1 (.t 83)⟩, ⟨(some 85), (some (75, true)), .call (.f 57) [(.t 80), (.t 84)]⟩, ⟨(some 86), (some (75, true)), .un .not (.t 85)⟩, ⟨(some 87), none, .pick (.t 75) (.t 86) (.v (.bool false))⟩] (some ⟨[0,1,2,3,8,9,10,11,87], [], [1000000]⟩))
  (.cond (.t 87)
  (.seq (.reg false [⟨(some 88), none, .mv (.t 0)⟩, ⟨(some 89), none, .mv (.t 1)⟩, ⟨(some 90), none, .mv (.t 2)⟩, ⟨(some 91), none, .mv (.t 11)⟩, ⟨(some 92), none, .call (.f 58) [(.t 88), (.t 89), (.t 90), (.t 91)]⟩, ⟨(some 13), none, .mv (.t 92)⟩] (some ⟨[0,2,3,8,9,13], [], [1000000]⟩))
  (.seq (.reg false [⟨(some 93), none, .mv (.t 13)⟩, ⟨(some 1), none, .mv (.t 93)⟩] (some ⟨[0,1,2,3,8,9], [], [1000000]⟩))
  (.exit 1)))
  .skip))
  (.seq (.reg false [⟨(some 95), none, .mv (.t 0)⟩, ⟨(some 96), none, .mv (.t 1)⟩, ⟨(some 97), none, .mv (.t 2)⟩, ⟨(some 98), none, .mv (.t 11)⟩, ⟨(some 99), none, .call (.f 59) [(.t 95), (.t 96), (.t 97), (.t 98)]⟩, ⟨(some 94), none, .mv (.t 99)⟩, ⟨(some 100), none, .extr (.t 94) 0⟩, ⟨(some 101), none, .extr (.t 94) 1⟩, ⟨(some 14), none, .mv (.t 100)⟩, ⟨(some 15), none, .mv (.t 101)⟩] (some ⟨[0,1,2,3,10,14,15], [], [1000000]⟩))
  (.seq (.reg false [⟨(some 102), none, .mv (.t 15)⟩, ⟨(some 9), none, .mv (.t 102)⟩] (some ⟨[0,1,2,3,9,10,14], [], [1000000]⟩))
  (.seq (.reg false [⟨(some 103), none, .mv (.t 14)⟩, ⟨(some 104), none, .mv (.t 1)⟩, ⟨(some 105), none, .bin .sub (.t 103) (.t 104)⟩, ⟨(some 106), none, .mv (.t 2)⟩, ⟨(some 107), none, .mv (.t 14)⟩, ⟨(some 108), none, .bin .sub (.t 106) (.t 107)⟩, ⟨(some 16), none, .mv (.t 105)⟩, ⟨(some 17), none, .mv (.t 108)⟩] (some ⟨[0,1,2,3,9,10,14,16,17], [], [1000000]⟩))
  (.seq (.reg false [⟨(some 109), none, .mv (.t 10)⟩, ⟨(some 110), none, .bin .quo (.t 109) (.v (.int .i64 (8)))⟩, ⟨(some 18), none, .mv (.t 110)⟩] (some ⟨[0,1,2,3,9,14,16,17,18], [], [1000000]⟩))
  (.seq (.reg false [⟨(some 111), none, .mv (.t 16)⟩, ⟨(some 112), none, .mv (.t 17)⟩, ⟨(some 113), none, .bin .lss (.t 111) (.t 112)⟩] (some ⟨[0,1,2,3,9,14,16,17,18,113], [], [1000000]⟩))
  (.cond (.t 113)
  (.seq (.reg false [⟨(some 114), none, .mv (.t 16)⟩, ⟨(some 115), none, .mv (.t 18)⟩, ⟨(some 116), none, .bin .geq (.t 114) (.t 115)⟩, ⟨(some 8), none, .mv (.t 116)⟩] (some ⟨[0,1,2,3,8,9,14], [], [1000000]⟩))
  (.seq (.reg false [⟨(some 117), none, .mv (.t 0)⟩, ⟨(some 118), none, .mv (.t 1)⟩, ⟨(some 119), none, .mv (.t 14)⟩, ⟨(some 120), none, .mv (.t 3)⟩, ⟨(some 121), none, .call (.f 46) [(.t 117), (.t 118), (.t 119), (.t 120)]⟩] (some ⟨[0,2,3,8,9,14], [], [1000000]⟩))
  (.reg false [⟨(some 122), none, .mv (.t 14)⟩, ⟨(some 123), none, .bin .add (.t 122) (.v (.int .i64 (1)))⟩, ⟨(some 1), none, .mv (.t 123)⟩] (some ⟨[0,1,2,3,8,9], [], [1000000]⟩))))
  (.seq (.reg false [⟨(some 124), none, .mv (.t 17)⟩, ⟨(some 125), none, .mv (.t 18)⟩, ⟨(some 126), none, .bin .geq (.t 124) (.t 125)⟩, ⟨(some 8), none, .mv (.t 126)⟩] (some ⟨[0,1,2,3,8,9,14], [], [1000000]⟩))
  (.seq (.reg false [⟨(some 127), none, .mv (.t 0)⟩, ⟨(some 128), none, .mv (.t 14)⟩, ⟨(some 129), none, .bin .add (.t 128) (.v (.int .i64 (1)))⟩, ⟨(some 130), none, .mv (.t 2)⟩, ⟨(some 131), none, .mv (.t 3)⟩, ⟨(some 132), none, .call (.f 46) [(.t 127), (.t 129), (.t 130), (.t 131)]⟩] (some ⟨[0,1,3,8,9,14], [], [1000000]⟩))
  (.reg false [⟨(some 133), none, .mv (.t 14)⟩, ⟨(some 2), none, .mv (.t 133)⟩] (some ⟨[0,1,2,3,8,9], [], [1000000]⟩)))))))))))))))))))))))
theorem c_pdq0 : compileCode Tryd.prog Tryd.f46.ntmps (Tryd.f46.body.getD .skip) A_pdq0 = some (C_pdq0, []) := by kernel_rfl
theorem r_pdq0 : compileRes Tryd.prog Tryd.f46.results.toList = some [] := by kernel_rfl
theorem b_pdq0 : Tryd.f46.body = some (Tryd.f46.body.getD .skip) := by kernel_rfl
theorem n_pdq0 : (Tryd.f46.name == "runtime.NumGoroutine") = false := by kernel_rfl
theorem fcm_pdq0 {H : Hp} {K : Keep} {args : List Val} {R : Hp → Val → Prop} (hn : args.length ≤ Tryd.f46.ntmps) (hkb : ∀ p ∈ H.bs, p.1 = 0 ∨ XK ≤ p.1) (hkr : ∀ p ∈ H.rs, XK ≤ p.1) (h : ex Tryd.prog C_pdq0 [] (mpost H K [] R) (initM H args)) : FCM Tryd.prog 46 H args R :=
  fcm_of_awp Tryd.func46 b_pdq0 n_pdq0 c_pdq0 r_pdq0 (of_decide_eq_true (by kernel_rfl)) hn hkb hkr h
theorem fcms_pdq0 {S : List Nat} {H : Hp} {K : Keep} {args : List Val} {R : Hp → Val → Prop} (hn : args.length ≤ Tryd.f46.ntmps) (hkb : ∀ p ∈ H.bs, p.1 = 0 ∨ XK ≤ p.1) (hkr : ∀ p ∈ H.rs, XK ≤ p.1) (h : ex Tryd.prog C_pdq0 [] (mpostS S H K [] R) (initM H args))   : FCMS Tryd.prog 46 S H args R :=
  fcms_of_awp Tryd.func46 b_pdq0 n_pdq0 c_pdq0 r_pdq0 (of_decide_eq_true (by kernel_rfl)) hn hkb hkr h

def A_srt0 : List Ann := [⟨(some ⟨[0,2], [], [1000000]⟩), [], [], [], []⟩, ⟨(some ⟨[], [], [1000000]⟩), [], [], [], [(10, ⟨[], [1000000], [], [1000000], [1000000]⟩)]⟩]
def C_srt0 : AC := (.seq (.reg false [⟨(some 3), none, .mv (.t 0)⟩, ⟨(some 4), none, .len (.t 3)⟩, ⟨(some 2), none, .mv (.t 4)⟩] (some ⟨[0,2], [], [1000000]⟩))
  (.reg false [⟨(some 5), none, .mv (.t 0)⟩, ⟨(some 6), none, .mv (.t 2)⟩, ⟨(some 7), none, .mv (.t 2)⟩, ⟨(some 8), none, .conv .u64 (.t 7)⟩, ⟨(some 9), none, .call (.f 47) [(.t 8)]⟩, ⟨(some 10), none, .callm (.f 46) [(.t 5), (.v (.int .i64 (0))), (.t 6), (.t 9)] ⟨[], [1000000], [], [1000000], [1000000]⟩⟩] (some ⟨[], [], [1000000]⟩)))
theorem c_srt0 : compileCode Tryd.prog Tryd.f31.ntmps (Tryd.f31.body.getD .skip) A_srt0 = some (C_srt0, []) := by kernel_rfl
theorem r_srt0 : compileRes Tryd.prog Tryd.f31.results.toList = some [] := by kernel_rfl
theorem b_srt0 : Tryd.f31.body = some (Tryd.f31.body.getD .skip) := by kernel_rfl
theorem n_srt0 : (Tryd.f31.name == "runtime.NumGoroutine") = false := by kernel_rfl
theorem fcm_srt0 {H : Hp} {K : Keep} {args : List Val} {R : Hp → Val → Prop} (hn : args.length ≤ Tryd.f31.ntmps) (hkb : ∀ p ∈ H.bs, p.1 = 0 ∨ XK ≤ p.1) (hkr : ∀ p ∈ H.rs, XK ≤ p.1) (h : ex Tryd.prog C_srt0 [] (mpost H K [] R) (initM H args)) : FCM Tryd.prog 31 H args R :=
  fcm_of_awp Tryd.func31 b_srt0 n_srt0 c_srt0 r_srt0 (of_decide_eq_true (by kernel_rfl)) hn hkb hkr h
theorem fcms_srt0 {S : List Nat} {H : Hp} {K : Keep} {args : List Val} {R : Hp → Val → Prop} (hn : args.length ≤ Tryd.f31.ntmps) (hkb : ∀ p ∈ H.bs, p.1 = 0 ∨ XK ≤ p.1) (hkr : ∀ p ∈ H.rs, XK ≤ p.1) (h : ex Tryd.prog C_srt0 [] (mpostS S H K [] R) (initM H args))   : FCMS Tryd.prog 31 S H args R :=
  fcms_of_awp Tryd.func31 b_srt0 n_srt0 c_srt0 r_srt0 (of_decide_eq_true (by kernel_rfl)) hn hkb hkr h

def A_cpt0 : List Ann := [⟨(some ⟨[0], [], [1000000]⟩), [], [], [], []⟩, ⟨(some ⟨[0,8], [], [1000000]⟩), [], [], [], []⟩, ⟨(some ⟨[2], [], [1000000]⟩), [], [], [], []⟩, ⟨(some ⟨[0,3], [], [1000000]⟩), [], [], [], []⟩, ⟨(some ⟨[0,3,13], [], [1000000]⟩), [], [], [], []⟩, ⟨(some ⟨[0,3,25], [], [1000000]⟩), [], [], [], []⟩, ⟨(some ⟨[0,3,4], [], [1000000]⟩), [], [], [], []⟩, ⟨(some ⟨[0,3,4,5], [], [1000000]⟩), [], [], [], []⟩, ⟨(some ⟨[0,3,4,5,32], [], [1000000]⟩), [], [], [], []⟩, ⟨(some ⟨[0,3,4,5,44], [], [1000000]⟩), [], [], [], []⟩, ⟨(some ⟨[0,3,4,5], [], [1000000]⟩), [], [], [], []⟩, ⟨(some ⟨[0,3,4,5], [], [1000000]⟩), [], [], [], []⟩, ⟨(some ⟨[0,3,4,5], [], [1000000]⟩), [], [], [], []⟩, ⟨(some ⟨[0,3], [], [1000000]⟩), [], [], [], []⟩, ⟨(some ⟨[2], [], [1000000]⟩), [], [], [], []⟩, ⟨(some ⟨[0,3], [], [1000000]⟩), [], [], [], []⟩, ⟨(some ⟨[2], [], [1000000]⟩), [], [], [], []⟩]
def C_cpt0 : AC := (.seq (.reg false [⟨(some 2), none, .mv (.v (.slice none 0 0))⟩] (some ⟨[0], [], [1000000]⟩))
  (.seq (.seq (.reg false [⟨(some 6), none, .mv (.t 0)⟩, ⟨(some 7), none, .len (.t 6)⟩, ⟨(some 8), none, .bin .lss (.t 7) (.v (.int .i64 (2)))⟩] (some ⟨[0,8], [], [1000000]⟩))
  (.cond (.t 8)
  (.seq (.reg false [⟨(some 9), none, .mv (.t 0)⟩, ⟨(some 2), none, .mv (.t 9)⟩] (some ⟨[2], [], [1000000]⟩))
  .ret)
  .skip))
  (.seq (.seq (.reg false [⟨(some 3), none, .mv (.v (.int .i64 (1)))⟩] (some ⟨[0,3], [], [1000000]⟩))
  (.block 0 (.loop (.seq (.seq (.reg false [⟨(some 10), none, .mv (.t 3)⟩, ⟨(some 11), none, .mv (.t 0)⟩, ⟨(some 12), none, .len (.t 11)⟩, ⟨(some 13), none, .bin .lss (.t 10) (.t 12)⟩] (some ⟨[0,3,13], [], [1000000]⟩))
  (.cond (.t 13)
  .skip
  (.exit 0)))
  (.seq (.block 1 (.seq (.reg true [⟨(some 16), none, .mv (.t 0)⟩, ⟨(some 17), none, .mv (.t 3)⟩, ⟨(some 18), none, .iadr 1 (.t 16) (.t 17)⟩, ⟨(some 19), none, .load false 1 (.t 18)⟩, ⟨(some 20), none, .mv (.t 0)⟩, ⟨(some 21), none, .mv (.t 3)⟩, ⟨(some 22), none, .bin .sub (.t 21) (.v (.int .i64 (1)))⟩, ⟨(some 23), none, .iadr 1 (.t 20) (.t 22)⟩, ⟨(some 24), none, .load false 1 (.t 23)⟩, ⟨(some 25), none, .bin .eql (.t 19) (.t 24)⟩] (some ⟨[0,3,25], [], [1000000]⟩))
  (.cond (.t 25)
  (.seq (.reg false [⟨(some 26), none, .mv (.t 0)⟩, ⟨(some 27), none, .mv (.t 3)⟩, ⟨(some 28), none, .slc 1 (.t 26) (some (.t 27)) none⟩, ⟨(some 4), none, .mv (.t 28)⟩] (some ⟨[0,3,4], [], [1000000]⟩))
  (.seq (.seq (.reg false [⟨(some 5), none, .mv (.v (.int .i64 (1)))⟩] (some ⟨[0,3,4,5], [], [1000000]⟩))
  (.block 2 (.loop (.seq (.seq (.reg false [⟨(some 29), none, .mv (.t 5)⟩, ⟨(some 30), none, .mv (.t 4)⟩, ⟨(some 31), none, .len (.t 30)⟩, ⟨(some 32), none, .bin .lss (.t 29) (.t 31)⟩] (some ⟨[0,3,4,5,32], [], [1000000]⟩))
  (.cond (.t 32)
  .skip
  (.exit 2)))
  (.seq (.block 3 (.seq (.reg true [⟨(some 35), none, .mv (.t 4)⟩, ⟨(some 36), none, .mv (.t 5)⟩, ⟨(some 37), none, .iadr 1 (.t 35) (.t 36)⟩, ⟨(some 38), none, .load false 1 (.t 37)⟩, ⟨(some 39), none, .mv (.t 4)⟩, ⟨(some 40), none, .mv (.t 5)⟩, ⟨(some 41), none, .bin .sub (.t 40) (.v (.int .i64 (1)))⟩, ⟨(some 42), none, .iadr 1 (.t 39) (.t 41)⟩, ⟨(some 43), none, .load false 1 (.t 42)⟩, ⟨(some 44), none, .bin .neq (.t 38) (.t 43)⟩] (some ⟨[0,3,4,5,44], [], [1000000]⟩))
  (.cond (.t 44)
  (.seq (.reg false [⟨(some 45), none, .mv (.t 0)⟩, ⟨(some 46), none, .mv (.t 3)⟩, ⟨(some 47), none, .mv (.t 4)⟩, ⟨(some 48), none, .mv (.t 5)⟩, ⟨(some 49), none, .iadr 1 (.t 47) (.t 48)⟩, ⟨(some 50), none, .load false 1 (.t 49)⟩, ⟨(some 51), none, .iadr 1 (.t 45) (.t 46)⟩, ⟨none, none, .store 1 (.t 51) (.t 50)⟩] (some ⟨[0,3,4,5], [], [1000000]⟩))
  (.reg false [⟨(some 52), none, .mv (.t 3)⟩, ⟨(some 53), none, .bin .add (.t 52) (.v (.int .i64 (1)))⟩, ⟨(some 3), none, .mv (.t 53)⟩] (some ⟨[0,3,4,5], [], [1000000]⟩)))
  .skip)))
  (.reg false [⟨(some 33), none, .mv (.t 5)⟩, ⟨(some 34), none, .bin .add (.t 33) (.v (.int .i64 (1)))⟩, ⟨(some 5), none, .mv (.t 34)⟩] (some ⟨[0,3,4,5], [], [1000000]⟩)))))))
  (.seq (.reg false [⟨(some 54), none, .mv (.t 0)⟩, ⟨(some 55), none, .mv (.t 3)⟩, ⟨(some 56), none, .slc 1 (.t 54) (some (.t 55)) none⟩, ⟨none, none, .clr 3 1 [(.int .i64 (0))] (.t 56)⟩] (some ⟨[0,3], [], [1000000]⟩))
  (.seq (.reg false [⟨(some 57), none, .mv (.t 0)⟩, ⟨(some 58), none, .mv (.t 3)⟩, ⟨(some 59), none, .slc 1 (.t 57) none (some (.t 58))⟩, ⟨(some 2), none, .mv (.t 59)⟩] (some ⟨[2], [], [1000000]⟩))
  .ret))))
  .skip)))
  (.reg false [⟨(some 14), none, .mv (.t 3)⟩, ⟨(some 15), none, .bin .add (.t 14) (.v (.int .i64 (1)))⟩, ⟨(some 3), none, .mv (.t 15)⟩] (some ⟨[0,3], [], [1000000]⟩)))))))
  (.seq (.reg false [⟨(some 60), none, .mv (.t 0)⟩, ⟨(some 2), none, .mv (.t 60)⟩] (some ⟨[2], [], [1000000]⟩))
  .ret))))
theorem c_cpt0 : compileCode Tryd.prog Tryd.f32.ntmps (Tryd.f32.body.getD .skip) A_cpt0 = some (C_cpt0, []) := by kernel_rfl
theorem r_cpt0 : compileRes Tryd.prog Tryd.f32.results.toList = some [.t 2] := by kernel_rfl
theorem b_cpt0 : Tryd.f32.body = some (Tryd.f32.body.getD .skip) := by kernel_rfl
theorem n_cpt0 : (Tryd.f32.name == "runtime.NumGoroutine") = false := by kernel_rfl
theorem fcm_cpt0 {H : Hp} {K : Keep} {args : List Val} {R : Hp → Val → Prop} (hn : args.length ≤ Tryd.f32.ntmps) (hkb : ∀ p ∈ H.bs, p.1 = 0 ∨ XK ≤ p.1) (hkr : ∀ p ∈ H.rs, XK ≤ p.1) (h : ex Tryd.prog C_cpt0 [] (mpost H K [.t 2] R) (initM H args)) : FCM Tryd.prog 32 H args R :=
  fcm_of_awp Tryd.func32 b_cpt0 n_cpt0 c_cpt0 r_cpt0 (of_decide_eq_true (by kernel_rfl)) hn hkb hkr h
theorem fcms_cpt0 {S : List Nat} {H : Hp} {K : Keep} {args : List Val} {R : Hp → Val → Prop} (hn : args.length ≤ Tryd.f32.ntmps) (hkb : ∀ p ∈ H.bs, p.1 = 0 ∨ XK ≤ p.1) (hkr : ∀ p ∈ H.rs, XK ≤ p.1) (h : ex Tryd.prog C_cpt0 [] (mpostS S H K [.t 2] R) (initM H args))   : FCMS Tryd.prog 32 S H args R :=
  fcms_of_awp Tryd.func32 b_cpt0 n_cpt0 c_cpt0 r_cpt0 (of_decide_eq_true (by kernel_rfl)) hn hkb hkr h

def A_bitsLen : List Ann := [⟨(some ⟨[0], [], []⟩), [], [], [], []⟩, ⟨(some ⟨[2], [], []⟩), [], [], [], []⟩, ⟨(some ⟨[2], [], []⟩), [], [], [], []⟩]
def C_bitsLen : AC := (.seq (.reg false [⟨(some 2), none, .mv (.v (.int .i64 (0)))⟩] (some ⟨[0], [], []⟩))
  (.seq (.cond (.v (.bool false))
  (.seq (.reg false [⟨(some 3), none, .mv (.t 0)⟩, ⟨(some 4), none, .conv .u32 (.t 3)⟩, ⟨(some 5), none, .call (.f 60) [(.t 4)]⟩, ⟨(some 2), none, .mv (.t 5)⟩] (some ⟨[2], [], []⟩))
  .ret)
  .skip)
  (.seq (.reg false [⟨(some 6), none, .mv (.t 0)⟩, ⟨(some 7), none, .call (.f 61) [(.t 6)]⟩, ⟨(some 2), none, .mv (.t 7)⟩] (some ⟨[2], [], []⟩))
  .ret)))
theorem c_bitsLen : compileCode Tryd.prog Tryd.f47.ntmps (Tryd.f47.body.getD .skip) A_bitsLen = some (C_bitsLen, []) := by kernel_rfl
theorem r_bitsLen : compileRes Tryd.prog Tryd.f47.results.toList = some [.t 2] := by kernel_rfl
theorem b_bitsLen : Tryd.f47.body = some (Tryd.f47.body.getD .skip) := by kernel_rfl
theorem n_bitsLen : (Tryd.f47.name == "runtime.NumGoroutine") = false := by kernel_rfl
theorem fc_bitsLen {xt : Option (List Cel)} {args : List Val} {R : List Cel → Val → Prop} (hn : (if xt.isSome then 1 else 0) + args.length ≤ Tryd.f47.ntmps) (h : ex Tryd.prog C_bitsLen [] (fpost xt [.t 2] R) (initSt xt args)) : FC Tryd.prog 47 xt args R :=
  fc_of_awp Tryd.func47 b_bitsLen n_bitsLen c_bitsLen r_bitsLen (of_decide_eq_true (by kernel_rfl)) hn h

def A_bitsLen64 : List Ann := [⟨(some ⟨[0,2], [], []⟩), [], [], [], []⟩, ⟨(some ⟨[0,2,4], [], []⟩), [], [], [], []⟩, ⟨(some ⟨[0], [], []⟩), [], [], [], []⟩, ⟨(some ⟨[0,2], [], []⟩), [], [], [], []⟩, ⟨(some ⟨[0,2,8], [], []⟩), [], [], [], []⟩, ⟨(some ⟨[0,2], [], []⟩), [], [], [], []⟩, ⟨(some ⟨[0,2], [], []⟩), [], [], [], []⟩, ⟨(some ⟨[0,2,14], [], []⟩), [], [], [], []⟩, ⟨(some ⟨[0,2], [], []⟩), [], [], [], []⟩, ⟨(some ⟨[0,2], [], []⟩), [], [], [], []⟩, ⟨(some ⟨[2], [], []⟩), [], [], [], []⟩]
def C_bitsLen64 : AC := (.seq (.reg false [⟨(some 2), none, .mv (.v (.int .i64 (0)))⟩] (some ⟨[0,2], [], []⟩))
  (.seq (.seq (.reg false [⟨(some 3), none, .mv (.t 0)⟩, ⟨(some 4), none, .bin .geq (.t 3) (.v (.int .u64 (4294967296)))⟩] (some ⟨[0,2,4], [], []⟩))
  (.cond (.t 4)
  (.seq (.reg false [⟨(some 5), none, .mv (.t 0)⟩, ⟨(some 6), none, .bin .shr (.t 5) (.v (.int .u64 (32)))⟩, ⟨(some 0), none, .mv (.t 6)⟩] (some ⟨[0], [], []⟩))
  (.reg false [⟨(some 2), none, .mv (.v (.int .i64 (32)))⟩] (some ⟨[0,2], [], []⟩)))
  .skip))
  (.seq (.seq (.reg false [⟨(some 7), none, .mv (.t 0)⟩, ⟨(some 8), none, .bin .geq (.t 7) (.v (.int .u64 (65536)))⟩] (some ⟨[0,2,8], [], []⟩))
  (.cond (.t 8)
  (.seq (.reg false [⟨(some 9), none, .mv (.t 0)⟩, ⟨(some 10), none, .bin .shr (.t 9) (.v (.int .u64 (16)))⟩, ⟨(some 0), none, .mv (.t 10)⟩] (some ⟨[0,2], [], []⟩))
  (.reg false [⟨(some 11), none, .mv (.t 2)⟩, ⟨(some 12), none, .bin .add (.t 11) (.v (.int .i64 (16)))⟩, ⟨(some 2), none, .mv (.t 12)⟩] (some ⟨[0,2], [], []⟩)))
  .skip))
  (.seq (.seq (.reg false [⟨(some 13), none, .mv (.t 0)⟩, ⟨(some 14), none, .bin .geq (.t 13) (.v (.int .u64 (256)))⟩] (some ⟨[0,2,14], [], []⟩))
  (.cond (.t 14)
  (.seq (.reg false [⟨(some 15), none, .mv (.t 0)⟩, ⟨(some 16), none, .bin .shr (.t 15) (.v (.int .u64 (8)))⟩, ⟨(some 0), none, .mv (.t 16)⟩] (some ⟨[0,2], [], []⟩))
  (.reg false [⟨(some 17), none, .mv (.t 2)⟩, ⟨(some 18), none, .bin .add (.t 17) (.v (.int .i64 (8)))⟩, ⟨(some 2), none, .mv (.t 18)⟩] (some ⟨[0,2], [], []⟩)))
  .skip))
  (.seq (.reg false [⟨(some 19), none, .mv (.t 2)⟩, ⟨(some 20), none, .mv (.t 0)⟩, ⟨(some 21), none, .conv .u8 (.t 20)⟩, ⟨(some 22), none, .idx (.v (.string (ByteArray.mk #[0, 1, 2, 2, 3, 3, 3, 3, 4, 4, 4, 4, 4, 4, 4, 4, 5, 5, 5, 5, 5, 5, 5, 5, 5, 5, 5, 5, 5, 5, 5, 5, 6, 6, 6, 6, 6, 6, 6, 6, 6, 6, 6, 6, 6, 6, 6, 6, 6, 6, 6, 6, 6, 6, 6, 6, 6, 6, 6, 6, 6, 6, 6, 6, 7, 7, 7, 7, 7, 7, 7, 7, 7, 7, 7, 7, 7, 7, 7, 7, 7, 7, 7, 7, 7, 7, 7, 7, 7, 7, 7, 7, 7, 7, 7, 7, 7, 7, 7, 7, 7, 7, 7, 7, 7, 7, 7, 7, 7, 7, 7, 7, 7, 7, 7, 7, 7, 7, 7, 7, 7, 7, 7, 7, 7, 7, 7, 7, 8, 8, 8, 8, 8, 8, 8, 8, 8, 8, 8, 8, 8, 8, 8, 8, 8, 8, 8, 8, 8, 8, 8, 8, 8, 8, 8, 8, 8, 8, 8, 8, 8, 8, 8, 8, 8, 8, 8, 8, 8, 8, 8, 8, 8, 8, 8, 8, 8, 8, 8, 8, 8, 8, 8, 8, 8, 8, 8, 8, 8, 8, 8, 8, 8, 8, 8, 8, 8, 8, 8, 8, 8, 8, 8, 8, 8, 8, 8, 8, 8, 8, 8, 8, 8, 8, 8, 8, 8, 8, 8, 8, 8, 8, 8, 8, 8, 8, 8, 8, 8, 8, 8, 8, 8, 8, 8, 8, 8, 8, 8, 8, 8, 8, 8, 8, 8, 8, 8, 8, 8, 8, 8, 8, 8, 8, 8, 8]))) (.t 21)⟩, ⟨(some 23), none, .conv .i64 (.t 22)⟩, ⟨(some 24), none, .bin .add (.t 19) (.t 23)⟩, ⟨(some 2), none, .mv (.t 24)⟩] (some ⟨[2], [], []⟩))
  .ret)))))
theorem c_bitsLen64 : compileCode Tryd.prog Tryd.f61.ntmps (Tryd.f61.body.getD .skip) A_bitsLen64 = some (C_bitsLen64, []) := by kernel_rfl
theorem r_bitsLen64 : compileRes Tryd.prog Tryd.f61.results.toList = some [.t 2] := by kernel_rfl
theorem b_bitsLen64 : Tryd.f61.body = some (Tryd.f61.body.getD .skip) := by kernel_rfl
theorem n_bitsLen64 : (Tryd.f61.name == "runtime.NumGoroutine") = false := by kernel_rfl
theorem fc_bitsLen64 {xt : Option (List Cel)} {args : List Val} {R : List Cel → Val → Prop} (hn : (if xt.isSome then 1 else 0) + args.length ≤ Tryd.f61.ntmps) (h : ex Tryd.prog C_bitsLen64 [] (fpost xt [.t 2] R) (initSt xt args)) : FC Tryd.prog 61 xt args R :=
  fc_of_awp Tryd.func61 b_bitsLen64 n_bitsLen64 c_bitsLen64 r_bitsLen64 (of_decide_eq_true (by kernel_rfl)) hn h


abbrev nRow0 : Row := ⟨0, 3, 1, []⟩
set_option maxRecDepth 8000 in
theorem bitsLen64_fc (n : Int) (h : 0 ≤ n ∧ n ≤ 12) : ∃ v : Int, FC Tryd.prog 61 none [.one (.g (.int .u64 n))] (fun _ r => r = iv v) := by
  obtain ⟨h1, h2⟩ := h
  refine Exists.imp (fun v => fc_bitsLen64 (by simp +arith)) ?_
  unfold C_bitsLen64
  generalize hb : ByteArray.mk _ = tab
  have hs : tab.size = 256 := by subst hb; rfl
  clear hb
  apply Exists.intro
  simp (maxSteps := 1000000) (disch := omega) only [go_sem, eq_self, decide_true, decide_false, not_true_eq_false, not_false_eq_true, reduceIte, reduceCtorEq, Nat.reduceEqDiff, Nat.reduceAdd, Nat.reduceSub, Nat.reduceLeDiff]
  rw [IntWalk.u8_in n ⟨h1, by omega⟩, hs]
  exact ⟨by omega, rfl⟩
theorem bitsLen_fc (n : Int) (h : 0 ≤ n ∧ n ≤ 12) : ∃ v : Int, FC Tryd.prog 47 none [.one (.g (.int .u64 n))] (fun _ r => r = iv v) := by
  obtain ⟨v, hv⟩ := bitsLen64_fc n h
  refine ⟨v, fc_bitsLen (by simp +arith) ?_⟩
  unfold C_bitsLen
  simp (maxSteps := 1000000) (disch := omega) only [go_sem, eq_self, decide_true, decide_false, not_true_eq_false, not_false_eq_true, reduceIte, reduceCtorEq, Nat.reduceEqDiff, Nat.reduceAdd, Nat.reduceSub, Nat.reduceLeDiff]
  refine CALL_det hv (.inl rfl) ?_
  simp (maxSteps := 1000000) (disch := omega) only [go_sem, eq_self, decide_true, decide_false, not_true_eq_false, not_false_eq_true, reduceIte, reduceCtorEq, Nat.reduceEqDiff, Nat.reduceAdd, Nat.reduceSub, Nat.reduceLeDiff]
theorem ins0_fcm : FCMS Tryd.prog 51 [1000000] ⟨[], [(1000000, nRow0)]⟩ [.one (.ow 1000000 0), iv 0, iv 0] (fun H r => H = ⟨[], [(1000000, nRow0)]⟩ ∧ r = .tu []) := by
  refine fcms_ins0 (K := ⟨[], [], [1000000]⟩) (by simp +arith) (by simp) (by simp [XK]) ?_
  unfold C_ins0
  simp (maxSteps := 1000000) (disch := omega) only [go_sem, eq_self, decide_true, decide_false, not_true_eq_false, not_false_eq_true, reduceIte, reduceCtorEq, Nat.reduceEqDiff, Nat.reduceAdd, Nat.reduceSub, Nat.reduceLeDiff]
  refine ex_rnd 2 ?_
  simp (maxSteps := 1000000) (disch := omega) only [go_sem, eq_self, decide_true, decide_false, not_true_eq_false, not_false_eq_true, reduceIte, reduceCtorEq, Nat.reduceEqDiff, Nat.reduceAdd, Nat.reduceSub, Nat.reduceLeDiff]
theorem pdq0_fcm (v : Int) : FCMS Tryd.prog 46 [1000000] ⟨[], [(1000000, nRow0)]⟩ [.one (.ow 1000000 0), iv 0, iv 0, iv v] (fun H r => H = ⟨[], [(1000000, nRow0)]⟩ ∧ r = .tu []) := by
  refine fcms_pdq0 (K := ⟨[], [], [1000000]⟩) (by simp +arith) (by simp) (by simp [XK]) ?_
  unfold C_pdq0
  simp (maxSteps := 1000000) (disch := omega) only [go_sem, eq_self, decide_true, decide_false, not_true_eq_false, not_false_eq_true, reduceIte, reduceCtorEq, Nat.reduceEqDiff, Nat.reduceAdd, Nat.reduceSub, Nat.reduceLeDiff]
  refine ex_rnd 2 ?_
  simp (maxSteps := 1000000) (disch := omega) only [go_sem, eq_self, decide_true, decide_false, not_true_eq_false, not_false_eq_true, reduceIte, reduceCtorEq, Nat.reduceEqDiff, Nat.reduceAdd, Nat.reduceSub, Nat.reduceLeDiff]
  refine ⟨rfl, CALLM_det ins0_fcm ⟨rfl, rfl⟩ ?_⟩
  simp (maxSteps := 1000000) (disch := omega) only [go_sem, eq_self, decide_true, decide_false, not_true_eq_false, not_false_eq_true, reduceIte, reduceCtorEq, Nat.reduceEqDiff, Nat.reduceAdd, Nat.reduceSub, Nat.reduceLeDiff]
theorem srt0_fcms : FCMS Tryd.prog 31 [1000000] ⟨[], [(1000000, nRow0)]⟩ [.one (.ow 1000000 0)] (fun H r => H = ⟨[], [(1000000, nRow0)]⟩ ∧ r = .tu []) := by
  refine fcms_srt0 (K := ⟨[], [], [1000000]⟩) (by simp +arith) (by simp) (by simp [XK]) ?_
  obtain ⟨v, hv⟩ := bitsLen_fc 0 (by omega)
  unfold C_srt0
  simp (maxSteps := 1000000) (disch := omega) only [go_sem, eq_self, decide_true, decide_false, not_true_eq_false, not_false_eq_true, reduceIte, reduceCtorEq, Nat.reduceEqDiff, Nat.reduceAdd, Nat.reduceSub, Nat.reduceLeDiff]
  refine CALL_det hv (.inl rfl) ?_
  simp (maxSteps := 1000000) (disch := omega) only [go_sem, eq_self, decide_true, decide_false, not_true_eq_false, not_false_eq_true, reduceIte, reduceCtorEq, Nat.reduceEqDiff, Nat.reduceAdd, Nat.reduceSub, Nat.reduceLeDiff]
  refine ⟨rfl, CALLM_det (pdq0_fcm v) ⟨rfl, rfl⟩ ?_⟩
  simp (maxSteps := 1000000) (disch := omega) only [go_sem, eq_self, decide_true, decide_false, not_true_eq_false, not_false_eq_true, reduceIte, reduceCtorEq, Nat.reduceEqDiff, Nat.reduceAdd, Nat.reduceSub, Nat.reduceLeDiff]
theorem cpt0_fcm : FCM Tryd.prog 32 ⟨[], [(1000000, nRow0)]⟩ [.one (.ow 1000000 0)] (fun H r => H = ⟨[], [(1000000, nRow0)]⟩ ∧ r = .one (.ow 1000000 0)) := by
  refine fcm_cpt0 (K := ⟨[], [], [1000000]⟩) (by simp +arith) (by simp) (by simp [XK]) ?_
  unfold C_cpt0
  simp (maxSteps := 1000000) (disch := omega) only [go_sem, eq_self, decide_true, decide_false, not_true_eq_false, not_false_eq_true, reduceIte, reduceCtorEq, Nat.reduceEqDiff, Nat.reduceAdd, Nat.reduceSub, Nat.reduceLeDiff]
end Go.Proofs.YtggbcgldnjmobaaDoor

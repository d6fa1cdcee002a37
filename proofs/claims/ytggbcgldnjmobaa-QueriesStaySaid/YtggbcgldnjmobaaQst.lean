
/-
  QueriesStay's function: what the queries hand back is new memory.
-/
import Derived.Test.YtggbcgldnjmobaaQsm
import Derived.Test.YtggbcgldnjmobaaGdu
import Derived.Test.YtggbcgldnjmobaaRdy
namespace Go.Proofs.Ytggbcgldnjmobaa
open Go Go.Ai
set_option linter.unusedSimpArgs false
set_option linter.unusedVariables false
set_option maxHeartbeats 4000000
def A_eqSmp : List Ann := [⟨(some ⟨[0,1], [], []⟩), [], [], [], []⟩, ⟨(some ⟨[0,1,10], [], []⟩), [], [], [], []⟩, ⟨(some ⟨[4], [], []⟩), [], [], [], []⟩, ⟨(some ⟨[0,1,12,13], [], []⟩), [], [], [], []⟩, ⟨(some ⟨[0,1,12,13,14], [], []⟩), [], [], [], []⟩, ⟨(some ⟨[0,1,5,12,13], [], []⟩), [], [], [], []⟩, ⟨(some ⟨[0,1,12,13,24], [], []⟩), [], [], [], []⟩, ⟨(some ⟨[4], [], []⟩), [], [], [], []⟩, ⟨(some ⟨[0,1,12,13], [], []⟩), [], [], [], []⟩, ⟨(some ⟨[4], [], []⟩), [], [], [], []⟩]
def C_eqSmp : AC := (.seq (.reg false [⟨(some 4), none, .mv (.v (.bool false))⟩] (some ⟨[0,1], [], []⟩))
  (.seq (.seq (.reg false [⟨(some 6), none, .mv (.t 0)⟩, ⟨(some 7), none, .len (.t 6)⟩, ⟨(some 8), none, .mv (.t 1)⟩, ⟨(some 9), none, .len (.t 8)⟩, ⟨(some 10), none, .bin .neq (.t 7) (.t 9)⟩] (some ⟨[0,1,10], [], []⟩))
  (.cond (.t 10)
  (.seq (.reg false [⟨(some 4), none, .mv (.v (.bool false))⟩] (some ⟨[4], [], []⟩))
  .ret)
  .skip))
  (.seq (.seq (.reg false [⟨(some 11), none, .mv (.t 0)⟩, ⟨(some 12), none, .len (.t 11)⟩, ⟨(some 13), none, .mv (.v (.int .i64 (0)))⟩] (some ⟨[0,1,12,13], [], []⟩))
  (.block 0 (.loop (.seq (.reg false [⟨(some 14), none, .bin .lss (.t 13) (.t 12)⟩] (some ⟨[0,1,12,13,14], [], []⟩))
  (.seq (.cond (.t 14)
  .skip
  (.exit 0))
  (.seq (.block 1 (.seq (.reg false [⟨(some 15), none, .mv (.t 13)⟩, ⟨(some 5), none, .mv (.t 15)⟩] (some ⟨[0,1,5,12,13], [], []⟩))
  (.seq (.reg true [⟨(some 16), none, .mv (.t 0)⟩, ⟨(some 17), none, .mv (.t 5)⟩, ⟨(some 18), none, .iadr 3 (.t 16) (.t 17)⟩, ⟨(some 19), none, .load true 3 (.t 18)⟩, ⟨(some 20), none, .mv (.t 1)⟩, ⟨(some 21), none, .mv (.t 5)⟩, ⟨(some 22), none, .iadr 3 (.t 20) (.t 21)⟩, ⟨(some 23), none, .load true 3 (.t 22)⟩, ⟨(some 24), none, .eqs true true [.i .i64, .i .i64, .i .i64] (.t 19) (.t 23)⟩] (some ⟨[0,1,12,13,24], [], []⟩))
  (.cond (.t 24)
  (.seq (.reg false [⟨(some 4), none, .mv (.v (.bool false))⟩] (some ⟨[4], [], []⟩))
  .ret)
  .skip))))
  (.reg false [⟨(some 25), none, .bin .add (.t 13) (.v (.int .i64 (1)))⟩, ⟨(some 13), none, .mv (.t 25)⟩] (some ⟨[0,1,12,13], [], []⟩))))))))
  (.seq (.reg false [⟨(some 4), none, .mv (.v (.bool true))⟩] (some ⟨[4], [], []⟩))
  .ret))))
theorem c_eqSmp : compileCode Try.prog Try.f23.ntmps (Try.f23.body.getD .skip) A_eqSmp = some (C_eqSmp, []) := by kernel_rfl
theorem r_eqSmp : compileRes Try.prog Try.f23.results.toList = some [.t 4] := by kernel_rfl
theorem b_eqSmp : Try.f23.body = some (Try.f23.body.getD .skip) := by kernel_rfl
theorem n_eqSmp : (Try.f23.name == "runtime.NumGoroutine") = false := by kernel_rfl
theorem fc_eqSmp {xt : Option (List Cel)} {args : List Val} {R : List Cel → Val → Prop} (hn : (if xt.isSome then 1 else 0) + args.length ≤ Try.f23.ntmps) (h : ex Try.prog C_eqSmp [] (fpost xt [.t 4] R) (initSt xt args)) : FC Try.prog 23 xt args R :=
  fc_of_awp Try.func23 b_eqSmp n_eqSmp c_eqSmp r_eqSmp (of_decide_eq_true (by kernel_rfl)) hn h

def A_qs : List Ann := [⟨(some ⟨[0], [], []⟩), [], [], [], []⟩, ⟨(some ⟨[3,4,20,23], [20,23], []⟩), [], [], [], []⟩, ⟨(some ⟨[5,6], [], []⟩), [], [], [], []⟩, ⟨(some ⟨[5,6,7], [7], []⟩), [], [], [], []⟩, ⟨(some ⟨[5,6,7,8,9], [7], [500]⟩), [], [], [], [(32, ⟨[], [], [], [500], []⟩)]⟩, ⟨(some ⟨[5,6,7,8,9,10,11], [7], [500,501]⟩), [], [], [], [(38, ⟨[], [], [], [501], []⟩)]⟩, ⟨(some ⟨[5,6,8,9,10,11,12,14], [], [500,501,502]⟩), [], [], [], [(44, ⟨[], [], [], [502], []⟩)]⟩, ⟨(some ⟨[5,6,8,10,12,57], [], [500,501,502]⟩), [], [], [], []⟩, ⟨(some ⟨[2], [], []⟩), [], [], [], []⟩, ⟨(some ⟨[5,6,8,10,12,59,60], [], [500,501,502]⟩), [], [], [], []⟩, ⟨(some ⟨[5,6,8,10,12,59,60,61], [], [500,501,502]⟩), [], [], [], []⟩, ⟨(some ⟨[5,6,8,10,12,15,59,60], [], [500,501,502]⟩), [], [], [], []⟩, ⟨(some ⟨[5,6,8,10,12,59,60], [], [500,501,502]⟩), [], [], [], []⟩, ⟨(some ⟨[5,6,8,10,12,59,60], [], [500,501,502]⟩), [], [], [], []⟩, ⟨(some ⟨[5,6,10,12,69,70], [], [501,502]⟩), [], [], [], []⟩, ⟨(some ⟨[5,6,10,12,69,70,71], [], [501,502]⟩), [], [], [], []⟩, ⟨(some ⟨[5,6,10,12,16,69,70], [], [501,502]⟩), [], [], [], []⟩, ⟨(some ⟨[5,6,10,12,69,70], [], [501,502]⟩), [], [], [], []⟩, ⟨(some ⟨[5,6,10,12,69,70], [], [501,502]⟩), [], [], [], []⟩, ⟨(some ⟨[5,6,12,79,80], [], [502]⟩), [], [], [], []⟩, ⟨(some ⟨[5,6,12,79,80,81], [], [502]⟩), [], [], [], []⟩, ⟨(some ⟨[5,6,12,17,79,80], [], [502]⟩), [], [], [], []⟩, ⟨(some ⟨[5,6,12,79,80], [], [502]⟩), [], [], [], []⟩, ⟨(some ⟨[5,6,12,79,80], [], [502]⟩), [], [], [], []⟩, ⟨(some ⟨[2], [], []⟩), [], [], [], []⟩]
def C_qs : AC := (.seq (.reg false [⟨(some 2), none, .mv (.v (.bool false))⟩] (some ⟨[0], [], []⟩))
  (.seq (.reg false [⟨(some 18), none, .mv (.t 0)⟩, ⟨(some 19), none, .build [(.slice none 0 0), (.int .i64 (0))] [(0, 1, (.t 18))]⟩, ⟨(some 20), none, .box (.t 19)⟩, ⟨(some 21), none, .mv (.t 0)⟩, ⟨(some 22), none, .build [(.slice none 0 0), (.int .i64 (0))] [(0, 1, (.t 21))]⟩, ⟨(some 23), none, .box (.t 22)⟩, ⟨(some 3), none, .mv (.t 20)⟩, ⟨(some 4), none, .mv (.t 23)⟩] (some ⟨[3,4,20,23], [20,23], []⟩))
  (.seq (.reg false [⟨(some 24), none, .mv (.t 3)⟩, ⟨(some 25), none, .callx (.f 38) [(.t 24), (.v (.int .i64 (10)))]⟩, ⟨(some 26), none, .mv (.t 4)⟩, ⟨(some 27), none, .callx (.f 38) [(.t 26), (.v (.int .i64 (10)))]⟩, ⟨(some 5), none, .mv (.t 25)⟩, ⟨(some 6), none, .mv (.t 27)⟩] (some ⟨[5,6], [], []⟩))
  (.seq (.reg false [⟨(some 28), none, .build [(.int .i64 (0)), (.int .i64 (0))] [(1, 1, (.v (.int .i64 (60))))]⟩, ⟨(some 7), none, .alloc [(.int .i64 (0)), (.int .i64 (0))]⟩, ⟨none, none, .store 2 (.t 7) (.t 28)⟩] (some ⟨[5,6,7], [7], []⟩))
  (.seq (.reg false [⟨(some 30), none, .mv (.t 5)⟩, ⟨(some 31), none, .load true 2 (.t 7)⟩, ⟨(some 32), none, .callm (.f 53) [(.t 30), (.v (.bool false)), (.t 31), (.v (.int .i64 (5)))] ⟨[], [], [], [500], []⟩⟩, ⟨(some 29), none, .mv (.t 32)⟩, ⟨(some 33), none, .extr (.t 29) 0⟩, ⟨(some 34), none, .extr (.t 29) 1⟩, ⟨(some 8), none, .mv (.t 33)⟩, ⟨(some 9), none, .mv (.t 34)⟩] (some ⟨[5,6,7,8,9], [7], [500]⟩))
  (.seq (.reg false [⟨(some 36), none, .mv (.t 5)⟩, ⟨(some 37), none, .load true 2 (.t 7)⟩, ⟨(some 38), none, .callm (.f 54) [(.t 36), (.t 37), (.v (.int .i64 (7)))] ⟨[], [], [], [501], []⟩⟩, ⟨(some 35), none, .mv (.t 38)⟩, ⟨(some 39), none, .extr (.t 35) 0⟩, ⟨(some 40), none, .extr (.t 35) 1⟩, ⟨(some 10), none, .mv (.t 39)⟩, ⟨(some 11), none, .mv (.t 40)⟩] (some ⟨[5,6,7,8,9,10,11], [7], [500,501]⟩))
  (.seq (.reg false [⟨(some 42), none, .mv (.t 5)⟩, ⟨(some 43), none, .load true 2 (.t 7)⟩, ⟨(some 44), none, .callm (.f 55) [(.t 42), (.t 43), (.v (.int .i64 (1)))] ⟨[], [], [], [502], []⟩⟩, ⟨(some 41), none, .mv (.t 44)⟩, ⟨(some 45), none, .extr (.t 41) 0⟩, ⟨(some 46), none, .extr (.t 41) 1⟩, ⟨(some 47), none, .extr (.t 41) 2⟩, ⟨(some 12), none, .mv (.t 45)⟩, ⟨(some 13), none, .mv (.t 46)⟩, ⟨(some 14), none, .mv (.t 47)⟩] (some ⟨[5,6,8,9,10,11,12,14], [], [500,501,502]⟩))
  (.seq (.seq (.reg false [⟨(some 48), none, .mv (.t 9)⟩, ⟨(some 49), none, .bin .neq (.t 48) (.v (.int .i64 (0)))⟩, ⟨(some 50), none, .mv (.t 49)⟩, ⟨(some 51), (some (50, false)), .mv (.t 11)⟩, ⟨(some 52), (some (50, false)), .bin .neq (.t 51) (.v (.int .i64 (0)))⟩, ⟨(some 53), none, .pick (.t 50) (.v (.bool true)) (.t 52)⟩, ⟨(some 54), none, .mv (.t 53)⟩, ⟨(some 55), (some (54, false)), .mv (.t 14)⟩, ⟨(some 56), (some (54, false)), .bin .neq (.t 55) (.v (.int .i64 (0)))⟩, ⟨(some 57), none, .pick (.t 54) (.v (.bool true)) (.t 56)⟩] (some ⟨[5,6,8,10,12,57], [], [500,501,502]⟩))
  (.cond (.t 57)
  (.seq (.reg false [⟨(some 2), none, .mv (.v (.bool false))⟩] (some ⟨[2], [], []⟩))
  .ret)
  .skip))
  (.seq (.seq (.reg false [⟨(some 58), none, .mv (.t 8)⟩, ⟨(some 59), none, .len (.t 58)⟩, ⟨(some 60), none, .mv (.v (.int .i64 (0)))⟩] (some ⟨[5,6,8,10,12,59,60], [], [500,501,502]⟩))
  (.block 0 (.loop (.seq (.reg false [⟨(some 61), none, .bin .lss (.t 60) (.t 59)⟩] (some ⟨[5,6,8,10,12,59,60,61], [], [500,501,502]⟩))
  (.seq (.cond (.t 61)
  .skip
  (.exit 0))
  (.seq (.block 1 (.seq (.reg false [⟨(some 62), none, .mv (.t 60)⟩, ⟨(some 15), none, .mv (.t 62)⟩] (some ⟨[5,6,8,10,12,15,59,60], [], [500,501,502]⟩))
  (.reg false [⟨(some 63), none, .mv (.t 8)⟩, ⟨(some 64), none, .mv (.t 15)⟩, ⟨(some 65), none, .iadr 4 (.t 63) (.t 64)⟩, ⟨(some 66), none, .fadr 0 (.t 65)⟩, ⟨none, none, .store 1 (.t 66) (.v (.int .i64 (777)))⟩] (some ⟨[5,6,8,10,12,59,60], [], [500,501,502]⟩))))
  (.reg false [⟨(some 67), none, .bin .add (.t 60) (.v (.int .i64 (1)))⟩, ⟨(some 60), none, .mv (.t 67)⟩] (some ⟨[5,6,8,10,12,59,60], [], [500,501,502]⟩))))))))
  (.seq (.seq (.reg false [⟨(some 68), none, .mv (.t 10)⟩, ⟨(some 69), none, .len (.t 68)⟩, ⟨(some 70), none, .mv (.v (.int .i64 (0)))⟩] (some ⟨[5,6,10,12,69,70], [], [501,502]⟩))
  (.block 2 (.loop (.seq (.reg false [⟨(some 71), none, .bin .lss (.t 70) (.t 69)⟩] (some ⟨[5,6,10,12,69,70,71], [], [501,502]⟩))
  (.seq (.cond (.t 71)
  .skip
  (.exit 2))
  (.seq (.block 3 (.seq (.reg false [⟨(some 72), none, .mv (.t 70)⟩, ⟨(some 16), none, .mv (.t 72)⟩] (some ⟨[5,6,10,12,16,69,70], [], [501,502]⟩))
  (.reg false [⟨(some 73), none, .mv (.t 10)⟩, ⟨(some 74), none, .mv (.t 16)⟩, ⟨(some 75), none, .iadr 7 (.t 73) (.t 74)⟩, ⟨(some 76), none, .fadr 2 (.t 75)⟩, ⟨none, none, .store 1 (.t 76) (.v (.int .i64 (777)))⟩] (some ⟨[5,6,10,12,69,70], [], [501,502]⟩))))
  (.reg false [⟨(some 77), none, .bin .add (.t 70) (.v (.int .i64 (1)))⟩, ⟨(some 70), none, .mv (.t 77)⟩] (some ⟨[5,6,10,12,69,70], [], [501,502]⟩))))))))
  (.seq (.seq (.reg false [⟨(some 78), none, .mv (.t 12)⟩, ⟨(some 79), none, .len (.t 78)⟩, ⟨(some 80), none, .mv (.v (.int .i64 (0)))⟩] (some ⟨[5,6,12,79,80], [], [502]⟩))
  (.block 4 (.loop (.seq (.reg false [⟨(some 81), none, .bin .lss (.t 80) (.t 79)⟩] (some ⟨[5,6,12,79,80,81], [], [502]⟩))
  (.seq (.cond (.t 81)
  .skip
  (.exit 4))
  (.seq (.block 5 (.seq (.reg false [⟨(some 82), none, .mv (.t 80)⟩, ⟨(some 17), none, .mv (.t 82)⟩] (some ⟨[5,6,12,17,79,80], [], [502]⟩))
  (.reg false [⟨(some 83), none, .mv (.t 12)⟩, ⟨(some 84), none, .mv (.t 17)⟩, ⟨(some 85), none, .iadr 2 (.t 83) (.t 84)⟩, ⟨(some 86), none, .fadr 1 (.t 85)⟩, ⟨none, none, .store 1 (.t 86) (.v (.int .i64 (777)))⟩] (some ⟨[5,6,12,79,80], [], [502]⟩))))
  (.reg false [⟨(some 87), none, .bin .add (.t 80) (.v (.int .i64 (1)))⟩, ⟨(some 80), none, .mv (.t 87)⟩] (some ⟨[5,6,12,79,80], [], [502]⟩))))))))
  (.seq (.reg false [⟨(some 88), none, .mv (.t 5)⟩, ⟨(some 89), none, .mv (.t 6)⟩, ⟨(some 90), none, .call (.f 23) [(.t 88), (.t 89)]⟩, ⟨(some 91), none, .mv (.t 90)⟩, ⟨(some 92), (some (91, true)), .call (.f 42) []⟩, ⟨(some 93), none, .pick (.t 91) (.t 92) (.v (.bool false))⟩, ⟨(some 2), none, .mv (.t 93)⟩] (some ⟨[2], [], []⟩))
  .ret))))))))))))
theorem c_qs : compileCode Try.prog Try.f9.ntmps (Try.f9.body.getD .skip) A_qs = some (C_qs, []) := by kernel_rfl
theorem r_qs : compileRes Try.prog Try.f9.results.toList = some [.t 2] := by kernel_rfl
theorem b_qs : Try.f9.body = some (Try.f9.body.getD .skip) := by kernel_rfl
theorem n_qs : (Try.f9.name == "runtime.NumGoroutine") = false := by kernel_rfl
theorem fc_qs {xt : Option (List Cel)} {args : List Val} {R : List Cel → Val → Prop} (hn : (if xt.isSome then 1 else 0) + args.length ≤ Try.f9.ntmps) (h : ex Try.prog C_qs [] (fpost xt [.t 2] R) (initSt xt args)) : FC Try.prog 9 xt args R :=
  fc_of_awp Try.func9 b_qs n_qs c_qs r_qs (of_decide_eq_true (by kernel_rfl)) hn h
theorem fcm_qs {H : Hp} {K : Keep} {args : List Val} {R : Hp → Val → Prop} (hn : args.length ≤ Try.f9.ntmps) (hkb : ∀ p ∈ H.bs, p.1 = 0 ∨ XK ≤ p.1) (hkr : ∀ p ∈ H.rs, XK ≤ p.1) (h : ex Try.prog C_qs [] (mpost H K [.t 2] R) (initM H args)) : FCM Try.prog 9 H args R :=
  fcm_of_awp Try.func9 b_qs n_qs c_qs r_qs (of_decide_eq_true (by kernel_rfl)) hn hkb hkr h
theorem fcms_qs {S : List Nat} {H : Hp} {K : Keep} {args : List Val} {R : Hp → Val → Prop} (hn : args.length ≤ Try.f9.ntmps) (hkb : ∀ p ∈ H.bs, p.1 = 0 ∨ XK ≤ p.1) (hkr : ∀ p ∈ H.rs, XK ≤ p.1) (h : ex Try.prog C_qs [] (mpostS S H K [.t 2] R) (initM H args))   : FCMS Try.prog 9 S H args R :=
  fcms_of_awp Try.func9 b_qs n_qs c_qs r_qs (of_decide_eq_true (by kernel_rfl)) hn hkb hkr h


def eqSSt (fr fr' : Bool) (l : List Smp) (i : Int) : AS := ⟨tabV [(0, smps fr l), (1, smps fr' l), (12, iv l.length), (13, iv i)], tabO [], tabO []⟩
theorem eqSmp_fc (fr fr' : Bool) (l : List Smp) (hl : l.length ≤ 4611686018427387904) : FC Try.prog 23 none [smps fr l, smps fr' l] (fun _ r => r = bv true) := by
  refine fc_eqSmp (by simp +arith) ?_
  unfold C_eqSmp
  simp (maxSteps := 1000000) (disch := omega) only [go_sem, eq_self, decide_true, decide_false, not_true_eq_false, not_false_eq_true, reduceIte, reduceCtorEq, Nat.reduceEqDiff, Nat.reduceAdd, Nat.reduceSub, Nat.reduceLeDiff]
  refine ex_loop1 (eqSSt fr fr' l) (fun i => 0 ≤ i ∧ i ≤ l.length) (fun i => (l.length - i).toNat) 0 ⟨by omega, by omega⟩ rfl ?_
  rintro i ⟨g1, g2⟩
  unfold eqSSt
  by_cases hi : i < l.length
  · simp (maxSteps := 1000000) (disch := omega) only [go_sem, eq_self, decide_true, decide_false, not_true_eq_false, not_false_eq_true, reduceIte, reduceCtorEq, Nat.reduceEqDiff, Nat.reduceAdd, Nat.reduceSub, Nat.reduceLeDiff]
    exact ⟨_, rfl, ⟨by omega, by omega⟩, by omega⟩
  · simp (maxSteps := 1000000) (disch := omega) only [go_sem, eq_self, decide_true, decide_false, not_true_eq_false, not_false_eq_true, reduceIte, reduceCtorEq, Nat.reduceEqDiff, Nat.reduceAdd, Nat.reduceSub, Nat.reduceLeDiff]
section
variable {P : Program} {Q : AX → AS → Prop} {s : AS} {k : List KI} {kp : Option Keep} {l : List GI}
theorem CALLX_det {f : FuncId} {key : Nat} {cs0 cs : List Cel} {vargs : List Val} {d : Option Nat} {r : Val} (hf : FC P f (some cs0) vargs (fun cs' x => cs' = cs ∧ x = r)) (hr : dataRV r = true) (hc : cs.all dataRC = true)
    (h : rg P l kp k Q ({ s with bx := upd s.bx key (some cs) }.put d r)) : CALLX P f key cs0 vargs d l kp k Q s :=
  ⟨_, hf, ⟨cs, r, rfl, rfl⟩, fun _ _ hx => by obtain ⟨rfl, rfl⟩ := hx; exact ⟨hr, hc, h⟩⟩
end
theorem bksGo_len (l : List Smp) (ev to : Int) : ∀ (n : Nat) (a : Int), (bksGo l ev to n a).length ≤ n
  | 0, a => by simp [bksGo]
  | n + 1, a => by
    rw [bksGo]
    split
    · have := bksGo_len l ev to n (a + ev)
      rw [List.length_cons]; omega
    · simp
theorem abW_len (L f t : Int) (l : List Smp) : (abW L f t l).1.length ≤ l.length := by
  have h : ∀ (m : List Pc) (x : List (Int × Int) × Int), (m.foldl (abStep L) x).1.length ≤ x.1.length + m.length := by
    intro m
    induction m with
    | nil => intro x; simp
    | cons p r ih =>
      intro x
      rw [List.foldl_cons, List.length_cons]
      have h1 := ih (abStep L x p)
      have h2 : (abStep L x p).1.length ≤ x.1.length + 1 := by
        unfold abStep
        split
        · omega
        · simp only []
          split
          · rw [setTo_len]; omega
          · simp
      omega
  have h1 := h (vals f t l) ([], 0)
  have h2 := vals_len f t l
  unfold abW
  simp only [List.length_nil, Nat.zero_add] at h1
  omega
def qs1St (l : List Smp) (y : List Bk) (z : List (Int × Int)) (i : Int) (x : List Pt) : AS := ⟨tabV [(5, smps true l), (6, smps true l), (8, .one (.ow 500 0)), (10, .one (.ow 501 0)), (12, .one (.ow 502 0)), (59, iv x.length), (60, iv i)], tabO [], tabO [(500, ptRow x), (501, bkRow y), (502, winRow z)]⟩
def qs2St (l : List Smp) (z : List (Int × Int)) (i : Int) (y : List Bk) : AS := ⟨tabV [(5, smps true l), (6, smps true l), (10, .one (.ow 501 0)), (12, .one (.ow 502 0)), (69, iv y.length), (70, iv i)], tabO [], tabO [(501, bkRow y), (502, winRow z)]⟩
def qs3St (l : List Smp) (i : Int) (z : List (Int × Int)) : AS := ⟨tabV [(5, smps true l), (6, smps true l), (12, .one (.ow 502 0)), (79, iv z.length), (80, iv i)], tabO [], tabO [(502, winRow z)]⟩
theorem qs_fc (L : List Int) (hL : ∀ x ∈ L, I64 x) (hl : L.length ≤ 9223372036854775807) : FC Try.prog 9 none [ints false L] (fun _ r => r = bv true) := by
  obtain ⟨⟨pa, ra⟩, ⟨hpa, hpb, l, hs, hll, hra⟩, hf⟩ := rightCurve_det 10 (by omega) (by omega) L 0 hL hl (by omega) (by omega)
  simp only at hra hf
  subst hra
  have hbf : bothFault l 0 60 = 0 := by unfold bothFault; rw [if_neg (by omega)]; rfl
  have hg := good_of hs
  refine fc_qs (by simp +arith) ?_
  unfold C_qs
  simp (maxSteps := 1000000) (disch := omega) only [go_sem, eq_self, decide_true, decide_false, not_true_eq_false, not_false_eq_true, reduceIte, reduceCtorEq, Nat.reduceEqDiff, Nat.reduceAdd, Nat.reduceSub, Nat.reduceLeDiff]
  refine CALLX_det hf rfl rfl ?_
  unfold strm
  simp (maxSteps := 1000000) (disch := omega) only [go_sem, eq_self, decide_true, decide_false, not_true_eq_false, not_false_eq_true, reduceIte, reduceCtorEq, Nat.reduceEqDiff, Nat.reduceAdd, Nat.reduceSub, Nat.reduceLeDiff]
  refine CALLX_det hf rfl rfl ?_
  unfold strm
  simp (maxSteps := 1000000) (disch := omega) only [go_sem, eq_self, decide_true, decide_false, not_true_eq_false, not_false_eq_true, reduceIte, reduceCtorEq, Nat.reduceEqDiff, Nat.reduceAdd, Nat.reduceSub, Nat.reduceLeDiff]
  refine ⟨rfl, CALLM_rnE ⟨[], [(500, ptRow (pts l false 0 60 5))]⟩ (.tu [.one (.ow 500 0), iv 0]) (fun k => k) (swp 12 500) (fun _ => rfl) (swp_swp 12 500) (mpoints_fcm l (by omega) false 0 60 5 hbf rfl) (by simp) rfl rfl rfl rfl ⟨rfl, rfl⟩ ?_⟩
  have hxl : (pts l false 0 60 5).length ≤ 60 := ptsGo_len l false 5 60 60 0
  have hyl : (bks l 0 60 7).length ≤ 60 := bksGo_len l 7 60 60 0
  have hzl := abW_len 1 0 60 l
  generalize pts l false 0 60 5 = x at *
  simp (maxSteps := 1000000) (disch := omega) only [go_sem, eq_self, decide_true, decide_false, not_true_eq_false, not_false_eq_true, reduceIte, reduceCtorEq, Nat.reduceEqDiff, Nat.reduceAdd, Nat.reduceSub, Nat.reduceLeDiff]
  refine ⟨rfl, CALLM_rnE ⟨[], [(501, bkRow (bks l 0 60 7))]⟩ (.tu [.one (.ow 501 0), iv 0]) (fun k => k) (swp 10 501) (fun _ => rfl) (swp_swp 10 501) (mbuckets_fcm l (by omega) 0 60 7 hbf rfl) (by simp) rfl rfl rfl rfl ⟨rfl, rfl⟩ ?_⟩
  generalize bks l 0 60 7 = y at *
  simp (maxSteps := 1000000) (disch := omega) only [go_sem, eq_self, decide_true, decide_false, not_true_eq_false, not_false_eq_true, reduceIte, reduceCtorEq, Nat.reduceEqDiff, Nat.reduceAdd, Nat.reduceSub, Nat.reduceLeDiff]
  refine ⟨rfl, CALLM_rnE ⟨[], [(502, winRow (abW 1 0 60 l).1)]⟩ (.tu [.one (.ow 502 0), iv (abW 1 0 60 l).2, iv 0]) (fun k => k) (swp 10 502) (fun _ => rfl) (swp_swp 10 502) (mabove_fcm l (by omega) 0 60 1 hbf (by omega)) (by simp) rfl rfl rfl rfl ⟨rfl, rfl⟩ ?_⟩
  generalize abW 1 0 60 l = z at *
  obtain ⟨z, zn⟩ := z
  simp (maxSteps := 1000000) (disch := omega) only [go_sem, eq_self, decide_true, decide_false, not_true_eq_false, not_false_eq_true, reduceIte, reduceCtorEq, Nat.reduceEqDiff, Nat.reduceAdd, Nat.reduceSub, Nat.reduceLeDiff]
  simp only at hzl
  refine ex_loop2 (qs1St l y z) (fun i x => 0 ≤ i ∧ i ≤ x.length ∧ x.length ≤ 60) (fun i x => (x.length - i).toNat) 0 x ⟨by omega, by omega, hxl⟩ rfl ?_
  rintro i x ⟨g1, g2, g3⟩
  unfold qs1St
  by_cases hi : i < x.length
  · have ei := getE_map_in ptC x i.toNat (by omega)
    simp (maxSteps := 1000000) (disch := omega) only [go_sem, eq_self, decide_true, decide_false, not_true_eq_false, not_false_eq_true, reduceIte, reduceCtorEq, Nat.reduceEqDiff, Nat.reduceAdd, Nat.reduceSub, Nat.reduceLeDiff]
    exact ⟨i + 1, x.set i.toNat ⟨777, (x.getD i.toNat default).n, (x.getD i.toNat default).d, (x.getD i.toNat default).q⟩, by simp only [qs1St, ptRow, List.length_set, List.map_set, ptC], ⟨by omega, by simp; omega, by simp; omega⟩, by simp; omega⟩
  · simp (maxSteps := 1000000) (disch := omega) only [go_sem, eq_self, decide_true, decide_false, not_true_eq_false, not_false_eq_true, reduceIte, reduceCtorEq, Nat.reduceEqDiff, Nat.reduceAdd, Nat.reduceSub, Nat.reduceLeDiff]
    refine ex_loop2 (qs2St l z) (fun i y => 0 ≤ i ∧ i ≤ y.length ∧ y.length ≤ 60) (fun i y => (y.length - i).toNat) 0 y ⟨by omega, by omega, hyl⟩ rfl ?_
    clear hyl
    rintro i y ⟨g1, g2, g3⟩
    unfold qs2St
    by_cases hi : i < y.length
    · have ei := getE_map_in bkC y i.toNat (by omega)
      simp (maxSteps := 1000000) (disch := omega) only [go_sem, eq_self, decide_true, decide_false, not_true_eq_false, not_false_eq_true, reduceIte, reduceCtorEq, Nat.reduceEqDiff, Nat.reduceAdd, Nat.reduceSub, Nat.reduceLeDiff]
      exact ⟨i + 1, y.set i.toNat { (y.getD i.toNat default) with g := 777 }, by simp only [qs2St, bkRow, List.length_set, List.map_set, bkC], ⟨by omega, by simp; omega, by simp; omega⟩, by simp; omega⟩
    · simp (maxSteps := 1000000) (disch := omega) only [go_sem, eq_self, decide_true, decide_false, not_true_eq_false, not_false_eq_true, reduceIte, reduceCtorEq, Nat.reduceEqDiff, Nat.reduceAdd, Nat.reduceSub, Nat.reduceLeDiff]
      refine ex_loop2 (qs3St l) (fun i z => 0 ≤ i ∧ i ≤ z.length ∧ z.length ≤ 5000) (fun i z => (z.length - i).toNat) 0 z ⟨by omega, by omega, by have := hg.len; omega⟩ rfl ?_
      clear hzl
      rintro i z ⟨g1, g2, g3⟩
      unfold qs3St
      by_cases hi : i < z.length
      · have ei := getE_map_in frC z i.toNat (by omega)
        simp (maxSteps := 1000000) (disch := omega) only [go_sem, eq_self, decide_true, decide_false, not_true_eq_false, not_false_eq_true, reduceIte, reduceCtorEq, Nat.reduceEqDiff, Nat.reduceAdd, Nat.reduceSub, Nat.reduceLeDiff]
        exact ⟨i + 1, z.set i.toNat ((z.getD i.toNat default).1, 777), by simp only [qs3St, winRow, List.length_set, List.map_set, frC], ⟨by omega, by simp; omega, by simp; omega⟩, by simp; omega⟩
      · simp (maxSteps := 1000000) (disch := omega) only [go_sem, eq_self, decide_true, decide_false, not_true_eq_false, not_false_eq_true, reduceIte, reduceCtorEq, Nat.reduceEqDiff, Nat.reduceAdd, Nat.reduceSub, Nat.reduceLeDiff]
        refine CALL_det (eqSmp_fc false false l (by omega)) (.inl rfl) ?_
        simp (maxSteps := 1000000) (disch := omega) only [go_sem, eq_self, decide_true, decide_false, not_true_eq_false, not_false_eq_true, reduceIte, reduceCtorEq, Nat.reduceEqDiff, Nat.reduceAdd, Nat.reduceSub, Nat.reduceLeDiff]
        refine CALL_det ready_fc (.inl rfl) ?_
        simp (maxSteps := 1000000) (disch := omega) only [go_sem, eq_self, decide_true, decide_false, not_true_eq_false, not_false_eq_true, reduceIte, reduceCtorEq, Nat.reduceEqDiff, Nat.reduceAdd, Nat.reduceSub, Nat.reduceLeDiff]
end Go.Proofs.Ytggbcgldnjmobaa

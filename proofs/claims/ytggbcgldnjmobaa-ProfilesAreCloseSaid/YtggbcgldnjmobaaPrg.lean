
/-
  The closest frame, by both ways.
-/
import Derived.Test.YtggbcgldnjmobaaPrf
namespace Go.Proofs.Ytggbcgldnjmobaa
open Go Go.Ai
set_option linter.unusedSimpArgs false
set_option linter.unusedVariables false
set_option maxHeartbeats 4000000
def A_deviationP : List Ann := [⟨(some ⟨[0,1], [], []⟩), [], [], [], []⟩, ⟨(some ⟨[0,1,7], [], []⟩), [], [], [], []⟩, ⟨(some ⟨[0,1,7,17], [], []⟩), [], [], [], []⟩, ⟨(some ⟨[4,5,6], [], []⟩), [], [], [], []⟩, ⟨(some ⟨[0,1,23], [], []⟩), [], [], [], []⟩, ⟨(some ⟨[4,5,6], [], []⟩), [], [], [], []⟩, ⟨(some ⟨[8,9], [], []⟩), [], [], [], []⟩, ⟨(some ⟨[4,5,6], [], []⟩), [], [], [], []⟩]
def C_deviationP : AC := (.seq (.reg false [⟨(some 4), none, .mv (.v (.int .i64 (0)))⟩, ⟨(some 5), none, .mv (.v (.int .i64 (0)))⟩, ⟨(some 6), none, .mv (.v (.int .i64 (0)))⟩] (some ⟨[0,1], [], []⟩))
  (.seq (.seq (.reg false [⟨(some 10), none, .mv (.t 0)⟩, ⟨(some 11), none, .call (.f 101) [(.t 10)]⟩, ⟨(some 12), none, .mv (.t 1)⟩, ⟨(some 13), none, .call (.f 101) [(.t 12)]⟩, ⟨(some 14), none, .bslice 1 2 [(.t 11), (.t 13)]⟩, ⟨(some 15), none, .call (.f 84) [(.t 14)]⟩, ⟨(some 7), none, .mv (.t 15)⟩] (some ⟨[0,1,7], [], []⟩))
  (.seq (.reg false [⟨(some 16), none, .mv (.t 7)⟩, ⟨(some 17), none, .bin .neq (.t 16) (.v (.int .i64 (0)))⟩] (some ⟨[0,1,7,17], [], []⟩))
  (.cond (.t 17)
  (.seq (.reg false [⟨(some 18), none, .mv (.t 7)⟩, ⟨(some 4), none, .mv (.v (.int .i64 (0)))⟩, ⟨(some 5), none, .mv (.v (.int .i64 (0)))⟩, ⟨(some 6), none, .mv (.t 18)⟩] (some ⟨[4,5,6], [], []⟩))
  .ret)
  .skip)))
  (.seq (.seq (.reg false [⟨(some 19), none, .mv (.t 0)⟩, ⟨(some 20), none, .len (.t 19)⟩, ⟨(some 21), none, .mv (.t 1)⟩, ⟨(some 22), none, .len (.t 21)⟩, ⟨(some 23), none, .bin .neq (.t 20) (.t 22)⟩] (some ⟨[0,1,23], [], []⟩))
  (.cond (.t 23)
  (.seq (.reg false [⟨(some 4), none, .mv (.v (.int .i64 (0)))⟩, ⟨(some 5), none, .mv (.v (.int .i64 (0)))⟩, ⟨(some 6), none, .mv (.v (.int .i64 (3)))⟩] (some ⟨[4,5,6], [], []⟩))
  .ret)
  .skip))
  (.seq (.reg false [⟨(some 25), none, .mv (.t 0)⟩, ⟨(some 26), none, .mv (.t 1)⟩, ⟨(some 27), none, .call (.f 102) [(.t 25), (.t 26)]⟩, ⟨(some 24), none, .mv (.t 27)⟩, ⟨(some 28), none, .extr (.t 24) 0⟩, ⟨(some 29), none, .extr (.t 24) 1⟩, ⟨(some 8), none, .mv (.t 28)⟩, ⟨(some 9), none, .mv (.t 29)⟩] (some ⟨[8,9], [], []⟩))
  (.seq (.reg false [⟨(some 30), none, .mv (.t 8)⟩, ⟨(some 31), none, .mv (.t 9)⟩, ⟨(some 4), none, .mv (.t 30)⟩, ⟨(some 5), none, .mv (.t 31)⟩, ⟨(some 6), none, .mv (.v (.int .i64 (0)))⟩] (some ⟨[4,5,6], [], []⟩))
  .ret)))))
theorem c_deviationP : compileCode Try.prog Try.f46.ntmps (Try.f46.body.getD .skip) A_deviationP = some (C_deviationP, []) := by kernel_rfl
theorem r_deviationP : compileRes Try.prog Try.f46.results.toList = some [.t 4, .t 5, .t 6] := by kernel_rfl
theorem b_deviationP : Try.f46.body = some (Try.f46.body.getD .skip) := by kernel_rfl
theorem n_deviationP : (Try.f46.name == "runtime.NumGoroutine") = false := by kernel_rfl
theorem fc_deviationP {xt : Option (List Cel)} {args : List Val} {R : List Cel → Val → Prop} (hn : (if xt.isSome then 1 else 0) + args.length ≤ Try.f46.ntmps) (h : ex Try.prog C_deviationP [] (fpost xt [.t 4, .t 5, .t 6] R) (initSt xt args)) : FC Try.prog 46 xt args R :=
  fc_of_awp Try.func46 b_deviationP n_deviationP c_deviationP r_deviationP (of_decide_eq_true (by kernel_rfl)) hn h

def A_closest : List Ann := [⟨(some ⟨[0,1,2], [], []⟩), [], [], [], []⟩, ⟨(some ⟨[0,1,2,9], [], []⟩), [], [], [], []⟩, ⟨(some ⟨[0,1,2,9,27], [], []⟩), [], [], [], []⟩, ⟨(some ⟨[6,7,8], [], []⟩), [], [], [], []⟩, ⟨(some ⟨[0,1,2,10,11], [], []⟩), [], [], [], []⟩, ⟨(some ⟨[0,2,10,11,29,30,31], [], []⟩), [], [], [], []⟩, ⟨(some ⟨[0,2,10,11,29,30,31,32], [], []⟩), [], [], [], []⟩, ⟨(some ⟨[0,2,10,11,12,13,29,30,31], [13], []⟩), [], [], [], []⟩, ⟨(some ⟨[0,2,10,11,12,14,15,29,30,31], [], []⟩), [], [], [], []⟩, ⟨(some ⟨[0,2,10,11,12,14,29,30,31,46], [], []⟩), [], [], [], []⟩, ⟨(some ⟨[0,2,10,11,12,16,29,30,31], [], []⟩), [], [], [], []⟩, ⟨(some ⟨[0,2,10,11,12,16,29,30,31,59], [], []⟩), [], [], [], []⟩, ⟨(some ⟨[0,2,10,11,29,30,31], [], []⟩), [], [], [], []⟩, ⟨(some ⟨[0,2,10,11,29,30,31], [], []⟩), [], [], [], []⟩, ⟨(some ⟨[11,64], [], []⟩), [], [], [], []⟩, ⟨(some ⟨[6,7,8], [], []⟩), [], [], [], []⟩, ⟨(some ⟨[6,7,8], [], []⟩), [], [], [], []⟩]
def C_closest : AC := (.seq (.reg false [⟨(some 6), none, .mv (.v (.int .i64 (0)))⟩, ⟨(some 7), none, .mv (.v (.bool false))⟩, ⟨(some 8), none, .mv (.v (.int .i64 (0)))⟩] (some ⟨[0,1,2], [], []⟩))
  (.seq (.seq (.reg false [⟨(some 18), none, .mv (.t 0)⟩, ⟨(some 19), none, .call (.f 85) [(.t 18)]⟩, ⟨(some 20), none, .mv (.t 1)⟩, ⟨(some 21), none, .call (.f 100) [(.t 20)]⟩, ⟨(some 22), none, .mv (.t 2)⟩, ⟨(some 23), none, .call (.f 101) [(.t 22)]⟩, ⟨(some 24), none, .bslice 1 3 [(.t 19), (.t 21), (.t 23)]⟩, ⟨(some 25), none, .call (.f 84) [(.t 24)]⟩, ⟨(some 9), none, .mv (.t 25)⟩] (some ⟨[0,1,2,9], [], []⟩))
  (.seq (.reg false [⟨(some 26), none, .mv (.t 9)⟩, ⟨(some 27), none, .bin .neq (.t 26) (.v (.int .i64 (0)))⟩] (some ⟨[0,1,2,9,27], [], []⟩))
  (.cond (.t 27)
  (.seq (.reg false [⟨(some 28), none, .mv (.t 9)⟩, ⟨(some 6), none, .mv (.v (.int .i64 (0)))⟩, ⟨(some 7), none, .mv (.v (.bool false))⟩, ⟨(some 8), none, .mv (.t 28)⟩] (some ⟨[6,7,8], [], []⟩))
  .ret)
  .skip)))
  (.seq (.reg false [⟨(some 10), none, .mv (.v (.int .i64 (0)))⟩, ⟨(some 11), none, .mv (.v (.int .i64 (-1)))⟩] (some ⟨[0,1,2,10,11], [], []⟩))
  (.seq (.seq (.reg false [⟨(some 29), none, .mv (.t 1)⟩, ⟨(some 30), none, .len (.t 29)⟩, ⟨(some 31), none, .mv (.v (.int .i64 (0)))⟩] (some ⟨[0,2,10,11,29,30,31], [], []⟩))
  (.block 0 (.loop (.seq (.reg false [⟨(some 32), none, .bin .lss (.t 31) (.t 30)⟩] (some ⟨[0,2,10,11,29,30,31,32], [], []⟩))
  (.seq (.cond (.t 32)
  .skip
  (.exit 0))
  (.seq (.block 1 (.seq (.reg false [⟨(some 33), none, .mv (.t 31)⟩, ⟨(some 34), none, .iadr 2 (.t 29) (.t 31)⟩, ⟨(some 35), none, .load true 2 (.t 34)⟩, ⟨(some 13), none, .alloc [(.int .i64 (0)), (.int .i64 (0))]⟩, ⟨(some 12), none, .mv (.t 33)⟩, ⟨none, none, .store 2 (.t 13) (.t 35)⟩] (some ⟨[0,2,10,11,12,13,29,30,31], [13], []⟩))
  (.seq (.reg false [⟨(some 37), none, .mv (.t 0)⟩, ⟨(some 38), none, .load true 2 (.t 13)⟩, ⟨(some 39), none, .mv (.t 2)⟩, ⟨(some 40), none, .len (.t 39)⟩, ⟨(some 41), none, .bin .sub (.t 40) (.v (.int .i64 (1)))⟩, ⟨(some 42), none, .call (.f 98) [(.t 37), (.t 38), (.t 41)]⟩, ⟨(some 36), none, .mv (.t 42)⟩, ⟨(some 43), none, .extr (.t 36) 0⟩, ⟨(some 44), none, .extr (.t 36) 1⟩, ⟨(some 14), none, .mv (.t 43)⟩, ⟨(some 15), none, .mv (.t 44)⟩] (some ⟨[0,2,10,11,12,14,15,29,30,31], [], []⟩))
  (.seq (.seq (.reg false [⟨(some 45), none, .mv (.t 15)⟩, ⟨(some 46), none, .un .not (.t 45)⟩] (some ⟨[0,2,10,11,12,14,29,30,31,46], [], []⟩))
  (.cond (.t 46)
  (.exit 1)
  .skip))
  (.seq (.reg false [⟨(some 48), none, .mv (.t 14)⟩, ⟨(some 49), none, .mv (.t 2)⟩, ⟨(some 50), none, .call (.f 102) [(.t 48), (.t 49)]⟩, ⟨(some 47), none, .mv (.t 50)⟩, ⟨(some 51), none, .extr (.t 47) 0⟩, ⟨(some 52), none, .extr (.t 47) 1⟩, ⟨(some 16), none, .mv (.t 51)⟩, ⟨(some 17), none, .mv (.t 52)⟩] (some ⟨[0,2,10,11,12,16,29,30,31], [], []⟩))
  (.seq (.reg false [⟨(some 53), none, .mv (.t 11)⟩, ⟨(some 54), none, .bin .lss (.t 53) (.v (.int .i64 (0)))⟩, ⟨(some 55), none, .mv (.t 54)⟩, ⟨(some 56), (some (55, false)), .mv (.t 16)⟩, ⟨(some 57), (some (55, false)), .mv (.t 10)⟩, ⟨(some 58), (some (55, false)), .bin .lss (.t 56) (.t 57)⟩, ⟨(some 59), none, .pick (.t 55) (.v (.bool true)) (.t 58)⟩] (some ⟨[0,2,10,11,12,16,29,30,31,59], [], []⟩))
  (.cond (.t 59)
  (.reg false [⟨(some 60), none, .mv (.t 16)⟩, ⟨(some 61), none, .mv (.t 12)⟩, ⟨(some 10), none, .mv (.t 60)⟩, ⟨(some 11), none, .mv (.t 61)⟩] (some ⟨[0,2,10,11,29,30,31], [], []⟩))
  .skip)))))))
  (.reg false [⟨(some 62), none, .bin .add (.t 31) (.v (.int .i64 (1)))⟩, ⟨(some 31), none, .mv (.t 62)⟩] (some ⟨[0,2,10,11,29,30,31], [], []⟩))))))))
  (.seq (.seq (.reg false [⟨(some 63), none, .mv (.t 11)⟩, ⟨(some 64), none, .bin .lss (.t 63) (.v (.int .i64 (0)))⟩] (some ⟨[11,64], [], []⟩))
  (.cond (.t 64)
  (.seq (.reg false [⟨(some 6), none, .mv (.v (.int .i64 (0)))⟩, ⟨(some 7), none, .mv (.v (.bool false))⟩, ⟨(some 8), none, .mv (.v (.int .i64 (0)))⟩] (some ⟨[6,7,8], [], []⟩))
  .ret)
  .skip))
  (.seq (.reg false [⟨(some 65), none, .mv (.t 11)⟩, ⟨(some 6), none, .mv (.t 65)⟩, ⟨(some 7), none, .mv (.v (.bool true))⟩, ⟨(some 8), none, .mv (.v (.int .i64 (0)))⟩] (some ⟨[6,7,8], [], []⟩))
  .ret))))))
theorem c_closest : compileCode Try.prog Try.f45.ntmps (Try.f45.body.getD .skip) A_closest = some (C_closest, []) := by kernel_rfl
theorem r_closest : compileRes Try.prog Try.f45.results.toList = some [.t 6, .t 7, .t 8] := by kernel_rfl
theorem b_closest : Try.f45.body = some (Try.f45.body.getD .skip) := by kernel_rfl
theorem n_closest : (Try.f45.name == "runtime.NumGoroutine") = false := by kernel_rfl
theorem fc_closest {xt : Option (List Cel)} {args : List Val} {R : List Cel → Val → Prop} (hn : (if xt.isSome then 1 else 0) + args.length ≤ Try.f45.ntmps) (h : ex Try.prog C_closest [] (fpost xt [.t 6, .t 7, .t 8] R) (initSt xt args)) : FC Try.prog 45 xt args R :=
  fc_of_awp Try.func45 b_closest n_closest c_closest r_closest (of_decide_eq_true (by kernel_rfl)) hn h

def A_whenE : List Ann := [⟨(some ⟨[0,1], [], []⟩), [], [], [], []⟩, ⟨(some ⟨[1,5], [], []⟩), [], [], [], []⟩, ⟨(some ⟨[4], [], []⟩), [], [], [], []⟩, ⟨(some ⟨[4], [], []⟩), [], [], [], []⟩]
def C_whenE : AC := (.seq (.reg false [⟨(some 4), none, .mv (.v (.int .i64 (0)))⟩] (some ⟨[0,1], [], []⟩))
  (.seq (.seq (.reg false [⟨(some 5), none, .mv (.t 0)⟩] (some ⟨[1,5], [], []⟩))
  (.cond (.t 5)
  (.seq (.reg false [⟨(some 6), none, .mv (.t 1)⟩, ⟨(some 4), none, .mv (.t 6)⟩] (some ⟨[4], [], []⟩))
  .ret)
  .skip))
  (.seq (.reg false [⟨(some 4), none, .mv (.v (.int .i64 (0)))⟩] (some ⟨[4], [], []⟩))
  .ret)))
theorem c_whenE : compileCode Try.prog Try.f67.ntmps (Try.f67.body.getD .skip) A_whenE = some (C_whenE, []) := by kernel_rfl
theorem r_whenE : compileRes Try.prog Try.f67.results.toList = some [.t 4] := by kernel_rfl
theorem b_whenE : Try.f67.body = some (Try.f67.body.getD .skip) := by kernel_rfl
theorem n_whenE : (Try.f67.name == "runtime.NumGoroutine") = false := by kernel_rfl
theorem fc_whenE {xt : Option (List Cel)} {args : List Val} {R : List Cel → Val → Prop} (hn : (if xt.isSome then 1 else 0) + args.length ≤ Try.f67.ntmps) (h : ex Try.prog C_whenE [] (fpost xt [.t 4] R) (initSt xt args)) : FC Try.prog 67 xt args R :=
  fc_of_awp Try.func67 b_whenE n_whenE c_whenE r_whenE (of_decide_eq_true (by kernel_rfl)) hn h


theorem whenE_fc (b : Bool) (e : Int) : FC Try.prog 67 none [bv b, iv e] (fun _ r => r = iv (if b = true then e else 0)) := by
  refine fc_whenE (by simp +arith) ?_
  unfold C_whenE
  cases b with
  | true => simp (maxSteps := 1000000) (disch := omega) only [go_sem, eq_self, decide_true, decide_false, not_true_eq_false, not_false_eq_true, reduceIte, reduceCtorEq, Nat.reduceEqDiff, Nat.reduceAdd, Nat.reduceSub, Nat.reduceLeDiff]
  | false => simp (maxSteps := 1000000) (disch := omega) only [go_sem, eq_self, decide_true, decide_false, not_true_eq_false, not_false_eq_true, reduceIte, reduceCtorEq, Nat.reduceEqDiff, Nat.reduceAdd, Nat.reduceSub, Nat.reduceLeDiff]
theorem pf_okI {a : List Int} (h : pfF a = 0) : okI a := fun x hx => by
  have := (pfF_ok h).2.2 x hx; omega
def dpSp (a b : List Int) : Int × Int × Int := if orSp [pfF a, pfF b] ≠ 0 then (0, 0, orSp [pfF a, pfF b]) else if a.length ≠ b.length then (0, 0, 3) else ((devSp a b).1, (devSp a b).2, 0)
theorem deviationP_fc (a b : List Int) (ha : a.length ≤ 4611686018427387904) (hb : b.length ≤ 4611686018427387904) : FC Try.prog 46 none [ints false a, ints false b] (fun _ r => r = .tu [iv (dpSp a b).1, iv (dpSp a b).2.1, iv (dpSp a b).2.2]) := by
  refine fc_deviationP (by simp +arith) ?_
  unfold C_deviationP dpSp
  simp (maxSteps := 1000000) (disch := omega) only [go_sem, eq_self, decide_true, decide_false, not_true_eq_false, not_false_eq_true, reduceIte, reduceCtorEq, Nat.reduceEqDiff, Nat.reduceAdd, Nat.reduceSub, Nat.reduceLeDiff]
  refine CALL_det (profileFault_fc a ha) (.inl rfl) ?_
  simp (maxSteps := 1000000) (disch := omega) only [go_sem, eq_self, decide_true, decide_false, not_true_eq_false, not_false_eq_true, reduceIte, reduceCtorEq, Nat.reduceEqDiff, Nat.reduceAdd, Nat.reduceSub, Nat.reduceLeDiff]
  refine CALL_det (profileFault_fc b hb) (.inl rfl) ?_
  simp (maxSteps := 1000000) (disch := omega) only [go_sem, eq_self, decide_true, decide_false, not_true_eq_false, not_false_eq_true, reduceIte, reduceCtorEq, Nat.reduceEqDiff, Nat.reduceAdd, Nat.reduceSub, Nat.reduceLeDiff]
  refine CALL_det (first_fc false [pfF a, pfF b] (by simp)) (.inl rfl) ?_
  by_cases h1 : orSp [pfF a, pfF b] = 0
  · obtain ⟨h2, h3⟩ := or2_z' h1
    obtain ⟨k1, k2, _⟩ := pfF_ok h2
    rw [if_neg (show ¬(orSp [pfF a, pfF b] ≠ 0) by omega), h1]
    by_cases h4 : a.length = b.length
    · rw [if_neg (show ¬(a.length ≠ b.length) by omega)]
      simp (maxSteps := 1000000) (disch := omega) only [go_sem, eq_self, decide_true, decide_false, not_true_eq_false, not_false_eq_true, reduceIte, reduceCtorEq, Nat.reduceEqDiff, Nat.reduceAdd, Nat.reduceSub, Nat.reduceLeDiff]
      refine CALL_det (deviation_fc a b (by omega) (by omega) h4 (pf_okI h2) (pf_okI h3)) (.inl rfl) ?_
      simp (maxSteps := 1000000) (disch := omega) only [go_sem, eq_self, decide_true, decide_false, not_true_eq_false, not_false_eq_true, reduceIte, reduceCtorEq, Nat.reduceEqDiff, Nat.reduceAdd, Nat.reduceSub, Nat.reduceLeDiff]
    · rw [if_pos (show a.length ≠ b.length from h4)]
      simp (maxSteps := 1000000) (disch := omega) only [go_sem, eq_self, decide_true, decide_false, not_true_eq_false, not_false_eq_true, reduceIte, reduceCtorEq, Nat.reduceEqDiff, Nat.reduceAdd, Nat.reduceSub, Nat.reduceLeDiff]
  · rw [if_pos (show orSp [pfF a, pfF b] ≠ 0 by omega)]
    simp (maxSteps := 1000000) (disch := omega) only [go_sem, eq_self, decide_true, decide_false, not_true_eq_false, not_false_eq_true, reduceIte, reduceCtorEq, Nat.reduceEqDiff, Nat.reduceAdd, Nat.reduceSub, Nat.reduceLeDiff]
theorem pr_okI {l : List Smp} (hg : Good l) {f t n : Int} (hw : 0 ≤ f ∧ f < t ∧ t ≤ 345686400000) (hn : 1 ≤ n ∧ n ≤ 1000) : ∀ m : Nat, (m : Int) ≤ n + 1 → okI (prL l f t n m)
  | 0, _ => fun x hx => by cases hx
  | m + 1, hm => fun x hx => by
    rw [prL, List.mem_append] at hx
    rcases hx with hx | hx
    · exact pr_okI hg hw hn m (by omega) x hx
    · simp only [List.mem_singleton] at hx
      subst hx
      obtain ⟨_, _, m3, m4⟩ := prAt_bd hw hn (show 0 ≤ (m : Int) ∧ (m : Int) ≤ n by omega)
      exact thV_bd hg false (by omega)
def clStep (l : List Smp) (g : List Int) (x : Int × Int) (i : Int) (w : Int × Int) : Int × Int :=
  if (prSp l w.1 w.2 (g.length - 1)).2 = false then x else if x.2 < 0 ∨ (devSp (prSp l w.1 w.2 (g.length - 1)).1 g).1 < x.1 then ((devSp (prSp l w.1 w.2 (g.length - 1)).1 g).1, i) else x
def clGo (l : List Smp) (g : List Int) : Int → Int × Int → List (Int × Int) → Int × Int
  | _, x, [] => x
  | i, x, w :: r => clGo l g (i + 1) (clStep l g x i w) r
theorem pr_len {l : List Smp} {f t n : Int} (h : (prSp l f t n).2 = true) (hn : 0 ≤ n) : ((prSp l f t n).1.length : Int) = n + 1 ∧ (prSp l f t n).1 = prL l f t n (n + 1).toNat := by
  unfold prSp at h ⊢
  split at h
  · rename_i h1
    rw [if_pos h1]
    simp only [prL_len]
    exact ⟨by omega, trivial⟩
  · cases h
theorem dv_bd {a b : List Int} (h1 : 1 ≤ a.length) (hb : a.length = b.length) (ha : okI a) (hb2 : okI b) : 0 ≤ (devSp a b).1 ∧ (devSp a b).1 ≤ 4000000000000000 := by
  have h2 := bst_lt a b a.length (by omega)
  have k1 := okI_at ha (i := bst a b a.length) h2
  have k2 := okI_at hb2 (i := bst a b a.length) (by omega)
  unfold devSp dvA
  simp only
  omega
def clSp (l : List Smp) (fs : List (Int × Int)) (g : List Int) : Int × Bool × Int :=
  if orSp [serFault l, fwF fs, pfF g] ≠ 0 then (0, false, orSp [serFault l, fwF fs, pfF g]) else if (clGo l g 0 (0, -1) fs).2 < 0 then (0, false, 0) else ((clGo l g 0 (0, -1) fs).2, true, 0)
def clSt (l : List Smp) (g : List Int) (fs : List (Int × Int)) (i : Int) (x : Int × Int) : AS := ⟨tabV [(0, smps false l), (2, ints false g), (10, iv x.1), (11, iv x.2), (29, frsV false fs), (30, iv fs.length), (31, iv i)], tabO [], tabO []⟩
theorem or3_z {a b c : Int} (h : orSp [a, b, c] = 0) : a = 0 ∧ b = 0 ∧ c = 0 := by
  simp only [orSp] at h
  split at h
  · omega
  · split at h
    · omega
    · split at h
      · omega
      · exact ⟨by omega, by omega, by omega⟩
theorem closest_fc (l : List Smp) (hl : l.length ≤ 4611686018427387904) (fs : List (Int × Int)) (hf : fs.length ≤ 4611686018427387904) (g : List Int) (hgl : g.length ≤ 4611686018427387904) : FC Try.prog 45 none [smps false l, frsV false fs, ints false g] (fun _ r => r = .tu [iv (clSp l fs g).1, bv (clSp l fs g).2.1, iv (clSp l fs g).2.2]) := by
  refine fc_closest (by simp +arith) ?_
  unfold C_closest clSp
  simp (maxSteps := 1000000) (disch := omega) only [go_sem, eq_self, decide_true, decide_false, not_true_eq_false, not_false_eq_true, reduceIte, reduceCtorEq, Nat.reduceEqDiff, Nat.reduceAdd, Nat.reduceSub, Nat.reduceLeDiff]
  refine CALL_det (checkSeries_fc l hl) (.inl rfl) ?_
  simp (maxSteps := 1000000) (disch := omega) only [go_sem, eq_self, decide_true, decide_false, not_true_eq_false, not_false_eq_true, reduceIte, reduceCtorEq, Nat.reduceEqDiff, Nat.reduceAdd, Nat.reduceSub, Nat.reduceLeDiff]
  refine CALL_det (checkFrames_fc fs hf) (.inl rfl) ?_
  simp (maxSteps := 1000000) (disch := omega) only [go_sem, eq_self, decide_true, decide_false, not_true_eq_false, not_false_eq_true, reduceIte, reduceCtorEq, Nat.reduceEqDiff, Nat.reduceAdd, Nat.reduceSub, Nat.reduceLeDiff]
  refine CALL_det (profileFault_fc g hgl) (.inl rfl) ?_
  simp (maxSteps := 1000000) (disch := omega) only [go_sem, eq_self, decide_true, decide_false, not_true_eq_false, not_false_eq_true, reduceIte, reduceCtorEq, Nat.reduceEqDiff, Nat.reduceAdd, Nat.reduceSub, Nat.reduceLeDiff]
  refine CALL_det (first_fc false [serFault l, fwF fs, pfF g] (by simp)) (.inl rfl) ?_
  by_cases h1 : orSp [serFault l, fwF fs, pfF g] = 0
  · obtain ⟨h2, h3, h4⟩ := or3_z h1
    obtain ⟨k1, k2, _⟩ := pfF_ok h4
    obtain ⟨f1, f2⟩ := fwF_ok h3
    have hg := good_of h2
    have hlen := hg.len
    have hge := fun w hw => f2.ge w hw
    rw [if_neg (show ¬(orSp [serFault l, fwF fs, pfF g] ≠ 0) by omega), h1]
    simp (maxSteps := 1000000) (disch := omega) only [go_sem, eq_self, decide_true, decide_false, not_true_eq_false, not_false_eq_true, reduceIte, reduceCtorEq, Nat.reduceEqDiff, Nat.reduceAdd, Nat.reduceSub, Nat.reduceLeDiff]
    refine ex_loop2 (clSt l g fs) (fun i x => 0 ≤ i ∧ i ≤ fs.length ∧ clGo l g i x (fs.drop i.toNat) = clGo l g 0 (0, -1) fs ∧ -1 ≤ x.2 ∧ x.2 < i) (fun i _ => (fs.length - i).toNat) 0 (0, -1) ⟨by omega, by omega, rfl, by simp, by simp⟩ rfl ?_
    rintro i ⟨d, k⟩ ⟨g1, g2, g3, g4, g5⟩
    simp only at g4 g5
    unfold clSt
    by_cases hi : i < fs.length
    · have e2 : (i + 1).toNat = i.toNat + 1 := by omega
      have em := getD_map_at frC fs i [] g1 hi
      have hx := hge _ (getD_mem fs i.toNat (by omega))
      rw [drop_cons fs i.toNat (by omega), ← e2, clGo] at g3
      unfold clStep at g3
      have hp := profile_fc l hg (fs.getD i.toNat default).1 (fs.getD i.toNat default).2 (g.length - 1) hx (by omega)
      have hpl := pr_len (l := l) (f := (fs.getD i.toNat default).1) (t := (fs.getD i.toNat default).2) (n := g.length - 1)
      have hpi := pr_okI hg hx (n := g.length - 1) (by omega) ((g.length : Int) - 1 + 1).toNat (by omega)
      cases hb : (prSp l (fs.getD i.toNat default).1 (fs.getD i.toNat default).2 (g.length - 1)).2 with
      | false =>
        rw [if_pos hb] at g3
        rw [hb] at hp
        simp (maxSteps := 1000000) (disch := omega) only [go_sem, eq_self, decide_true, decide_false, not_true_eq_false, not_false_eq_true, reduceIte, reduceCtorEq, Nat.reduceEqDiff, Nat.reduceAdd, Nat.reduceSub, Nat.reduceLeDiff]
        refine CALL_det hp (.inl rfl) ?_
        simp (maxSteps := 1000000) (disch := omega) only [go_sem, eq_self, decide_true, decide_false, not_true_eq_false, not_false_eq_true, reduceIte, reduceCtorEq, Nat.reduceEqDiff, Nat.reduceAdd, Nat.reduceSub, Nat.reduceLeDiff]
        exact ⟨i + 1, _, rfl, ⟨by omega, by omega, g3, g4, by simp only; omega⟩, by omega⟩
      | true =>
        rw [if_neg (by rw [hb]; simp)] at g3
        obtain ⟨p1, p2⟩ := hpl hb (by omega)
        rw [← p2] at hpi
        rw [hb] at hp
        generalize (prSp l (fs.getD i.toNat default).1 (fs.getD i.toNat default).2 (g.length - 1)).1 = P at *
        simp (maxSteps := 1000000) (disch := omega) only [go_sem, eq_self, decide_true, decide_false, not_true_eq_false, not_false_eq_true, reduceIte, reduceCtorEq, Nat.reduceEqDiff, Nat.reduceAdd, Nat.reduceSub, Nat.reduceLeDiff]
        refine CALL_det hp (.inl rfl) ?_
        simp (maxSteps := 1000000) (disch := omega) only [go_sem, eq_self, decide_true, decide_false, not_true_eq_false, not_false_eq_true, reduceIte, reduceCtorEq, Nat.reduceEqDiff, Nat.reduceAdd, Nat.reduceSub, Nat.reduceLeDiff]
        refine CALL_det (deviation_fc P g (by omega) (by omega) (by omega) hpi (pf_okI h4)) (.inl rfl) ?_
        by_cases c1 : k < 0
        · rw [if_pos (.inl c1)] at g3
          simp (maxSteps := 1000000) (disch := omega) only [go_sem, eq_self, decide_true, decide_false, not_true_eq_false, not_false_eq_true, reduceIte, reduceCtorEq, Nat.reduceEqDiff, Nat.reduceAdd, Nat.reduceSub, Nat.reduceLeDiff]
          exact ⟨i + 1, ((devSp P g).1, i), rfl, ⟨by omega, by omega, g3, by simp only; omega, by simp only; omega⟩, by omega⟩
        · by_cases c2 : (devSp P g).1 < d
          · rw [if_pos (.inr c2)] at g3
            simp (maxSteps := 1000000) (disch := omega) only [go_sem, eq_self, decide_true, decide_false, not_true_eq_false, not_false_eq_true, reduceIte, reduceCtorEq, Nat.reduceEqDiff, Nat.reduceAdd, Nat.reduceSub, Nat.reduceLeDiff]
            exact ⟨i + 1, ((devSp P g).1, i), rfl, ⟨by omega, by omega, g3, by simp only; omega, by simp only; omega⟩, by omega⟩
          · rw [if_neg (by simp only; omega)] at g3
            simp (maxSteps := 1000000) (disch := omega) only [go_sem, eq_self, decide_true, decide_false, not_true_eq_false, not_false_eq_true, reduceIte, reduceCtorEq, Nat.reduceEqDiff, Nat.reduceAdd, Nat.reduceSub, Nat.reduceLeDiff]
            exact ⟨i + 1, (d, k), rfl, ⟨by omega, by omega, g3, g4, by simp only; omega⟩, by omega⟩
    · rw [List.drop_eq_nil_of_le (by omega), clGo] at g3
      rw [← g3]
      by_cases c1 : k < 0
      · rw [if_pos c1]
        simp (maxSteps := 1000000) (disch := omega) only [go_sem, eq_self, decide_true, decide_false, not_true_eq_false, not_false_eq_true, reduceIte, reduceCtorEq, Nat.reduceEqDiff, Nat.reduceAdd, Nat.reduceSub, Nat.reduceLeDiff]
      · rw [if_neg c1]
        simp (maxSteps := 1000000) (disch := omega) only [go_sem, eq_self, decide_true, decide_false, not_true_eq_false, not_false_eq_true, reduceIte, reduceCtorEq, Nat.reduceEqDiff, Nat.reduceAdd, Nat.reduceSub, Nat.reduceLeDiff]
  · rw [if_pos (show orSp [serFault l, fwF fs, pfF g] ≠ 0 by omega)]
    simp (maxSteps := 1000000) (disch := omega) only [go_sem, eq_self, decide_true, decide_false, not_true_eq_false, not_false_eq_true, reduceIte, reduceCtorEq, Nat.reduceEqDiff, Nat.reduceAdd, Nat.reduceSub, Nat.reduceLeDiff]
def coSt (l : List Smp) (g : List Int) (fs : List (Int × Int)) (i : Int) (x : Int × Int) : AS := ⟨tabV [(0, smps false l), (2, ints false g), (8, iv x.2), (9, iv x.1), (16, frsV false fs), (17, iv fs.length), (18, iv i)], tabO [], tabO []⟩
def coSp (l : List Smp) (fs : List (Int × Int)) (g : List Int) : Int × Bool := if (clGo l g 0 (0, -1) fs).2 < 0 then (0, false) else ((clGo l g 0 (0, -1) fs).2, true)
end Go.Proofs.Ytggbcgldnjmobaa


/-
  Right curves that streams draw.
-/
import Derived.Test.YtggbcgldnjmobaaGenB
import Derived.Test.YtggbcgldnjmobaaVal
namespace Go.Proofs.Ytggbcgldnjmobaa
open Go Go.Ai
set_option linter.unusedSimpArgs false
set_option linter.unusedVariables false
set_option maxHeartbeats 4000000
def A_rightCurve : List Ann := [⟨(some ⟨[0,1], [0], []⟩), [], [], [], []⟩, ⟨(some ⟨[0,1,6], [0], []⟩), [], [], [], []⟩, ⟨(some ⟨[0,1,6,7], [0], []⟩), [], [], [], []⟩, ⟨(some ⟨[0,1,5,6], [0], []⟩), [], [], [], []⟩, ⟨(some ⟨[0,1,5,6,13], [0], []⟩), [], [], [], []⟩, ⟨(some ⟨[4], [0], []⟩), [], [], [], []⟩, ⟨(some ⟨[0,1,6], [0], []⟩), [], [], [], []⟩, ⟨(some ⟨[4], [0], []⟩), [], [], [(4, 3)], []⟩]
def C_rightCurve : AC := (.seq (.reg false [⟨(some 4), none, .mv (.v (.slice none 0 0))⟩] (some ⟨[0,1], [0], []⟩))
  (.seq (.seq (.reg false [⟨(some 6), none, .mv (.v (.int .i64 (0)))⟩] (some ⟨[0,1,6], [0], []⟩))
  (.block 0 (.loop (.seq (.reg false [⟨(some 7), none, .bin .lss (.t 6) (.v (.int .i64 (6)))⟩] (some ⟨[0,1,6,7], [0], []⟩))
  (.seq (.cond (.t 7)
  .skip
  (.exit 0))
  (.seq (.block 1 (.seq (.reg false [⟨(some 8), none, .mv (.t 0)⟩, ⟨(some 9), none, .mv (.t 1)⟩, ⟨(some 10), none, .callx (.f 15) [(.t 8), (.t 9)]⟩, ⟨(some 5), none, .mv (.t 10)⟩] (some ⟨[0,1,5,6], [0], []⟩))
  (.seq (.reg false [⟨(some 11), none, .mv (.t 5)⟩, ⟨(some 12), none, .call (.f 28) [(.t 11)]⟩, ⟨(some 13), none, .bin .eql (.t 12) (.v (.int .i64 (0)))⟩] (some ⟨[0,1,5,6,13], [0], []⟩))
  (.cond (.t 13)
  (.seq (.reg false [⟨(some 14), none, .mv (.t 5)⟩, ⟨(some 4), none, .mv (.t 14)⟩] (some ⟨[4], [0], []⟩))
  .ret)
  .skip))))
  (.reg false [⟨(some 15), none, .bin .add (.t 6) (.v (.int .i64 (1)))⟩, ⟨(some 6), none, .mv (.t 15)⟩] (some ⟨[0,1,6], [0], []⟩))))))))
  (.seq (.seq (.reg false [⟨(some 4), none, .mv (.v (.slice none 0 0))⟩] (some ⟨[4], [0], []⟩))
  (.ty 4 3))
  .ret)))
theorem c_rightCurve : compileCode Try.prog Try.f38.ntmps (Try.f38.body.getD .skip) A_rightCurve = some (C_rightCurve, []) := by kernel_rfl
theorem r_rightCurve : compileRes Try.prog Try.f38.results.toList = some [.t 4] := by kernel_rfl
theorem b_rightCurve : Try.f38.body = some (Try.f38.body.getD .skip) := by kernel_rfl
theorem n_rightCurve : (Try.f38.name == "runtime.NumGoroutine") = false := by kernel_rfl
theorem fc_rightCurve {xt : Option (List Cel)} {args : List Val} {R : List Cel → Val → Prop} (hn : (if xt.isSome then 1 else 0) + args.length ≤ Try.f38.ntmps) (h : ex Try.prog C_rightCurve [] (fpost xt [.t 4] R) (initSt xt args)) : FC Try.prog 38 xt args R :=
  fc_of_awp Try.func38 b_rightCurve n_rightCurve c_rightCurve r_rightCurve (of_decide_eq_true (by kernel_rfl)) hn h


def rcSt (L : List Int) (most j q : Int) : AS := ⟨tabV [(0, .one (.bx 0 0)), (1, iv most), (6, iv j)], tabO [(0, strm L q)], tabO []⟩
theorem rightCurve_fc (most : Int) (hm : 0 ≤ most) (hm2 : most ≤ 1000) : Gen Try.prog 38 [iv most] 24000 (fun r => ∃ l : List Smp, serFault l = 0 ∧ l.length ≤ most ∧ r = smps true l) := by
  intro L p hL hl h0 hp
  refine fc_rightCurve (by simp +arith) ?_
  unfold C_rightCurve strm
  simp (maxSteps := 1000000) (disch := omega) only [go_sem, eq_self, decide_true, decide_false, not_true_eq_false, not_false_eq_true, reduceIte, reduceCtorEq, Nat.reduceEqDiff, Nat.reduceAdd, Nat.reduceSub, Nat.reduceLeDiff]
  refine ex_loop2 (rcSt L most) (fun j q => 0 ≤ j ∧ j ≤ 6 ∧ p ≤ q ∧ q ≤ p + 4000 * j) (fun j _ => (6 - j).toNat) 0 p ⟨by omega, by omega, by omega, by omega⟩ rfl ?_
  rintro j q ⟨g1, g2, g3, g4⟩
  unfold rcSt strm
  by_cases hj : j < 6
  · simp (maxSteps := 1000000) (disch := omega) only [go_sem, eq_self, decide_true, decide_false, not_true_eq_false, not_false_eq_true, reduceIte, reduceCtorEq, Nat.reduceEqDiff, Nat.reduceAdd, Nat.reduceSub, Nat.reduceLeDiff]
    refine callx_gen (curve_fc most hm hm2) hL hl (by omega) (by omega) ⟨_, [], by simpa using hm, by simp, rfl⟩ ?_
    rintro q' r h1 h2 ⟨l, hll, hl64, rfl⟩
    refine ⟨rfl, ?_⟩
    unfold strm
    simp (maxSteps := 1000000) (disch := omega) only [go_sem, eq_self, decide_true, decide_false, not_true_eq_false, not_false_eq_true, reduceIte, reduceCtorEq, Nat.reduceEqDiff, Nat.reduceAdd, Nat.reduceSub, Nat.reduceLeDiff]
    refine CALL_det (seriesFault_fc l (by omega)) (.inl rfl) ?_
    by_cases hs : serFault l = 0
    · simp (maxSteps := 1000000) (disch := omega) only [go_sem, eq_self, decide_true, decide_false, not_true_eq_false, not_false_eq_true, reduceIte, reduceCtorEq, Nat.reduceEqDiff, Nat.reduceAdd, Nat.reduceSub, Nat.reduceLeDiff]
      exact ⟨⟨q', by omega, by omega, rfl⟩, l, hs, hll, rfl⟩
    · simp (maxSteps := 1000000) (disch := omega) only [go_sem, eq_self, decide_true, decide_false, not_true_eq_false, not_false_eq_true, reduceIte, reduceCtorEq, Nat.reduceEqDiff, Nat.reduceAdd, Nat.reduceSub, Nat.reduceLeDiff]
      exact ⟨_, _, rfl, ⟨by omega, by omega, by omega, by omega⟩, by omega⟩
  · simp (maxSteps := 1000000) (disch := omega) only [go_sem, eq_self, decide_true, decide_false, not_true_eq_false, not_false_eq_true, reduceIte, reduceCtorEq, Nat.reduceEqDiff, Nat.reduceAdd, Nat.reduceSub, Nat.reduceLeDiff]
    exact ⟨⟨q, by omega, by omega, rfl⟩, [], rfl, by simpa using hm, rfl⟩
end Go.Proofs.Ytggbcgldnjmobaa


/-
  A right curve is one function of the stream.
-/
import Derived.Test.YtggbcgldnjmobaaGdt
import Derived.Test.YtggbcgldnjmobaaGenC
namespace Go.Proofs.Ytggbcgldnjmobaa
open Go Go.Ai
set_option linter.unusedSimpArgs false
set_option linter.unusedVariables false
set_option maxHeartbeats 4000000
theorem rightCurve_det (most : Int) (hm : 0 ≤ most) (hm2 : most ≤ 1000) : GenD Try.prog 38 [iv most] 24000 (fun r => ∃ l : List Smp, serFault l = 0 ∧ l.length ≤ most ∧ r = smps true l) := by
  refine genD_of (fun L p R' h => fc_rightCurve (xt := some (strm L p)) (args := [iv most]) (R := R') (by simp +arith) h) ?_
  intro L p hL hl h0 hp
  unfold C_rightCurve strm
  simp (maxSteps := 1000000) (disch := omega) only [go_sem, eq_self, decide_true, decide_false, not_true_eq_false, not_false_eq_true, reduceIte, reduceCtorEq, Nat.reduceEqDiff, Nat.reduceAdd, Nat.reduceSub, Nat.reduceLeDiff]
  refine loopD (fun x : Int × Int => rcSt L most x.1 x.2) (fun x => 0 ≤ x.1 ∧ x.1 ≤ 6 ∧ p ≤ x.2 ∧ x.2 ≤ p + 4000 * x.1) (fun x => (6 - x.1).toNat) (0, p) ⟨by simp, by simp, by simp, by simp⟩ rfl ?_
  rintro G ⟨j, q⟩ ⟨g1, g2, g3, g4⟩ IH
  simp only at g1 g2 g3 g4
  unfold rcSt strm
  by_cases hj : j < 6
  · simp (maxSteps := 1000000) (disch := omega) only [go_sem, eq_self, decide_true, decide_false, not_true_eq_false, not_false_eq_true, reduceIte, reduceCtorEq, Nat.reduceEqDiff, Nat.reduceAdd, Nat.reduceSub, Nat.reduceLeDiff]
    obtain ⟨⟨q', r⟩, ⟨h1, h2, l, hll, hl64, rfl⟩, hf⟩ := (curve_det most hm hm2) L q hL hl (by omega) (by omega)
    simp only at h1 h2 hf
    refine exX hf rfl rfl ?_
    unfold strm
    simp (maxSteps := 1000000) (disch := omega) only [go_sem, eq_self, decide_true, decide_false, not_true_eq_false, not_false_eq_true, reduceIte, reduceCtorEq, Nat.reduceEqDiff, Nat.reduceAdd, Nat.reduceSub, Nat.reduceLeDiff]
    refine exC (seriesFault_fc l (by omega)) (.inl rfl) ?_
    by_cases hs : serFault l = 0
    · simp (maxSteps := 1000000) (disch := omega) only [go_sem, eq_self, decide_true, decide_false, not_true_eq_false, not_false_eq_true, reduceIte, reduceCtorEq, Nat.reduceEqDiff, Nat.reduceAdd, Nat.reduceSub, Nat.reduceLeDiff]
      exact ⟨(q', _), ⟨by simp only; omega, by simp only; omega, l, hs, hll, rfl⟩, rfl, rfl⟩
    · simp (maxSteps := 1000000) (disch := omega) only [go_sem, eq_self, decide_true, decide_false, not_true_eq_false, not_false_eq_true, reduceIte, reduceCtorEq, Nat.reduceEqDiff, Nat.reduceAdd, Nat.reduceSub, Nat.reduceLeDiff]
      obtain ⟨y, hB, hG⟩ := IH (j + 1, q') ⟨by simp; omega, by simp; omega, by simp; omega, by simp; omega⟩ (by simp; omega)
      exact ⟨y, hB, _, rfl, by simp; omega, hG⟩
  · clear IH
    simp (maxSteps := 1000000) (disch := omega) only [go_sem, eq_self, decide_true, decide_false, not_true_eq_false, not_false_eq_true, reduceIte, reduceCtorEq, Nat.reduceEqDiff, Nat.reduceAdd, Nat.reduceSub, Nat.reduceLeDiff]
    exact ⟨(q, _), ⟨by simp only; omega, by simp only; omega, [], rfl, by simpa using hm, rfl⟩, rfl, rfl⟩
end Go.Proofs.Ytggbcgldnjmobaa

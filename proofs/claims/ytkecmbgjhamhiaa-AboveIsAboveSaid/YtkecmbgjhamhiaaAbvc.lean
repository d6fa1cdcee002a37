/-
  AboveIsAbove's function.
-/
import Derived.Test.YtkecmbgjhamhiaaAbvb
import Derived.Test.YtkecmbgjhamhiaaRdy
namespace Go.Proofs.Ytkecmbgjhamhiaa
open Go Go.Ai
set_option linter.unusedSimpArgs false
set_option linter.unusedVariables false
set_option maxHeartbeats 4000000
theorem abvSp_ok {l : List Smp} {f t L : Int} (h1 : bothFault l f t = 0) (h2 : limF L = 0) : abvSp l f t L = ((abW L f t l).1, (abW L f t l).2, 0) := by
  unfold abvSp; rw [if_neg (by omega), if_neg (by omega)]
theorem abW_len (L f t : Int) (l : List Smp) : (abW L f t l).1.length ≤ l.length := by
  have h : ∀ (m : List Pc) (x : List (Int × Int) × Int), (m.foldl (abStep L) x).1.length ≤ x.1.length + m.length := by
    intro m
    induction m with
    | nil => intro x; simp
    | cons p r ih =>
      intro x
      rw [List.foldl_cons, List.length_cons]
      have h1 := ih (abStep L x p)
      have h2 : (abStep L x p).1.length ≤ x.1.length + 1 := by
        unfold abStep
        split
        · omega
        · simp only []
          split
          · rw [setTo_len]; omega
          · simp
      omega
  have h1 := h (vals f t l) ([], 0)
  have h2 := vals_len f t l
  unfold abW
  simp only [List.length_nil, Nat.zero_add] at h1
  omega
def aaSt (l : List Smp) (f t lim : Int) (out : List (Int × Int)) (at_ : Int) : AS := ⟨tabV [(4, smps true l), (5, .one (.bx 5 0)), (6, iv lim), (7, frsV true out), (13, .one (.bx 13 0))], tabO [(5, [.g (.int .i64 f), .g (.int .i64 t)]), (13, [.g (.int .i64 at_)])], tabO []⟩
theorem aa_fc (L : List Int) (hL : ∀ x ∈ L, I64 x) (hl : L.length ≤ 9223372036854775807) : FC Try.prog 9 none [ints false L] (fun _ r => r = bv true) := by
  refine fc_aa (by simp +arith) ?_
  unfold C_aa
  simp (maxSteps := 1000000) (disch := omega) only [go_sem, eq_self, decide_true, decide_false, not_true_eq_false, not_false_eq_true, reduceIte, reduceCtorEq, Nat.reduceEqDiff, Nat.reduceAdd, Nat.reduceSub, Nat.reduceLeDiff]
  refine callx_gen (p := 0) (rightCurve_fc 10 (by omega) (by omega)) hL hl (by omega) (by omega) ⟨_, [], rfl, rfl⟩ ?_
  rintro pa r ha1 ha2 ⟨l, hs, rfl⟩
  refine ⟨rfl, ?_⟩
  unfold strm
  simp (maxSteps := 1000000) (disch := omega) only [go_sem, eq_self, decide_true, decide_false, not_true_eq_false, not_false_eq_true, reduceIte, reduceCtorEq, Nat.reduceEqDiff, Nat.reduceAdd, Nat.reduceSub, Nat.reduceLeDiff]
  refine callx_gen (range_fc 0 30 (by omega) (by omega) (by omega)) hL hl (by omega) (by omega) ⟨_, 0, by omega, by omega, rfl⟩ ?_
  rintro pb r hb1 hb2 ⟨f, hf1, hf2, rfl⟩
  refine ⟨rfl, ?_⟩
  unfold strm
  simp (maxSteps := 1000000) (disch := omega) only [go_sem, eq_self, decide_true, decide_false, not_true_eq_false, not_false_eq_true, reduceIte, reduceCtorEq, Nat.reduceEqDiff, Nat.reduceAdd, Nat.reduceSub, Nat.reduceLeDiff]
  refine callx_gen (range_fc 30 90 (by omega) (by omega) (by omega)) hL hl (by omega) (by omega) ⟨_, 30, by omega, by omega, rfl⟩ ?_
  rintro pc r hc1 hc2 ⟨t, ht1, ht2, rfl⟩
  refine ⟨rfl, ?_⟩
  unfold strm
  simp (maxSteps := 1000000) (disch := omega) only [go_sem, eq_self, decide_true, decide_false, not_true_eq_false, not_false_eq_true, reduceIte, reduceCtorEq, Nat.reduceEqDiff, Nat.reduceAdd, Nat.reduceSub, Nat.reduceLeDiff]
  refine callx_gen (range_fc (-3) 8 (by omega) (by omega) (by omega)) hL hl (by omega) (by omega) ⟨_, 0, by omega, by omega, rfl⟩ ?_
  rintro pd r hd1 hd2 ⟨lim, hlim1, hlim2, rfl⟩
  refine ⟨rfl, ?_⟩
  unfold strm
  have hg := good_of hs
  have hlen := hg.len
  have hbf : bothFault l f t = 0 := by unfold bothFault; rw [if_neg (by omega)]; unfold winFault; rw [if_neg (by omega)]
  have hl1 : limF lim = 0 := by unfold limF; rw [if_pos (by omega)]
  have hl2 : limF (lim + 1) = 0 := by unfold limF; rw [if_pos (by omega)]
  have hwl := abW_len lim f t l
  have hle : (abW (lim + 1) f t l).2 ≤ (abW lim f t l).2 := by
    unfold abW
    rw [abSum, abSum]
    have := sumL_le lim (vals f t l) (fun p hp => (vals_ok f t hg p hp).2.1)
    simp only; omega
  simp (maxSteps := 1000000) (disch := omega) only [go_sem, eq_self, decide_true, decide_false, not_true_eq_false, not_false_eq_true, reduceIte, reduceCtorEq, Nat.reduceEqDiff, Nat.reduceAdd, Nat.reduceSub, Nat.reduceLeDiff]
  refine CALL_det (above_fc l (by omega) f t lim) (.inl rfl) ?_
  rw [abvSp_ok hbf hl1]
  simp (maxSteps := 1000000) (disch := omega) only [go_sem, eq_self, decide_true, decide_false, not_true_eq_false, not_false_eq_true, reduceIte, reduceCtorEq, Nat.reduceEqDiff, Nat.reduceAdd, Nat.reduceSub, Nat.reduceLeDiff]
  refine CALL_det (above_fc l (by omega) f t (lim + 1)) (.inl rfl) ?_
  rw [abvSp_ok hbf hl2]
  simp (maxSteps := 1000000) (disch := omega) only [go_sem, eq_self, decide_true, decide_false, not_true_eq_false, not_false_eq_true, reduceIte, reduceCtorEq, Nat.reduceEqDiff, Nat.reduceAdd, Nat.reduceSub, Nat.reduceLeDiff]
  refine ex_loop1 (aaSt l f t lim (abW lim f t l).1) (fun at_ => f ≤ at_ ∧ at_ ≤ t) (fun at_ => (t - at_).toNat) f ⟨by omega, by omega⟩ rfl ?_
  rintro at_ ⟨g1, g2⟩
  unfold aaSt
  by_cases hi : at_ < t
  · have hv := valSp_last l hg at_
    have hany := abv_eq lim f t at_ g1 hi l hs
    unfold abvB at hany
    simp (maxSteps := 1000000) (disch := omega) only [go_sem, eq_self, decide_true, decide_false, not_true_eq_false, not_false_eq_true, reduceIte, reduceCtorEq, Nat.reduceEqDiff, Nat.reduceAdd, Nat.reduceSub, Nat.reduceLeDiff]
    refine CALL_det (bvalueAt_fc l (by omega) true at_) (.inl rfl) ?_
    rw [vaSp_good true hs (by omega), hv]
    cases hll : lastLe at_ none l with
    | none =>
      rw [hll] at hany
      simp (maxSteps := 1000000) (disch := omega) only [go_sem, eq_self, decide_true, decide_false, not_true_eq_false, not_false_eq_true, reduceIte, reduceCtorEq, Nat.reduceEqDiff, Nat.reduceAdd, Nat.reduceSub, Nat.reduceLeDiff]
      refine CALL_det (contW_fc _ _ (inB at_) (abW lim f t l).1 (by omega) (fun x _ => aaClos_fc x at_)) (.inl rfl) ?_
      rw [hany]
      simp (maxSteps := 1000000) (disch := omega) only [go_sem, eq_self, decide_true, decide_false, not_true_eq_false, not_false_eq_true, reduceIte, reduceCtorEq, Nat.reduceEqDiff, Nat.reduceAdd, Nat.reduceSub, Nat.reduceLeDiff]
      exact ⟨_, rfl, ⟨by omega, by omega⟩, by omega⟩
    | some p =>
      rw [hll] at hany
      simp only at hany
      by_cases c1 : p.q = 2
      · rw [decide_eq_false (fun h => h.1 c1)] at hany
        simp (maxSteps := 1000000) (disch := omega) only [go_sem, eq_self, decide_true, decide_false, not_true_eq_false, not_false_eq_true, reduceIte, reduceCtorEq, Nat.reduceEqDiff, Nat.reduceAdd, Nat.reduceSub, Nat.reduceLeDiff]
        refine CALL_det (contW_fc _ _ (inB at_) (abW lim f t l).1 (by omega) (fun x _ => aaClos_fc x at_)) (.inl rfl) ?_
        rw [hany]
        simp (maxSteps := 1000000) (disch := omega) only [go_sem, eq_self, decide_true, decide_false, not_true_eq_false, not_false_eq_true, reduceIte, reduceCtorEq, Nat.reduceEqDiff, Nat.reduceAdd, Nat.reduceSub, Nat.reduceLeDiff]
        exact ⟨_, rfl, ⟨by omega, by omega⟩, by omega⟩
      · by_cases c2 : p.v > lim
        · rw [decide_eq_true ⟨c1, c2⟩] at hany
          simp (maxSteps := 1000000) (disch := omega) only [go_sem, eq_self, decide_true, decide_false, not_true_eq_false, not_false_eq_true, reduceIte, reduceCtorEq, Nat.reduceEqDiff, Nat.reduceAdd, Nat.reduceSub, Nat.reduceLeDiff]
          refine CALL_det (contW_fc _ _ (inB at_) (abW lim f t l).1 (by omega) (fun x _ => aaClos_fc x at_)) (.inl rfl) ?_
          rw [hany]
          simp (maxSteps := 1000000) (disch := omega) only [go_sem, eq_self, decide_true, decide_false, not_true_eq_false, not_false_eq_true, reduceIte, reduceCtorEq, Nat.reduceEqDiff, Nat.reduceAdd, Nat.reduceSub, Nat.reduceLeDiff]
          exact ⟨_, rfl, ⟨by omega, by omega⟩, by omega⟩
        · rw [decide_eq_false (fun h => c2 h.2)] at hany
          simp (maxSteps := 1000000) (disch := omega) only [go_sem, eq_self, decide_true, decide_false, not_true_eq_false, not_false_eq_true, reduceIte, reduceCtorEq, Nat.reduceEqDiff, Nat.reduceAdd, Nat.reduceSub, Nat.reduceLeDiff]
          refine CALL_det (contW_fc _ _ (inB at_) (abW lim f t l).1 (by omega) (fun x _ => aaClos_fc x at_)) (.inl rfl) ?_
          rw [hany]
          simp (maxSteps := 1000000) (disch := omega) only [go_sem, eq_self, decide_true, decide_false, not_true_eq_false, not_false_eq_true, reduceIte, reduceCtorEq, Nat.reduceEqDiff, Nat.reduceAdd, Nat.reduceSub, Nat.reduceLeDiff]
          exact ⟨_, rfl, ⟨by omega, by omega⟩, by omega⟩
  · simp (maxSteps := 1000000) (disch := omega) only [go_sem, eq_self, decide_true, decide_false, not_true_eq_false, not_false_eq_true, reduceIte, reduceCtorEq, Nat.reduceEqDiff, Nat.reduceAdd, Nat.reduceSub, Nat.reduceLeDiff]
    refine CALL_det ready_fc (.inl rfl) ?_
    simp (maxSteps := 1000000) (disch := omega) only [go_sem, eq_self, decide_true, decide_false, not_true_eq_false, not_false_eq_true, reduceIte, reduceCtorEq, Nat.reduceEqDiff, Nat.reduceAdd, Nat.reduceSub, Nat.reduceLeDiff]
end Go.Proofs.Ytkecmbgjhamhiaa

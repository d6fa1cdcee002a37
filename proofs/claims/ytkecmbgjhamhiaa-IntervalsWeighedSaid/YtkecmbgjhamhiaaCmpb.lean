/-
  The reference's comparison of two series.
-/
import Derived.Test.YtkecmbgjhamhiaaCmp
namespace Go.Proofs.Ytkecmbgjhamhiaa
open Go Go.Ai
set_option linter.unusedSimpArgs false
set_option linter.unusedVariables false
set_option maxHeartbeats 4000000
def cmoO (b : List Smp) (w : Int) (m : List Sr) (i x y : Int) : AS := ⟨tabV [(1, smps false b), (3, iv w), (8, iv x), (9, iv y), (16, srsV true m), (17, iv m.length), (18, iv i)], tabO [], tabO []⟩
def cmoI (b : List Smp) (w : Int) (m : List Sr) (i : Int) (n : List Sr) (k x y : Int) : AS := ⟨tabV [(1, smps false b), (3, iv w), (8, iv x), (9, iv y), (11, .one (.bx 11 0)), (16, srsV true m), (17, iv m.length), (18, iv i), (25, srsV true n), (26, iv n.length), (27, iv k)], tabO [(11, srC (m.getD i.toNat default))], tabO []⟩
theorem comparedOf_fc (a b : List Smp) (hsa : serFault a = 0) (hsb : serFault b = 0) (hal : a.length ≤ 1000) (hbl : b.length ≤ 1000) (f t w : Int) (hw : 0 ≤ f ∧ f ≤ t ∧ t ≤ 345686400000) : FC Try.prog 61 none [smps false a, smps false b, winV f t, iv w] (fun _ r => r = .tu [iv (S2 allB (vals f t b) (vals f t a)), iv (S2 (farB w) (vals f t b) (vals f t a))]) := by
  refine fc_comparedOf (by simp +arith) ?_
  have hml := rvals_len f t a
  have hA := vals_chain hw.2.1 hsa
  have hAg := hA.ge
  unfold C_comparedOf
  simp (maxSteps := 1000000) (disch := omega) only [go_sem, eq_self, decide_true, decide_false, not_true_eq_false, not_false_eq_true, reduceIte, reduceCtorEq, Nat.reduceEqDiff, Nat.reduceAdd, Nat.reduceSub, Nat.reduceLeDiff]
  refine CALL_det (rvalued_fc a (by omega) f t) (.inl rfl) ?_
  rw [← rvals_pc f t a] at hAg ⊢
  generalize rvals f t a = m at *
  simp (maxSteps := 1000000) (disch := omega) only [go_sem, eq_self, decide_true, decide_false, not_true_eq_false, not_false_eq_true, reduceIte, reduceCtorEq, Nat.reduceEqDiff, Nat.reduceAdd, Nat.reduceSub, Nat.reduceLeDiff]
  refine ex_loop3 (cmoO b w m) (fun i x y => 0 ≤ i ∧ i ≤ m.length ∧ x + S2 allB (vals f t b) ((m.drop i.toNat).map toPc) = S2 allB (vals f t b) (m.map toPc) ∧ y + S2 (farB w) (vals f t b) ((m.drop i.toNat).map toPc) = S2 (farB w) (vals f t b) (m.map toPc) ∧ 0 ≤ x ∧ x ≤ i * 345686400000000 ∧ 0 ≤ y ∧ y ≤ i * 345686400000000) (fun i _ _ => (m.length - i).toNat) 0 0 0 ⟨by omega, by omega, by simp, by simp, by omega, by omega, by omega, by omega⟩ rfl ?_
  rintro i x y ⟨g1, g2, g3, g4, g5, g6, g7, g8⟩
  unfold cmoO
  by_cases hi : i < m.length
  · have e2 : (i + 1).toNat = i.toNat + 1 := by omega
    have em := getD_map_at srC m i [] g1 hi
    have hx := hAg (toPc (m.getD i.toNat default)) (List.mem_map.2 ⟨_, getD_mem m i.toNat (by omega), rfl⟩)
    simp only [toPc] at hx
    rw [drop_cons m i.toNat (by omega), ← e2, List.map_cons, S2] at g3 g4
    have c1 := clip allB (toPc (m.getD i.toNat default)) (fun _ _ _ => rfl) f t hx.1 hx.2.1 hx.2.2.1 b
    have c2 := clip (farB w) (toPc (m.getD i.toNat default)) (fun q q' h => by unfold farB; rw [h]) f t hx.1 hx.2.1 hx.2.2.1 b
    have d1 : (pcsGo f t b).filter nbB = vals f t b := rfl
    have d2 : (pcsGo (m.getD i.toNat default).f (m.getD i.toNat default).t b).filter nbB = vals (m.getD i.toNat default).f (m.getD i.toNat default).t b := rfl
    rw [show (toPc (m.getD i.toNat default)).f = (m.getD i.toNat default).f from rfl, show (toPc (m.getD i.toNat default)).t = (m.getD i.toNat default).t from rfl, d1, d2] at c1 c2
    rw [← c1] at g3
    rw [← c2] at g4
    have hB := (vals_chain (show (m.getD i.toNat default).f ≤ (m.getD i.toNat default).t by omega) hsb).ge
    have hnl := rvals_len (m.getD i.toNat default).f (m.getD i.toNat default).t b
    simp (maxSteps := 1000000) (disch := omega) only [go_sem, eq_self, decide_true, decide_false, not_true_eq_false, not_false_eq_true, reduceIte, reduceCtorEq, Nat.reduceEqDiff, Nat.reduceAdd, Nat.reduceSub, Nat.reduceLeDiff]
    refine CALL_det (rvalued_fc b (by omega) (m.getD i.toNat default).f (m.getD i.toNat default).t) (.inl rfl) ?_
    rw [← rvals_pc (m.getD i.toNat default).f] at hB g3 g4
    generalize rvals (m.getD i.toNat default).f (m.getD i.toNat default).t b = n at *
    simp (maxSteps := 1000000) (disch := omega) only [go_sem, eq_self, decide_true, decide_false, not_true_eq_false, not_false_eq_true, reduceIte, reduceCtorEq, Nat.reduceEqDiff, Nat.reduceAdd, Nat.reduceSub, Nat.reduceLeDiff]
    refine ex_loop3 (cmoI b w m i n) (fun k x' y' => 0 ≤ k ∧ k ≤ n.length ∧ x' + SC allB (toPc (m.getD i.toNat default)) ((n.drop k.toNat).map toPc) = x + SC allB (toPc (m.getD i.toNat default)) (n.map toPc) ∧ y' + SC (farB w) (toPc (m.getD i.toNat default)) ((n.drop k.toNat).map toPc) = y + SC (farB w) (toPc (m.getD i.toNat default)) (n.map toPc) ∧ 0 ≤ x' ∧ x' ≤ i * 345686400000000 + k * 345686400000 ∧ 0 ≤ y' ∧ y' ≤ i * 345686400000000 + k * 345686400000) (fun k _ _ => (n.length - k).toNat) 0 x y ⟨by omega, by omega, by simp, by simp, by omega, by omega, by omega, by omega⟩ (by simp only [cmoI, srC_eq]) ?_
    rintro k x' y' ⟨k1, k2, k3, k4, k5, k6, k7, k8⟩
    unfold cmoI
    by_cases hk : k < n.length
    · have e3 : (k + 1).toNat = k.toNat + 1 := by omega
      have en := getD_map_at srC n k [] k1 hk
      have hy := hB (toPc (n.getD k.toNat default)) (List.mem_map.2 ⟨_, getD_mem n k.toNat (by omega), rfl⟩)
      simp only [toPc] at hy
      rw [drop_cons n k.toNat (by omega), ← e3, List.map_cons, SC] at k3 k4
      rw [show (toPc (n.getD k.toNat default)).f = (n.getD k.toNat default).f from rfl, show (toPc (n.getD k.toNat default)).t = (n.getD k.toNat default).t from rfl] at k3 k4
      rw [if_pos (show allB _ _ = true from rfl)] at k3
      by_cases hf : max ((m.getD i.toNat default).v - (n.getD k.toNat default).v) ((n.getD k.toNat default).v - (m.getD i.toNat default).v) > w
      · rw [if_pos (show farB w (toPc (m.getD i.toNat default)) (toPc (n.getD k.toNat default)) = true from decide_eq_true hf)] at k4
        simp (maxSteps := 1000000) (disch := omega) only [go_sem, eq_self, decide_true, decide_false, not_true_eq_false, not_false_eq_true, reduceIte, reduceCtorEq, Nat.reduceEqDiff, Nat.reduceAdd, Nat.reduceSub, Nat.reduceLeDiff]
        refine CALL_det (rlong_fc (n.getD k.toNat default).f (n.getD k.toNat default).t (by omega) (by omega)) (.inl rfl) ?_
        simp (maxSteps := 1000000) (disch := omega) only [go_sem, eq_self, decide_true, decide_false, not_true_eq_false, not_false_eq_true, reduceIte, reduceCtorEq, Nat.reduceEqDiff, Nat.reduceAdd, Nat.reduceSub, Nat.reduceLeDiff]
        refine CALL_det (far_fc _ _ (by omega) (by omega)) (.inl rfl) ?_
        simp (maxSteps := 1000000) (disch := omega) only [go_sem, eq_self, decide_true, decide_false, not_true_eq_false, not_false_eq_true, reduceIte, reduceCtorEq, Nat.reduceEqDiff, Nat.reduceAdd, Nat.reduceSub, Nat.reduceLeDiff]
        refine CALL_det (rlong_fc (n.getD k.toNat default).f (n.getD k.toNat default).t (by omega) (by omega)) (.inl rfl) ?_
        simp (maxSteps := 1000000) (disch := omega) only [go_sem, eq_self, decide_true, decide_false, not_true_eq_false, not_false_eq_true, reduceIte, reduceCtorEq, Nat.reduceEqDiff, Nat.reduceAdd, Nat.reduceSub, Nat.reduceLeDiff]
        exact ⟨_, _, _, rfl, ⟨by omega, by omega, by omega, by omega, by omega, by omega, by omega, by omega⟩, by omega⟩
      · rw [if_neg (show ¬farB w (toPc (m.getD i.toNat default)) (toPc (n.getD k.toNat default)) = true from fun h => hf (of_decide_eq_true h))] at k4
        simp (maxSteps := 1000000) (disch := omega) only [go_sem, eq_self, decide_true, decide_false, not_true_eq_false, not_false_eq_true, reduceIte, reduceCtorEq, Nat.reduceEqDiff, Nat.reduceAdd, Nat.reduceSub, Nat.reduceLeDiff]
        refine CALL_det (rlong_fc (n.getD k.toNat default).f (n.getD k.toNat default).t (by omega) (by omega)) (.inl rfl) ?_
        simp (maxSteps := 1000000) (disch := omega) only [go_sem, eq_self, decide_true, decide_false, not_true_eq_false, not_false_eq_true, reduceIte, reduceCtorEq, Nat.reduceEqDiff, Nat.reduceAdd, Nat.reduceSub, Nat.reduceLeDiff]
        refine CALL_det (far_fc _ _ (by omega) (by omega)) (.inl rfl) ?_
        simp (maxSteps := 1000000) (disch := omega) only [go_sem, eq_self, decide_true, decide_false, not_true_eq_false, not_false_eq_true, reduceIte, reduceCtorEq, Nat.reduceEqDiff, Nat.reduceAdd, Nat.reduceSub, Nat.reduceLeDiff]
        exact ⟨_, _, _, rfl, ⟨by omega, by omega, by omega, by omega, by omega, by omega, by omega, by omega⟩, by omega⟩
    · rw [List.drop_eq_nil_of_le (by omega)] at k3 k4
      simp only [List.map_nil, SC, Int.add_zero] at k3 k4
      simp (maxSteps := 1000000) (disch := omega) only [go_sem, eq_self, decide_true, decide_false, not_true_eq_false, not_false_eq_true, reduceIte, reduceCtorEq, Nat.reduceEqDiff, Nat.reduceAdd, Nat.reduceSub, Nat.reduceLeDiff]
      exact ⟨_, _, _, rfl, ⟨by omega, by omega, by omega, by omega, by omega, by omega, by omega, by omega⟩, by omega⟩
  · rw [List.drop_eq_nil_of_le (by omega)] at g3 g4
    simp only [List.map_nil, S2, Int.add_zero] at g3 g4
    rw [← g3, ← g4]
    simp (maxSteps := 1000000) (disch := omega) only [go_sem, eq_self, decide_true, decide_false, not_true_eq_false, not_false_eq_true, reduceIte, reduceCtorEq, Nat.reduceEqDiff, Nat.reduceAdd, Nat.reduceSub, Nat.reduceLeDiff]
end Go.Proofs.Ytkecmbgjhamhiaa

/-
  Counters, continued: the reference's total, the generator, and the law's function.
-/
import Derived.Test.YtkecmbgjhamhiaaTot
namespace Go.Proofs.Ytkecmbgjhamhiaa
open Go Go.Ai
set_option linter.unusedSimpArgs false
set_option linter.unusedVariables false
set_option maxHeartbeats 4000000
def cntP (f t : Int) (x : Smp) : Bool := decide (f ≤ x.a ∧ x.a ≤ t) && decide (x.q ≠ 2)
def couSt (l : List Smp) (f t : Int) (x : Int × List Int) : AS := ⟨tabV [(3, .one (.bx 3 0)), (5, .one (.ow 5 0)), (8, smps false l), (9, iv l.length), (10, iv x.1)], tabO [(3, [.g (.int .i64 f), .g (.int .i64 t)])], tabO [(5, ⟨0, 3, 1, x.2.map intC⟩)]⟩
theorem counted_fc (l : List Smp) (hl : l.length ≤ 5000) (f t : Int) : FC Try.prog 100 none [smps false l, winV f t] (fun _ r => r = ints true (cnt l f t)) := by
  refine fc_counted (by simp +arith) ?_
  unfold C_counted
  simp (maxSteps := 1000000) (disch := omega) only [go_sem, eq_self, decide_true, decide_false, not_true_eq_false, not_false_eq_true, reduceIte, reduceCtorEq, Nat.reduceEqDiff, Nat.reduceAdd, Nat.reduceSub, Nat.reduceLeDiff]
  refine ⟨by omega, ?_⟩
  refine ex_loopI (couSt l f t) (fun x => 0 ≤ x.1 ∧ x.1 ≤ l.length ∧ x.2.length ≤ x.1 ∧ x.2 ++ ((l.drop x.1.toNat).filter (cntP f t)).map Smp.v = cnt l f t) (fun x => (l.length - x.1).toNat) (0, []) ⟨by simp, by simp only; omega, by simp, rfl⟩ rfl ?_
  rintro ⟨i, acc⟩ ⟨g1, g2, g3, g4⟩
  simp only at g1 g2 g3 g4
  unfold couSt
  by_cases hi : i < l.length
  · rw [drop_cons l i.toNat (by omega), List.filter_cons] at g4
    have e2 : (i + 1).toNat = i.toNat + 1 := by omega
    simp (maxSteps := 1000000) (disch := omega) only [go_sem, eq_self, decide_true, decide_false, not_true_eq_false, not_false_eq_true, reduceIte, reduceCtorEq, Nat.reduceEqDiff, Nat.reduceAdd, Nat.reduceSub, Nat.reduceLeDiff]
    refine CALL_det (rin1_fc _ _ _) (.inl rfl) ?_
    generalize l.getD i.toNat default = x at *
    by_cases h1 : f ≤ x.a ∧ x.a ≤ t
    · by_cases h3 : x.q = 2
      · have h2 : ¬ cntP f t x = true := by simp [cntP, h3]
        rw [if_neg h2] at g4
        simp (maxSteps := 1000000) (disch := omega) only [go_sem, eq_self, decide_true, decide_false, not_true_eq_false, not_false_eq_true, reduceIte, reduceCtorEq, Nat.reduceEqDiff, Nat.reduceAdd, Nat.reduceSub, Nat.reduceLeDiff]
        exact ⟨(i + 1, acc), ⟨by simp only; omega, by simp only; omega, by simp only; omega, by simp only [e2]; exact g4⟩, rfl, by simp only; omega⟩
      · have h2 : cntP f t x = true := by simp [cntP, h1, h3]
        rw [if_pos h2, List.map_cons] at g4
        simp (maxSteps := 1000000) (disch := omega) only [go_sem, eq_self, decide_true, decide_false, not_true_eq_false, not_false_eq_true, reduceIte, reduceCtorEq, Nat.reduceEqDiff, Nat.reduceAdd, Nat.reduceSub, Nat.reduceLeDiff]
        refine ⟨(i + 1, acc ++ [x.v]), ⟨by simp only; omega, by simp only; omega, by simp; omega, by simp only [e2]; simpa using g4⟩, by simp [couSt, intC], by simp only; omega⟩
    · have h2 : ¬ cntP f t x = true := by simp only [cntP, h1]; simp
      rw [if_neg h2] at g4
      simp (maxSteps := 1000000) (disch := omega) only [go_sem, eq_self, decide_true, decide_false, not_true_eq_false, not_false_eq_true, reduceIte, reduceCtorEq, Nat.reduceEqDiff, Nat.reduceAdd, Nat.reduceSub, Nat.reduceLeDiff]
      exact ⟨(i + 1, acc), ⟨by simp only; omega, by simp only; omega, by simp only; omega, by simp only [e2]; exact g4⟩, rfl, by simp only; omega⟩
  · simp (maxSteps := 1000000) (disch := omega) only [go_sem, eq_self, decide_true, decide_false, not_true_eq_false, not_false_eq_true, reduceIte, reduceCtorEq, Nat.reduceEqDiff, Nat.reduceAdd, Nat.reduceSub, Nat.reduceLeDiff]
    rw [List.drop_eq_nil_of_le (by omega), List.filter_nil, List.map_nil, List.append_nil] at g4
    rw [g4]
theorem cnt_len (l : List Smp) (f t : Int) : (cnt l f t).length ≤ l.length := by
  unfold cnt; rw [List.length_map]; exact List.length_filter_le _ _
theorem totClos_fc (n roll : Int) (h1 : 1 ≤ roll) (h2 : roll ≤ 2000000000) : FC Try.prog 101 none [iv n, .one (.ep [.g (.int .i64 roll)])] (fun _ r => r = bv (badC roll n)) := by
  refine fc_totClos (by simp +arith) ?_
  unfold C_totClos
  simp (maxSteps := 1000000) (disch := omega) only [go_sem, eq_self, decide_true, decide_false, not_true_eq_false, not_false_eq_true, reduceIte, reduceCtorEq, Nat.reduceEqDiff, Nat.reduceAdd, Nat.reduceSub, Nat.reduceLeDiff]
  refine CALL_det (rin1_fc _ _ _) (.inl rfl) ?_
  simp (maxSteps := 1000000) (disch := omega) only [go_sem, eq_self, decide_true, decide_false, not_true_eq_false, not_false_eq_true, reduceIte, reduceCtorEq, Nat.reduceEqDiff, Nat.reduceAdd, Nat.reduceSub, Nat.reduceLeDiff]
  exact bv_congr (by first | (simp [badC]; done) | (simp [badC]; omega))
def idxC (roll : Int) : Int → List Int → Int
  | _, [] => -1
  | i, x :: l => if badC roll x = true then i else idxC roll (i + 1) l
def idxSt (roll : Int) (l : List Int) (i : Int) : AS := ⟨tabV [(0, ints false l), (1, .one (.fn 101 [.ep [.g (.int .i64 roll)]])), (7, iv l.length), (8, iv i)], tabO [], tabO []⟩
theorem idxInt_fc (l : List Int) (hl : l.length ≤ 5000) (roll : Int) (h1 : 1 ≤ roll) (h2 : roll ≤ 2000000000) : FC Try.prog 137 none [ints false l, .one (.fn 101 [.ep [.g (.int .i64 roll)]])] (fun _ r => r = iv (idxC roll 0 l)) := by
  refine fc_idxInt (by simp +arith) ?_
  unfold C_idxInt
  simp (maxSteps := 1000000) (disch := omega) only [go_sem, eq_self, decide_true, decide_false, not_true_eq_false, not_false_eq_true, reduceIte, reduceCtorEq, Nat.reduceEqDiff, Nat.reduceAdd, Nat.reduceSub, Nat.reduceLeDiff]
  refine ex_loopI (idxSt roll l) (fun i => 0 ≤ i ∧ i ≤ l.length ∧ idxC roll i (l.drop i.toNat) = idxC roll 0 l) (fun i => (l.length - i).toNat) 0 ⟨by omega, by omega, rfl⟩ rfl ?_
  rintro i ⟨g1, g2, g3⟩
  unfold idxSt
  by_cases hi : i < l.length
  · rw [drop_cons l i.toNat (by omega), idxC] at g3
    have e2 : (i + 1).toNat = i.toNat + 1 := by omega
    simp (maxSteps := 1000000) (disch := omega) only [go_sem, eq_self, decide_true, decide_false, not_true_eq_false, not_false_eq_true, reduceIte, reduceCtorEq, Nat.reduceEqDiff, Nat.reduceAdd, Nat.reduceSub, Nat.reduceLeDiff]
    refine CALL_det (totClos_fc _ roll h1 h2) (.inl rfl) ?_
    cases h5 : badC roll (l.getD i.toNat default) with
    | true =>
      rw [if_pos h5] at g3
      simp (maxSteps := 1000000) (disch := omega) only [go_sem, eq_self, decide_true, decide_false, not_true_eq_false, not_false_eq_true, reduceIte, reduceCtorEq, Nat.reduceEqDiff, Nat.reduceAdd, Nat.reduceSub, Nat.reduceLeDiff]
      rw [g3]
    | false =>
      rw [if_neg (by rw [h5]; simp)] at g3
      simp (maxSteps := 1000000) (disch := omega) only [go_sem, eq_self, decide_true, decide_false, not_true_eq_false, not_false_eq_true, reduceIte, reduceCtorEq, Nat.reduceEqDiff, Nat.reduceAdd, Nat.reduceSub, Nat.reduceLeDiff]
      exact ⟨i + 1, ⟨by omega, by omega, by rw [e2]; exact g3⟩, rfl, by omega⟩
  · simp (maxSteps := 1000000) (disch := omega) only [go_sem, eq_self, decide_true, decide_false, not_true_eq_false, not_false_eq_true, reduceIte, reduceCtorEq, Nat.reduceEqDiff, Nat.reduceAdd, Nat.reduceSub, Nat.reduceLeDiff]
    rw [← g3, List.drop_eq_nil_of_le (by omega)]
    rfl
theorem idxC_any (roll : Int) : ∀ (l : List Int) (i : Int), 0 ≤ i → (0 ≤ idxC roll i l ↔ l.any (badC roll) = true)
  | [], i, _ => by simp [idxC]
  | x :: l, i, hi => by
    rw [idxC, List.any_cons]
    cases h : badC roll x with
    | true => simp [hi]
    | false => simpa using idxC_any roll l (i + 1) (by omega)
theorem contInt_fc (l : List Int) (hl : l.length ≤ 5000) (roll : Int) (h1 : 1 ≤ roll) (h2 : roll ≤ 2000000000) : FC Try.prog 99 none [ints false l, .one (.fn 101 [.ep [.g (.int .i64 roll)]])] (fun _ r => r = bv (l.any (badC roll))) := by
  refine fc_contInt (by simp +arith) ?_
  unfold C_contInt
  simp (maxSteps := 1000000) (disch := omega) only [go_sem, eq_self, decide_true, decide_false, not_true_eq_false, not_false_eq_true, reduceIte, reduceCtorEq, Nat.reduceEqDiff, Nat.reduceAdd, Nat.reduceSub, Nat.reduceLeDiff]
  refine CALL_det (idxInt_fc l hl roll h1 h2) (.inl rfl) ?_
  simp (maxSteps := 1000000) (disch := omega) only [go_sem, eq_self, decide_true, decide_false, not_true_eq_false, not_false_eq_true, reduceIte, reduceCtorEq, Nat.reduceEqDiff, Nat.reduceAdd, Nat.reduceSub, Nat.reduceLeDiff]
  exact bv_congr (by rw [decide_eq_true_eq]; exact idxC_any roll l 0 (by omega))
def tofSp (l : List Smp) (f t roll : Int) : Int := if 1 ≤ roll ∧ roll ≤ 2000000000 then (if (cnt l f t).any (badC roll) = true then 16 else 0) else 1
theorem totalFault_fc (l : List Smp) (hl : l.length ≤ 5000) (f t roll : Int) : FC Try.prog 45 none [smps false l, winV f t, iv roll] (fun _ r => r = iv (tofSp l f t roll)) := by
  refine fc_totalFault (by simp +arith) ?_
  unfold C_totalFault
  simp (maxSteps := 1000000) (disch := omega) only [go_sem, eq_self, decide_true, decide_false, not_true_eq_false, not_false_eq_true, reduceIte, reduceCtorEq, Nat.reduceEqDiff, Nat.reduceAdd, Nat.reduceSub, Nat.reduceLeDiff]
  refine CALL_det (spanFault1_fc _ _ _) (.inl rfl) ?_
  by_cases h1 : 1 ≤ roll ∧ roll ≤ 2000000000
  · rw [if_pos h1]
    simp (maxSteps := 1000000) (disch := omega) only [go_sem, eq_self, decide_true, decide_false, not_true_eq_false, not_false_eq_true, reduceIte, reduceCtorEq, Nat.reduceEqDiff, Nat.reduceAdd, Nat.reduceSub, Nat.reduceLeDiff]
    refine CALL_det (counted_fc l hl f t) (.inl rfl) ?_
    simp (maxSteps := 1000000) (disch := omega) only [go_sem, eq_self, decide_true, decide_false, not_true_eq_false, not_false_eq_true, reduceIte, reduceCtorEq, Nat.reduceEqDiff, Nat.reduceAdd, Nat.reduceSub, Nat.reduceLeDiff]
    have h3 := cnt_len l f t
    refine CALL_det (contInt_fc _ (by omega) roll h1.1 h1.2) (.inl rfl) ?_
    cases h4 : (cnt l f t).any (badC roll) with
    | true =>
      have e : tofSp l f t roll = 16 := by unfold tofSp; rw [if_pos h1, if_pos h4]
      rw [e]
      simp (maxSteps := 1000000) (disch := omega) only [go_sem, eq_self, decide_true, decide_false, not_true_eq_false, not_false_eq_true, reduceIte, reduceCtorEq, Nat.reduceEqDiff, Nat.reduceAdd, Nat.reduceSub, Nat.reduceLeDiff]
    | false =>
      have e : tofSp l f t roll = 0 := by unfold tofSp; rw [if_pos h1, if_neg (by rw [h4]; simp)]
      rw [e]
      simp (maxSteps := 1000000) (disch := omega) only [go_sem, eq_self, decide_true, decide_false, not_true_eq_false, not_false_eq_true, reduceIte, reduceCtorEq, Nat.reduceEqDiff, Nat.reduceAdd, Nat.reduceSub, Nat.reduceLeDiff]
  · have e : tofSp l f t roll = 1 := by unfold tofSp; rw [if_neg h1]
    rw [e, if_neg h1]
    simp (maxSteps := 1000000) (disch := omega) only [go_sem, eq_self, decide_true, decide_false, not_true_eq_false, not_false_eq_true, reduceIte, reduceCtorEq, Nat.reduceEqDiff, Nat.reduceAdd, Nat.reduceSub, Nat.reduceLeDiff]
def tooSt (roll : Int) (m : List Int) (x : Int × Int × Int) : AS := ⟨tabV [(2, iv roll), (7, iv x.2.2), (8, iv x.2.1), (13, ints true m), (14, iv m.length), (15, iv x.1)], tabO [], tabO []⟩
theorem totalOf_fc (l : List Smp) (hl : l.length ≤ 5000) (f t roll : Int) (h1 : 1 ≤ roll) (h2 : roll ≤ 2000000000) (hb : (cnt l f t).any (badC roll) = false) : FC Try.prog 46 none [smps false l, winV f t, iv roll] (fun _ r => r = iv (totGo roll (-1) 0 (cnt l f t))) := by
  refine fc_totalOf (by simp +arith) ?_
  unfold C_totalOf
  simp (maxSteps := 1000000) (disch := omega) only [go_sem, eq_self, decide_true, decide_false, not_true_eq_false, not_false_eq_true, reduceIte, reduceCtorEq, Nat.reduceEqDiff, Nat.reduceAdd, Nat.reduceSub, Nat.reduceLeDiff]
  refine CALL_det (counted_fc l hl f t) (.inl rfl) ?_
  have hm := cnt_len l f t
  generalize cnt l f t = m at hm hb ⊢
  rw [List.any_eq_false] at hb
  simp (maxSteps := 1000000) (disch := omega) only [go_sem, eq_self, decide_true, decide_false, not_true_eq_false, not_false_eq_true, reduceIte, reduceCtorEq, Nat.reduceEqDiff, Nat.reduceAdd, Nat.reduceSub, Nat.reduceLeDiff]
  refine ex_loopI (tooSt roll m) (fun x => 0 ≤ x.1 ∧ x.1 ≤ m.length ∧ -1 ≤ x.2.1 ∧ x.2.1 < roll ∧ 0 ≤ x.2.2 ∧ x.2.2 ≤ x.1 * 2000000000 ∧ totGo roll x.2.1 x.2.2 (m.drop x.1.toNat) = totGo roll (-1) 0 m) (fun x => (m.length - x.1).toNat) (0, -1, 0) ⟨by simp, by simp only; omega, by simp, by simp only; omega, by simp, by simp, rfl⟩ rfl ?_
  rintro ⟨i, b, su⟩ ⟨g1, g2, g3, g4, g5, g6, g7⟩
  simp only at g1 g2 g3 g4 g5 g6 g7
  unfold tooSt
  by_cases hi : i < m.length
  · rw [drop_cons m i.toNat (by omega), totGo] at g7
    have e2 : (i + 1).toNat = i.toNat + 1 := by omega
    have h6 := hb _ (getD_mem m i.toNat (by omega))
    have h7 := totStep_bd h1 h2 g3 g4 (Bool.eq_false_iff.2 h6) g5 g6
    simp only [badC, decide_eq_true_eq] at h6
    obtain ⟨v, hv⟩ : ∃ v, m.getD i.toNat default = v := ⟨_, rfl⟩
    rw [hv] at g7 h6 h7
    by_cases h8 : 0 ≤ b
    · by_cases h9 : v - b < 0
      · have h10 : totStep roll b su v = su + (v - b + roll) := by unfold totStep; rw [if_pos h8, if_pos h9]
        rw [h10] at g7 h7
        simp (maxSteps := 1000000) (disch := omega) only [go_sem, eq_self, decide_true, decide_false, not_true_eq_false, not_false_eq_true, reduceIte, reduceCtorEq, Nat.reduceEqDiff, Nat.reduceAdd, Nat.reduceSub, Nat.reduceLeDiff]
        exact ⟨(i + 1, v, su + (v - b + roll)), ⟨by simp only; omega, by simp only; omega, by simp only; omega, by simp only; omega, by simp only; omega, by simp only; omega, by simp only [e2]; exact g7⟩, by rw [hv, Int.add_assoc], by simp only; omega⟩
      · have h10 : totStep roll b su v = su + (v - b) := by unfold totStep; rw [if_pos h8, if_neg h9]
        rw [h10] at g7 h7
        simp (maxSteps := 1000000) (disch := omega) only [go_sem, eq_self, decide_true, decide_false, not_true_eq_false, not_false_eq_true, reduceIte, reduceCtorEq, Nat.reduceEqDiff, Nat.reduceAdd, Nat.reduceSub, Nat.reduceLeDiff]
        exact ⟨(i + 1, v, su + (v - b)), ⟨by simp only; omega, by simp only; omega, by simp only; omega, by simp only; omega, by simp only; omega, by simp only; omega, by simp only [e2]; exact g7⟩, by rw [hv], by simp only; omega⟩
    · have h10 : totStep roll b su v = su := by unfold totStep; rw [if_neg h8]
      rw [h10] at g7 h7
      simp (maxSteps := 1000000) (disch := omega) only [go_sem, eq_self, decide_true, decide_false, not_true_eq_false, not_false_eq_true, reduceIte, reduceCtorEq, Nat.reduceEqDiff, Nat.reduceAdd, Nat.reduceSub, Nat.reduceLeDiff]
      exact ⟨(i + 1, v, su), ⟨by simp only; omega, by simp only; omega, by simp only; omega, by simp only; omega, by simp only; omega, by simp only; omega, by simp only [e2]; exact g7⟩, by rw [hv], by simp only; omega⟩
  · rw [List.drop_eq_nil_of_le (by omega), totGo] at g7
    simp (maxSteps := 1000000) (disch := omega) only [go_sem, eq_self, decide_true, decide_false, not_true_eq_false, not_false_eq_true, reduceIte, reduceCtorEq, Nat.reduceEqDiff, Nat.reduceAdd, Nat.reduceSub, Nat.reduceLeDiff]
    rw [← g7]
theorem when_fc (b : Bool) (e : Int) : FC Try.prog 44 none [bv b, iv e] (fun _ r => r = iv (if b = true then e else 0)) := by
  refine fc_when (by simp +arith) ?_
  unfold C_when
  cases b with
  | true => simp (maxSteps := 1000000) (disch := omega) only [go_sem, eq_self, decide_true, decide_false, not_true_eq_false, not_false_eq_true, reduceIte, reduceCtorEq, Nat.reduceEqDiff, Nat.reduceAdd, Nat.reduceSub, Nat.reduceLeDiff]
  | false => simp (maxSteps := 1000000) (disch := omega) only [go_sem, eq_self, decide_true, decide_false, not_true_eq_false, not_false_eq_true, reduceIte, reduceCtorEq, Nat.reduceEqDiff, Nat.reduceAdd, Nat.reduceSub, Nat.reduceLeDiff]
/-- The program's total and the reference's. -/
theorem totS_eq (roll : Int) (f t : Int) (hft : f ≤ t) : ∀ (l : List Smp) (b s : Int), totS roll b s (ins l f t true) = if (cnt l f t).any (badC roll) = true then (0, 16) else (totGo roll b s (cnt l f t), 0)
  | [], b, s => by simp [ins, cnt, totS, totGo]
  | x :: l, b, s => by
    have e1 : insP f t true x = decide (f ≤ x.a ∧ x.a ≤ t) := by
      simp only [insP, Bool.true_and]
      by_cases h1 : f ≤ x.a ∧ x.a < t
      · have h2 : f ≤ x.a ∧ x.a ≤ t := by omega
        simp [h1, h2]
      · by_cases h3 : x.a = t
        · have h2 : f ≤ x.a ∧ x.a ≤ t := by omega
          rw [decide_eq_true h2, decide_eq_true h3, Bool.or_true]
        · have h2 : ¬(f ≤ x.a ∧ x.a ≤ t) := by omega
          rw [decide_eq_false h2, decide_eq_false h3, decide_eq_false h1]; rfl
    have ih := totS_eq roll f t hft l
    by_cases h : f ≤ x.a ∧ x.a ≤ t
    · have e2 : ins (x :: l) f t true = x :: ins l f t true := by unfold ins; rw [List.filter_cons, if_pos (by rw [e1]; exact decide_eq_true h)]
      rw [e2, totS]
      by_cases hq : x.q = 2
      · have e3 : cnt (x :: l) f t = cnt l f t := by unfold cnt; rw [List.filter_cons, if_neg (by simp [hq])]
        rw [if_pos hq, e3, ih]
      · have e3 : cnt (x :: l) f t = x.v :: cnt l f t := by unfold cnt; rw [List.filter_cons, if_pos (by simp [hq, h]), List.map_cons]
        rw [if_neg hq, e3, List.any_cons]
        cases hb : badC roll x.v with
        | true => simp
        | false => rw [if_neg (by simp), ih, Bool.false_or]; rfl
    · have e2 : ins (x :: l) f t true = ins l f t true := by unfold ins; rw [List.filter_cons, if_neg (by rw [e1, decide_eq_false h]; simp)]
      have e3 : cnt (x :: l) f t = cnt l f t := by unfold cnt; rw [List.filter_cons, if_neg (by simp; intro h1 h2; exact absurd ⟨h1, h2⟩ h)]
      rw [e2, e3, ih]
end Go.Proofs.Ytkecmbgjhamhiaa

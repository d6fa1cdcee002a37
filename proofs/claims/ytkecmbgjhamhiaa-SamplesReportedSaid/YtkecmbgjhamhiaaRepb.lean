/-
  Report and the reference's: their answers are one; SamplesReported's function.
-/
import Derived.Test.YtkecmbgjhamhiaaRep
import Derived.Test.YtkecmbgjhamhiaaGenB
namespace Go.Proofs.Ytkecmbgjhamhiaa
open Go Go.Ai
set_option linter.unusedSimpArgs false
set_option linter.unusedVariables false
set_option maxHeartbeats 4000000
attribute [go_sem] List.length_append List.length_cons List.length_nil
def repCh (db gap : Int) (s p : Smp) : Prop := s.q ≠ p.q ∨ max (s.v - p.v) (p.v - s.v) > db ∨ s.a - p.a ≥ gap
instance (db gap : Int) (s p : Smp) : Decidable (repCh db gap s p) := by unfold repCh; infer_instance
/-- What is reported from sample number i on, if p, number k, was reported last. -/
def repGo (db gap : Int) : Int → Smp → Int → List Smp → List Int
  | _, _, _, [] => []
  | i, p, k, s :: r => if repCh db gap s p then (if k < i - 1 then [i - 1] else []) ++ i :: repGo db gap (i + 1) s i r else (if r.length = 0 then [i] else []) ++ repGo db gap (i + 1) p k r
def repW (db gap : Int) (l : List Smp) : List Int := if l.length = 0 then [] else 0 :: repGo db gap 1 (l.getD 0 default) 0 (l.drop 1)
def kk (out : List Int) : Int := out.getD ((out.length : Int) - 1).toNat default
theorem kk_app (out : List Int) (x : Int) : kk (out ++ [x]) = x := by
  unfold kk
  have : (((out ++ [x]).length : Int) - 1).toNat = out.length := by simp
  rw [this]; simp
theorem kk_two (out : List Int) (x y : Int) : kk (out ++ [x] ++ [y]) = y := kk_app _ _
theorem repCh_out {db gap : Int} {s p : Smp} (h : ¬repCh db gap s p) : s.q = p.q ∧ ¬max (s.v - p.v) (p.v - s.v) > db ∧ ¬s.a - p.a ≥ gap := by
  unfold repCh at h; omega
def rptSt (l : List Smp) (db gap i : Int) (out : List Int) : AS := ⟨tabV [(1, smps false l), (2, .one (.bx 2 0)), (7, .one (.ow 7 0)), (22, smps false l), (23, iv l.length), (24, iv i)], tabO [(2, [.g (.int .i64 db), .g (.int .i64 gap)])], tabO [(7, ⟨0, 3, 1, out.map intC⟩)]⟩
def rptI (l : List Smp) (db gap i : Int) (out : List Int) : Prop :=
  0 ≤ i ∧ i ≤ l.length ∧ out.length ≤ 2 * i ∧ (i = 0 → out = []) ∧ (0 < i → i < l.length → 1 ≤ out.length ∧ 0 ≤ kk out ∧ kk out < i ∧ out ++ repGo db gap i (l.getD (kk out).toNat default) (kk out) (l.drop i.toNat) = repW db gap l) ∧ (i = l.length → out = repW db gap l)
theorem rptI_on {l : List Smp} {db gap i : Int} {out : List Int} (h0 : 0 ≤ i) (h1 : i < l.length) (h2 : out.length ≤ 2 * (i + 1)) (h3 : 1 ≤ out.length) (h4 : 0 ≤ kk out) (h5 : kk out < i + 1) (h6 : out ++ repGo db gap (i + 1) (l.getD (kk out).toNat default) (kk out) (l.drop (i + 1).toNat) = repW db gap l) : rptI l db gap (i + 1) out :=
  ⟨by omega, by omega, h2, by omega, fun _ _ => ⟨h3, h4, h5, h6⟩, fun h7 => by rw [List.drop_eq_nil_of_le (by omega)] at h6; rw [← h6]; simp [repGo]⟩
def rptSp (l : List Smp) (db gap : Int) : List Int × Int := if orSp [excF db gap, serFault l] ≠ 0 then ([], orSp [excF db gap, serFault l]) else (repW db gap l, 0)
theorem or2_z {a b : Int} (h : orSp [a, b] = 0) : a = 0 ∧ b = 0 := by
  unfold orSp orSp orSp at h; split at h
  · omega
  · split at h <;> omega
theorem report_fc (l : List Smp) (hl : l.length ≤ 4611686018427387904) (db gap : Int) : FC Try.prog 37 none [twoV db gap, smps false l] (fun _ r => r = .tu [ints true (rptSp l db gap).1, iv (rptSp l db gap).2]) := by
  refine fc_report (by simp +arith) ?_
  unfold C_report
  simp (maxSteps := 1000000) (disch := omega) only [go_sem, eq_self, decide_true, decide_false, not_true_eq_false, not_false_eq_true, reduceIte, reduceCtorEq, Nat.reduceEqDiff, Nat.reduceAdd, Nat.reduceSub, Nat.reduceLeDiff]
  refine CALL_det (checkException_fc db gap) (.inl rfl) ?_
  simp (maxSteps := 1000000) (disch := omega) only [go_sem, eq_self, decide_true, decide_false, not_true_eq_false, not_false_eq_true, reduceIte, reduceCtorEq, Nat.reduceEqDiff, Nat.reduceAdd, Nat.reduceSub, Nat.reduceLeDiff]
  refine CALL_det (checkSeries_fc l hl) (.inl rfl) ?_
  simp (maxSteps := 1000000) (disch := omega) only [go_sem, eq_self, decide_true, decide_false, not_true_eq_false, not_false_eq_true, reduceIte, reduceCtorEq, Nat.reduceEqDiff, Nat.reduceAdd, Nat.reduceSub, Nat.reduceLeDiff]
  refine CALL_det (first_fc false [excF db gap, serFault l] (by simp)) (.inl rfl) ?_
  unfold rptSp
  by_cases h1 : orSp [excF db gap, serFault l] = 0
  · rw [if_neg (show ¬(orSp [excF db gap, serFault l] ≠ 0) by omega), h1]
    obtain ⟨h2, h3⟩ := or2_z h1
    have hg := good_of h3
    have hlen := hg.len
    have hdb : 0 ≤ db ∧ db ≤ 2000000 ∧ 1 ≤ gap ∧ gap ≤ 34560000000 := by unfold excF at h2; split at h2 <;> omega
    simp (maxSteps := 1000000) (disch := omega) only [go_sem, eq_self, decide_true, decide_false, not_true_eq_false, not_false_eq_true, reduceIte, reduceCtorEq, Nat.reduceEqDiff, Nat.reduceAdd, Nat.reduceSub, Nat.reduceLeDiff]
    refine ⟨by omega, ?_⟩
    refine ex_loop2 (rptSt l db gap) (rptI l db gap) (fun i _ => (l.length - i).toNat) 0 [] ⟨by omega, by omega, by simp, fun _ => rfl, by omega, fun h => by unfold repW; rw [if_pos (by omega)]⟩ rfl ?_
    rintro i out ⟨g1, g2, g3, g4, g5, g6⟩
    unfold rptSt
    by_cases hi : i < l.length
    · have em := getD_map_at smpC l i [] g1 hi
      by_cases hz : i = 0
      · subst hz
        obtain rfl := g4 rfl
        simp (maxSteps := 1000000) (disch := omega) only [go_sem, eq_self, decide_true, decide_false, not_true_eq_false, not_false_eq_true, reduceIte, reduceCtorEq, Nat.reduceEqDiff, Nat.reduceAdd, Nat.reduceSub, Nat.reduceLeDiff]
        refine ⟨0 + 1, [0], by simp [rptSt, intC_eq], rptI_on (by omega) hi (by simp) (by simp) (by simp [kk]) (by simp [kk]) ?_, by omega⟩
        unfold repW; rw [if_neg (by omega)]; simp [kk]
      · obtain ⟨k1, k2, k3, k4⟩ := g5 (by omega) hi
        have ek := getD_map_at smpC l (kk out) [] k2 (by omega)
        have eo : (out.map intC).getD ((out.length : Int) - 1).toNat [] = intC (kk out) := getD_map_in _ _ _ _ (by omega)
        have eo2 : (out.map intC)[((out.length : Int) - 1).toNat]? = some (intC (kk out)) := getE_map_in _ _ _ (by omega)
        have hoi := hg.ok i.toNat (by omega)
        have hok := hg.ok (kk out).toNat (by omega)
        have hup := hg.up (kk out).toNat i.toNat (by omega) (by omega)
        have e2 : (i + 1).toNat = i.toNat + 1 := by omega
        rw [drop_cons l i.toNat (by omega), repGo, ← e2] at k4
        unfold okSmp at hoi hok
        by_cases hc : repCh db gap (l.getD i.toNat default) (l.getD (kk out).toNat default)
        · rw [if_pos hc] at k4
          by_cases hj : kk out < i - 1
          · rw [if_pos hj] at k4
            have fin : rptI l db gap (i + 1) (out ++ [i - 1] ++ [i]) := rptI_on g1 hi (by simp; omega) (by simp) (by rw [kk_app]; omega) (by rw [kk_app]; omega) (by rw [kk_app]; simpa using k4)
            have hx : (¬(l.getD i.toNat default).q = (l.getD (kk out).toNat default).q) ∨ ((l.getD i.toNat default).q = (l.getD (kk out).toNat default).q ∧ max ((l.getD i.toNat default).v - (l.getD (kk out).toNat default).v) (0 - ((l.getD i.toNat default).v - (l.getD (kk out).toNat default).v)) > db) ∨ ((l.getD i.toNat default).q = (l.getD (kk out).toNat default).q ∧ ¬max ((l.getD i.toNat default).v - (l.getD (kk out).toNat default).v) (0 - ((l.getD i.toNat default).v - (l.getD (kk out).toNat default).v)) > db ∧ (l.getD i.toNat default).a - (l.getD (kk out).toNat default).a ≥ gap) := by unfold repCh at hc; omega
            clear hc
            simp only [kk] at k2 k3 k4 ek eo eo2 hoi hok hup hj hx
            rcases hx with hx | ⟨hx, hx2⟩ | ⟨hx, hx2, hx3⟩
            all_goals
              simp (maxSteps := 1000000) (disch := omega) only [go_sem, eq_self, decide_true, decide_false, not_true_eq_false, not_false_eq_true, reduceIte, reduceCtorEq, Nat.reduceEqDiff, Nat.reduceAdd, Nat.reduceSub, Nat.reduceLeDiff]
              exact ⟨i + 1, out ++ [i - 1] ++ [i], by simp [rptSt, intC_eq], fin, by omega⟩
          · rw [if_neg hj] at k4
            have fin : rptI l db gap (i + 1) (out ++ [i]) := rptI_on g1 hi (by simp; omega) (by simp) (by rw [kk_app]; omega) (by rw [kk_app]; omega) (by rw [kk_app]; simpa using k4)
            have hx : (¬(l.getD i.toNat default).q = (l.getD (kk out).toNat default).q) ∨ ((l.getD i.toNat default).q = (l.getD (kk out).toNat default).q ∧ max ((l.getD i.toNat default).v - (l.getD (kk out).toNat default).v) (0 - ((l.getD i.toNat default).v - (l.getD (kk out).toNat default).v)) > db) ∨ ((l.getD i.toNat default).q = (l.getD (kk out).toNat default).q ∧ ¬max ((l.getD i.toNat default).v - (l.getD (kk out).toNat default).v) (0 - ((l.getD i.toNat default).v - (l.getD (kk out).toNat default).v)) > db ∧ (l.getD i.toNat default).a - (l.getD (kk out).toNat default).a ≥ gap) := by unfold repCh at hc; omega
            clear hc
            simp only [kk] at k2 k3 k4 ek eo eo2 hoi hok hup hj hx
            rcases hx with hx | ⟨hx, hx2⟩ | ⟨hx, hx2, hx3⟩
            all_goals
              simp (maxSteps := 1000000) (disch := omega) only [go_sem, eq_self, decide_true, decide_false, not_true_eq_false, not_false_eq_true, reduceIte, reduceCtorEq, Nat.reduceEqDiff, Nat.reduceAdd, Nat.reduceSub, Nat.reduceLeDiff]
              exact ⟨i + 1, out ++ [i], by simp [rptSt, intC_eq], fin, by omega⟩
        · rw [if_neg hc] at k4
          obtain ⟨n1, n2, n3⟩ := repCh_out hc
          clear hc
          by_cases hj : i + 1 = l.length
          · rw [if_pos (by rw [List.length_drop]; omega), List.drop_eq_nil_of_le (by omega), repGo, List.append_nil] at k4
            simp only [kk] at k2 k3 ek eo eo2 hoi hok hup n1 n2 n3
            simp (maxSteps := 1000000) (disch := omega) only [go_sem, eq_self, decide_true, decide_false, not_true_eq_false, not_false_eq_true, reduceIte, reduceCtorEq, Nat.reduceEqDiff, Nat.reduceAdd, Nat.reduceSub, Nat.reduceLeDiff]
            exact ⟨i + 1, out ++ [i], by simp [rptSt, intC_eq], ⟨by omega, by omega, by simp; omega, by omega, by omega, fun _ => k4⟩, by omega⟩
          · rw [if_neg (by rw [List.length_drop]; omega), List.nil_append] at k4
            have fin := rptI_on g1 hi (by omega) k1 k2 (by omega) k4
            simp only [kk] at k2 k3 ek eo eo2 hoi hok hup n1 n2 n3
            simp (maxSteps := 1000000) (disch := omega) only [go_sem, eq_self, decide_true, decide_false, not_true_eq_false, not_false_eq_true, reduceIte, reduceCtorEq, Nat.reduceEqDiff, Nat.reduceAdd, Nat.reduceSub, Nat.reduceLeDiff]
            exact ⟨_, _, rfl, fin, by omega⟩
    · simp (maxSteps := 1000000) (disch := omega) only [go_sem, eq_self, decide_true, decide_false, not_true_eq_false, not_false_eq_true, reduceIte, reduceCtorEq, Nat.reduceEqDiff, Nat.reduceAdd, Nat.reduceSub, Nat.reduceLeDiff]
      rw [g6 (by omega)]
  · rw [if_pos (show orSp [excF db gap, serFault l] ≠ 0 by omega)]
    simp (maxSteps := 1000000) (disch := omega) only [go_sem, eq_self, decide_true, decide_false, not_true_eq_false, not_false_eq_true, reduceIte, reduceCtorEq, Nat.reduceEqDiff, Nat.reduceAdd, Nat.reduceSub, Nat.reduceLeDiff]
    rfl
end Go.Proofs.Ytkecmbgjhamhiaa


/-
  Crossings of a limit, continued: the two functions themselves.
-/
import Derived.Test.YtggbcgldnjmobaaDoorCross
import Derived.Test.YtggbcgldnjmobaaDoorPts
namespace Go.Proofs.YtggbcgldnjmobaaDoor
open Go Go.Ai
set_option linter.unusedSimpArgs false
set_option linter.unusedVariables false
set_option maxHeartbeats 4000000
theorem lowG_dvd (n d : Int) (hd : 1 ≤ d) : lowG n d ∣ n ∧ lowG n d ∣ d := by
  unfold lowG
  have h1 := Nat.gcd_dvd_left (max n (0 - n)).toNat d.toNat
  have h2 := Nat.gcd_dvd_right (max n (0 - n)).toNat d.toNat
  have h3 := Int.natCast_dvd_natCast.2 h1
  have h4 := Int.natCast_dvd_natCast.2 h2
  have e1 : ((max n (0 - n)).toNat : Int) = max n (0 - n) := by omega
  have e2 : (d.toNat : Int) = d := by omega
  rw [e1] at h3; rw [e2] at h4
  refine ⟨?_, h4⟩
  by_cases h : 0 ≤ n
  · have e3 : max n (0 - n) = n := by omega
    rw [e3] at h3 ⊢; exact h3
  · have e3 : max n (0 - n) = -n := by omega
    rw [e3] at h3 ⊢; exact Int.dvd_neg.1 h3
theorem low_eq (n d : Int) (hd : 1 ≤ d) : n = lowG n d * lowN n d ∧ d = lowG n d * lowD n d ∧ 1 ≤ lowG n d ∧ 1 ≤ lowD n d := by
  obtain ⟨h1, h2⟩ := lowG_dvd n d hd
  have h3 := lowG_pos n d hd
  have e1 : lowG n d * lowN n d = n := by unfold lowN; exact Int.mul_tdiv_cancel' h1
  have e2 : lowG n d * lowD n d = d := by unfold lowD; exact Int.mul_tdiv_cancel' h2
  refine ⟨e1.symm, e2.symm, h3, ?_⟩
  rcases Int.lt_or_le 0 (lowD n d) with h | h
  · omega
  · have := Int.mul_nonpos_of_nonneg_of_nonpos (show 0 ≤ lowG n d by omega) h
    omega
theorem lowN_one (n : Int) : lowN n 1 = n := by
  have h : lowG n 1 = 1 := by unfold lowG; simp
  unfold lowN; rw [h, Int.tdiv_one]
theorem lowD_one (n : Int) : lowD n 1 = 1 := by
  have h : lowG n 1 = 1 := by unfold lowG; simp
  unfold lowD; rw [h, Int.tdiv_one]
theorem low_win (f n d : Int) (hd : 1 ≤ d) : (f * lowD n d ≤ lowN n d ↔ f * d ≤ n) ∧ (lowN n d < f * lowD n d ↔ n < f * d) := by
  obtain ⟨h1, h2, h3, h4⟩ := low_eq n d hd
  generalize lowG n d = g at *
  generalize lowN n d = N at *
  generalize lowD n d = D at *
  subst h1; subst h2
  have e : f * (g * D) = g * (f * D) := by rw [Int.mul_left_comm]
  rw [e]
  exact ⟨(Int.mul_le_mul_left (by omega)).symm, (Int.mul_lt_mul_left (by omega)).symm⟩
theorem getD_map_at {α β : Type} [Inhabited α] (C : α → β) (l : List α) (i : Int) (d : β) (h0 : 0 ≤ i) (h : i < l.length) : (l.map C).getD i.toNat d = C (l.getD i.toNat default) := getD_map_in C l i.toNat d (by omega)
def stOf (l : List Smp) (from_ i : Int) : Option (Smp × Option Int) := if from_ < 0 then none else some (l.getD from_.toNat default, nxt l from_ i)
def limF (L : Int) : Int := if -1000000 ≤ L ∧ L ≤ 1000000 then 0 else 1
theorem limitFault_fc (L : Int) : FC Tryd.prog 40 none [iv L] (fun _ r => r = iv (limF L)) := by
  refine fc_limitFault (by simp +arith) ?_
  unfold C_limitFault
  simp (maxSteps := 1000000) (disch := omega) only [go_sem, eq_self, decide_true, decide_false, not_true_eq_false, not_false_eq_true, reduceIte, reduceCtorEq, Nat.reduceEqDiff, Nat.reduceAdd, Nat.reduceSub, Nat.reduceLeDiff]
  refine CALL_det (spanFault1_fc _ _ _) (.inl rfl) ?_
  simp (maxSteps := 1000000) (disch := omega) only [go_sem, eq_self, decide_true, decide_false, not_true_eq_false, not_false_eq_true, reduceIte, reduceCtorEq, Nat.reduceEqDiff, Nat.reduceAdd, Nat.reduceSub, Nat.reduceLeDiff]
  (repeat' (first | apply And.intro | intro _)) <;> first | rfl | omega | exact iv_congr (by first | omega | ((try simp only [limF]); (repeat' split) <;> (first | omega | (simp_all; done) | (simp_all; omega)))) | exact bv_dec (by first | omega | ((try simp only [limF]); (repeat' split) <;> omega)) | exact bv_ndec (by first | omega | ((try simp only [limF]); (repeat' split) <;> omega)) | exact bv_f (by first | omega | ((try simp only [limF]); (repeat' split) <;> omega)) | exact bv_t (by first | omega | ((try simp only [limF]); (repeat' split) <;> omega))
def crsSp (l : List Smp) (f t L : Int) : List (Int × Int) × Int :=
  if bothFault l f t ≠ 0 then ([], bothFault l f t) else if limF L ≠ 0 then ([], limF L) else (crGo L f t none l, 0)
end Go.Proofs.YtggbcgldnjmobaaDoor

/-
  Crossings of a limit, continued: the two functions themselves.
-/
import Derived.Test.YtkecmbgjhamhiaaCross
import Derived.Test.YtkecmbgjhamhiaaPts
namespace Go.Proofs.Ytkecmbgjhamhiaa
open Go Go.Ai
set_option linter.unusedSimpArgs false
set_option linter.unusedVariables false
set_option maxHeartbeats 4000000
theorem lowG_dvd (n d : Int) (hd : 1 ≤ d) : lowG n d ∣ n ∧ lowG n d ∣ d := by
  unfold lowG
  have h1 := Nat.gcd_dvd_left (max n (0 - n)).toNat d.toNat
  have h2 := Nat.gcd_dvd_right (max n (0 - n)).toNat d.toNat
  have h3 := Int.natCast_dvd_natCast.2 h1
  have h4 := Int.natCast_dvd_natCast.2 h2
  have e1 : ((max n (0 - n)).toNat : Int) = max n (0 - n) := by omega
  have e2 : (d.toNat : Int) = d := by omega
  rw [e1] at h3; rw [e2] at h4
  refine ⟨?_, h4⟩
  by_cases h : 0 ≤ n
  · have e3 : max n (0 - n) = n := by omega
    rw [e3] at h3 ⊢; exact h3
  · have e3 : max n (0 - n) = -n := by omega
    rw [e3] at h3 ⊢; exact Int.dvd_neg.1 h3
theorem low_eq (n d : Int) (hd : 1 ≤ d) : n = lowG n d * lowN n d ∧ d = lowG n d * lowD n d ∧ 1 ≤ lowG n d ∧ 1 ≤ lowD n d := by
  obtain ⟨h1, h2⟩ := lowG_dvd n d hd
  have h3 := lowG_pos n d hd
  have e1 : lowG n d * lowN n d = n := by unfold lowN; exact Int.mul_tdiv_cancel' h1
  have e2 : lowG n d * lowD n d = d := by unfold lowD; exact Int.mul_tdiv_cancel' h2
  refine ⟨e1.symm, e2.symm, h3, ?_⟩
  rcases Int.lt_or_le 0 (lowD n d) with h | h
  · omega
  · have := Int.mul_nonpos_of_nonneg_of_nonpos (show 0 ≤ lowG n d by omega) h
    omega
theorem lowN_one (n : Int) : lowN n 1 = n := by
  have h : lowG n 1 = 1 := by unfold lowG; simp
  unfold lowN; rw [h, Int.tdiv_one]
theorem lowD_one (n : Int) : lowD n 1 = 1 := by
  have h : lowG n 1 = 1 := by unfold lowG; simp
  unfold lowD; rw [h, Int.tdiv_one]
theorem low_win (f n d : Int) (hd : 1 ≤ d) : (f * lowD n d ≤ lowN n d ↔ f * d ≤ n) ∧ (lowN n d < f * lowD n d ↔ n < f * d) := by
  obtain ⟨h1, h2, h3, h4⟩ := low_eq n d hd
  generalize lowG n d = g at *
  generalize lowN n d = N at *
  generalize lowD n d = D at *
  subst h1; subst h2
  have e : f * (g * D) = g * (f * D) := by rw [Int.mul_left_comm]
  rw [e]
  exact ⟨(Int.mul_le_mul_left (by omega)).symm, (Int.mul_lt_mul_left (by omega)).symm⟩
theorem getD_map_at {α β : Type} [Inhabited α] (C : α → β) (l : List α) (i : Int) (d : β) (h0 : 0 ≤ i) (h : i < l.length) : (l.map C).getD i.toNat d = C (l.getD i.toNat default) := getD_map_in C l i.toNat d (by omega)
def stOf (l : List Smp) (from_ i : Int) : Option (Smp × Option Int) := if from_ < 0 then none else some (l.getD from_.toNat default, nxt l from_ i)
def crossSt (l : List Smp) (f t L i from_ : Int) (acc : List (Int × Int)) : AS := ⟨tabV [(0, smps false l), (2, iv L), (4, .one (.bx 4 0)), (9, .one (.ow 9 0)), (10, iv from_), (23, smps false l), (24, iv l.length), (25, iv i)], tabO [(4, [.g (.int .i64 f), .g (.int .i64 t)])], tabO [(9, ⟨0, 37, 2, acc.map frC⟩)]⟩
def limF (L : Int) : Int := if -1000000 ≤ L ∧ L ≤ 1000000 then 0 else 1
theorem limitFault_fc (L : Int) : FC Try.prog 51 none [iv L] (fun _ r => r = iv (limF L)) := by
  refine fc_limitFault (by simp +arith) ?_
  unfold C_limitFault
  simp (maxSteps := 1000000) (disch := omega) only [go_sem, eq_self, decide_true, decide_false, not_true_eq_false, not_false_eq_true, reduceIte, reduceCtorEq, Nat.reduceEqDiff, Nat.reduceAdd, Nat.reduceSub, Nat.reduceLeDiff]
  refine CALL_det (spanFault1_fc _ _ _) (.inl rfl) ?_
  simp (maxSteps := 1000000) (disch := omega) only [go_sem, eq_self, decide_true, decide_false, not_true_eq_false, not_false_eq_true, reduceIte, reduceCtorEq, Nat.reduceEqDiff, Nat.reduceAdd, Nat.reduceSub, Nat.reduceLeDiff]
  (repeat' (first | apply And.intro | intro _)) <;> first | rfl | omega | exact iv_congr (by first | omega | ((try simp only [limF]); (repeat' split) <;> (first | omega | (simp_all; done) | (simp_all; omega)))) | exact bv_dec (by first | omega | ((try simp only [limF]); (repeat' split) <;> omega)) | exact bv_ndec (by first | omega | ((try simp only [limF]); (repeat' split) <;> omega)) | exact bv_f (by first | omega | ((try simp only [limF]); (repeat' split) <;> omega)) | exact bv_t (by first | omega | ((try simp only [limF]); (repeat' split) <;> omega))
def crsSp (l : List Smp) (f t L : Int) : List (Int × Int) × Int :=
  if bothFault l f t ≠ 0 then ([], bothFault l f t) else if limF L ≠ 0 then ([], limF L) else (crGo L f t none l, 0)
theorem crossings_fc (l : List Smp) (hl : l.length ≤ 4611686018427387904) (f t L : Int) : FC Try.prog 49 none [smps false l, winV f t, iv L] (fun _ r => r = .tu [frsV true (crsSp l f t L).1, iv (crsSp l f t L).2]) := by
  refine fc_crossings (by simp +arith) ?_
  unfold C_crossings
  simp (maxSteps := 1000000) (disch := omega) only [go_sem, eq_self, decide_true, decide_false, not_true_eq_false, not_false_eq_true, reduceIte, reduceCtorEq, Nat.reduceEqDiff, Nat.reduceAdd, Nat.reduceSub, Nat.reduceLeDiff]
  refine CALL_det (fault_fc l hl f t) (.inl rfl) ?_
  by_cases h1 : bothFault l f t = 0
  · obtain ⟨h2, h3⟩ := bothFault_ok h1
    have hg := good_of h2
    have hw := winFault_ok h3
    have hlen := hg.len
    simp (maxSteps := 1000000) (disch := omega) only [go_sem, eq_self, decide_true, decide_false, not_true_eq_false, not_false_eq_true, reduceIte, reduceCtorEq, Nat.reduceEqDiff, Nat.reduceAdd, Nat.reduceSub, Nat.reduceLeDiff]
    refine CALL_det (out_fc _ _ _) (.inl rfl) ?_
    by_cases h4 : L < -1000000 ∨ L > 1000000
    · have e : crsSp l f t L = ([], 1) := by
        have h5 : limF L = 1 := by unfold limF; rw [if_neg (by omega)]
        unfold crsSp; rw [if_neg (by omega), if_pos (by omega), h5]
      rw [e]
      simp (maxSteps := 1000000) (disch := omega) only [go_sem, eq_self, decide_true, decide_false, not_true_eq_false, not_false_eq_true, reduceIte, reduceCtorEq, Nat.reduceEqDiff, Nat.reduceAdd, Nat.reduceSub, Nat.reduceLeDiff]
      rfl
    · have e : crsSp l f t L = (crGo L f t none l, 0) := by
        have h5 : limF L = 0 := by unfold limF; rw [if_pos (by omega)]
        unfold crsSp; rw [if_neg (by omega), if_neg (by omega)]
      rw [e]
      simp (maxSteps := 1000000) (disch := omega) only [go_sem, eq_self, decide_true, decide_false, not_true_eq_false, not_false_eq_true, reduceIte, reduceCtorEq, Nat.reduceEqDiff, Nat.reduceAdd, Nat.reduceSub, Nat.reduceLeDiff]
      refine ex_loop3 (crossSt l f t L) (fun i from_ acc => 0 ≤ i ∧ i ≤ l.length ∧ -1 ≤ from_ ∧ from_ < i ∧ (0 ≤ from_ → (l.getD from_.toNat default).q ≠ 2 ∧ sd L (l.getD from_.toNat default).v ≠ 0) ∧ acc.length ≤ i ∧ acc ++ crGo L f t (stOf l from_ i) (l.drop i.toNat) = crGo L f t none l) (fun i _ _ => (l.length - i).toNat) 0 (-1) [] ⟨by omega, by omega, by omega, by omega, by omega, by simp, by simp [stOf]⟩ rfl ?_
      rintro i from_ acc ⟨g1, g2, g3, g4, g5, g6, g7⟩
      unfold crossSt
      by_cases hi : i < l.length
      · have e2 : (i + 1).toNat = i.toNat + 1 := by omega
        have hok := hg.ok i.toNat (by omega)
        rw [drop_cons l i.toNat (by omega), crGo, ← e2] at g7
        have em := getD_map_at smpC l i [] g1 hi
        simp (maxSteps := 1000000) (disch := omega) only [go_sem, eq_self, decide_true, decide_false, not_true_eq_false, not_false_eq_true, reduceIte, reduceCtorEq, Nat.reduceEqDiff, Nat.reduceAdd, Nat.reduceSub, Nat.reduceLeDiff]
        refine CALL_det (side_fc (l.getD i.toNat default) L) (.inl rfl) ?_
        by_cases c1 : (l.getD i.toNat default).q = 2
        · rw [if_pos c1] at g7
          simp (maxSteps := 1000000) (disch := omega) only [go_sem, eq_self, decide_true, decide_false, not_true_eq_false, not_false_eq_true, reduceIte, reduceCtorEq, Nat.reduceEqDiff, Nat.reduceAdd, Nat.reduceSub, Nat.reduceLeDiff]
          exact ⟨_, _, _, rfl, ⟨by omega, by omega, by omega, by omega, by omega, by omega, g7⟩, by omega⟩
        · rw [if_neg c1] at g7
          by_cases c2 : sd L (l.getD i.toNat default).v = 0
          · rw [if_neg (by omega)] at g7
            have e3 : (stOf l from_ i).map (fun p => (p.1, some (p.2.getD (l.getD i.toNat default).a))) = stOf l from_ (i + 1) := by
              unfold stOf
              by_cases h : from_ < 0
              · rw [if_pos h, if_pos h]; rfl
              · rw [if_neg h, if_neg h]
                simp only [Option.map_some, Option.some.injEq, Prod.mk.injEq, true_and, nxt]
                rw [if_pos (show i + 1 > from_ + 1 by omega)]
                by_cases h6 : i > from_ + 1
                · rw [if_pos h6]; rfl
                · rw [if_neg h6]
                  have : from_ + 1 = i := by omega
                  rw [this]; rfl
            rw [e3] at g7
            simp (maxSteps := 1000000) (disch := omega) only [go_sem, eq_self, decide_true, decide_false, not_true_eq_false, not_false_eq_true, reduceIte, reduceCtorEq, Nat.reduceEqDiff, Nat.reduceAdd, Nat.reduceSub, Nat.reduceLeDiff]
            exact ⟨_, _, _, rfl, ⟨by omega, by omega, by omega, by omega, g5, by omega, g7⟩, by omega⟩
          · rw [if_pos c2] at g7
            have e4 : some (l.getD i.toNat default, (none : Option Int)) = stOf l i (i + 1) := by
              unfold stOf nxt; rw [if_neg (by omega), if_neg (by omega)]
            rw [e4] at g7
            by_cases c3 : from_ < 0
            · have e5 : stOf l from_ i = none := by unfold stOf; rw [if_pos c3]
              rw [e5] at g7
              simp only [emitO, List.nil_append] at g7
              simp (maxSteps := 1000000) (disch := omega) only [go_sem, eq_self, decide_true, decide_false, not_true_eq_false, not_false_eq_true, reduceIte, reduceCtorEq, Nat.reduceEqDiff, Nat.reduceAdd, Nat.reduceSub, Nat.reduceLeDiff]
              exact ⟨_, _, _, rfl, ⟨by omega, by omega, by omega, by omega, fun _ => ⟨c1, c2⟩, by omega, g7⟩, by omega⟩
            · have e5 : stOf l from_ i = some (l.getD from_.toNat default, nxt l from_ i) := by unfold stOf; rw [if_neg c3]
              rw [e5] at g7
              simp only [emitO] at g7
              obtain ⟨g8, g9⟩ := g5 (by omega)
              have ef := getD_map_at smpC l from_ [] (by omega) (by omega)
              simp (maxSteps := 1000000) (disch := omega) only [go_sem, eq_self, decide_true, decide_false, not_true_eq_false, not_false_eq_true, reduceIte, reduceCtorEq, Nat.reduceEqDiff, Nat.reduceAdd, Nat.reduceSub, Nat.reduceLeDiff]
              refine CALL_det (side_fc (l.getD from_.toNat default) L) (.inl rfl) ?_
              have hof := hg.ok from_.toNat (by omega)
              have hlt := hg.up from_.toNat i.toNat (by omega) (by omega)
              by_cases c4 : sd L (l.getD i.toNat default).v = sd L (l.getD from_.toNat default).v
              · have e6 : emit L f t (l.getD from_.toNat default) (nxt l from_ i) (l.getD i.toNat default) = [] := by
                  unfold emit; rw [if_neg]; rintro ⟨_, _, h⟩
                  rcases sd_cases L (l.getD i.toNat default).v with ⟨_, h'⟩ | ⟨_, h'⟩ | ⟨_, h'⟩ <;> rw [← c4, h'] at h <;> omega
                rw [e6, List.nil_append] at g7
                simp (maxSteps := 1000000) (disch := omega) only [go_sem, eq_self, decide_true, decide_false, not_true_eq_false, not_false_eq_true, reduceIte, reduceCtorEq, Nat.reduceEqDiff, Nat.reduceAdd, Nat.reduceSub, Nat.reduceLeDiff]
                exact ⟨_, _, _, rfl, ⟨by omega, by omega, by omega, by omega, fun _ => ⟨c1, c2⟩, by omega, g7⟩, by omega⟩
              · have hs : sd L (l.getD from_.toNat default).v * sd L (l.getD i.toNat default).v < 0 := by
                  rcases sd_cases L (l.getD i.toNat default).v with ⟨_, h'⟩ | ⟨_, h'⟩ | ⟨_, h'⟩ <;> rcases sd_cases L (l.getD from_.toNat default).v with ⟨_, h''⟩ | ⟨_, h''⟩ | ⟨_, h''⟩ <;> rw [h', h''] <;> omega
                have ho := opp_of hs
                have hbd := crN_bd hof hok (by omega) hlt ho
                simp (maxSteps := 1000000) (disch := omega) only [go_sem, eq_self, decide_true, decide_false, not_true_eq_false, not_false_eq_true, reduceIte, reduceCtorEq, Nat.reduceEqDiff, Nat.reduceAdd, Nat.reduceSub, Nat.reduceLeDiff]
                refine CALL_det (crossed_fc l hg L from_ i (by omega) (by omega) (by omega) hi ho) (.inl rfl) ?_
                have hP : 1 ≤ (crP L (l.getD from_.toNat default) (nxt l from_ i) (l.getD i.toNat default)).2 ∧ (crP L (l.getD from_.toNat default) (nxt l from_ i) (l.getD i.toNat default)).2 ≤ 2000000 ∧ 0 ≤ (crP L (l.getD from_.toNat default) (nxt l from_ i) (l.getD i.toNat default)).1 ∧ (crP L (l.getD from_.toNat default) (nxt l from_ i) (l.getD i.toNat default)).1 ≤ 2000000000000000000 := by
                  unfold nxt
                  by_cases h : i > from_ + 1
                  · rw [if_pos h]
                    have := hg.ok (from_ + 1).toNat (by omega)
                    unfold okSmp at this
                    simp only [crP]; omega
                  · rw [if_neg h]
                    simp only [crP]
                    have e7 : crN L (l.getD from_.toNat default) (l.getD i.toNat default) = (l.getD from_.toNat default).a * crD (l.getD from_.toNat default) (l.getD i.toNat default) + ((l.getD i.toNat default).a - (l.getD from_.toNat default).a) * max (L - (l.getD from_.toNat default).v) ((l.getD from_.toNat default).v - L) := rfl
                    rw [e7]; omega
                unfold emit at g7
                rw [if_pos ⟨g8, c1, hs⟩] at g7
                generalize crP L (l.getD from_.toNat default) (nxt l from_ i) (l.getD i.toNat default) = x at *
                obtain ⟨n, d⟩ := x
                simp only at hP g7
                have m1 := mul_bd (a := f) (b := d) (A := 345686400000) (B := 2000000) ⟨by omega, by omega⟩ ⟨by omega, by omega⟩
                have m2 := mul_bd (a := t) (b := d) (A := 345686400000) (B := 2000000) ⟨by omega, by omega⟩ ⟨by omega, by omega⟩
                by_cases c5 : f * d ≤ n
                · by_cases c6 : n < t * d
                  · rw [if_pos ⟨c5, c6⟩] at g7
                    simp (maxSteps := 1000000) (disch := omega) only [go_sem, eq_self, decide_true, decide_false, not_true_eq_false, not_false_eq_true, reduceIte, reduceCtorEq, Nat.reduceEqDiff, Nat.reduceAdd, Nat.reduceSub, Nat.reduceLeDiff]
                    refine CALL_det (fraction_fc n d (by omega) (by omega) (by omega)) (.inl rfl) ?_
                    simp (maxSteps := 1000000) (disch := omega) only [go_sem, eq_self, decide_true, decide_false, not_true_eq_false, not_false_eq_true, reduceIte, reduceCtorEq, Nat.reduceEqDiff, Nat.reduceAdd, Nat.reduceSub, Nat.reduceLeDiff]
                    refine ⟨i + 1, i, acc ++ [(lowN n d, lowD n d)], by simp only [crossSt, List.map_append, List.map_cons, List.map_nil, frC_eq], ⟨by omega, by omega, by omega, by omega, fun _ => ⟨c1, c2⟩, by simp; omega, by simpa using g7⟩, by omega⟩
                  · rw [if_neg (fun h => c6 h.2), List.nil_append] at g7
                    simp (maxSteps := 1000000) (disch := omega) only [go_sem, eq_self, decide_true, decide_false, not_true_eq_false, not_false_eq_true, reduceIte, reduceCtorEq, Nat.reduceEqDiff, Nat.reduceAdd, Nat.reduceSub, Nat.reduceLeDiff]
                    exact ⟨_, _, _, rfl, ⟨by omega, by omega, by omega, by omega, fun _ => ⟨c1, c2⟩, by omega, g7⟩, by omega⟩
                · rw [if_neg (fun h => c5 h.1), List.nil_append] at g7
                  simp (maxSteps := 1000000) (disch := omega) only [go_sem, eq_self, decide_true, decide_false, not_true_eq_false, not_false_eq_true, reduceIte, reduceCtorEq, Nat.reduceEqDiff, Nat.reduceAdd, Nat.reduceSub, Nat.reduceLeDiff]
                  exact ⟨_, _, _, rfl, ⟨by omega, by omega, by omega, by omega, fun _ => ⟨c1, c2⟩, by omega, g7⟩, by omega⟩
      · rw [List.drop_eq_nil_of_le (by omega)] at g7
        rw [crGo, List.append_nil] at g7
        simp (maxSteps := 1000000) (disch := omega) only [go_sem, eq_self, decide_true, decide_false, not_true_eq_false, not_false_eq_true, reduceIte, reduceCtorEq, Nat.reduceEqDiff, Nat.reduceAdd, Nat.reduceSub, Nat.reduceLeDiff]
        rw [g7]
  · simp (maxSteps := 1000000) (disch := omega) only [go_sem, eq_self, decide_true, decide_false, not_true_eq_false, not_false_eq_true, reduceIte, reduceCtorEq, Nat.reduceEqDiff, Nat.reduceAdd, Nat.reduceSub, Nat.reduceLeDiff]
    have e : crsSp l f t L = ([], bothFault l f t) := by unfold crsSp; rw [if_pos h1]
    rw [e]
    rfl
end Go.Proofs.Ytkecmbgjhamhiaa

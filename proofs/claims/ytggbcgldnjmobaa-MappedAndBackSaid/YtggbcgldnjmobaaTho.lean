
/-
  Values in thousandths.
-/
import Derived.Test.YtggbcgldnjmobaaCrossb
namespace Go.Proofs.Ytggbcgldnjmobaa
open Go Go.Ai
set_option linter.unusedSimpArgs false
set_option linter.unusedVariables false
set_option maxHeartbeats 4000000
def A_down : List Ann := [⟨(some ⟨[0,1], [], []⟩), [], [], [], []⟩, ⟨(some ⟨[0,1,5], [], []⟩), [], [], [], []⟩, ⟨(some ⟨[5,12], [], []⟩), [], [], [], []⟩, ⟨(some ⟨[5], [], []⟩), [], [], [], []⟩, ⟨(some ⟨[4], [], []⟩), [], [], [], []⟩]
def C_down : AC := (.seq (.reg false [⟨(some 4), none, .mv (.v (.int .i64 (0)))⟩] (some ⟨[0,1], [], []⟩))
  (.seq (.reg false [⟨(some 6), none, .mv (.t 0)⟩, ⟨(some 7), none, .mv (.t 1)⟩, ⟨(some 8), none, .bin .quo (.t 6) (.t 7)⟩, ⟨(some 5), none, .mv (.t 8)⟩] (some ⟨[0,1,5], [], []⟩))
  (.seq (.seq (.reg false [⟨(some 9), none, .mv (.t 0)⟩, ⟨(some 10), none, .mv (.t 1)⟩, ⟨(some 11), none, .bin .rem (.t 9) (.t 10)⟩, ⟨(some 12), none, .bin .lss (.t 11) (.v (.int .i64 (0)))⟩] (some ⟨[5,12], [], []⟩))
  (.cond (.t 12)
  (.reg false [⟨(some 13), none, .mv (.t 5)⟩, ⟨(some 14), none, .bin .sub (.t 13) (.v (.int .i64 (1)))⟩, ⟨(some 5), none, .mv (.t 14)⟩] (some ⟨[5], [], []⟩))
  .skip))
  (.seq (.reg false [⟨(some 15), none, .mv (.t 5)⟩, ⟨(some 4), none, .mv (.t 15)⟩] (some ⟨[4], [], []⟩))
  .ret))))
theorem c_down : compileCode Try.prog Try.f180.ntmps (Try.f180.body.getD .skip) A_down = some (C_down, []) := by kernel_rfl
theorem r_down : compileRes Try.prog Try.f180.results.toList = some [.t 4] := by kernel_rfl
theorem b_down : Try.f180.body = some (Try.f180.body.getD .skip) := by kernel_rfl
theorem n_down : (Try.f180.name == "runtime.NumGoroutine") = false := by kernel_rfl
theorem fc_down {xt : Option (List Cel)} {args : List Val} {R : List Cel → Val → Prop} (hn : (if xt.isSome then 1 else 0) + args.length ≤ Try.f180.ntmps) (h : ex Try.prog C_down [] (fpost xt [.t 4] R) (initSt xt args)) : FC Try.prog 180 xt args R :=
  fc_of_awp Try.func180 b_down n_down c_down r_down (of_decide_eq_true (by kernel_rfl)) hn h

def A_thousandths : List Ann := [⟨(some ⟨[0,1,2], [], []⟩), [], [], [], []⟩, ⟨(some ⟨[8,9], [8], []⟩), [], [], [], []⟩, ⟨(some ⟨[8,24], [8], []⟩), [], [], [], []⟩, ⟨(some ⟨[6,7], [], []⟩), [], [], [], []⟩, ⟨(some ⟨[8,10], [8], []⟩), [], [], [], []⟩, ⟨(some ⟨[6,7], [], []⟩), [], [], [], []⟩]
def C_thousandths : AC := (.seq (.reg false [⟨(some 6), none, .mv (.v (.int .i64 (0)))⟩, ⟨(some 7), none, .mv (.v (.bool false))⟩] (some ⟨[0,1,2], [], []⟩))
  (.seq (.reg false [⟨(some 12), none, .mv (.t 0)⟩, ⟨(some 13), none, .mv (.t 1)⟩, ⟨(some 14), none, .mv (.t 2)⟩, ⟨(some 15), none, .call (.f 112) [(.t 12), (.t 13), (.t 14)]⟩, ⟨(some 11), none, .mv (.t 15)⟩, ⟨(some 16), none, .extr (.t 11) 0⟩, ⟨(some 17), none, .extr (.t 11) 1⟩, ⟨(some 8), none, .alloc [(.int .i64 (0)), (.int .i64 (0)), (.int .i64 (0)), (.int .i64 (0))]⟩, ⟨none, none, .store 4 (.t 8) (.t 16)⟩, ⟨(some 9), none, .mv (.t 17)⟩] (some ⟨[8,9], [8], []⟩))
  (.seq (.seq (.reg false [⟨(some 18), none, .mv (.t 9)⟩, ⟨(some 19), none, .un .not (.t 18)⟩, ⟨(some 20), none, .mv (.t 19)⟩, ⟨(some 21), (some (20, false)), .fadr 3 (.t 8)⟩, ⟨(some 22), (some (20, false)), .load false 1 (.t 21)⟩, ⟨(some 23), (some (20, false)), .bin .eql (.t 22) (.v (.int .i64 (2)))⟩, ⟨(some 24), none, .pick (.t 20) (.v (.bool true)) (.t 23)⟩] (some ⟨[8,24], [8], []⟩))
  (.cond (.t 24)
  (.seq (.reg false [⟨(some 6), none, .mv (.v (.int .i64 (0)))⟩, ⟨(some 7), none, .mv (.v (.bool false))⟩] (some ⟨[6,7], [], []⟩))
  .ret)
  .skip))
  (.seq (.reg false [⟨(some 25), none, .fadr 1 (.t 8)⟩, ⟨(some 26), none, .fadr 0 (.t 25)⟩, ⟨(some 27), none, .load false 1 (.t 26)⟩, ⟨(some 28), none, .fadr 1 (.t 8)⟩, ⟨(some 29), none, .fadr 1 (.t 28)⟩, ⟨(some 30), none, .load false 1 (.t 29)⟩, ⟨(some 31), none, .call (.f 180) [(.t 27), (.t 30)]⟩, ⟨(some 10), none, .mv (.t 31)⟩] (some ⟨[8,10], [8], []⟩))
  (.seq (.reg false [⟨(some 32), none, .mv (.t 10)⟩, ⟨(some 33), none, .bin .mul (.t 32) (.v (.int .i64 (1000)))⟩, ⟨(some 34), none, .fadr 1 (.t 8)⟩, ⟨(some 35), none, .fadr 0 (.t 34)⟩, ⟨(some 36), none, .load false 1 (.t 35)⟩, ⟨(some 37), none, .mv (.t 10)⟩, ⟨(some 38), none, .fadr 1 (.t 8)⟩, ⟨(some 39), none, .fadr 1 (.t 38)⟩, ⟨(some 40), none, .load false 1 (.t 39)⟩, ⟨(some 41), none, .bin .mul (.t 37) (.t 40)⟩, ⟨(some 42), none, .bin .sub (.t 36) (.t 41)⟩, ⟨(some 43), none, .bin .mul (.t 42) (.v (.int .i64 (1000)))⟩, ⟨(some 44), none, .fadr 1 (.t 8)⟩, ⟨(some 45), none, .fadr 1 (.t 44)⟩, ⟨(some 46), none, .load false 1 (.t 45)⟩, ⟨(some 47), none, .bin .quo (.t 43) (.t 46)⟩, ⟨(some 48), none, .bin .add (.t 33) (.t 47)⟩, ⟨(some 6), none, .mv (.t 48)⟩, ⟨(some 7), none, .mv (.v (.bool true))⟩] (some ⟨[6,7], [], []⟩))
  .ret)))))
theorem c_thousandths : compileCode Try.prog Try.f153.ntmps (Try.f153.body.getD .skip) A_thousandths = some (C_thousandths, []) := by kernel_rfl
theorem r_thousandths : compileRes Try.prog Try.f153.results.toList = some [.t 6, .t 7] := by kernel_rfl
theorem b_thousandths : Try.f153.body = some (Try.f153.body.getD .skip) := by kernel_rfl
theorem n_thousandths : (Try.f153.name == "runtime.NumGoroutine") = false := by kernel_rfl
theorem fc_thousandths {xt : Option (List Cel)} {args : List Val} {R : List Cel → Val → Prop} (hn : (if xt.isSome then 1 else 0) + args.length ≤ Try.f153.ntmps) (h : ex Try.prog C_thousandths [] (fpost xt [.t 6, .t 7] R) (initSt xt args)) : FC Try.prog 153 xt args R :=
  fc_of_awp Try.func153 b_thousandths n_thousandths c_thousandths r_thousandths (of_decide_eq_true (by kernel_rfl)) hn h


theorem tdiv_floor (a b : Int) (hb : 1 ≤ b) : (if a.tmod b < 0 then a.tdiv b - 1 else a.tdiv b) = a / b := by
  have h1 := Int.emod_nonneg a (show b ≠ 0 by omega)
  have h2 := Int.emod_lt_of_pos a (show 0 < b by omega)
  have h4 : b ∣ a → a % b = 0 := fun h => Int.emod_eq_zero_of_dvd h
  have hs : Int.sign b = 1 := Int.sign_eq_one_of_pos (by omega)
  rw [Int.tdiv_eq_ediv, Int.tmod_eq_emod, hs]
  by_cases h : 0 ≤ a ∨ b ∣ a
  · rw [if_pos h, if_pos h, if_neg (by omega)]; omega
  · rw [if_neg h, if_neg h, if_pos (by omega)]; omega
theorem ediv_bd {n g B : Int} (hg : 1 ≤ g) (h1 : -B ≤ n) (h2 : n ≤ B) : -B ≤ n / g ∧ n / g ≤ B := by
  have e := Int.mul_ediv_add_emod n g
  have h3 := Int.emod_nonneg n (show g ≠ 0 by omega)
  have h4 := Int.emod_lt_of_pos n (show 0 < g by omega)
  refine ⟨Int.le_ediv_of_mul_le (by omega) ?_, ?_⟩
  · have h5 : -B * g ≤ -B * 1 ∨ B < 0 := by
      by_cases hB : B < 0
      · exact .inr hB
      · left
        have := Int.mul_le_mul_of_nonneg_left (show (1 : Int) ≤ g by omega) (show 0 ≤ B by omega)
        rw [Int.neg_mul, Int.neg_mul]; omega
    omega
  · have h5 : n / g ≤ B := by
      apply Int.ediv_le_of_le_mul (by omega)
      have := Int.mul_le_mul_of_nonneg_left (show (1 : Int) ≤ g by omega) (show 0 ≤ B by omega)
      omega
    exact h5
theorem down_fc (a b : Int) (ha : -4611686018427387904 ≤ a ∧ a ≤ 4611686018427387904) (hb : 1 ≤ b) : FC Try.prog 180 none [iv a, iv b] (fun _ r => r = iv (a / b)) := by
  refine fc_down (by simp +arith) ?_
  have h1 := tdiv_bd hb ha.1 ha.2
  have h2 := tdiv_floor a b hb
  unfold C_down
  simp (maxSteps := 1000000) (disch := omega) only [go_sem, eq_self, decide_true, decide_false, not_true_eq_false, not_false_eq_true, reduceIte, reduceCtorEq, Nat.reduceEqDiff, Nat.reduceAdd, Nat.reduceSub, Nat.reduceLeDiff]
  exact ⟨fun h => iv_congr (by rw [if_pos h] at h2; exact h2), fun h => iv_congr (by rw [if_neg h] at h2; exact h2)⟩
/-- A fraction in thousandths, rounded down. -/
def thS (n d : Int) : Int := 1000 * (n / d) + (1000 * (n % d)).tdiv d
theorem th_facts (n d : Int) (hn : -2000000000000000000 ≤ n ∧ n ≤ 2000000000000000000) (hd : 1 ≤ d) (hd2 : d ≤ 345686400000) (hq : -9000000000000 ≤ n / d ∧ n / d ≤ 9000000000000) :
    n - n / d * d = n % d ∧ 0 ≤ n % d ∧ n % d < d ∧ 0 ≤ (1000 * (n % d)).tdiv d ∧ (1000 * (n % d)).tdiv d ≤ 1000 * (n % d) ∧ n / d * d = n - n % d := by
  have e := Int.mul_ediv_add_emod n d
  have e2 := Int.mul_comm d (n / d)
  have h3 := Int.emod_nonneg n (show d ≠ 0 by omega)
  have h4 := Int.emod_lt_of_pos n (show 0 < d by omega)
  exact ⟨by omega, h3, h4, Int.tdiv_nonneg (by omega) (by omega), Int.tdiv_le_self _ (by omega), by omega⟩
def thV (l : List Smp) (st : Bool) (at_ : Int) : Int × Bool := if (valSp l st at_).2 = false ∨ (valSp l st at_).1.q = 2 then (0, false) else (thS (valSp l st at_).1.n (valSp l st at_).1.d, true)
/-- How large a value is. -/
theorem valSp_bd {l : List Smp} (hg : Good l) (st : Bool) {at_ : Int} (ha : 0 ≤ at_ ∧ at_ ≤ 345686400000) (h : (valSp l st at_).2 = true) :
    (-2000000000000000000 ≤ (valSp l st at_).1.n ∧ (valSp l st at_).1.n ≤ 2000000000000000000) ∧ 1 ≤ (valSp l st at_).1.d ∧ (valSp l st at_).1.d ≤ 345686400000 ∧ -1000000 ≤ (valSp l st at_).1.n / (valSp l st at_).1.d ∧ (valSp l st at_).1.n / (valSp l st at_).1.d ≤ 1000000 := by
  obtain ⟨h1, h2, h3, h4⟩ := hold_spec l at_ (fun i j h h' => hg.le i j h h')
  have hdef : valSp l st at_ = valSp l st at_ := rfl
  conv at hdef => rhs; unfold valSp
  rw [hdef] at h ⊢
  simp only [] at h ⊢
  split at h
  · cases h
  · rename_i hk
    have hok := hg.ok (hold l at_).toNat (by omega)
    rw [if_neg hk]
    by_cases hc : (l.getD (hold l at_).toNat default).q = 2 ∨ st = true ∨ (l.getD (hold l at_).toNat default).a = at_ ∨ hold l at_ + 1 = l.length ∨ (l.getD (hold l at_ + 1).toNat default).q = 2
    · rw [if_pos hc]
      unfold okSmp at hok
      simp only [Int.ediv_one]
      omega
    · rw [if_neg hc]
      simp only []
      have hc' : ¬ hold l at_ + 1 = l.length := fun h => hc (.inr (.inr (.inr (.inl h))))
      have hokn := hg.ok (hold l at_ + 1).toNat (by omega)
      have hup := hg.up (hold l at_).toNat (hold l at_ + 1).toNat (by omega) (by omega)
      have hb := lineN_bd hok hokn ha
      have ha2 := h3 (hold l at_).toNat (by omega) (by omega)
      have ha3 := h4 (hold l at_ + 1).toNat (by omega) (by omega)
      generalize l.getD (hold l at_).toNat default = p at *
      generalize l.getD (hold l at_ + 1).toNat default = n at *
      have hN : lineN p n at_ = p.v * (n.a - p.a) + (n.v - p.v) * (at_ - p.a) := rfl
      have hlow := low_eq (lineN p n at_) (n.a - p.a) (by omega)
      have hg2 := hlow.2.2.1
      have hD := tdiv_bd (n := n.a - p.a) (B := 345686400000) hg2 (by unfold okSmp at *; omega) (by unfold okSmp at *; omega)
      have hNb := tdiv_bd (n := lineN p n at_) (B := 2000000000000000000) hg2 (by omega) (by omega)
      have hd1 := hlow.2.2.2
      unfold okSmp at *
      -- the value lies between the two
      have key : -1000000 * (n.a - p.a) ≤ lineN p n at_ ∧ lineN p n at_ ≤ 1000000 * (n.a - p.a) := by
        have hx : lineN p n at_ = p.v * (n.a - at_) + n.v * (at_ - p.a) := by
          rw [hN, Int.sub_mul, Int.mul_sub, Int.mul_sub, Int.mul_sub, Int.mul_sub]; omega
        have m1 := Int.mul_le_mul_of_nonneg_right (show p.v ≤ 1000000 by omega) (show 0 ≤ n.a - at_ by omega)
        have m2 := Int.mul_le_mul_of_nonneg_right (show -1000000 ≤ p.v by omega) (show 0 ≤ n.a - at_ by omega)
        have m3 := Int.mul_le_mul_of_nonneg_right (show n.v ≤ 1000000 by omega) (show 0 ≤ at_ - p.a by omega)
        have m4 := Int.mul_le_mul_of_nonneg_right (show -1000000 ≤ n.v by omega) (show 0 ≤ at_ - p.a by omega)
        rw [hx]; omega
      have k2 : -1000000 * lowD (lineN p n at_) (n.a - p.a) ≤ lowN (lineN p n at_) (n.a - p.a) ∧ lowN (lineN p n at_) (n.a - p.a) ≤ 1000000 * lowD (lineN p n at_) (n.a - p.a) := by
        have w1 := (low_win (-1000000) (lineN p n at_) (n.a - p.a) (by omega)).1
        have w2 := (low_win 1000000 (lineN p n at_) (n.a - p.a) (by omega)).2
        have w3 := (low_win 1000000 (lineN p n at_) (n.a - p.a) (by omega)).1
        refine ⟨w1.2 key.1, ?_⟩
        obtain ⟨z1, z2, z3, z4⟩ := hlow
        generalize lowG (lineN p n at_) (n.a - p.a) = g at *
        generalize lowN (lineN p n at_) (n.a - p.a) = NN at *
        generalize lowD (lineN p n at_) (n.a - p.a) = DD at *
        have z5 : g * NN ≤ g * (1000000 * DD) := by rw [Int.mul_left_comm, ← z1, ← z2]; exact key.2
        exact Int.le_of_mul_le_mul_left z5 (by omega)
      have hD' : lowD (lineN p n at_) (n.a - p.a) ≤ 345686400000 := hD.2
      have hN' : -2000000000000000000 ≤ lowN (lineN p n at_) (n.a - p.a) ∧ lowN (lineN p n at_) (n.a - p.a) ≤ 2000000000000000000 := hNb
      refine ⟨hN', hd1, hD', Int.le_ediv_of_mul_le (by omega) k2.1, Int.ediv_le_of_le_mul (by omega) k2.2⟩
theorem thousandths_fc (l : List Smp) (hg : Good l) (st : Bool) (at_ : Int) (ha : 0 ≤ at_ ∧ at_ ≤ 345686400000) : FC Try.prog 153 none [smps false l, bv st, iv at_] (fun _ r => r = .tu [iv (thV l st at_).1, bv (thV l st at_).2]) := by
  refine fc_thousandths (by simp +arith) ?_
  unfold C_thousandths
  simp (maxSteps := 1000000) (disch := omega) only [go_sem, eq_self, decide_true, decide_false, not_true_eq_false, not_false_eq_true, reduceIte, reduceCtorEq, Nat.reduceEqDiff, Nat.reduceAdd, Nat.reduceSub, Nat.reduceLeDiff]
  refine CALL_det (valueAt_fc l st at_ hg ha) (.inl rfl) ?_
  have hbd := valSp_bd hg st ha
  unfold thV
  generalize valSp l st at_ = x at *
  obtain ⟨x, b⟩ := x
  cases b with
  | false =>
    simp only [if_pos (Or.inl rfl)]
    simp (maxSteps := 1000000) (disch := omega) only [go_sem, eq_self, decide_true, decide_false, not_true_eq_false, not_false_eq_true, reduceIte, reduceCtorEq, Nat.reduceEqDiff, Nat.reduceAdd, Nat.reduceSub, Nat.reduceLeDiff]
  | true =>
    simp only at hbd ⊢
    have hbd := hbd trivial
    obtain ⟨hn, hd, hd2, hq1, hq2⟩ := hbd
    by_cases h2 : x.q = 2
    · rw [if_pos (.inr h2)]
      simp (maxSteps := 1000000) (disch := omega) only [go_sem, eq_self, decide_true, decide_false, not_true_eq_false, not_false_eq_true, reduceIte, reduceCtorEq, Nat.reduceEqDiff, Nat.reduceAdd, Nat.reduceSub, Nat.reduceLeDiff]
    · rw [if_neg (by simp [h2])]
      obtain ⟨e1, e2, e3, e4, e5, e6⟩ := th_facts x.n x.d hn hd hd2 (by omega)
      simp (maxSteps := 1000000) (disch := omega) only [go_sem, eq_self, decide_true, decide_false, not_true_eq_false, not_false_eq_true, reduceIte, reduceCtorEq, Nat.reduceEqDiff, Nat.reduceAdd, Nat.reduceSub, Nat.reduceLeDiff]
      refine CALL_det (down_fc x.n x.d (by omega) hd) (.inl rfl) ?_
      have e7 : (x.n % x.d) * 1000 = 1000 * (x.n % x.d) := Int.mul_comm _ _
      rw [← e7] at e4 e5
      unfold thS
      rw [← e7, ← e1]
      rw [← e1] at e4 e5 e2 e3
      have e8 : 1000 * (x.n / x.d) = x.n / x.d * 1000 := Int.mul_comm _ _
      rw [e8]
      simp (maxSteps := 1000000) (disch := omega) only [go_sem, eq_self, decide_true, decide_false, not_true_eq_false, not_false_eq_true, reduceIte, reduceCtorEq, Nat.reduceEqDiff, Nat.reduceAdd, Nat.reduceSub, Nat.reduceLeDiff]
theorem thV_bd {l : List Smp} (hg : Good l) (st : Bool) {at_ : Int} (ha : 0 ≤ at_ ∧ at_ ≤ 345686400000) : -2000000000000000 ≤ (thV l st at_).1 ∧ (thV l st at_).1 ≤ 2000000000000000 := by
  have hbd := valSp_bd hg st ha
  unfold thV
  split
  · simp only []; omega
  · rename_i h
    have h2 : (valSp l st at_).2 = true := by
      cases h3 : (valSp l st at_).2 with
      | true => rfl
      | false => exact absurd (.inl h3) h
    obtain ⟨hn, hd, hd2, hq1, hq2⟩ := hbd h2
    obtain ⟨e1, e2, e3, e4, e5, e6⟩ := th_facts _ _ hn hd hd2 (by omega)
    simp only [thS]
    omega
end Go.Proofs.Ytggbcgldnjmobaa


/-
  Values at moments and at equal distances: the program's answers and the reference's are one; so the statement ValuesBetween holds.
-/
import Derived.Test.YtggbcgldnjmobaaDoorVal
import Derived.Test.YtggbcgldnjmobaaDoorGenB
namespace Go.Proofs.YtggbcgldnjmobaaDoor
open Go Go.Ai
set_option linter.unusedSimpArgs false
set_option linter.unusedVariables false
set_option maxHeartbeats 4000000
def A_orE : List Ann := [⟨(some ⟨[0], [], []⟩), [], [], [], []⟩, ⟨(some ⟨[0,3], [], []⟩), [], [], [], []⟩, ⟨(some ⟨[3,6,7,8], [], []⟩), [], [], [], []⟩, ⟨(some ⟨[3,6,7,8,9], [], []⟩), [], [], [], []⟩, ⟨(some ⟨[3,5,6,7,8], [], []⟩), [], [], [], []⟩, ⟨(some ⟨[3,5,6,7,8,14], [], []⟩), [], [], [], []⟩, ⟨(some ⟨[2], [], []⟩), [], [], [], []⟩, ⟨(some ⟨[3,6,7,8], [], []⟩), [], [], [], []⟩, ⟨(some ⟨[2], [], []⟩), [], [], [], []⟩]
def C_orE : AC := (.seq (.reg false [⟨(some 2), none, .mv (.v (.int .i64 (0)))⟩] (some ⟨[0], [], []⟩))
  (.seq (.reg false [⟨(some 3), none, .mv (.v (.int .i64 (0)))⟩] (some ⟨[0,3], [], []⟩))
  (.seq (.seq (.reg false [⟨(some 6), none, .mv (.t 0)⟩, ⟨(some 7), none, .len (.t 6)⟩, ⟨(some 8), none, .mv (.v (.int .i64 (0)))⟩] (some ⟨[3,6,7,8], [], []⟩))
  (.block 0 (.loop (.seq (.reg false [⟨(some 9), none, .bin .lss (.t 8) (.t 7)⟩] (some ⟨[3,6,7,8,9], [], []⟩))
  (.seq (.cond (.t 9)
  .skip
  (.exit 0))
  (.seq (.block 1 (.seq (.reg false [⟨(some 10), none, .iadr 1 (.t 6) (.t 8)⟩, ⟨(some 11), none, .load false 1 (.t 10)⟩, ⟨(some 5), none, .mv (.t 11)⟩] (some ⟨[3,5,6,7,8], [], []⟩))
  (.seq (.reg false [⟨(some 12), none, .mv (.t 5)⟩, ⟨(some 13), none, .mv (.t 3)⟩, ⟨(some 14), none, .bin .neq (.t 12) (.t 13)⟩] (some ⟨[3,5,6,7,8,14], [], []⟩))
  (.cond (.t 14)
  (.seq (.reg false [⟨(some 15), none, .mv (.t 5)⟩, ⟨(some 2), none, .mv (.t 15)⟩] (some ⟨[2], [], []⟩))
  .ret)
  .skip))))
  (.reg false [⟨(some 16), none, .bin .add (.t 8) (.v (.int .i64 (1)))⟩, ⟨(some 8), none, .mv (.t 16)⟩] (some ⟨[3,6,7,8], [], []⟩))))))))
  (.seq (.reg false [⟨(some 17), none, .mv (.t 3)⟩, ⟨(some 2), none, .mv (.t 17)⟩] (some ⟨[2], [], []⟩))
  .ret))))
theorem c_orE : compileCode Tryd.prog Tryd.f9.ntmps (Tryd.f9.body.getD .skip) A_orE = some (C_orE, []) := by kernel_rfl
theorem r_orE : compileRes Tryd.prog Tryd.f9.results.toList = some [.t 2] := by kernel_rfl
theorem b_orE : Tryd.f9.body = some (Tryd.f9.body.getD .skip) := by kernel_rfl
theorem n_orE : (Tryd.f9.name == "runtime.NumGoroutine") = false := by kernel_rfl
theorem fc_orE {xt : Option (List Cel)} {args : List Val} {R : List Cel → Val → Prop} (hn : (if xt.isSome then 1 else 0) + args.length ≤ Tryd.f9.ntmps) (h : ex Tryd.prog C_orE [] (fpost xt [.t 2] R) (initSt xt args)) : FC Tryd.prog 9 xt args R :=
  fc_of_awp Tryd.func9 b_orE n_orE c_orE r_orE (of_decide_eq_true (by kernel_rfl)) hn h



def vaSp (l : List Smp) (st : Bool) (at_ : Int) : Pt × Bool × Int :=
  if serFault l ≠ 0 then (ptZ, false, serFault l) else if momFault at_ ≠ 0 then (ptZ, false, 1) else ((valSp l st at_).1, (valSp l st at_).2, 0)
theorem momFault_ok {n : Int} (h : momFault n = 0) : 0 ≤ n ∧ n ≤ 345686399999 := by
  unfold momFault at h; split at h <;> omega
theorem momFault_01 (n : Int) : momFault n = 0 ∨ momFault n = 1 := by
  unfold momFault; split <;> omega
def ptsGo (l : List Smp) (st : Bool) (ev to : Int) : Nat → Int → List Pt
  | 0, _ => []
  | n + 1, a => if a < to then (if (valSp l st a).2 then [(valSp l st a).1] else []) ++ ptsGo l st ev to n (a + ev) else []
theorem ptsGo_fuel (l : List Smp) (st : Bool) (ev to : Int) (he : 1 ≤ ev) : ∀ (n m : Nat) (a : Int), (to - a).toNat ≤ n → (to - a).toNat ≤ m → ptsGo l st ev to n a = ptsGo l st ev to m a
  | 0, 0, _, _, _ => rfl
  | 0, m + 1, a, h, _ => by rw [ptsGo, ptsGo, if_neg (by omega)]
  | n + 1, 0, a, _, h => by rw [ptsGo, ptsGo, if_neg (by omega)]
  | n + 1, m + 1, a, h, h' => by
    rw [ptsGo, ptsGo]
    by_cases ha : a < to
    · rw [if_pos ha, if_pos ha, ptsGo_fuel l st ev to he n m (a + ev) (by omega) (by omega)]
    · rw [if_neg ha, if_neg ha]
/-- The values at a window's equal distances. -/
def pts (l : List Smp) (st : Bool) (f t ev : Int) : List Pt := ptsGo l st ev t (t - f).toNat f
theorem pts_step (l : List Smp) (st : Bool) (ev to a : Int) (he : 1 ≤ ev) (h : a < to) : pts l st a to ev = (if (valSp l st a).2 then [(valSp l st a).1] else []) ++ pts l st (a + ev) to ev := by
  unfold pts
  obtain ⟨n, hn⟩ : ∃ n, (to - a).toNat = n + 1 := ⟨(to - a).toNat - 1, by omega⟩
  rw [hn, ptsGo, if_pos h]
  congr 1
  exact ptsGo_fuel l st ev to he _ _ _ (by omega) (by omega)
theorem pts_end (l : List Smp) (st : Bool) (ev to a : Int) (h : ¬ a < to) : pts l st a to ev = [] := by
  unfold pts
  have : (to - a).toNat = 0 := by omega
  rw [this, ptsGo]
abbrev ptsV (fr : Bool) (l : List Pt) : Val := .one (.sl fr 4 (l.map ptC))
def ptsFault (l : List Smp) (f t ev : Int) : Int := if bothFault l f t ≠ 0 then bothFault l f t else evFault f t ev
theorem bothFault_ok {l : List Smp} {f t : Int} (h : bothFault l f t = 0) : serFault l = 0 ∧ winFault f t = 0 := by
  unfold bothFault at h; split at h <;> omega
theorem winFault_ok {f t : Int} (h : winFault f t = 0) : 0 ≤ f ∧ f ≤ t ∧ t ≤ 345686400000 := by
  unfold winFault at h; split at h <;> omega
theorem evFault_ok {f t e : Int} (h : evFault f t e = 0) : 1 ≤ e ∧ e ≤ 86400000 := by
  unfold evFault at h; split at h <;> omega
def orSp : List Int → Int
  | [] => 0
  | x :: l => if x ≠ 0 then x else orSp l
def orSt (fr : Bool) (l : List Int) (i : Int) : AS := ⟨tabV [(3, iv 0), (6, ints fr l), (7, iv l.length), (8, iv i)], tabO [], tabO []⟩
theorem orE_fc (fr : Bool) (l : List Int) (hl : l.length ≤ 4611686018427387904) : FC Tryd.prog 9 none [ints fr l] (fun _ r => r = iv (orSp l)) := by
  refine fc_orE (by simp +arith) ?_
  unfold C_orE
  simp (maxSteps := 1000000) (disch := omega) only [go_sem, eq_self, decide_true, decide_false, not_true_eq_false, not_false_eq_true, reduceIte, reduceCtorEq, Nat.reduceEqDiff, Nat.reduceAdd, Nat.reduceSub, Nat.reduceLeDiff]
  refine ex_loopI (orSt fr l) (fun i => 0 ≤ i ∧ i ≤ l.length ∧ orSp (l.drop i.toNat) = orSp l) (fun i => (l.length - i).toNat) 0 ⟨by omega, by omega, rfl⟩ rfl ?_
  rintro i ⟨g1, g2, g3⟩
  unfold orSt
  by_cases hi : i < l.length
  · rw [drop_cons l i.toNat (by omega), orSp] at g3
    have e2 : (i + 1).toNat = i.toNat + 1 := by omega
    simp (maxSteps := 1000000) (disch := omega) only [go_sem, eq_self, decide_true, decide_false, not_true_eq_false, not_false_eq_true, reduceIte, reduceCtorEq, Nat.reduceEqDiff, Nat.reduceAdd, Nat.reduceSub, Nat.reduceLeDiff]
    refine ⟨fun h => ?_, fun h => ⟨i + 1, ⟨by omega, by omega, ?_⟩, rfl, by omega⟩⟩
    · rw [if_pos h] at g3; rw [g3]
    · rw [if_neg h] at g3; rw [e2]; exact g3
  · simp (maxSteps := 1000000) (disch := omega) only [go_sem, eq_self, decide_true, decide_false, not_true_eq_false, not_false_eq_true, reduceIte, reduceCtorEq, Nat.reduceEqDiff, Nat.reduceAdd, Nat.reduceSub, Nat.reduceLeDiff]
    rw [← g3, List.drop_eq_nil_of_le (by omega)]
    rfl
def eqSt (fr fr' : Bool) (l : List Pt) (i : Int) : AS := ⟨tabV [(0, ptsV fr l), (1, ptsV fr' l), (12, iv l.length), (13, iv i)], tabO [], tabO []⟩
theorem vaSp_ok {l : List Smp} {at_ : Int} (st : Bool) (h : orSp [serFault l, momFault at_] = 0) : vaSp l st at_ = ((valSp l st at_).1, (valSp l st at_).2, 0) := by
  simp only [orSp] at h
  have h1 : serFault l = 0 := by by_cases e : serFault l = 0; exact e; rw [if_pos e] at h; exact h
  have h2 : momFault at_ = 0 := by rw [if_neg (by omega)] at h; by_cases e : momFault at_ = 0; exact e; rw [if_pos e] at h; exact h
  simp [vaSp, h1, h2]
theorem vaSp_no {l : List Smp} {at_ : Int} (st : Bool) (h : ¬ orSp [serFault l, momFault at_] = 0) : vaSp l st at_ = (ptZ, false, orSp [serFault l, momFault at_]) := by
  simp only [orSp] at h ⊢
  by_cases e : serFault l = 0
  · rw [if_neg (by omega)] at h ⊢
    have h2 : momFault at_ ≠ 0 := fun e2 => by rw [e2] at h; simp at h
    rw [if_pos h2]
    have := momFault_01 at_
    have h3 : momFault at_ = 1 := by omega
    simp [vaSp, e, h3]
  · simp [vaSp, e]
theorem one_ok {l : List Smp} {at_ : Int} (h : orSp [serFault l, momFault at_] = 0) : Good l ∧ 0 ≤ at_ ∧ at_ ≤ 345686399999 := by
  simp only [orSp] at h
  have h1 : serFault l = 0 := by by_cases e : serFault l = 0; exact e; rw [if_pos e] at h; exact h
  have h2 : momFault at_ = 0 := by rw [if_neg (by omega)] at h; by_cases e : momFault at_ = 0; exact e; rw [if_pos e] at h; exact h
  exact ⟨good_of h1, momFault_ok h2⟩
theorem ptsGo_len (l : List Smp) (st : Bool) (ev to : Int) : ∀ (n : Nat) (a : Int), (ptsGo l st ev to n a).length ≤ n
  | 0, _ => by simp [ptsGo]
  | n + 1, a => by
    rw [ptsGo]
    have := ptsGo_len l st ev to n (a + ev)
    split
    · cases (valSp l st a).2 <;> simp <;> omega
    · simp
theorem pts_len (l : List Smp) (st : Bool) (f t ev : Int) (_ : 1 ≤ ev) : (pts l st f t ev).length ≤ (t - f).toNat := ptsGo_len l st ev t _ f
theorem bothFault_or (l : List Smp) (f t : Int) : orSp [serFault l, winFault f t] = bothFault l f t := by
  simp only [orSp, bothFault]; (repeat' split) <;> omega
end Go.Proofs.YtggbcgldnjmobaaDoor

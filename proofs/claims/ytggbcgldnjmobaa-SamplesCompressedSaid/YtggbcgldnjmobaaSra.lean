
/-
  The reference's reconstruction: the samples around a moment, and the value between them.
-/
import Derived.Test.YtggbcgldnjmobaaRec
import Derived.Test.YtggbcgldnjmobaaCrossb
namespace Go.Proofs.Ytggbcgldnjmobaa
open Go Go.Ai
set_option linter.unusedSimpArgs false
set_option linter.unusedVariables false
set_option maxHeartbeats 4000000
def A_around : List Ann := [⟨(some ⟨[0,1,4,5], [4,5], []⟩), [], [], [], []⟩, ⟨(some ⟨[0,1,4,5,7,8], [4,5], []⟩), [], [], [], []⟩, ⟨(some ⟨[1,4,5,7,8,11,12,13], [4,5], []⟩), [], [], [], []⟩, ⟨(some ⟨[1,4,5,7,8,11,12,13,14], [4,5], []⟩), [], [], [], []⟩, ⟨(some ⟨[1,4,5,7,8,10,11,12,13], [4,5,10], []⟩), [], [], [], []⟩, ⟨(some ⟨[1,4,5,7,8,10,11,12,13,20], [4,5,10], []⟩), [], [], [], []⟩, ⟨(some ⟨[1,4,5,7,8,10,11,12,13], [4,5,10], []⟩), [], [], [], []⟩, ⟨(some ⟨[1,4,5,7,8,10,11,12,13,29], [4,5,10], []⟩), [], [], [], []⟩, ⟨(some ⟨[1,4,5,7,8,11,12,13], [4,5], []⟩), [], [], [], []⟩, ⟨(some ⟨[1,4,5,7,8,11,12,13], [4,5], []⟩), [], [], [], []⟩, ⟨(some ⟨[4,5,6], [4,5], []⟩), [], [(1, (some 5)), (16, (some 4))], [], []⟩]
def C_around : AC := (.seq (.reg false [⟨(some 4), none, .alloc [(.int .i64 (0)), (.int .i64 (0)), (.int .i64 (0))]⟩, ⟨(some 5), none, .alloc [(.int .i64 (0)), (.int .i64 (0)), (.int .i64 (0))]⟩, ⟨(some 6), none, .mv (.v (.bool false))⟩] (some ⟨[0,1,4,5], [4,5], []⟩))
  (.seq (.reg false [⟨(some 7), none, .mv (.v (.bool false))⟩, ⟨(some 8), none, .mv (.v (.bool false))⟩] (some ⟨[0,1,4,5,7,8], [4,5], []⟩))
  (.seq (.seq (.reg false [⟨(some 11), none, .mv (.t 0)⟩, ⟨(some 12), none, .len (.t 11)⟩, ⟨(some 13), none, .mv (.v (.int .i64 (0)))⟩] (some ⟨[1,4,5,7,8,11,12,13], [4,5], []⟩))
  (.block 0 (.loop (.seq (.reg false [⟨(some 14), none, .bin .lss (.t 13) (.t 12)⟩] (some ⟨[1,4,5,7,8,11,12,13,14], [4,5], []⟩))
  (.seq (.cond (.t 14)
  .skip
  (.exit 0))
  (.seq (.block 1 (.seq (.reg false [⟨(some 15), none, .iadr 3 (.t 11) (.t 13)⟩, ⟨(some 16), none, .load true 3 (.t 15)⟩, ⟨(some 10), none, .alloc [(.int .i64 (0)), (.int .i64 (0)), (.int .i64 (0))]⟩, ⟨none, none, .store 3 (.t 10) (.t 16)⟩] (some ⟨[1,4,5,7,8,10,11,12,13], [4,5,10], []⟩))
  (.seq (.seq (.reg false [⟨(some 17), none, .fadr 0 (.t 10)⟩, ⟨(some 18), none, .load false 1 (.t 17)⟩, ⟨(some 19), none, .mv (.t 1)⟩, ⟨(some 20), none, .bin .leq (.t 18) (.t 19)⟩] (some ⟨[1,4,5,7,8,10,11,12,13,20], [4,5,10], []⟩))
  (.cond (.t 20)
  (.reg false [⟨(some 21), none, .load true 3 (.t 10)⟩, ⟨none, none, .store 3 (.t 4) (.t 21)⟩, ⟨(some 7), none, .mv (.v (.bool true))⟩] (some ⟨[1,4,5,7,8,10,11,12,13], [4,5,10], []⟩))
  .skip))
  (.seq (.reg false [⟨(some 22), none, .fadr 0 (.t 10)⟩, ⟨(some 23), none, .load false 1 (.t 22)⟩, ⟨(some 24), none, .mv (.t 1)⟩, ⟨(some 25), none, .bin .geq (.t 23) (.t 24)⟩, ⟨(some 26), none, .mv (.t 25)⟩, ⟨(some 27), (some (26, true)), .mv (.t 8)⟩, ⟨(some 28), (some (26, true)), .un .not (.t 27)⟩, ⟨(some 29), none, .pick (.t 26) (.t 28) (.v (.bool false))⟩] (some ⟨[1,4,5,7,8,10,11,12,13,29], [4,5,10], []⟩))
  (.cond (.t 29)
  (.reg false [⟨(some 30), none, .load true 3 (.t 10)⟩, ⟨none, none, .store 3 (.t 5) (.t 30)⟩, ⟨(some 8), none, .mv (.v (.bool true))⟩] (some ⟨[1,4,5,7,8,11,12,13], [4,5], []⟩))
  .skip)))))
  (.reg false [⟨(some 31), none, .bin .add (.t 13) (.v (.int .i64 (1)))⟩, ⟨(some 13), none, .mv (.t 31)⟩] (some ⟨[1,4,5,7,8,11,12,13], [4,5], []⟩))))))))
  (.seq (.reg true [⟨(some 32), none, .load true 3 (.t 4)⟩, ⟨none, none, .chk (.t 5) (some 5)⟩, ⟨(some 33), none, .load true 3 (.t 5)⟩, ⟨(some 34), none, .mv (.t 7)⟩, ⟨(some 35), none, .mv (.t 34)⟩, ⟨(some 36), (some (35, true)), .mv (.t 8)⟩, ⟨(some 37), none, .pick (.t 35) (.t 36) (.v (.bool false))⟩, ⟨(some 38), none, .mv (.t 37)⟩, ⟨(some 39), (some (38, true)), .fadr 2 (.t 4)⟩, ⟨(some 40), (some (38, true)), .load false 1 (.t 39)⟩, ⟨(some 41), (some (38, true)), .bin .neq (.t 40) (.v (.int .i64 (2)))⟩, ⟨(some 42), none, .pick (.t 38) (.t 41) (.v (.bool false))⟩, ⟨(some 43), none, .mv (.t 42)⟩, ⟨(some 44), (some (43, true)), .fadr 2 (.t 5)⟩, ⟨(some 45), (some (43, true)), .load false 1 (.t 44)⟩, ⟨(some 46), (some (43, true)), .bin .neq (.t 45) (.v (.int .i64 (2)))⟩, ⟨(some 47), none, .pick (.t 43) (.t 46) (.v (.bool false))⟩, ⟨none, none, .chk (.t 4) (some 4)⟩, ⟨none, none, .store 3 (.t 4) (.t 32)⟩, ⟨none, none, .store 3 (.t 5) (.t 33)⟩, ⟨(some 6), none, .mv (.t 47)⟩] (some ⟨[4,5,6], [4,5], []⟩))
  .ret))))
theorem c_around : compileCode Try.prog Try.f177.ntmps (Try.f177.body.getD .skip) A_around = some (C_around, []) := by kernel_rfl
theorem r_around : compileRes Try.prog Try.f177.results.toList = some [.cell 4 true 3, .cell 5 true 3, .t 6] := by kernel_rfl
theorem b_around : Try.f177.body = some (Try.f177.body.getD .skip) := by kernel_rfl
theorem n_around : (Try.f177.name == "runtime.NumGoroutine") = false := by kernel_rfl
theorem fc_around {xt : Option (List Cel)} {args : List Val} {R : List Cel → Val → Prop} (hn : (if xt.isSome then 1 else 0) + args.length ≤ Try.f177.ntmps) (h : ex Try.prog C_around [] (fpost xt [.cell 4 true 3, .cell 5 true 3, .t 6] R) (initSt xt args)) : FC Try.prog 177 xt args R :=
  fc_of_awp Try.func177 b_around n_around c_around r_around (of_decide_eq_true (by kernel_rfl)) hn h

def A_reconstructedOf : List Ann := [⟨(some ⟨[0,1,4], [4], []⟩), [], [], [], []⟩, ⟨(some ⟨[1,4,6,7,8], [4,6,7], []⟩), [], [], [], []⟩, ⟨(some ⟨[1,4,6,7,17], [4,6,7], []⟩), [], [], [], []⟩, ⟨(some ⟨[4,5], [4], []⟩), [], [], [], []⟩, ⟨(some ⟨[4,5], [4], []⟩), [], [], [], []⟩]
def C_reconstructedOf : AC := (.seq (.reg false [⟨(some 4), none, .alloc [(.int .i64 (0)), (.int .i64 (0))]⟩, ⟨(some 5), none, .mv (.v (.bool false))⟩] (some ⟨[0,1,4], [4], []⟩))
  (.seq (.reg false [⟨(some 10), none, .mv (.t 0)⟩, ⟨(some 11), none, .mv (.t 1)⟩, ⟨(some 12), none, .call (.f 177) [(.t 10), (.t 11)]⟩, ⟨(some 9), none, .mv (.t 12)⟩, ⟨(some 13), none, .extr (.t 9) 0⟩, ⟨(some 14), none, .extr (.t 9) 1⟩, ⟨(some 15), none, .extr (.t 9) 2⟩, ⟨(some 6), none, .alloc [(.int .i64 (0)), (.int .i64 (0)), (.int .i64 (0))]⟩, ⟨(some 7), none, .alloc [(.int .i64 (0)), (.int .i64 (0)), (.int .i64 (0))]⟩, ⟨none, none, .store 3 (.t 6) (.t 13)⟩, ⟨none, none, .store 3 (.t 7) (.t 14)⟩, ⟨(some 8), none, .mv (.t 15)⟩] (some ⟨[1,4,6,7,8], [4,6,7], []⟩))
  (.seq (.seq (.reg false [⟨(some 16), none, .mv (.t 8)⟩, ⟨(some 17), none, .un .not (.t 16)⟩] (some ⟨[1,4,6,7,17], [4,6,7], []⟩))
  (.cond (.t 17)
  (.seq (.reg false [⟨(some 18), none, .build [(.int .i64 (0)), (.int .i64 (0))] []⟩, ⟨none, none, .store 2 (.t 4) (.t 18)⟩, ⟨(some 5), none, .mv (.v (.bool false))⟩] (some ⟨[4,5], [4], []⟩))
  .ret)
  .skip))
  (.seq (.reg false [⟨(some 19), none, .load true 3 (.t 6)⟩, ⟨(some 20), none, .load true 3 (.t 7)⟩, ⟨(some 21), none, .mv (.t 1)⟩, ⟨(some 22), none, .call (.f 178) [(.t 19), (.t 20), (.t 21)]⟩, ⟨none, none, .store 2 (.t 4) (.t 22)⟩, ⟨(some 5), none, .mv (.v (.bool true))⟩] (some ⟨[4,5], [4], []⟩))
  .ret))))
theorem c_reconstructedOf : compileCode Try.prog Try.f145.ntmps (Try.f145.body.getD .skip) A_reconstructedOf = some (C_reconstructedOf, []) := by kernel_rfl
theorem r_reconstructedOf : compileRes Try.prog Try.f145.results.toList = some [.cell 4 true 2, .t 5] := by kernel_rfl
theorem b_reconstructedOf : Try.f145.body = some (Try.f145.body.getD .skip) := by kernel_rfl
theorem n_reconstructedOf : (Try.f145.name == "runtime.NumGoroutine") = false := by kernel_rfl
theorem fc_reconstructedOf {xt : Option (List Cel)} {args : List Val} {R : List Cel → Val → Prop} (hn : (if xt.isSome then 1 else 0) + args.length ≤ Try.f145.ntmps) (h : ex Try.prog C_reconstructedOf [] (fpost xt [.cell 4 true 2, .t 5] R) (initSt xt args)) : FC Try.prog 145 xt args R :=
  fc_of_awp Try.func145 b_reconstructedOf n_reconstructedOf c_reconstructedOf r_reconstructedOf (of_decide_eq_true (by kernel_rfl)) hn h


def arP (l : List Smp) (at_ i : Int) : Smp := if 0 < i ∧ 0 ≤ hold l at_ then l.getD (min (i - 1) (hold l at_)).toNat default else ⟨0, 0, 0⟩
def arN (l : List Smp) (at_ i : Int) : Smp := if pos l at_ < i then l.getD (pos l at_).toNat default else ⟨0, 0, 0⟩
structure ArX where
  i : Int
  p : Smp
  n : Smp
  b : Bool
  c : Bool
def arSt (l : List Smp) (at_ : Int) (x : ArX) : AS := ⟨tabV [(1, iv at_), (4, .one (.bx 4 0)), (5, .one (.bx 5 0)), (7, bv x.b), (8, bv x.c), (11, smps false l), (12, iv l.length), (13, iv x.i)], tabO [(4, smpC x.p), (5, smpC x.n)], tabO []⟩
structure ArI (l : List Smp) (at_ : Int) (x : ArX) : Prop where
  a : 0 ≤ x.i
  b : x.i ≤ l.length
  c : x.p = arP l at_ x.i
  d : x.n = arN l at_ x.i
  e : x.b = decide (0 < x.i ∧ 0 ≤ hold l at_)
  f : x.c = decide (pos l at_ < x.i)
def arIs (l : List Smp) (at_ : Int) : Bool := decide ((0 < l.length ∧ 0 ≤ hold l at_) ∧ pos l at_ < l.length ∧ ¬(arP l at_ l.length).q = 2 ∧ ¬(arN l at_ l.length).q = 2)
theorem tu3_c {a b c d e f : Val} (h1 : a = d) (h2 : b = e) (h3 : c = f) : Val.tu [a, b, c] = .tu [d, e, f] := by rw [h1, h2, h3]
theorem around_fc (l : List Smp) (hg : Good l) (at_ : Int) : FC Try.prog 177 none [smps false l, iv at_] (fun _ r => r = .tu [.ag (smpC (arP l at_ l.length)), .ag (smpC (arN l at_ l.length)), bv (arIs l at_)]) := by
  refine fc_around (by simp +arith) ?_
  have hlen := hg.len
  obtain ⟨s1, s2, s3, s4⟩ := hold_spec l at_ hg.le
  obtain ⟨t1, t2, t3, t4⟩ := hold_spec l (at_ - 1) hg.le
  have hp : pos l at_ = hold l (at_ - 1) + 1 := rfl
  unfold C_around
  simp (maxSteps := 1000000) (disch := omega) only [go_sem, eq_self, decide_true, decide_false, not_true_eq_false, not_false_eq_true, reduceIte, reduceCtorEq, Nat.reduceEqDiff, Nat.reduceAdd, Nat.reduceSub, Nat.reduceLeDiff]
  refine ex_loopI (arSt l at_) (ArI l at_) (fun x => (l.length - x.i).toNat) ⟨0, ⟨0, 0, 0⟩, ⟨0, 0, 0⟩, false, false⟩ ⟨by simp, by simp, by unfold arP; rw [if_neg (by simp)], by unfold arN; rw [if_neg (by simp only; omega)], by simp, by simp only; rw [decide_eq_false (by omega)]⟩ rfl ?_
  rintro ⟨i, P, N, b, c⟩ ⟨g1, g2, g3, g4, g5, g6⟩
  simp only at g1 g2 g3 g4 g5 g6
  unfold arSt
  by_cases hi : i < l.length
  · have em := getD_map_at smpC l i [] g1 hi
    have eP : arP l at_ (i + 1) = if i ≤ hold l at_ then l.getD i.toNat default else P := by
      rw [g3]; unfold arP
      by_cases h1 : i ≤ hold l at_
      · rw [if_pos h1, if_pos (by omega), show min (i + 1 - 1) (hold l at_) = i by omega]
      · rw [if_neg h1]
        by_cases h2 : 0 ≤ hold l at_
        · rw [if_pos (by omega), if_pos (by omega), show min (i + 1 - 1) (hold l at_) = min (i - 1) (hold l at_) by omega]
        · rw [if_neg (by omega), if_neg (by omega)]
    have eN : arN l at_ (i + 1) = if i = pos l at_ then l.getD i.toNat default else N := by
      rw [g4]; unfold arN
      by_cases h1 : i = pos l at_
      · rw [if_pos h1, if_pos (by omega), h1]
      · rw [if_neg h1]
        by_cases h2 : pos l at_ < i
        · rw [if_pos (by omega), if_pos h2]
        · rw [if_neg (by omega), if_neg h2]
    by_cases h1 : i ≤ hold l at_
    · have c1 := s3 i.toNat (by omega) (by omega)
      have b1 : true = decide (0 < i + 1 ∧ 0 ≤ hold l at_) := by rw [decide_eq_true (by omega)]
      rw [if_pos h1] at eP
      by_cases h2 : i = pos l at_
      · have c2 := t4 i.toNat (by omega) (by omega)
        have d1 : c = false := by rw [g6, decide_eq_false (by omega)]
        have d2 : true = decide (pos l at_ < i + 1) := by rw [decide_eq_true (by omega)]
        rw [if_pos h2] at eN
        rw [d1]
        simp (maxSteps := 1000000) (disch := omega) only [go_sem, eq_self, decide_true, decide_false, not_true_eq_false, not_false_eq_true, reduceIte, reduceCtorEq, Nat.reduceEqDiff, Nat.reduceAdd, Nat.reduceSub, Nat.reduceLeDiff]
        exact ⟨⟨i + 1, l.getD i.toNat default, l.getD i.toNat default, true, true⟩, ⟨by simp only; omega, by simp only; omega, eP.symm, eN.symm, b1, d2⟩, by simp only [arSt, smpC_eq], by simp only; omega⟩
      · rw [if_neg h2] at eN
        by_cases h3 : i < pos l at_
        · have c2 := t3 i.toNat (by omega) (by omega)
          have d1 : c = false := by rw [g6, decide_eq_false (by omega)]
          have d2 : false = decide (pos l at_ < i + 1) := by rw [decide_eq_false (by omega)]
          rw [d1]
          simp (maxSteps := 1000000) (disch := omega) only [go_sem, eq_self, decide_true, decide_false, not_true_eq_false, not_false_eq_true, reduceIte, reduceCtorEq, Nat.reduceEqDiff, Nat.reduceAdd, Nat.reduceSub, Nat.reduceLeDiff]
          exact ⟨⟨i + 1, l.getD i.toNat default, N, true, false⟩, ⟨by simp only; omega, by simp only; omega, eP.symm, eN.symm, b1, d2⟩, by simp only [arSt, smpC_eq], by simp only; omega⟩
        · have c2 := t4 i.toNat (by omega) (by omega)
          have d1 : c = true := by rw [g6, decide_eq_true (by omega)]
          have d2 : true = decide (pos l at_ < i + 1) := by rw [decide_eq_true (by omega)]
          rw [d1]
          simp (maxSteps := 1000000) (disch := omega) only [go_sem, eq_self, decide_true, decide_false, not_true_eq_false, not_false_eq_true, reduceIte, reduceCtorEq, Nat.reduceEqDiff, Nat.reduceAdd, Nat.reduceSub, Nat.reduceLeDiff]
          exact ⟨⟨i + 1, l.getD i.toNat default, N, true, true⟩, ⟨by simp only; omega, by simp only; omega, eP.symm, eN.symm, b1, d2⟩, by simp only [arSt, smpC_eq], by simp only; omega⟩
    · have c1 := s4 i.toNat (by omega) (by omega)
      have b1 : b = decide (0 < i + 1 ∧ 0 ≤ hold l at_) := by
        rw [g5]
        by_cases h2 : 0 ≤ hold l at_
        · rw [decide_eq_true (by omega), decide_eq_true (by omega)]
        · rw [decide_eq_false (by omega), decide_eq_false (by omega)]
      rw [if_neg h1] at eP
      have c2 : at_ ≤ (l.getD i.toNat default).a := by omega
      have h9 : ¬i < pos l at_ := fun h => by have := t3 i.toNat (by omega) (by omega); omega
      have d2 : true = decide (pos l at_ < i + 1) := by rw [decide_eq_true (by omega)]
      by_cases h2 : i = pos l at_
      · have d1 : c = false := by rw [g6, decide_eq_false (by omega)]
        rw [if_pos h2] at eN
        rw [d1]
        simp (maxSteps := 1000000) (disch := omega) only [go_sem, eq_self, decide_true, decide_false, not_true_eq_false, not_false_eq_true, reduceIte, reduceCtorEq, Nat.reduceEqDiff, Nat.reduceAdd, Nat.reduceSub, Nat.reduceLeDiff]
        exact ⟨⟨i + 1, P, l.getD i.toNat default, b, true⟩, ⟨by simp only; omega, by simp only; omega, eP.symm, eN.symm, b1, d2⟩, by simp only [arSt, smpC_eq], by simp only; omega⟩
      · rw [if_neg h2] at eN
        have d1 : c = true := by rw [g6, decide_eq_true (by omega)]
        rw [d1]
        simp (maxSteps := 1000000) (disch := omega) only [go_sem, eq_self, decide_true, decide_false, not_true_eq_false, not_false_eq_true, reduceIte, reduceCtorEq, Nat.reduceEqDiff, Nat.reduceAdd, Nat.reduceSub, Nat.reduceLeDiff]
        exact ⟨⟨i + 1, P, N, b, true⟩, ⟨by simp only; omega, by simp only; omega, eP.symm, eN.symm, b1, d2⟩, by simp only [arSt, smpC_eq], by simp only; omega⟩
  · have e9 : i = l.length := by omega
    subst e9
    have ei : arIs l at_ = decide ((0 < l.length ∧ 0 ≤ hold l at_) ∧ pos l at_ < l.length ∧ ¬P.q = 2 ∧ ¬N.q = 2) := by unfold arIs; rw [← g3, ← g4]
    rw [← g3, ← g4, ei]
    cases b with
    | false =>
      have g5' := of_decide_eq_false g5.symm
      rw [decide_eq_false (by omega)]
      simp (maxSteps := 1000000) (disch := omega) only [go_sem, eq_self, decide_true, decide_false, not_true_eq_false, not_false_eq_true, reduceIte, reduceCtorEq, Nat.reduceEqDiff, Nat.reduceAdd, Nat.reduceSub, Nat.reduceLeDiff]
    | true =>
      have g5' := of_decide_eq_true g5.symm
      cases c with
      | false =>
        have g6' := of_decide_eq_false g6.symm
        rw [decide_eq_false (by omega)]
        simp (maxSteps := 1000000) (disch := omega) only [go_sem, eq_self, decide_true, decide_false, not_true_eq_false, not_false_eq_true, reduceIte, reduceCtorEq, Nat.reduceEqDiff, Nat.reduceAdd, Nat.reduceSub, Nat.reduceLeDiff]
      | true =>
        have g6' := of_decide_eq_true g6.symm
        by_cases q1 : P.q = 2
        · rw [decide_eq_false (by omega)]
          simp (maxSteps := 1000000) (disch := omega) only [go_sem, eq_self, decide_true, decide_false, not_true_eq_false, not_false_eq_true, reduceIte, reduceCtorEq, Nat.reduceEqDiff, Nat.reduceAdd, Nat.reduceSub, Nat.reduceLeDiff]
        · by_cases q2 : N.q = 2
          · rw [decide_eq_false (by omega)]
            simp (maxSteps := 1000000) (disch := omega) only [go_sem, eq_self, decide_true, decide_false, not_true_eq_false, not_false_eq_true, reduceIte, reduceCtorEq, Nat.reduceEqDiff, Nat.reduceAdd, Nat.reduceSub, Nat.reduceLeDiff]
            rw [decide_eq_false (by omega)]
          · rw [decide_eq_true (by omega)]
            simp (maxSteps := 1000000) (disch := omega) only [go_sem, eq_self, decide_true, decide_false, not_true_eq_false, not_false_eq_true, reduceIte, reduceCtorEq, Nat.reduceEqDiff, Nat.reduceAdd, Nat.reduceSub, Nat.reduceLeDiff]
            rw [decide_eq_true (by omega)]
theorem onLineE_fc (p n : Smp) (at_ : Int) (he : p.a = n.a) : FC Try.prog 178 none [smpV p, smpV n, iv at_] (fun _ r => r = .ag [.g (.int .i64 p.v), .g (.int .i64 1)]) := by
  refine fc_onLine (by simp +arith) ?_
  unfold C_onLine
  simp (maxSteps := 1000000) (disch := omega) only [go_sem, eq_self, decide_true, decide_false, not_true_eq_false, not_false_eq_true, reduceIte, reduceCtorEq, Nat.reduceEqDiff, Nat.reduceAdd, Nat.reduceSub, Nat.reduceLeDiff]
def rfSp (l : List Smp) (at_ : Int) : (Int × Int) × Bool := if (recSp l at_).2 = false then ((0, 0), false) else ((lowN (recSp l at_).1.1 (recSp l at_).1.2, lowD (recSp l at_).1.1 (recSp l at_).1.2), true)
theorem lowN_1 (n : Int) : lowN n 1 = n := by
  have h : lowG n 1 = 1 := by unfold lowG; simp
  unfold lowN; rw [h, Int.tdiv_one]
theorem lowD_1 (n : Int) : lowD n 1 = 1 := by
  have h : lowG n 1 = 1 := by unfold lowG; simp
  unfold lowD; rw [h, Int.tdiv_one]
theorem reconstructedOf_fc (l : List Smp) (hg : Good l) (at_ : Int) (ha : 0 ≤ at_ ∧ at_ ≤ 345686399999) : FC Try.prog 145 none [smps false l, iv at_] (fun _ r => r = .tu [.ag (frC (rfSp l at_).1), bv (rfSp l at_).2]) := by
  refine fc_reconstructedOf (by simp +arith) ?_
  have hlen := hg.len
  have hpb := pos_bd hg at_
  have hhp := hold_pos hg at_
  unfold C_reconstructedOf
  simp (maxSteps := 1000000) (disch := omega) only [go_sem, eq_self, decide_true, decide_false, not_true_eq_false, not_false_eq_true, reduceIte, reduceCtorEq, Nat.reduceEqDiff, Nat.reduceAdd, Nat.reduceSub, Nat.reduceLeDiff]
  refine CALL_det (around_fc l hg at_) (.inl rfl) ?_
  unfold rfSp recSp
  by_cases h1 : pos l at_ < l.length ∧ (l.getD (pos l at_).toNat default).a = at_
  · rw [if_pos h1] at hhp
    have eP : arP l at_ l.length = l.getD (pos l at_).toNat default := by unfold arP; rw [if_pos (by omega), show min ((l.length : Int) - 1) (hold l at_) = pos l at_ by omega]
    have eN : arN l at_ l.length = l.getD (pos l at_).toNat default := by unfold arN; rw [if_pos h1.1]
    have ei : arIs l at_ = decide (¬(l.getD (pos l at_).toNat default).q = 2) := by
      unfold arIs; rw [eP, eN]
      by_cases q : (l.getD (pos l at_).toNat default).q = 2
      · rw [decide_eq_false (by omega), decide_eq_false (by omega)]
      · rw [decide_eq_true (by omega), decide_eq_true q]
    rw [if_pos h1, ei, eP, eN]
    clear ei eP eN hhp h1
    generalize l.getD (pos l at_).toNat default = s at *
    by_cases q : s.q = 2
    · rw [decide_eq_false (show ¬s.q ≠ 2 by omega), if_pos rfl]
      simp (maxSteps := 1000000) (disch := omega) only [go_sem, eq_self, decide_true, decide_false, not_true_eq_false, not_false_eq_true, reduceIte, reduceCtorEq, Nat.reduceEqDiff, Nat.reduceAdd, Nat.reduceSub, Nat.reduceLeDiff]
    · rw [decide_eq_true (show s.q ≠ 2 by omega), if_neg (by simp), lowN_1, lowD_1]
      simp (maxSteps := 1000000) (disch := omega) only [go_sem, eq_self, decide_true, decide_false, not_true_eq_false, not_false_eq_true, reduceIte, reduceCtorEq, Nat.reduceEqDiff, Nat.reduceAdd, Nat.reduceSub, Nat.reduceLeDiff]
      refine CALL_det (onLineE_fc s s at_ rfl) (.inl rfl) ?_
      simp (maxSteps := 1000000) (disch := omega) only [go_sem, eq_self, decide_true, decide_false, not_true_eq_false, not_false_eq_true, reduceIte, reduceCtorEq, Nat.reduceEqDiff, Nat.reduceAdd, Nat.reduceSub, Nat.reduceLeDiff]
  · rw [if_neg h1] at hhp
    rw [if_neg h1]
    by_cases h2 : pos l at_ = 0 ∨ pos l at_ = l.length
    · rw [if_pos h2, if_pos rfl]
      have e : arIs l at_ = false := by unfold arIs; rw [decide_eq_false (by omega)]
      rw [e]
      simp (maxSteps := 1000000) (disch := omega) only [go_sem, eq_self, decide_true, decide_false, not_true_eq_false, not_false_eq_true, reduceIte, reduceCtorEq, Nat.reduceEqDiff, Nat.reduceAdd, Nat.reduceSub, Nat.reduceLeDiff]
    · rw [if_neg h2]
      have eP : arP l at_ l.length = l.getD (pos l at_ - 1).toNat default := by unfold arP; rw [if_pos (by omega), show min ((l.length : Int) - 1) (hold l at_) = pos l at_ - 1 by omega]
      have eN : arN l at_ l.length = l.getD (pos l at_).toNat default := by unfold arN; rw [if_pos (by omega)]
      have ei : arIs l at_ = decide (¬(l.getD (pos l at_ - 1).toNat default).q = 2 ∧ ¬(l.getD (pos l at_).toNat default).q = 2) := by
        unfold arIs; rw [eP, eN]
        by_cases q : ¬(l.getD (pos l at_ - 1).toNat default).q = 2 ∧ ¬(l.getD (pos l at_).toNat default).q = 2
        · rw [decide_eq_true (by omega), decide_eq_true q]
        · rw [decide_eq_false (by omega), decide_eq_false q]
      rw [ei, eP, eN]
      clear ei eP eN
      have hoa := hg.ok (pos l at_ - 1).toNat (by omega)
      have hob := hg.ok (pos l at_).toNat (by omega)
      have hup := hg.up (pos l at_ - 1).toNat (pos l at_).toNat (by omega) (by omega)
      generalize l.getD (pos l at_).toNat default = n at *
      generalize l.getD (pos l at_ - 1).toNat default = p at *
      by_cases q1 : p.q = 2
      · rw [decide_eq_false (show ¬p.q ≠ 2 by omega), Bool.false_and, if_pos rfl, decide_eq_false (show ¬(¬p.q = 2 ∧ ¬n.q = 2) by omega)]
        simp (maxSteps := 1000000) (disch := omega) only [go_sem, eq_self, decide_true, decide_false, not_true_eq_false, not_false_eq_true, reduceIte, reduceCtorEq, Nat.reduceEqDiff, Nat.reduceAdd, Nat.reduceSub, Nat.reduceLeDiff]
      · rw [decide_eq_true (show p.q ≠ 2 by omega), Bool.true_and]
        by_cases q2 : n.q = 2
        · rw [decide_eq_false (show ¬n.q ≠ 2 by omega), if_pos rfl, decide_eq_false (show ¬(¬p.q = 2 ∧ ¬n.q = 2) by omega)]
          simp (maxSteps := 1000000) (disch := omega) only [go_sem, eq_self, decide_true, decide_false, not_true_eq_false, not_false_eq_true, reduceIte, reduceCtorEq, Nat.reduceEqDiff, Nat.reduceAdd, Nat.reduceSub, Nat.reduceLeDiff]
        · rw [decide_eq_true (show n.q ≠ 2 by omega), if_neg (by simp), decide_eq_true (show ¬p.q = 2 ∧ ¬n.q = 2 by omega)]
          simp (maxSteps := 1000000) (disch := omega) only [go_sem, eq_self, decide_true, decide_false, not_true_eq_false, not_false_eq_true, reduceIte, reduceCtorEq, Nat.reduceEqDiff, Nat.reduceAdd, Nat.reduceSub, Nat.reduceLeDiff]
          refine CALL_det (onLine_fc p n at_ hoa hob (by omega) hup) (.inl rfl) ?_
          simp (maxSteps := 1000000) (disch := omega) only [go_sem, eq_self, decide_true, decide_false, not_true_eq_false, not_false_eq_true, reduceIte, reduceCtorEq, Nat.reduceEqDiff, Nat.reduceAdd, Nat.reduceSub, Nat.reduceLeDiff]
end Go.Proofs.Ytggbcgldnjmobaa

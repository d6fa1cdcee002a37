
/-
  MappedAndBack returns true for every slice of integers, and leaves the slice as it was: a moment is mapped into the phase with the same number, and the beginning of a phase to a beginning; to the same batch it stays. No condition.
-/
import Derived.Test.YtggbcgldnjmobaaMpl
import Derived.Test.YtggbcgldnjmobaaRdy
import Derived.Test.YtggbcgldnjmobaaFor
import Derived.Test.YtggbcgldnjmobaaGenC
import Derived.Test.YtggbcgldnjmobaaAiRow
import Derived.Test.YtggbcgldnjmobaaRows
namespace Go.Proofs.Ytggbcgldnjmobaa
open Go Go.Ai
set_option linter.unusedSimpArgs false
set_option linter.unusedVariables false
set_option maxHeartbeats 4000000
def A_mab : List Ann := [⟨(some ⟨[0], [], []⟩), [], [], [], []⟩, ⟨(some ⟨[3,17], [17], []⟩), [], [], [], []⟩, ⟨(some ⟨[4,5,6], [], []⟩), [], [], [], []⟩, ⟨(some ⟨[4,5,6,31], [], []⟩), [], [], [], []⟩, ⟨(some ⟨[2], [], []⟩), [], [], [], []⟩, ⟨(some ⟨[4,5,6,33,34,35], [], []⟩), [], [], [], []⟩, ⟨(some ⟨[4,5,6,33,34,35,36], [], []⟩), [], [], [], []⟩, ⟨(some ⟨[4,5,6,7,8,33,34,35], [8], []⟩), [], [], [], []⟩, ⟨(some ⟨[4,5,6,7,8,9,10,11,33,34,35], [8], []⟩), [], [], [], []⟩, ⟨(some ⟨[4,5,6,33,34,35,82], [], []⟩), [], [], [], []⟩, ⟨(some ⟨[2], [], []⟩), [], [], [], []⟩, ⟨(some ⟨[4,5,6,33,34,35], [], []⟩), [], [], [], []⟩, ⟨(some ⟨[6,12,13,14], [], []⟩), [], [], [], []⟩, ⟨(some ⟨[2], [], []⟩), [], [], [], []⟩]
def C_mab : AC := (.seq (.reg false [⟨(some 2), none, .mv (.v (.bool false))⟩] (some ⟨[0], [], []⟩))
  (.seq (.reg false [⟨(some 15), none, .mv (.t 0)⟩, ⟨(some 16), none, .build [(.slice none 0 0), (.int .i64 (0))] [(0, 1, (.t 15))]⟩, ⟨(some 17), none, .box (.t 16)⟩, ⟨(some 3), none, .mv (.t 17)⟩] (some ⟨[3,17], [17], []⟩))
  (.seq (.reg false [⟨(some 18), none, .mv (.t 3)⟩, ⟨(some 19), none, .callx (.f 47) [(.t 18), (.v (.int .i64 (6)))]⟩, ⟨(some 20), none, .mv (.t 3)⟩, ⟨(some 21), none, .callx (.f 47) [(.t 20), (.v (.int .i64 (6)))]⟩, ⟨(some 22), none, .mv (.t 3)⟩, ⟨(some 23), none, .callx (.f 40) [(.t 22), (.v (.int .i64 (0))), (.v (.int .i64 (120)))]⟩, ⟨(some 4), none, .mv (.t 19)⟩, ⟨(some 5), none, .mv (.t 21)⟩, ⟨(some 6), none, .mv (.t 23)⟩] (some ⟨[4,5,6], [], []⟩))
  (.seq (.seq (.reg false [⟨(some 24), none, .mv (.t 4)⟩, ⟨(some 25), none, .call (.f 48) [(.t 24)]⟩, ⟨(some 26), none, .bin .neq (.t 25) (.v (.int .i64 (0)))⟩, ⟨(some 27), none, .mv (.t 26)⟩, ⟨(some 28), (some (27, false)), .mv (.t 5)⟩, ⟨(some 29), (some (27, false)), .call (.f 48) [(.t 28)]⟩, ⟨(some 30), (some (27, false)), .bin .neq (.t 29) (.v (.int .i64 (0)))⟩, ⟨(some 31), none, .pick (.t 27) (.v (.bool true)) (.t 30)⟩] (some ⟨[4,5,6,31], [], []⟩))
  (.cond (.t 31)
  (.seq (.reg false [⟨(some 32), none, .call (.f 42) []⟩, ⟨(some 2), none, .mv (.t 32)⟩] (some ⟨[2], [], []⟩))
  .ret)
  .skip))
  (.seq (.seq (.reg false [⟨(some 33), none, .mv (.t 4)⟩, ⟨(some 34), none, .len (.t 33)⟩, ⟨(some 35), none, .mv (.v (.int .i64 (0)))⟩] (some ⟨[4,5,6,33,34,35], [], []⟩))
  (.block 0 (.loop (.seq (.reg false [⟨(some 36), none, .bin .lss (.t 35) (.t 34)⟩] (some ⟨[4,5,6,33,34,35,36], [], []⟩))
  (.seq (.cond (.t 36)
  .skip
  (.exit 0))
  (.seq (.block 1 (.seq (.reg false [⟨(some 37), none, .mv (.t 35)⟩, ⟨(some 38), none, .iadr 3 (.t 33) (.t 35)⟩, ⟨(some 39), none, .load true 3 (.t 38)⟩, ⟨(some 8), none, .alloc [(.int .i64 (0)), (.int .i64 (0)), (.int .i64 (0))]⟩, ⟨(some 7), none, .mv (.t 37)⟩, ⟨none, none, .store 3 (.t 8) (.t 39)⟩] (some ⟨[4,5,6,7,8,33,34,35], [8], []⟩))
  (.seq (.reg false [⟨(some 41), none, .mv (.t 4)⟩, ⟨(some 42), none, .mv (.t 5)⟩, ⟨(some 43), none, .fadr 1 (.t 8)⟩, ⟨(some 44), none, .fadr 0 (.t 43)⟩, ⟨(some 45), none, .load false 1 (.t 44)⟩, ⟨(some 46), none, .call (.f 49) [(.t 41), (.t 42), (.t 45)]⟩, ⟨(some 40), none, .mv (.t 46)⟩, ⟨(some 47), none, .extr (.t 40) 0⟩, ⟨(some 48), none, .extr (.t 40) 1⟩, ⟨(some 49), none, .extr (.t 40) 2⟩, ⟨(some 9), none, .mv (.t 47)⟩, ⟨(some 10), none, .mv (.t 48)⟩, ⟨(some 11), none, .mv (.t 49)⟩] (some ⟨[4,5,6,7,8,9,10,11,33,34,35], [8], []⟩))
  (.seq (.reg true [⟨(some 50), none, .mv (.t 11)⟩, ⟨(some 51), none, .bin .neq (.t 50) (.v (.int .i64 (0)))⟩, ⟨(some 52), none, .mv (.t 51)⟩, ⟨(some 53), (some (52, false)), .mv (.t 10)⟩, ⟨(some 54), (some (52, false)), .mv (.t 7)⟩, ⟨(some 55), (some (52, false)), .mv (.t 5)⟩, ⟨(some 56), (some (52, false)), .len (.t 55)⟩, ⟨(some 57), (some (52, false)), .bin .lss (.t 54) (.t 56)⟩, ⟨(some 58), (some (52, false)), .mv (.t 57)⟩, ⟨(some 59), (some (58, true)), .mv (.t 5)⟩, ⟨(some 60), (some (58, true)), .mv (.t 7)⟩, ⟨(some 61), (some (58, true)), .iadr 3 (.t 59) (.t 60)⟩, ⟨(some 62), (some (58, true)), .fadr 0 (.t 61)⟩, ⟨(some 63), (some (58, true)), .load false 1 (.t 62)⟩, ⟨(some 64), (some (58, true)), .fadr 0 (.t 8)⟩, ⟨(some 65), (some (58, true)), .load false 1 (.t 64)⟩, ⟨(some 66), (some (58, true)), .bin .eql (.t 63) (.t 65)⟩, ⟨(some 67), (some (52, false)), .pick (.t 58) (.t 66) (.v (.bool false))⟩, ⟨(some 68), (some (52, false)), .eqs true false [.b] (.t 53) (.t 67)⟩, ⟨(some 69), none, .pick (.t 52) (.v (.bool true)) (.t 68)⟩, ⟨(some 70), none, .mv (.t 69)⟩, ⟨(some 71), (some (70, false)), .mv (.t 10)⟩, ⟨(some 72), (some (70, false)), .mv (.t 71)⟩, ⟨(some 73), (some (72, true)), .mv (.t 9)⟩, ⟨(some 74), (some (72, true)), .mv (.t 5)⟩, ⟨(some 75), (some (72, true)), .mv (.t 7)⟩, ⟨(some 76), (some (72, true)), .iadr 3 (.t 74) (.t 75)⟩, ⟨(some 77), (some (72, true)), .fadr 1 (.t 76)⟩, ⟨(some 78), (some (72, true)), .fadr 0 (.t 77)⟩, ⟨(some 79), (some (72, true)), .load false 1 (.t 78)⟩, ⟨(some 80), (some (72, true)), .bin .neq (.t 73) (.t 79)⟩, ⟨(some 81), (some (70, false)), .pick (.t 72) (.t 80) (.v (.bool false))⟩, ⟨(some 82), none, .pick (.t 70) (.v (.bool true)) (.t 81)⟩] (some ⟨[4,5,6,33,34,35,82], [], []⟩))
  (.cond (.t 82)
  (.seq (.reg false [⟨(some 2), none, .mv (.v (.bool false))⟩] (some ⟨[2], [], []⟩))
  .ret)
  .skip)))))
  (.reg false [⟨(some 83), none, .bin .add (.t 35) (.v (.int .i64 (1)))⟩, ⟨(some 35), none, .mv (.t 83)⟩] (some ⟨[4,5,6,33,34,35], [], []⟩))))))))
  (.seq (.reg false [⟨(some 85), none, .mv (.t 4)⟩, ⟨(some 86), none, .mv (.t 4)⟩, ⟨(some 87), none, .mv (.t 6)⟩, ⟨(some 88), none, .call (.f 49) [(.t 85), (.t 86), (.t 87)]⟩, ⟨(some 84), none, .mv (.t 88)⟩, ⟨(some 89), none, .extr (.t 84) 0⟩, ⟨(some 90), none, .extr (.t 84) 1⟩, ⟨(some 91), none, .extr (.t 84) 2⟩, ⟨(some 12), none, .mv (.t 89)⟩, ⟨(some 13), none, .mv (.t 90)⟩, ⟨(some 14), none, .mv (.t 91)⟩] (some ⟨[6,12,13,14], [], []⟩))
  (.seq (.reg false [⟨(some 92), none, .mv (.t 14)⟩, ⟨(some 93), none, .bin .eql (.t 92) (.v (.int .i64 (0)))⟩, ⟨(some 94), none, .mv (.t 93)⟩, ⟨(some 95), (some (94, true)), .mv (.t 13)⟩, ⟨(some 96), (some (94, true)), .un .not (.t 95)⟩, ⟨(some 97), (some (94, true)), .mv (.t 96)⟩, ⟨(some 98), (some (97, false)), .mv (.t 12)⟩, ⟨(some 99), (some (97, false)), .mv (.t 6)⟩, ⟨(some 100), (some (97, false)), .bin .eql (.t 98) (.t 99)⟩, ⟨(some 101), (some (94, true)), .pick (.t 97) (.v (.bool true)) (.t 100)⟩, ⟨(some 102), none, .pick (.t 94) (.t 101) (.v (.bool false))⟩, ⟨(some 103), none, .mv (.t 102)⟩, ⟨(some 104), (some (103, true)), .call (.f 42) []⟩, ⟨(some 105), none, .pick (.t 103) (.t 104) (.v (.bool false))⟩, ⟨(some 2), none, .mv (.t 105)⟩] (some ⟨[2], [], []⟩))
  .ret)))))))
theorem c_mab : compileCode Try.prog Try.f6.ntmps (Try.f6.body.getD .skip) A_mab = some (C_mab, []) := by kernel_rfl
theorem r_mab : compileRes Try.prog Try.f6.results.toList = some [.t 2] := by kernel_rfl
theorem b_mab : Try.f6.body = some (Try.f6.body.getD .skip) := by kernel_rfl
theorem n_mab : (Try.f6.name == "runtime.NumGoroutine") = false := by kernel_rfl
theorem fc_mab {xt : Option (List Cel)} {args : List Val} {R : List Cel → Val → Prop} (hn : (if xt.isSome then 1 else 0) + args.length ≤ Try.f6.ntmps) (h : ex Try.prog C_mab [] (fpost xt [.t 2] R) (initSt xt args)) : FC Try.prog 6 xt args R :=
  fc_of_awp Try.func6 b_mab n_mab c_mab r_mab (of_decide_eq_true (by kernel_rfl)) hn h


theorem mp_from' {p q : List Ph} (hp : phF p = 0) (hq : phF q = 0) (k : Int) (h0 : 0 ≤ k) (hk : k < p.length) :
    mpSp p q (p.getD k.toNat default).f = if k < q.length ∧ (q.getD k.toNat default).n = (p.getD k.toNat default).n then ((q.getD k.toNat default).f, true, 0) else (0, false, 0) := by
  obtain ⟨n, rfl⟩ := Int.eq_ofNat_of_zero_le h0
  have := mp_from hp hq n (by omega)
  rw [Int.toNat_natCast, this]
  by_cases c : n < q.length ∧ (q.getD n default).n = (p.getD n default).n
  · rw [if_pos c, if_pos ⟨by omega, c.2⟩]
  · rw [if_neg c, if_neg (fun h => c ⟨by omega, h.2⟩)]
def mabSt (p q : List Ph) (at_ i : Int) : AS := ⟨tabV [(4, phsV true p), (5, phsV true q), (6, iv at_), (33, phsV true p), (34, iv p.length), (35, iv i)], tabO [], tabO []⟩
set_option maxHeartbeats 12000000 in
set_option maxRecDepth 8000 in
theorem mab_fc (L : List Int) (hL : ∀ x ∈ L, I64 x) (hl : L.length ≤ 9223372036854775807) : FC Try.prog 6 none [ints false L] (fun _ r => r = bv true) := by
  refine fc_mab (by simp +arith) ?_
  unfold C_mab
  simp (maxSteps := 1000000) (disch := omega) only [go_sem, eq_self, decide_true, decide_false, not_true_eq_false, not_false_eq_true, reduceIte, reduceCtorEq, Nat.reduceEqDiff, Nat.reduceAdd, Nat.reduceSub, Nat.reduceLeDiff]
  refine callx_gen (p := 0) (phaseList_fc 6 (by omega)) hL hl (by omega) (by omega) ⟨_, [], by simp, by simp, rfl⟩ ?_
  rintro pd r hpd1 hpd2 ⟨p, hpl, hp64, rfl⟩
  refine ⟨rfl, ?_⟩
  unfold strm
  simp (maxSteps := 1000000) (disch := omega) only [go_sem, eq_self, decide_true, decide_false, not_true_eq_false, not_false_eq_true, reduceIte, reduceCtorEq, Nat.reduceEqDiff, Nat.reduceAdd, Nat.reduceSub, Nat.reduceLeDiff]
  refine callx_gen (phaseList_fc 6 (by omega)) hL hl (by omega) (by omega) ⟨_, [], by simp, by simp, rfl⟩ ?_
  rintro pe r hpe1 hpe2 ⟨q, hql, hq64, rfl⟩
  refine ⟨rfl, ?_⟩
  unfold strm
  simp (maxSteps := 1000000) (disch := omega) only [go_sem, eq_self, decide_true, decide_false, not_true_eq_false, not_false_eq_true, reduceIte, reduceCtorEq, Nat.reduceEqDiff, Nat.reduceAdd, Nat.reduceSub, Nat.reduceLeDiff]
  refine callx_gen (range_fc 0 120 (by omega) (by omega) (by omega)) hL hl (by omega) (by omega) ⟨_, 0, by omega, by omega, rfl⟩ ?_
  rintro pm r ham hbm ⟨zm, hzm, hym, rfl⟩
  refine ⟨rfl, ?_⟩
  unfold strm
  simp (maxSteps := 1000000) (disch := omega) only [go_sem, eq_self, decide_true, decide_false, not_true_eq_false, not_false_eq_true, reduceIte, reduceCtorEq, Nat.reduceEqDiff, Nat.reduceAdd, Nat.reduceSub, Nat.reduceLeDiff]
  have hsp : smallP p := fun x hx => (hp64 x hx).2.2.2
  have hsq : smallP q := fun x hx => (hq64 x hx).2.2.2
  refine CALL_det (rphasesFault_fc p (by omega)) (.inl rfl) ?_
  by_cases h1 : phF p = 0
  · rw [h1]
    simp (maxSteps := 1000000) (disch := omega) only [go_sem, eq_self, decide_true, decide_false, not_true_eq_false, not_false_eq_true, reduceIte, reduceCtorEq, Nat.reduceEqDiff, Nat.reduceAdd, Nat.reduceSub, Nat.reduceLeDiff]
    refine CALL_det (rphasesFault_fc q (by omega)) (.inl rfl) ?_
    by_cases h2 : phF q = 0
    · rw [h2]
      simp (maxSteps := 1000000) (disch := omega) only [go_sem, eq_self, decide_true, decide_false, not_true_eq_false, not_false_eq_true, reduceIte, reduceCtorEq, Nat.reduceEqDiff, Nat.reduceAdd, Nat.reduceSub, Nat.reduceLeDiff]
      refine ex_loop1 (mabSt p q zm) (fun i => 0 ≤ i ∧ i ≤ p.length) (fun i => (p.length - i).toNat) 0 ⟨by omega, by omega⟩ rfl ?_
      rintro i ⟨g1, g2⟩
      unfold mabSt
      by_cases hi : i < p.length
      · have em := getD_map_at phC p i [] g1 hi
        have hm := mp_from' h1 h2 i g1 hi
        by_cases c1 : i < q.length
        · have eq := getD_map_at phC q i [] g1 c1
          by_cases c2 : (q.getD i.toNat default).n = (p.getD i.toNat default).n
          · rw [if_pos ⟨c1, c2⟩] at hm
            simp (maxSteps := 10000000) (disch := omega) only [go_sem, eq_self, decide_true, decide_false, not_true_eq_false, not_false_eq_true, reduceIte, reduceCtorEq, Nat.reduceEqDiff, Nat.reduceAdd, Nat.reduceSub, Nat.reduceLeDiff]
            refine CALL_det (mapTime_fc p q (by omega) (by omega) hsp hsq (p.getD i.toNat default).f) (.inl rfl) ?_
            rw [hm]
            simp (maxSteps := 10000000) (disch := omega) only [go_sem, eq_self, decide_true, decide_false, not_true_eq_false, not_false_eq_true, reduceIte, reduceCtorEq, Nat.reduceEqDiff, Nat.reduceAdd, Nat.reduceSub, Nat.reduceLeDiff]
            rw [decide_eq_true c2]
            simp (maxSteps := 10000000) (disch := omega) only [go_sem, eq_self, decide_true, decide_false, not_true_eq_false, not_false_eq_true, reduceIte, reduceCtorEq, Nat.reduceEqDiff, Nat.reduceAdd, Nat.reduceSub, Nat.reduceLeDiff]
            exact ⟨i + 1, rfl, ⟨by omega, by omega⟩, by omega⟩
          · rw [if_neg (fun h => c2 h.2)] at hm
            simp (maxSteps := 10000000) (disch := omega) only [go_sem, eq_self, decide_true, decide_false, not_true_eq_false, not_false_eq_true, reduceIte, reduceCtorEq, Nat.reduceEqDiff, Nat.reduceAdd, Nat.reduceSub, Nat.reduceLeDiff]
            refine CALL_det (mapTime_fc p q (by omega) (by omega) hsp hsq (p.getD i.toNat default).f) (.inl rfl) ?_
            rw [hm]
            simp (maxSteps := 10000000) (disch := omega) only [go_sem, eq_self, decide_true, decide_false, not_true_eq_false, not_false_eq_true, reduceIte, reduceCtorEq, Nat.reduceEqDiff, Nat.reduceAdd, Nat.reduceSub, Nat.reduceLeDiff]
            rw [decide_eq_false c2]
            simp (maxSteps := 10000000) (disch := omega) only [go_sem, eq_self, decide_true, decide_false, not_true_eq_false, not_false_eq_true, reduceIte, reduceCtorEq, Nat.reduceEqDiff, Nat.reduceAdd, Nat.reduceSub, Nat.reduceLeDiff]
            exact ⟨i + 1, rfl, ⟨by omega, by omega⟩, by omega⟩
        · rw [if_neg (fun h => c1 h.1)] at hm
          simp (maxSteps := 10000000) (disch := omega) only [go_sem, eq_self, decide_true, decide_false, not_true_eq_false, not_false_eq_true, reduceIte, reduceCtorEq, Nat.reduceEqDiff, Nat.reduceAdd, Nat.reduceSub, Nat.reduceLeDiff]
          refine CALL_det (mapTime_fc p q (by omega) (by omega) hsp hsq (p.getD i.toNat default).f) (.inl rfl) ?_
          rw [hm]
          simp (maxSteps := 10000000) (disch := omega) only [go_sem, eq_self, decide_true, decide_false, not_true_eq_false, not_false_eq_true, reduceIte, reduceCtorEq, Nat.reduceEqDiff, Nat.reduceAdd, Nat.reduceSub, Nat.reduceLeDiff]
          exact ⟨i + 1, rfl, ⟨by omega, by omega⟩, by omega⟩
      · obtain ⟨s1, s2⟩ := mp_self h1 (at_ := zm) (by omega)
        have hmt := mapTime_fc p p (by omega) (by omega) hsp hsp zm
        generalize mpSp p p zm = x at *
        obtain ⟨n, is, e⟩ := x
        simp only at s1 s2 hmt
        subst s1
        cases is with
        | false =>
          simp (maxSteps := 1000000) (disch := omega) only [go_sem, eq_self, decide_true, decide_false, not_true_eq_false, not_false_eq_true, reduceIte, reduceCtorEq, Nat.reduceEqDiff, Nat.reduceAdd, Nat.reduceSub, Nat.reduceLeDiff]
          refine CALL_det hmt (.inl rfl) ?_
          simp (maxSteps := 1000000) (disch := omega) only [go_sem, eq_self, decide_true, decide_false, not_true_eq_false, not_false_eq_true, reduceIte, reduceCtorEq, Nat.reduceEqDiff, Nat.reduceAdd, Nat.reduceSub, Nat.reduceLeDiff]
          refine CALL_det ready_fc (.inl rfl) ?_
          simp (maxSteps := 1000000) (disch := omega) only [go_sem, eq_self, decide_true, decide_false, not_true_eq_false, not_false_eq_true, reduceIte, reduceCtorEq, Nat.reduceEqDiff, Nat.reduceAdd, Nat.reduceSub, Nat.reduceLeDiff]
        | true =>
          have s3 := s2 rfl
          subst s3
          simp (maxSteps := 1000000) (disch := omega) only [go_sem, eq_self, decide_true, decide_false, not_true_eq_false, not_false_eq_true, reduceIte, reduceCtorEq, Nat.reduceEqDiff, Nat.reduceAdd, Nat.reduceSub, Nat.reduceLeDiff]
          refine CALL_det hmt (.inl rfl) ?_
          simp (maxSteps := 1000000) (disch := omega) only [go_sem, eq_self, decide_true, decide_false, not_true_eq_false, not_false_eq_true, reduceIte, reduceCtorEq, Nat.reduceEqDiff, Nat.reduceAdd, Nat.reduceSub, Nat.reduceLeDiff]
          refine CALL_det ready_fc (.inl rfl) ?_
          simp (maxSteps := 1000000) (disch := omega) only [go_sem, eq_self, decide_true, decide_false, not_true_eq_false, not_false_eq_true, reduceIte, reduceCtorEq, Nat.reduceEqDiff, Nat.reduceAdd, Nat.reduceSub, Nat.reduceLeDiff]
    · simp (maxSteps := 1000000) (disch := omega) only [go_sem, eq_self, decide_true, decide_false, not_true_eq_false, not_false_eq_true, reduceIte, reduceCtorEq, Nat.reduceEqDiff, Nat.reduceAdd, Nat.reduceSub, Nat.reduceLeDiff]
      refine CALL_det ready_fc (.inl rfl) ?_
      simp (maxSteps := 1000000) (disch := omega) only [go_sem, eq_self, decide_true, decide_false, not_true_eq_false, not_false_eq_true, reduceIte, reduceCtorEq, Nat.reduceEqDiff, Nat.reduceAdd, Nat.reduceSub, Nat.reduceLeDiff]
  · simp (maxSteps := 1000000) (disch := omega) only [go_sem, eq_self, decide_true, decide_false, not_true_eq_false, not_false_eq_true, reduceIte, reduceCtorEq, Nat.reduceEqDiff, Nat.reduceAdd, Nat.reduceSub, Nat.reduceLeDiff]
    refine CALL_det ready_fc (.inl rfl) ?_
    simp (maxSteps := 1000000) (disch := omega) only [go_sem, eq_self, decide_true, decide_false, not_true_eq_false, not_false_eq_true, reduceIte, reduceCtorEq, Nat.reduceEqDiff, Nat.reduceAdd, Nat.reduceSub, Nat.reduceLeDiff]
theorem mab_own : ownKnob Try.prog.godebug = none := by kernel_rfl
theorem mab_laid : laidOutB Try.prog = true := by kernel_rfl
set_option maxRecDepth 100000 in
theorem mab_lifted (os : Os) (started : os.Started) (H : Type) (enc : TypeId × Value → H) :
    ReturnsInHanded {} Try.checked os 6 .any (Rows.mappedAndBackSpec.pre6 enc Try.prog Try.f6 Rows.mappedAndBackRow.domain false) (Rows.mappedAndBackSpec.post enc Try.prog Try.f6 false true false false) := by
  refine returnsInHanded_of_change (C := Try.checked) mab_own started (by kernel_rfl) Try.func6
    (ChangeSpec.witness6 (enc := enc) (C := Try.checked) false ⟨#[], #[.slice none 0 0], []⟩ 8 (by kernel_rfl) (by kernel_rfl) (by kernel_rfl) (by kernel_rfl)) ?_
  intro W base args ds gs before hval hW _ _
  exact law_contract (P := Try.prog) (fun L h1 h2 => mab_fc L h1 h2) (fun _ _ => rfl) rfl rfl rfl mab_laid (by kernel_rfl) (of_decide_eq_true (by kernel_rfl)) Try.underlying22 Try.underlying3 (by kernel_rfl) Try.underlying4 W base args ds gs before hval hW
theorem mab_over : Rows.mappedAndBackRow.holds Try.pinned (OpenSpec.ofChange Rows.mappedAndBackSpec) :=
  OpenClaim.holds_of_wide 6 Try.f6 rfl rfl rfl rfl rfl rfl rfl ⟨rfl, rfl, rfl, rfl, rfl⟩ rfl rfl rfl rfl rfl (by kernel_rfl) Try.func6 (by kernel_rfl)
    (of_decide_eq_true (by kernel_rfl)) (by unfold Func.isWrapper; first | (rw [if_pos (by decide +kernel)]; kernel_rfl) | (rw [if_neg (by decide +kernel)]; exact ⟨rfl, rfl⟩))
    (fun os started H enc _ => mab_lifted os started H enc)
theorem mapped_and_back : Rows.MappedAndBackSaid := mab_over
end Go.Proofs.Ytggbcgldnjmobaa


/-
  With the deadband that is told an alarm is active as seldom as was asked, and with one less it is not: the walk.
-/
import Derived.Test.YtggbcgldnjmobaaDbd
import Derived.Test.YtggbcgldnjmobaaGenC
import Derived.Test.YtggbcgldnjmobaaRdy
namespace Go.Proofs.Ytggbcgldnjmobaa
open Go Go.Ai
set_option linter.unusedSimpArgs false
set_option linter.unusedVariables false
set_option maxHeartbeats 4000000
def A_dbe : List Ann := [⟨(some ⟨[0], [], []⟩), [], [], [], []⟩, ⟨(some ⟨[3,14], [14], []⟩), [], [], [], []⟩, ⟨(some ⟨[3,4,5,14], [14], []⟩), [], [], [], []⟩, ⟨(some ⟨[4,5,6], [6], []⟩), [], [], [], []⟩, ⟨(some ⟨[4,5,6,7,8,9], [6], []⟩), [], [], [], []⟩, ⟨(some ⟨[4,5,6,7,9,40], [6], []⟩), [], [], [], []⟩, ⟨(some ⟨[2], [], []⟩), [], [], [], []⟩, ⟨(some ⟨[4,5,6,7], [6], []⟩), [], [], [], []⟩, ⟨(some ⟨[4,5,6,7,9,10], [6], []⟩), [], [], [], []⟩, ⟨(some ⟨[4,5,6,7,61], [6], []⟩), [], [], [], []⟩, ⟨(some ⟨[2], [], []⟩), [], [], [], []⟩, ⟨(some ⟨[4,5,6,7,63], [6], []⟩), [], [], [], []⟩, ⟨(some ⟨[2], [], []⟩), [], [], [], []⟩, ⟨(some ⟨[4,5,6], [6], []⟩), [], [], [], []⟩, ⟨(some ⟨[5,9,11], [], []⟩), [], [], [], []⟩, ⟨(some ⟨[2], [], []⟩), [], [], [], []⟩]
def C_dbe : AC := (.seq (.reg false [⟨(some 2), none, .mv (.v (.bool false))⟩] (some ⟨[0], [], []⟩))
  (.seq (.reg false [⟨(some 12), none, .mv (.t 0)⟩, ⟨(some 13), none, .build [(.slice none 0 0), (.int .i64 (0))] [(0, 1, (.t 12))]⟩, ⟨(some 14), none, .box (.t 13)⟩, ⟨(some 3), none, .mv (.t 14)⟩] (some ⟨[3,14], [14], []⟩))
  (.seq (.reg false [⟨(some 15), none, .mv (.t 3)⟩, ⟨(some 16), none, .callx (.f 38) [(.t 15), (.v (.int .i64 (14)))]⟩, ⟨(some 17), none, .mv (.t 3)⟩, ⟨(some 18), none, .callx (.f 40) [(.t 17), (.v (.int .i64 (1))), (.v (.int .i64 (2)))]⟩, ⟨(some 4), none, .mv (.t 16)⟩, ⟨(some 5), none, .mv (.t 18)⟩] (some ⟨[3,4,5,14], [14], []⟩))
  (.seq (.reg false [⟨(some 19), none, .mv (.t 3)⟩, ⟨(some 20), none, .callx (.f 40) [(.t 19), (.v (.int .i64 (1))), (.v (.int .i64 (2)))]⟩, ⟨(some 21), none, .mv (.t 3)⟩, ⟨(some 22), none, .callx (.f 40) [(.t 21), (.v (.int .i64 (0))), (.v (.int .i64 (6)))]⟩, ⟨(some 23), none, .mv (.t 3)⟩, ⟨(some 24), none, .bslice 1 2 [(.v (.int .i64 (0))), (.v (.int .i64 (3)))]⟩, ⟨(some 25), none, .callx (.f 57) [(.t 23), (.t 24)]⟩, ⟨(some 26), none, .build [(.string (ByteArray.mk #[])), (.string (ByteArray.mk #[])), (.int .i64 (0)), (.int .i64 (0)), (.int .i64 (0)), (.int .i64 (0)), (.int .i64 (0)), (.int .i64 (0)), (.bool false), (.string (ByteArray.mk #[]))] [(0, 1, (.v (.string (ByteArray.mk #[97])))), (1, 1, (.v (.string (ByteArray.mk #[116])))), (2, 1, (.t 20)), (3, 1, (.t 22)), (5, 1, (.t 25)), (7, 1, (.v (.int .i64 (1))))]⟩, ⟨(some 6), none, .alloc [(.string (ByteArray.mk #[])), (.string (ByteArray.mk #[])), (.int .i64 (0)), (.int .i64 (0)), (.int .i64 (0)), (.int .i64 (0)), (.int .i64 (0)), (.int .i64 (0)), (.bool false), (.string (ByteArray.mk #[]))]⟩, ⟨none, none, .store 10 (.t 6) (.t 26)⟩] (some ⟨[4,5,6], [6], []⟩))
  (.seq (.reg false [⟨(some 28), none, .load true 10 (.t 6)⟩, ⟨(some 29), none, .mv (.t 4)⟩, ⟨(some 30), none, .mv (.t 5)⟩, ⟨(some 31), none, .call (.f 58) [(.t 28), (.t 29), (.v (.int .i64 (300))), (.t 30)]⟩, ⟨(some 27), none, .mv (.t 31)⟩, ⟨(some 32), none, .extr (.t 27) 0⟩, ⟨(some 33), none, .extr (.t 27) 1⟩, ⟨(some 34), none, .extr (.t 27) 2⟩, ⟨(some 7), none, .mv (.t 32)⟩, ⟨(some 8), none, .mv (.t 33)⟩, ⟨(some 9), none, .mv (.t 34)⟩] (some ⟨[4,5,6,7,8,9], [6], []⟩))
  (.seq (.seq (.reg false [⟨(some 35), none, .mv (.t 9)⟩, ⟨(some 36), none, .bin .neq (.t 35) (.v (.int .i64 (0)))⟩, ⟨(some 37), none, .mv (.t 36)⟩, ⟨(some 38), (some (37, false)), .mv (.t 8)⟩, ⟨(some 39), (some (37, false)), .un .not (.t 38)⟩, ⟨(some 40), none, .pick (.t 37) (.v (.bool true)) (.t 39)⟩] (some ⟨[4,5,6,7,9,40], [6], []⟩))
  (.cond (.t 40)
  (.seq (.reg false [⟨(some 41), none, .mv (.t 9)⟩, ⟨(some 42), none, .bin .eql (.t 41) (.v (.int .i64 (0)))⟩, ⟨(some 43), none, .mv (.t 42)⟩, ⟨(some 44), (some (43, true)), .call (.f 42) []⟩, ⟨(some 45), none, .pick (.t 43) (.t 44) (.v (.bool false))⟩, ⟨(some 2), none, .mv (.t 45)⟩] (some ⟨[2], [], []⟩))
  .ret)
  .skip))
  (.seq (.reg false [⟨(some 46), none, .mv (.t 7)⟩, ⟨(some 47), none, .fadr 4 (.t 6)⟩, ⟨none, none, .store 1 (.t 47) (.t 46)⟩] (some ⟨[4,5,6,7], [6], []⟩))
  (.seq (.reg false [⟨(some 49), none, .load true 10 (.t 6)⟩, ⟨(some 50), none, .mv (.t 4)⟩, ⟨(some 51), none, .call (.f 59) [(.t 49), (.t 50), (.v (.int .i64 (300)))]⟩, ⟨(some 48), none, .mv (.t 51)⟩, ⟨(some 52), none, .extr (.t 48) 0⟩, ⟨(some 53), none, .extr (.t 48) 1⟩, ⟨(some 10), none, .mv (.t 52)⟩, ⟨(some 9), none, .mv (.t 53)⟩] (some ⟨[4,5,6,7,9,10], [6], []⟩))
  (.seq (.seq (.reg false [⟨(some 54), none, .mv (.t 9)⟩, ⟨(some 55), none, .bin .neq (.t 54) (.v (.int .i64 (0)))⟩, ⟨(some 56), none, .mv (.t 55)⟩, ⟨(some 57), (some (56, false)), .mv (.t 10)⟩, ⟨(some 58), (some (56, false)), .len (.t 57)⟩, ⟨(some 59), (some (56, false)), .mv (.t 5)⟩, ⟨(some 60), (some (56, false)), .bin .gtr (.t 58) (.t 59)⟩, ⟨(some 61), none, .pick (.t 56) (.v (.bool true)) (.t 60)⟩] (some ⟨[4,5,6,7,61], [6], []⟩))
  (.cond (.t 61)
  (.seq (.reg false [⟨(some 2), none, .mv (.v (.bool false))⟩] (some ⟨[2], [], []⟩))
  .ret)
  .skip))
  (.seq (.seq (.reg false [⟨(some 62), none, .mv (.t 7)⟩, ⟨(some 63), none, .bin .eql (.t 62) (.v (.int .i64 (0)))⟩] (some ⟨[4,5,6,7,63], [6], []⟩))
  (.cond (.t 63)
  (.seq (.reg false [⟨(some 64), none, .call (.f 42) []⟩, ⟨(some 2), none, .mv (.t 64)⟩] (some ⟨[2], [], []⟩))
  .ret)
  .skip))
  (.seq (.reg false [⟨(some 65), none, .mv (.t 7)⟩, ⟨(some 66), none, .bin .sub (.t 65) (.v (.int .i64 (1)))⟩, ⟨(some 67), none, .fadr 4 (.t 6)⟩, ⟨none, none, .store 1 (.t 67) (.t 66)⟩] (some ⟨[4,5,6], [6], []⟩))
  (.seq (.reg false [⟨(some 69), none, .load true 10 (.t 6)⟩, ⟨(some 70), none, .mv (.t 4)⟩, ⟨(some 71), none, .call (.f 59) [(.t 69), (.t 70), (.v (.int .i64 (300)))]⟩, ⟨(some 68), none, .mv (.t 71)⟩, ⟨(some 72), none, .extr (.t 68) 0⟩, ⟨(some 73), none, .extr (.t 68) 1⟩, ⟨(some 11), none, .mv (.t 72)⟩, ⟨(some 9), none, .mv (.t 73)⟩] (some ⟨[5,9,11], [], []⟩))
  (.seq (.reg false [⟨(some 74), none, .mv (.t 9)⟩, ⟨(some 75), none, .bin .eql (.t 74) (.v (.int .i64 (0)))⟩, ⟨(some 76), none, .mv (.t 75)⟩, ⟨(some 77), (some (76, true)), .mv (.t 11)⟩, ⟨(some 78), (some (76, true)), .len (.t 77)⟩, ⟨(some 79), (some (76, true)), .mv (.t 5)⟩, ⟨(some 80), (some (76, true)), .bin .gtr (.t 78) (.t 79)⟩, ⟨(some 81), none, .pick (.t 76) (.t 80) (.v (.bool false))⟩, ⟨(some 82), none, .mv (.t 81)⟩, ⟨(some 83), (some (82, true)), .call (.f 42) []⟩, ⟨(some 84), none, .pick (.t 82) (.t 83) (.v (.bool false))⟩, ⟨(some 2), none, .mv (.t 84)⟩] (some ⟨[2], [], []⟩))
  .ret)))))))))))))
theorem c_dbe : compileCode Try.prog Try.f11.ntmps (Try.f11.body.getD .skip) A_dbe = some (C_dbe, []) := by kernel_rfl
theorem r_dbe : compileRes Try.prog Try.f11.results.toList = some [.t 2] := by kernel_rfl
theorem b_dbe : Try.f11.body = some (Try.f11.body.getD .skip) := by kernel_rfl
theorem n_dbe : (Try.f11.name == "runtime.NumGoroutine") = false := by kernel_rfl
theorem fc_dbe {xt : Option (List Cel)} {args : List Val} {R : List Cel → Val → Prop} (hn : (if xt.isSome then 1 else 0) + args.length ≤ Try.f11.ntmps) (h : ex Try.prog C_dbe [] (fpost xt [.t 2] R) (initSt xt args)) : FC Try.prog 11 xt args R :=
  fc_of_awp Try.func11 b_dbe n_dbe c_dbe r_dbe (of_decide_eq_true (by kernel_rfl)) hn h


theorem actSp_kd {kd lim db on off un : Int} {l : List Smp} (hk : kd = 1 ∨ kd = 2) (hlim : -1000000 ≤ lim ∧ lim ≤ 1000000) (hdb : 0 ≤ db ∧ db ≤ 2000000) (hon : 0 ≤ on ∧ on ≤ 86400000) (hoff : 0 ≤ off ∧ off ≤ 86400000) (hu : 0 ≤ un ∧ un ≤ 345686400000) (hs : serFault l = 0) : actSp kd lim db on off 1 l un = (actW kd lim db on off un l, 0) := by
  have e : almF kd lim db on off 1 = 0 := by
    unfold almF
    rw [if_neg (by omega), if_neg (by omega), if_neg (by omega)]
  have e2 : unF kd lim db on off 1 l un = 0 := by
    unfold unF
    rw [e, hs, if_neg (fun h => by omega)]; rfl
  unfold actSp
  rw [if_neg (by omega)]
set_option maxHeartbeats 12000000 in
set_option maxRecDepth 8000 in
theorem dbe_fc (L : List Int) (hL : ∀ x ∈ L, I64 x) (hl : L.length ≤ 9223372036854775807) : FC Try.prog 11 none [ints false L] (fun _ r => r = bv true) := by
  refine fc_dbe (by simp +arith) ?_
  unfold C_dbe
  simp (maxSteps := 1000000) (disch := omega) only [go_sem, eq_self, decide_true, decide_false, not_true_eq_false, not_false_eq_true, reduceIte, reduceCtorEq, Nat.reduceEqDiff, Nat.reduceAdd, Nat.reduceSub, Nat.reduceLeDiff]
  refine callx_gen (p := 0) (rightCurve_fc 14 (by omega) (by omega)) hL hl (by omega) (by omega) ⟨_, [], rfl, by simp, rfl⟩ ?_
  rintro pa r ha1 ha2 ⟨l, hs, hlm, rfl⟩
  refine ⟨rfl, ?_⟩
  unfold strm
  simp (maxSteps := 1000000) (disch := omega) only [go_sem, eq_self, decide_true, decide_false, not_true_eq_false, not_false_eq_true, reduceIte, reduceCtorEq, Nat.reduceEqDiff, Nat.reduceAdd, Nat.reduceSub, Nat.reduceLeDiff]
  refine callx_gen (range_fc 1 2 (by omega) (by omega) (by omega)) hL hl (by omega) (by omega) ⟨_, 1, by omega, by omega, rfl⟩ ?_
  rintro pb r hb1 hb2 ⟨many, hm1, hm2, rfl⟩
  refine ⟨rfl, ?_⟩
  unfold strm
  simp (maxSteps := 1000000) (disch := omega) only [go_sem, eq_self, decide_true, decide_false, not_true_eq_false, not_false_eq_true, reduceIte, reduceCtorEq, Nat.reduceEqDiff, Nat.reduceAdd, Nat.reduceSub, Nat.reduceLeDiff]
  refine callx_gen (range_fc 1 2 (by omega) (by omega) (by omega)) hL hl (by omega) (by omega) ⟨_, 1, by omega, by omega, rfl⟩ ?_
  rintro pc r hc1 hc2 ⟨kd, hk1, hk2, rfl⟩
  refine ⟨rfl, ?_⟩
  unfold strm
  simp (maxSteps := 1000000) (disch := omega) only [go_sem, eq_self, decide_true, decide_false, not_true_eq_false, not_false_eq_true, reduceIte, reduceCtorEq, Nat.reduceEqDiff, Nat.reduceAdd, Nat.reduceSub, Nat.reduceLeDiff]
  refine callx_gen (range_fc 0 6 (by omega) (by omega) (by omega)) hL hl (by omega) (by omega) ⟨_, 1, by omega, by omega, rfl⟩ ?_
  rintro pd r hd1 hd2 ⟨lim, hl1, hl2, rfl⟩
  refine ⟨rfl, ?_⟩
  unfold strm
  simp (maxSteps := 1000000) (disch := omega) only [go_sem, eq_self, decide_true, decide_false, not_true_eq_false, not_false_eq_true, reduceIte, reduceCtorEq, Nat.reduceEqDiff, Nat.reduceAdd, Nat.reduceSub, Nat.reduceLeDiff]
  refine callx_gen (pick_fc false [0, 3] (by simp) (by simp)) hL hl (by omega) (by omega) ⟨_, 0, by simp, rfl⟩ ?_
  rintro po r hao hbo ⟨zo, hzo, rfl⟩
  refine ⟨rfl, ?_⟩
  unfold strm
  simp only [List.mem_cons, List.not_mem_nil, or_false] at hzo
  simp (maxSteps := 1000000) (disch := omega) only [go_sem, eq_self, decide_true, decide_false, not_true_eq_false, not_false_eq_true, reduceIte, reduceCtorEq, Nat.reduceEqDiff, Nat.reduceAdd, Nat.reduceSub, Nat.reduceLeDiff]
  have hg := good_of hs
  have hk : kd = 1 ∨ kd = 2 := by omega
  have hal : almF kd lim 0 zo 0 1 = 0 := by
    unfold almF
    rw [if_neg (by omega), if_neg (by omega), if_neg (by omega)]
  have hdb := dbd_fc kd lim 0 zo 0 1 300 many l hs hk hal (by omega) (by omega)
  cases hF : dbF kd lim zo 0 300 many l (dbC kd lim l) with
  | none =>
    rw [hF] at hdb
    unfold dbR at hdb
    refine CALL_det hdb (.inl rfl) ?_
    simp (maxSteps := 1000000) (disch := omega) only [go_sem, eq_self, decide_true, decide_false, not_true_eq_false, not_false_eq_true, reduceIte, reduceCtorEq, Nat.reduceEqDiff, Nat.reduceAdd, Nat.reduceSub, Nat.reduceLeDiff]
    refine CALL_det ready_fc (.inl rfl) ?_
    simp (maxSteps := 1000000) (disch := omega) only [go_sem, eq_self, decide_true, decide_false, not_true_eq_false, not_false_eq_true, reduceIte, reduceCtorEq, Nat.reduceEqDiff, Nat.reduceAdd, Nat.reduceSub, Nat.reduceLeDiff]
  | some d =>
    rw [hF] at hdb
    unfold dbR at hdb
    have hC : (dbC kd lim l).Pairwise (· ≤ ·) := by
      refine cpt_asc ?_
      have h := List.pairwise_mergeSort (le := fun x y : Int => decide (x ≤ y)) (fun a b c h1 h2 => by simp only [decide_eq_true_eq] at *; omega) (fun a b => by simp only [Bool.or_eq_true, decide_eq_true_eq]; omega) (trN kd lim l l.length)
      exact h.imp fun h => of_decide_eq_true h
    have hm : ∀ x, x ∈ dbC kd lim l ↔ x ∈ trN kd lim l l.length := fun x => by
      unfold dbC srtI
      rw [cpt_mem, List.mem_mergeSort]
    obtain ⟨q1, q2, q3⟩ := less_not (kd := kd) (lim := lim) (on := zo) (off := 0) (un := 300) (many := many) hk (by omega) hg (fun s hs => by
      obtain ⟨i, hi, rfl⟩ := List.mem_iff_getElem.1 hs
      have ho := hg.ok i hi
      have e : l.getD i default = l[i] := by simp [List.getD_eq_getElem?_getD, hi]
      rw [e] at ho
      unfold okSmp at ho
      omega) hC hm hF
    have e1 := actSp_kd (lim := lim) (db := d) (on := zo) (off := 0) (un := 300) hk (by omega) (by omega) (by omega) (by omega) (by omega) hs
    have hA := activeP_fc kd lim d zo 0 1 300 l (by omega)
    rw [e1] at hA
    have n1 := act_len (kd := kd) (lim := lim) (db := d) (on := zo) (off := 0) (un := 300) l
    by_cases h0 : d = 0
    · generalize actW kd lim d zo 0 300 l = A at *
      refine CALL_det hdb (.inl rfl) ?_
      simp (maxSteps := 1000000) (disch := omega) only [go_sem, eq_self, decide_true, decide_false, not_true_eq_false, not_false_eq_true, reduceIte, reduceCtorEq, Nat.reduceEqDiff, Nat.reduceAdd, Nat.reduceSub, Nat.reduceLeDiff]
      refine CALL_det hA (.inl rfl) ?_
      simp (maxSteps := 1000000) (disch := omega) only [go_sem, eq_self, decide_true, decide_false, not_true_eq_false, not_false_eq_true, reduceIte, reduceCtorEq, Nat.reduceEqDiff, Nat.reduceAdd, Nat.reduceSub, Nat.reduceLeDiff]
      refine CALL_det ready_fc (.inl rfl) ?_
      simp (maxSteps := 1000000) (disch := omega) only [go_sem, eq_self, decide_true, decide_false, not_true_eq_false, not_false_eq_true, reduceIte, reduceCtorEq, Nat.reduceEqDiff, Nat.reduceAdd, Nat.reduceSub, Nat.reduceLeDiff]
    · have q4 := q3 h0
      have e2 := actSp_kd (lim := lim) (db := d - 1) (on := zo) (off := 0) (un := 300) hk (by omega) (by omega) (by omega) (by omega) (by omega) hs
      have hB := activeP_fc kd lim (d - 1) zo 0 1 300 l (by omega)
      rw [e2] at hB
      have n2 := act_len (kd := kd) (lim := lim) (db := d - 1) (on := zo) (off := 0) (un := 300) l
      clear q3 hC hm hF
      generalize actW kd lim d zo 0 300 l = A at *
      generalize actW kd lim (d - 1) zo 0 300 l = B at *
      refine CALL_det hdb (.inl rfl) ?_
      simp (maxSteps := 1000000) (disch := omega) only [go_sem, eq_self, decide_true, decide_false, not_true_eq_false, not_false_eq_true, reduceIte, reduceCtorEq, Nat.reduceEqDiff, Nat.reduceAdd, Nat.reduceSub, Nat.reduceLeDiff]
      refine CALL_det hA (.inl rfl) ?_
      simp (maxSteps := 1000000) (disch := omega) only [go_sem, eq_self, decide_true, decide_false, not_true_eq_false, not_false_eq_true, reduceIte, reduceCtorEq, Nat.reduceEqDiff, Nat.reduceAdd, Nat.reduceSub, Nat.reduceLeDiff]
      refine CALL_det hB (.inl rfl) ?_
      simp (maxSteps := 1000000) (disch := omega) only [go_sem, eq_self, decide_true, decide_false, not_true_eq_false, not_false_eq_true, reduceIte, reduceCtorEq, Nat.reduceEqDiff, Nat.reduceAdd, Nat.reduceSub, Nat.reduceLeDiff]
      refine CALL_det ready_fc (.inl rfl) ?_
      simp (maxSteps := 1000000) (disch := omega) only [go_sem, eq_self, decide_true, decide_false, not_true_eq_false, not_false_eq_true, reduceIte, reduceCtorEq, Nat.reduceEqDiff, Nat.reduceAdd, Nat.reduceSub, Nat.reduceLeDiff]
end Go.Proofs.Ytggbcgldnjmobaa

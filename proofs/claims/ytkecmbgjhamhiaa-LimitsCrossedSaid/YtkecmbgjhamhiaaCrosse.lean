/-
  LimitsCrossed's function: the program's answers and the reference's are one.
-/
import Derived.Test.YtkecmbgjhamhiaaCrossd
namespace Go.Proofs.Ytkecmbgjhamhiaa
open Go Go.Ai
set_option linter.unusedSimpArgs false
set_option linter.unusedVariables false
set_option maxHeartbeats 4000000
def A_lc : List Ann := [⟨(some ⟨[0], [], []⟩), [], [], [], []⟩, ⟨(some ⟨[3,21], [21], []⟩), [], [], [], []⟩, ⟨(some ⟨[4,5,6,7], [6], []⟩), [], [], [], []⟩, ⟨(some ⟨[4,5,6,7,8], [6], []⟩), [], [], [], []⟩, ⟨(some ⟨[4,5,6,7,8,9,10], [6], []⟩), [], [], [], []⟩, ⟨(some ⟨[4,5,6,7,8,9,10,11,12,13], [6], []⟩), [], [], [], []⟩, ⟨(some ⟨[4,5,6,7,9,10,11,12,13,14,15], [6], []⟩), [], [], [], []⟩, ⟨(some ⟨[4,5,6,7,9,10,11,12,13,14,15,16], [6], []⟩), [], [], [(16, 2)], []⟩, ⟨(some ⟨[4,5,6,7,9,10,11,12,13,14,15,16,17,18], [6], []⟩), [], [], [], []⟩, ⟨(some ⟨[4,5,6,7,9,10,11,12,13,14,15,16,17,18,64], [6], []⟩), [], [], [], []⟩, ⟨(some ⟨[4,5,6,9,10,11,12,13,14,15,16,17,18], [6], []⟩), [], [], [], []⟩, ⟨(some ⟨[4,5,6,9,10,11,12,13,14,15,16,17,18,70], [6], []⟩), [], [], [], []⟩, ⟨(some ⟨[9,10,11,12,13,14,15,16,17,18], [], []⟩), [], [], [], []⟩, ⟨(some ⟨[2], [], []⟩), [], [], [], []⟩]
def C_lc : AC := (.seq (.reg false [⟨(some 2), none, .mv (.v (.bool false))⟩] (some ⟨[0], [], []⟩))
  (.seq (.reg false [⟨(some 19), none, .mv (.t 0)⟩, ⟨(some 20), none, .build [(.slice none 0 0), (.int .i64 (0))] [(0, 1, (.t 19))]⟩, ⟨(some 21), none, .box (.t 20)⟩, ⟨(some 3), none, .mv (.t 21)⟩] (some ⟨[3,21], [21], []⟩))
  (.seq (.reg false [⟨(some 22), none, .mv (.t 3)⟩, ⟨(some 23), none, .callx (.f 15) [(.t 22), (.v (.int .i64 (10)))]⟩, ⟨(some 24), none, .mv (.t 3)⟩, ⟨(some 25), none, .callx (.f 16) [(.t 24), (.v (.int .i64 (2)))]⟩, ⟨(some 26), none, .mv (.t 3)⟩, ⟨(some 27), none, .callx (.f 18) [(.t 26)]⟩, ⟨(some 28), none, .mv (.t 3)⟩, ⟨(some 29), none, .callx (.f 48) [(.t 28)]⟩, ⟨(some 6), none, .alloc [(.int .i64 (0)), (.int .i64 (0))]⟩, ⟨(some 4), none, .mv (.t 23)⟩, ⟨(some 5), none, .mv (.t 25)⟩, ⟨none, none, .store 2 (.t 6) (.t 27)⟩, ⟨(some 7), none, .mv (.t 29)⟩] (some ⟨[4,5,6,7], [6], []⟩))
  (.seq (.reg true [⟨(some 30), none, .mv (.t 4)⟩, ⟨(some 31), none, .call (.f 20) [(.t 30)]⟩, ⟨(some 32), none, .load true 2 (.t 6)⟩, ⟨(some 33), none, .call (.f 25) [(.t 32)]⟩, ⟨(some 34), none, .bslice 1 2 [(.t 31), (.t 33)]⟩, ⟨(some 35), none, .call (.f 23) [(.t 34)]⟩, ⟨(some 8), none, .mv (.t 35)⟩] (some ⟨[4,5,6,7,8], [6], []⟩))
  (.seq (.reg false [⟨(some 37), none, .mv (.t 4)⟩, ⟨(some 38), none, .load true 2 (.t 6)⟩, ⟨(some 39), none, .mv (.t 7)⟩, ⟨(some 40), none, .call (.f 49) [(.t 37), (.t 38), (.t 39)]⟩, ⟨(some 36), none, .mv (.t 40)⟩, ⟨(some 41), none, .extr (.t 36) 0⟩, ⟨(some 42), none, .extr (.t 36) 1⟩, ⟨(some 9), none, .mv (.t 41)⟩, ⟨(some 10), none, .mv (.t 42)⟩] (some ⟨[4,5,6,7,8,9,10], [6], []⟩))
  (.seq (.reg false [⟨(some 44), none, .mv (.t 4)⟩, ⟨(some 45), none, .mv (.t 5)⟩, ⟨(some 46), none, .load true 2 (.t 6)⟩, ⟨(some 47), none, .call (.f 50) [(.t 44), (.t 45), (.t 46)]⟩, ⟨(some 43), none, .mv (.t 47)⟩, ⟨(some 48), none, .extr (.t 43) 0⟩, ⟨(some 49), none, .extr (.t 43) 1⟩, ⟨(some 50), none, .extr (.t 43) 2⟩, ⟨(some 11), none, .mv (.t 48)⟩, ⟨(some 12), none, .mv (.t 49)⟩, ⟨(some 13), none, .mv (.t 50)⟩] (some ⟨[4,5,6,7,8,9,10,11,12,13], [6], []⟩))
  (.seq (.reg true [⟨(some 51), none, .mv (.t 8)⟩, ⟨(some 52), none, .mv (.t 7)⟩, ⟨(some 53), none, .call (.f 51) [(.t 52)]⟩, ⟨(some 54), none, .bslice 1 2 [(.t 51), (.t 53)]⟩, ⟨(some 55), none, .call (.f 23) [(.t 54)]⟩, ⟨(some 56), none, .mv (.t 8)⟩, ⟨(some 57), none, .fadr 1 (.t 6)⟩, ⟨(some 58), none, .load false 1 (.t 57)⟩, ⟨(some 59), none, .bin .eql (.t 58) (.v (.int .i64 (345686400000)))⟩, ⟨(some 60), none, .call (.f 44) [(.t 59), (.v (.int .i64 (1)))]⟩, ⟨(some 61), none, .bslice 1 2 [(.t 56), (.t 60)]⟩, ⟨(some 62), none, .call (.f 23) [(.t 61)]⟩, ⟨(some 14), none, .mv (.t 55)⟩, ⟨(some 15), none, .mv (.t 62)⟩] (some ⟨[4,5,6,7,9,10,11,12,13,14,15], [6], []⟩))
  (.seq (.seq (.reg false [⟨(some 16), none, .mv (.v (.slice none 0 0))⟩] (some ⟨[4,5,6,7,9,10,11,12,13,14,15,16], [6], []⟩))
  (.ty 16 2))
  (.seq (.reg false [⟨(some 17), none, .mv (.v (.int .i64 (0)))⟩, ⟨(some 18), none, .mv (.v (.bool false))⟩] (some ⟨[4,5,6,7,9,10,11,12,13,14,15,16,17,18], [6], []⟩))
  (.seq (.seq (.reg false [⟨(some 63), none, .mv (.t 14)⟩, ⟨(some 64), none, .bin .eql (.t 63) (.v (.int .i64 (0)))⟩] (some ⟨[4,5,6,7,9,10,11,12,13,14,15,16,17,18,64], [6], []⟩))
  (.cond (.t 64)
  (.reg false [⟨(some 65), none, .mv (.t 4)⟩, ⟨(some 66), none, .load true 2 (.t 6)⟩, ⟨(some 67), none, .mv (.t 7)⟩, ⟨(some 68), none, .call (.f 52) [(.t 65), (.t 66), (.t 67)]⟩, ⟨(some 16), none, .mv (.t 68)⟩] (some ⟨[4,5,6,9,10,11,12,13,14,15,16,17,18], [6], []⟩))
  .skip))
  (.seq (.seq (.reg false [⟨(some 69), none, .mv (.t 15)⟩, ⟨(some 70), none, .bin .eql (.t 69) (.v (.int .i64 (0)))⟩] (some ⟨[4,5,6,9,10,11,12,13,14,15,16,17,18,70], [6], []⟩))
  (.cond (.t 70)
  (.reg false [⟨(some 72), none, .mv (.t 4)⟩, ⟨(some 73), none, .mv (.t 5)⟩, ⟨(some 74), none, .load true 2 (.t 6)⟩, ⟨(some 75), none, .call (.f 53) [(.t 72), (.t 73), (.t 74)]⟩, ⟨(some 71), none, .mv (.t 75)⟩, ⟨(some 76), none, .extr (.t 71) 0⟩, ⟨(some 77), none, .extr (.t 71) 1⟩, ⟨(some 17), none, .mv (.t 76)⟩, ⟨(some 18), none, .mv (.t 77)⟩] (some ⟨[9,10,11,12,13,14,15,16,17,18], [], []⟩))
  .skip))
  (.seq (.reg false [⟨(some 78), none, .mv (.t 10)⟩, ⟨(some 79), none, .mv (.t 14)⟩, ⟨(some 80), none, .bin .eql (.t 78) (.t 79)⟩, ⟨(some 81), none, .mv (.t 80)⟩, ⟨(some 82), (some (81, true)), .mv (.t 9)⟩, ⟨(some 83), (some (81, true)), .mv (.t 16)⟩, ⟨(some 84), (some (81, true)), .call (.f 54) [(.t 82), (.t 83)]⟩, ⟨(some 85), none, .pick (.t 81) (.t 84) (.v (.bool false))⟩, ⟨(some 86), none, .mv (.t 85)⟩, ⟨(some 87), (some (86, true)), .mv (.t 13)⟩, ⟨(some 88), (some (86, true)), .mv (.t 15)⟩, ⟨(some 89), (some (86, true)), .bin .eql (.t 87) (.t 88)⟩, ⟨(some 90), none, .pick (.t 86) (.t 89) (.v (.bool false))⟩, ⟨(some 91), none, .mv (.t 90)⟩, ⟨(some 92), (some (91, true)), .mv (.t 11)⟩, ⟨(some 93), (some (91, true)), .mv (.t 17)⟩, ⟨(some 94), (some (91, true)), .bin .eql (.t 92) (.t 93)⟩, ⟨(some 95), none, .pick (.t 91) (.t 94) (.v (.bool false))⟩, ⟨(some 96), none, .mv (.t 95)⟩, ⟨(some 97), (some (96, true)), .mv (.t 12)⟩, ⟨(some 98), (some (96, true)), .mv (.t 18)⟩, ⟨(some 99), (some (96, true)), .eqs false false [.b] (.t 97) (.t 98)⟩, ⟨(some 100), none, .pick (.t 96) (.t 99) (.v (.bool false))⟩, ⟨(some 101), none, .mv (.t 100)⟩, ⟨(some 102), (some (101, true)), .call (.f 30) []⟩, ⟨(some 103), none, .pick (.t 101) (.t 102) (.v (.bool false))⟩, ⟨(some 2), none, .mv (.t 103)⟩] (some ⟨[2], [], []⟩))
  .ret))))))))))))
theorem c_lc : compileCode Try.prog Try.f6.ntmps (Try.f6.body.getD .skip) A_lc = some (C_lc, []) := by kernel_rfl
theorem r_lc : compileRes Try.prog Try.f6.results.toList = some [.t 2] := by kernel_rfl
theorem b_lc : Try.f6.body = some (Try.f6.body.getD .skip) := by kernel_rfl
theorem n_lc : (Try.f6.name == "runtime.NumGoroutine") = false := by kernel_rfl
theorem fc_lc {xt : Option (List Cel)} {args : List Val} {R : List Cel → Val → Prop} (hn : (if xt.isSome then 1 else 0) + args.length ≤ Try.f6.ntmps) (h : ex Try.prog C_lc [] (fpost xt [.t 2] R) (initSt xt args)) : FC Try.prog 6 xt args R :=
  fc_of_awp Try.func6 b_lc n_lc c_lc r_lc (of_decide_eq_true (by kernel_rfl)) hn h


theorem orSp_ne {a : Int} (h : ¬a = 0) (l : List Int) : orSp (a :: l) = a := by rw [orSp, if_pos h]
theorem orSp_z (l : List Int) : orSp (0 :: l) = orSp l := by rw [orSp, if_neg (by simp)]
theorem orSp_1 (a : Int) : orSp [a] = a := by rw [orSp]; split <;> simp_all [orSp]
theorem crs_ok {l : List Smp} {f t L : Int} (h1 : bothFault l f t = 0) (h2 : limF L = 0) : crsSp l f t L = (refGo L f t l, 0) := by
  unfold crsSp; rw [if_neg (by omega), if_neg (by omega), cr_ref]
theorem crs_lim {l : List Smp} {f t L : Int} (h1 : bothFault l f t = 0) (h2 : ¬limF L = 0) : crsSp l f t L = ([], limF L) := by
  unfold crsSp; rw [if_neg (by omega), if_pos h2]
theorem crs_no {l : List Smp} {f t : Int} (L : Int) (h1 : ¬bothFault l f t = 0) : crsSp l f t L = ([], bothFault l f t) := by
  unfold crsSp; rw [if_pos h1]
theorem chs_ok {l : List Smp} {f t : Int} (st : Bool) (h1 : bothFault l f t = 0) (h2 : ¬t = 345686400000) : chSp l st f t = ((chO l st f t).1, (chO l st f t).2, 0) := by
  unfold chSp chO; rw [if_neg (by omega), if_neg h2]; split <;> rfl
theorem chs_end {l : List Smp} {f t : Int} (st : Bool) (h1 : bothFault l f t = 0) (h2 : t = 345686400000) : chSp l st f t = (0, false, 1) := by
  unfold chSp; rw [if_neg (by omega), if_pos h2]
theorem chs_no {l : List Smp} {f t : Int} (st : Bool) (h1 : ¬bothFault l f t = 0) : chSp l st f t = (0, false, bothFault l f t) := by
  unfold chSp; rw [if_pos h1]
theorem lc_fc (L : List Int) (hL : ∀ x ∈ L, I64 x) (hl : L.length ≤ 9223372036854775807) : FC Try.prog 6 none [ints false L] (fun _ r => r = bv true) := by
  refine fc_lc (by simp +arith) ?_
  unfold C_lc
  simp (maxSteps := 1000000) (disch := omega) only [go_sem, eq_self, decide_true, decide_false, not_true_eq_false, not_false_eq_true, reduceIte, reduceCtorEq, Nat.reduceEqDiff, Nat.reduceAdd, Nat.reduceSub, Nat.reduceLeDiff]
  refine callx_gen (p := 0) (curve_fc 10 (by omega) (by omega)) hL hl (by omega) (by omega) ⟨_, [], by simp, by simp, rfl⟩ ?_
  rintro pa r ha1 ha2 ⟨l, hll, hl64, rfl⟩
  refine ⟨rfl, ?_⟩
  unfold strm
  simp (maxSteps := 1000000) (disch := omega) only [go_sem, eq_self, decide_true, decide_false, not_true_eq_false, not_false_eq_true, reduceIte, reduceCtorEq, Nat.reduceEqDiff, Nat.reduceAdd, Nat.reduceSub, Nat.reduceLeDiff]
  refine callx_gen (flip_fc 2 (by omega) (by omega)) hL hl (by omega) (by omega) ⟨_, true, rfl⟩ ?_
  rintro pb r hab hbb ⟨bb, rfl⟩
  refine ⟨rfl, ?_⟩
  unfold strm
  simp (maxSteps := 1000000) (disch := omega) only [go_sem, eq_self, decide_true, decide_false, not_true_eq_false, not_false_eq_true, reduceIte, reduceCtorEq, Nat.reduceEqDiff, Nat.reduceAdd, Nat.reduceSub, Nat.reduceLeDiff]
  refine callx_gen aspan_fc hL hl (by omega) (by omega) ⟨_, 0, 0, by simp [I64], by simp [I64], rfl⟩ ?_
  rintro pd r had hbd ⟨f, t, hf, ht, rfl⟩
  refine ⟨rfl, ?_⟩
  unfold strm
  simp (maxSteps := 1000000) (disch := omega) only [go_sem, eq_self, decide_true, decide_false, not_true_eq_false, not_false_eq_true, reduceIte, reduceCtorEq, Nat.reduceEqDiff, Nat.reduceAdd, Nat.reduceSub, Nat.reduceLeDiff]
  refine callx_gen alimit_fc hL hl (by omega) (by omega) ⟨_, 0, by simp [I64], rfl⟩ ?_
  rintro pe r hae hbe ⟨lim, hlim, rfl⟩
  refine ⟨rfl, ?_⟩
  unfold strm
  simp (maxSteps := 1000000) (disch := omega) only [go_sem, eq_self, decide_true, decide_false, not_true_eq_false, not_false_eq_true, reduceIte, reduceCtorEq, Nat.reduceEqDiff, Nat.reduceAdd, Nat.reduceSub, Nat.reduceLeDiff]
  refine CALL_det (seriesFault_fc l (by omega)) (.inl rfl) ?_
  simp (maxSteps := 1000000) (disch := omega) only [go_sem, eq_self, decide_true, decide_false, not_true_eq_false, not_false_eq_true, reduceIte, reduceCtorEq, Nat.reduceEqDiff, Nat.reduceAdd, Nat.reduceSub, Nat.reduceLeDiff]
  refine CALL_det (windowFault_fc f t) (.inl rfl) ?_
  simp (maxSteps := 1000000) (disch := omega) only [go_sem, eq_self, decide_true, decide_false, not_true_eq_false, not_false_eq_true, reduceIte, reduceCtorEq, Nat.reduceEqDiff, Nat.reduceAdd, Nat.reduceSub, Nat.reduceLeDiff]
  refine CALL_det (orE_fc false [serFault l, winFault f t] (by simp)) (.inl rfl) ?_
  rw [bothFault_or]
  simp (maxSteps := 1000000) (disch := omega) only [go_sem, eq_self, decide_true, decide_false, not_true_eq_false, not_false_eq_true, reduceIte, reduceCtorEq, Nat.reduceEqDiff, Nat.reduceAdd, Nat.reduceSub, Nat.reduceLeDiff]
  refine CALL_det (crossings_fc l (by omega) f t lim) (.inl rfl) ?_
  simp (maxSteps := 1000000) (disch := omega) only [go_sem, eq_self, decide_true, decide_false, not_true_eq_false, not_false_eq_true, reduceIte, reduceCtorEq, Nat.reduceEqDiff, Nat.reduceAdd, Nat.reduceSub, Nat.reduceLeDiff]
  refine CALL_det (change_fc l (by omega) bb f t) (.inl rfl) ?_
  simp (maxSteps := 1000000) (disch := omega) only [go_sem, eq_self, decide_true, decide_false, not_true_eq_false, not_false_eq_true, reduceIte, reduceCtorEq, Nat.reduceEqDiff, Nat.reduceAdd, Nat.reduceSub, Nat.reduceLeDiff]
  refine CALL_det (limitFault_fc lim) (.inl rfl) ?_
  simp (maxSteps := 1000000) (disch := omega) only [go_sem, eq_self, decide_true, decide_false, not_true_eq_false, not_false_eq_true, reduceIte, reduceCtorEq, Nat.reduceEqDiff, Nat.reduceAdd, Nat.reduceSub, Nat.reduceLeDiff]
  refine CALL_det (orE_fc false [bothFault l f t, limF lim] (by simp)) (.inl rfl) ?_
  simp (maxSteps := 1000000) (disch := omega) only [go_sem, eq_self, decide_true, decide_false, not_true_eq_false, not_false_eq_true, reduceIte, reduceCtorEq, Nat.reduceEqDiff, Nat.reduceAdd, Nat.reduceSub, Nat.reduceLeDiff]
  refine CALL_det (when_fc (decide (t = 345686400000)) 1) (.inl rfl) ?_
  simp (maxSteps := 1000000) (disch := omega) only [go_sem, eq_self, decide_true, decide_false, not_true_eq_false, not_false_eq_true, reduceIte, reduceCtorEq, Nat.reduceEqDiff, Nat.reduceAdd, Nat.reduceSub, Nat.reduceLeDiff]
  refine CALL_det (orE_fc false [bothFault l f t, if t = 345686400000 then 1 else 0] (by simp)) (.inl rfl) ?_
  by_cases h1 : bothFault l f t = 0
  · have hg := good_of (bothFault_ok h1).1
    have hw := winFault_ok (bothFault_ok h1).2
    have hlen := hg.len
    have hrl := refGo_len lim f t l
    have hlf : limF lim = 0 ∨ limF lim = 1 := by unfold limF; split <;> simp
    by_cases h2 : limF lim = 0
    · have hlim2 : -1000000 ≤ lim ∧ lim ≤ 1000000 := by unfold limF at h2; split at h2 <;> omega
      rw [crs_ok h1 h2, h1, orSp_z, orSp_z, orSp_1, orSp_1, h2]
      by_cases h3 : t = 345686400000
      · rw [if_pos h3, chs_end bb h1 h3]
        simp (maxSteps := 1000000) (disch := omega) only [go_sem, eq_self, decide_true, decide_false, not_true_eq_false, not_false_eq_true, reduceIte, reduceCtorEq, Nat.reduceEqDiff, Nat.reduceAdd, Nat.reduceSub, Nat.reduceLeDiff]
        refine CALL_det (crossingsOf_fc l hg f t lim hlim2 hw) (.inl rfl) ?_
        simp (maxSteps := 1000000) (disch := omega) only [go_sem, eq_self, decide_true, decide_false, not_true_eq_false, not_false_eq_true, reduceIte, reduceCtorEq, Nat.reduceEqDiff, Nat.reduceAdd, Nat.reduceSub, Nat.reduceLeDiff]
        refine CALL_det (eqFr_fc _ _ (refGo lim f t l) (by omega)) (.inl rfl) ?_
        simp (maxSteps := 1000000) (disch := omega) only [go_sem, eq_self, decide_true, decide_false, not_true_eq_false, not_false_eq_true, reduceIte, reduceCtorEq, Nat.reduceEqDiff, Nat.reduceAdd, Nat.reduceSub, Nat.reduceLeDiff]
        refine CALL_det queried_fc (.inl rfl) ?_
        simp (maxSteps := 1000000) (disch := omega) only [go_sem, eq_self, decide_true, decide_false, not_true_eq_false, not_false_eq_true, reduceIte, reduceCtorEq, Nat.reduceEqDiff, Nat.reduceAdd, Nat.reduceSub, Nat.reduceLeDiff]
      · rw [if_neg h3, chs_ok bb h1 h3]
        simp (maxSteps := 1000000) (disch := omega) only [go_sem, eq_self, decide_true, decide_false, not_true_eq_false, not_false_eq_true, reduceIte, reduceCtorEq, Nat.reduceEqDiff, Nat.reduceAdd, Nat.reduceSub, Nat.reduceLeDiff]
        refine CALL_det (crossingsOf_fc l hg f t lim hlim2 hw) (.inl rfl) ?_
        simp (maxSteps := 1000000) (disch := omega) only [go_sem, eq_self, decide_true, decide_false, not_true_eq_false, not_false_eq_true, reduceIte, reduceCtorEq, Nat.reduceEqDiff, Nat.reduceAdd, Nat.reduceSub, Nat.reduceLeDiff]
        refine CALL_det (changeOf_fc l hg bb f t hw) (.inl rfl) ?_
        simp (maxSteps := 1000000) (disch := omega) only [go_sem, eq_self, decide_true, decide_false, not_true_eq_false, not_false_eq_true, reduceIte, reduceCtorEq, Nat.reduceEqDiff, Nat.reduceAdd, Nat.reduceSub, Nat.reduceLeDiff]
        refine CALL_det (eqFr_fc _ _ (refGo lim f t l) (by omega)) (.inl rfl) ?_
        simp (maxSteps := 1000000) (disch := omega) only [go_sem, eq_self, decide_true, decide_false, not_true_eq_false, not_false_eq_true, reduceIte, reduceCtorEq, Nat.reduceEqDiff, Nat.reduceAdd, Nat.reduceSub, Nat.reduceLeDiff]
        refine CALL_det queried_fc (.inl rfl) ?_
        simp (maxSteps := 1000000) (disch := omega) only [go_sem, eq_self, decide_true, decide_false, not_true_eq_false, not_false_eq_true, reduceIte, reduceCtorEq, Nat.reduceEqDiff, Nat.reduceAdd, Nat.reduceSub, Nat.reduceLeDiff]
    · have h2' : limF lim = 1 := by omega
      rw [crs_lim h1 h2, h1, orSp_z, orSp_z, orSp_1, orSp_1, h2']
      by_cases h3 : t = 345686400000
      · rw [if_pos h3, chs_end bb h1 h3]
        simp (maxSteps := 1000000) (disch := omega) only [go_sem, eq_self, decide_true, decide_false, not_true_eq_false, not_false_eq_true, reduceIte, reduceCtorEq, Nat.reduceEqDiff, Nat.reduceAdd, Nat.reduceSub, Nat.reduceLeDiff]
        refine CALL_det (eqFr_fc _ _ [] (by simp)) (.inl rfl) ?_
        simp (maxSteps := 1000000) (disch := omega) only [go_sem, eq_self, decide_true, decide_false, not_true_eq_false, not_false_eq_true, reduceIte, reduceCtorEq, Nat.reduceEqDiff, Nat.reduceAdd, Nat.reduceSub, Nat.reduceLeDiff]
        refine CALL_det queried_fc (.inl rfl) ?_
        simp (maxSteps := 1000000) (disch := omega) only [go_sem, eq_self, decide_true, decide_false, not_true_eq_false, not_false_eq_true, reduceIte, reduceCtorEq, Nat.reduceEqDiff, Nat.reduceAdd, Nat.reduceSub, Nat.reduceLeDiff]
      · rw [if_neg h3, chs_ok bb h1 h3]
        simp (maxSteps := 1000000) (disch := omega) only [go_sem, eq_self, decide_true, decide_false, not_true_eq_false, not_false_eq_true, reduceIte, reduceCtorEq, Nat.reduceEqDiff, Nat.reduceAdd, Nat.reduceSub, Nat.reduceLeDiff]
        refine CALL_det (changeOf_fc l hg bb f t hw) (.inl rfl) ?_
        simp (maxSteps := 1000000) (disch := omega) only [go_sem, eq_self, decide_true, decide_false, not_true_eq_false, not_false_eq_true, reduceIte, reduceCtorEq, Nat.reduceEqDiff, Nat.reduceAdd, Nat.reduceSub, Nat.reduceLeDiff]
        refine CALL_det (eqFr_fc _ _ [] (by simp)) (.inl rfl) ?_
        simp (maxSteps := 1000000) (disch := omega) only [go_sem, eq_self, decide_true, decide_false, not_true_eq_false, not_false_eq_true, reduceIte, reduceCtorEq, Nat.reduceEqDiff, Nat.reduceAdd, Nat.reduceSub, Nat.reduceLeDiff]
        refine CALL_det queried_fc (.inl rfl) ?_
        simp (maxSteps := 1000000) (disch := omega) only [go_sem, eq_self, decide_true, decide_false, not_true_eq_false, not_false_eq_true, reduceIte, reduceCtorEq, Nat.reduceEqDiff, Nat.reduceAdd, Nat.reduceSub, Nat.reduceLeDiff]
  · rw [orSp_ne h1, orSp_ne h1, crs_no lim h1, chs_no bb h1]
    simp (maxSteps := 1000000) (disch := omega) only [go_sem, eq_self, decide_true, decide_false, not_true_eq_false, not_false_eq_true, reduceIte, reduceCtorEq, Nat.reduceEqDiff, Nat.reduceAdd, Nat.reduceSub, Nat.reduceLeDiff]
    refine CALL_det (eqFr_fc _ _ [] (by simp)) (.inl rfl) ?_
    simp (maxSteps := 1000000) (disch := omega) only [go_sem, eq_self, decide_true, decide_false, not_true_eq_false, not_false_eq_true, reduceIte, reduceCtorEq, Nat.reduceEqDiff, Nat.reduceAdd, Nat.reduceSub, Nat.reduceLeDiff]
    refine CALL_det queried_fc (.inl rfl) ?_
    simp (maxSteps := 1000000) (disch := omega) only [go_sem, eq_self, decide_true, decide_false, not_true_eq_false, not_false_eq_true, reduceIte, reduceCtorEq, Nat.reduceEqDiff, Nat.reduceAdd, Nat.reduceSub, Nat.reduceLeDiff]
end Go.Proofs.Ytkecmbgjhamhiaa

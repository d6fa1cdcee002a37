
/-
  Compress, Fits, Minimum and Steps are as the reference says: the walk.
-/
import Derived.Test.YtggbcgldnjmobaaMof
import Derived.Test.YtggbcgldnjmobaaKlg
namespace Go.Proofs.Ytggbcgldnjmobaa
open Go Go.Ai
set_option linter.unusedSimpArgs false
set_option linter.unusedVariables false
set_option maxHeartbeats 4000000
def A_scm : List Ann := [⟨(some ⟨[0], [], []⟩), [], [], [], []⟩, ⟨(some ⟨[3,20], [20], []⟩), [], [], [], []⟩, ⟨(some ⟨[3,4,5,20], [4,20], []⟩), [], [], [], []⟩, ⟨(some ⟨[4,5,6], [4], []⟩), [], [], [], []⟩, ⟨(some ⟨[4,5,6,7,8], [4], []⟩), [], [], [], []⟩, ⟨(some ⟨[4,5,6,7,8,9,10], [4], []⟩), [], [], [], []⟩, ⟨(some ⟨[4,5,6,7,8,9,10,11,12], [4], []⟩), [], [], [], []⟩, ⟨(some ⟨[4,5,6,7,8,9,10,11,12,13,14], [4], []⟩), [], [], [], []⟩, ⟨(some ⟨[4,5,6,7,8,9,10,11,12,13,14,15,16], [4], []⟩), [], [], [], []⟩, ⟨(some ⟨[4,5,6,7,9,10,11,12,13,14,82], [4], []⟩), [], [], [], []⟩, ⟨(some ⟨[2], [], []⟩), [], [], [], []⟩, ⟨(some ⟨[4,5,6,7,9,10,11,12,13,14,17], [4], []⟩), [], [], [], []⟩, ⟨(some ⟨[4,5,7,9,10,13,14,103], [4], []⟩), [], [], [], []⟩, ⟨(some ⟨[2], [], []⟩), [], [], [], []⟩, ⟨(some ⟨[4,5,7,9,10,13,14,105], [4], []⟩), [], [], [], []⟩, ⟨(some ⟨[2], [], []⟩), [], [], [], []⟩, ⟨(some ⟨[2], [], []⟩), [], [], [], []⟩]
def C_scm : AC := (.seq (.reg false [⟨(some 2), none, .mv (.v (.bool false))⟩] (some ⟨[0], [], []⟩))
  (.seq (.reg false [⟨(some 18), none, .mv (.t 0)⟩, ⟨(some 19), none, .build [(.slice none 0 0), (.int .i64 (0))] [(0, 1, (.t 18))]⟩, ⟨(some 20), none, .box (.t 19)⟩, ⟨(some 3), none, .mv (.t 20)⟩] (some ⟨[3,20], [20], []⟩))
  (.seq (.reg false [⟨(some 21), none, .mv (.t 3)⟩, ⟨(some 22), none, .callx (.f 14) [(.t 21)]⟩, ⟨(some 23), none, .mv (.t 3)⟩, ⟨(some 24), none, .callx (.f 15) [(.t 23), (.v (.int .i64 (9)))]⟩, ⟨(some 4), none, .alloc [(.int .i64 (0)), (.int .i64 (0))]⟩, ⟨none, none, .store 2 (.t 4) (.t 22)⟩, ⟨(some 5), none, .mv (.t 24)⟩] (some ⟨[3,4,5,20], [4,20], []⟩))
  (.seq (.reg false [⟨(some 25), none, .mv (.t 3)⟩, ⟨(some 26), none, .mv (.t 5)⟩, ⟨(some 27), none, .callx (.f 26) [(.t 25), (.t 26)]⟩, ⟨(some 6), none, .mv (.t 27)⟩] (some ⟨[4,5,6], [4], []⟩))
  (.seq (.reg false [⟨(some 28), none, .load true 2 (.t 4)⟩, ⟨(some 29), none, .call (.f 17) [(.t 28)]⟩, ⟨(some 30), none, .mv (.t 5)⟩, ⟨(some 31), none, .call (.f 28) [(.t 30)]⟩, ⟨(some 32), none, .bslice 1 2 [(.t 29), (.t 31)]⟩, ⟨(some 33), none, .call (.f 27) [(.t 32)]⟩, ⟨(some 34), none, .mv (.t 5)⟩, ⟨(some 35), none, .call (.f 28) [(.t 34)]⟩, ⟨(some 7), none, .mv (.t 33)⟩, ⟨(some 8), none, .mv (.t 35)⟩] (some ⟨[4,5,6,7,8], [4], []⟩))
  (.seq (.reg false [⟨(some 37), none, .load true 2 (.t 4)⟩, ⟨(some 38), none, .mv (.t 5)⟩, ⟨(some 39), none, .call (.f 29) [(.t 37), (.t 38)]⟩, ⟨(some 36), none, .mv (.t 39)⟩, ⟨(some 40), none, .extr (.t 36) 0⟩, ⟨(some 41), none, .extr (.t 36) 1⟩, ⟨(some 9), none, .mv (.t 40)⟩, ⟨(some 10), none, .mv (.t 41)⟩] (some ⟨[4,5,6,7,8,9,10], [4], []⟩))
  (.seq (.reg false [⟨(some 43), none, .load true 2 (.t 4)⟩, ⟨(some 44), none, .mv (.t 5)⟩, ⟨(some 45), none, .mv (.t 6)⟩, ⟨(some 46), none, .call (.f 30) [(.t 43), (.t 44), (.t 45)]⟩, ⟨(some 42), none, .mv (.t 46)⟩, ⟨(some 47), none, .extr (.t 42) 0⟩, ⟨(some 48), none, .extr (.t 42) 1⟩, ⟨(some 11), none, .mv (.t 47)⟩, ⟨(some 12), none, .mv (.t 48)⟩] (some ⟨[4,5,6,7,8,9,10,11,12], [4], []⟩))
  (.seq (.reg false [⟨(some 50), none, .load true 2 (.t 4)⟩, ⟨(some 51), none, .mv (.t 5)⟩, ⟨(some 52), none, .call (.f 31) [(.t 50), (.t 51)]⟩, ⟨(some 49), none, .mv (.t 52)⟩, ⟨(some 53), none, .extr (.t 49) 0⟩, ⟨(some 54), none, .extr (.t 49) 1⟩, ⟨(some 13), none, .mv (.t 53)⟩, ⟨(some 14), none, .mv (.t 54)⟩] (some ⟨[4,5,6,7,8,9,10,11,12,13,14], [4], []⟩))
  (.seq (.reg false [⟨(some 56), none, .mv (.t 5)⟩, ⟨(some 57), none, .call (.f 32) [(.t 56)]⟩, ⟨(some 55), none, .mv (.t 57)⟩, ⟨(some 58), none, .extr (.t 55) 0⟩, ⟨(some 59), none, .extr (.t 55) 1⟩, ⟨(some 15), none, .mv (.t 58)⟩, ⟨(some 16), none, .mv (.t 59)⟩] (some ⟨[4,5,6,7,8,9,10,11,12,13,14,15,16], [4], []⟩))
  (.seq (.seq (.reg false [⟨(some 60), none, .mv (.t 16)⟩, ⟨(some 61), none, .mv (.t 8)⟩, ⟨(some 62), none, .bin .neq (.t 60) (.t 61)⟩, ⟨(some 63), none, .mv (.t 62)⟩, ⟨(some 64), (some (63, false)), .mv (.t 8)⟩, ⟨(some 65), (some (63, false)), .bin .eql (.t 64) (.v (.int .i64 (0)))⟩, ⟨(some 66), (some (63, false)), .mv (.t 65)⟩, ⟨(some 67), (some (66, true)), .mv (.t 15)⟩, ⟨(some 68), (some (66, true)), .mv (.t 5)⟩, ⟨(some 69), (some (66, true)), .call (.f 34) [(.t 68)]⟩, ⟨(some 70), (some (66, true)), .call (.f 33) [(.t 67), (.t 69)]⟩, ⟨(some 71), (some (66, true)), .un .not (.t 70)⟩, ⟨(some 72), (some (63, false)), .pick (.t 66) (.t 71) (.v (.bool false))⟩, ⟨(some 73), none, .pick (.t 63) (.v (.bool true)) (.t 72)⟩, ⟨(some 74), none, .mv (.t 73)⟩, ⟨(some 75), (some (74, false)), .mv (.t 8)⟩, ⟨(some 76), (some (74, false)), .bin .neq (.t 75) (.v (.int .i64 (0)))⟩, ⟨(some 77), (some (74, false)), .mv (.t 76)⟩, ⟨(some 78), (some (77, true)), .mv (.t 15)⟩, ⟨(some 79), (some (77, true)), .len (.t 78)⟩, ⟨(some 80), (some (77, true)), .bin .gtr (.t 79) (.v (.int .i64 (0)))⟩, ⟨(some 81), (some (74, false)), .pick (.t 77) (.t 80) (.v (.bool false))⟩, ⟨(some 82), none, .pick (.t 74) (.v (.bool true)) (.t 81)⟩] (some ⟨[4,5,6,7,9,10,11,12,13,14,82], [4], []⟩))
  (.cond (.t 82)
  (.seq (.reg false [⟨(some 2), none, .mv (.v (.bool false))⟩] (some ⟨[2], [], []⟩))
  .ret)
  .skip))
  (.seq (.reg false [⟨(some 83), none, .mv (.t 7)⟩, ⟨(some 84), none, .mv (.t 5)⟩, ⟨(some 85), none, .mv (.t 6)⟩, ⟨(some 86), none, .call (.f 35) [(.t 84), (.t 85)]⟩, ⟨(some 87), none, .bslice 1 2 [(.t 83), (.t 86)]⟩, ⟨(some 88), none, .call (.f 27) [(.t 87)]⟩, ⟨(some 17), none, .mv (.t 88)⟩] (some ⟨[4,5,6,7,9,10,11,12,13,14,17], [4], []⟩))
  (.seq (.seq (.reg false [⟨(some 89), none, .mv (.t 12)⟩, ⟨(some 90), none, .mv (.t 17)⟩, ⟨(some 91), none, .bin .neq (.t 89) (.t 90)⟩, ⟨(some 92), none, .mv (.t 91)⟩, ⟨(some 93), (some (92, false)), .mv (.t 11)⟩, ⟨(some 94), (some (92, false)), .mv (.t 17)⟩, ⟨(some 95), (some (92, false)), .bin .eql (.t 94) (.v (.int .i64 (0)))⟩, ⟨(some 96), (some (92, false)), .mv (.t 95)⟩, ⟨(some 97), (some (96, true)), .load true 2 (.t 4)⟩, ⟨(some 98), (some (96, true)), .mv (.t 5)⟩, ⟨(some 99), (some (96, true)), .mv (.t 6)⟩, ⟨(some 100), (some (96, true)), .call (.f 36) [(.t 97), (.t 98), (.t 99)]⟩, ⟨(some 101), (some (92, false)), .pick (.t 96) (.t 100) (.v (.bool false))⟩, ⟨(some 102), (some (92, false)), .eqs true false [.b] (.t 93) (.t 101)⟩, ⟨(some 103), none, .pick (.t 92) (.v (.bool true)) (.t 102)⟩] (some ⟨[4,5,7,9,10,13,14,103], [4], []⟩))
  (.cond (.t 103)
  (.seq (.reg false [⟨(some 2), none, .mv (.v (.bool false))⟩] (some ⟨[2], [], []⟩))
  .ret)
  .skip))
  (.seq (.seq (.reg false [⟨(some 104), none, .mv (.t 7)⟩, ⟨(some 105), none, .bin .neq (.t 104) (.v (.int .i64 (0)))⟩] (some ⟨[4,5,7,9,10,13,14,105], [4], []⟩))
  (.cond (.t 105)
  (.seq (.reg false [⟨(some 106), none, .mv (.t 10)⟩, ⟨(some 107), none, .mv (.t 7)⟩, ⟨(some 108), none, .bin .eql (.t 106) (.t 107)⟩, ⟨(some 109), none, .mv (.t 108)⟩, ⟨(some 110), (some (109, true)), .mv (.t 14)⟩, ⟨(some 111), (some (109, true)), .mv (.t 7)⟩, ⟨(some 112), (some (109, true)), .bin .eql (.t 110) (.t 111)⟩, ⟨(some 113), none, .pick (.t 109) (.t 112) (.v (.bool false))⟩, ⟨(some 114), none, .mv (.t 113)⟩, ⟨(some 115), (some (114, true)), .mv (.t 9)⟩, ⟨(some 116), (some (114, true)), .len (.t 115)⟩, ⟨(some 117), (some (114, true)), .mv (.t 13)⟩, ⟨(some 118), (some (114, true)), .len (.t 117)⟩, ⟨(some 119), (some (114, true)), .bin .add (.t 116) (.t 118)⟩, ⟨(some 120), (some (114, true)), .bin .eql (.t 119) (.v (.int .i64 (0)))⟩, ⟨(some 121), none, .pick (.t 114) (.t 120) (.v (.bool false))⟩, ⟨(some 122), none, .mv (.t 121)⟩, ⟨(some 123), (some (122, true)), .call (.f 18) []⟩, ⟨(some 124), none, .pick (.t 122) (.t 123) (.v (.bool false))⟩, ⟨(some 2), none, .mv (.t 124)⟩] (some ⟨[2], [], []⟩))
  .ret)
  .skip))
  (.seq (.reg false [⟨(some 125), none, .mv (.t 10)⟩, ⟨(some 126), none, .bin .eql (.t 125) (.v (.int .i64 (0)))⟩, ⟨(some 127), none, .mv (.t 126)⟩, ⟨(some 128), (some (127, true)), .mv (.t 9)⟩, ⟨(some 129), (some (127, true)), .load true 2 (.t 4)⟩, ⟨(some 130), (some (127, true)), .mv (.t 5)⟩, ⟨(some 131), (some (127, true)), .call (.f 25) [(.t 129), (.t 130)]⟩, ⟨(some 132), (some (127, true)), .call (.f 33) [(.t 128), (.t 131)]⟩, ⟨(some 133), none, .pick (.t 127) (.t 132) (.v (.bool false))⟩, ⟨(some 134), none, .mv (.t 133)⟩, ⟨(some 135), (some (134, true)), .mv (.t 14)⟩, ⟨(some 136), (some (134, true)), .bin .eql (.t 135) (.v (.int .i64 (0)))⟩, ⟨(some 137), none, .pick (.t 134) (.t 136) (.v (.bool false))⟩, ⟨(some 138), none, .mv (.t 137)⟩, ⟨(some 139), (some (138, true)), .mv (.t 13)⟩, ⟨(some 140), (some (138, true)), .load true 2 (.t 4)⟩, ⟨(some 141), (some (138, true)), .mv (.t 5)⟩, ⟨(some 142), (some (138, true)), .call (.f 37) [(.t 140), (.t 141)]⟩, ⟨(some 143), (some (138, true)), .call (.f 33) [(.t 139), (.t 142)]⟩, ⟨(some 144), none, .pick (.t 138) (.t 143) (.v (.bool false))⟩, ⟨(some 145), none, .mv (.t 144)⟩, ⟨(some 146), (some (145, true)), .call (.f 18) []⟩, ⟨(some 147), none, .pick (.t 145) (.t 146) (.v (.bool false))⟩, ⟨(some 2), none, .mv (.t 147)⟩] (some ⟨[2], [], []⟩))
  .ret))))))))))))))
theorem c_scm : compileCode Try.prog Try.f4.ntmps (Try.f4.body.getD .skip) A_scm = some (C_scm, []) := by kernel_rfl
theorem r_scm : compileRes Try.prog Try.f4.results.toList = some [.t 2] := by kernel_rfl
theorem b_scm : Try.f4.body = some (Try.f4.body.getD .skip) := by kernel_rfl
theorem n_scm : (Try.f4.name == "runtime.NumGoroutine") = false := by kernel_rfl
theorem fc_scm {xt : Option (List Cel)} {args : List Val} {R : List Cel → Val → Prop} (hn : (if xt.isSome then 1 else 0) + args.length ≤ Try.f4.ntmps) (h : ex Try.prog C_scm [] (fpost xt [.t 2] R) (initSt xt args)) : FC Try.prog 4 xt args R :=
  fc_of_awp Try.func4 b_scm n_scm c_scm r_scm (of_decide_eq_true (by kernel_rfl)) hn h


theorem orSp_2 (x y : Int) : orSp [x, y] = if x ≠ 0 then x else y := by
  unfold orSp
  split
  · rfl
  · by_cases h : y = 0 <;> simp [orSp, h]
theorem fitSp_two (dv mg : Int) (l : List Smp) (m : List Int) : fitSp dv mg l m = if dsF dv mg l ≠ 0 then (false, dsF dv mg l) else if idxF l m ≠ 0 then (false, idxF l m) else (fitB dv mg l m, 0) := by
  unfold fitSp dsF
  have e : kptF l m = if serFault l ≠ 0 then serFault l else idxF l m := rfl
  rw [e]
  by_cases h1 : excF dv mg = 0 <;> by_cases h2 : serFault l = 0 <;> simp [h1, h2]
set_option maxHeartbeats 24000000 in
set_option maxRecDepth 8000 in
theorem scm_fc (L : List Int) (hL : ∀ x ∈ L, I64 x) (hl : L.length ≤ 9223372036854775807) : FC Try.prog 4 none [ints false L] (fun _ r => r = bv true) := by
  refine fc_scm (by simp +arith) ?_
  unfold C_scm
  simp (maxSteps := 1000000) (disch := omega) only [go_sem, eq_self, decide_true, decide_false, not_true_eq_false, not_false_eq_true, reduceIte, reduceCtorEq, Nat.reduceEqDiff, Nat.reduceAdd, Nat.reduceSub, Nat.reduceLeDiff]
  refine callx_gen (p := 0) doorOf_fc hL hl (by omega) (by omega) ⟨_, 0, 0, by simp [I64], by simp [I64], rfl⟩ ?_
  rintro pa r ha1 ha2 ⟨dv, mg, hdv, hmg, rfl⟩
  refine ⟨rfl, ?_⟩
  unfold strm
  simp (maxSteps := 1000000) (disch := omega) only [go_sem, eq_self, decide_true, decide_false, not_true_eq_false, not_false_eq_true, reduceIte, reduceCtorEq, Nat.reduceEqDiff, Nat.reduceAdd, Nat.reduceSub, Nat.reduceLeDiff]
  refine callx_gen (curve_fc 9 (by omega) (by omega)) hL hl (by omega) (by omega) ⟨_, [], by simp, by simp, rfl⟩ ?_
  rintro pb r hb1 hb2 ⟨c, hcl, hc64, rfl⟩
  refine ⟨rfl, ?_⟩
  unfold strm
  simp (maxSteps := 1000000) (disch := omega) only [go_sem, eq_self, decide_true, decide_false, not_true_eq_false, not_false_eq_true, reduceIte, reduceCtorEq, Nat.reduceEqDiff, Nat.reduceAdd, Nat.reduceSub, Nat.reduceLeDiff]
  refine callx_gen (keptList_fc c (by omega)) hL hl (by omega) (by omega) ⟨_, [], by simp, by simp, rfl⟩ ?_
  rintro pc r hc1 hc2 ⟨kept, hkl, hk64, rfl⟩
  refine ⟨rfl, ?_⟩
  unfold strm
  have hdf := doorFault_fc dv mg
  have hsf := seriesFault_fc c (by omega)
  have hor1 := orE_fc false [excF dv mg, serFault c] (by simp)
  have hor2 := orE_fc false [dsF dv mg c, idxF c kept] (by simp)
  have hft := fits_fc dv mg c (by omega) kept (by omega)
  have hst := steps_fc c (by omega)
  have hix := indicesFault_fc c (by omega) kept (by omega)
  have hso := stepsOf_fc c
  have hse : stpSp c = if serFault c ≠ 0 then ([], serFault c) else (stpW c c.length, 0) := rfl
  have hwl := stpW_len c c.length
  have heq1 := eqInts_fc false false (stpW c c.length) (by omega)
  rw [dsF_or] at hor1
  rw [orSp_2] at hor2
  rw [fitSp_two] at hft
  by_cases hD : dsF dv mg c = 0
  · have hE : excF dv mg = 0 := by
      unfold dsF at hD
      by_cases h : excF dv mg = 0
      · exact h
      · rw [if_pos h] at hD; exact hD
    have hS : serFault c = 0 := by
      unfold dsF at hD
      rw [if_neg (by omega)] at hD; exact hD
    have hdd : 0 ≤ dv ∧ dv ≤ 2000000 := by unfold excF at hE; split at hE <;> omega
    have hdm : 1 ≤ mg ∧ mg ≤ 345686400000 := by unfold excF at hE; split at hE <;> omega
    have hg := good_of hS
    have hcm := compress_ok dv mg hE c hS
    have hmn := min_ok dv mg hE c hS (by omega)
    have hcf := cof_fc dv mg hdd c hg
    obtain ⟨s1, s2, s3, s4⟩ := stream_is (mg := mg) hg hdd
    have heq2 := eqInts_fc false false (cofSp dv mg c) (by omega)
    have hso := hso hS
    have hkp : kptF c kept = idxF c kept := by
      have e : kptF c kept = if serFault c ≠ 0 then serFault c else idxF c kept := rfl
      rw [e, if_neg (by omega)]
    have hfo := fitsOf_fc dv mg hdd hdm c kept
    rw [hkp] at hfo
    rw [if_neg (by omega)] at hft hor2 hse
    rw [hse] at hst
    rw [hE] at hdf
    rw [hS] at hsf
    rw [hD] at hor1
    rw [hE, hS] at hor1
    rw [hD] at hor2
    clear hse s1 s4
    simp (maxSteps := 1000000) (disch := omega) only [go_sem, eq_self, decide_true, decide_false, not_true_eq_false, not_false_eq_true, reduceIte, reduceCtorEq, Nat.reduceEqDiff, Nat.reduceAdd, Nat.reduceSub, Nat.reduceLeDiff]
    refine CALL_det hdf (.inl rfl) ?_
    simp (maxSteps := 1000000) (disch := omega) only [go_sem, eq_self, decide_true, decide_false, not_true_eq_false, not_false_eq_true, reduceIte, reduceCtorEq, Nat.reduceEqDiff, Nat.reduceAdd, Nat.reduceSub, Nat.reduceLeDiff]
    refine CALL_det hsf (.inl rfl) ?_
    simp (maxSteps := 1000000) (disch := omega) only [go_sem, eq_self, decide_true, decide_false, not_true_eq_false, not_false_eq_true, reduceIte, reduceCtorEq, Nat.reduceEqDiff, Nat.reduceAdd, Nat.reduceSub, Nat.reduceLeDiff]
    refine CALL_det hor1 (.inl rfl) ?_
    simp (maxSteps := 1000000) (disch := omega) only [go_sem, eq_self, decide_true, decide_false, not_true_eq_false, not_false_eq_true, reduceIte, reduceCtorEq, Nat.reduceEqDiff, Nat.reduceAdd, Nat.reduceSub, Nat.reduceLeDiff]
    refine CALL_det hsf (.inl rfl) ?_
    simp (maxSteps := 1000000) (disch := omega) only [go_sem, eq_self, decide_true, decide_false, not_true_eq_false, not_false_eq_true, reduceIte, reduceCtorEq, Nat.reduceEqDiff, Nat.reduceAdd, Nat.reduceSub, Nat.reduceLeDiff]
    refine CALL_det hcm (.inl rfl) ?_
    simp (maxSteps := 1000000) (disch := omega) only [go_sem, eq_self, decide_true, decide_false, not_true_eq_false, not_false_eq_true, reduceIte, reduceCtorEq, Nat.reduceEqDiff, Nat.reduceAdd, Nat.reduceSub, Nat.reduceLeDiff]
    refine CALL_det hft (.inl rfl) ?_
    simp (maxSteps := 1000000) (disch := omega) only [go_sem, eq_self, decide_true, decide_false, not_true_eq_false, not_false_eq_true, reduceIte, reduceCtorEq, Nat.reduceEqDiff, Nat.reduceAdd, Nat.reduceSub, Nat.reduceLeDiff]
    refine ⟨_, hmn, (min_ex dv mg c).imp' (fun _ => ([] : List Cel)) (fun m hm => ⟨_, m, hm, rfl⟩), ?_⟩
    rintro _ _ ⟨m, hm, rfl⟩
    refine ⟨.inl rfl, ?_⟩
    have hmo := minOf_fc dv mg hdd hdm c hS (by omega) m hm
    have hml : m.length ≤ 9 := by
      have hw := hm
      unfold MinP at hw
      by_cases h0 : c.length = 0
      · rw [if_pos h0] at hw; rw [hw]; simp
      · rw [if_neg h0] at hw
        obtain ⟨nf, ff, r, rfl, h1, h2⟩ := hw
        have := chn_len r 0 (h1.path r 0 (by omega) (by omega) h2).1
        simp only [List.length_cons]; omega
    have heq3 := eqInts_fc false false m (by omega)
    simp (maxSteps := 1000000) (disch := omega) only [go_sem, eq_self, decide_true, decide_false, not_true_eq_false, not_false_eq_true, reduceIte, reduceCtorEq, Nat.reduceEqDiff, Nat.reduceAdd, Nat.reduceSub, Nat.reduceLeDiff]
    refine CALL_det hst (.inl rfl) ?_
    simp (maxSteps := 1000000) (disch := omega) only [go_sem, eq_self, decide_true, decide_false, not_true_eq_false, not_false_eq_true, reduceIte, reduceCtorEq, Nat.reduceEqDiff, Nat.reduceAdd, Nat.reduceSub, Nat.reduceLeDiff]
    refine CALL_det hso (.inl rfl) ?_
    simp (maxSteps := 1000000) (disch := omega) only [go_sem, eq_self, decide_true, decide_false, not_true_eq_false, not_false_eq_true, reduceIte, reduceCtorEq, Nat.reduceEqDiff, Nat.reduceAdd, Nat.reduceSub, Nat.reduceLeDiff]
    refine CALL_det heq1 (.inl rfl) ?_
    simp (maxSteps := 1000000) (disch := omega) only [go_sem, eq_self, decide_true, decide_false, not_true_eq_false, not_false_eq_true, reduceIte, reduceCtorEq, Nat.reduceEqDiff, Nat.reduceAdd, Nat.reduceSub, Nat.reduceLeDiff]
    refine CALL_det hix (.inl rfl) ?_
    simp (maxSteps := 1000000) (disch := omega) only [go_sem, eq_self, decide_true, decide_false, not_true_eq_false, not_false_eq_true, reduceIte, reduceCtorEq, Nat.reduceEqDiff, Nat.reduceAdd, Nat.reduceSub, Nat.reduceLeDiff]
    refine CALL_det hor2 (.inl rfl) ?_
    by_cases hK : idxF c kept = 0
    · have hfo := hfo hK
      rw [hK, if_neg (show ¬((0 : Int) ≠ 0) from fun h => h rfl)]
      cases hb : fitB dv mg c kept with
      | true =>
        rw [hb] at hfo
        simp (maxSteps := 1000000) (disch := omega) only [go_sem, eq_self, decide_true, decide_false, not_true_eq_false, not_false_eq_true, reduceIte, reduceCtorEq, Nat.reduceEqDiff, Nat.reduceAdd, Nat.reduceSub, Nat.reduceLeDiff]
        refine CALL_det hfo (.inl rfl) ?_
        simp (maxSteps := 1000000) (disch := omega) only [go_sem, eq_self, decide_true, decide_false, not_true_eq_false, not_false_eq_true, reduceIte, reduceCtorEq, Nat.reduceEqDiff, Nat.reduceAdd, Nat.reduceSub, Nat.reduceLeDiff]
        refine CALL_det hcf (.inl rfl) ?_
        simp (maxSteps := 1000000) (disch := omega) only [go_sem, eq_self, decide_true, decide_false, not_true_eq_false, not_false_eq_true, reduceIte, reduceCtorEq, Nat.reduceEqDiff, Nat.reduceAdd, Nat.reduceSub, Nat.reduceLeDiff]
        refine CALL_det heq2 (.inl rfl) ?_
        simp (maxSteps := 1000000) (disch := omega) only [go_sem, eq_self, decide_true, decide_false, not_true_eq_false, not_false_eq_true, reduceIte, reduceCtorEq, Nat.reduceEqDiff, Nat.reduceAdd, Nat.reduceSub, Nat.reduceLeDiff]
        refine CALL_det hmo (.inl rfl) ?_
        simp (maxSteps := 1000000) (disch := omega) only [go_sem, eq_self, decide_true, decide_false, not_true_eq_false, not_false_eq_true, reduceIte, reduceCtorEq, Nat.reduceEqDiff, Nat.reduceAdd, Nat.reduceSub, Nat.reduceLeDiff]
        refine CALL_det heq3 (.inl rfl) ?_
        simp (maxSteps := 1000000) (disch := omega) only [go_sem, eq_self, decide_true, decide_false, not_true_eq_false, not_false_eq_true, reduceIte, reduceCtorEq, Nat.reduceEqDiff, Nat.reduceAdd, Nat.reduceSub, Nat.reduceLeDiff]
        refine CALL_det pressed_fc (.inl rfl) ?_
        simp (maxSteps := 1000000) (disch := omega) only [go_sem, eq_self, decide_true, decide_false, not_true_eq_false, not_false_eq_true, reduceIte, reduceCtorEq, Nat.reduceEqDiff, Nat.reduceAdd, Nat.reduceSub, Nat.reduceLeDiff]
      | false =>
        rw [hb] at hfo
        simp (maxSteps := 1000000) (disch := omega) only [go_sem, eq_self, decide_true, decide_false, not_true_eq_false, not_false_eq_true, reduceIte, reduceCtorEq, Nat.reduceEqDiff, Nat.reduceAdd, Nat.reduceSub, Nat.reduceLeDiff]
        refine CALL_det hfo (.inl rfl) ?_
        simp (maxSteps := 1000000) (disch := omega) only [go_sem, eq_self, decide_true, decide_false, not_true_eq_false, not_false_eq_true, reduceIte, reduceCtorEq, Nat.reduceEqDiff, Nat.reduceAdd, Nat.reduceSub, Nat.reduceLeDiff]
        refine CALL_det hcf (.inl rfl) ?_
        simp (maxSteps := 1000000) (disch := omega) only [go_sem, eq_self, decide_true, decide_false, not_true_eq_false, not_false_eq_true, reduceIte, reduceCtorEq, Nat.reduceEqDiff, Nat.reduceAdd, Nat.reduceSub, Nat.reduceLeDiff]
        refine CALL_det heq2 (.inl rfl) ?_
        simp (maxSteps := 1000000) (disch := omega) only [go_sem, eq_self, decide_true, decide_false, not_true_eq_false, not_false_eq_true, reduceIte, reduceCtorEq, Nat.reduceEqDiff, Nat.reduceAdd, Nat.reduceSub, Nat.reduceLeDiff]
        refine CALL_det hmo (.inl rfl) ?_
        simp (maxSteps := 1000000) (disch := omega) only [go_sem, eq_self, decide_true, decide_false, not_true_eq_false, not_false_eq_true, reduceIte, reduceCtorEq, Nat.reduceEqDiff, Nat.reduceAdd, Nat.reduceSub, Nat.reduceLeDiff]
        refine CALL_det heq3 (.inl rfl) ?_
        simp (maxSteps := 1000000) (disch := omega) only [go_sem, eq_self, decide_true, decide_false, not_true_eq_false, not_false_eq_true, reduceIte, reduceCtorEq, Nat.reduceEqDiff, Nat.reduceAdd, Nat.reduceSub, Nat.reduceLeDiff]
        refine CALL_det pressed_fc (.inl rfl) ?_
        simp (maxSteps := 1000000) (disch := omega) only [go_sem, eq_self, decide_true, decide_false, not_true_eq_false, not_false_eq_true, reduceIte, reduceCtorEq, Nat.reduceEqDiff, Nat.reduceAdd, Nat.reduceSub, Nat.reduceLeDiff]
    · generalize idxF c kept = y at *
      rw [if_pos hK]
      simp (maxSteps := 1000000) (disch := omega) only [go_sem, eq_self, decide_true, decide_false, not_true_eq_false, not_false_eq_true, reduceIte, reduceCtorEq, Nat.reduceEqDiff, Nat.reduceAdd, Nat.reduceSub, Nat.reduceLeDiff]
      refine CALL_det hcf (.inl rfl) ?_
      simp (maxSteps := 1000000) (disch := omega) only [go_sem, eq_self, decide_true, decide_false, not_true_eq_false, not_false_eq_true, reduceIte, reduceCtorEq, Nat.reduceEqDiff, Nat.reduceAdd, Nat.reduceSub, Nat.reduceLeDiff]
      refine CALL_det heq2 (.inl rfl) ?_
      simp (maxSteps := 1000000) (disch := omega) only [go_sem, eq_self, decide_true, decide_false, not_true_eq_false, not_false_eq_true, reduceIte, reduceCtorEq, Nat.reduceEqDiff, Nat.reduceAdd, Nat.reduceSub, Nat.reduceLeDiff]
      refine CALL_det hmo (.inl rfl) ?_
      simp (maxSteps := 1000000) (disch := omega) only [go_sem, eq_self, decide_true, decide_false, not_true_eq_false, not_false_eq_true, reduceIte, reduceCtorEq, Nat.reduceEqDiff, Nat.reduceAdd, Nat.reduceSub, Nat.reduceLeDiff]
      refine CALL_det heq3 (.inl rfl) ?_
      simp (maxSteps := 1000000) (disch := omega) only [go_sem, eq_self, decide_true, decide_false, not_true_eq_false, not_false_eq_true, reduceIte, reduceCtorEq, Nat.reduceEqDiff, Nat.reduceAdd, Nat.reduceSub, Nat.reduceLeDiff]
      refine CALL_det pressed_fc (.inl rfl) ?_
      simp (maxSteps := 1000000) (disch := omega) only [go_sem, eq_self, decide_true, decide_false, not_true_eq_false, not_false_eq_true, reduceIte, reduceCtorEq, Nat.reduceEqDiff, Nat.reduceAdd, Nat.reduceSub, Nat.reduceLeDiff]
  · have hcm := compress_bad dv mg c (by omega) hD
    have hmn := min_bad dv mg c (by omega) hD
    rw [if_pos hD] at hft hor2
    rw [hse] at hst
    clear hse
    generalize dsF dv mg c = D at *
    simp (maxSteps := 1000000) (disch := omega) only [go_sem, eq_self, decide_true, decide_false, not_true_eq_false, not_false_eq_true, reduceIte, reduceCtorEq, Nat.reduceEqDiff, Nat.reduceAdd, Nat.reduceSub, Nat.reduceLeDiff]
    refine CALL_det hdf (.inl rfl) ?_
    simp (maxSteps := 1000000) (disch := omega) only [go_sem, eq_self, decide_true, decide_false, not_true_eq_false, not_false_eq_true, reduceIte, reduceCtorEq, Nat.reduceEqDiff, Nat.reduceAdd, Nat.reduceSub, Nat.reduceLeDiff]
    refine CALL_det hsf (.inl rfl) ?_
    simp (maxSteps := 1000000) (disch := omega) only [go_sem, eq_self, decide_true, decide_false, not_true_eq_false, not_false_eq_true, reduceIte, reduceCtorEq, Nat.reduceEqDiff, Nat.reduceAdd, Nat.reduceSub, Nat.reduceLeDiff]
    refine CALL_det hor1 (.inl rfl) ?_
    simp (maxSteps := 1000000) (disch := omega) only [go_sem, eq_self, decide_true, decide_false, not_true_eq_false, not_false_eq_true, reduceIte, reduceCtorEq, Nat.reduceEqDiff, Nat.reduceAdd, Nat.reduceSub, Nat.reduceLeDiff]
    refine CALL_det hsf (.inl rfl) ?_
    simp (maxSteps := 1000000) (disch := omega) only [go_sem, eq_self, decide_true, decide_false, not_true_eq_false, not_false_eq_true, reduceIte, reduceCtorEq, Nat.reduceEqDiff, Nat.reduceAdd, Nat.reduceSub, Nat.reduceLeDiff]
    refine CALL_det hcm (.inl rfl) ?_
    simp (maxSteps := 1000000) (disch := omega) only [go_sem, eq_self, decide_true, decide_false, not_true_eq_false, not_false_eq_true, reduceIte, reduceCtorEq, Nat.reduceEqDiff, Nat.reduceAdd, Nat.reduceSub, Nat.reduceLeDiff]
    refine CALL_det hft (.inl rfl) ?_
    simp (maxSteps := 1000000) (disch := omega) only [go_sem, eq_self, decide_true, decide_false, not_true_eq_false, not_false_eq_true, reduceIte, reduceCtorEq, Nat.reduceEqDiff, Nat.reduceAdd, Nat.reduceSub, Nat.reduceLeDiff]
    refine CALL_det hmn (.inl rfl) ?_
    simp (maxSteps := 1000000) (disch := omega) only [go_sem, eq_self, decide_true, decide_false, not_true_eq_false, not_false_eq_true, reduceIte, reduceCtorEq, Nat.reduceEqDiff, Nat.reduceAdd, Nat.reduceSub, Nat.reduceLeDiff]
    by_cases hS : serFault c = 0
    · rw [if_neg (by omega)] at hst
      have hso := hso hS
      refine CALL_det hst (.inl rfl) ?_
      rw [hS]
      simp (maxSteps := 1000000) (disch := omega) only [go_sem, eq_self, decide_true, decide_false, not_true_eq_false, not_false_eq_true, reduceIte, reduceCtorEq, Nat.reduceEqDiff, Nat.reduceAdd, Nat.reduceSub, Nat.reduceLeDiff]
      refine CALL_det hso (.inl rfl) ?_
      simp (maxSteps := 1000000) (disch := omega) only [go_sem, eq_self, decide_true, decide_false, not_true_eq_false, not_false_eq_true, reduceIte, reduceCtorEq, Nat.reduceEqDiff, Nat.reduceAdd, Nat.reduceSub, Nat.reduceLeDiff]
      refine CALL_det heq1 (.inl rfl) ?_
      simp (maxSteps := 1000000) (disch := omega) only [go_sem, eq_self, decide_true, decide_false, not_true_eq_false, not_false_eq_true, reduceIte, reduceCtorEq, Nat.reduceEqDiff, Nat.reduceAdd, Nat.reduceSub, Nat.reduceLeDiff]
      refine CALL_det hix (.inl rfl) ?_
      simp (maxSteps := 1000000) (disch := omega) only [go_sem, eq_self, decide_true, decide_false, not_true_eq_false, not_false_eq_true, reduceIte, reduceCtorEq, Nat.reduceEqDiff, Nat.reduceAdd, Nat.reduceSub, Nat.reduceLeDiff]
      refine CALL_det hor2 (.inl rfl) ?_
      simp (maxSteps := 1000000) (disch := omega) only [go_sem, eq_self, decide_true, decide_false, not_true_eq_false, not_false_eq_true, reduceIte, reduceCtorEq, Nat.reduceEqDiff, Nat.reduceAdd, Nat.reduceSub, Nat.reduceLeDiff]
      refine CALL_det pressed_fc (.inl rfl) ?_
      simp (maxSteps := 1000000) (disch := omega) only [go_sem, eq_self, decide_true, decide_false, not_true_eq_false, not_false_eq_true, reduceIte, reduceCtorEq, Nat.reduceEqDiff, Nat.reduceAdd, Nat.reduceSub, Nat.reduceLeDiff]
    · rw [if_pos hS] at hst
      refine CALL_det hst (.inl rfl) ?_
      generalize serFault c = S at *
      simp (maxSteps := 1000000) (disch := omega) only [go_sem, eq_self, decide_true, decide_false, not_true_eq_false, not_false_eq_true, reduceIte, reduceCtorEq, Nat.reduceEqDiff, Nat.reduceAdd, Nat.reduceSub, Nat.reduceLeDiff]
      refine CALL_det hix (.inl rfl) ?_
      simp (maxSteps := 1000000) (disch := omega) only [go_sem, eq_self, decide_true, decide_false, not_true_eq_false, not_false_eq_true, reduceIte, reduceCtorEq, Nat.reduceEqDiff, Nat.reduceAdd, Nat.reduceSub, Nat.reduceLeDiff]
      refine CALL_det hor2 (.inl rfl) ?_
      simp (maxSteps := 1000000) (disch := omega) only [go_sem, eq_self, decide_true, decide_false, not_true_eq_false, not_false_eq_true, reduceIte, reduceCtorEq, Nat.reduceEqDiff, Nat.reduceAdd, Nat.reduceSub, Nat.reduceLeDiff]
      refine CALL_det pressed_fc (.inl rfl) ?_
      simp (maxSteps := 1000000) (disch := omega) only [go_sem, eq_self, decide_true, decide_false, not_true_eq_false, not_false_eq_true, reduceIte, reduceCtorEq, Nat.reduceEqDiff, Nat.reduceAdd, Nat.reduceSub, Nat.reduceLeDiff]
end Go.Proofs.Ytggbcgldnjmobaa

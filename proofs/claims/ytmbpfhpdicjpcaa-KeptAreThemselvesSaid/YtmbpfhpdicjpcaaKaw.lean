
/-
  KeptAreThemselves returns true for every slice of integers, and leaves the slice as it was: a reconstruction at the moment of a kept sample is its value; all that is kept has no error. No condition.
-/
import Derived.Test.YtmbpfhpdicjpcaaKat
import Derived.Test.YtmbpfhpdicjpcaaRdy
import Derived.Test.YtmbpfhpdicjpcaaAiRow
import Derived.Test.YtmbpfhpdicjpcaaRows
namespace Go.Proofs.Ytmbpfhpdicjpcaa
open Go Go.Ai
set_option linter.unusedSimpArgs false
set_option linter.unusedVariables false
set_option maxHeartbeats 4000000
def A_kat : List Ann := [⟨(some ⟨[0], [], []⟩), [], [], [], []⟩, ⟨(some ⟨[3,20], [20], []⟩), [], [], [], []⟩, ⟨(some ⟨[3,4,20], [20], []⟩), [], [], [], []⟩, ⟨(some ⟨[4,5], [], []⟩), [], [], [], []⟩, ⟨(some ⟨[4,5,29], [], []⟩), [], [], [], []⟩, ⟨(some ⟨[2], [], []⟩), [], [], [], []⟩, ⟨(some ⟨[4,5,6,7], [], []⟩), [], [], [], []⟩, ⟨(some ⟨[4,6,45], [], []⟩), [], [], [], []⟩, ⟨(some ⟨[2], [], []⟩), [], [], [], []⟩, ⟨(some ⟨[4,6,8], [], []⟩), [(8, 3, 1)], [], [], []⟩, ⟨(some ⟨[4,6,8,47,48], [], [8]⟩), [], [], [], []⟩, ⟨(some ⟨[4,6,8,47,48,49], [], [8]⟩), [], [], [], []⟩, ⟨(some ⟨[4,6,8,9,47,48], [], [8]⟩), [], [], [], []⟩, ⟨(some ⟨[4,6,8,47,48], [], [8]⟩), [], [], [], []⟩, ⟨(some ⟨[4,6,8,47,48], [], [8]⟩), [], [], [], []⟩, ⟨(some ⟨[4,6,8,56,57,58], [], []⟩), [], [], [], []⟩, ⟨(some ⟨[4,6,8,56,57,58,59], [], []⟩), [], [], [], []⟩, ⟨(some ⟨[4,6,8,11,56,57,58], [11], []⟩), [], [], [], []⟩, ⟨(some ⟨[4,6,8,11,12,13,14,56,57,58], [11,12], []⟩), [], [], [], []⟩, ⟨(some ⟨[4,6,8,56,57,58,88], [], []⟩), [], [], [], []⟩, ⟨(some ⟨[2], [], []⟩), [], [], [], []⟩, ⟨(some ⟨[4,6,8,56,57,58], [], []⟩), [], [], [], []⟩, ⟨(some ⟨[15,17], [15], []⟩), [], [], [], []⟩, ⟨(some ⟨[103], [], []⟩), [], [], [], []⟩, ⟨(some ⟨[2], [], []⟩), [], [], [], []⟩, ⟨(some ⟨[2], [], []⟩), [], [], [], []⟩]
def C_kat : AC := (.seq (.reg false [⟨(some 2), none, .mv (.v (.bool false))⟩] (some ⟨[0], [], []⟩))
  (.seq (.reg false [⟨(some 18), none, .mv (.t 0)⟩, ⟨(some 19), none, .build [(.slice none 0 0), (.int .i64 (0))] [(0, 1, (.t 18))]⟩, ⟨(some 20), none, .box (.t 19)⟩, ⟨(some 3), none, .mv (.t 20)⟩] (some ⟨[3,20], [20], []⟩))
  (.seq (.reg false [⟨(some 21), none, .mv (.t 3)⟩, ⟨(some 22), none, .callx (.f 55) [(.t 21), (.v (.int .i64 (12)))]⟩, ⟨(some 4), none, .mv (.t 22)⟩] (some ⟨[3,4,20], [20], []⟩))
  (.seq (.reg false [⟨(some 23), none, .mv (.t 3)⟩, ⟨(some 24), none, .mv (.t 4)⟩, ⟨(some 25), none, .callx (.f 44) [(.t 23), (.t 24)]⟩, ⟨(some 5), none, .mv (.t 25)⟩] (some ⟨[4,5], [], []⟩))
  (.seq (.seq (.reg false [⟨(some 26), none, .mv (.t 4)⟩, ⟨(some 27), none, .mv (.t 5)⟩, ⟨(some 28), none, .call (.f 45) [(.t 26), (.t 27)]⟩, ⟨(some 29), none, .bin .neq (.t 28) (.v (.int .i64 (0)))⟩] (some ⟨[4,5,29], [], []⟩))
  (.cond (.t 29)
  (.seq (.reg false [⟨(some 30), none, .call (.f 60) []⟩, ⟨(some 2), none, .mv (.t 30)⟩] (some ⟨[2], [], []⟩))
  .ret)
  .skip))
  (.seq (.reg false [⟨(some 32), none, .mv (.t 4)⟩, ⟨(some 33), none, .mv (.t 5)⟩, ⟨(some 34), none, .call (.f 46) [(.t 32), (.t 33)]⟩, ⟨(some 31), none, .mv (.t 34)⟩, ⟨(some 35), none, .extr (.t 31) 0⟩, ⟨(some 36), none, .extr (.t 31) 1⟩, ⟨(some 6), none, .mv (.t 35)⟩, ⟨(some 7), none, .mv (.t 36)⟩] (some ⟨[4,5,6,7], [], []⟩))
  (.seq (.seq (.reg false [⟨(some 37), none, .mv (.t 7)⟩, ⟨(some 38), none, .bin .neq (.t 37) (.v (.int .i64 (0)))⟩, ⟨(some 39), none, .mv (.t 38)⟩, ⟨(some 40), (some (39, false)), .mv (.t 6)⟩, ⟨(some 41), (some (39, false)), .len (.t 40)⟩, ⟨(some 42), (some (39, false)), .mv (.t 5)⟩, ⟨(some 43), (some (39, false)), .len (.t 42)⟩, ⟨(some 44), (some (39, false)), .bin .neq (.t 41) (.t 43)⟩, ⟨(some 45), none, .pick (.t 39) (.v (.bool true)) (.t 44)⟩] (some ⟨[4,6,45], [], []⟩))
  (.cond (.t 45)
  (.seq (.reg false [⟨(some 2), none, .mv (.v (.bool false))⟩] (some ⟨[2], [], []⟩))
  .ret)
  .skip))
  (.seq (.seq (.reg false [⟨(some 8), none, .mv (.v (.slice none 0 0))⟩] (some ⟨[4,6,8], [], []⟩))
  (.own 8 3 1))
  (.seq (.seq (.reg false [⟨(some 46), none, .mv (.t 4)⟩, ⟨(some 47), none, .len (.t 46)⟩, ⟨(some 48), none, .mv (.v (.int .i64 (0)))⟩] (some ⟨[4,6,8,47,48], [], [8]⟩))
  (.block 0 (.loop (.seq (.reg false [⟨(some 49), none, .bin .lss (.t 48) (.t 47)⟩] (some ⟨[4,6,8,47,48,49], [], [8]⟩))
  (.seq (.cond (.t 49)
  .skip
  (.exit 0))
  (.seq (.block 1 (.seq (.reg false [⟨(some 50), none, .mv (.t 48)⟩, ⟨(some 9), none, .mv (.t 50)⟩] (some ⟨[4,6,8,9,47,48], [], [8]⟩))
  (.reg false [⟨(some 51), none, .mv (.t 8)⟩, ⟨(some 52), none, .mv (.t 9)⟩, ⟨(some 53), none, .bslice 1 1 [(.t 52)]⟩, ⟨(some 54), none, .append 3 1 8 (.t 51) (.t 53)⟩, ⟨(some 8), none, .mv (.t 54)⟩] (some ⟨[4,6,8,47,48], [], [8]⟩))))
  (.reg false [⟨(some 55), none, .bin .add (.t 48) (.v (.int .i64 (1)))⟩, ⟨(some 48), none, .mv (.t 55)⟩] (some ⟨[4,6,8,47,48], [], [8]⟩))))))))
  (.seq (.seq (.reg false [⟨(some 56), none, .mv (.t 6)⟩, ⟨(some 57), none, .len (.t 56)⟩, ⟨(some 58), none, .mv (.v (.int .i64 (0)))⟩] (some ⟨[4,6,8,56,57,58], [], []⟩))
  (.block 2 (.loop (.seq (.reg false [⟨(some 59), none, .bin .lss (.t 58) (.t 57)⟩] (some ⟨[4,6,8,56,57,58,59], [], []⟩))
  (.seq (.cond (.t 59)
  .skip
  (.exit 2))
  (.seq (.block 3 (.seq (.reg false [⟨(some 60), none, .iadr 3 (.t 56) (.t 58)⟩, ⟨(some 61), none, .load true 3 (.t 60)⟩, ⟨(some 11), none, .alloc [(.int .i64 (0)), (.int .i64 (0)), (.int .i64 (0))]⟩, ⟨none, none, .store 3 (.t 11) (.t 61)⟩] (some ⟨[4,6,8,11,56,57,58], [11], []⟩))
  (.seq (.reg false [⟨(some 63), none, .mv (.t 6)⟩, ⟨(some 64), none, .fadr 0 (.t 11)⟩, ⟨(some 65), none, .load false 1 (.t 64)⟩, ⟨(some 66), none, .call (.f 47) [(.t 63), (.t 65)]⟩, ⟨(some 62), none, .mv (.t 66)⟩, ⟨(some 67), none, .extr (.t 62) 0⟩, ⟨(some 68), none, .extr (.t 62) 1⟩, ⟨(some 69), none, .extr (.t 62) 2⟩, ⟨(some 12), none, .alloc [(.int .i64 (0)), (.int .i64 (0))]⟩, ⟨none, none, .store 2 (.t 12) (.t 67)⟩, ⟨(some 13), none, .mv (.t 68)⟩, ⟨(some 14), none, .mv (.t 69)⟩] (some ⟨[4,6,8,11,12,13,14,56,57,58], [11,12], []⟩))
  (.seq (.reg false [⟨(some 70), none, .mv (.t 14)⟩, ⟨(some 71), none, .bin .neq (.t 70) (.v (.int .i64 (0)))⟩, ⟨(some 72), none, .mv (.t 71)⟩, ⟨(some 73), (some (72, false)), .mv (.t 13)⟩, ⟨(some 74), (some (72, false)), .fadr 2 (.t 11)⟩, ⟨(some 75), (some (72, false)), .load false 1 (.t 74)⟩, ⟨(some 76), (some (72, false)), .bin .neq (.t 75) (.v (.int .i64 (2)))⟩, ⟨(some 77), (some (72, false)), .eqs true false [.b] (.t 73) (.t 76)⟩, ⟨(some 78), none, .pick (.t 72) (.v (.bool true)) (.t 77)⟩, ⟨(some 79), none, .mv (.t 78)⟩, ⟨(some 80), (some (79, false)), .mv (.t 13)⟩, ⟨(some 81), (some (79, false)), .mv (.t 80)⟩, ⟨(some 82), (some (81, true)), .load true 2 (.t 12)⟩, ⟨(some 83), (some (81, true)), .fadr 1 (.t 11)⟩, ⟨(some 84), (some (81, true)), .load false 1 (.t 83)⟩, ⟨(some 85), (some (81, true)), .build [(.int .i64 (0)), (.int .i64 (0))] [(0, 1, (.t 84)), (1, 1, (.v (.int .i64 (1))))]⟩, ⟨(some 86), (some (81, true)), .eqs true true [.i .i64, .i .i64] (.t 82) (.t 85)⟩, ⟨(some 87), (some (79, false)), .pick (.t 81) (.t 86) (.v (.bool false))⟩, ⟨(some 88), none, .pick (.t 79) (.v (.bool true)) (.t 87)⟩] (some ⟨[4,6,8,56,57,58,88], [], []⟩))
  (.cond (.t 88)
  (.seq (.reg false [⟨(some 2), none, .mv (.v (.bool false))⟩] (some ⟨[2], [], []⟩))
  .ret)
  .skip)))))
  (.reg false [⟨(some 89), none, .bin .add (.t 58) (.v (.int .i64 (1)))⟩, ⟨(some 58), none, .mv (.t 89)⟩] (some ⟨[4,6,8,56,57,58], [], []⟩))))))))
  (.seq (.seq (.reg false [⟨(some 91), none, .mv (.t 4)⟩, ⟨(some 92), none, .mv (.t 8)⟩, ⟨(some 93), none, .call (.f 48) [(.t 91), (.t 92)]⟩, ⟨(some 90), none, .mv (.t 93)⟩, ⟨(some 94), none, .extr (.t 90) 0⟩, ⟨(some 95), none, .extr (.t 90) 1⟩, ⟨(some 96), none, .extr (.t 90) 2⟩, ⟨(some 15), none, .alloc [(.int .i64 (0)), (.int .i64 (0))]⟩, ⟨none, none, .store 2 (.t 15) (.t 94)⟩, ⟨(some 16), none, .mv (.t 95)⟩, ⟨(some 17), none, .mv (.t 96)⟩] (some ⟨[15,17], [15], []⟩))
  (.seq (.reg false [⟨(some 97), none, .mv (.t 17)⟩, ⟨(some 98), none, .bin .eql (.t 97) (.v (.int .i64 (0)))⟩, ⟨(some 99), none, .mv (.t 98)⟩, ⟨(some 100), (some (99, true)), .fadr 0 (.t 15)⟩, ⟨(some 101), (some (99, true)), .load false 1 (.t 100)⟩, ⟨(some 102), (some (99, true)), .bin .neq (.t 101) (.v (.int .i64 (0)))⟩, ⟨(some 103), none, .pick (.t 99) (.t 102) (.v (.bool false))⟩] (some ⟨[103], [], []⟩))
  (.cond (.t 103)
  (.seq (.reg false [⟨(some 2), none, .mv (.v (.bool false))⟩] (some ⟨[2], [], []⟩))
  .ret)
  .skip)))
  (.seq (.reg false [⟨(some 104), none, .call (.f 60) []⟩, ⟨(some 2), none, .mv (.t 104)⟩] (some ⟨[2], [], []⟩))
  .ret))))))))))))
theorem c_kat : compileCode Try.prog Try.f11.ntmps (Try.f11.body.getD .skip) A_kat = some (C_kat, []) := by kernel_rfl
theorem r_kat : compileRes Try.prog Try.f11.results.toList = some [.t 2] := by kernel_rfl
theorem b_kat : Try.f11.body = some (Try.f11.body.getD .skip) := by kernel_rfl
theorem n_kat : (Try.f11.name == "runtime.NumGoroutine") = false := by kernel_rfl
theorem fc_kat {xt : Option (List Cel)} {args : List Val} {R : List Cel → Val → Prop} (hn : (if xt.isSome then 1 else 0) + args.length ≤ Try.f11.ntmps) (h : ex Try.prog C_kat [] (fpost xt [.t 2] R) (initSt xt args)) : FC Try.prog 11 xt args R :=
  fc_of_awp Try.func11 b_kat n_kat c_kat r_kat (of_decide_eq_true (by kernel_rfl)) hn h


def ka1St (c k : List Smp) (i : Int) : AS := ⟨tabV [(4, smps true c), (6, smps true k), (8, .one (.ow 8 0)), (47, iv c.length), (48, iv i)], tabO [], tabO [(8, ⟨0, 3, 1, (rngI i.toNat).map intC⟩)]⟩
def ka2St (c k : List Smp) (i : Int) : AS := ⟨tabV [(4, smps true c), (6, smps true k), (8, ints true (rngI c.length)), (56, smps true k), (57, iv k.length), (58, iv i)], tabO [], tabO []⟩
theorem kat_fc (L : List Int) (hL : ∀ x ∈ L, I64 x) (hl : L.length ≤ 9223372036854775807) : FC Try.prog 11 none [ints false L] (fun _ r => r = bv true) := by
  refine fc_kat (by simp +arith) ?_
  unfold C_kat
  simp (maxSteps := 1000000) (disch := omega) only [go_sem, eq_self, decide_true, decide_false, not_true_eq_false, not_false_eq_true, reduceIte, reduceCtorEq, Nat.reduceEqDiff, Nat.reduceAdd, Nat.reduceSub, Nat.reduceLeDiff]
  refine callx_gen (p := 0) (rightCurve_fc 12 (by omega) (by omega)) hL hl (by omega) (by omega) ⟨_, [], rfl, by simp, rfl⟩ ?_
  rintro pa r ha1 ha2 ⟨c, hs, hlm, rfl⟩
  refine ⟨rfl, ?_⟩
  unfold strm
  simp (maxSteps := 1000000) (disch := omega) only [go_sem, eq_self, decide_true, decide_false, not_true_eq_false, not_false_eq_true, reduceIte, reduceCtorEq, Nat.reduceEqDiff, Nat.reduceAdd, Nat.reduceSub, Nat.reduceLeDiff]
  refine callx_gen (keptList_fc c (by omega)) hL hl (by omega) (by omega) ⟨_, [], by simp, by simp, rfl⟩ ?_
  rintro pb r hb1 hb2 ⟨kept, hkl, hk64, rfl⟩
  refine ⟨rfl, ?_⟩
  unfold strm
  simp (maxSteps := 1000000) (disch := omega) only [go_sem, eq_self, decide_true, decide_false, not_true_eq_false, not_false_eq_true, reduceIte, reduceCtorEq, Nat.reduceEqDiff, Nat.reduceAdd, Nat.reduceSub, Nat.reduceLeDiff]
  refine CALL_det (indicesFault_fc c (by omega) kept (by omega)) (.inl rfl) ?_
  by_cases h1 : idxF c kept = 0
  · have hk : kptF c kept = 0 := by rw [kptF_idx, if_neg (by omega)]; exact h1
    have hks := kep_fault hk
    have hkeq : (kep c kept).length = kept.length := by unfold kep; simp
    have e1 : kepSp c kept = (kep c kept, 0) := by unfold kepSp; rw [if_neg (by omega)]
    have hat := fun i hi => recoSp_at hks i hi
    rw [h1]
    simp (maxSteps := 1000000) (disch := omega) only [go_sem, eq_self, decide_true, decide_false, not_true_eq_false, not_false_eq_true, reduceIte, reduceCtorEq, Nat.reduceEqDiff, Nat.reduceAdd, Nat.reduceSub, Nat.reduceLeDiff]
    refine CALL_det (keepP_fc c (by omega) kept (by omega)) (.inl rfl) ?_
    rw [e1]
    clear e1
    generalize kep c kept = k at *
    simp (maxSteps := 1000000) (disch := omega) only [go_sem, eq_self, decide_true, decide_false, not_true_eq_false, not_false_eq_true, reduceIte, reduceCtorEq, Nat.reduceEqDiff, Nat.reduceAdd, Nat.reduceSub, Nat.reduceLeDiff]
    refine ⟨by omega, ?_⟩
    refine ex_loop1 (ka1St c k) (fun i => 0 ≤ i ∧ i ≤ c.length) (fun i => (c.length - i).toNat) 0 ⟨by omega, by omega⟩ rfl ?_
    rintro i ⟨g1, g2⟩
    unfold ka1St
    have hrl := rngI_len i.toNat
    by_cases hi : i < c.length
    · have e2 : (i + 1).toNat = i.toNat + 1 := by omega
      have e3 : ((i.toNat : Nat) : Int) = i := by omega
      simp (maxSteps := 1000000) (disch := omega) only [go_sem, eq_self, decide_true, decide_false, not_true_eq_false, not_false_eq_true, reduceIte, reduceCtorEq, Nat.reduceEqDiff, Nat.reduceAdd, Nat.reduceSub, Nat.reduceLeDiff]
      exact ⟨i + 1, by simp only [ka1St, e2, rngI, e3, List.map_append, List.map_cons, List.map_nil, intC_eq], ⟨by omega, by omega⟩, by omega⟩
    · have e4 : i.toNat = c.length := by omega
      rw [e4]
      clear hrl e4
      simp (maxSteps := 1000000) (disch := omega) only [go_sem, eq_self, decide_true, decide_false, not_true_eq_false, not_false_eq_true, reduceIte, reduceCtorEq, Nat.reduceEqDiff, Nat.reduceAdd, Nat.reduceSub, Nat.reduceLeDiff]
      refine ex_loop1 (ka2St c k) (fun i => 0 ≤ i ∧ i ≤ k.length) (fun i => (k.length - i).toNat) 0 ⟨by omega, by omega⟩ rfl ?_
      rintro j ⟨g1, g2⟩
      unfold ka2St
      by_cases hj : j < k.length
      · have em := getD_map_at smpC k j [] g1 hj
        have hr := hat j.toNat (by omega)
        simp (maxSteps := 1000000) (disch := omega) only [go_sem, eq_self, decide_true, decide_false, not_true_eq_false, not_false_eq_true, reduceIte, reduceCtorEq, Nat.reduceEqDiff, Nat.reduceAdd, Nat.reduceSub, Nat.reduceLeDiff]
        refine CALL_det (reconstruct_fc k (by omega) (k.getD j.toNat default).a) (.inl rfl) ?_
        rw [hr]
        by_cases c2 : (k.getD j.toNat default).q = 2
        · rw [if_pos c2]
          simp (maxSteps := 1000000) (disch := omega) only [go_sem, eq_self, decide_true, decide_false, not_true_eq_false, not_false_eq_true, reduceIte, reduceCtorEq, Nat.reduceEqDiff, Nat.reduceAdd, Nat.reduceSub, Nat.reduceLeDiff]
          exact ⟨fun _ => ⟨_, rfl, ⟨by omega, by omega⟩, by omega⟩, fun h => absurd (decide_eq_false (by omega)).symm h⟩
        · rw [if_neg c2]
          simp (maxSteps := 1000000) (disch := omega) only [go_sem, eq_self, decide_true, decide_false, not_true_eq_false, not_false_eq_true, reduceIte, reduceCtorEq, Nat.reduceEqDiff, Nat.reduceAdd, Nat.reduceSub, Nat.reduceLeDiff]
          exact ⟨fun _ => ⟨_, rfl, ⟨by omega, by omega⟩, by omega⟩, fun h => absurd (decide_eq_true (by omega)).symm h⟩
      · have hrl := rngI_len c.length
        simp (maxSteps := 1000000) (disch := omega) only [go_sem, eq_self, decide_true, decide_false, not_true_eq_false, not_false_eq_true, reduceIte, reduceCtorEq, Nat.reduceEqDiff, Nat.reduceAdd, Nat.reduceSub, Nat.reduceLeDiff]
        refine CALL_det (error_fc c (by omega) (rngI c.length) (by omega) (fun h => good_of (kep_fault h))) (.inl rfl) ?_
        have hz := errSp_all hs
        generalize errSp c (rngI c.length) = x at *
        obtain ⟨⟨n, d⟩, a, e⟩ := x
        simp only at hz
        subst hz
        by_cases c3 : e = 0
        · subst c3
          simp (maxSteps := 1000000) (disch := omega) only [go_sem, eq_self, decide_true, decide_false, not_true_eq_false, not_false_eq_true, reduceIte, reduceCtorEq, Nat.reduceEqDiff, Nat.reduceAdd, Nat.reduceSub, Nat.reduceLeDiff]
          refine CALL_det ready_fc (.inl rfl) ?_
          simp (maxSteps := 1000000) (disch := omega) only [go_sem, eq_self, decide_true, decide_false, not_true_eq_false, not_false_eq_true, reduceIte, reduceCtorEq, Nat.reduceEqDiff, Nat.reduceAdd, Nat.reduceSub, Nat.reduceLeDiff]
        · simp (maxSteps := 1000000) (disch := omega) only [go_sem, eq_self, decide_true, decide_false, not_true_eq_false, not_false_eq_true, reduceIte, reduceCtorEq, Nat.reduceEqDiff, Nat.reduceAdd, Nat.reduceSub, Nat.reduceLeDiff]
          refine CALL_det ready_fc (.inl rfl) ?_
          simp (maxSteps := 1000000) (disch := omega) only [go_sem, eq_self, decide_true, decide_false, not_true_eq_false, not_false_eq_true, reduceIte, reduceCtorEq, Nat.reduceEqDiff, Nat.reduceAdd, Nat.reduceSub, Nat.reduceLeDiff]
  · simp (maxSteps := 1000000) (disch := omega) only [go_sem, eq_self, decide_true, decide_false, not_true_eq_false, not_false_eq_true, reduceIte, reduceCtorEq, Nat.reduceEqDiff, Nat.reduceAdd, Nat.reduceSub, Nat.reduceLeDiff]
    refine CALL_det ready_fc (.inl rfl) ?_
    simp (maxSteps := 1000000) (disch := omega) only [go_sem, eq_self, decide_true, decide_false, not_true_eq_false, not_false_eq_true, reduceIte, reduceCtorEq, Nat.reduceEqDiff, Nat.reduceAdd, Nat.reduceSub, Nat.reduceLeDiff]
theorem kat_own : ownKnob Try.prog.godebug = none := by kernel_rfl
theorem kat_laid : laidOutB Try.prog = true := by kernel_rfl
set_option maxRecDepth 100000 in
theorem kat_lifted (os : Os) (started : os.Started) (H : Type) (enc : TypeId × Value → H) :
    ReturnsInHanded {} Try.checked os 11 .any (Rows.keptAreThemselvesSpec.pre6 enc Try.prog Try.f11 Rows.keptAreThemselvesRow.domain false) (Rows.keptAreThemselvesSpec.post enc Try.prog Try.f11 false true false false) := by
  refine returnsInHanded_of_change (C := Try.checked) kat_own started (by kernel_rfl) Try.func11
    (ChangeSpec.witness6 (enc := enc) (C := Try.checked) false ⟨#[], #[.slice none 0 0], []⟩ 8 (by kernel_rfl) (by kernel_rfl) (by kernel_rfl) (by kernel_rfl)) ?_
  intro W base args ds gs before hval hW _ _
  exact law_contract (P := Try.prog) (fun L h1 h2 => kat_fc L h1 h2) (fun _ _ => rfl) rfl rfl rfl kat_laid (by kernel_rfl) (of_decide_eq_true (by kernel_rfl)) Try.underlying22 Try.underlying3 (by kernel_rfl) Try.underlying4 W base args ds gs before hval hW
theorem kat_over : Rows.keptAreThemselvesRow.holds Try.pinned (OpenSpec.ofChange Rows.keptAreThemselvesSpec) :=
  OpenClaim.holds_of_wide 11 Try.f11 rfl rfl rfl rfl rfl rfl rfl ⟨rfl, rfl, rfl, rfl, rfl⟩ rfl rfl rfl rfl rfl (by kernel_rfl) Try.func11 (by kernel_rfl)
    (of_decide_eq_true (by kernel_rfl)) (by unfold Func.isWrapper; first | (rw [if_pos (by decide +kernel)]; kernel_rfl) | (rw [if_neg (by decide +kernel)]; exact ⟨rfl, rfl⟩))
    (fun os started H enc _ => kat_lifted os started H enc)
theorem kept_are_themselves : Rows.KeptAreThemselvesSaid := kat_over
end Go.Proofs.Ytmbpfhpdicjpcaa

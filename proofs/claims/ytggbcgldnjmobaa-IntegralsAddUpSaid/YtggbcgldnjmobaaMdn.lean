
/-
  Medians and extremes of a window, by both ways.
-/
import Derived.Test.YtggbcgldnjmobaaMed
namespace Go.Proofs.Ytggbcgldnjmobaa
open Go Go.Ai
set_option linter.unusedSimpArgs false
set_option linter.unusedVariables false
set_option maxHeartbeats 4000000
def A_extremesP : List Ann := [⟨(some ⟨[0,3], [3], []⟩), [], [], [], []⟩, ⟨(some ⟨[0,3,8], [3], []⟩), [], [], [], []⟩, ⟨(some ⟨[0,3,8,16], [3], []⟩), [], [], [], []⟩, ⟨(some ⟨[4,5,6,7], [], []⟩), [], [], [], []⟩, ⟨(some ⟨[9], [], []⟩), [], [], [], []⟩, ⟨(some ⟨[9,23], [], []⟩), [], [], [], []⟩, ⟨(some ⟨[4,5,6,7], [], []⟩), [], [], [], []⟩, ⟨(some ⟨[10,11], [], []⟩), [], [], [], []⟩, ⟨(some ⟨[4,5,6,7], [], []⟩), [], [], [], []⟩]
def C_extremesP : AC := (.seq (.reg false [⟨(some 3), none, .box (.t 1)⟩, ⟨(some 4), none, .mv (.v (.int .i64 (0)))⟩, ⟨(some 5), none, .mv (.v (.int .i64 (0)))⟩, ⟨(some 6), none, .mv (.v (.bool false))⟩, ⟨(some 7), none, .mv (.v (.int .i64 (0)))⟩] (some ⟨[0,3], [3], []⟩))
  (.seq (.seq (.reg false [⟨(some 12), none, .mv (.t 0)⟩, ⟨(some 13), none, .load true 2 (.t 3)⟩, ⟨(some 14), none, .call (.f 110) [(.t 12), (.t 13)]⟩, ⟨(some 8), none, .mv (.t 14)⟩] (some ⟨[0,3,8], [3], []⟩))
  (.seq (.reg false [⟨(some 15), none, .mv (.t 8)⟩, ⟨(some 16), none, .bin .neq (.t 15) (.v (.int .i64 (0)))⟩] (some ⟨[0,3,8,16], [3], []⟩))
  (.cond (.t 16)
  (.seq (.reg false [⟨(some 17), none, .mv (.t 8)⟩, ⟨(some 4), none, .mv (.v (.int .i64 (0)))⟩, ⟨(some 5), none, .mv (.v (.int .i64 (0)))⟩, ⟨(some 6), none, .mv (.v (.bool false))⟩, ⟨(some 7), none, .mv (.t 17)⟩] (some ⟨[4,5,6,7], [], []⟩))
  .ret)
  .skip)))
  (.seq (.reg false [⟨(some 18), none, .mv (.t 0)⟩, ⟨(some 19), none, .load true 2 (.t 3)⟩, ⟨(some 20), none, .call (.f 114) [(.t 18), (.t 19)]⟩, ⟨(some 9), none, .mv (.t 20)⟩] (some ⟨[9], [], []⟩))
  (.seq (.seq (.reg false [⟨(some 21), none, .mv (.t 9)⟩, ⟨(some 22), none, .len (.t 21)⟩, ⟨(some 23), none, .bin .eql (.t 22) (.v (.int .i64 (0)))⟩] (some ⟨[9,23], [], []⟩))
  (.cond (.t 23)
  (.seq (.reg false [⟨(some 4), none, .mv (.v (.int .i64 (0)))⟩, ⟨(some 5), none, .mv (.v (.int .i64 (0)))⟩, ⟨(some 6), none, .mv (.v (.bool false))⟩, ⟨(some 7), none, .mv (.v (.int .i64 (0)))⟩] (some ⟨[4,5,6,7], [], []⟩))
  .ret)
  .skip))
  (.seq (.reg false [⟨(some 25), none, .mv (.t 9)⟩, ⟨(some 26), none, .call (.f 117) [(.t 25)]⟩, ⟨(some 24), none, .mv (.t 26)⟩, ⟨(some 27), none, .extr (.t 24) 0⟩, ⟨(some 28), none, .extr (.t 24) 1⟩, ⟨(some 10), none, .mv (.t 27)⟩, ⟨(some 11), none, .mv (.t 28)⟩] (some ⟨[10,11], [], []⟩))
  (.seq (.reg false [⟨(some 29), none, .mv (.t 10)⟩, ⟨(some 30), none, .mv (.t 11)⟩, ⟨(some 4), none, .mv (.t 29)⟩, ⟨(some 5), none, .mv (.t 30)⟩, ⟨(some 6), none, .mv (.v (.bool true))⟩, ⟨(some 7), none, .mv (.v (.int .i64 (0)))⟩] (some ⟨[4,5,6,7], [], []⟩))
  .ret))))))
theorem c_extremesP : compileCode Try.prog Try.f62.ntmps (Try.f62.body.getD .skip) A_extremesP = some (C_extremesP, []) := by kernel_rfl
theorem r_extremesP : compileRes Try.prog Try.f62.results.toList = some [.t 4, .t 5, .t 6, .t 7] := by kernel_rfl
theorem b_extremesP : Try.f62.body = some (Try.f62.body.getD .skip) := by kernel_rfl
theorem n_extremesP : (Try.f62.name == "runtime.NumGoroutine") = false := by kernel_rfl
theorem fc_extremesP {xt : Option (List Cel)} {args : List Val} {R : List Cel → Val → Prop} (hn : (if xt.isSome then 1 else 0) + args.length ≤ Try.f62.ntmps) (h : ex Try.prog C_extremesP [] (fpost xt [.t 4, .t 5, .t 6, .t 7] R) (initSt xt args)) : FC Try.prog 62 xt args R :=
  fc_of_awp Try.func62 b_extremesP n_extremesP c_extremesP r_extremesP (of_decide_eq_true (by kernel_rfl)) hn h

def A_whenE : List Ann := [⟨(some ⟨[0,1], [], []⟩), [], [], [], []⟩, ⟨(some ⟨[1,5], [], []⟩), [], [], [], []⟩, ⟨(some ⟨[4], [], []⟩), [], [], [], []⟩, ⟨(some ⟨[4], [], []⟩), [], [], [], []⟩]
def C_whenE : AC := (.seq (.reg false [⟨(some 4), none, .mv (.v (.int .i64 (0)))⟩] (some ⟨[0,1], [], []⟩))
  (.seq (.seq (.reg false [⟨(some 5), none, .mv (.t 0)⟩] (some ⟨[1,5], [], []⟩))
  (.cond (.t 5)
  (.seq (.reg false [⟨(some 6), none, .mv (.t 1)⟩, ⟨(some 4), none, .mv (.t 6)⟩] (some ⟨[4], [], []⟩))
  .ret)
  .skip))
  (.seq (.reg false [⟨(some 4), none, .mv (.v (.int .i64 (0)))⟩] (some ⟨[4], [], []⟩))
  .ret)))
theorem c_whenE : compileCode Try.prog Try.f67.ntmps (Try.f67.body.getD .skip) A_whenE = some (C_whenE, []) := by kernel_rfl
theorem r_whenE : compileRes Try.prog Try.f67.results.toList = some [.t 4] := by kernel_rfl
theorem b_whenE : Try.f67.body = some (Try.f67.body.getD .skip) := by kernel_rfl
theorem n_whenE : (Try.f67.name == "runtime.NumGoroutine") = false := by kernel_rfl
theorem fc_whenE {xt : Option (List Cel)} {args : List Val} {R : List Cel → Val → Prop} (hn : (if xt.isSome then 1 else 0) + args.length ≤ Try.f67.ntmps) (h : ex Try.prog C_whenE [] (fpost xt [.t 4] R) (initSt xt args)) : FC Try.prog 67 xt args R :=
  fc_of_awp Try.func67 b_whenE n_whenE c_whenE r_whenE (of_decide_eq_true (by kernel_rfl)) hn h


theorem whenE_fc (b : Bool) (e : Int) : FC Try.prog 67 none [bv b, iv e] (fun _ r => r = iv (if b = true then e else 0)) := by
  refine fc_whenE (by simp +arith) ?_
  unfold C_whenE
  cases b with
  | true => simp (maxSteps := 1000000) (disch := omega) only [go_sem, eq_self, decide_true, decide_false, not_true_eq_false, not_false_eq_true, reduceIte, reduceCtorEq, Nat.reduceEqDiff, Nat.reduceAdd, Nat.reduceSub, Nat.reduceLeDiff]
  | false => simp (maxSteps := 1000000) (disch := omega) only [go_sem, eq_self, decide_true, decide_false, not_true_eq_false, not_false_eq_true, reduceIte, reduceCtorEq, Nat.reduceEqDiff, Nat.reduceAdd, Nat.reduceSub, Nat.reduceLeDiff]
def extSp (l : List Smp) (f t : Int) : (Int × Int × Bool) × Int := if bothFault l f t ≠ 0 then ((0, 0, false), bothFault l f t) else (exSp (vals f t l), 0)
theorem extremesP_fc (l : List Smp) (hl : l.length ≤ 4611686018427387904) (f t : Int) : FC Try.prog 62 none [smps false l, winV f t] (fun _ r => r = .tu [iv (extSp l f t).1.1, iv (extSp l f t).1.2.1, bv (extSp l f t).1.2.2, iv (extSp l f t).2]) := by
  refine fc_extremesP (by simp +arith) ?_
  unfold C_extremesP extSp
  simp (maxSteps := 1000000) (disch := omega) only [go_sem, eq_self, decide_true, decide_false, not_true_eq_false, not_false_eq_true, reduceIte, reduceCtorEq, Nat.reduceEqDiff, Nat.reduceAdd, Nat.reduceSub, Nat.reduceLeDiff]
  refine CALL_det (fault_fc l hl f t) (.inl rfl) ?_
  by_cases h1 : bothFault l f t = 0
  · rw [if_neg (show ¬(bothFault l f t ≠ 0) by omega), h1]
    have hs := (bothFault_ok h1).1
    have hlen := (good_of hs).len
    have hml := vals_len f t l
    simp (maxSteps := 1000000) (disch := omega) only [go_sem, eq_self, decide_true, decide_false, not_true_eq_false, not_false_eq_true, reduceIte, reduceCtorEq, Nat.reduceEqDiff, Nat.reduceAdd, Nat.reduceSub, Nat.reduceLeDiff]
    refine CALL_det (valued_fc l (by omega) f t) (.inl rfl) ?_
    generalize vals f t l = m at *
    cases m with
    | nil =>
      unfold exSp
      simp (maxSteps := 1000000) (disch := omega) only [go_sem, eq_self, decide_true, decide_false, not_true_eq_false, not_false_eq_true, reduceIte, reduceCtorEq, Nat.reduceEqDiff, Nat.reduceAdd, Nat.reduceSub, Nat.reduceLeDiff]
    | cons p r =>
      unfold exSp
      simp only [List.length_cons] at hml
      simp (maxSteps := 1000000) (disch := omega) only [go_sem, eq_self, decide_true, decide_false, not_true_eq_false, not_false_eq_true, reduceIte, reduceCtorEq, Nat.reduceEqDiff, Nat.reduceAdd, Nat.reduceSub, Nat.reduceLeDiff]
      refine CALL_det (extremes_fc p r (by omega)) (.inl rfl) ?_
      simp (maxSteps := 1000000) (disch := omega) only [go_sem, eq_self, decide_true, decide_false, not_true_eq_false, not_false_eq_true, reduceIte, reduceCtorEq, Nat.reduceEqDiff, Nat.reduceAdd, Nat.reduceSub, Nat.reduceLeDiff]
  · rw [if_pos (show bothFault l f t ≠ 0 by omega)]
    simp (maxSteps := 1000000) (disch := omega) only [go_sem, eq_self, decide_true, decide_false, not_true_eq_false, not_false_eq_true, reduceIte, reduceCtorEq, Nat.reduceEqDiff, Nat.reduceAdd, Nat.reduceSub, Nat.reduceLeDiff]
def mednSp (l : List Smp) (f t : Int) : Int × Bool × Int := if bothFault l f t ≠ 0 then (0, false, bothFault l f t) else ((medOf (vals f t l)).1, (medOf (vals f t l)).2, 0)
def mdSt (s : List Pc) (T i b : Int) : AS := ⟨tabV [(10, iv T), (11, iv b), (30, pcsV true s), (31, iv s.length), (32, iv i)], tabO [], tabO []⟩
theorem vals_rt {l : List Smp} (hs : serFault l = 0) {f t : Int} (hw : 0 ≤ f ∧ f ≤ t ∧ t ≤ 345686400000) : (∀ p ∈ vals f t l, rtPc p) ∧ 0 ≤ intT (vals f t l) ∧ intT (vals f t l) ≤ 345686400000 := by
  have hc := vals_chain (f := f) (t := t) (l := l) hw.2.1 hs
  have hb := int_bd hc
  have hr := hc.rt hw.1 hw.2.2
  exact ⟨hr, rtT hr, by omega⟩
theorem median_fc (l : List Smp) (hl : l.length ≤ 12) (f t : Int) : FC Try.prog 63 none [smps false l, winV f t] (fun _ r => r = .tu [iv (mednSp l f t).1, bv (mednSp l f t).2.1, iv (mednSp l f t).2.2]) := by
  refine fc_median (by simp +arith) ?_
  unfold C_median mednSp
  simp (maxSteps := 1000000) (disch := omega) only [go_sem, eq_self, decide_true, decide_false, not_true_eq_false, not_false_eq_true, reduceIte, reduceCtorEq, Nat.reduceEqDiff, Nat.reduceAdd, Nat.reduceSub, Nat.reduceLeDiff]
  refine CALL_det (fault_fc l (by omega) f t) (.inl rfl) ?_
  by_cases h1 : bothFault l f t = 0
  · rw [if_neg (show ¬(bothFault l f t ≠ 0) by omega), h1]
    have hs := (bothFault_ok h1).1
    have hw := winFault_ok (bothFault_ok h1).2
    have hml := vals_len f t l
    obtain ⟨hrt, hT0, hT⟩ := vals_rt hs hw
    simp (maxSteps := 1000000) (disch := omega) only [go_sem, eq_self, decide_true, decide_false, not_true_eq_false, not_false_eq_true, reduceIte, reduceCtorEq, Nat.reduceEqDiff, Nat.reduceAdd, Nat.reduceSub, Nat.reduceLeDiff]
    refine ⟨rfl, CALLM_det (valuedM_fcm l (by omega) f t) ⟨rfl, rfl⟩ ?_⟩
    unfold medOf
    generalize vals f t l = m at *
    simp (maxSteps := 1000000) (disch := omega) only [go_sem, eq_self, decide_true, decide_false, not_true_eq_false, not_false_eq_true, reduceIte, reduceCtorEq, Nat.reduceEqDiff, Nat.reduceAdd, Nat.reduceSub, Nat.reduceLeDiff]
    refine ⟨rfl, CALLM_rnES ⟨[], [(5, pcRow (srtP m))]⟩ (.tu []) (fun k => k) (swp 5 1000000) (fun _ => rfl) (swp_swp 5 1000000) (srt4_fcm 127 (fun x y => sd y.v x.v) m (by omega) (fun x y => medClos_fc x y)) (by simp) rfl rfl rfl rfl rfl ⟨rfl, rfl⟩ ?_⟩
    have hp := srtP_perm m
    have hsl := srtP_len m
    have hrs : ∀ p ∈ srtP m, rtPc p := fun p hq => hrt p (hp.mem_iff.1 hq)
    have hTs := intT_perm hp
    rw [← hTs] at hT0 hT ⊢
    generalize srtP m = s at *
    simp (maxSteps := 1000000) (disch := omega) only [go_sem, eq_self, decide_true, decide_false, not_true_eq_false, not_false_eq_true, reduceIte, reduceCtorEq, Nat.reduceEqDiff, Nat.reduceAdd, Nat.reduceSub, Nat.reduceLeDiff]
    refine CALL_det (integralM_fc s (by omega) hrs (by omega)) (.inl rfl) ?_
    simp (maxSteps := 1000000) (disch := omega) only [go_sem, eq_self, decide_true, decide_false, not_true_eq_false, not_false_eq_true, reduceIte, reduceCtorEq, Nat.reduceEqDiff, Nat.reduceAdd, Nat.reduceSub, Nat.reduceLeDiff]
    refine ex_loop2 (mdSt s (intT s)) (fun i b => 0 ≤ i ∧ i ≤ s.length ∧ medGo (intT s) b (s.drop i.toNat) = medGo (intT s) 0 s ∧ 0 ≤ b ∧ b + intT (s.drop i.toNat) = intT s) (fun i _ => (s.length - i).toNat) 0 0 ⟨by omega, by omega, rfl, by omega, by simp⟩ rfl ?_
    rintro i b ⟨g1, g2, g3, g4, g5⟩
    unfold mdSt
    by_cases hi : i < s.length
    · have e2 : (i + 1).toNat = i.toNat + 1 := by omega
      have em := getD_map_at pcC s i [] g1 hi
      have k0 := hrs _ (getD_mem s i.toNat (by omega))
      have k4 := rtT (m := s.drop (i + 1).toNat) (fun p hq => hrs p (List.mem_of_mem_drop hq))
      unfold rtPc at k0
      rw [drop_cons s i.toNat (by omega), ← e2] at g3 g5
      rw [medGo] at g3
      rw [intT] at g5
      by_cases c : 2 * (b + ((s.getD i.toNat default).t - (s.getD i.toNat default).f)) ≥ intT s
      · rw [if_pos c] at g3
        rw [← g3]
        simp (maxSteps := 1000000) (disch := omega) only [go_sem, eq_self, decide_true, decide_false, not_true_eq_false, not_false_eq_true, reduceIte, reduceCtorEq, Nat.reduceEqDiff, Nat.reduceAdd, Nat.reduceSub, Nat.reduceLeDiff]
        refine CALL_det (long_fc (s.getD i.toNat default) (by omega) (by omega)) (.inl rfl) ?_
        simp (maxSteps := 1000000) (disch := omega) only [go_sem, eq_self, decide_true, decide_false, not_true_eq_false, not_false_eq_true, reduceIte, reduceCtorEq, Nat.reduceEqDiff, Nat.reduceAdd, Nat.reduceSub, Nat.reduceLeDiff]
      · rw [if_neg c] at g3
        simp (maxSteps := 1000000) (disch := omega) only [go_sem, eq_self, decide_true, decide_false, not_true_eq_false, not_false_eq_true, reduceIte, reduceCtorEq, Nat.reduceEqDiff, Nat.reduceAdd, Nat.reduceSub, Nat.reduceLeDiff]
        refine CALL_det (long_fc (s.getD i.toNat default) (by omega) (by omega)) (.inl rfl) ?_
        simp (maxSteps := 1000000) (disch := omega) only [go_sem, eq_self, decide_true, decide_false, not_true_eq_false, not_false_eq_true, reduceIte, reduceCtorEq, Nat.reduceEqDiff, Nat.reduceAdd, Nat.reduceSub, Nat.reduceLeDiff]
        exact ⟨i + 1, b + ((s.getD i.toNat default).t - (s.getD i.toNat default).f), rfl, ⟨by omega, by omega, g3, by omega, by omega⟩, by omega⟩
    · rw [List.drop_eq_nil_of_le (by omega), medGo] at g3
      rw [← g3]
      simp (maxSteps := 1000000) (disch := omega) only [go_sem, eq_self, decide_true, decide_false, not_true_eq_false, not_false_eq_true, reduceIte, reduceCtorEq, Nat.reduceEqDiff, Nat.reduceAdd, Nat.reduceSub, Nat.reduceLeDiff]
  · rw [if_pos (show bothFault l f t ≠ 0 by omega)]
    simp (maxSteps := 1000000) (disch := omega) only [go_sem, eq_self, decide_true, decide_false, not_true_eq_false, not_false_eq_true, reduceIte, reduceCtorEq, Nat.reduceEqDiff, Nat.reduceAdd, Nat.reduceSub, Nat.reduceLeDiff]
def mdoSt (s : List Sr) (T i b : Int) : AS := ⟨tabV [(8, iv T), (9, iv b), (23, srsV true s), (24, iv s.length), (25, iv i)], tabO [], tabO []⟩
theorem medianOf_fc (l : List Smp) (hl : l.length ≤ 12) (hs : serFault l = 0) (f t : Int) (hw : 0 ≤ f ∧ f ≤ t ∧ t ≤ 345686400000) : FC Try.prog 73 none [smps false l, winV f t] (fun _ r => r = .tu [iv (medOf (vals f t l)).1, bv (medOf (vals f t l)).2]) := by
  refine fc_medianOf (by simp +arith) ?_
  have hml := rvals_len f t l
  obtain ⟨hrt, hT0, hT⟩ := vals_rt hs hw
  have hpc := rvals_pc f t l
  unfold C_medianOf
  simp (maxSteps := 1000000) (disch := omega) only [go_sem, eq_self, decide_true, decide_false, not_true_eq_false, not_false_eq_true, reduceIte, reduceCtorEq, Nat.reduceEqDiff, Nat.reduceAdd, Nat.reduceSub, Nat.reduceLeDiff]
  refine ⟨rfl, CALLM_det (rvaluedM_fcm l (by omega) f t) ⟨rfl, rfl⟩ ?_⟩
  simp (maxSteps := 1000000) (disch := omega) only [go_sem, eq_self, decide_true, decide_false, not_true_eq_false, not_false_eq_true, reduceIte, reduceCtorEq, Nat.reduceEqDiff, Nat.reduceAdd, Nat.reduceSub, Nat.reduceLeDiff]
  refine ⟨rfl, CALLM_rnES ⟨[], [(5, srRow (srtS (rvals f t l)))]⟩ (.tu []) (fun k => k) (swp 5 1000000) (fun _ => rfl) (swp_swp 5 1000000) (srs5_fcm 136 (fun x y => sd y.v x.v) (rvals f t l) (by omega) (fun x y => rmedClos_fc x y)) (by simp) rfl rfl rfl rfl rfl ⟨rfl, rfl⟩ ?_⟩
  simp (maxSteps := 1000000) (disch := omega) only [go_sem, eq_self, decide_true, decide_false, not_true_eq_false, not_false_eq_true, reduceIte, reduceCtorEq, Nat.reduceEqDiff, Nat.reduceAdd, Nat.reduceSub, Nat.reduceLeDiff]
  refine CALL_det (integralOf_fc l hs f t hw) (.inl rfl) ?_
  have hsm := srtS_pc (rvals f t l)
  have hsl := srtS_len (rvals f t l)
  unfold medOf
  rw [← hpc] at hrt hT0 hT ⊢
  rw [← hsm]
  have hrs : ∀ p ∈ (srtS (rvals f t l)).map toPc, rtPc p := fun p hq => by
    rw [hsm] at hq
    exact hrt p ((srtP_perm _).mem_iff.1 hq)
  have hTs : intT ((srtS (rvals f t l)).map toPc) = intT ((rvals f t l).map toPc) := by rw [hsm]; exact intT_perm (srtP_perm _)
  rw [← hTs] at hT0 hT ⊢
  generalize srtS (rvals f t l) = s at *
  simp (maxSteps := 1000000) (disch := omega) only [go_sem, eq_self, decide_true, decide_false, not_true_eq_false, not_false_eq_true, reduceIte, reduceCtorEq, Nat.reduceEqDiff, Nat.reduceAdd, Nat.reduceSub, Nat.reduceLeDiff]
  refine ex_loop2 (mdoSt s (intT (s.map toPc))) (fun i b => 0 ≤ i ∧ i ≤ s.length ∧ medGo (intT (s.map toPc)) b ((s.drop i.toNat).map toPc) = medGo (intT (s.map toPc)) 0 (s.map toPc) ∧ 0 ≤ b ∧ b + intT ((s.drop i.toNat).map toPc) = intT (s.map toPc)) (fun i _ => (s.length - i).toNat) 0 0 ⟨by omega, by omega, rfl, by omega, by simp⟩ rfl ?_
  rintro i b ⟨g1, g2, g3, g4, g5⟩
  unfold mdoSt
  by_cases hi : i < s.length
  · have e2 : (i + 1).toNat = i.toNat + 1 := by omega
    have em := getD_map_at srC s i [] g1 hi
    have k0 := hrs _ (List.mem_map_of_mem (f := toPc) (getD_mem s i.toNat (by omega)))
    have k4 := rtT (m := (s.drop (i + 1).toNat).map toPc) (fun p hq => by
      obtain ⟨x, hx, rfl⟩ := List.mem_map.1 hq
      exact hrs _ (List.mem_map_of_mem (List.mem_of_mem_drop hx)))
    unfold rtPc at k0
    rw [drop_cons s i.toNat (by omega), ← e2, List.map_cons] at g3 g5
    rw [medGo] at g3
    rw [intT] at g5
    simp only [toPc] at g5 k0
    by_cases c : 2 * (b + ((toPc (s.getD i.toNat default)).t - (toPc (s.getD i.toNat default)).f)) ≥ intT (s.map toPc)
    · rw [if_pos c] at g3
      simp only [toPc] at c g3
      rw [← g3]
      simp (maxSteps := 1000000) (disch := omega) only [go_sem, eq_self, decide_true, decide_false, not_true_eq_false, not_false_eq_true, reduceIte, reduceCtorEq, Nat.reduceEqDiff, Nat.reduceAdd, Nat.reduceSub, Nat.reduceLeDiff]
      refine CALL_det (rlong_fc (s.getD i.toNat default).f (s.getD i.toNat default).t (by omega) (by omega)) (.inl rfl) ?_
      simp (maxSteps := 1000000) (disch := omega) only [go_sem, eq_self, decide_true, decide_false, not_true_eq_false, not_false_eq_true, reduceIte, reduceCtorEq, Nat.reduceEqDiff, Nat.reduceAdd, Nat.reduceSub, Nat.reduceLeDiff]
    · rw [if_neg c] at g3
      simp only [toPc] at c g3
      simp (maxSteps := 1000000) (disch := omega) only [go_sem, eq_self, decide_true, decide_false, not_true_eq_false, not_false_eq_true, reduceIte, reduceCtorEq, Nat.reduceEqDiff, Nat.reduceAdd, Nat.reduceSub, Nat.reduceLeDiff]
      refine CALL_det (rlong_fc (s.getD i.toNat default).f (s.getD i.toNat default).t (by omega) (by omega)) (.inl rfl) ?_
      simp (maxSteps := 1000000) (disch := omega) only [go_sem, eq_self, decide_true, decide_false, not_true_eq_false, not_false_eq_true, reduceIte, reduceCtorEq, Nat.reduceEqDiff, Nat.reduceAdd, Nat.reduceSub, Nat.reduceLeDiff]
      exact ⟨i + 1, b + ((s.getD i.toNat default).t - (s.getD i.toNat default).f), rfl, ⟨by omega, by omega, g3, by omega, by omega⟩, by omega⟩
  · rw [List.drop_eq_nil_of_le (by omega), List.map_nil, medGo] at g3
    rw [← g3]
    simp (maxSteps := 1000000) (disch := omega) only [go_sem, eq_self, decide_true, decide_false, not_true_eq_false, not_false_eq_true, reduceIte, reduceCtorEq, Nat.reduceEqDiff, Nat.reduceAdd, Nat.reduceSub, Nat.reduceLeDiff]
end Go.Proofs.Ytggbcgldnjmobaa

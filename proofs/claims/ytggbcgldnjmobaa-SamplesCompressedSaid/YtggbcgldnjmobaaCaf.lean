
/-
  A compressor: made, handed one sample, flushed.
-/
import Derived.Test.YtggbcgldnjmobaaCof
namespace Go.Proofs.Ytggbcgldnjmobaa
open Go Go.Ai
set_option linter.unusedSimpArgs false
set_option linter.unusedVariables false
set_option maxHeartbeats 4000000
def A_addFault : List Ann := [⟨(some ⟨[0,3], [3], []⟩), [], [], [], []⟩, ⟨(some ⟨[0,3,5], [3], []⟩), [], [], [], []⟩, ⟨(some ⟨[0,3,5,10], [3], []⟩), [], [], [], []⟩, ⟨(some ⟨[4], [], []⟩), [], [], [], []⟩, ⟨(some ⟨[0,3,6], [3], []⟩), [], [], [], []⟩, ⟨(some ⟨[26], [], []⟩), [], [], [], []⟩, ⟨(some ⟨[4], [], []⟩), [], [], [], []⟩, ⟨(some ⟨[4], [], []⟩), [], [], [], []⟩]
def C_addFault : AC := (.seq (.reg false [⟨(some 3), none, .box (.t 1)⟩, ⟨(some 4), none, .mv (.v (.int .i64 (0)))⟩] (some ⟨[0,3], [3], []⟩))
  (.seq (.seq (.reg false [⟨(some 7), none, .load true 3 (.t 3)⟩, ⟨(some 8), none, .call (.f 80) [(.t 7)]⟩, ⟨(some 5), none, .mv (.t 8)⟩] (some ⟨[0,3,5], [3], []⟩))
  (.seq (.reg false [⟨(some 9), none, .mv (.t 5)⟩, ⟨(some 10), none, .bin .neq (.t 9) (.v (.int .i64 (0)))⟩] (some ⟨[0,3,5,10], [3], []⟩))
  (.cond (.t 10)
  (.seq (.reg false [⟨(some 11), none, .mv (.t 5)⟩, ⟨(some 4), none, .mv (.t 11)⟩] (some ⟨[4], [], []⟩))
  .ret)
  .skip)))
  (.seq (.seq (.reg false [⟨(some 12), none, .mv (.t 0)⟩, ⟨(some 13), none, .len (.t 12)⟩, ⟨(some 6), none, .mv (.t 13)⟩] (some ⟨[0,3,6], [3], []⟩))
  (.seq (.reg true [⟨(some 14), none, .mv (.t 6)⟩, ⟨(some 15), none, .bin .gtr (.t 14) (.v (.int .i64 (0)))⟩, ⟨(some 16), none, .mv (.t 15)⟩, ⟨(some 17), (some (16, true)), .fadr 0 (.t 3)⟩, ⟨(some 18), (some (16, true)), .load false 1 (.t 17)⟩, ⟨(some 19), (some (16, true)), .mv (.t 0)⟩, ⟨(some 20), (some (16, true)), .mv (.t 6)⟩, ⟨(some 21), (some (16, true)), .bin .sub (.t 20) (.v (.int .i64 (1)))⟩, ⟨(some 22), (some (16, true)), .iadr 3 (.t 19) (.t 21)⟩, ⟨(some 23), (some (16, true)), .fadr 0 (.t 22)⟩, ⟨(some 24), (some (16, true)), .load false 1 (.t 23)⟩, ⟨(some 25), (some (16, true)), .bin .leq (.t 18) (.t 24)⟩, ⟨(some 26), none, .pick (.t 16) (.t 25) (.v (.bool false))⟩] (some ⟨[26], [], []⟩))
  (.cond (.t 26)
  (.seq (.reg false [⟨(some 4), none, .mv (.v (.int .i64 (7)))⟩] (some ⟨[4], [], []⟩))
  .ret)
  .skip)))
  (.seq (.reg false [⟨(some 4), none, .mv (.v (.int .i64 (0)))⟩] (some ⟨[4], [], []⟩))
  .ret))))
theorem c_addFault : compileCode Try.prog Try.f20.ntmps (Try.f20.body.getD .skip) A_addFault = some (C_addFault, []) := by kernel_rfl
theorem r_addFault : compileRes Try.prog Try.f20.results.toList = some [.t 4] := by kernel_rfl
theorem b_addFault : Try.f20.body = some (Try.f20.body.getD .skip) := by kernel_rfl
theorem n_addFault : (Try.f20.name == "runtime.NumGoroutine") = false := by kernel_rfl
theorem fc_addFault {xt : Option (List Cel)} {args : List Val} {R : List Cel → Val → Prop} (hn : (if xt.isSome then 1 else 0) + args.length ≤ Try.f20.ntmps) (h : ex Try.prog C_addFault [] (fpost xt [.t 4] R) (initSt xt args)) : FC Try.prog 20 xt args R :=
  fc_of_awp Try.func20 b_addFault n_addFault c_addFault r_addFault (of_decide_eq_true (by kernel_rfl)) hn h

def A_newC : List Ann := [⟨(some ⟨[1,13], [1,13], []⟩), [], [], [], []⟩, ⟨(some ⟨[1,4,13], [1,13], []⟩), [], [], [], []⟩, ⟨(some ⟨[1,4,8,13], [1,13], []⟩), [], [], [], []⟩, ⟨(some ⟨[2,3,13], [13], []⟩), [], [], [], []⟩, ⟨(some ⟨[2,3,13], [13], []⟩), [], [], [], []⟩]
def C_newC : AC := (.seq (.reg false [⟨(some 1), none, .box (.t 0)⟩, ⟨(some 2), none, .mv (.v (.pointer none))⟩, ⟨(some 3), none, .mv (.v (.int .i64 (0)))⟩] (some ⟨[1,13], [1,13], []⟩))
  (.seq (.seq (.reg false [⟨(some 5), none, .load true 2 (.t 1)⟩, ⟨(some 6), none, .call (.f 75) [(.t 5)]⟩, ⟨(some 4), none, .mv (.t 6)⟩] (some ⟨[1,4,13], [1,13], []⟩))
  (.seq (.reg false [⟨(some 7), none, .mv (.t 4)⟩, ⟨(some 8), none, .bin .neq (.t 7) (.v (.int .i64 (0)))⟩] (some ⟨[1,4,8,13], [1,13], []⟩))
  (.cond (.t 8)
  (.seq (.reg false [⟨(some 9), none, .mv (.t 4)⟩, ⟨(some 2), none, .mv (.v (.pointer none))⟩, ⟨(some 3), none, .mv (.t 9)⟩] (some ⟨[2,3,13], [13], []⟩))
  .ret)
  .skip)))
  (.seq (.reg false [⟨(some 10), none, .load true 2 (.t 1)⟩, ⟨(some 11), none, .build [(.int .i64 (0)), (.int .i64 (0)), (.bool false), (.int .i64 (0)), (.int .i64 (0)), (.int .i64 (0)), (.int .i64 (0)), (.int .i64 (0)), (.int .i64 (0)), (.bool false), (.int .i64 (0)), (.int .i64 (0)), (.int .i64 (0)), (.int .i64 (0))] [(0, 2, (.t 10))]⟩, ⟨(some 12), none, .build [(.int .i64 (0)), (.int .i64 (0)), (.bool false), (.int .i64 (0)), (.int .i64 (0)), (.int .i64 (0)), (.int .i64 (0)), (.int .i64 (0)), (.int .i64 (0)), (.bool false), (.int .i64 (0)), (.int .i64 (0)), (.int .i64 (0)), (.int .i64 (0)), (.int .i64 (0))] [(0, 14, (.t 11))]⟩, ⟨(some 13), none, .box (.t 12)⟩, ⟨(some 2), none, .mv (.t 13)⟩, ⟨(some 3), none, .mv (.v (.int .i64 (0)))⟩] (some ⟨[2,3,13], [13], []⟩))
  .ret)))
theorem c_newC : compileCode Try.prog Try.f16.ntmps (Try.f16.body.getD .skip) A_newC = some (C_newC, []) := by kernel_rfl
theorem r_newC : compileRes Try.prog Try.f16.results.toList = some [.t 2, .t 3] := by kernel_rfl
theorem b_newC : Try.f16.body = some (Try.f16.body.getD .skip) := by kernel_rfl
theorem n_newC : (Try.f16.name == "runtime.NumGoroutine") = false := by kernel_rfl
theorem fc_newC {xt : Option (List Cel)} {args : List Val} {R : List Cel → Val → Prop} (hn : (if xt.isSome then 1 else 0) + args.length ≤ Try.f16.ntmps) (h : ex Try.prog C_newC [] (fpost xt [.t 2, .t 3] R) (initSt xt args)) : FC Try.prog 16 xt args R :=
  fc_of_awp Try.func16 b_newC n_newC c_newC r_newC (of_decide_eq_true (by kernel_rfl)) hn h
theorem fcm_newC {H : Hp} {K : Keep} {args : List Val} {R : Hp → Val → Prop} (hn : args.length ≤ Try.f16.ntmps) (hkb : ∀ p ∈ H.bs, p.1 = 0 ∨ XK ≤ p.1) (hkr : ∀ p ∈ H.rs, XK ≤ p.1) (h : ex Try.prog C_newC [] (mpost H K [.t 2, .t 3] R) (initM H args)) : FCM Try.prog 16 H args R :=
  fcm_of_awp Try.func16 b_newC n_newC c_newC r_newC (of_decide_eq_true (by kernel_rfl)) hn hkb hkr h
theorem fcms_newC {S : List Nat} {H : Hp} {K : Keep} {args : List Val} {R : Hp → Val → Prop} (hn : args.length ≤ Try.f16.ntmps) (hkb : ∀ p ∈ H.bs, p.1 = 0 ∨ XK ≤ p.1) (hkr : ∀ p ∈ H.rs, XK ≤ p.1) (h : ex Try.prog C_newC [] (mpostS S H K [.t 2, .t 3] R) (initM H args))   : FCMS Try.prog 16 S H args R :=
  fcms_of_awp Try.func16 b_newC n_newC c_newC r_newC (of_decide_eq_true (by kernel_rfl)) hn hkb hkr h

def A_cAdd : List Ann := [⟨(some ⟨[0,3], [0,3], []⟩), [], [], [], []⟩, ⟨(some ⟨[0,3,6], [0,3], []⟩), [], [], [], []⟩, ⟨(some ⟨[0,3,6,10], [0,3], []⟩), [], [], [], []⟩, ⟨(some ⟨[4,5], [0], []⟩), [], [], [(4, 3)], []⟩, ⟨(some ⟨[0,3,25], [0,3], []⟩), [], [], [], []⟩, ⟨(some ⟨[4,5], [0], []⟩), [], [], [(4, 3)], []⟩, ⟨(some ⟨[0,3], [0,3], []⟩), [], [], [], []⟩, ⟨(some ⟨[4,5], [0], []⟩), [], [], [], []⟩]
def C_cAdd : AC := (.seq (.reg false [⟨(some 3), none, .box (.t 1)⟩, ⟨(some 4), none, .mv (.v (.slice none 0 0))⟩, ⟨(some 5), none, .mv (.v (.int .i64 (0)))⟩] (some ⟨[0,3], [0,3], []⟩))
  (.seq (.seq (.reg false [⟨(some 7), none, .load true 3 (.t 3)⟩, ⟨(some 8), none, .call (.f 78) [(.t 7)]⟩, ⟨(some 6), none, .mv (.t 8)⟩] (some ⟨[0,3,6], [0,3], []⟩))
  (.seq (.reg false [⟨(some 9), none, .mv (.t 6)⟩, ⟨(some 10), none, .bin .neq (.t 9) (.v (.int .i64 (0)))⟩] (some ⟨[0,3,6,10], [0,3], []⟩))
  (.cond (.t 10)
  (.seq (.seq (.reg false [⟨(some 11), none, .mv (.t 6)⟩, ⟨(some 4), none, .mv (.v (.slice none 0 0))⟩, ⟨(some 5), none, .mv (.t 11)⟩] (some ⟨[4,5], [0], []⟩))
  (.ty 4 3))
  .ret)
  .skip)))
  (.seq (.seq (.reg true [⟨(some 12), none, .mv (.t 0)⟩, ⟨(some 13), none, .nilchk (.t 12)⟩, ⟨(some 14), none, .fadr 0 (.t 13)⟩, ⟨(some 15), none, .fadr 2 (.t 14)⟩, ⟨(some 16), none, .load false 1 (.t 15)⟩, ⟨(some 17), none, .mv (.t 16)⟩, ⟨(some 18), (some (17, true)), .fadr 0 (.t 3)⟩, ⟨(some 19), (some (17, true)), .load false 1 (.t 18)⟩, ⟨(some 20), (some (17, true)), .mv (.t 0)⟩, ⟨(some 21), (some (17, true)), .nilchk (.t 20)⟩, ⟨(some 22), (some (17, true)), .fadr 14 (.t 21)⟩, ⟨(some 23), (some (17, true)), .load false 1 (.t 22)⟩, ⟨(some 24), (some (17, true)), .bin .leq (.t 19) (.t 23)⟩, ⟨(some 25), none, .pick (.t 17) (.t 24) (.v (.bool false))⟩] (some ⟨[0,3,25], [0,3], []⟩))
  (.cond (.t 25)
  (.seq (.seq (.reg false [⟨(some 4), none, .mv (.v (.slice none 0 0))⟩, ⟨(some 5), none, .mv (.v (.int .i64 (7)))⟩] (some ⟨[4,5], [0], []⟩))
  (.ty 4 3))
  .ret)
  .skip))
  (.seq (.reg false [⟨(some 26), none, .mv (.t 0)⟩, ⟨(some 27), none, .fadr 0 (.t 3)⟩, ⟨(some 28), none, .load false 1 (.t 27)⟩, ⟨(some 29), none, .nilchk (.t 26)⟩, ⟨(some 30), none, .fadr 14 (.t 29)⟩, ⟨none, none, .store 1 (.t 30) (.t 28)⟩] (some ⟨[0,3], [0,3], []⟩))
  (.seq (.reg true [⟨(some 31), none, .mv (.t 0)⟩, ⟨(some 32), none, .nilchk (.t 31)⟩, ⟨(some 33), none, .fadr 0 (.t 32)⟩, ⟨(some 34), none, .load true 3 (.t 3)⟩, ⟨(some 35), none, .callx (.f 79) [(.t 33), (.t 34)]⟩, ⟨(some 4), none, .mv (.t 35)⟩, ⟨(some 5), none, .mv (.v (.int .i64 (0)))⟩] (some ⟨[4,5], [0], []⟩))
  .ret)))))
theorem c_cAdd : compileCode Try.prog Try.f19.ntmps (Try.f19.body.getD .skip) A_cAdd = some (C_cAdd, []) := by kernel_rfl
theorem r_cAdd : compileRes Try.prog Try.f19.results.toList = some [.t 4, .t 5] := by kernel_rfl
theorem b_cAdd : Try.f19.body = some (Try.f19.body.getD .skip) := by kernel_rfl
theorem n_cAdd : (Try.f19.name == "runtime.NumGoroutine") = false := by kernel_rfl
theorem fc_cAdd {xt : Option (List Cel)} {args : List Val} {R : List Cel → Val → Prop} (hn : (if xt.isSome then 1 else 0) + args.length ≤ Try.f19.ntmps) (h : ex Try.prog C_cAdd [] (fpost xt [.t 4, .t 5] R) (initSt xt args)) : FC Try.prog 19 xt args R :=
  fc_of_awp Try.func19 b_cAdd n_cAdd c_cAdd r_cAdd (of_decide_eq_true (by kernel_rfl)) hn h

def A_cFlush : List Ann := [⟨(some ⟨[0], [0], []⟩), [], [], [], []⟩, ⟨(some ⟨[2], [0], []⟩), [], [], [], []⟩]
def C_cFlush : AC := (.seq (.reg false [⟨(some 2), none, .mv (.v (.slice none 0 0))⟩] (some ⟨[0], [0], []⟩))
  (.seq (.reg false [⟨(some 3), none, .mv (.t 0)⟩, ⟨(some 4), none, .nilchk (.t 3)⟩, ⟨(some 5), none, .fadr 0 (.t 4)⟩, ⟨(some 6), none, .callx (.f 81) [(.t 5)]⟩, ⟨(some 2), none, .mv (.t 6)⟩] (some ⟨[2], [0], []⟩))
  .ret))
theorem c_cFlush : compileCode Try.prog Try.f22.ntmps (Try.f22.body.getD .skip) A_cFlush = some (C_cFlush, []) := by kernel_rfl
theorem r_cFlush : compileRes Try.prog Try.f22.results.toList = some [.t 2] := by kernel_rfl
theorem b_cFlush : Try.f22.body = some (Try.f22.body.getD .skip) := by kernel_rfl
theorem n_cFlush : (Try.f22.name == "runtime.NumGoroutine") = false := by kernel_rfl
theorem fc_cFlush {xt : Option (List Cel)} {args : List Val} {R : List Cel → Val → Prop} (hn : (if xt.isSome then 1 else 0) + args.length ≤ Try.f22.ntmps) (h : ex Try.prog C_cFlush [] (fpost xt [.t 2] R) (initSt xt args)) : FC Try.prog 22 xt args R :=
  fc_of_awp Try.func22 b_cFlush n_cFlush c_cFlush r_cFlush (of_decide_eq_true (by kernel_rfl)) hn h


def adF (l : List Smp) (s : Smp) : Int := if smpFault s ≠ 0 then smpFault s else if 0 < l.length ∧ s.a ≤ (l.getD ((l.length : Int) - 1).toNat default).a then 7 else 0
theorem addFault_fc (l : List Smp) (hl : l.length ≤ 5000) (s : Smp) : FC Try.prog 20 none [smps false l, .ag (smpC s)] (fun _ r => r = iv (adF l s)) := by
  refine fc_addFault (by simp +arith) ?_
  unfold C_addFault adF
  simp (maxSteps := 1000000) (disch := omega) only [go_sem, eq_self, decide_true, decide_false, not_true_eq_false, not_false_eq_true, reduceIte, reduceCtorEq, Nat.reduceEqDiff, Nat.reduceAdd, Nat.reduceSub, Nat.reduceLeDiff]
  refine CALL_det (sampleFault_fc s) (.inl rfl) ?_
  by_cases h1 : smpFault s = 0
  · rw [if_neg (show ¬(smpFault s ≠ 0) by omega), h1]
    by_cases h2 : 0 < l.length
    · have em := getD_map_at smpC l ((l.length : Int) - 1) [] (by omega) (by omega)
      by_cases h3 : s.a ≤ (l.getD ((l.length : Int) - 1).toNat default).a
      · rw [if_pos ⟨h2, h3⟩]
        simp (maxSteps := 1000000) (disch := omega) only [go_sem, eq_self, decide_true, decide_false, not_true_eq_false, not_false_eq_true, reduceIte, reduceCtorEq, Nat.reduceEqDiff, Nat.reduceAdd, Nat.reduceSub, Nat.reduceLeDiff]
      · rw [if_neg (fun h => h3 h.2)]
        simp (maxSteps := 1000000) (disch := omega) only [go_sem, eq_self, decide_true, decide_false, not_true_eq_false, not_false_eq_true, reduceIte, reduceCtorEq, Nat.reduceEqDiff, Nat.reduceAdd, Nat.reduceSub, Nat.reduceLeDiff]
    · rw [if_neg (fun h => h2 h.1)]
      simp (maxSteps := 1000000) (disch := omega) only [go_sem, eq_self, decide_true, decide_false, not_true_eq_false, not_false_eq_true, reduceIte, reduceCtorEq, Nat.reduceEqDiff, Nat.reduceAdd, Nat.reduceSub, Nat.reduceLeDiff]
  · rw [if_pos h1]
    simp (maxSteps := 1000000) (disch := omega) only [go_sem, eq_self, decide_true, decide_false, not_true_eq_false, not_false_eq_true, reduceIte, reduceCtorEq, Nat.reduceEqDiff, Nat.reduceAdd, Nat.reduceSub, Nat.reduceLeDiff]
def ini (dv mg : Int) : Sc := ⟨dv, mg, false, ⟨0, 0, 0⟩, ⟨0, 0, 0⟩, false, 0, 0, 0, 0⟩
theorem new_ok (dv mg : Int) (h : excF dv mg = 0) : FCM Try.prog 16 ⟨[], []⟩ [twoV dv mg] (fun H r => H = ⟨[(13, scC (ini dv mg) (some 0))], []⟩ ∧ r = .tu [.one (.bx 13 0), iv 0]) := by
  refine fcm_newC (K := ⟨[], [13], []⟩) (by simp +arith) (by simp) (by simp) ?_
  unfold C_newC
  simp (maxSteps := 1000000) (disch := omega) only [go_sem, eq_self, decide_true, decide_false, not_true_eq_false, not_false_eq_true, reduceIte, reduceCtorEq, Nat.reduceEqDiff, Nat.reduceAdd, Nat.reduceSub, Nat.reduceLeDiff]
  refine CALL_det (checkDoor_fc dv mg) (.inl rfl) ?_
  rw [h]
  simp (maxSteps := 1000000) (disch := omega) only [go_sem, eq_self, decide_true, decide_false, not_true_eq_false, not_false_eq_true, reduceIte, reduceCtorEq, Nat.reduceEqDiff, Nat.reduceAdd, Nat.reduceSub, Nat.reduceLeDiff]
  rfl
theorem new_bad (dv mg : Int) (h : ¬excF dv mg = 0) : FCM Try.prog 16 ⟨[], []⟩ [twoV dv mg] (fun H r => H = ⟨[], []⟩ ∧ r = .tu [.one (.g (.pointer none)), iv (excF dv mg)]) := by
  refine fcm_newC (K := ⟨[], [13], []⟩) (by simp +arith) (by simp) (by simp) ?_
  unfold C_newC
  simp (maxSteps := 1000000) (disch := omega) only [go_sem, eq_self, decide_true, decide_false, not_true_eq_false, not_false_eq_true, reduceIte, reduceCtorEq, Nat.reduceEqDiff, Nat.reduceAdd, Nat.reduceSub, Nat.reduceLeDiff]
  refine CALL_det (checkDoor_fc dv mg) (.inl rfl) ?_
  simp (maxSteps := 1000000) (disch := omega) only [go_sem, eq_self, decide_true, decide_false, not_true_eq_false, not_false_eq_true, reduceIte, reduceCtorEq, Nat.reduceEqDiff, Nat.reduceAdd, Nat.reduceSub, Nat.reduceLeDiff]
theorem cAdd_no (x : Sc) (n : Int) (s : Smp) (h : ¬smpFault s = 0) : FC Try.prog 19 (some (scC x (some n))) [.ag (smpC s)] (fun cs r => cs = scC x (some n) ∧ r = .tu [smps true [], iv (smpFault s)]) := by
  refine fc_cAdd (by simp +arith) ?_
  unfold C_cAdd scC tlC
  simp (maxSteps := 1000000) (disch := omega) only [go_sem, eq_self, decide_true, decide_false, not_true_eq_false, not_false_eq_true, reduceIte, reduceCtorEq, Nat.reduceEqDiff, Nat.reduceAdd, Nat.reduceSub, Nat.reduceLeDiff]
  refine CALL_det (checkSample_fc s) (.inl rfl) ?_
  simp (maxSteps := 1000000) (disch := omega) only [go_sem, eq_self, decide_true, decide_false, not_true_eq_false, not_false_eq_true, reduceIte, reduceCtorEq, Nat.reduceEqDiff, Nat.reduceAdd, Nat.reduceSub, Nat.reduceLeDiff]
  rfl
theorem cAdd_ord (x : Sc) (n : Int) (s : Smp) (h : smpFault s = 0) (hb : x.b = true) (h2 : s.a ≤ n) : FC Try.prog 19 (some (scC x (some n))) [.ag (smpC s)] (fun cs r => cs = scC x (some n) ∧ r = .tu [smps true [], iv 7]) := by
  refine fc_cAdd (by simp +arith) ?_
  unfold C_cAdd scC tlC
  rw [hb]
  simp (maxSteps := 1000000) (disch := omega) only [go_sem, eq_self, decide_true, decide_false, not_true_eq_false, not_false_eq_true, reduceIte, reduceCtorEq, Nat.reduceEqDiff, Nat.reduceAdd, Nat.reduceSub, Nat.reduceLeDiff]
  refine CALL_det (checkSample_fc s) (.inl rfl) ?_
  rw [h]
  simp (maxSteps := 1000000) (disch := omega) only [go_sem, eq_self, decide_true, decide_false, not_true_eq_false, not_false_eq_true, reduceIte, reduceCtorEq, Nat.reduceEqDiff, Nat.reduceAdd, Nat.reduceSub, Nat.reduceLeDiff]
  rfl
theorem cAdd_ok (x : Sc) (n : Int) (s : Smp) (h : smpFault s = 0) (h2 : x.b = true → ¬s.a ≤ n) (hx : x.b = true → OkX x s) : FC Try.prog 19 (some (scC x (some n))) [.ag (smpC s)] (fun cs r => cs = scC (addS x s).1 (some s.a) ∧ r = .tu [smps true (addS x s).2, iv 0]) := by
  refine fc_cAdd (by simp +arith) ?_
  have ha := add_fc x (some s.a) s hx
  have hd := sc_data (addS x s).1 (some s.a)
  unfold C_cAdd
  unfold scC tlC at ha hd ⊢
  generalize addS x s = y at *
  cases hb : x.b with
  | true =>
    have h3 := h2 hb
    rw [hb] at ha
    simp (maxSteps := 1000000) (disch := omega) only [go_sem, eq_self, decide_true, decide_false, not_true_eq_false, not_false_eq_true, reduceIte, reduceCtorEq, Nat.reduceEqDiff, Nat.reduceAdd, Nat.reduceSub, Nat.reduceLeDiff]
    refine CALL_det (checkSample_fc s) (.inl rfl) ?_
    rw [h]
    simp (maxSteps := 1000000) (disch := omega) only [go_sem, eq_self, decide_true, decide_false, not_true_eq_false, not_false_eq_true, reduceIte, reduceCtorEq, Nat.reduceEqDiff, Nat.reduceAdd, Nat.reduceSub, Nat.reduceLeDiff]
    refine CALLX_det ha rfl hd ?_
    simp (maxSteps := 1000000) (disch := omega) only [go_sem, eq_self, decide_true, decide_false, not_true_eq_false, not_false_eq_true, reduceIte, reduceCtorEq, Nat.reduceEqDiff, Nat.reduceAdd, Nat.reduceSub, Nat.reduceLeDiff]
  | false =>
    rw [hb] at ha
    simp (maxSteps := 1000000) (disch := omega) only [go_sem, eq_self, decide_true, decide_false, not_true_eq_false, not_false_eq_true, reduceIte, reduceCtorEq, Nat.reduceEqDiff, Nat.reduceAdd, Nat.reduceSub, Nat.reduceLeDiff]
    refine CALL_det (checkSample_fc s) (.inl rfl) ?_
    rw [h]
    simp (maxSteps := 1000000) (disch := omega) only [go_sem, eq_self, decide_true, decide_false, not_true_eq_false, not_false_eq_true, reduceIte, reduceCtorEq, Nat.reduceEqDiff, Nat.reduceAdd, Nat.reduceSub, Nat.reduceLeDiff]
    refine CALLX_det ha rfl hd ?_
    simp (maxSteps := 1000000) (disch := omega) only [go_sem, eq_self, decide_true, decide_false, not_true_eq_false, not_false_eq_true, reduceIte, reduceCtorEq, Nat.reduceEqDiff, Nat.reduceAdd, Nat.reduceSub, Nat.reduceLeDiff]
theorem cFlush_fc (x : Sc) (n : Int) : FC Try.prog 22 (some (scC x (some n))) [] (fun cs r => cs = scC (fluS x).1 (some n) ∧ r = smps true (fluS x).2) := by
  refine fc_cFlush (by simp +arith) ?_
  have ha := flush_fc x (some n)
  have hd := sc_data (fluS x).1 (some n)
  unfold C_cFlush
  unfold scC tlC at ha hd ⊢
  generalize fluS x = y at *
  simp (maxSteps := 1000000) (disch := omega) only [go_sem, eq_self, decide_true, decide_false, not_true_eq_false, not_false_eq_true, reduceIte, reduceCtorEq, Nat.reduceEqDiff, Nat.reduceAdd, Nat.reduceSub, Nat.reduceLeDiff]
  refine CALLX_det ha rfl hd ?_
  simp (maxSteps := 1000000) (disch := omega) only [go_sem, eq_self, decide_true, decide_false, not_true_eq_false, not_false_eq_true, reduceIte, reduceCtorEq, Nat.reduceEqDiff, Nat.reduceAdd, Nat.reduceSub, Nat.reduceLeDiff]
end Go.Proofs.Ytggbcgldnjmobaa

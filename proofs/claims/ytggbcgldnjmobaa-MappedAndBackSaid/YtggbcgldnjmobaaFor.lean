
/-
  The reference's recipes and phases, and its search.
-/
import Derived.Test.YtggbcgldnjmobaaFpl
namespace Go.Proofs.Ytggbcgldnjmobaa
open Go Go.Ai
set_option linter.unusedSimpArgs false
set_option linter.unusedVariables false
set_option maxHeartbeats 4000000
def A_rphasesFault : List Ann := [⟨(some ⟨[0], [], []⟩), [], [], [], []⟩, ⟨(some ⟨[0,8], [], []⟩), [], [], [], []⟩, ⟨(some ⟨[2], [], []⟩), [], [], [], []⟩, ⟨(some ⟨[0,3], [], []⟩), [(3, 66, 2)], [], [], []⟩, ⟨(some ⟨[3,9,10,11], [], [3]⟩), [], [], [], []⟩, ⟨(some ⟨[3,9,10,11,12], [], [3]⟩), [], [], [], []⟩, ⟨(some ⟨[3,5,9,10,11], [5], [3]⟩), [], [], [], []⟩, ⟨(some ⟨[3,5,9,10,11,18], [5], [3]⟩), [], [], [], []⟩, ⟨(some ⟨[2], [], []⟩), [], [], [], []⟩, ⟨(some ⟨[3,9,10,11], [], [3]⟩), [], [], [], []⟩, ⟨(some ⟨[3,9,10,11], [], [3]⟩), [], [], [], []⟩, ⟨(some ⟨[2], [], []⟩), [], [], [], []⟩]
def C_rphasesFault : AC := (.seq (.reg false [⟨(some 2), none, .mv (.v (.int .i64 (0)))⟩] (some ⟨[0], [], []⟩))
  (.seq (.seq (.reg false [⟨(some 6), none, .mv (.t 0)⟩, ⟨(some 7), none, .len (.t 6)⟩, ⟨(some 8), none, .bin .gtr (.t 7) (.v (.int .i64 (5000)))⟩] (some ⟨[0,8], [], []⟩))
  (.cond (.t 8)
  (.seq (.reg false [⟨(some 2), none, .mv (.v (.int .i64 (2)))⟩] (some ⟨[2], [], []⟩))
  .ret)
  .skip))
  (.seq (.seq (.reg false [⟨(some 3), none, .mv (.v (.slice none 0 0))⟩] (some ⟨[0,3], [], []⟩))
  (.own 3 66 2))
  (.seq (.seq (.reg false [⟨(some 9), none, .mv (.t 0)⟩, ⟨(some 10), none, .len (.t 9)⟩, ⟨(some 11), none, .mv (.v (.int .i64 (0)))⟩] (some ⟨[3,9,10,11], [], [3]⟩))
  (.block 0 (.loop (.seq (.reg false [⟨(some 12), none, .bin .lss (.t 11) (.t 10)⟩] (some ⟨[3,9,10,11,12], [], [3]⟩))
  (.seq (.cond (.t 12)
  .skip
  (.exit 0))
  (.seq (.block 1 (.seq (.reg false [⟨(some 13), none, .iadr 3 (.t 9) (.t 11)⟩, ⟨(some 14), none, .load true 3 (.t 13)⟩, ⟨(some 5), none, .alloc [(.int .i64 (0)), (.int .i64 (0)), (.int .i64 (0))]⟩, ⟨none, none, .store 3 (.t 5) (.t 14)⟩] (some ⟨[3,5,9,10,11], [5], [3]⟩))
  (.seq (.seq (.reg false [⟨(some 15), none, .fadr 0 (.t 5)⟩, ⟨(some 16), none, .load false 1 (.t 15)⟩, ⟨(some 17), none, .call (.f 88) [(.t 16), (.v (.int .i64 (0))), (.v (.int .i64 (1000)))]⟩, ⟨(some 18), none, .un .not (.t 17)⟩] (some ⟨[3,5,9,10,11,18], [5], [3]⟩))
  (.cond (.t 18)
  (.seq (.reg false [⟨(some 2), none, .mv (.v (.int .i64 (1)))⟩] (some ⟨[2], [], []⟩))
  .ret)
  .skip))
  (.reg false [⟨(some 19), none, .mv (.t 3)⟩, ⟨(some 20), none, .fadr 1 (.t 5)⟩, ⟨(some 21), none, .load true 2 (.t 20)⟩, ⟨(some 22), none, .bslice 2 1 [(.t 21)]⟩, ⟨(some 23), none, .append 66 2 16 (.t 19) (.t 22)⟩, ⟨(some 3), none, .mv (.t 23)⟩] (some ⟨[3,9,10,11], [], [3]⟩)))))
  (.reg false [⟨(some 24), none, .bin .add (.t 11) (.v (.int .i64 (1)))⟩, ⟨(some 11), none, .mv (.t 24)⟩] (some ⟨[3,9,10,11], [], [3]⟩))))))))
  (.seq (.reg false [⟨(some 25), none, .mv (.t 3)⟩, ⟨(some 26), none, .call (.f 41) [(.t 25)]⟩, ⟨(some 2), none, .mv (.t 26)⟩] (some ⟨[2], [], []⟩))
  .ret)))))
theorem c_rphasesFault : compileCode Try.prog Try.f48.ntmps (Try.f48.body.getD .skip) A_rphasesFault = some (C_rphasesFault, []) := by kernel_rfl
theorem r_rphasesFault : compileRes Try.prog Try.f48.results.toList = some [.t 2] := by kernel_rfl
theorem b_rphasesFault : Try.f48.body = some (Try.f48.body.getD .skip) := by kernel_rfl
theorem n_rphasesFault : (Try.f48.name == "runtime.NumGoroutine") = false := by kernel_rfl
theorem fc_rphasesFault {xt : Option (List Cel)} {args : List Val} {R : List Cel → Val → Prop} (hn : (if xt.isSome then 1 else 0) + args.length ≤ Try.f48.ntmps) (h : ex Try.prog C_rphasesFault [] (fpost xt [.t 2] R) (initSt xt args)) : FC Try.prog 48 xt args R :=
  fc_of_awp Try.func48 b_rphasesFault n_rphasesFault c_rphasesFault r_rphasesFault (of_decide_eq_true (by kernel_rfl)) hn h


def rr1St (r : List Sg) (i : Int) (b : Bool) : AS := ⟨tabV [(0, sgsV false r), (3, bv b), (14, sgsV false r), (15, iv r.length), (16, iv i)], tabO [], tabO []⟩
def rp1St (p : List Ph) (i : Int) (w : List (Int × Int)) : AS := ⟨tabV [(3, .one (.ow 3 0)), (9, phsV false p), (10, iv p.length), (11, iv i)], tabO [], tabO [(3, winRow w)]⟩
theorem rphasesFault_fc (p : List Ph) (hl : p.length ≤ 4611686018427387904) : FC Try.prog 48 none [phsV false p] (fun _ r => r = iv (phF p)) := by
  refine fc_rphasesFault (by simp +arith) ?_
  unfold C_rphasesFault phF
  by_cases h1 : p.length > 5000
  · rw [if_pos h1]
    simp (maxSteps := 1000000) (disch := omega) only [go_sem, eq_self, decide_true, decide_false, not_true_eq_false, not_false_eq_true, reduceIte, reduceCtorEq, Nat.reduceEqDiff, Nat.reduceAdd, Nat.reduceSub, Nat.reduceLeDiff]
  rw [if_neg h1]
  simp (maxSteps := 1000000) (disch := omega) only [go_sem, eq_self, decide_true, decide_false, not_true_eq_false, not_false_eq_true, reduceIte, reduceCtorEq, Nat.reduceEqDiff, Nat.reduceAdd, Nat.reduceSub, Nat.reduceLeDiff]
  refine ex_loop2 (rp1St p) (fun i w => 0 ≤ i ∧ i ≤ p.length ∧ (p.drop i.toNat).any badN = p.any badN ∧ w.length = i ∧ w ++ (p.drop i.toNat).map winP = p.map winP) (fun i _ => (p.length - i).toNat) 0 [] ⟨by omega, by omega, rfl, by simp, rfl⟩ rfl ?_
  rintro i w ⟨g1, g2, g3, g4, g5⟩
  unfold rp1St
  by_cases hi : i < p.length
  · have e2 : (i + 1).toNat = i.toNat + 1 := by omega
    have em := getD_map_at phC p i [] g1 hi
    rw [drop_cons p i.toNat (by omega), ← e2, List.any_cons] at g3
    rw [drop_cons p i.toNat (by omega), ← e2, List.map_cons, List.append_cons] at g5
    have hbn : badN (p.getD i.toNat default) = decide ((p.getD i.toNat default).n < 0 ∨ (p.getD i.toNat default).n > 1000) := rfl
    rw [hbn] at g3
    by_cases c : 0 ≤ (p.getD i.toNat default).n ∧ (p.getD i.toNat default).n ≤ 1000
    · rw [decide_eq_false (by omega), Bool.false_or] at g3
      simp (maxSteps := 1000000) (disch := omega) only [go_sem, eq_self, decide_true, decide_false, not_true_eq_false, not_false_eq_true, reduceIte, reduceCtorEq, Nat.reduceEqDiff, Nat.reduceAdd, Nat.reduceSub, Nat.reduceLeDiff]
      refine CALL_det (rin1_fc _ _ _) (.inl rfl) ?_
      rw [decide_eq_true c]
      simp (maxSteps := 1000000) (disch := omega) only [go_sem, eq_self, decide_true, decide_false, not_true_eq_false, not_false_eq_true, reduceIte, reduceCtorEq, Nat.reduceEqDiff, Nat.reduceAdd, Nat.reduceSub, Nat.reduceLeDiff]
      exact ⟨i + 1, w ++ [winP (p.getD i.toNat default)], by simp only [rp1St, winRow, winP, List.map_append, List.map_cons, List.map_nil, frC_eq], ⟨by omega, by omega, g3, by simp; omega, g5⟩, by omega⟩
    · rw [decide_eq_true (by omega), Bool.true_or] at g3
      rw [← g3]
      simp (maxSteps := 1000000) (disch := omega) only [go_sem, eq_self, decide_true, decide_false, not_true_eq_false, not_false_eq_true, reduceIte, reduceCtorEq, Nat.reduceEqDiff, Nat.reduceAdd, Nat.reduceSub, Nat.reduceLeDiff]
      refine CALL_det (rin1_fc _ _ _) (.inl rfl) ?_
      rw [decide_eq_false c]
      simp (maxSteps := 1000000) (disch := omega) only [go_sem, eq_self, decide_true, decide_false, not_true_eq_false, not_false_eq_true, reduceIte, reduceCtorEq, Nat.reduceEqDiff, Nat.reduceAdd, Nat.reduceSub, Nat.reduceLeDiff]
  · rw [List.drop_eq_nil_of_le (by omega), List.any_nil] at g3
    rw [List.drop_eq_nil_of_le (by omega), List.map_nil, List.append_nil] at g5
    rw [← g3, if_neg (by simp), ← g5]
    simp (maxSteps := 1000000) (disch := omega) only [go_sem, eq_self, decide_true, decide_false, not_true_eq_false, not_false_eq_true, reduceIte, reduceCtorEq, Nat.reduceEqDiff, Nat.reduceAdd, Nat.reduceSub, Nat.reduceLeDiff]
    refine CALL_det (frameFault_fc w (by omega)) (.inl rfl) ?_
    simp (maxSteps := 1000000) (disch := omega) only [go_sem, eq_self, decide_true, decide_false, not_true_eq_false, not_false_eq_true, reduceIte, reduceCtorEq, Nat.reduceEqDiff, Nat.reduceAdd, Nat.reduceSub, Nat.reduceLeDiff]
theorem beg_st (w : Bool) (r : List Sg) (i : Int) (p : List Ph) (m : Int) (h0 : 0 ≤ i) (hi : i < r.length) (hp : 0 < p.length) : begG w (r.drop i.toNat) p m = ((decide ((p.getD (0 : Int).toNat default).n = (r.getD i.toNat default).n) && (decide (m < (r.getD i.toNat default).k) && begG w (r.drop i.toNat) (p.drop 1) (m + 1))) || ((decide (m > 0) || (r.getD i.toNat default).o) && begG w (r.drop (i + 1).toNat) p 0)) := by
  have e2 : (i + 1).toNat = i.toNat + 1 := by omega
  cases p with
  | nil => simp at hp
  | cons x q => rw [e2, drop_cons r i.toNat (by omega), begG]; rfl
theorem beg_sn (r : List Sg) (i : Int) (m : Int) (h0 : 0 ≤ i) (hi : i < r.length) : begG true (r.drop i.toNat) [] m = ((decide (m > 0) || (r.getD i.toNat default).o) && begG true (r.drop (i + 1).toNat) [] 0) := by
  have e2 : (i + 1).toNat = i.toNat + 1 := by omega
  rw [e2, drop_cons r i.toNat (by omega), beg_nil]
def fooSt (r : List Sg) (p : List Ph) (i : Int) : AS := ⟨tabV [(0, sgsV false r), (1, phsV false p), (11, iv p.length), (12, iv i)], tabO [], tabO []⟩
end Go.Proofs.Ytggbcgldnjmobaa


/-
  Where a value is above a limit: Above.
-/
import Derived.Test.YtggbcgldnjmobaaDelB
import Derived.Test.YtggbcgldnjmobaaFrm
namespace Go.Proofs.Ytggbcgldnjmobaa
open Go Go.Ai
set_option linter.unusedSimpArgs false
set_option linter.unusedVariables false
set_option maxHeartbeats 4000000
def A_above : List Ann := [⟨(some ⟨[0,2,4], [4], []⟩), [], [], [], []⟩, ⟨(some ⟨[0,2,4,9], [4], []⟩), [], [], [], []⟩, ⟨(some ⟨[0,2,4,9,19], [4], []⟩), [], [], [], []⟩, ⟨(some ⟨[6,7,8], [], []⟩), [], [], [(6, 2)], []⟩, ⟨(some ⟨[0,2,4,22], [4], []⟩), [], [], [], []⟩, ⟨(some ⟨[6,7,8], [], []⟩), [], [], [(6, 2)], []⟩, ⟨(some ⟨[0,2,4,10], [4], []⟩), [(10, 66, 2)], [], [], []⟩, ⟨(some ⟨[0,2,4,10,11], [4], [10]⟩), [], [], [], []⟩, ⟨(some ⟨[2,10,11,25,26,27], [], [10]⟩), [], [], [], []⟩, ⟨(some ⟨[2,10,11,25,26,27,28], [], [10]⟩), [], [], [], []⟩, ⟨(some ⟨[2,10,11,13,25,26,27], [13], [10]⟩), [], [], [], []⟩, ⟨(some ⟨[2,10,11,13,25,26,27,34], [13], [10]⟩), [], [], [], []⟩, ⟨(some ⟨[2,10,11,13,25,26,27], [13], [10]⟩), [], [], [], []⟩, ⟨(some ⟨[2,10,11,13,14,25,26,27], [13], [10]⟩), [], [], [], []⟩, ⟨(some ⟨[2,10,11,13,14,25,26,27,54], [13], [10]⟩), [], [], [], []⟩, ⟨(some ⟨[2,10,11,25,26,27], [], [10]⟩), [], [], [], []⟩, ⟨(some ⟨[2,10,11,25,26,27], [], [10]⟩), [], [], [], []⟩, ⟨(some ⟨[2,10,11,25,26,27], [], [10]⟩), [], [], [], []⟩, ⟨(some ⟨[6,7,8], [], []⟩), [], [], [], []⟩]
def C_above : AC := (.seq (.reg false [⟨(some 4), none, .box (.t 1)⟩, ⟨(some 6), none, .mv (.v (.slice none 0 0))⟩, ⟨(some 7), none, .mv (.v (.int .i64 (0)))⟩, ⟨(some 8), none, .mv (.v (.int .i64 (0)))⟩] (some ⟨[0,2,4], [4], []⟩))
  (.seq (.seq (.reg false [⟨(some 15), none, .mv (.t 0)⟩, ⟨(some 16), none, .load true 2 (.t 4)⟩, ⟨(some 17), none, .call (.f 110) [(.t 15), (.t 16)]⟩, ⟨(some 9), none, .mv (.t 17)⟩] (some ⟨[0,2,4,9], [4], []⟩))
  (.seq (.reg false [⟨(some 18), none, .mv (.t 9)⟩, ⟨(some 19), none, .bin .neq (.t 18) (.v (.int .i64 (0)))⟩] (some ⟨[0,2,4,9,19], [4], []⟩))
  (.cond (.t 19)
  (.seq (.seq (.reg false [⟨(some 20), none, .mv (.t 9)⟩, ⟨(some 6), none, .mv (.v (.slice none 0 0))⟩, ⟨(some 7), none, .mv (.v (.int .i64 (0)))⟩, ⟨(some 8), none, .mv (.t 20)⟩] (some ⟨[6,7,8], [], []⟩))
  (.ty 6 2))
  .ret)
  .skip)))
  (.seq (.seq (.reg false [⟨(some 21), none, .mv (.t 2)⟩, ⟨(some 22), none, .call (.f 97) [(.t 21), (.v (.int .i64 (-1000000))), (.v (.int .i64 (1000000)))]⟩] (some ⟨[0,2,4,22], [4], []⟩))
  (.cond (.t 22)
  (.seq (.seq (.reg false [⟨(some 6), none, .mv (.v (.slice none 0 0))⟩, ⟨(some 7), none, .mv (.v (.int .i64 (0)))⟩, ⟨(some 8), none, .mv (.v (.int .i64 (1)))⟩] (some ⟨[6,7,8], [], []⟩))
  (.ty 6 2))
  .ret)
  .skip))
  (.seq (.seq (.reg false [⟨(some 10), none, .mv (.v (.slice none 0 0))⟩] (some ⟨[0,2,4,10], [4], []⟩))
  (.own 10 66 2))
  (.seq (.reg false [⟨(some 11), none, .mv (.v (.int .i64 (0)))⟩] (some ⟨[0,2,4,10,11], [4], [10]⟩))
  (.seq (.seq (.reg false [⟨(some 23), none, .mv (.t 0)⟩, ⟨(some 24), none, .load true 2 (.t 4)⟩, ⟨(some 25), none, .call (.f 114) [(.t 23), (.t 24)]⟩, ⟨(some 26), none, .len (.t 25)⟩, ⟨(some 27), none, .mv (.v (.int .i64 (0)))⟩] (some ⟨[2,10,11,25,26,27], [], [10]⟩))
  (.block 0 (.loop (.seq (.reg false [⟨(some 28), none, .bin .lss (.t 27) (.t 26)⟩] (some ⟨[2,10,11,25,26,27,28], [], [10]⟩))
  (.seq (.cond (.t 28)
  .skip
  (.exit 0))
  (.seq (.block 1 (.seq (.reg false [⟨(some 29), none, .iadr 4 (.t 25) (.t 27)⟩, ⟨(some 30), none, .load true 4 (.t 29)⟩, ⟨(some 13), none, .alloc [(.int .i64 (0)), (.int .i64 (0)), (.int .i64 (0)), (.int .i64 (0))]⟩, ⟨none, none, .store 4 (.t 13) (.t 30)⟩] (some ⟨[2,10,11,13,25,26,27], [13], [10]⟩))
  (.seq (.seq (.reg false [⟨(some 31), none, .fadr 2 (.t 13)⟩, ⟨(some 32), none, .load false 1 (.t 31)⟩, ⟨(some 33), none, .mv (.t 2)⟩, ⟨(some 34), none, .bin .leq (.t 32) (.t 33)⟩] (some ⟨[2,10,11,13,25,26,27,34], [13], [10]⟩))
  (.cond (.t 34)
  (.exit 1)
  .skip))
  (.seq (.reg false [⟨(some 35), none, .mv (.t 11)⟩, ⟨(some 36), none, .load true 4 (.t 13)⟩, ⟨(some 37), none, .call (.f 118) [(.t 36)]⟩, ⟨(some 38), none, .bin .add (.t 35) (.t 37)⟩, ⟨(some 11), none, .mv (.t 38)⟩] (some ⟨[2,10,11,13,25,26,27], [13], [10]⟩))
  (.seq (.reg false [⟨(some 39), none, .mv (.t 10)⟩, ⟨(some 40), none, .len (.t 39)⟩, ⟨(some 41), none, .bin .sub (.t 40) (.v (.int .i64 (1)))⟩, ⟨(some 14), none, .mv (.t 41)⟩] (some ⟨[2,10,11,13,14,25,26,27], [13], [10]⟩))
  (.seq (.reg true [⟨(some 42), none, .mv (.t 14)⟩, ⟨(some 43), none, .bin .geq (.t 42) (.v (.int .i64 (0)))⟩, ⟨(some 44), none, .mv (.t 43)⟩, ⟨(some 45), (some (44, true)), .mv (.t 10)⟩, ⟨(some 46), (some (44, true)), .mv (.t 14)⟩, ⟨(some 47), (some (44, true)), .iadr 2 (.t 45) (.t 46)⟩, ⟨(some 48), (some (44, true)), .fadr 1 (.t 47)⟩, ⟨(some 49), (some (44, true)), .load false 1 (.t 48)⟩, ⟨(some 50), (some (44, true)), .fadr 0 (.t 13)⟩, ⟨(some 51), (some (44, true)), .fadr 0 (.t 50)⟩, ⟨(some 52), (some (44, true)), .load false 1 (.t 51)⟩, ⟨(some 53), (some (44, true)), .bin .eql (.t 49) (.t 52)⟩, ⟨(some 54), none, .pick (.t 44) (.t 53) (.v (.bool false))⟩] (some ⟨[2,10,11,13,14,25,26,27,54], [13], [10]⟩))
  (.cond (.t 54)
  (.reg false [⟨(some 55), none, .mv (.t 10)⟩, ⟨(some 56), none, .mv (.t 14)⟩, ⟨(some 57), none, .fadr 0 (.t 13)⟩, ⟨(some 58), none, .fadr 1 (.t 57)⟩, ⟨(some 59), none, .load false 1 (.t 58)⟩, ⟨(some 60), none, .iadr 2 (.t 55) (.t 56)⟩, ⟨(some 61), none, .fadr 1 (.t 60)⟩, ⟨none, none, .store 1 (.t 61) (.t 59)⟩] (some ⟨[2,10,11,25,26,27], [], [10]⟩))
  (.reg false [⟨(some 62), none, .mv (.t 10)⟩, ⟨(some 63), none, .fadr 0 (.t 13)⟩, ⟨(some 64), none, .load true 2 (.t 63)⟩, ⟨(some 65), none, .bslice 2 1 [(.t 64)]⟩, ⟨(some 66), none, .append 66 2 16 (.t 62) (.t 65)⟩, ⟨(some 10), none, .mv (.t 66)⟩] (some ⟨[2,10,11,25,26,27], [], [10]⟩)))))))))
  (.reg false [⟨(some 67), none, .bin .add (.t 27) (.v (.int .i64 (1)))⟩, ⟨(some 27), none, .mv (.t 67)⟩] (some ⟨[2,10,11,25,26,27], [], [10]⟩))))))))
  (.seq (.reg false [⟨(some 68), none, .mv (.t 10)⟩, ⟨(some 69), none, .mv (.t 11)⟩, ⟨(some 6), none, .mv (.t 68)⟩, ⟨(some 7), none, .mv (.t 69)⟩, ⟨(some 8), none, .mv (.v (.int .i64 (0)))⟩] (some ⟨[6,7,8], [], []⟩))
  .ret)))))))
theorem c_above : compileCode Try.prog Try.f55.ntmps (Try.f55.body.getD .skip) A_above = some (C_above, []) := by kernel_rfl
theorem r_above : compileRes Try.prog Try.f55.results.toList = some [.t 6, .t 7, .t 8] := by kernel_rfl
theorem b_above : Try.f55.body = some (Try.f55.body.getD .skip) := by kernel_rfl
theorem n_above : (Try.f55.name == "runtime.NumGoroutine") = false := by kernel_rfl
theorem fc_above {xt : Option (List Cel)} {args : List Val} {R : List Cel → Val → Prop} (hn : (if xt.isSome then 1 else 0) + args.length ≤ Try.f55.ntmps) (h : ex Try.prog C_above [] (fpost xt [.t 6, .t 7, .t 8] R) (initSt xt args)) : FC Try.prog 55 xt args R :=
  fc_of_awp Try.func55 b_above n_above c_above r_above (of_decide_eq_true (by kernel_rfl)) hn h


def okPc (f t : Int) (p : Pc) : Prop := f ≤ p.f ∧ p.f < p.t ∧ p.t ≤ t ∧ (-1000000 ≤ p.v ∧ p.v ≤ 1000000) ∧ 0 ≤ p.q ∧ p.q ≤ 2
theorem pcs_ok (f t : Int) : ∀ l : List Smp, (∀ s ∈ l, okSmp s) → ∀ p ∈ pcsGo f t l, okPc f t p
  | [], _, p, h => by cases h
  | [s], hs, p, h => by
    have h1 := hs s (by simp)
    unfold okSmp at h1
    rw [pcsGo] at h
    split at h
    · simp only [List.mem_cons, List.not_mem_nil, or_false] at h
      subst h; unfold okPc; simp only; omega
    · cases h
  | s :: s' :: r, hs, p, h => by
    have h1 := hs s (by simp)
    unfold okSmp at h1
    rw [pcsGo, List.mem_append] at h
    rcases h with h | h
    · split at h
      · simp only [List.mem_cons, List.not_mem_nil, or_false] at h
        subst h; unfold okPc; simp only; omega
      · cases h
    · exact pcs_ok f t (s' :: r) (fun x hx => hs x (by simp [hx])) p h
theorem vals_ok (f t : Int) {l : List Smp} (hg : Good l) : ∀ p ∈ vals f t l, okPc f t p := fun p hp => pcs_ok f t l hg.all p (List.mem_filter.1 hp).1
theorem vals_len (f t : Int) (l : List Smp) : (vals f t l).length ≤ l.length := Nat.le_trans (List.length_filter_le _ _) (pcsGo_len f t l)
theorem long_fc (p : Pc) (h1 : -4611686018427387904 ≤ p.t - p.f) (h2 : p.t - p.f ≤ 4611686018427387904) : FC Try.prog 118 none [.ag (pcC p)] (fun _ r => r = iv (p.t - p.f)) := by
  refine fc_long (by simp +arith) ?_
  unfold C_long
  simp (maxSteps := 1000000) (disch := omega) only [go_sem, eq_self, decide_true, decide_false, not_true_eq_false, not_false_eq_true, reduceIte, reduceCtorEq, Nat.reduceEqDiff, Nat.reduceAdd, Nat.reduceSub, Nat.reduceLeDiff]
def abStep (L : Int) (x : List (Int × Int) × Int) (p : Pc) : List (Int × Int) × Int :=
  if p.v ≤ L then x else (if 1 ≤ x.1.length ∧ (x.1.getD ((x.1.length : Int) - 1).toNat default).2 = p.f then setTo x.1 p.t else x.1 ++ [(p.f, p.t)], x.2 + (p.t - p.f))
def abW (L f t : Int) (l : List Smp) : List (Int × Int) × Int := (vals f t l).foldl (abStep L) ([], 0)
def abvSp (l : List Smp) (f t L : Int) : List (Int × Int) × Int × Int :=
  if bothFault l f t ≠ 0 then ([], 0, bothFault l f t) else if limF L ≠ 0 then ([], 0, limF L) else ((abW L f t l).1, (abW L f t l).2, 0)
def abvSt (L : Int) (m : List Pc) (i : Int) (out : List (Int × Int)) (n : Int) : AS := ⟨tabV [(2, iv L), (10, .one (.ow 10 0)), (11, iv n), (25, pcsV true m), (26, iv m.length), (27, iv i)], tabO [], tabO [(10, winRow out)]⟩
theorem above_fc (l : List Smp) (hl : l.length ≤ 4611686018427387904) (f t L : Int) : FC Try.prog 55 none [smps false l, winV f t, iv L] (fun _ r => r = .tu [frsV true (abvSp l f t L).1, iv (abvSp l f t L).2.1, iv (abvSp l f t L).2.2]) := by
  refine fc_above (by simp +arith) ?_
  unfold C_above abvSp
  simp (maxSteps := 1000000) (disch := omega) only [go_sem, eq_self, decide_true, decide_false, not_true_eq_false, not_false_eq_true, reduceIte, reduceCtorEq, Nat.reduceEqDiff, Nat.reduceAdd, Nat.reduceSub, Nat.reduceLeDiff]
  refine CALL_det (fault_fc l hl f t) (.inl rfl) ?_
  by_cases h1 : bothFault l f t = 0
  · rw [if_neg (show ¬(bothFault l f t ≠ 0) by omega), h1]
    have hg := good_of (bothFault_ok h1).1
    have hw := winFault_ok (bothFault_ok h1).2
    have hlen := hg.len
    simp (maxSteps := 1000000) (disch := omega) only [go_sem, eq_self, decide_true, decide_false, not_true_eq_false, not_false_eq_true, reduceIte, reduceCtorEq, Nat.reduceEqDiff, Nat.reduceAdd, Nat.reduceSub, Nat.reduceLeDiff]
    refine CALL_det (out_fc _ _ _) (.inl rfl) ?_
    by_cases h4 : L < -1000000 ∨ L > 1000000
    · have h5 : limF L = 1 := by unfold limF; rw [if_neg (by omega)]
      rw [h5, if_pos (by simp), decide_eq_true h4]
      simp (maxSteps := 1000000) (disch := omega) only [go_sem, eq_self, decide_true, decide_false, not_true_eq_false, not_false_eq_true, reduceIte, reduceCtorEq, Nat.reduceEqDiff, Nat.reduceAdd, Nat.reduceSub, Nat.reduceLeDiff]
      rfl
    · have h5 : limF L = 0 := by unfold limF; rw [if_pos (by omega)]
      rw [h5, if_neg (by simp), decide_eq_false h4]
      simp (maxSteps := 1000000) (disch := omega) only [go_sem, eq_self, decide_true, decide_false, not_true_eq_false, not_false_eq_true, reduceIte, reduceCtorEq, Nat.reduceEqDiff, Nat.reduceAdd, Nat.reduceSub, Nat.reduceLeDiff]
      refine CALL_det (valued_fc l (by omega) f t) (.inl rfl) ?_
      have hok := vals_ok f t hg
      have hml := vals_len f t l
      unfold abW
      generalize vals f t l = m at *
      simp (maxSteps := 1000000) (disch := omega) only [go_sem, eq_self, decide_true, decide_false, not_true_eq_false, not_false_eq_true, reduceIte, reduceCtorEq, Nat.reduceEqDiff, Nat.reduceAdd, Nat.reduceSub, Nat.reduceLeDiff]
      refine ex_loop3 (abvSt L m) (fun i out n => 0 ≤ i ∧ i ≤ m.length ∧ out.length ≤ i ∧ 0 ≤ n ∧ n ≤ i * 345686400000 ∧ (m.drop i.toNat).foldl (abStep L) (out, n) = m.foldl (abStep L) ([], 0)) (fun i _ _ => (m.length - i).toNat) 0 [] 0 ⟨by omega, by omega, by simp, by omega, by omega, rfl⟩ rfl ?_
      rintro i out n ⟨g1, g2, g3, g4, g4', g5⟩
      unfold abvSt
      by_cases hi : i < m.length
      · have e2 : (i + 1).toNat = i.toNat + 1 := by omega
        have em := getD_map_at pcC m i [] g1 hi
        have hmi := hok _ (getD_mem m i.toNat (by omega))
        unfold okPc at hmi
        rw [drop_cons m i.toNat (by omega), List.foldl_cons, ← e2] at g5
        unfold abStep at g5
        by_cases c0 : (m.getD i.toNat default).v ≤ L
        · rw [if_pos c0] at g5
          simp (maxSteps := 1000000) (disch := omega) only [go_sem, eq_self, decide_true, decide_false, not_true_eq_false, not_false_eq_true, reduceIte, reduceCtorEq, Nat.reduceEqDiff, Nat.reduceAdd, Nat.reduceSub, Nat.reduceLeDiff]
          exact ⟨_, _, _, rfl, ⟨by omega, by omega, by omega, by omega, by omega, g5⟩, by omega⟩
        rw [if_neg c0] at g5
        simp (maxSteps := 1000000) (disch := omega) only [go_sem, eq_self, decide_true, decide_false, not_true_eq_false, not_false_eq_true, reduceIte, reduceCtorEq, Nat.reduceEqDiff, Nat.reduceAdd, Nat.reduceSub, Nat.reduceLeDiff]
        refine CALL_det (long_fc (m.getD i.toNat default) (by omega) (by omega)) (.inl rfl) ?_
        by_cases c1 : 1 ≤ out.length
        · have eo := getE_map_in frC out ((out.length : Int) - 1).toNat (by omega)
          by_cases c2 : (out.getD ((out.length : Int) - 1).toNat default).2 = (m.getD i.toNat default).f
          · rw [if_pos ⟨c1, c2⟩] at g5
            simp (maxSteps := 1000000) (disch := omega) only [go_sem, eq_self, decide_true, decide_false, not_true_eq_false, not_false_eq_true, reduceIte, reduceCtorEq, Nat.reduceEqDiff, Nat.reduceAdd, Nat.reduceSub, Nat.reduceLeDiff]
            exact ⟨i + 1, setTo out (m.getD i.toNat default).t, n + ((m.getD i.toNat default).t - (m.getD i.toNat default).f), by simp only [abvSt, winRow, setTo_map], ⟨by omega, by omega, by rw [setTo_len]; omega, by omega, by omega, g5⟩, by omega⟩
          · rw [if_neg (fun h => c2 h.2)] at g5
            simp (maxSteps := 1000000) (disch := omega) only [go_sem, eq_self, decide_true, decide_false, not_true_eq_false, not_false_eq_true, reduceIte, reduceCtorEq, Nat.reduceEqDiff, Nat.reduceAdd, Nat.reduceSub, Nat.reduceLeDiff]
            exact ⟨i + 1, out ++ [((m.getD i.toNat default).f, (m.getD i.toNat default).t)], n + ((m.getD i.toNat default).t - (m.getD i.toNat default).f), by simp only [abvSt, winRow, List.map_append, List.map_cons, List.map_nil, frC_eq], ⟨by omega, by omega, by simp; omega, by omega, by omega, g5⟩, by omega⟩
        · rw [if_neg (fun h => c1 h.1)] at g5
          have : out.length = 0 := by omega
          simp (maxSteps := 1000000) (disch := omega) only [go_sem, eq_self, decide_true, decide_false, not_true_eq_false, not_false_eq_true, reduceIte, reduceCtorEq, Nat.reduceEqDiff, Nat.reduceAdd, Nat.reduceSub, Nat.reduceLeDiff]
          exact ⟨i + 1, out ++ [((m.getD i.toNat default).f, (m.getD i.toNat default).t)], n + ((m.getD i.toNat default).t - (m.getD i.toNat default).f), by simp only [abvSt, winRow, List.map_append, List.map_cons, List.map_nil, frC_eq], ⟨by omega, by omega, by simp; omega, by omega, by omega, g5⟩, by omega⟩
      · rw [List.drop_eq_nil_of_le (by omega), List.foldl_nil] at g5
        rw [← g5]
        simp (maxSteps := 1000000) (disch := omega) only [go_sem, eq_self, decide_true, decide_false, not_true_eq_false, not_false_eq_true, reduceIte, reduceCtorEq, Nat.reduceEqDiff, Nat.reduceAdd, Nat.reduceSub, Nat.reduceLeDiff]
  · rw [if_pos (show bothFault l f t ≠ 0 by omega)]
    simp (maxSteps := 1000000) (disch := omega) only [go_sem, eq_self, decide_true, decide_false, not_true_eq_false, not_false_eq_true, reduceIte, reduceCtorEq, Nat.reduceEqDiff, Nat.reduceAdd, Nat.reduceSub, Nat.reduceLeDiff]
    rfl
end Go.Proofs.Ytggbcgldnjmobaa


/-
  A list of kept places is drawn, and checked by the reference.
-/
import Derived.Test.YtggbcgldnjmobaaStp
import Derived.Test.YtggbcgldnjmobaaGenB
namespace Go.Proofs.Ytggbcgldnjmobaa
open Go Go.Ai
set_option linter.unusedSimpArgs false
set_option linter.unusedVariables false
set_option maxHeartbeats 4000000
def A_keptList : List Ann := [⟨(some ⟨[0,1], [0], []⟩), [], [], [], []⟩, ⟨(some ⟨[0,1,5], [0], []⟩), [(5, 3, 1)], [], [], []⟩, ⟨(some ⟨[0,1,5,9,10], [0], [5]⟩), [], [], [], []⟩, ⟨(some ⟨[0,1,5,9,10,11], [0], [5]⟩), [], [], [], []⟩, ⟨(some ⟨[0,1,5,6,9,10], [0], [5]⟩), [], [], [], []⟩, ⟨(some ⟨[0,1,5,6,9,10,26], [0], [5]⟩), [], [], [], []⟩, ⟨(some ⟨[0,1,5,9,10], [0], [5]⟩), [], [], [], []⟩, ⟨(some ⟨[0,1,5,9,10], [0], [5]⟩), [], [], [], []⟩, ⟨(some ⟨[0,1,5,38], [0], [5]⟩), [], [], [], []⟩, ⟨(some ⟨[0,1,5,7], [0], [5]⟩), [], [], [], []⟩, ⟨(some ⟨[0,1,5], [0], [5]⟩), [], [], [], []⟩, ⟨(some ⟨[1,5,56], [0], [5]⟩), [], [], [], []⟩, ⟨(some ⟨[5], [0], []⟩), [], [], [], []⟩, ⟨(some ⟨[4], [0], []⟩), [], [], [], []⟩]
def C_keptList : AC := (.seq (.reg false [⟨(some 4), none, .mv (.v (.slice none 0 0))⟩] (some ⟨[0,1], [0], []⟩))
  (.seq (.seq (.reg false [⟨(some 5), none, .mv (.v (.slice none 0 0))⟩] (some ⟨[0,1,5], [0], []⟩))
  (.own 5 3 1))
  (.seq (.seq (.reg false [⟨(some 8), none, .mv (.t 1)⟩, ⟨(some 9), none, .len (.t 8)⟩, ⟨(some 10), none, .mv (.v (.int .i64 (0)))⟩] (some ⟨[0,1,5,9,10], [0], [5]⟩))
  (.block 0 (.loop (.seq (.reg false [⟨(some 11), none, .bin .lss (.t 10) (.t 9)⟩] (some ⟨[0,1,5,9,10,11], [0], [5]⟩))
  (.seq (.cond (.t 11)
  .skip
  (.exit 0))
  (.seq (.block 1 (.seq (.reg false [⟨(some 12), none, .mv (.t 10)⟩, ⟨(some 6), none, .mv (.t 12)⟩] (some ⟨[0,1,5,6,9,10], [0], [5]⟩))
  (.seq (.reg false [⟨(some 13), none, .mv (.t 6)⟩, ⟨(some 14), none, .bin .eql (.t 13) (.v (.int .i64 (0)))⟩, ⟨(some 15), none, .mv (.t 14)⟩, ⟨(some 16), (some (15, false)), .mv (.t 6)⟩, ⟨(some 17), (some (15, false)), .mv (.t 1)⟩, ⟨(some 18), (some (15, false)), .len (.t 17)⟩, ⟨(some 19), (some (15, false)), .bin .sub (.t 18) (.v (.int .i64 (1)))⟩, ⟨(some 20), (some (15, false)), .bin .eql (.t 16) (.t 19)⟩, ⟨(some 21), none, .pick (.t 15) (.v (.bool true)) (.t 20)⟩, ⟨(some 22), none, .mv (.t 21)⟩, ⟨(some 23), (some (22, false)), .mv (.t 0)⟩, ⟨(some 24), (some (22, false)), .callx (.f 21) [(.t 23), (.v (.int .i64 (3)))]⟩, ⟨(some 25), (some (22, false)), .un .not (.t 24)⟩, ⟨(some 26), none, .pick (.t 22) (.v (.bool true)) (.t 25)⟩] (some ⟨[0,1,5,6,9,10,26], [0], [5]⟩))
  (.cond (.t 26)
  (.reg false [⟨(some 27), none, .mv (.t 5)⟩, ⟨(some 28), none, .mv (.t 6)⟩, ⟨(some 29), none, .bslice 1 1 [(.t 28)]⟩, ⟨(some 30), none, .append 3 1 8 (.t 27) (.t 29)⟩, ⟨(some 5), none, .mv (.t 30)⟩] (some ⟨[0,1,5,9,10], [0], [5]⟩))
  .skip))))
  (.reg false [⟨(some 31), none, .bin .add (.t 10) (.v (.int .i64 (1)))⟩, ⟨(some 10), none, .mv (.t 31)⟩] (some ⟨[0,1,5,9,10], [0], [5]⟩))))))))
  (.seq (.seq (.reg false [⟨(some 32), none, .mv (.t 5)⟩, ⟨(some 33), none, .len (.t 32)⟩, ⟨(some 34), none, .bin .gtr (.t 33) (.v (.int .i64 (0)))⟩, ⟨(some 35), none, .mv (.t 34)⟩, ⟨(some 36), (some (35, true)), .mv (.t 0)⟩, ⟨(some 37), (some (35, true)), .callx (.f 21) [(.t 36), (.v (.int .i64 (12)))]⟩, ⟨(some 38), none, .pick (.t 35) (.t 37) (.v (.bool false))⟩] (some ⟨[0,1,5,38], [0], [5]⟩))
  (.cond (.t 38)
  (.seq (.reg false [⟨(some 39), none, .mv (.t 0)⟩, ⟨(some 40), none, .mv (.t 5)⟩, ⟨(some 41), none, .len (.t 40)⟩, ⟨(some 42), none, .callx (.f 44) [(.t 39), (.t 41)]⟩, ⟨(some 7), none, .mv (.t 42)⟩] (some ⟨[0,1,5,7], [0], [5]⟩))
  (.reg false [⟨(some 43), none, .mv (.t 5)⟩, ⟨(some 44), none, .mv (.t 7)⟩, ⟨(some 45), none, .mv (.t 0)⟩, ⟨(some 46), none, .mv (.t 5)⟩, ⟨(some 47), none, .mv (.t 7)⟩, ⟨(some 48), none, .iadr 1 (.t 46) (.t 47)⟩, ⟨(some 49), none, .load false 1 (.t 48)⟩, ⟨(some 50), none, .mv (.t 1)⟩, ⟨(some 51), none, .len (.t 50)⟩, ⟨(some 52), none, .bslice 1 4 [(.t 49), (.v (.int .i64 (-1))), (.t 51), (.v (.int .i64 (0)))]⟩, ⟨(some 53), none, .callx (.f 57) [(.t 45), (.t 52)]⟩, ⟨(some 54), none, .iadr 1 (.t 43) (.t 44)⟩, ⟨none, none, .store 1 (.t 54) (.t 53)⟩] (some ⟨[0,1,5], [0], [5]⟩)))
  .skip))
  (.seq (.seq (.reg false [⟨(some 55), none, .mv (.t 0)⟩, ⟨(some 56), none, .callx (.f 21) [(.t 55), (.v (.int .i64 (20)))]⟩] (some ⟨[1,5,56], [0], [5]⟩))
  (.cond (.t 56)
  (.reg false [⟨(some 57), none, .mv (.t 5)⟩, ⟨(some 58), none, .mv (.t 1)⟩, ⟨(some 59), none, .len (.t 58)⟩, ⟨(some 60), none, .bin .sub (.t 59) (.v (.int .i64 (1)))⟩, ⟨(some 61), none, .bslice 1 1 [(.t 60)]⟩, ⟨(some 62), none, .append 3 1 8 (.t 57) (.t 61)⟩, ⟨(some 5), none, .mv (.t 62)⟩] (some ⟨[5], [0], []⟩))
  .skip))
  (.seq (.reg false [⟨(some 63), none, .mv (.t 5)⟩, ⟨(some 4), none, .mv (.t 63)⟩] (some ⟨[4], [0], []⟩))
  .ret))))))
theorem c_keptList : compileCode Try.prog Try.f26.ntmps (Try.f26.body.getD .skip) A_keptList = some (C_keptList, []) := by kernel_rfl
theorem r_keptList : compileRes Try.prog Try.f26.results.toList = some [.t 4] := by kernel_rfl
theorem b_keptList : Try.f26.body = some (Try.f26.body.getD .skip) := by kernel_rfl
theorem n_keptList : (Try.f26.name == "runtime.NumGoroutine") = false := by kernel_rfl
theorem fc_keptList {xt : Option (List Cel)} {args : List Val} {R : List Cel → Val → Prop} (hn : (if xt.isSome then 1 else 0) + args.length ≤ Try.f26.ntmps) (h : ex Try.prog C_keptList [] (fpost xt [.t 4] R) (initSt xt args)) : FC Try.prog 26 xt args R :=
  fc_of_awp Try.func26 b_keptList n_keptList c_keptList r_keptList (of_decide_eq_true (by kernel_rfl)) hn h

def A_indicesFault : List Ann := [⟨(some ⟨[0,1], [], []⟩), [], [], [], []⟩, ⟨(some ⟨[0,1,11], [], []⟩), [], [], [], []⟩, ⟨(some ⟨[4], [], []⟩), [], [], [], []⟩, ⟨(some ⟨[0,1,12,13,14], [], []⟩), [], [], [], []⟩, ⟨(some ⟨[0,1,12,13,14,15], [], []⟩), [], [], [], []⟩, ⟨(some ⟨[0,1,5,6,12,13,14], [], []⟩), [], [], [], []⟩, ⟨(some ⟨[0,1,5,6,12,13,14,19], [], []⟩), [], [], [], []⟩, ⟨(some ⟨[4], [], []⟩), [], [], [], []⟩, ⟨(some ⟨[0,1,12,13,14,26], [], []⟩), [], [], [], []⟩, ⟨(some ⟨[4], [], []⟩), [], [], [], []⟩, ⟨(some ⟨[0,1,12,13,14], [], []⟩), [], [], [], []⟩, ⟨(some ⟨[4], [], []⟩), [], [], [], []⟩]
def C_indicesFault : AC := (.seq (.reg false [⟨(some 4), none, .mv (.v (.int .i64 (0)))⟩] (some ⟨[0,1], [], []⟩))
  (.seq (.seq (.reg false [⟨(some 7), none, .mv (.t 1)⟩, ⟨(some 8), none, .len (.t 7)⟩, ⟨(some 9), none, .mv (.t 0)⟩, ⟨(some 10), none, .len (.t 9)⟩, ⟨(some 11), none, .bin .gtr (.t 8) (.t 10)⟩] (some ⟨[0,1,11], [], []⟩))
  (.cond (.t 11)
  (.seq (.reg false [⟨(some 4), none, .mv (.v (.int .i64 (2)))⟩] (some ⟨[4], [], []⟩))
  .ret)
  .skip))
  (.seq (.seq (.reg false [⟨(some 12), none, .mv (.t 1)⟩, ⟨(some 13), none, .len (.t 12)⟩, ⟨(some 14), none, .mv (.v (.int .i64 (0)))⟩] (some ⟨[0,1,12,13,14], [], []⟩))
  (.block 0 (.loop (.seq (.reg false [⟨(some 15), none, .bin .lss (.t 14) (.t 13)⟩] (some ⟨[0,1,12,13,14,15], [], []⟩))
  (.seq (.cond (.t 15)
  .skip
  (.exit 0))
  (.seq (.block 1 (.seq (.reg false [⟨(some 16), none, .mv (.t 14)⟩, ⟨(some 17), none, .iadr 1 (.t 12) (.t 14)⟩, ⟨(some 18), none, .load false 1 (.t 17)⟩, ⟨(some 5), none, .mv (.t 16)⟩, ⟨(some 6), none, .mv (.t 18)⟩] (some ⟨[0,1,5,6,12,13,14], [], []⟩))
  (.block 2 (.seq (.reg false [⟨(some 20), none, .mv (.t 6)⟩, ⟨(some 21), none, .mv (.t 0)⟩, ⟨(some 22), none, .len (.t 21)⟩, ⟨(some 23), none, .bin .sub (.t 22) (.v (.int .i64 (1)))⟩, ⟨(some 24), none, .call (.f 88) [(.t 20), (.v (.int .i64 (0))), (.t 23)]⟩, ⟨(some 25), none, .un .not (.t 24)⟩, ⟨(some 19), none, .mv (.t 25)⟩] (some ⟨[0,1,5,6,12,13,14,19], [], []⟩))
  (.cond (.t 19)
  (.seq (.reg false [⟨(some 4), none, .mv (.v (.int .i64 (1)))⟩] (some ⟨[4], [], []⟩))
  .ret)
  (.seq (.reg false [⟨(some 27), none, .mv (.t 5)⟩, ⟨(some 28), none, .bin .gtr (.t 27) (.v (.int .i64 (0)))⟩, ⟨(some 29), none, .mv (.t 28)⟩, ⟨(some 30), (some (29, true)), .mv (.t 6)⟩, ⟨(some 31), (some (29, true)), .mv (.t 1)⟩, ⟨(some 32), (some (29, true)), .mv (.t 5)⟩, ⟨(some 33), (some (29, true)), .bin .sub (.t 32) (.v (.int .i64 (1)))⟩, ⟨(some 34), (some (29, true)), .iadr 1 (.t 31) (.t 33)⟩, ⟨(some 35), (some (29, true)), .load false 1 (.t 34)⟩, ⟨(some 36), (some (29, true)), .bin .leq (.t 30) (.t 35)⟩, ⟨(some 37), none, .pick (.t 29) (.t 36) (.v (.bool false))⟩, ⟨(some 26), none, .mv (.t 37)⟩] (some ⟨[0,1,12,13,14,26], [], []⟩))
  (.cond (.t 26)
  (.seq (.reg false [⟨(some 4), none, .mv (.v (.int .i64 (7)))⟩] (some ⟨[4], [], []⟩))
  .ret)
  .skip)))))))
  (.reg false [⟨(some 38), none, .bin .add (.t 14) (.v (.int .i64 (1)))⟩, ⟨(some 14), none, .mv (.t 38)⟩] (some ⟨[0,1,12,13,14], [], []⟩))))))))
  (.seq (.reg false [⟨(some 4), none, .mv (.v (.int .i64 (0)))⟩] (some ⟨[4], [], []⟩))
  .ret))))
theorem c_indicesFault : compileCode Try.prog Try.f35.ntmps (Try.f35.body.getD .skip) A_indicesFault = some (C_indicesFault, []) := by kernel_rfl
theorem r_indicesFault : compileRes Try.prog Try.f35.results.toList = some [.t 4] := by kernel_rfl
theorem b_indicesFault : Try.f35.body = some (Try.f35.body.getD .skip) := by kernel_rfl
theorem n_indicesFault : (Try.f35.name == "runtime.NumGoroutine") = false := by kernel_rfl
theorem fc_indicesFault {xt : Option (List Cel)} {args : List Val} {R : List Cel → Val → Prop} (hn : (if xt.isSome then 1 else 0) + args.length ≤ Try.f35.ntmps) (h : ex Try.prog C_indicesFault [] (fpost xt [.t 4] R) (initSt xt args)) : FC Try.prog 35 xt args R :=
  fc_of_awp Try.func35 b_indicesFault n_indicesFault c_indicesFault r_indicesFault (of_decide_eq_true (by kernel_rfl)) hn h


def klSt (L : List Int) (l : List Smp) (i q : Int) (out : List Int) : AS :=
  ⟨tabV [(0, .one (.bx 0 0)), (1, smps false l), (5, .one (.ow 5 0)), (9, iv l.length), (10, iv i)], tabO [(0, strm L q)], tabO [(5, ⟨0, 3, 1, out.map intC⟩)]⟩
theorem keptList_fc (l : List Smp) (hlen : l.length ≤ 1000) : Gen Try.prog 26 [smps false l] 2000 (fun r => ∃ k : List Int, k.length ≤ l.length + 1 ∧ (∀ x ∈ k, I64 x) ∧ r = ints true k) := by
  intro L p hL hl h0 hp
  refine fc_keptList (by simp +arith) ?_
  unfold C_keptList strm
  simp (maxSteps := 1000000) (disch := omega) only [go_sem, eq_self, decide_true, decide_false, not_true_eq_false, not_false_eq_true, reduceIte, reduceCtorEq, Nat.reduceEqDiff, Nat.reduceAdd, Nat.reduceSub, Nat.reduceLeDiff]
  refine ⟨by omega, ?_⟩
  refine ex_loop3 (klSt L l) (fun i q out => 0 ≤ i ∧ i ≤ l.length ∧ p ≤ q ∧ q ≤ p + i ∧ out.length ≤ i ∧ ∀ x ∈ out, 0 ≤ x ∧ x < l.length) (fun i _ _ => (l.length - i).toNat) 0 p [] ⟨by omega, by omega, by omega, by omega, by simp, by simp⟩ rfl ?_
  rintro i q out ⟨g1, g2, g3, g4, g5, g6⟩
  unfold klSt strm
  by_cases hi : i < l.length
  · have hap : ∀ x ∈ out ++ [i], 0 ≤ x ∧ x < (l.length : Int) := fun x hx => by
      simp only [List.mem_append, List.mem_cons, List.not_mem_nil, or_false] at hx
      rcases hx with hx | rfl
      · exact g6 x hx
      · exact ⟨g1, hi⟩
    by_cases c1 : i = 0
    · simp (maxSteps := 1000000) (disch := omega) only [go_sem, eq_self, decide_true, decide_false, not_true_eq_false, not_false_eq_true, reduceIte, reduceCtorEq, Nat.reduceEqDiff, Nat.reduceAdd, Nat.reduceSub, Nat.reduceLeDiff]
      exact ⟨i + 1, q, out ++ [i], by simp only [klSt, strm, List.map_append, List.map_cons, List.map_nil, intC_eq], ⟨by omega, by omega, by omega, by omega, by simp; omega, hap⟩, by omega⟩
    by_cases c2 : i = l.length - 1
    · simp (maxSteps := 1000000) (disch := omega) only [go_sem, eq_self, decide_true, decide_false, not_true_eq_false, not_false_eq_true, reduceIte, reduceCtorEq, Nat.reduceEqDiff, Nat.reduceAdd, Nat.reduceSub, Nat.reduceLeDiff]
      exact ⟨i + 1, q, out ++ [i], by simp only [klSt, strm, List.map_append, List.map_cons, List.map_nil, intC_eq], ⟨by omega, by omega, by omega, by omega, by simp; omega, hap⟩, by omega⟩
    · simp (maxSteps := 1000000) (disch := omega) only [go_sem, eq_self, decide_true, decide_false, not_true_eq_false, not_false_eq_true, reduceIte, reduceCtorEq, Nat.reduceEqDiff, Nat.reduceAdd, Nat.reduceSub, Nat.reduceLeDiff]
      refine callx_gen (flip_fc 3 (by omega) (by omega)) hL hl (by omega) (by omega) ⟨_, true, rfl⟩ ?_
      rintro pa r haa hba ⟨ba, rfl⟩
      refine ⟨rfl, ?_⟩
      unfold strm
      simp (maxSteps := 1000000) (disch := omega) only [go_sem, eq_self, decide_true, decide_false, not_true_eq_false, not_false_eq_true, reduceIte, reduceCtorEq, Nat.reduceEqDiff, Nat.reduceAdd, Nat.reduceSub, Nat.reduceLeDiff]
      refine ⟨fun hb => ?_, fun hb => ?_⟩
      · exact ⟨i + 1, pa, out ++ [i], by simp only [klSt, strm, List.map_append, List.map_cons, List.map_nil, intC_eq], ⟨by omega, by omega, by omega, by omega, by simp; omega, hap⟩, by omega⟩
      · exact ⟨i + 1, pa, out, rfl, ⟨by omega, by omega, by omega, by omega, by omega, g6⟩, by omega⟩
  · have g7 : ∀ x ∈ out, I64 x := fun x hx => by have := g6 x hx; unfold I64; omega
    have h7 : ∀ x ∈ out ++ [(l.length : Int) - 1], I64 x := fun x hx => by
      simp only [List.mem_append, List.mem_cons, List.not_mem_nil, or_false] at hx
      rcases hx with hx | rfl
      · exact g7 x hx
      · unfold I64; omega
    by_cases c1 : 0 < out.length
    · simp (maxSteps := 1000000) (disch := omega) only [go_sem, eq_self, decide_true, decide_false, not_true_eq_false, not_false_eq_true, reduceIte, reduceCtorEq, Nat.reduceEqDiff, Nat.reduceAdd, Nat.reduceSub, Nat.reduceLeDiff]
      refine callx_gen (flip_fc 12 (by omega) (by omega)) hL hl (by omega) (by omega) ⟨_, true, rfl⟩ ?_
      rintro pe r hae hbe ⟨be, rfl⟩
      refine ⟨rfl, ?_⟩
      unfold strm
      simp (maxSteps := 1000000) (disch := omega) only [go_sem, eq_self, decide_true, decide_false, not_true_eq_false, not_false_eq_true, reduceIte, reduceCtorEq, Nat.reduceEqDiff, Nat.reduceAdd, Nat.reduceSub, Nat.reduceLeDiff]
      refine ⟨fun hb => ?_, fun hb => ?_⟩
      ·
        refine callx_gen (next_fc out.length (by omega) (by omega)) hL hl (by omega) (by omega) ⟨_, 0, by omega, by omega, rfl⟩ ?_
        rintro pf r haf hbf ⟨zf, hzf, hyf, rfl⟩
        refine ⟨rfl, ?_⟩
        unfold strm
        simp (maxSteps := 1000000) (disch := omega) only [go_sem, eq_self, decide_true, decide_false, not_true_eq_false, not_false_eq_true, reduceIte, reduceCtorEq, Nat.reduceEqDiff, Nat.reduceAdd, Nat.reduceSub, Nat.reduceLeDiff]
        have gw := g6 _ (getD_mem out zf.toNat (by omega))
        have eo := getE_map_in intC out zf.toNat (by omega)
        refine callx_gen (pick_fc false [out.getD zf.toNat default, -1, (l.length : Int), 0] (by simp) (by simp)) hL hl (by omega) (by omega) ⟨_, (-1), by simp, rfl⟩ ?_
        rintro pg r hag hbg ⟨zg, hzg, rfl⟩
        refine ⟨rfl, ?_⟩
        unfold strm
        simp only [List.mem_cons, List.not_mem_nil, or_false] at hzg
        simp (maxSteps := 1000000) (disch := omega) only [go_sem, eq_self, decide_true, decide_false, not_true_eq_false, not_false_eq_true, reduceIte, reduceCtorEq, Nat.reduceEqDiff, Nat.reduceAdd, Nat.reduceSub, Nat.reduceLeDiff]
        have hg7 : ∀ x ∈ out.set zf.toNat zg, I64 x := fun x hx => by
          rcases List.mem_or_eq_of_mem_set hx with hx | rfl
          · exact g7 x hx
          · unfold I64; omega
        refine callx_gen (flip_fc 20 (by omega) (by omega)) hL hl (by omega) (by omega) ⟨_, true, rfl⟩ ?_
        rintro ph r hah hbh ⟨bh, rfl⟩
        refine ⟨rfl, ?_⟩
        unfold strm
        simp (maxSteps := 1000000) (disch := omega) only [go_sem, eq_self, decide_true, decide_false, not_true_eq_false, not_false_eq_true, reduceIte, reduceCtorEq, Nat.reduceEqDiff, Nat.reduceAdd, Nat.reduceSub, Nat.reduceLeDiff]
        refine ⟨fun hb => ?_, fun hb => ?_⟩
        · refine ⟨⟨by rw [List.length_set, List.length_map]; omega, by rw [List.length_set, List.length_map]; omega⟩, ⟨ph, by omega, by omega, rfl⟩, out.set zf.toNat zg ++ [(l.length : Int) - 1], by simp; omega, fun x hx => ?_, by simp [intC_eq, List.map_set, List.map_append, frE_set, frE_int, freshC]⟩
          simp only [List.mem_append, List.mem_cons, List.not_mem_nil, or_false] at hx
          rcases hx with hx | rfl
          · exact hg7 x hx
          · unfold I64; omega
        · exact ⟨⟨ph, by omega, by omega, rfl⟩, out.set zf.toNat zg, by simp; omega, hg7, by simp [intC_eq, List.map_set, frE_set, frE_int, freshC]⟩
      ·
        refine callx_gen (flip_fc 20 (by omega) (by omega)) hL hl (by omega) (by omega) ⟨_, true, rfl⟩ ?_
        rintro ph r hah hbh ⟨bh, rfl⟩
        refine ⟨rfl, ?_⟩
        unfold strm
        simp (maxSteps := 1000000) (disch := omega) only [go_sem, eq_self, decide_true, decide_false, not_true_eq_false, not_false_eq_true, reduceIte, reduceCtorEq, Nat.reduceEqDiff, Nat.reduceAdd, Nat.reduceSub, Nat.reduceLeDiff]
        refine ⟨fun hb => ?_, fun hb => ?_⟩
        · exact ⟨⟨ph, by omega, by omega, rfl⟩, out ++ [(l.length : Int) - 1], by simp; omega, h7, by simp [intC_eq]⟩
        · exact ⟨⟨ph, by omega, by omega, rfl⟩, out, by omega, g7, rfl⟩
    · simp (maxSteps := 1000000) (disch := omega) only [go_sem, eq_self, decide_true, decide_false, not_true_eq_false, not_false_eq_true, reduceIte, reduceCtorEq, Nat.reduceEqDiff, Nat.reduceAdd, Nat.reduceSub, Nat.reduceLeDiff]
      refine callx_gen (flip_fc 20 (by omega) (by omega)) hL hl (by omega) (by omega) ⟨_, true, rfl⟩ ?_
      rintro ph r hah hbh ⟨bh, rfl⟩
      refine ⟨rfl, ?_⟩
      unfold strm
      simp (maxSteps := 1000000) (disch := omega) only [go_sem, eq_self, decide_true, decide_false, not_true_eq_false, not_false_eq_true, reduceIte, reduceCtorEq, Nat.reduceEqDiff, Nat.reduceAdd, Nat.reduceSub, Nat.reduceLeDiff]
      refine ⟨fun hb => ?_, fun hb => ?_⟩
      · exact ⟨⟨ph, by omega, by omega, rfl⟩, out ++ [(l.length : Int) - 1], by simp; omega, h7, by simp [intC_eq]⟩
      · exact ⟨⟨ph, by omega, by omega, rfl⟩, out, by omega, g7, rfl⟩
def idxF (l : List Smp) (kept : List Int) : Int := if kept.length > l.length then 2 else kfGo l.length none kept
theorem kptF_idx (l : List Smp) (kept : List Int) : kptF l kept = if serFault l ≠ 0 then serFault l else idxF l kept := rfl
def ifSt (l : List Smp) (kept : List Int) (i : Int) : AS := ⟨tabV [(0, smps false l), (1, ints false kept), (12, ints false kept), (13, iv kept.length), (14, iv i)], tabO [], tabO []⟩
theorem indicesFault_fc (l : List Smp) (hl : l.length ≤ 4611686018427387904) (kept : List Int) (hk : kept.length ≤ 4611686018427387904) : FC Try.prog 35 none [smps false l, ints false kept] (fun _ r => r = iv (idxF l kept)) := by
  refine fc_indicesFault (by simp +arith) ?_
  unfold C_indicesFault idxF
  by_cases h : kept.length > l.length
  · rw [if_pos h]
    simp (maxSteps := 1000000) (disch := omega) only [go_sem, eq_self, decide_true, decide_false, not_true_eq_false, not_false_eq_true, reduceIte, reduceCtorEq, Nat.reduceEqDiff, Nat.reduceAdd, Nat.reduceSub, Nat.reduceLeDiff]
  rw [if_neg h]
  simp (maxSteps := 1000000) (disch := omega) only [go_sem, eq_self, decide_true, decide_false, not_true_eq_false, not_false_eq_true, reduceIte, reduceCtorEq, Nat.reduceEqDiff, Nat.reduceAdd, Nat.reduceSub, Nat.reduceLeDiff]
  refine ex_loop1 (ifSt l kept) (fun i => 0 ≤ i ∧ i ≤ kept.length ∧ kfGo l.length (prvI kept i) (kept.drop i.toNat) = kfGo l.length none kept) (fun i => (kept.length - i).toNat) 0 ⟨by omega, by omega, rfl⟩ rfl ?_
  rintro i ⟨g1, g2, g3⟩
  unfold ifSt
  by_cases hi : i < kept.length
  · have em := getD_map_at intC kept i [] g1 hi
    rw [kfGo_step l.length kept i g1 hi] at g3
    by_cases c1 : kept.getD i.toNat default < 0 ∨ kept.getD i.toNat default > l.length - 1
    · rw [if_pos c1] at g3
      rw [← g3]
      simp (maxSteps := 1000000) (disch := omega) only [go_sem, eq_self, decide_true, decide_false, not_true_eq_false, not_false_eq_true, reduceIte, reduceCtorEq, Nat.reduceEqDiff, Nat.reduceAdd, Nat.reduceSub, Nat.reduceLeDiff]
      refine CALL_det (rin1_fc _ _ _) (.inl rfl) ?_
      rw [decide_eq_false (show ¬(0 ≤ kept.getD i.toNat default ∧ kept.getD i.toNat default ≤ (l.length : Int) - 1) by omega)]
      simp (maxSteps := 1000000) (disch := omega) only [go_sem, eq_self, decide_true, decide_false, not_true_eq_false, not_false_eq_true, reduceIte, reduceCtorEq, Nat.reduceEqDiff, Nat.reduceAdd, Nat.reduceSub, Nat.reduceLeDiff]
    · rw [if_neg c1] at g3
      by_cases c2 : 0 < i
      · by_cases c3 : kept.getD i.toNat default ≤ kept.getD (i - 1).toNat default
        · rw [if_pos ⟨c2, c3⟩] at g3
          rw [← g3]
          simp (maxSteps := 1000000) (disch := omega) only [go_sem, eq_self, decide_true, decide_false, not_true_eq_false, not_false_eq_true, reduceIte, reduceCtorEq, Nat.reduceEqDiff, Nat.reduceAdd, Nat.reduceSub, Nat.reduceLeDiff]
          refine CALL_det (rin1_fc _ _ _) (.inl rfl) ?_
          rw [decide_eq_true (show (0 ≤ kept.getD i.toNat default ∧ kept.getD i.toNat default ≤ (l.length : Int) - 1) by omega)]
          simp (maxSteps := 1000000) (disch := omega) only [go_sem, eq_self, decide_true, decide_false, not_true_eq_false, not_false_eq_true, reduceIte, reduceCtorEq, Nat.reduceEqDiff, Nat.reduceAdd, Nat.reduceSub, Nat.reduceLeDiff]
        · rw [if_neg (fun h => c3 h.2)] at g3
          simp (maxSteps := 1000000) (disch := omega) only [go_sem, eq_self, decide_true, decide_false, not_true_eq_false, not_false_eq_true, reduceIte, reduceCtorEq, Nat.reduceEqDiff, Nat.reduceAdd, Nat.reduceSub, Nat.reduceLeDiff]
          refine CALL_det (rin1_fc _ _ _) (.inl rfl) ?_
          rw [decide_eq_true (show (0 ≤ kept.getD i.toNat default ∧ kept.getD i.toNat default ≤ (l.length : Int) - 1) by omega)]
          simp (maxSteps := 1000000) (disch := omega) only [go_sem, eq_self, decide_true, decide_false, not_true_eq_false, not_false_eq_true, reduceIte, reduceCtorEq, Nat.reduceEqDiff, Nat.reduceAdd, Nat.reduceSub, Nat.reduceLeDiff]
          exact ⟨i + 1, rfl, ⟨by omega, by omega, g3⟩, by omega⟩
      · rw [if_neg (fun h => c2 h.1)] at g3
        simp (maxSteps := 1000000) (disch := omega) only [go_sem, eq_self, decide_true, decide_false, not_true_eq_false, not_false_eq_true, reduceIte, reduceCtorEq, Nat.reduceEqDiff, Nat.reduceAdd, Nat.reduceSub, Nat.reduceLeDiff]
        refine CALL_det (rin1_fc _ _ _) (.inl rfl) ?_
        rw [decide_eq_true (show (0 ≤ kept.getD i.toNat default ∧ kept.getD i.toNat default ≤ (l.length : Int) - 1) by omega)]
        simp (maxSteps := 1000000) (disch := omega) only [go_sem, eq_self, decide_true, decide_false, not_true_eq_false, not_false_eq_true, reduceIte, reduceCtorEq, Nat.reduceEqDiff, Nat.reduceAdd, Nat.reduceSub, Nat.reduceLeDiff]
        exact ⟨i + 1, rfl, ⟨by omega, by omega, g3⟩, by omega⟩
  · rw [List.drop_eq_nil_of_le (by omega), kfGo] at g3
    rw [← g3]
    simp (maxSteps := 1000000) (disch := omega) only [go_sem, eq_self, decide_true, decide_false, not_true_eq_false, not_false_eq_true, reduceIte, reduceCtorEq, Nat.reduceEqDiff, Nat.reduceAdd, Nat.reduceSub, Nat.reduceLeDiff]
end Go.Proofs.Ytggbcgldnjmobaa


/-
  A recipe of a stream.
-/
import Derived.Test.YtmbpfhpdicjpcaaFol
import Derived.Test.YtmbpfhpdicjpcaaGenB
namespace Go.Proofs.Ytmbpfhpdicjpcaa
open Go Go.Ai
set_option linter.unusedSimpArgs false
set_option linter.unusedVariables false
set_option maxHeartbeats 4000000
def A_recipeOf : List Ann := [⟨(some ⟨[0], [0], []⟩), [], [], [], []⟩, ⟨(some ⟨[0,3], [0], []⟩), [(3, 143, 3)], [], [], []⟩, ⟨(some ⟨[0,3,7,8,9], [0], [3]⟩), [], [], [], []⟩, ⟨(some ⟨[0,3,7,8,9,10], [0], [3]⟩), [], [], [], []⟩, ⟨(some ⟨[0,3,5,7,8,9], [0], [3]⟩), [], [], [], []⟩, ⟨(some ⟨[0,3,5,7,8,9,15], [0], [3]⟩), [], [], [], []⟩, ⟨(some ⟨[0,3,7,8,9], [0], [3]⟩), [], [], [], []⟩, ⟨(some ⟨[0,3,7,8,9], [0], [3]⟩), [], [], [], []⟩, ⟨(some ⟨[0,3,33], [0], [3]⟩), [], [], [], []⟩, ⟨(some ⟨[0,3,6], [0], [3]⟩), [], [], [], []⟩, ⟨(some ⟨[3], [0], []⟩), [], [], [], []⟩, ⟨(some ⟨[2], [0], []⟩), [], [], [], []⟩]
def C_recipeOf : AC := (.seq (.reg false [⟨(some 2), none, .mv (.v (.slice none 0 0))⟩] (some ⟨[0], [0], []⟩))
  (.seq (.seq (.reg false [⟨(some 3), none, .mv (.v (.slice none 0 0))⟩] (some ⟨[0,3], [0], []⟩))
  (.own 3 143 3))
  (.seq (.seq (.reg false [⟨(some 7), none, .bslice 1 3 [(.v (.int .i64 (1))), (.v (.int .i64 (2))), (.v (.int .i64 (3)))]⟩, ⟨(some 8), none, .len (.t 7)⟩, ⟨(some 9), none, .mv (.v (.int .i64 (0)))⟩] (some ⟨[0,3,7,8,9], [0], [3]⟩))
  (.block 0 (.loop (.seq (.reg false [⟨(some 10), none, .bin .lss (.t 9) (.t 8)⟩] (some ⟨[0,3,7,8,9,10], [0], [3]⟩))
  (.seq (.cond (.t 10)
  .skip
  (.exit 0))
  (.seq (.block 1 (.seq (.reg false [⟨(some 11), none, .iadr 1 (.t 7) (.t 9)⟩, ⟨(some 12), none, .load false 1 (.t 11)⟩, ⟨(some 5), none, .mv (.t 12)⟩] (some ⟨[0,3,5,7,8,9], [0], [3]⟩))
  (.seq (.reg false [⟨(some 13), none, .mv (.t 0)⟩, ⟨(some 14), none, .callx (.f 38) [(.t 13), (.v (.int .i64 (5)))]⟩, ⟨(some 15), none, .un .not (.t 14)⟩] (some ⟨[0,3,5,7,8,9,15], [0], [3]⟩))
  (.cond (.t 15)
  (.reg false [⟨(some 16), none, .mv (.t 3)⟩, ⟨(some 17), none, .mv (.t 5)⟩, ⟨(some 18), none, .mv (.t 0)⟩, ⟨(some 19), none, .callx (.f 38) [(.t 18), (.v (.int .i64 (3)))]⟩, ⟨(some 20), none, .mv (.t 0)⟩, ⟨(some 21), none, .bslice 1 4 [(.v (.int .i64 (1))), (.v (.int .i64 (1))), (.v (.int .i64 (2))), (.v (.int .i64 (3)))]⟩, ⟨(some 22), none, .callx (.f 17) [(.t 20), (.t 21)]⟩, ⟨(some 23), none, .build [(.int .i64 (0)), (.bool false), (.int .i64 (0))] [(0, 1, (.t 17)), (1, 1, (.t 19)), (2, 1, (.t 22))]⟩, ⟨(some 24), none, .bslice 3 1 [(.t 23)]⟩, ⟨(some 25), none, .append 143 3 24 (.t 16) (.t 24)⟩, ⟨(some 3), none, .mv (.t 25)⟩] (some ⟨[0,3,7,8,9], [0], [3]⟩))
  .skip))))
  (.reg false [⟨(some 26), none, .bin .add (.t 9) (.v (.int .i64 (1)))⟩, ⟨(some 9), none, .mv (.t 26)⟩] (some ⟨[0,3,7,8,9], [0], [3]⟩))))))))
  (.seq (.seq (.reg false [⟨(some 27), none, .mv (.t 3)⟩, ⟨(some 28), none, .len (.t 27)⟩, ⟨(some 29), none, .bin .gtr (.t 28) (.v (.int .i64 (0)))⟩, ⟨(some 30), none, .mv (.t 29)⟩, ⟨(some 31), (some (30, true)), .mv (.t 0)⟩, ⟨(some 32), (some (30, true)), .callx (.f 38) [(.t 31), (.v (.int .i64 (12)))]⟩, ⟨(some 33), none, .pick (.t 30) (.t 32) (.v (.bool false))⟩] (some ⟨[0,3,33], [0], [3]⟩))
  (.cond (.t 33)
  (.seq (.reg false [⟨(some 34), none, .mv (.t 3)⟩, ⟨(some 35), none, .mv (.t 0)⟩, ⟨(some 36), none, .mv (.t 3)⟩, ⟨(some 37), none, .len (.t 36)⟩, ⟨(some 38), none, .callx (.f 94) [(.t 35), (.t 37)]⟩, ⟨(some 39), none, .iadr 3 (.t 34) (.t 38)⟩, ⟨(some 6), none, .mv (.t 39)⟩] (some ⟨[0,3,6], [0], [3]⟩))
  (.reg false [⟨(some 40), none, .mv (.t 6)⟩, ⟨(some 41), none, .mv (.t 6)⟩, ⟨(some 42), none, .mv (.t 0)⟩, ⟨(some 43), none, .mv (.t 6)⟩, ⟨(some 44), none, .nilchk (.t 43)⟩, ⟨(some 45), none, .fadr 0 (.t 44)⟩, ⟨(some 46), none, .load false 1 (.t 45)⟩, ⟨(some 47), none, .bslice 1 4 [(.t 46), (.v (.int .i64 (-1))), (.v (.int .i64 (1))), (.v (.int .i64 (2)))]⟩, ⟨(some 48), none, .callx (.f 17) [(.t 42), (.t 47)]⟩, ⟨(some 49), none, .mv (.t 0)⟩, ⟨(some 50), none, .callx (.f 93) [(.t 49), (.v (.int .i64 (1))), (.v (.int .i64 (100)))]⟩, ⟨(some 51), none, .nilchk (.t 40)⟩, ⟨(some 52), none, .fadr 0 (.t 51)⟩, ⟨none, none, .store 1 (.t 52) (.t 48)⟩, ⟨(some 53), none, .nilchk (.t 41)⟩, ⟨(some 54), none, .fadr 2 (.t 53)⟩, ⟨none, none, .store 1 (.t 54) (.t 50)⟩] (some ⟨[3], [0], []⟩)))
  .skip))
  (.seq (.reg false [⟨(some 55), none, .mv (.t 3)⟩, ⟨(some 2), none, .mv (.t 55)⟩] (some ⟨[2], [0], []⟩))
  .ret)))))
theorem c_recipeOf : compileCode Try.prog Try.f78.ntmps (Try.f78.body.getD .skip) A_recipeOf = some (C_recipeOf, []) := by kernel_rfl
theorem r_recipeOf : compileRes Try.prog Try.f78.results.toList = some [.t 2] := by kernel_rfl
theorem b_recipeOf : Try.f78.body = some (Try.f78.body.getD .skip) := by kernel_rfl
theorem n_recipeOf : (Try.f78.name == "runtime.NumGoroutine") = false := by kernel_rfl
theorem fc_recipeOf {xt : Option (List Cel)} {args : List Val} {R : List Cel → Val → Prop} (hn : (if xt.isSome then 1 else 0) + args.length ≤ Try.f78.ntmps) (h : ex Try.prog C_recipeOf [] (fpost xt [.t 2] R) (initSt xt args)) : FC Try.prog 78 xt args R :=
  fc_of_awp Try.func78 b_recipeOf n_recipeOf c_recipeOf r_recipeOf (of_decide_eq_true (by kernel_rfl)) hn h


abbrev sgRow (l : List Sg) : Row := ⟨0, 143, 3, l.map sgC⟩
theorem getE_set_mapR {α β : Type} (f : α → β) (l : List α) (i : Nat) (x : β) (h : i < l.length) : ((l.map f).set i x)[i]? = some x := by
  simp [h]
def rcpSt (L : List Int) (i q : Int) (out : List Sg) : AS :=
  ⟨tabV [(0, .one (.bx 0 0)), (3, .one (.ow 3 0)), (7, ints true [1, 2, 3]), (8, iv 3), (9, iv i)], tabO [(0, strm L q)], tabO [(3, sgRow out)]⟩
theorem recipeOf_fc : Gen Try.prog 78 [] 20 (fun r => ∃ l : List Sg, l.length ≤ 3 ∧ r = sgsV true l) := by
  intro L p hL hl h0 hp
  refine fc_recipeOf (by simp +arith) ?_
  unfold C_recipeOf strm
  simp (maxSteps := 1000000) (disch := omega) only [go_sem, eq_self, decide_true, decide_false, not_true_eq_false, not_false_eq_true, reduceIte, reduceCtorEq, Nat.reduceEqDiff, Nat.reduceAdd, Nat.reduceSub, Nat.reduceLeDiff]
  refine ex_loop3 (rcpSt L) (fun i q out => 0 ≤ i ∧ i ≤ 3 ∧ out.length ≤ i ∧ p ≤ q ∧ q ≤ p + 3 * i) (fun i _ _ => (3 - i).toNat) 0 p [] ⟨by omega, by omega, by simp, by omega, by omega⟩ rfl ?_
  rintro i q out ⟨g1, g2, g3, g4, g5⟩
  unfold rcpSt strm
  by_cases hi : i < 3
  · rcases (show i = 0 ∨ i = 1 ∨ i = 2 by omega) with rfl | rfl | rfl
    · have em : ([[Cel.g (Value.int IntKind.i64 1)], [Cel.g (Value.int IntKind.i64 2)], [Cel.g (Value.int IntKind.i64 3)]] : List (List Cel)).getD (Int.toNat 0) [] = [Cel.g (Value.int IntKind.i64 1)] := rfl
      simp (maxSteps := 1000000) (disch := omega) only [go_sem, eq_self, decide_true, decide_false, not_true_eq_false, not_false_eq_true, reduceIte, reduceCtorEq, Nat.reduceEqDiff, Nat.reduceAdd, Nat.reduceSub, Nat.reduceLeDiff]
      rw [em]
      simp (maxSteps := 1000000) (disch := omega) only [go_sem, eq_self, decide_true, decide_false, not_true_eq_false, not_false_eq_true, reduceIte, reduceCtorEq, Nat.reduceEqDiff, Nat.reduceAdd, Nat.reduceSub, Nat.reduceLeDiff]
      refine callx_gen (flip_fc 5 (by omega) (by omega)) hL hl (by omega) (by omega) ⟨_, true, rfl⟩ ?_
      rintro pa r haa hba ⟨ba, rfl⟩
      refine ⟨rfl, ?_⟩
      unfold strm
      simp (maxSteps := 1000000) (disch := omega) only [go_sem, eq_self, decide_true, decide_false, not_true_eq_false, not_false_eq_true, reduceIte, reduceCtorEq, Nat.reduceEqDiff, Nat.reduceAdd, Nat.reduceSub, Nat.reduceLeDiff]
      refine ⟨fun hb => ?_, fun hb => ?_⟩
      ·
        refine callx_gen (flip_fc 3 (by omega) (by omega)) hL hl (by omega) (by omega) ⟨_, true, rfl⟩ ?_
        rintro pb r hab hbb ⟨bb, rfl⟩
        refine ⟨rfl, ?_⟩
        unfold strm
        simp (maxSteps := 1000000) (disch := omega) only [go_sem, eq_self, decide_true, decide_false, not_true_eq_false, not_false_eq_true, reduceIte, reduceCtorEq, Nat.reduceEqDiff, Nat.reduceAdd, Nat.reduceSub, Nat.reduceLeDiff]
        refine callx_gen (pick_fc false [1, 1, 2, 3] (by simp) (by simp)) hL hl (by omega) (by omega) ⟨_, 1, by simp, rfl⟩ ?_
        rintro pc r hac hbc ⟨zc, hzc, rfl⟩
        refine ⟨rfl, ?_⟩
        unfold strm
        simp only [List.mem_cons, List.not_mem_nil, or_false] at hzc
        simp (maxSteps := 1000000) (disch := omega) only [go_sem, eq_self, decide_true, decide_false, not_true_eq_false, not_false_eq_true, reduceIte, reduceCtorEq, Nat.reduceEqDiff, Nat.reduceAdd, Nat.reduceSub, Nat.reduceLeDiff]
        exact ⟨1, pc, out ++ [⟨1, bb, zc⟩], by simp only [rcpSt, strm, sgRow, List.map_append, List.map_cons, List.map_nil, sgC_eq]; rfl, ⟨by omega, by omega, by simp; omega, by omega, by omega⟩, by omega⟩
      · exact ⟨1, pa, out, rfl, ⟨by omega, by omega, by omega, by omega, by omega⟩, by omega⟩
    · have em : ([[Cel.g (Value.int IntKind.i64 1)], [Cel.g (Value.int IntKind.i64 2)], [Cel.g (Value.int IntKind.i64 3)]] : List (List Cel)).getD (Int.toNat 1) [] = [Cel.g (Value.int IntKind.i64 2)] := rfl
      simp (maxSteps := 1000000) (disch := omega) only [go_sem, eq_self, decide_true, decide_false, not_true_eq_false, not_false_eq_true, reduceIte, reduceCtorEq, Nat.reduceEqDiff, Nat.reduceAdd, Nat.reduceSub, Nat.reduceLeDiff]
      rw [em]
      simp (maxSteps := 1000000) (disch := omega) only [go_sem, eq_self, decide_true, decide_false, not_true_eq_false, not_false_eq_true, reduceIte, reduceCtorEq, Nat.reduceEqDiff, Nat.reduceAdd, Nat.reduceSub, Nat.reduceLeDiff]
      refine callx_gen (flip_fc 5 (by omega) (by omega)) hL hl (by omega) (by omega) ⟨_, true, rfl⟩ ?_
      rintro pa r haa hba ⟨ba, rfl⟩
      refine ⟨rfl, ?_⟩
      unfold strm
      simp (maxSteps := 1000000) (disch := omega) only [go_sem, eq_self, decide_true, decide_false, not_true_eq_false, not_false_eq_true, reduceIte, reduceCtorEq, Nat.reduceEqDiff, Nat.reduceAdd, Nat.reduceSub, Nat.reduceLeDiff]
      refine ⟨fun hb => ?_, fun hb => ?_⟩
      ·
        refine callx_gen (flip_fc 3 (by omega) (by omega)) hL hl (by omega) (by omega) ⟨_, true, rfl⟩ ?_
        rintro pb r hab hbb ⟨bb, rfl⟩
        refine ⟨rfl, ?_⟩
        unfold strm
        simp (maxSteps := 1000000) (disch := omega) only [go_sem, eq_self, decide_true, decide_false, not_true_eq_false, not_false_eq_true, reduceIte, reduceCtorEq, Nat.reduceEqDiff, Nat.reduceAdd, Nat.reduceSub, Nat.reduceLeDiff]
        refine callx_gen (pick_fc false [1, 1, 2, 3] (by simp) (by simp)) hL hl (by omega) (by omega) ⟨_, 1, by simp, rfl⟩ ?_
        rintro pc r hac hbc ⟨zc, hzc, rfl⟩
        refine ⟨rfl, ?_⟩
        unfold strm
        simp only [List.mem_cons, List.not_mem_nil, or_false] at hzc
        simp (maxSteps := 1000000) (disch := omega) only [go_sem, eq_self, decide_true, decide_false, not_true_eq_false, not_false_eq_true, reduceIte, reduceCtorEq, Nat.reduceEqDiff, Nat.reduceAdd, Nat.reduceSub, Nat.reduceLeDiff]
        exact ⟨2, pc, out ++ [⟨2, bb, zc⟩], by simp only [rcpSt, strm, sgRow, List.map_append, List.map_cons, List.map_nil, sgC_eq]; rfl, ⟨by omega, by omega, by simp; omega, by omega, by omega⟩, by omega⟩
      · exact ⟨2, pa, out, rfl, ⟨by omega, by omega, by omega, by omega, by omega⟩, by omega⟩
    · have em : ([[Cel.g (Value.int IntKind.i64 1)], [Cel.g (Value.int IntKind.i64 2)], [Cel.g (Value.int IntKind.i64 3)]] : List (List Cel)).getD (Int.toNat 2) [] = [Cel.g (Value.int IntKind.i64 3)] := rfl
      simp (maxSteps := 1000000) (disch := omega) only [go_sem, eq_self, decide_true, decide_false, not_true_eq_false, not_false_eq_true, reduceIte, reduceCtorEq, Nat.reduceEqDiff, Nat.reduceAdd, Nat.reduceSub, Nat.reduceLeDiff]
      rw [em]
      simp (maxSteps := 1000000) (disch := omega) only [go_sem, eq_self, decide_true, decide_false, not_true_eq_false, not_false_eq_true, reduceIte, reduceCtorEq, Nat.reduceEqDiff, Nat.reduceAdd, Nat.reduceSub, Nat.reduceLeDiff]
      refine callx_gen (flip_fc 5 (by omega) (by omega)) hL hl (by omega) (by omega) ⟨_, true, rfl⟩ ?_
      rintro pa r haa hba ⟨ba, rfl⟩
      refine ⟨rfl, ?_⟩
      unfold strm
      simp (maxSteps := 1000000) (disch := omega) only [go_sem, eq_self, decide_true, decide_false, not_true_eq_false, not_false_eq_true, reduceIte, reduceCtorEq, Nat.reduceEqDiff, Nat.reduceAdd, Nat.reduceSub, Nat.reduceLeDiff]
      refine ⟨fun hb => ?_, fun hb => ?_⟩
      ·
        refine callx_gen (flip_fc 3 (by omega) (by omega)) hL hl (by omega) (by omega) ⟨_, true, rfl⟩ ?_
        rintro pb r hab hbb ⟨bb, rfl⟩
        refine ⟨rfl, ?_⟩
        unfold strm
        simp (maxSteps := 1000000) (disch := omega) only [go_sem, eq_self, decide_true, decide_false, not_true_eq_false, not_false_eq_true, reduceIte, reduceCtorEq, Nat.reduceEqDiff, Nat.reduceAdd, Nat.reduceSub, Nat.reduceLeDiff]
        refine callx_gen (pick_fc false [1, 1, 2, 3] (by simp) (by simp)) hL hl (by omega) (by omega) ⟨_, 1, by simp, rfl⟩ ?_
        rintro pc r hac hbc ⟨zc, hzc, rfl⟩
        refine ⟨rfl, ?_⟩
        unfold strm
        simp only [List.mem_cons, List.not_mem_nil, or_false] at hzc
        simp (maxSteps := 1000000) (disch := omega) only [go_sem, eq_self, decide_true, decide_false, not_true_eq_false, not_false_eq_true, reduceIte, reduceCtorEq, Nat.reduceEqDiff, Nat.reduceAdd, Nat.reduceSub, Nat.reduceLeDiff]
        exact ⟨3, pc, out ++ [⟨3, bb, zc⟩], by simp only [rcpSt, strm, sgRow, List.map_append, List.map_cons, List.map_nil, sgC_eq]; rfl, ⟨by omega, by omega, by simp; omega, by omega, by omega⟩, by omega⟩
      · exact ⟨3, pa, out, rfl, ⟨by omega, by omega, by omega, by omega, by omega⟩, by omega⟩
  · by_cases c1 : 0 < out.length
    · simp (maxSteps := 1000000) (disch := omega) only [go_sem, eq_self, decide_true, decide_false, not_true_eq_false, not_false_eq_true, reduceIte, reduceCtorEq, Nat.reduceEqDiff, Nat.reduceAdd, Nat.reduceSub, Nat.reduceLeDiff]
      refine callx_gen (flip_fc 12 (by omega) (by omega)) hL hl (by omega) (by omega) ⟨_, true, rfl⟩ ?_
      rintro pe r hae hbe ⟨be, rfl⟩
      refine ⟨rfl, ?_⟩
      unfold strm
      simp (maxSteps := 1000000) (disch := omega) only [go_sem, eq_self, decide_true, decide_false, not_true_eq_false, not_false_eq_true, reduceIte, reduceCtorEq, Nat.reduceEqDiff, Nat.reduceAdd, Nat.reduceSub, Nat.reduceLeDiff]
      refine ⟨fun hb => ?_, fun hb => ?_⟩
      ·
        refine callx_gen (next_fc out.length (by omega) (by omega)) hL hl (by omega) (by omega) ⟨_, 0, by omega, by omega, rfl⟩ ?_
        rintro pf r haf hbf ⟨zf, hzf, hyf, rfl⟩
        refine ⟨rfl, ?_⟩
        unfold strm
        simp (maxSteps := 1000000) (disch := omega) only [go_sem, eq_self, decide_true, decide_false, not_true_eq_false, not_false_eq_true, reduceIte, reduceCtorEq, Nat.reduceEqDiff, Nat.reduceAdd, Nat.reduceSub, Nat.reduceLeDiff]
        have eo := getE_map_in sgC out zf.toNat (by omega)
        refine callx_gen (pick_fc false [(out.getD zf.toNat default).n, -1, 1, 2] (by simp) (by simp)) hL hl (by omega) (by omega) ⟨_, (-1), by simp, rfl⟩ ?_
        rintro ph r hah hbh ⟨zh, hzh, rfl⟩
        refine ⟨rfl, ?_⟩
        unfold strm
        simp only [List.mem_cons, List.not_mem_nil, or_false] at hzh
        simp (maxSteps := 1000000) (disch := omega) only [go_sem, eq_self, decide_true, decide_false, not_true_eq_false, not_false_eq_true, reduceIte, reduceCtorEq, Nat.reduceEqDiff, Nat.reduceAdd, Nat.reduceSub, Nat.reduceLeDiff]
        refine callx_gen (odd_fc 1 100 (by omega) (by omega) (by omega)) hL hl (by omega) (by omega) ⟨_, 0, by simp [I64], rfl⟩ ?_
        rintro pg r hag hbg ⟨zg, hzg, rfl⟩
        refine ⟨rfl, ?_⟩
        unfold strm
        simp (maxSteps := 1000000) (disch := omega) only [go_sem, eq_self, decide_true, decide_false, not_true_eq_false, not_false_eq_true, reduceIte, reduceCtorEq, Nat.reduceEqDiff, Nat.reduceAdd, Nat.reduceSub, Nat.reduceLeDiff]
        refine ⟨⟨pg, by omega, by omega, rfl⟩, out.set zf.toNat ⟨zh, (out.getD zf.toNat default).o, zg⟩, by simp; omega, by simp [sgC_eq, List.map_set, frE_set, frE_sg, freshC]⟩
      · exact ⟨⟨pe, by omega, by omega, rfl⟩, out, by omega, rfl⟩
    · simp (maxSteps := 1000000) (disch := omega) only [go_sem, eq_self, decide_true, decide_false, not_true_eq_false, not_false_eq_true, reduceIte, reduceCtorEq, Nat.reduceEqDiff, Nat.reduceAdd, Nat.reduceSub, Nat.reduceLeDiff]
      exact ⟨⟨q, by omega, by omega, rfl⟩, out, by omega, rfl⟩
end Go.Proofs.Ytmbpfhpdicjpcaa

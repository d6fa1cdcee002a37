
/-
  The curves that streams draw: AMoment, ASpan, Curve.
-/
import Derived.Test.YtggbcgldnjmobaaDoorGenA
namespace Go.Proofs.YtggbcgldnjmobaaDoor
open Go Go.Ai
set_option linter.unusedSimpArgs false
set_option linter.unusedVariables false
set_option maxHeartbeats 4000000
def A_curve : List Ann := [⟨(some ⟨[0,1], [0], []⟩), [], [], [], []⟩, ⟨(some ⟨[0,1,5], [0], []⟩), [(5, 55, 3)], [], [], []⟩, ⟨(some ⟨[0,1,5,6,7], [0], [5]⟩), [], [], [], []⟩, ⟨(some ⟨[0,5,6,7,18,19], [0], [5]⟩), [], [], [], []⟩, ⟨(some ⟨[0,5,6,7,18,19,20], [0], [5]⟩), [], [], [], []⟩, ⟨(some ⟨[0,5,6,7,8,18,19], [0,8], [5]⟩), [], [], [], []⟩, ⟨(some ⟨[0,5,6,7,8,18,19,29], [0,8], [5]⟩), [], [], [], []⟩, ⟨(some ⟨[0,5,6,7,8,18,19], [0,8], [5]⟩), [], [], [], []⟩, ⟨(some ⟨[0,5,6,7,18,19], [0], [5]⟩), [], [], [], []⟩, ⟨(some ⟨[0,5,6,7,18,19], [0], [5]⟩), [], [], [], []⟩, ⟨(some ⟨[0,5,6,7,18,19], [0], [5]⟩), [], [], [], []⟩, ⟨(some ⟨[0,5,6,7,18,19], [0], [5]⟩), [], [], [], []⟩, ⟨(some ⟨[0,5,52], [0], [5]⟩), [], [], [], []⟩, ⟨(some ⟨[0,5,9], [0], [5]⟩), [], [], [], []⟩, ⟨(some ⟨[0,5,9,60], [0], [5]⟩), [], [], [], []⟩, ⟨(some ⟨[0,5,9,60,66], [0], [5]⟩), [], [], [], []⟩, ⟨(some ⟨[5], [0], []⟩), [], [], [], []⟩, ⟨(some ⟨[0,5,9,84], [0], [5]⟩), [], [], [], []⟩, ⟨(some ⟨[5], [0], []⟩), [], [], [], []⟩, ⟨(some ⟨[5], [0], []⟩), [], [], [], []⟩, ⟨(some ⟨[4], [0], []⟩), [], [], [], []⟩]
def C_curve : AC := (.seq (.reg false [⟨(some 4), none, .mv (.v (.slice none 0 0))⟩] (some ⟨[0,1], [0], []⟩))
  (.seq (.seq (.reg false [⟨(some 5), none, .mv (.v (.slice none 0 0))⟩] (some ⟨[0,1,5], [0], []⟩))
  (.own 5 55 3))
  (.seq (.reg false [⟨(some 10), none, .mv (.t 0)⟩, ⟨(some 11), none, .bslice 1 4 [(.v (.int .i64 (0))), (.v (.int .i64 (0))), (.v (.int .i64 (5))), (.v (.int .i64 (40)))]⟩, ⟨(some 12), none, .callx (.f 4) [(.t 10), (.t 11)]⟩, ⟨(some 13), none, .mv (.t 0)⟩, ⟨(some 14), none, .bslice 1 4 [(.v (.int .i64 (0))), (.v (.int .i64 (5))), (.v (.int .i64 (10))), (.v (.int .i64 (-3)))]⟩, ⟨(some 15), none, .callx (.f 4) [(.t 13), (.t 14)]⟩, ⟨(some 6), none, .mv (.t 12)⟩, ⟨(some 7), none, .mv (.t 15)⟩] (some ⟨[0,1,5,6,7], [0], [5]⟩))
  (.seq (.seq (.reg false [⟨(some 16), none, .mv (.t 0)⟩, ⟨(some 17), none, .mv (.t 1)⟩, ⟨(some 18), none, .callx (.f 21) [(.t 16), (.v (.int .i64 (0))), (.t 17)]⟩, ⟨(some 19), none, .mv (.v (.int .i64 (0)))⟩] (some ⟨[0,5,6,7,18,19], [0], [5]⟩))
  (.block 0 (.loop (.seq (.reg false [⟨(some 20), none, .bin .lss (.t 19) (.t 18)⟩] (some ⟨[0,5,6,7,18,19,20], [0], [5]⟩))
  (.seq (.cond (.t 20)
  .skip
  (.exit 0))
  (.seq (.block 1 (.seq (.reg false [⟨(some 21), none, .mv (.t 6)⟩, ⟨(some 22), none, .mv (.t 7)⟩, ⟨(some 23), none, .mv (.t 0)⟩, ⟨(some 24), none, .bslice 1 7 [(.v (.int .i64 (0))), (.v (.int .i64 (0))), (.v (.int .i64 (0))), (.v (.int .i64 (0))), (.v (.int .i64 (0))), (.v (.int .i64 (1))), (.v (.int .i64 (2)))]⟩, ⟨(some 25), none, .callx (.f 4) [(.t 23), (.t 24)]⟩, ⟨(some 26), none, .build [(.int .i64 (0)), (.int .i64 (0)), (.int .i64 (0))] [(0, 1, (.t 21)), (1, 1, (.t 22)), (2, 1, (.t 25))]⟩, ⟨(some 8), none, .alloc [(.int .i64 (0)), (.int .i64 (0)), (.int .i64 (0))]⟩, ⟨none, none, .store 3 (.t 8) (.t 26)⟩] (some ⟨[0,5,6,7,8,18,19], [0,8], [5]⟩))
  (.seq (.seq (.reg false [⟨(some 27), none, .fadr 2 (.t 8)⟩, ⟨(some 28), none, .load false 1 (.t 27)⟩, ⟨(some 29), none, .bin .eql (.t 28) (.v (.int .i64 (2)))⟩] (some ⟨[0,5,6,7,8,18,19,29], [0,8], [5]⟩))
  (.cond (.t 29)
  (.reg false [⟨(some 30), none, .fadr 1 (.t 8)⟩, ⟨none, none, .store 1 (.t 30) (.v (.int .i64 (0)))⟩] (some ⟨[0,5,6,7,8,18,19], [0,8], [5]⟩))
  .skip))
  (.seq (.reg false [⟨(some 31), none, .mv (.t 5)⟩, ⟨(some 32), none, .load true 3 (.t 8)⟩, ⟨(some 33), none, .bslice 3 1 [(.t 32)]⟩, ⟨(some 34), none, .append 55 3 24 (.t 31) (.t 33)⟩, ⟨(some 5), none, .mv (.t 34)⟩] (some ⟨[0,5,6,7,18,19], [0], [5]⟩))
  (.seq (.reg false [⟨(some 35), none, .mv (.t 6)⟩, ⟨(some 36), none, .mv (.t 0)⟩, ⟨(some 37), none, .bslice 1 6 [(.v (.int .i64 (1))), (.v (.int .i64 (1))), (.v (.int .i64 (2))), (.v (.int .i64 (5))), (.v (.int .i64 (10))), (.v (.int .i64 (30)))]⟩, ⟨(some 38), none, .callx (.f 4) [(.t 36), (.t 37)]⟩, ⟨(some 39), none, .bin .add (.t 35) (.t 38)⟩, ⟨(some 6), none, .mv (.t 39)⟩] (some ⟨[0,5,6,7,18,19], [0], [5]⟩))
  (.reg false [⟨(some 40), none, .mv (.t 7)⟩, ⟨(some 41), none, .mv (.t 0)⟩, ⟨(some 42), none, .bslice 1 9 [(.v (.int .i64 (0))), (.v (.int .i64 (0))), (.v (.int .i64 (1))), (.v (.int .i64 (1))), (.v (.int .i64 (2))), (.v (.int .i64 (-1))), (.v (.int .i64 (-1))), (.v (.int .i64 (-4))), (.v (.int .i64 (6)))]⟩, ⟨(some 43), none, .callx (.f 4) [(.t 41), (.t 42)]⟩, ⟨(some 44), none, .bin .add (.t 40) (.t 43)⟩, ⟨(some 7), none, .mv (.t 44)⟩] (some ⟨[0,5,6,7,18,19], [0], [5]⟩)))))))
  (.reg false [⟨(some 45), none, .bin .add (.t 19) (.v (.int .i64 (1)))⟩, ⟨(some 19), none, .mv (.t 45)⟩] (some ⟨[0,5,6,7,18,19], [0], [5]⟩))))))))
  (.seq (.seq (.reg false [⟨(some 46), none, .mv (.t 5)⟩, ⟨(some 47), none, .len (.t 46)⟩, ⟨(some 48), none, .bin .gtr (.t 47) (.v (.int .i64 (0)))⟩, ⟨(some 49), none, .mv (.t 48)⟩, ⟨(some 50), (some (49, true)), .mv (.t 0)⟩, ⟨(some 51), (some (49, true)), .callx (.f 6) [(.t 50), (.v (.int .i64 (12)))]⟩, ⟨(some 52), none, .pick (.t 49) (.t 51) (.v (.bool false))⟩] (some ⟨[0,5,52], [0], [5]⟩))
  (.cond (.t 52)
  (.seq (.reg false [⟨(some 53), none, .mv (.t 5)⟩, ⟨(some 54), none, .mv (.t 0)⟩, ⟨(some 55), none, .mv (.t 5)⟩, ⟨(some 56), none, .len (.t 55)⟩, ⟨(some 57), none, .callx (.f 20) [(.t 54), (.t 56)]⟩, ⟨(some 58), none, .iadr 3 (.t 53) (.t 57)⟩, ⟨(some 9), none, .mv (.t 58)⟩] (some ⟨[0,5,9], [0], [5]⟩))
  (.seq (.reg false [⟨(some 59), none, .mv (.t 0)⟩, ⟨(some 60), none, .callx (.f 20) [(.t 59), (.v (.int .i64 (3)))]⟩] (some ⟨[0,5,9,60], [0], [5]⟩))
  (.block 2 (.seq (.reg false [⟨(some 67), none, .bin .eql (.t 60) (.v (.int .i64 (0)))⟩, ⟨(some 66), none, .mv (.t 67)⟩] (some ⟨[0,5,9,60,66], [0], [5]⟩))
  (.cond (.t 66)
  (.reg true [⟨(some 68), none, .mv (.t 9)⟩, ⟨(some 69), none, .mv (.t 0)⟩, ⟨(some 70), none, .mv (.t 9)⟩, ⟨(some 71), none, .nilchk (.t 70)⟩, ⟨(some 72), none, .fadr 0 (.t 71)⟩, ⟨(some 73), none, .load false 1 (.t 72)⟩, ⟨(some 74), none, .bin .sub (.t 73) (.v (.int .i64 (40)))⟩, ⟨(some 75), none, .mv (.t 9)⟩, ⟨(some 76), none, .nilchk (.t 75)⟩, ⟨(some 77), none, .fadr 0 (.t 76)⟩, ⟨(some 78), none, .load false 1 (.t 77)⟩, ⟨(some 79), none, .bin .add (.t 78) (.v (.int .i64 (3)))⟩, ⟨(some 80), none, .bslice 1 4 [(.t 74), (.v (.int .i64 (-1))), (.v (.int .i64 (345686400000))), (.t 79)]⟩, ⟨(some 81), none, .callx (.f 4) [(.t 69), (.t 80)]⟩, ⟨(some 82), none, .nilchk (.t 68)⟩, ⟨(some 83), none, .fadr 0 (.t 82)⟩, ⟨none, none, .store 1 (.t 83) (.t 81)⟩] (some ⟨[5], [0], []⟩))
  (.seq (.reg false [⟨(some 85), none, .bin .eql (.t 60) (.v (.int .i64 (1)))⟩, ⟨(some 84), none, .mv (.t 85)⟩] (some ⟨[0,5,9,84], [0], [5]⟩))
  (.cond (.t 84)
  (.reg false [⟨(some 86), none, .mv (.t 9)⟩, ⟨(some 87), none, .mv (.t 0)⟩, ⟨(some 88), none, .callx (.f 7) [(.t 87), (.v (.int .i64 (-1000000))), (.v (.int .i64 (1000000)))]⟩, ⟨(some 89), none, .nilchk (.t 86)⟩, ⟨(some 90), none, .fadr 1 (.t 89)⟩, ⟨none, none, .store 1 (.t 90) (.t 88)⟩] (some ⟨[5], [0], []⟩))
  (.reg false [⟨(some 61), none, .mv (.t 9)⟩, ⟨(some 62), none, .mv (.t 0)⟩, ⟨(some 63), none, .callx (.f 7) [(.t 62), (.v (.int .i64 (0))), (.v (.int .i64 (2)))]⟩, ⟨(some 64), none, .nilchk (.t 61)⟩, ⟨(some 65), none, .fadr 2 (.t 64)⟩, ⟨none, none, .store 1 (.t 65) (.t 63)⟩] (some ⟨[5], [0], []⟩)))))))))
  .skip))
  (.seq (.reg false [⟨(some 91), none, .mv (.t 5)⟩, ⟨(some 4), none, .mv (.t 91)⟩] (some ⟨[4], [0], []⟩))
  .ret))))))
theorem c_curve : compileCode Tryd.prog Tryd.f8.ntmps (Tryd.f8.body.getD .skip) A_curve = some (C_curve, []) := by kernel_rfl
theorem r_curve : compileRes Tryd.prog Tryd.f8.results.toList = some [.t 4] := by kernel_rfl
theorem b_curve : Tryd.f8.body = some (Tryd.f8.body.getD .skip) := by kernel_rfl
theorem n_curve : (Tryd.f8.name == "runtime.NumGoroutine") = false := by kernel_rfl
theorem fc_curve {xt : Option (List Cel)} {args : List Val} {R : List Cel → Val → Prop} (hn : (if xt.isSome then 1 else 0) + args.length ≤ Tryd.f8.ntmps) (h : ex Tryd.prog C_curve [] (fpost xt [.t 4] R) (initSt xt args)) : FC Tryd.prog 8 xt args R :=
  fc_of_awp Tryd.func8 b_curve n_curve c_curve r_curve (of_decide_eq_true (by kernel_rfl)) hn h



structure CurveX where
  i : Int
  a : Int
  v : Int
  p : Int
  l : List Smp
def curveSt (L : List Int) (n : Int) (x : CurveX) : AS :=
  ⟨tabV [(0, .one (.bx 0 0)), (5, .one (.ow 5 0)), (6, iv x.a), (7, iv x.v), (18, iv n), (19, iv x.i)], tabO [(0, strm L x.p)], tabO [(5, ⟨0, 55, 3, x.l.map smpC⟩)]⟩
theorem curve_fc (most : Int) (hm : 0 ≤ most) (hm2 : most ≤ 1000) : Gen Tryd.prog 8 [iv most] 4000 (fun r => ∃ l : List Smp, l.length ≤ most ∧ (∀ x ∈ l, x.in64) ∧ r = smps true l) := by
  intro L p hL hl h0 hp
  refine fc_curve (by simp +arith) ?_
  unfold C_curve strm
  simp (maxSteps := 1000000) (disch := omega) only [go_sem, eq_self, decide_true, decide_false, not_true_eq_false, not_false_eq_true, reduceIte, reduceCtorEq, Nat.reduceEqDiff, Nat.reduceAdd, Nat.reduceSub, Nat.reduceLeDiff]
  refine callx_gen (pick_fc false [0, 0, 5, 40] (by simp) (by simp)) hL hl h0 (by omega) ⟨_, 0, by simp, rfl⟩ ?_
  rintro p1 r h1 h2 ⟨x, hx, rfl⟩
  refine ⟨rfl, ?_⟩
  unfold strm
  simp only [List.mem_cons, List.not_mem_nil, or_false] at hx
  simp (maxSteps := 1000000) (disch := omega) only [go_sem, eq_self, decide_true, decide_false, not_true_eq_false, not_false_eq_true, reduceIte, reduceCtorEq, Nat.reduceEqDiff, Nat.reduceAdd, Nat.reduceSub, Nat.reduceLeDiff]
  refine callx_gen (pick_fc false [0, 5, 10, -3] (by simp) (by simp)) hL hl (by omega) (by omega) ⟨_, 0, by simp, rfl⟩ ?_
  rintro p2 r h3 h4 ⟨y, hy, rfl⟩
  refine ⟨rfl, ?_⟩
  unfold strm
  simp only [List.mem_cons, List.not_mem_nil, or_false] at hy
  simp (maxSteps := 1000000) (disch := omega) only [go_sem, eq_self, decide_true, decide_false, not_true_eq_false, not_false_eq_true, reduceIte, reduceCtorEq, Nat.reduceEqDiff, Nat.reduceAdd, Nat.reduceSub, Nat.reduceLeDiff]
  refine callx_gen (range_fc 0 most (by omega) (by omega) (by omega)) hL hl (by omega) (by omega) ⟨_, 0, by omega, by omega, rfl⟩ ?_
  rintro p3 r h5 h6 ⟨n, hn, hn2, rfl⟩
  refine ⟨rfl, ?_⟩
  unfold strm
  simp (maxSteps := 1000000) (disch := omega) only [go_sem, eq_self, decide_true, decide_false, not_true_eq_false, not_false_eq_true, reduceIte, reduceCtorEq, Nat.reduceEqDiff, Nat.reduceAdd, Nat.reduceSub, Nat.reduceLeDiff]
  refine ex_loopI (curveSt L n) (fun x => 0 ≤ x.i ∧ x.i ≤ n ∧ x.l.length = x.i ∧ p ≤ x.p ∧ x.p ≤ p + 3 + 3 * x.i ∧ -100 * x.i - 100 ≤ x.a ∧ x.a ≤ 100 * x.i + 100 ∧ -100 * x.i - 100 ≤ x.v ∧ x.v ≤ 100 * x.i + 100 ∧ ∀ z ∈ x.l, -200000 ≤ z.a ∧ z.a ≤ 200000 ∧ -200000 ≤ z.v ∧ z.v ≤ 200000 ∧ 0 ≤ z.q ∧ z.q ≤ 2) (fun x => (n - x.i).toNat) ⟨0, x, y, p3, []⟩ ⟨by simp, by simp; omega, by simp, by simp; omega, by simp; omega, by simp; omega, by simp; omega, by simp; omega, by simp; omega, by simp⟩ rfl ?_
  rintro ⟨i, a, v, q, l⟩ ⟨g1, g2, g3, g4, g5, g6, g7, g8, g9, g10⟩
  simp only at g1 g2 g3 g4 g5 g6 g7 g8 g9 g10
  unfold curveSt strm
  simp (maxSteps := 1000000) (disch := omega) only [go_sem, eq_self, decide_true, decide_false, not_true_eq_false, not_false_eq_true, reduceIte, reduceCtorEq, Nat.reduceEqDiff, Nat.reduceAdd, Nat.reduceSub, Nat.reduceLeDiff]
  refine ⟨fun hi => ?_, fun hi => ?_⟩
  ·
    refine callx_gen (pick_fc false [0, 0, 0, 0, 0, 1, 2] (by simp) (by simp)) hL hl (by omega) (by omega) ⟨_, 0, by simp, rfl⟩ ?_
    rintro pa r haa hba ⟨za, hza, rfl⟩
    refine ⟨rfl, ?_⟩
    unfold strm
    simp only [List.mem_cons, List.not_mem_nil, or_false] at hza
    simp (maxSteps := 1000000) (disch := omega) only [go_sem, eq_self, decide_true, decide_false, not_true_eq_false, not_false_eq_true, reduceIte, reduceCtorEq, Nat.reduceEqDiff, Nat.reduceAdd, Nat.reduceSub, Nat.reduceLeDiff]
    refine ⟨fun hq => ?_, fun hq => ?_⟩
    ·
      refine callx_gen (pick_fc false [1, 1, 2, 5, 10, 30] (by simp) (by simp)) hL hl (by omega) (by omega) ⟨_, 1, by simp, rfl⟩ ?_
      rintro pb r hab hbb ⟨zb, hzb, rfl⟩
      refine ⟨rfl, ?_⟩
      unfold strm
      simp only [List.mem_cons, List.not_mem_nil, or_false] at hzb
      simp (maxSteps := 1000000) (disch := omega) only [go_sem, eq_self, decide_true, decide_false, not_true_eq_false, not_false_eq_true, reduceIte, reduceCtorEq, Nat.reduceEqDiff, Nat.reduceAdd, Nat.reduceSub, Nat.reduceLeDiff]
      refine callx_gen (pick_fc false [0, 0, 1, 1, 2, -1, -1, -4, 6] (by simp) (by simp)) hL hl (by omega) (by omega) ⟨_, 0, by simp, rfl⟩ ?_
      rintro pc r hac hbc ⟨zc, hzc, rfl⟩
      refine ⟨rfl, ?_⟩
      unfold strm
      simp only [List.mem_cons, List.not_mem_nil, or_false] at hzc
      simp (maxSteps := 1000000) (disch := omega) only [go_sem, eq_self, decide_true, decide_false, not_true_eq_false, not_false_eq_true, reduceIte, reduceCtorEq, Nat.reduceEqDiff, Nat.reduceAdd, Nat.reduceSub, Nat.reduceLeDiff]
      refine ⟨⟨i + 1, a + zb, v + zc, pc, l ++ [⟨a, 0, za⟩]⟩, ⟨by simp; omega, by simp; omega, by simp; omega, by simp; omega, by simp; omega, by simp; omega, by simp; omega, by simp; omega, by simp; omega, ?_⟩, by simp [curveSt, strm, smpC_eq], by simp; omega⟩
      intro z hz
      simp only [List.mem_append, List.mem_cons, List.not_mem_nil, or_false] at hz
      rcases hz with hz | rfl
      · exact g10 z hz
      · simp only; omega
    ·
      refine callx_gen (pick_fc false [1, 1, 2, 5, 10, 30] (by simp) (by simp)) hL hl (by omega) (by omega) ⟨_, 1, by simp, rfl⟩ ?_
      rintro pb r hab hbb ⟨zb, hzb, rfl⟩
      refine ⟨rfl, ?_⟩
      unfold strm
      simp only [List.mem_cons, List.not_mem_nil, or_false] at hzb
      simp (maxSteps := 1000000) (disch := omega) only [go_sem, eq_self, decide_true, decide_false, not_true_eq_false, not_false_eq_true, reduceIte, reduceCtorEq, Nat.reduceEqDiff, Nat.reduceAdd, Nat.reduceSub, Nat.reduceLeDiff]
      refine callx_gen (pick_fc false [0, 0, 1, 1, 2, -1, -1, -4, 6] (by simp) (by simp)) hL hl (by omega) (by omega) ⟨_, 0, by simp, rfl⟩ ?_
      rintro pc r hac hbc ⟨zc, hzc, rfl⟩
      refine ⟨rfl, ?_⟩
      unfold strm
      simp only [List.mem_cons, List.not_mem_nil, or_false] at hzc
      simp (maxSteps := 1000000) (disch := omega) only [go_sem, eq_self, decide_true, decide_false, not_true_eq_false, not_false_eq_true, reduceIte, reduceCtorEq, Nat.reduceEqDiff, Nat.reduceAdd, Nat.reduceSub, Nat.reduceLeDiff]
      refine ⟨⟨i + 1, a + zb, v + zc, pc, l ++ [⟨a, v, za⟩]⟩, ⟨by simp; omega, by simp; omega, by simp; omega, by simp; omega, by simp; omega, by simp; omega, by simp; omega, by simp; omega, by simp; omega, ?_⟩, by simp [curveSt, strm, smpC_eq], by simp; omega⟩
      intro z hz
      simp only [List.mem_append, List.mem_cons, List.not_mem_nil, or_false] at hz
      rcases hz with hz | rfl
      · exact g10 z hz
      · simp only; omega
  · have g11 : ∀ z ∈ l, z.in64 := fun z hz => by have := g10 z hz; unfold Smp.in64 I64; omega
    refine ⟨fun hlen => ?_, fun hlen => ?_⟩
    ·
      refine callx_gen (flip_fc 12 (by omega) (by omega)) hL hl (by omega) (by omega) ⟨_, true, rfl⟩ ?_
      rintro pd r had hbd ⟨bd, rfl⟩
      refine ⟨rfl, ?_⟩
      unfold strm
      simp (maxSteps := 1000000) (disch := omega) only [go_sem, eq_self, decide_true, decide_false, not_true_eq_false, not_false_eq_true, reduceIte, reduceCtorEq, Nat.reduceEqDiff, Nat.reduceAdd, Nat.reduceSub, Nat.reduceLeDiff]
      refine ⟨fun hb => ?_, fun hb => ?_⟩
      ·
        refine callx_gen (next_fc l.length (by omega) (by omega)) hL hl (by omega) (by omega) ⟨_, 0, by omega, by omega, rfl⟩ ?_
        rintro pe r hae hbe ⟨ze, hze, hye, rfl⟩
        refine ⟨rfl, ?_⟩
        unfold strm
        simp (maxSteps := 1000000) (disch := omega) only [go_sem, eq_self, decide_true, decide_false, not_true_eq_false, not_false_eq_true, reduceIte, reduceCtorEq, Nat.reduceEqDiff, Nat.reduceAdd, Nat.reduceSub, Nat.reduceLeDiff]
        refine callx_gen (next_fc 3 (by omega) (by omega)) hL hl (by omega) (by omega) ⟨_, 0, by omega, by omega, rfl⟩ ?_
        rintro pf r haf hbf ⟨zf, hzf, hyf, rfl⟩
        refine ⟨rfl, ?_⟩
        unfold strm
        simp (maxSteps := 1000000) (disch := omega) only [go_sem, eq_self, decide_true, decide_false, not_true_eq_false, not_false_eq_true, reduceIte, reduceCtorEq, Nat.reduceEqDiff, Nat.reduceAdd, Nat.reduceSub, Nat.reduceLeDiff]
        have gy := g11 _ (getD_mem l ze.toNat (by omega))
        refine ⟨fun hf => ?_, fun hf => ⟨fun hf' => ?_, fun hf' => ?_⟩⟩
        ·
          refine callx_gen (pick_fc false [IntKind.i64.wrap ((l.getD ze.toNat default).a - 40), -1, 345686400000, IntKind.i64.wrap ((l.getD ze.toNat default).a + 3)] (by simp) (by simp)) hL hl (by omega) (by omega) ⟨_, (-1), by simp, rfl⟩ ?_
          rintro pg r hag hbg ⟨zg, hzg, rfl⟩
          refine ⟨rfl, ?_⟩
          unfold strm
          simp only [List.mem_cons, List.not_mem_nil, or_false] at hzg
          simp (maxSteps := 1000000) (disch := omega) only [go_sem, eq_self, decide_true, decide_false, not_true_eq_false, not_false_eq_true, reduceIte, reduceCtorEq, Nat.reduceEqDiff, Nat.reduceAdd, Nat.reduceSub, Nat.reduceLeDiff]
          have hg : I64 zg := by
            have w1 := wrap_in ((l.getD ze.toNat default).a - 40)
            have w2 := wrap_in ((l.getD ze.toNat default).a + 3)
            unfold I64 at *; omega
          refine ⟨⟨pg, by omega, by omega, rfl⟩, l.set ze.toNat ⟨zg, (l.getD ze.toNat default).v, (l.getD ze.toNat default).q⟩, by simp; omega, fun x hx => ?_, by simp [smps, smpC_eq, List.map_set, frE_set, frE_smp, freshC]⟩
          rcases List.mem_or_eq_of_mem_set hx with hx | rfl
          · exact g11 x hx
          · exact ⟨hg, gy.2.1, gy.2.2⟩
        ·
          refine callx_gen (odd_fc (-1000000) 1000000 (by omega) (by omega) (by omega)) hL hl (by omega) (by omega) ⟨_, 0, by simp [I64], rfl⟩ ?_
          rintro pg r hag hbg ⟨zg, hzg, rfl⟩
          refine ⟨rfl, ?_⟩
          unfold strm
          simp (maxSteps := 1000000) (disch := omega) only [go_sem, eq_self, decide_true, decide_false, not_true_eq_false, not_false_eq_true, reduceIte, reduceCtorEq, Nat.reduceEqDiff, Nat.reduceAdd, Nat.reduceSub, Nat.reduceLeDiff]
          refine ⟨⟨pg, by omega, by omega, rfl⟩, l.set ze.toNat ⟨(l.getD ze.toNat default).a, zg, (l.getD ze.toNat default).q⟩, by simp; omega, fun x hx => ?_, by simp [smps, smpC_eq, List.map_set, frE_set, frE_smp, freshC]⟩
          rcases List.mem_or_eq_of_mem_set hx with hx | rfl
          · exact g11 x hx
          · exact ⟨gy.1, hzg, gy.2.2⟩
        ·
          refine callx_gen (odd_fc 0 2 (by omega) (by omega) (by omega)) hL hl (by omega) (by omega) ⟨_, 0, by simp [I64], rfl⟩ ?_
          rintro pg r hag hbg ⟨zg, hzg, rfl⟩
          refine ⟨rfl, ?_⟩
          unfold strm
          simp (maxSteps := 1000000) (disch := omega) only [go_sem, eq_self, decide_true, decide_false, not_true_eq_false, not_false_eq_true, reduceIte, reduceCtorEq, Nat.reduceEqDiff, Nat.reduceAdd, Nat.reduceSub, Nat.reduceLeDiff]
          refine ⟨⟨pg, by omega, by omega, rfl⟩, l.set ze.toNat ⟨(l.getD ze.toNat default).a, (l.getD ze.toNat default).v, zg⟩, by simp; omega, fun x hx => ?_, by simp [smps, smpC_eq, List.map_set, frE_set, frE_smp, freshC]⟩
          rcases List.mem_or_eq_of_mem_set hx with hx | rfl
          · exact g11 x hx
          · exact ⟨gy.1, gy.2.1, hzg⟩
      · exact ⟨⟨pd, by omega, by omega, rfl⟩, l, by omega, g11, rfl⟩
    · exact ⟨⟨q, by omega, by omega, rfl⟩, l, by omega, g11, rfl⟩
end Go.Proofs.YtggbcgldnjmobaaDoor

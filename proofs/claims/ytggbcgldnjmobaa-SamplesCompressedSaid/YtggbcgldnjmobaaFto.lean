
/-
  FitsOf: the walk.
-/
import Derived.Test.YtggbcgldnjmobaaFtp
namespace Go.Proofs.Ytggbcgldnjmobaa
open Go Go.Ai
set_option linter.unusedSimpArgs false
set_option linter.unusedVariables false
set_option maxHeartbeats 4000000
def A_fitsOf : List Ann := [⟨(some ⟨[1,2,3], [3], []⟩), [], [], [], []⟩, ⟨(some ⟨[1,2,3,17], [3], []⟩), [], [], [], []⟩, ⟨(some ⟨[6], [], []⟩), [], [], [], []⟩, ⟨(some ⟨[1,2,3,28], [3], []⟩), [], [], [], []⟩, ⟨(some ⟨[6], [], []⟩), [], [], [], []⟩, ⟨(some ⟨[1,2,3,7], [3], []⟩), [], [], [], []⟩, ⟨(some ⟨[1,2,3,7,32], [3], []⟩), [], [], [], []⟩, ⟨(some ⟨[1,2,3,7,59], [3], []⟩), [], [], [], []⟩, ⟨(some ⟨[6], [], []⟩), [], [], [], []⟩, ⟨(some ⟨[1,2,3,7], [3], []⟩), [], [], [], []⟩, ⟨(some ⟨[1,2,3,8], [3], []⟩), [], [], [], []⟩, ⟨(some ⟨[1,2,3,8,63], [3], []⟩), [], [], [], []⟩, ⟨(some ⟨[1,2,3,8,9,10], [3], []⟩), [], [], [], []⟩, ⟨(some ⟨[1,2,3,8,94], [3], []⟩), [], [], [], []⟩, ⟨(some ⟨[6], [], []⟩), [], [], [], []⟩, ⟨(some ⟨[1,2,3,8], [3], []⟩), [], [], [], []⟩, ⟨(some ⟨[1,3,11,12], [3], []⟩), [], [], [], []⟩, ⟨(some ⟨[3,11,12,101,102,103], [3], []⟩), [], [], [], []⟩, ⟨(some ⟨[3,11,12,101,102,103,104], [3], []⟩), [], [], [], []⟩, ⟨(some ⟨[3,11,12,13,14,101,102,103], [3,14], []⟩), [], [], [], []⟩, ⟨(some ⟨[3,11,12,101,102,103,127], [3], []⟩), [], [], [], []⟩, ⟨(some ⟨[6], [], []⟩), [], [], [], []⟩, ⟨(some ⟨[3,11,12,101,102,103], [3], []⟩), [], [], [], []⟩, ⟨(some ⟨[6], [], []⟩), [], [], [], []⟩]
def C_fitsOf : AC := (.seq (.reg false [⟨(some 3), none, .box (.t 0)⟩, ⟨(some 6), none, .mv (.v (.bool false))⟩] (some ⟨[1,2,3], [3], []⟩))
  (.seq (.seq (.reg false [⟨(some 15), none, .mv (.t 1)⟩, ⟨(some 16), none, .len (.t 15)⟩, ⟨(some 17), none, .bin .eql (.t 16) (.v (.int .i64 (0)))⟩] (some ⟨[1,2,3,17], [3], []⟩))
  (.cond (.t 17)
  (.seq (.reg false [⟨(some 6), none, .mv (.v (.bool true))⟩] (some ⟨[6], [], []⟩))
  .ret)
  .skip))
  (.seq (.seq (.reg false [⟨(some 18), none, .mv (.t 2)⟩, ⟨(some 19), none, .call (.f 89) [(.t 18), (.v (.int .i64 (0)))]⟩, ⟨(some 20), none, .un .not (.t 19)⟩, ⟨(some 21), none, .mv (.t 20)⟩, ⟨(some 22), (some (21, false)), .mv (.t 2)⟩, ⟨(some 23), (some (21, false)), .mv (.t 1)⟩, ⟨(some 24), (some (21, false)), .len (.t 23)⟩, ⟨(some 25), (some (21, false)), .bin .sub (.t 24) (.v (.int .i64 (1)))⟩, ⟨(some 26), (some (21, false)), .call (.f 89) [(.t 22), (.t 25)]⟩, ⟨(some 27), (some (21, false)), .un .not (.t 26)⟩, ⟨(some 28), none, .pick (.t 21) (.v (.bool true)) (.t 27)⟩] (some ⟨[1,2,3,28], [3], []⟩))
  (.cond (.t 28)
  (.seq (.reg false [⟨(some 6), none, .mv (.v (.bool false))⟩] (some ⟨[6], [], []⟩))
  .ret)
  .skip))
  (.seq (.seq (.reg false [⟨(some 7), none, .mv (.v (.int .i64 (1)))⟩] (some ⟨[1,2,3,7], [3], []⟩))
  (.block 0 (.loop (.seq (.seq (.reg false [⟨(some 29), none, .mv (.t 7)⟩, ⟨(some 30), none, .mv (.t 1)⟩, ⟨(some 31), none, .len (.t 30)⟩, ⟨(some 32), none, .bin .lss (.t 29) (.t 31)⟩] (some ⟨[1,2,3,7,32], [3], []⟩))
  (.cond (.t 32)
  .skip
  (.exit 0)))
  (.seq (.block 1 (.seq (.reg true [⟨(some 35), none, .mv (.t 1)⟩, ⟨(some 36), none, .mv (.t 7)⟩, ⟨(some 37), none, .iadr 3 (.t 35) (.t 36)⟩, ⟨(some 38), none, .fadr 2 (.t 37)⟩, ⟨(some 39), none, .load false 1 (.t 38)⟩, ⟨(some 40), none, .mv (.t 1)⟩, ⟨(some 41), none, .mv (.t 7)⟩, ⟨(some 42), none, .bin .sub (.t 41) (.v (.int .i64 (1)))⟩, ⟨(some 43), none, .iadr 3 (.t 40) (.t 42)⟩, ⟨(some 44), none, .fadr 2 (.t 43)⟩, ⟨(some 45), none, .load false 1 (.t 44)⟩, ⟨(some 46), none, .bin .neq (.t 39) (.t 45)⟩, ⟨(some 47), none, .mv (.t 46)⟩, ⟨(some 48), (some (47, true)), .mv (.t 2)⟩, ⟨(some 49), (some (47, true)), .mv (.t 7)⟩, ⟨(some 50), (some (47, true)), .bin .sub (.t 49) (.v (.int .i64 (1)))⟩, ⟨(some 51), (some (47, true)), .call (.f 89) [(.t 48), (.t 50)]⟩, ⟨(some 52), (some (47, true)), .un .not (.t 51)⟩, ⟨(some 53), (some (47, true)), .mv (.t 52)⟩, ⟨(some 54), (some (53, false)), .mv (.t 2)⟩, ⟨(some 55), (some (53, false)), .mv (.t 7)⟩, ⟨(some 56), (some (53, false)), .call (.f 89) [(.t 54), (.t 55)]⟩, ⟨(some 57), (some (53, false)), .un .not (.t 56)⟩, ⟨(some 58), (some (47, true)), .pick (.t 53) (.v (.bool true)) (.t 57)⟩, ⟨(some 59), none, .pick (.t 47) (.t 58) (.v (.bool false))⟩] (some ⟨[1,2,3,7,59], [3], []⟩))
  (.cond (.t 59)
  (.seq (.reg false [⟨(some 6), none, .mv (.v (.bool false))⟩] (some ⟨[6], [], []⟩))
  .ret)
  .skip)))
  (.reg false [⟨(some 33), none, .mv (.t 7)⟩, ⟨(some 34), none, .bin .add (.t 33) (.v (.int .i64 (1)))⟩, ⟨(some 7), none, .mv (.t 34)⟩] (some ⟨[1,2,3,7], [3], []⟩)))))))
  (.seq (.seq (.reg false [⟨(some 8), none, .mv (.v (.int .i64 (1)))⟩] (some ⟨[1,2,3,8], [3], []⟩))
  (.block 2 (.loop (.seq (.seq (.reg false [⟨(some 60), none, .mv (.t 8)⟩, ⟨(some 61), none, .mv (.t 2)⟩, ⟨(some 62), none, .len (.t 61)⟩, ⟨(some 63), none, .bin .lss (.t 60) (.t 62)⟩] (some ⟨[1,2,3,8,63], [3], []⟩))
  (.cond (.t 63)
  .skip
  (.exit 2)))
  (.seq (.block 3 (.seq (.reg true [⟨(some 66), none, .mv (.t 2)⟩, ⟨(some 67), none, .mv (.t 8)⟩, ⟨(some 68), none, .bin .sub (.t 67) (.v (.int .i64 (1)))⟩, ⟨(some 69), none, .iadr 1 (.t 66) (.t 68)⟩, ⟨(some 70), none, .load false 1 (.t 69)⟩, ⟨(some 71), none, .mv (.t 2)⟩, ⟨(some 72), none, .mv (.t 8)⟩, ⟨(some 73), none, .iadr 1 (.t 71) (.t 72)⟩, ⟨(some 74), none, .load false 1 (.t 73)⟩, ⟨(some 9), none, .mv (.t 70)⟩, ⟨(some 10), none, .mv (.t 74)⟩] (some ⟨[1,2,3,8,9,10], [3], []⟩))
  (.seq (.reg true [⟨(some 75), none, .mv (.t 10)⟩, ⟨(some 76), none, .mv (.t 9)⟩, ⟨(some 77), none, .bin .add (.t 76) (.v (.int .i64 (1)))⟩, ⟨(some 78), none, .bin .gtr (.t 75) (.t 77)⟩, ⟨(some 79), none, .mv (.t 78)⟩, ⟨(some 80), (some (79, true)), .mv (.t 1)⟩, ⟨(some 81), (some (79, true)), .mv (.t 10)⟩, ⟨(some 82), (some (79, true)), .iadr 3 (.t 80) (.t 81)⟩, ⟨(some 83), (some (79, true)), .fadr 0 (.t 82)⟩, ⟨(some 84), (some (79, true)), .load false 1 (.t 83)⟩, ⟨(some 85), (some (79, true)), .mv (.t 1)⟩, ⟨(some 86), (some (79, true)), .mv (.t 9)⟩, ⟨(some 87), (some (79, true)), .iadr 3 (.t 85) (.t 86)⟩, ⟨(some 88), (some (79, true)), .fadr 0 (.t 87)⟩, ⟨(some 89), (some (79, true)), .load false 1 (.t 88)⟩, ⟨(some 90), (some (79, true)), .bin .sub (.t 84) (.t 89)⟩, ⟨(some 91), (some (79, true)), .fadr 1 (.t 3)⟩, ⟨(some 92), (some (79, true)), .load false 1 (.t 91)⟩, ⟨(some 93), (some (79, true)), .bin .gtr (.t 90) (.t 92)⟩, ⟨(some 94), none, .pick (.t 79) (.t 93) (.v (.bool false))⟩] (some ⟨[1,2,3,8,94], [3], []⟩))
  (.cond (.t 94)
  (.seq (.reg false [⟨(some 6), none, .mv (.v (.bool false))⟩] (some ⟨[6], [], []⟩))
  .ret)
  .skip))))
  (.reg false [⟨(some 64), none, .mv (.t 8)⟩, ⟨(some 65), none, .bin .add (.t 64) (.v (.int .i64 (1)))⟩, ⟨(some 8), none, .mv (.t 65)⟩] (some ⟨[1,2,3,8], [3], []⟩)))))))
  (.seq (.reg false [⟨(some 96), none, .mv (.t 1)⟩, ⟨(some 97), none, .mv (.t 2)⟩, ⟨(some 98), none, .call (.f 90) [(.t 96), (.t 97)]⟩, ⟨(some 95), none, .mv (.t 98)⟩, ⟨(some 99), none, .extr (.t 95) 0⟩, ⟨(some 100), none, .extr (.t 95) 1⟩, ⟨(some 11), none, .mv (.t 99)⟩, ⟨(some 12), none, .mv (.t 100)⟩] (some ⟨[1,3,11,12], [3], []⟩))
  (.seq (.seq (.reg false [⟨(some 101), none, .mv (.t 1)⟩, ⟨(some 102), none, .len (.t 101)⟩, ⟨(some 103), none, .mv (.v (.int .i64 (0)))⟩] (some ⟨[3,11,12,101,102,103], [3], []⟩))
  (.block 4 (.loop (.seq (.reg false [⟨(some 104), none, .bin .lss (.t 103) (.t 102)⟩] (some ⟨[3,11,12,101,102,103,104], [3], []⟩))
  (.seq (.cond (.t 104)
  .skip
  (.exit 4))
  (.seq (.block 5 (.seq (.reg false [⟨(some 105), none, .mv (.t 103)⟩, ⟨(some 106), none, .iadr 3 (.t 101) (.t 103)⟩, ⟨(some 107), none, .load true 3 (.t 106)⟩, ⟨(some 14), none, .alloc [(.int .i64 (0)), (.int .i64 (0)), (.int .i64 (0))]⟩, ⟨(some 13), none, .mv (.t 105)⟩, ⟨none, none, .store 3 (.t 14) (.t 107)⟩] (some ⟨[3,11,12,13,14,101,102,103], [3,14], []⟩))
  (.seq (.reg true [⟨(some 108), none, .fadr 2 (.t 14)⟩, ⟨(some 109), none, .load false 1 (.t 108)⟩, ⟨(some 110), none, .bin .neq (.t 109) (.v (.int .i64 (2)))⟩, ⟨(some 111), none, .mv (.t 110)⟩, ⟨(some 112), (some (111, true)), .mv (.t 12)⟩, ⟨(some 113), (some (111, true)), .mv (.t 13)⟩, ⟨(some 114), (some (111, true)), .iadr 1 (.t 112) (.t 113)⟩, ⟨(some 115), (some (111, true)), .load false 1 (.t 114)⟩, ⟨(some 116), (some (111, true)), .un .not (.t 115)⟩, ⟨(some 117), (some (111, true)), .mv (.t 116)⟩, ⟨(some 118), (some (117, false)), .fadr 0 (.t 3)⟩, ⟨(some 119), (some (117, false)), .load false 1 (.t 118)⟩, ⟨(some 120), (some (117, false)), .build [(.int .i64 (0)), (.int .i64 (0))] [(0, 1, (.t 119)), (1, 1, (.v (.int .i64 (1))))]⟩, ⟨(some 121), (some (117, false)), .mv (.t 11)⟩, ⟨(some 122), (some (117, false)), .mv (.t 13)⟩, ⟨(some 123), (some (117, false)), .iadr 2 (.t 121) (.t 122)⟩, ⟨(some 124), (some (117, false)), .load true 2 (.t 123)⟩, ⟨(some 125), (some (117, false)), .call (.f 91) [(.t 120), (.t 124)]⟩, ⟨(some 126), (some (111, true)), .pick (.t 117) (.v (.bool true)) (.t 125)⟩, ⟨(some 127), none, .pick (.t 111) (.t 126) (.v (.bool false))⟩] (some ⟨[3,11,12,101,102,103,127], [3], []⟩))
  (.cond (.t 127)
  (.seq (.reg false [⟨(some 6), none, .mv (.v (.bool false))⟩] (some ⟨[6], [], []⟩))
  .ret)
  .skip))))
  (.reg false [⟨(some 128), none, .bin .add (.t 103) (.v (.int .i64 (1)))⟩, ⟨(some 103), none, .mv (.t 128)⟩] (some ⟨[3,11,12,101,102,103], [3], []⟩))))))))
  (.seq (.reg false [⟨(some 6), none, .mv (.v (.bool true))⟩] (some ⟨[6], [], []⟩))
  .ret))))))))
theorem c_fitsOf : compileCode Try.prog Try.f36.ntmps (Try.f36.body.getD .skip) A_fitsOf = some (C_fitsOf, []) := by kernel_rfl
theorem r_fitsOf : compileRes Try.prog Try.f36.results.toList = some [.t 6] := by kernel_rfl
theorem b_fitsOf : Try.f36.body = some (Try.f36.body.getD .skip) := by kernel_rfl
theorem n_fitsOf : (Try.f36.name == "runtime.NumGoroutine") = false := by kernel_rfl
theorem fc_fitsOf {xt : Option (List Cel)} {args : List Val} {R : List Cel → Val → Prop} (hn : (if xt.isSome then 1 else 0) + args.length ≤ Try.f36.ntmps) (h : ex Try.prog C_fitsOf [] (fpost xt [.t 6] R) (initSt xt args)) : FC Try.prog 36 xt args R :=
  fc_of_awp Try.func36 b_fitsOf n_fitsOf c_fitsOf r_fitsOf (of_decide_eq_true (by kernel_rfl)) hn h


def fo1St (dv mg : Int) (l : List Smp) (m : List Int) (i : Int) : AS := ⟨tabV [(1, smps false l), (2, ints false m), (3, .one (.bx 3 0)), (7, iv i)], tabO [(3, [.g (.int .i64 dv), .g (.int .i64 mg)])], tabO []⟩
def fo2St (dv mg : Int) (l : List Smp) (m : List Int) (i : Int) : AS := ⟨tabV [(1, smps false l), (2, ints false m), (3, .one (.bx 3 0)), (8, iv i)], tabO [(3, [.g (.int .i64 dv), .g (.int .i64 mg)])], tabO []⟩
def fo3St (dv mg : Int) (l : List Smp) (F : List (Int × Int)) (B : List Bool) (i : Int) : AS := ⟨tabV [(3, .one (.bx 3 0)), (11, frsV true F), (12, boolsV true B), (101, smps false l), (102, iv l.length), (103, iv i)], tabO [(3, [.g (.int .i64 dv), .g (.int .i64 mg)])], tabO []⟩
theorem low_lt1 {n d dv : Int} (hd : 1 ≤ d) : dv * lowD n d < lowN n d * 1 ↔ dv * d < n := by
  obtain ⟨e1, e2, e3, e4⟩ := low_eq n d hd
  generalize lowG n d = g at *
  generalize lowN n d = N at *
  generalize lowD n d = D at *
  subst e1; subst e2
  rw [Int.mul_one, Int.mul_left_comm]
  exact (Int.mul_lt_mul_left (show 0 < g by omega)).symm
set_option maxHeartbeats 12000000 in
set_option maxRecDepth 8000 in
theorem fitsOf_fc (dv mg : Int) (hd : 0 ≤ dv ∧ dv ≤ 2000000) (hmg : 1 ≤ mg ∧ mg ≤ 345686400000) (l : List Smp) (m : List Int) (hk : kptF l m = 0) : FC Try.prog 36 none [twoV dv mg, smps false l, ints false m] (fun _ r => r = bv (fitB dv mg l m)) := by
  refine fc_fitsOf (by simp +arith) ?_
  obtain ⟨hs, hml, hkf⟩ := kptF_ok hk
  have hg := good_of hs
  have hlen := hg.len
  have hin := kfGo_ok _ m none hkf
  unfold C_fitsOf
  by_cases h0 : l.length = 0
  · have hb : fitB dv mg l m = true := by unfold fitB; rw [if_pos h0]
    rw [hb]
    simp (maxSteps := 1000000) (disch := omega) only [go_sem, eq_self, decide_true, decide_false, not_true_eq_false, not_false_eq_true, reduceIte, reduceCtorEq, Nat.reduceEqDiff, Nat.reduceAdd, Nat.reduceSub, Nat.reduceLeDiff]
  · have no : ∀ {p : Prop}, (FitW dv mg l m → p) → ¬p → fitB dv mg l m = false := fun {p} h hp => by
      cases hb : fitB dv mg l m with
      | false => rfl
      | true => exact absurd (h (fit_w h0 hd.1 hk hb)) hp
    have hof := offs_fc l hs m hml hin (kpt_good hk)
    have hc0 := contInts_fc false m (by omega) 0
    have hc9 := contInts_fc false m (by omega) ((l.length : Int) - 1)
    by_cases c1 : (0 : Int) ∈ m
    · rw [decide_eq_true c1] at hc0
      by_cases c2 : (l.length : Int) - 1 ∈ m
      · rw [decide_eq_true c2] at hc9
        simp (maxSteps := 1000000) (disch := omega) only [go_sem, eq_self, decide_true, decide_false, not_true_eq_false, not_false_eq_true, reduceIte, reduceCtorEq, Nat.reduceEqDiff, Nat.reduceAdd, Nat.reduceSub, Nat.reduceLeDiff]
        refine CALL_det hc0 (.inl rfl) ?_
        simp (maxSteps := 1000000) (disch := omega) only [go_sem, eq_self, decide_true, decide_false, not_true_eq_false, not_false_eq_true, reduceIte, reduceCtorEq, Nat.reduceEqDiff, Nat.reduceAdd, Nat.reduceSub, Nat.reduceLeDiff]
        refine CALL_det hc9 (.inl rfl) ?_
        simp (maxSteps := 1000000) (disch := omega) only [go_sem, eq_self, decide_true, decide_false, not_true_eq_false, not_false_eq_true, reduceIte, reduceCtorEq, Nat.reduceEqDiff, Nat.reduceAdd, Nat.reduceSub, Nat.reduceLeDiff]
        refine ex_loop1 (fo1St dv mg l m) (fun i => 1 ≤ i ∧ i ≤ l.length ∧ ∀ t : Int, 1 ≤ t → t < i → (l.getD t.toNat default).q = (l.getD (t - 1).toNat default).q ∨ (t - 1 ∈ m ∧ t ∈ m)) (fun i => (l.length - i).toNat) 1 ⟨by omega, by omega, fun t h1 h2 => by omega⟩ rfl ?_
        rintro i ⟨g1, g2, g3⟩
        unfold fo1St
        by_cases hi : i < l.length
        · have hca := contInts_fc false m (by omega) (i - 1)
          have hcb := contInts_fc false m (by omega) i
          have nx : ((l.getD i.toNat default).q = (l.getD (i - 1).toNat default).q ∨ (i - 1 ∈ m ∧ i ∈ m)) → ∀ t : Int, 1 ≤ t → t < i + 1 → (l.getD t.toNat default).q = (l.getD (t - 1).toNat default).q ∨ (t - 1 ∈ m ∧ t ∈ m) := fun h t h1 h2 => by
            by_cases e : t = i
            · subst e; exact h
            · exact g3 t h1 (by omega)
          by_cases d1 : (l.getD i.toNat default).q = (l.getD (i - 1).toNat default).q
          · simp (maxSteps := 1000000) (disch := omega) only [go_sem, eq_self, decide_true, decide_false, not_true_eq_false, not_false_eq_true, reduceIte, reduceCtorEq, Nat.reduceEqDiff, Nat.reduceAdd, Nat.reduceSub, Nat.reduceLeDiff]
            exact ⟨i + 1, rfl, ⟨by omega, by omega, nx (.inl d1)⟩, by omega⟩
          · by_cases d2 : i - 1 ∈ m
            · rw [decide_eq_true d2] at hca
              by_cases d3 : i ∈ m
              · rw [decide_eq_true d3] at hcb
                simp (maxSteps := 1000000) (disch := omega) only [go_sem, eq_self, decide_true, decide_false, not_true_eq_false, not_false_eq_true, reduceIte, reduceCtorEq, Nat.reduceEqDiff, Nat.reduceAdd, Nat.reduceSub, Nat.reduceLeDiff]
                refine CALL_det hca (.inl rfl) ?_
                simp (maxSteps := 1000000) (disch := omega) only [go_sem, eq_self, decide_true, decide_false, not_true_eq_false, not_false_eq_true, reduceIte, reduceCtorEq, Nat.reduceEqDiff, Nat.reduceAdd, Nat.reduceSub, Nat.reduceLeDiff]
                refine CALL_det hcb (.inl rfl) ?_
                simp (maxSteps := 1000000) (disch := omega) only [go_sem, eq_self, decide_true, decide_false, not_true_eq_false, not_false_eq_true, reduceIte, reduceCtorEq, Nat.reduceEqDiff, Nat.reduceAdd, Nat.reduceSub, Nat.reduceLeDiff]
                exact ⟨i + 1, rfl, ⟨by omega, by omega, nx (.inr ⟨d2, d3⟩)⟩, by omega⟩
              · rw [decide_eq_false d3] at hcb
                rw [no (fun W => W.q i (by omega) hi) (by rintro (h | h); exact d1 h; exact d3 h.2)]
                simp (maxSteps := 1000000) (disch := omega) only [go_sem, eq_self, decide_true, decide_false, not_true_eq_false, not_false_eq_true, reduceIte, reduceCtorEq, Nat.reduceEqDiff, Nat.reduceAdd, Nat.reduceSub, Nat.reduceLeDiff]
                refine CALL_det hca (.inl rfl) ?_
                simp (maxSteps := 1000000) (disch := omega) only [go_sem, eq_self, decide_true, decide_false, not_true_eq_false, not_false_eq_true, reduceIte, reduceCtorEq, Nat.reduceEqDiff, Nat.reduceAdd, Nat.reduceSub, Nat.reduceLeDiff]
                refine CALL_det hcb (.inl rfl) ?_
                simp (maxSteps := 1000000) (disch := omega) only [go_sem, eq_self, decide_true, decide_false, not_true_eq_false, not_false_eq_true, reduceIte, reduceCtorEq, Nat.reduceEqDiff, Nat.reduceAdd, Nat.reduceSub, Nat.reduceLeDiff]
            · rw [decide_eq_false d2] at hca
              rw [no (fun W => W.q i (by omega) hi) (by rintro (h | h); exact d1 h; exact d2 h.1)]
              simp (maxSteps := 1000000) (disch := omega) only [go_sem, eq_self, decide_true, decide_false, not_true_eq_false, not_false_eq_true, reduceIte, reduceCtorEq, Nat.reduceEqDiff, Nat.reduceAdd, Nat.reduceSub, Nat.reduceLeDiff]
              refine CALL_det hca (.inl rfl) ?_
              simp (maxSteps := 1000000) (disch := omega) only [go_sem, eq_self, decide_true, decide_false, not_true_eq_false, not_false_eq_true, reduceIte, reduceCtorEq, Nat.reduceEqDiff, Nat.reduceAdd, Nat.reduceSub, Nat.reduceLeDiff]
        · obtain rfl : i = l.length := by omega
          simp (maxSteps := 1000000) (disch := omega) only [go_sem, eq_self, decide_true, decide_false, not_true_eq_false, not_false_eq_true, reduceIte, reduceCtorEq, Nat.reduceEqDiff, Nat.reduceAdd, Nat.reduceSub, Nat.reduceLeDiff]
          refine ex_loop1 (fo2St dv mg l m) (fun j => 1 ≤ j ∧ (1 ≤ m.length → j ≤ m.length) ∧ ∀ t : Nat, t + 1 < j → m.getD (t + 1) default ≤ m.getD t default + 1 ∨ (l.getD (m.getD (t + 1) default).toNat default).a - (l.getD (m.getD t default).toNat default).a ≤ mg) (fun j => (m.length - j).toNat) 1 ⟨by omega, by omega, fun t h1 => by omega⟩ rfl ?_
          rintro j ⟨k1, k2, k3⟩
          unfold fo2St
          by_cases hj : j < m.length
          · have em := getD_map_at intC m j [] (by omega) hj
            have em1 := getD_map_at intC m (j - 1) [] (by omega) (by omega)
            have a1 := hin _ (getD_mem m j.toNat (by omega))
            have a2 := hin _ (getD_mem m (j - 1).toNat (by omega))
            have ej : j.toNat = (j - 1).toNat + 1 := by omega
            have oa := hg.ok (m.getD j.toNat default).toNat (by omega)
            have ob := hg.ok (m.getD (j - 1).toNat default).toNat (by omega)
            unfold okSmp at oa ob
            have nx : (m.getD j.toNat default ≤ m.getD (j - 1).toNat default + 1 ∨ (l.getD (m.getD j.toNat default).toNat default).a - (l.getD (m.getD (j - 1).toNat default).toNat default).a ≤ mg) → ∀ t : Nat, (t : Int) + 1 < j + 1 → m.getD (t + 1) default ≤ m.getD t default + 1 ∨ (l.getD (m.getD (t + 1) default).toNat default).a - (l.getD (m.getD t default).toNat default).a ≤ mg := fun h t h1 => by
              by_cases e : t = (j - 1).toNat
              · subst e; rw [← ej]; exact h
              · exact k3 t (by omega)
            by_cases d1 : m.getD j.toNat default > m.getD (j - 1).toNat default + 1
            · by_cases d2 : (l.getD (m.getD j.toNat default).toNat default).a - (l.getD (m.getD (j - 1).toNat default).toNat default).a > mg
              · rw [no (fun W => W.g (j - 1).toNat (by omega)) (by rw [← ej]; rintro (h | h) <;> omega)]
                simp (maxSteps := 1000000) (disch := omega) only [go_sem, eq_self, decide_true, decide_false, not_true_eq_false, not_false_eq_true, reduceIte, reduceCtorEq, Nat.reduceEqDiff, Nat.reduceAdd, Nat.reduceSub, Nat.reduceLeDiff]
              · simp (maxSteps := 1000000) (disch := omega) only [go_sem, eq_self, decide_true, decide_false, not_true_eq_false, not_false_eq_true, reduceIte, reduceCtorEq, Nat.reduceEqDiff, Nat.reduceAdd, Nat.reduceSub, Nat.reduceLeDiff]
                exact ⟨j + 1, rfl, ⟨by omega, by omega, nx (.inr (by omega))⟩, by omega⟩
            · simp (maxSteps := 1000000) (disch := omega) only [go_sem, eq_self, decide_true, decide_false, not_true_eq_false, not_false_eq_true, reduceIte, reduceCtorEq, Nat.reduceEqDiff, Nat.reduceAdd, Nat.reduceSub, Nat.reduceLeDiff]
              exact ⟨j + 1, rfl, ⟨by omega, by omega, nx (.inl (by omega))⟩, by omega⟩
          · simp (maxSteps := 1000000) (disch := omega) only [go_sem, eq_self, decide_true, decide_false, not_true_eq_false, not_false_eq_true, reduceIte, reduceCtorEq, Nat.reduceEqDiff, Nat.reduceAdd, Nat.reduceSub, Nat.reduceLeDiff]
            refine CALL_det hof (.inl rfl) ?_
            have eF : ∀ i : Int, 0 ≤ i → i < l.length → (l.map (ofF (kep l m))).getD i.toNat default = ofF (kep l m) (l.getD i.toNat default) := fun i q1 q2 => getD_map_in _ _ _ _ (by omega)
            have eB : ∀ i : Int, 0 ≤ i → i < l.length → (l.map (ofB (kep l m))).getD i.toNat default = ofB (kep l m) (l.getD i.toNat default) := fun i q1 q2 => getD_map_in _ _ _ _ (by omega)
            have lF : (l.map (ofF (kep l m))).length = l.length := List.length_map ..
            have lB : (l.map (ofB (kep l m))).length = l.length := List.length_map ..
            have hap := fun s hs => of_ap (kpt_good hk) (s := s) hs
            have hbd := fun s hs => apSp_bd (kpt_good hk) (s := s) hs
            generalize l.map (ofF (kep l m)) = F at *
            generalize l.map (ofB (kep l m)) = B at *
            simp (maxSteps := 1000000) (disch := omega) only [go_sem, eq_self, decide_true, decide_false, not_true_eq_false, not_false_eq_true, reduceIte, reduceCtorEq, Nat.reduceEqDiff, Nat.reduceAdd, Nat.reduceSub, Nat.reduceLeDiff]
            refine ex_loop1 (fo3St dv mg l F B) (fun i => 0 ≤ i ∧ i ≤ l.length ∧ ∀ t : Int, 0 ≤ t → t < i → (l.getD t.toNat default).q ≠ 2 → (apSp (kep l m) (l.getD t.toNat default)).2 = true ∧ (apSp (kep l m) (l.getD t.toNat default)).1.1 ≤ dv * (apSp (kep l m) (l.getD t.toNat default)).1.2) (fun i => (l.length - i).toNat) 0 ⟨by omega, by omega, fun t h1 h2 => by omega⟩ rfl ?_
            rintro i ⟨b1, b2, b3⟩
            unfold fo3St
            by_cases hi : i < l.length
            · have em := getD_map_at smpC l i [] b1 hi
              have ho := hg.ok i.toNat (by omega)
              obtain ⟨p1, p2⟩ := hap _ ho
              have p3 := hbd _ ho
              have q1 := eF i b1 hi
              have q2 := eB i b1 hi
              have nx : ((l.getD i.toNat default).q ≠ 2 → (apSp (kep l m) (l.getD i.toNat default)).2 = true ∧ (apSp (kep l m) (l.getD i.toNat default)).1.1 ≤ dv * (apSp (kep l m) (l.getD i.toNat default)).1.2) → ∀ t : Int, 0 ≤ t → t < i + 1 → (l.getD t.toNat default).q ≠ 2 → (apSp (kep l m) (l.getD t.toNat default)).2 = true ∧ (apSp (kep l m) (l.getD t.toNat default)).1.1 ≤ dv * (apSp (kep l m) (l.getD t.toNat default)).1.2 := fun h t h1 h2 => by
                by_cases e : t = i
                · subst e; exact h
                · exact b3 t h1 (by omega)
              have no2 : (l.getD i.toNat default).q ≠ 2 → ¬((apSp (kep l m) (l.getD i.toNat default)).2 = true ∧ (apSp (kep l m) (l.getD i.toNat default)).1.1 ≤ dv * (apSp (kep l m) (l.getD i.toNat default)).1.2) → fitB dv mg l m = false := fun e1 e2 => no (fun W => W.d i b1 hi e1) e2
              clear b3
              by_cases d1 : (l.getD i.toNat default).q = 2
              · have nx' := nx (fun h => absurd d1 h)
                clear nx
                simp (maxSteps := 1000000) (disch := omega) only [go_sem, eq_self, decide_true, decide_false, not_true_eq_false, not_false_eq_true, reduceIte, reduceCtorEq, Nat.reduceEqDiff, Nat.reduceAdd, Nat.reduceSub, Nat.reduceLeDiff]
                exact ⟨i + 1, rfl, ⟨by omega, by omega, nx'⟩, by omega⟩
              · cases hb : (apSp (kep l m) (l.getD i.toNat default)).2 with
                | false =>
                  rw [no2 d1 (by rw [hb]; rintro ⟨h, _⟩; cases h)]
                  rw [p1, hb] at q2
                  clear nx no2
                  simp (maxSteps := 1000000) (disch := omega) only [go_sem, eq_self, decide_true, decide_false, not_true_eq_false, not_false_eq_true, reduceIte, reduceCtorEq, Nat.reduceEqDiff, Nat.reduceAdd, Nat.reduceSub, Nat.reduceLeDiff]
                  rw [q2]
                  simp (maxSteps := 1000000) (disch := omega) only [go_sem, eq_self, decide_true, decide_false, not_true_eq_false, not_false_eq_true, reduceIte, reduceCtorEq, Nat.reduceEqDiff, Nat.reduceAdd, Nat.reduceSub, Nat.reduceLeDiff]
                | true =>
                  have p4 := p3 hb
                  have p5 := p2 hb
                  rw [p1, hb] at q2
                  rw [p5] at q1
                  have hnx := nx
                  clear nx
                  generalize apSp (kep l m) (l.getD i.toNat default) = y at *
                  obtain ⟨⟨yn, yd⟩, yb⟩ := y
                  simp only at p4 q1 hnx no2
                  have p6 := low_pos p4.1.1 p4.2.1
                  have hlt := lessThan_fc dv 1 (lowN yn yd) (lowD yn yd) (by omega) (by omega) (by omega) (by omega)
                  have hl1 := low_lt1 (n := yn) (d := yd) (dv := dv) p4.2.1
                  by_cases d2 : yn ≤ dv * yd
                  · rw [decide_eq_false (show ¬(dv * lowD yn yd < lowN yn yd * 1) from fun h => by have := hl1.1 h; omega)] at hlt
                    have hnx' := hnx (fun _ => ⟨hb, d2⟩)
                    clear hnx no2
                    simp (maxSteps := 1000000) (disch := omega) only [go_sem, eq_self, decide_true, decide_false, not_true_eq_false, not_false_eq_true, reduceIte, reduceCtorEq, Nat.reduceEqDiff, Nat.reduceAdd, Nat.reduceSub, Nat.reduceLeDiff]
                    rw [q2]
                    simp (maxSteps := 1000000) (disch := omega) only [go_sem, eq_self, decide_true, decide_false, not_true_eq_false, not_false_eq_true, reduceIte, reduceCtorEq, Nat.reduceEqDiff, Nat.reduceAdd, Nat.reduceSub, Nat.reduceLeDiff]
                    rw [q1]
                    refine CALL_det hlt (.inl rfl) ?_
                    simp (maxSteps := 1000000) (disch := omega) only [go_sem, eq_self, decide_true, decide_false, not_true_eq_false, not_false_eq_true, reduceIte, reduceCtorEq, Nat.reduceEqDiff, Nat.reduceAdd, Nat.reduceSub, Nat.reduceLeDiff]
                    exact ⟨i + 1, rfl, ⟨by omega, by omega, hnx'⟩, by omega⟩
                  · rw [decide_eq_true (show dv * lowD yn yd < lowN yn yd * 1 from hl1.2 (by omega))] at hlt
                    rw [no2 d1 (by rintro ⟨_, h⟩; exact d2 h)]
                    clear hnx no2
                    simp (maxSteps := 1000000) (disch := omega) only [go_sem, eq_self, decide_true, decide_false, not_true_eq_false, not_false_eq_true, reduceIte, reduceCtorEq, Nat.reduceEqDiff, Nat.reduceAdd, Nat.reduceSub, Nat.reduceLeDiff]
                    rw [q2]
                    simp (maxSteps := 1000000) (disch := omega) only [go_sem, eq_self, decide_true, decide_false, not_true_eq_false, not_false_eq_true, reduceIte, reduceCtorEq, Nat.reduceEqDiff, Nat.reduceAdd, Nat.reduceSub, Nat.reduceLeDiff]
                    rw [q1]
                    refine CALL_det hlt (.inl rfl) ?_
                    simp (maxSteps := 1000000) (disch := omega) only [go_sem, eq_self, decide_true, decide_false, not_true_eq_false, not_false_eq_true, reduceIte, reduceCtorEq, Nat.reduceEqDiff, Nat.reduceAdd, Nat.reduceSub, Nat.reduceLeDiff]
            · obtain rfl : i = l.length := by omega
              rw [w_fit h0 hd.1 hk ⟨c1, c2, g3, fun j hj => k3 j (by omega), b3⟩]
              simp (maxSteps := 1000000) (disch := omega) only [go_sem, eq_self, decide_true, decide_false, not_true_eq_false, not_false_eq_true, reduceIte, reduceCtorEq, Nat.reduceEqDiff, Nat.reduceAdd, Nat.reduceSub, Nat.reduceLeDiff]
      · rw [decide_eq_false c2] at hc9
        rw [no (fun W => W.e) c2]
        simp (maxSteps := 1000000) (disch := omega) only [go_sem, eq_self, decide_true, decide_false, not_true_eq_false, not_false_eq_true, reduceIte, reduceCtorEq, Nat.reduceEqDiff, Nat.reduceAdd, Nat.reduceSub, Nat.reduceLeDiff]
        refine CALL_det hc0 (.inl rfl) ?_
        simp (maxSteps := 1000000) (disch := omega) only [go_sem, eq_self, decide_true, decide_false, not_true_eq_false, not_false_eq_true, reduceIte, reduceCtorEq, Nat.reduceEqDiff, Nat.reduceAdd, Nat.reduceSub, Nat.reduceLeDiff]
        refine CALL_det hc9 (.inl rfl) ?_
        simp (maxSteps := 1000000) (disch := omega) only [go_sem, eq_self, decide_true, decide_false, not_true_eq_false, not_false_eq_true, reduceIte, reduceCtorEq, Nat.reduceEqDiff, Nat.reduceAdd, Nat.reduceSub, Nat.reduceLeDiff]
    · rw [decide_eq_false c1] at hc0
      rw [no (fun W => W.z) c1]
      simp (maxSteps := 1000000) (disch := omega) only [go_sem, eq_self, decide_true, decide_false, not_true_eq_false, not_false_eq_true, reduceIte, reduceCtorEq, Nat.reduceEqDiff, Nat.reduceAdd, Nat.reduceSub, Nat.reduceLeDiff]
      refine CALL_det hc0 (.inl rfl) ?_
      simp (maxSteps := 1000000) (disch := omega) only [go_sem, eq_self, decide_true, decide_false, not_true_eq_false, not_false_eq_true, reduceIte, reduceCtorEq, Nat.reduceEqDiff, Nat.reduceAdd, Nat.reduceSub, Nat.reduceLeDiff]
end Go.Proofs.Ytggbcgldnjmobaa


/-
  The streams of numbers: Below, Next, Range, Flip, Pick, Odd: what they draw and hand back.
-/
import Derived.Test.YtggbcgldnjmobaaDoorAiGen
import Derived.Test.YtggbcgldnjmobaaDoorProg
namespace Go.Proofs.YtggbcgldnjmobaaDoor
open Go Go.Ai
set_option linter.unusedSimpArgs false
set_option linter.unusedVariables false
set_option maxHeartbeats 4000000
def A_below : List Ann := [⟨(some ⟨[0,1], [], []⟩), [], [], [], []⟩, ⟨(some ⟨[0,1,6], [], []⟩), [], [], [], []⟩, ⟨(some ⟨[4], [], []⟩), [], [], [], []⟩, ⟨(some ⟨[0,1], [], []⟩), [], [], [], []⟩, ⟨(some ⟨[0,1,11], [], []⟩), [], [], [], []⟩, ⟨(some ⟨[0], [], []⟩), [], [], [], []⟩, ⟨(some ⟨[4], [], []⟩), [], [], [], []⟩]
def C_below : AC := (.seq (.reg false [⟨(some 4), none, .mv (.v (.int .i64 (0)))⟩] (some ⟨[0,1], [], []⟩))
  (.seq (.seq (.reg false [⟨(some 5), none, .mv (.t 1)⟩, ⟨(some 6), none, .bin .lss (.t 5) (.v (.int .i64 (1)))⟩] (some ⟨[0,1,6], [], []⟩))
  (.cond (.t 6)
  (.seq (.reg false [⟨(some 4), none, .mv (.v (.int .i64 (0)))⟩] (some ⟨[4], [], []⟩))
  .ret)
  .skip))
  (.seq (.reg false [⟨(some 7), none, .mv (.t 0)⟩, ⟨(some 8), none, .mv (.t 1)⟩, ⟨(some 9), none, .bin .rem (.t 7) (.t 8)⟩, ⟨(some 0), none, .mv (.t 9)⟩] (some ⟨[0,1], [], []⟩))
  (.seq (.seq (.reg false [⟨(some 10), none, .mv (.t 0)⟩, ⟨(some 11), none, .bin .lss (.t 10) (.v (.int .i64 (0)))⟩] (some ⟨[0,1,11], [], []⟩))
  (.cond (.t 11)
  (.reg false [⟨(some 12), none, .mv (.t 0)⟩, ⟨(some 13), none, .mv (.t 1)⟩, ⟨(some 14), none, .bin .add (.t 12) (.t 13)⟩, ⟨(some 0), none, .mv (.t 14)⟩] (some ⟨[0], [], []⟩))
  .skip))
  (.seq (.reg false [⟨(some 15), none, .mv (.t 0)⟩, ⟨(some 4), none, .mv (.t 15)⟩] (some ⟨[4], [], []⟩))
  .ret)))))
theorem c_below : compileCode Tryd.prog Tryd.f38.ntmps (Tryd.f38.body.getD .skip) A_below = some (C_below, []) := by kernel_rfl
theorem r_below : compileRes Tryd.prog Tryd.f38.results.toList = some [.t 4] := by kernel_rfl
theorem b_below : Tryd.f38.body = some (Tryd.f38.body.getD .skip) := by kernel_rfl
theorem n_below : (Tryd.f38.name == "runtime.NumGoroutine") = false := by kernel_rfl
theorem fc_below {xt : Option (List Cel)} {args : List Val} {R : List Cel → Val → Prop} (hn : (if xt.isSome then 1 else 0) + args.length ≤ Tryd.f38.ntmps) (h : ex Tryd.prog C_below [] (fpost xt [.t 4] R) (initSt xt args)) : FC Tryd.prog 38 xt args R :=
  fc_of_awp Tryd.func38 b_below n_below c_below r_below (of_decide_eq_true (by kernel_rfl)) hn h

def A_next : List Ann := [⟨(some ⟨[0,1], [0], []⟩), [], [], [], []⟩, ⟨(some ⟨[0,1], [0], []⟩), [], [], [], []⟩, ⟨(some ⟨[0,1,19], [0], []⟩), [], [], [], []⟩, ⟨(some ⟨[4], [0], []⟩), [], [], [], []⟩, ⟨(some ⟨[0,1,5], [0], []⟩), [], [], [], []⟩, ⟨(some ⟨[0,1,5,6], [0], []⟩), [], [], [], []⟩, ⟨(some ⟨[4], [0], []⟩), [], [], [], []⟩]
def C_next : AC := (.seq (.reg false [⟨(some 4), none, .mv (.v (.int .i64 (0)))⟩] (some ⟨[0,1], [0], []⟩))
  (.seq (.reg false [⟨(some 7), none, .mv (.t 0)⟩, ⟨(some 8), none, .nilchk (.t 7)⟩, ⟨(some 9), none, .fadr 1 (.t 8)⟩, ⟨(some 10), none, .load false 1 (.t 9)⟩, ⟨(some 11), none, .bin .add (.t 10) (.v (.int .i64 (1)))⟩, ⟨(some 12), none, .nilchk (.t 7)⟩, ⟨(some 13), none, .fadr 1 (.t 12)⟩, ⟨none, none, .store 1 (.t 13) (.t 11)⟩] (some ⟨[0,1], [0], []⟩))
  (.seq (.seq (.reg false [⟨(some 14), none, .mv (.t 0)⟩, ⟨(some 15), none, .nilchk (.t 14)⟩, ⟨(some 16), none, .fadr 0 (.t 15)⟩, ⟨(some 17), none, .load false 1 (.t 16)⟩, ⟨(some 18), none, .len (.t 17)⟩, ⟨(some 19), none, .bin .eql (.t 18) (.v (.int .i64 (0)))⟩] (some ⟨[0,1,19], [0], []⟩))
  (.cond (.t 19)
  (.seq (.reg false [⟨(some 20), none, .mv (.t 0)⟩, ⟨(some 21), none, .nilchk (.t 20)⟩, ⟨(some 22), none, .fadr 1 (.t 21)⟩, ⟨(some 23), none, .load false 1 (.t 22)⟩, ⟨(some 24), none, .bin .mul (.t 23) (.v (.int .i64 (7919)))⟩, ⟨(some 25), none, .mv (.t 1)⟩, ⟨(some 26), none, .call (.f 38) [(.t 24), (.t 25)]⟩, ⟨(some 4), none, .mv (.t 26)⟩] (some ⟨[4], [0], []⟩))
  .ret)
  .skip))
  (.seq (.reg true [⟨(some 27), none, .mv (.t 0)⟩, ⟨(some 28), none, .nilchk (.t 27)⟩, ⟨(some 29), none, .fadr 1 (.t 28)⟩, ⟨(some 30), none, .load false 1 (.t 29)⟩, ⟨(some 31), none, .bin .sub (.t 30) (.v (.int .i64 (1)))⟩, ⟨(some 32), none, .mv (.t 0)⟩, ⟨(some 33), none, .nilchk (.t 32)⟩, ⟨(some 34), none, .fadr 0 (.t 33)⟩, ⟨(some 35), none, .load false 1 (.t 34)⟩, ⟨(some 36), none, .len (.t 35)⟩, ⟨(some 37), none, .bin .rem (.t 31) (.t 36)⟩, ⟨(some 5), none, .mv (.t 37)⟩] (some ⟨[0,1,5], [0], []⟩))
  (.seq (.reg true [⟨(some 38), none, .mv (.t 0)⟩, ⟨(some 39), none, .nilchk (.t 38)⟩, ⟨(some 40), none, .fadr 1 (.t 39)⟩, ⟨(some 41), none, .load false 1 (.t 40)⟩, ⟨(some 42), none, .bin .sub (.t 41) (.v (.int .i64 (1)))⟩, ⟨(some 43), none, .mv (.t 0)⟩, ⟨(some 44), none, .nilchk (.t 43)⟩, ⟨(some 45), none, .fadr 0 (.t 44)⟩, ⟨(some 46), none, .load false 1 (.t 45)⟩, ⟨(some 47), none, .len (.t 46)⟩, ⟨(some 48), none, .bin .quo (.t 42) (.t 47)⟩, ⟨(some 6), none, .mv (.t 48)⟩] (some ⟨[0,1,5,6], [0], []⟩))
  (.seq (.reg false [⟨(some 49), none, .mv (.t 0)⟩, ⟨(some 50), none, .nilchk (.t 49)⟩, ⟨(some 51), none, .fadr 0 (.t 50)⟩, ⟨(some 52), none, .load false 1 (.t 51)⟩, ⟨(some 53), none, .mv (.t 5)⟩, ⟨(some 54), none, .iadr 1 (.t 52) (.t 53)⟩, ⟨(some 55), none, .load false 1 (.t 54)⟩, ⟨(some 56), none, .call (.f 38) [(.t 55), (.v (.int .i64 (1073741824)))]⟩, ⟨(some 57), none, .mv (.t 6)⟩, ⟨(some 58), none, .mv (.t 5)⟩, ⟨(some 59), none, .bin .add (.v (.int .i64 (7919))) (.t 58)⟩, ⟨(some 60), none, .bin .mul (.t 57) (.t 59)⟩, ⟨(some 61), none, .bin .add (.t 56) (.t 60)⟩, ⟨(some 62), none, .mv (.t 1)⟩, ⟨(some 63), none, .call (.f 38) [(.t 61), (.t 62)]⟩, ⟨(some 4), none, .mv (.t 63)⟩] (some ⟨[4], [0], []⟩))
  .ret))))))
theorem c_next : compileCode Tryd.prog Tryd.f20.ntmps (Tryd.f20.body.getD .skip) A_next = some (C_next, []) := by kernel_rfl
theorem r_next : compileRes Tryd.prog Tryd.f20.results.toList = some [.t 4] := by kernel_rfl
theorem b_next : Tryd.f20.body = some (Tryd.f20.body.getD .skip) := by kernel_rfl
theorem n_next : (Tryd.f20.name == "runtime.NumGoroutine") = false := by kernel_rfl
theorem fc_next {xt : Option (List Cel)} {args : List Val} {R : List Cel → Val → Prop} (hn : (if xt.isSome then 1 else 0) + args.length ≤ Tryd.f20.ntmps) (h : ex Tryd.prog C_next [] (fpost xt [.t 4] R) (initSt xt args)) : FC Tryd.prog 20 xt args R :=
  fc_of_awp Tryd.func20 b_next n_next c_next r_next (of_decide_eq_true (by kernel_rfl)) hn h

def A_range : List Ann := [⟨(some ⟨[0,1,2], [0], []⟩), [], [], [], []⟩, ⟨(some ⟨[0,1,2,9], [0], []⟩), [], [], [], []⟩, ⟨(some ⟨[6], [0], []⟩), [], [], [], []⟩, ⟨(some ⟨[6], [0], []⟩), [], [], [], []⟩]
def C_range : AC := (.seq (.reg false [⟨(some 6), none, .mv (.v (.int .i64 (0)))⟩] (some ⟨[0,1,2], [0], []⟩))
  (.seq (.seq (.reg false [⟨(some 7), none, .mv (.t 2)⟩, ⟨(some 8), none, .mv (.t 1)⟩, ⟨(some 9), none, .bin .lss (.t 7) (.t 8)⟩] (some ⟨[0,1,2,9], [0], []⟩))
  (.cond (.t 9)
  (.seq (.reg false [⟨(some 10), none, .mv (.t 1)⟩, ⟨(some 6), none, .mv (.t 10)⟩] (some ⟨[6], [0], []⟩))
  .ret)
  .skip))
  (.seq (.reg false [⟨(some 11), none, .mv (.t 1)⟩, ⟨(some 12), none, .mv (.t 0)⟩, ⟨(some 13), none, .mv (.t 2)⟩, ⟨(some 14), none, .mv (.t 1)⟩, ⟨(some 15), none, .bin .sub (.t 13) (.t 14)⟩, ⟨(some 16), none, .bin .add (.t 15) (.v (.int .i64 (1)))⟩, ⟨(some 17), none, .callx (.f 20) [(.t 12), (.t 16)]⟩, ⟨(some 18), none, .bin .add (.t 11) (.t 17)⟩, ⟨(some 6), none, .mv (.t 18)⟩] (some ⟨[6], [0], []⟩))
  .ret)))
theorem c_range : compileCode Tryd.prog Tryd.f21.ntmps (Tryd.f21.body.getD .skip) A_range = some (C_range, []) := by kernel_rfl
theorem r_range : compileRes Tryd.prog Tryd.f21.results.toList = some [.t 6] := by kernel_rfl
theorem b_range : Tryd.f21.body = some (Tryd.f21.body.getD .skip) := by kernel_rfl
theorem n_range : (Tryd.f21.name == "runtime.NumGoroutine") = false := by kernel_rfl
theorem fc_range {xt : Option (List Cel)} {args : List Val} {R : List Cel → Val → Prop} (hn : (if xt.isSome then 1 else 0) + args.length ≤ Tryd.f21.ntmps) (h : ex Tryd.prog C_range [] (fpost xt [.t 6] R) (initSt xt args)) : FC Tryd.prog 21 xt args R :=
  fc_of_awp Tryd.func21 b_range n_range c_range r_range (of_decide_eq_true (by kernel_rfl)) hn h

def A_flip : List Ann := [⟨(some ⟨[0,1], [0], []⟩), [], [], [], []⟩, ⟨(some ⟨[4], [0], []⟩), [], [], [], []⟩]
def C_flip : AC := (.seq (.reg false [⟨(some 4), none, .mv (.v (.bool false))⟩] (some ⟨[0,1], [0], []⟩))
  (.seq (.reg false [⟨(some 5), none, .mv (.t 0)⟩, ⟨(some 6), none, .mv (.t 1)⟩, ⟨(some 7), none, .callx (.f 20) [(.t 5), (.t 6)]⟩, ⟨(some 8), none, .bin .eql (.t 7) (.v (.int .i64 (0)))⟩, ⟨(some 4), none, .mv (.t 8)⟩] (some ⟨[4], [0], []⟩))
  .ret))
theorem c_flip : compileCode Tryd.prog Tryd.f6.ntmps (Tryd.f6.body.getD .skip) A_flip = some (C_flip, []) := by kernel_rfl
theorem r_flip : compileRes Tryd.prog Tryd.f6.results.toList = some [.t 4] := by kernel_rfl
theorem b_flip : Tryd.f6.body = some (Tryd.f6.body.getD .skip) := by kernel_rfl
theorem n_flip : (Tryd.f6.name == "runtime.NumGoroutine") = false := by kernel_rfl
theorem fc_flip {xt : Option (List Cel)} {args : List Val} {R : List Cel → Val → Prop} (hn : (if xt.isSome then 1 else 0) + args.length ≤ Tryd.f6.ntmps) (h : ex Tryd.prog C_flip [] (fpost xt [.t 4] R) (initSt xt args)) : FC Tryd.prog 6 xt args R :=
  fc_of_awp Tryd.func6 b_flip n_flip c_flip r_flip (of_decide_eq_true (by kernel_rfl)) hn h

def A_pick : List Ann := [⟨(some ⟨[0,1], [0], []⟩), [], [], [], []⟩, ⟨(some ⟨[4], [0], []⟩), [], [], [], []⟩]
def C_pick : AC := (.seq (.reg false [⟨(some 4), none, .mv (.v (.int .i64 (0)))⟩] (some ⟨[0,1], [0], []⟩))
  (.seq (.reg false [⟨(some 5), none, .mv (.t 1)⟩, ⟨(some 6), none, .mv (.t 0)⟩, ⟨(some 7), none, .mv (.t 1)⟩, ⟨(some 8), none, .len (.t 7)⟩, ⟨(some 9), none, .callx (.f 20) [(.t 6), (.t 8)]⟩, ⟨(some 10), none, .iadr 1 (.t 5) (.t 9)⟩, ⟨(some 11), none, .load false 1 (.t 10)⟩, ⟨(some 4), none, .mv (.t 11)⟩] (some ⟨[4], [0], []⟩))
  .ret))
theorem c_pick : compileCode Tryd.prog Tryd.f4.ntmps (Tryd.f4.body.getD .skip) A_pick = some (C_pick, []) := by kernel_rfl
theorem r_pick : compileRes Tryd.prog Tryd.f4.results.toList = some [.t 4] := by kernel_rfl
theorem b_pick : Tryd.f4.body = some (Tryd.f4.body.getD .skip) := by kernel_rfl
theorem n_pick : (Tryd.f4.name == "runtime.NumGoroutine") = false := by kernel_rfl
theorem fc_pick {xt : Option (List Cel)} {args : List Val} {R : List Cel → Val → Prop} (hn : (if xt.isSome then 1 else 0) + args.length ≤ Tryd.f4.ntmps) (h : ex Tryd.prog C_pick [] (fpost xt [.t 4] R) (initSt xt args)) : FC Tryd.prog 4 xt args R :=
  fc_of_awp Tryd.func4 b_pick n_pick c_pick r_pick (of_decide_eq_true (by kernel_rfl)) hn h

def A_odd : List Ann := [⟨(some ⟨[0,1,2], [0], []⟩), [], [], [], []⟩, ⟨(some ⟨[0,1,2,8], [0], []⟩), [], [], [], []⟩, ⟨(some ⟨[6], [0], []⟩), [], [], [], []⟩, ⟨(some ⟨[6], [0], []⟩), [], [], [], []⟩]
def C_odd : AC := (.seq (.reg false [⟨(some 6), none, .mv (.v (.int .i64 (0)))⟩] (some ⟨[0,1,2], [0], []⟩))
  (.seq (.seq (.reg false [⟨(some 7), none, .mv (.t 0)⟩, ⟨(some 8), none, .callx (.f 6) [(.t 7), (.v (.int .i64 (12)))]⟩] (some ⟨[0,1,2,8], [0], []⟩))
  (.cond (.t 8)
  (.seq (.reg false [⟨(some 9), none, .mv (.t 0)⟩, ⟨(some 10), none, .mv (.t 1)⟩, ⟨(some 11), none, .bin .sub (.t 10) (.v (.int .i64 (1)))⟩, ⟨(some 12), none, .mv (.t 2)⟩, ⟨(some 13), none, .bin .add (.t 12) (.v (.int .i64 (1)))⟩, ⟨(some 14), none, .mv (.t 1)⟩, ⟨(some 15), none, .mv (.t 2)⟩, ⟨(some 16), none, .bslice 1 6 [(.t 11), (.t 13), (.t 14), (.t 15), (.v (.int .i64 (-1099511627776))), (.v (.int .i64 (1099511627776)))]⟩, ⟨(some 17), none, .callx (.f 4) [(.t 9), (.t 16)]⟩, ⟨(some 6), none, .mv (.t 17)⟩] (some ⟨[6], [0], []⟩))
  .ret)
  .skip))
  (.seq (.reg false [⟨(some 18), none, .mv (.t 0)⟩, ⟨(some 19), none, .mv (.t 1)⟩, ⟨(some 20), none, .mv (.t 2)⟩, ⟨(some 21), none, .callx (.f 21) [(.t 18), (.t 19), (.t 20)]⟩, ⟨(some 6), none, .mv (.t 21)⟩] (some ⟨[6], [0], []⟩))
  .ret)))
theorem c_odd : compileCode Tryd.prog Tryd.f7.ntmps (Tryd.f7.body.getD .skip) A_odd = some (C_odd, []) := by kernel_rfl
theorem r_odd : compileRes Tryd.prog Tryd.f7.results.toList = some [.t 6] := by kernel_rfl
theorem b_odd : Tryd.f7.body = some (Tryd.f7.body.getD .skip) := by kernel_rfl
theorem n_odd : (Tryd.f7.name == "runtime.NumGoroutine") = false := by kernel_rfl
theorem fc_odd {xt : Option (List Cel)} {args : List Val} {R : List Cel → Val → Prop} (hn : (if xt.isSome then 1 else 0) + args.length ≤ Tryd.f7.ntmps) (h : ex Tryd.prog C_odd [] (fpost xt [.t 6] R) (initSt xt args)) : FC Tryd.prog 7 xt args R :=
  fc_of_awp Tryd.func7 b_odd n_odd c_odd r_odd (of_decide_eq_true (by kernel_rfl)) hn h



theorem below_fc (x n : Int) (h1 : 1 ≤ n) (hn : n ≤ 9223372036854775807) (hx : I64 x) : FC Tryd.prog 38 none [iv x, iv n] (fun _ r => r = iv (x % n)) := by
  refine fc_below (by simp +arith) ?_
  obtain ⟨hx1, hx2⟩ := hx
  unfold C_below
  simp (maxSteps := 1000000) (disch := omega) only [go_sem, eq_self, decide_true, decide_false, not_true_eq_false, not_false_eq_true, reduceIte, reduceCtorEq, Nat.reduceEqDiff, Nat.reduceAdd, Nat.reduceSub, Nat.reduceLeDiff]
  have e1 : x.tmod n = if 0 ≤ x then x % n else if n ∣ x then 0 else x % n - n := by
    rw [Int.tmod_eq_emod]
    by_cases h3 : 0 ≤ x
    · simp [h3]
    · by_cases h4 : n ∣ x
      · simp [h4, Int.emod_eq_zero_of_dvd h4]
      · simp only [h3, h4, or_self, if_false]; omega
  have e2 := Int.emod_nonneg x (show n ≠ 0 by omega)
  have e3 := Int.emod_lt_of_pos x (show 0 < n by omega)
  have e4 : n ∣ x → x % n = 0 := fun h => Int.emod_eq_zero_of_dvd h
  refine ⟨fun h => ?_, fun h => ?_⟩
  · rw [e1] at h ⊢
    split at h
    · omega
    · rename_i h3
      rw [if_neg h3]
      split at h
      · omega
      · rename_i h4
        rw [if_neg h4, wrap_i64 _ (by omega) (by omega)]
        show iv _ = iv _
        congr 4
        omega
  · rw [e1] at h ⊢
    split at h
    · rename_i h3; rw [if_pos h3]
    · rename_i h3
      rw [if_neg h3]
      split at h
      · rename_i h4; rw [if_pos h4, e4 h4]
      · omega
theorem next_fc (n : Int) (h1 : 1 ≤ n) (hn : n ≤ 9223372036854775807) : Gen Tryd.prog 20 [iv n] 1 (fun r => ∃ x, 0 ≤ x ∧ x < n ∧ r = iv x) := by
  intro L p hL hl h0 hp
  refine fc_next (by simp +arith) ?_
  have e0 : ∀ x, 0 ≤ x % n ∧ x % n < n := fun x => ⟨Int.emod_nonneg x (by omega), Int.emod_lt_of_pos x (by omega)⟩
  unfold C_next strm
  simp (maxSteps := 1000000) (disch := omega) only [go_sem, eq_self, decide_true, decide_false, not_true_eq_false, not_false_eq_true, reduceIte, reduceCtorEq, Nat.reduceEqDiff, Nat.reduceAdd, Nat.reduceSub, Nat.reduceLeDiff]
  refine ⟨fun h => ?_, fun h => ?_⟩
  · refine CALL_det (below_fc _ n h1 hn (wrap_in _)) (.inl rfl) ?_
    simp (maxSteps := 1000000) (disch := omega) only [go_sem, eq_self, decide_true, decide_false, not_true_eq_false, not_false_eq_true, reduceIte, reduceCtorEq, Nat.reduceEqDiff, Nat.reduceAdd, Nat.reduceSub, Nat.reduceLeDiff]
    exact ⟨⟨p + 1, by omega, by omega, rfl⟩, _, (e0 _).1, (e0 _).2, rfl⟩
  · have h3 : 0 < (L.length : Int) := by omega
    have h4 : (p + 1 - 1).tmod (L.length : Int) = (p + 1 - 1) % (L.length : Int) := Int.tmod_eq_emod_of_nonneg (by omega)
    have h5 := Int.emod_nonneg (p + 1 - 1) (show (L.length : Int) ≠ 0 by omega)
    have h6 := Int.emod_lt_of_pos (p + 1 - 1) h3
    rw [h4]
    refine ⟨h, h, ⟨by omega, by omega⟩, ?_⟩
    simp (maxSteps := 1000000) (disch := omega) only [go_sem, eq_self, decide_true, decide_false, not_true_eq_false, not_false_eq_true, reduceIte, reduceCtorEq, Nat.reduceEqDiff, Nat.reduceAdd, Nat.reduceSub, Nat.reduceLeDiff]
    refine CALL_det (below_fc _ 1073741824 (by omega) (by omega) (hL _ (getD_mem _ _ (by omega)))) (.inl rfl) ?_
    simp (maxSteps := 1000000) (disch := omega) only [go_sem, eq_self, decide_true, decide_false, not_true_eq_false, not_false_eq_true, reduceIte, reduceCtorEq, Nat.reduceEqDiff, Nat.reduceAdd, Nat.reduceSub, Nat.reduceLeDiff]
    refine CALL_det (below_fc _ n h1 hn (wrap_in _)) (.inl rfl) ?_
    simp (maxSteps := 1000000) (disch := omega) only [go_sem, eq_self, decide_true, decide_false, not_true_eq_false, not_false_eq_true, reduceIte, reduceCtorEq, Nat.reduceEqDiff, Nat.reduceAdd, Nat.reduceSub, Nat.reduceLeDiff]
    exact ⟨⟨p + 1, by omega, by omega, rfl⟩, _, (e0 _).1, (e0 _).2, rfl⟩
theorem range_fc (lo hi : Int) (h1 : lo ≤ hi) (h2 : -4611686018427387904 ≤ lo) (h3 : hi ≤ 4611686018427387902) : Gen Tryd.prog 21 [iv lo, iv hi] 1 (fun r => ∃ x, lo ≤ x ∧ x ≤ hi ∧ r = iv x) := by
  intro L p hL hl h0 hp
  refine fc_range (by simp +arith) ?_
  unfold C_range strm
  simp (maxSteps := 1000000) (disch := omega) only [go_sem, eq_self, decide_true, decide_false, not_true_eq_false, not_false_eq_true, reduceIte, reduceCtorEq, Nat.reduceEqDiff, Nat.reduceAdd, Nat.reduceSub, Nat.reduceLeDiff]
  refine callx_gen (next_fc (hi - lo + 1) (by omega) (by omega)) hL hl h0 hp ⟨_, 0, by omega, by omega, rfl⟩ ?_
  rintro p' r h4 h5 ⟨x, h6, h7, rfl⟩
  refine ⟨rfl, ?_⟩
  unfold strm
  simp (maxSteps := 1000000) (disch := omega) only [go_sem, eq_self, decide_true, decide_false, not_true_eq_false, not_false_eq_true, reduceIte, reduceCtorEq, Nat.reduceEqDiff, Nat.reduceAdd, Nat.reduceSub, Nat.reduceLeDiff]
  exact ⟨⟨p', by omega, by omega, rfl⟩, _, by omega, by omega, rfl⟩
theorem flip_fc (n : Int) (h1 : 1 ≤ n) (hn : n ≤ 9223372036854775807) : Gen Tryd.prog 6 [iv n] 1 (fun r => ∃ b, r = bv b) := by
  intro L p hL hl h0 hp
  refine fc_flip (by simp +arith) ?_
  unfold C_flip strm
  simp (maxSteps := 1000000) (disch := omega) only [go_sem, eq_self, decide_true, decide_false, not_true_eq_false, not_false_eq_true, reduceIte, reduceCtorEq, Nat.reduceEqDiff, Nat.reduceAdd, Nat.reduceSub, Nat.reduceLeDiff]
  refine callx_gen (next_fc n h1 hn) hL hl h0 hp ⟨_, 0, by omega, by omega, rfl⟩ ?_
  rintro p' r h4 h5 ⟨x, h6, h7, rfl⟩
  refine ⟨rfl, ?_⟩
  unfold strm
  simp (maxSteps := 1000000) (disch := omega) only [go_sem, eq_self, decide_true, decide_false, not_true_eq_false, not_false_eq_true, reduceIte, reduceCtorEq, Nat.reduceEqDiff, Nat.reduceAdd, Nat.reduceSub, Nat.reduceLeDiff]
  exact ⟨⟨p', by omega, by omega, rfl⟩, _, rfl⟩
theorem pick_fc (fr : Bool) (l : List Int) (h1 : 0 < l.length) (h2 : l.length ≤ 9223372036854775807) : Gen Tryd.prog 4 [ints fr l] 1 (fun r => ∃ x ∈ l, r = iv x) := by
  intro L p hL hl h0 hp
  refine fc_pick (by simp +arith) ?_
  unfold C_pick strm
  simp (maxSteps := 1000000) (disch := omega) only [go_sem, eq_self, decide_true, decide_false, not_true_eq_false, not_false_eq_true, reduceIte, reduceCtorEq, Nat.reduceEqDiff, Nat.reduceAdd, Nat.reduceSub, Nat.reduceLeDiff]
  refine callx_gen (next_fc l.length (by omega) (by omega)) hL hl h0 hp ⟨_, 0, by omega, by omega, rfl⟩ ?_
  rintro p' r h4 h5 ⟨x, h6, h7, rfl⟩
  refine ⟨rfl, ?_⟩
  unfold strm
  simp (maxSteps := 1000000) (disch := omega) only [go_sem, eq_self, decide_true, decide_false, not_true_eq_false, not_false_eq_true, reduceIte, reduceCtorEq, Nat.reduceEqDiff, Nat.reduceAdd, Nat.reduceSub, Nat.reduceLeDiff]
  exact ⟨⟨p', by omega, by omega, rfl⟩, _, getD_mem _ _ (by omega), rfl⟩
theorem odd_fc (lo hi : Int) (h1 : lo ≤ hi) (h2 : -1152921504606846976 ≤ lo) (h3 : hi ≤ 1152921504606846976) : Gen Tryd.prog 7 [iv lo, iv hi] 2 (fun r => ∃ x, I64 x ∧ r = iv x) := by
  intro L p hL hl h0 hp
  refine fc_odd (by simp +arith) ?_
  unfold C_odd strm
  simp (maxSteps := 1000000) (disch := omega) only [go_sem, eq_self, decide_true, decide_false, not_true_eq_false, not_false_eq_true, reduceIte, reduceCtorEq, Nat.reduceEqDiff, Nat.reduceAdd, Nat.reduceSub, Nat.reduceLeDiff]
  refine callx_gen (flip_fc 12 (by omega) (by omega)) hL hl h0 (by omega) ⟨_, true, rfl⟩ ?_
  rintro p' r h4 h5 ⟨b, rfl⟩
  refine ⟨rfl, ?_⟩
  unfold strm
  simp (maxSteps := 1000000) (disch := omega) only [go_sem, eq_self, decide_true, decide_false, not_true_eq_false, not_false_eq_true, reduceIte, reduceCtorEq, Nat.reduceEqDiff, Nat.reduceAdd, Nat.reduceSub, Nat.reduceLeDiff]
  refine ⟨fun _ => ?_, fun _ => ?_⟩
  · refine callx_gen (pick_fc false [lo - 1, hi + 1, lo, hi, -1099511627776, 1099511627776] (by simp) (by simp)) hL hl (by omega) (by omega) ⟨_, lo, by simp, rfl⟩ ?_
    rintro p'' r h6 h7 ⟨x, hx, rfl⟩
    refine ⟨rfl, ?_⟩
    unfold strm
    simp (maxSteps := 1000000) (disch := omega) only [go_sem, eq_self, decide_true, decide_false, not_true_eq_false, not_false_eq_true, reduceIte, reduceCtorEq, Nat.reduceEqDiff, Nat.reduceAdd, Nat.reduceSub, Nat.reduceLeDiff]
    refine ⟨⟨p'', by omega, by omega, rfl⟩, _, ?_, rfl⟩
    simp only [List.mem_cons, List.not_mem_nil, or_false] at hx
    unfold I64; omega
  · refine callx_gen (range_fc lo hi h1 (by omega) (by omega)) hL hl (by omega) (by omega) ⟨_, lo, by omega, by omega, rfl⟩ ?_
    rintro p'' r h6 h7 ⟨x, hx, hx', rfl⟩
    refine ⟨rfl, ?_⟩
    unfold strm
    simp (maxSteps := 1000000) (disch := omega) only [go_sem, eq_self, decide_true, decide_false, not_true_eq_false, not_false_eq_true, reduceIte, reduceCtorEq, Nat.reduceEqDiff, Nat.reduceAdd, Nat.reduceSub, Nat.reduceLeDiff]
    exact ⟨⟨p'', by omega, by omega, rfl⟩, _, by unfold I64; omega, rfl⟩
end Go.Proofs.YtggbcgldnjmobaaDoor

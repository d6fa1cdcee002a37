
/-
  Reports: exceptions, doors, Report and the reference's: their answers are one.
-/
import Derived.Test.YtggbcgldnjmobaaDoorRec
import Derived.Test.YtggbcgldnjmobaaDoorCrossb
import Derived.Test.YtggbcgldnjmobaaDoorPts
namespace Go.Proofs.YtggbcgldnjmobaaDoor
open Go Go.Ai
set_option linter.unusedSimpArgs false
set_option linter.unusedVariables false
set_option maxHeartbeats 4000000
def A_first : List Ann := [⟨(some ⟨[0], [], []⟩), [], [], [], []⟩, ⟨(some ⟨[5,6,7], [], []⟩), [], [], [], []⟩, ⟨(some ⟨[5,6,7,8], [], []⟩), [], [], [], []⟩, ⟨(some ⟨[4,5,6,7], [], []⟩), [], [], [], []⟩, ⟨(some ⟨[4,5,6,7,12], [], []⟩), [], [], [], []⟩, ⟨(some ⟨[2], [], []⟩), [], [], [], []⟩, ⟨(some ⟨[5,6,7], [], []⟩), [], [], [], []⟩, ⟨(some ⟨[2], [], []⟩), [], [], [], []⟩]
def C_first : AC := (.seq (.reg false [⟨(some 2), none, .mv (.v (.int .i64 (0)))⟩] (some ⟨[0], [], []⟩))
  (.seq (.seq (.reg false [⟨(some 5), none, .mv (.t 0)⟩, ⟨(some 6), none, .len (.t 5)⟩, ⟨(some 7), none, .mv (.v (.int .i64 (0)))⟩] (some ⟨[5,6,7], [], []⟩))
  (.block 0 (.loop (.seq (.reg false [⟨(some 8), none, .bin .lss (.t 7) (.t 6)⟩] (some ⟨[5,6,7,8], [], []⟩))
  (.seq (.cond (.t 8)
  .skip
  (.exit 0))
  (.seq (.block 1 (.seq (.reg false [⟨(some 9), none, .iadr 1 (.t 5) (.t 7)⟩, ⟨(some 10), none, .load false 1 (.t 9)⟩, ⟨(some 4), none, .mv (.t 10)⟩] (some ⟨[4,5,6,7], [], []⟩))
  (.seq (.reg false [⟨(some 11), none, .mv (.t 4)⟩, ⟨(some 12), none, .bin .neq (.t 11) (.v (.int .i64 (0)))⟩] (some ⟨[4,5,6,7,12], [], []⟩))
  (.cond (.t 12)
  (.seq (.reg false [⟨(some 13), none, .mv (.t 4)⟩, ⟨(some 2), none, .mv (.t 13)⟩] (some ⟨[2], [], []⟩))
  .ret)
  .skip))))
  (.reg false [⟨(some 14), none, .bin .add (.t 7) (.v (.int .i64 (1)))⟩, ⟨(some 7), none, .mv (.t 14)⟩] (some ⟨[5,6,7], [], []⟩))))))))
  (.seq (.reg false [⟨(some 2), none, .mv (.v (.int .i64 (0)))⟩] (some ⟨[2], [], []⟩))
  .ret)))
theorem c_first : compileCode Tryd.prog Tryd.f27.ntmps (Tryd.f27.body.getD .skip) A_first = some (C_first, []) := by kernel_rfl
theorem r_first : compileRes Tryd.prog Tryd.f27.results.toList = some [.t 2] := by kernel_rfl
theorem b_first : Tryd.f27.body = some (Tryd.f27.body.getD .skip) := by kernel_rfl
theorem n_first : (Tryd.f27.name == "runtime.NumGoroutine") = false := by kernel_rfl
theorem fc_first {xt : Option (List Cel)} {args : List Val} {R : List Cel → Val → Prop} (hn : (if xt.isSome then 1 else 0) + args.length ≤ Tryd.f27.ntmps) (h : ex Tryd.prog C_first [] (fpost xt [.t 2] R) (initSt xt args)) : FC Tryd.prog 27 xt args R :=
  fc_of_awp Tryd.func27 b_first n_first c_first r_first (of_decide_eq_true (by kernel_rfl)) hn h


abbrev twoV (a b : Int) : Val := .ag [.g (.int .i64 a), .g (.int .i64 b)]
def excF (x y : Int) : Int := if 0 ≤ x ∧ x ≤ 2000000 ∧ 1 ≤ y ∧ y ≤ 34560000000 then 0 else 1
theorem excF_or (x y : Int) : orSp [if 0 ≤ x ∧ x ≤ 2000000 then 0 else 1, if 1 ≤ y ∧ y ≤ 34560000000 then 0 else 1] = excF x y := by
  unfold excF orSp orSp orSp; split <;> split <;> split <;> simp_all <;> omega
def fstSt (fr : Bool) (l : List Int) (i : Int) : AS := ⟨tabV [(5, ints fr l), (6, iv l.length), (7, iv i)], tabO [], tabO []⟩
theorem first_fc (fr : Bool) (l : List Int) (hl : l.length ≤ 4611686018427387904) : FC Tryd.prog 27 none [ints fr l] (fun _ r => r = iv (orSp l)) := by
  refine fc_first (by simp +arith) ?_
  unfold C_first
  simp (maxSteps := 1000000) (disch := omega) only [go_sem, eq_self, decide_true, decide_false, not_true_eq_false, not_false_eq_true, reduceIte, reduceCtorEq, Nat.reduceEqDiff, Nat.reduceAdd, Nat.reduceSub, Nat.reduceLeDiff]
  refine ex_loop1 (fstSt fr l) (fun i => 0 ≤ i ∧ i ≤ l.length ∧ orSp (l.drop i.toNat) = orSp l) (fun i => (l.length - i).toNat) 0 ⟨by omega, by omega, rfl⟩ rfl ?_
  rintro i ⟨g1, g2, g3⟩
  unfold fstSt
  by_cases hi : i < l.length
  · rw [drop_cons l i.toNat (by omega), orSp] at g3
    have e2 : (i + 1).toNat = i.toNat + 1 := by omega
    simp (maxSteps := 1000000) (disch := omega) only [go_sem, eq_self, decide_true, decide_false, not_true_eq_false, not_false_eq_true, reduceIte, reduceCtorEq, Nat.reduceEqDiff, Nat.reduceAdd, Nat.reduceSub, Nat.reduceLeDiff]
    refine ⟨fun h => ?_, fun h => ⟨i + 1, rfl, ⟨by omega, by omega, ?_⟩, by omega⟩⟩
    · rw [if_pos h] at g3; rw [g3]
    · rw [if_neg h] at g3; rw [e2]; exact g3
  · simp (maxSteps := 1000000) (disch := omega) only [go_sem, eq_self, decide_true, decide_false, not_true_eq_false, not_false_eq_true, reduceIte, reduceCtorEq, Nat.reduceEqDiff, Nat.reduceAdd, Nat.reduceSub, Nat.reduceLeDiff]
    rw [← g3, List.drop_eq_nil_of_le (by omega)]
    rfl
def idxE (x : Int) : Int → List Int → Int
  | _, [] => -1
  | i, y :: l => if x = y then i else idxE x (i + 1) l
theorem idxE_mem (x : Int) : ∀ (l : List Int) (i : Int), 0 ≤ i → (0 ≤ idxE x i l ↔ x ∈ l)
  | [], i, h => by simp [idxE]
  | y :: l, i, h => by
    rw [idxE, List.mem_cons]
    by_cases hx : x = y
    · rw [if_pos hx]; simp [hx, h]
    · rw [if_neg hx, idxE_mem x l (i + 1) (by omega)]; simp [hx]
def ixiSt (fr : Bool) (l : List Int) (x : Int) (i : Int) : AS := ⟨tabV [(0, ints fr l), (1, iv x), (7, iv l.length), (8, iv i)], tabO [], tabO []⟩
def eqISt (fr fr' : Bool) (l : List Int) (i : Int) : AS := ⟨tabV [(0, ints fr l), (1, ints fr' l), (12, iv l.length), (13, iv i)], tabO [], tabO []⟩
end Go.Proofs.YtggbcgldnjmobaaDoor

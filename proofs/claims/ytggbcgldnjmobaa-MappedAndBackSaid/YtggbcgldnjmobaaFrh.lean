
/-
  The reference's frames; overlaps, by both ways.
-/
import Derived.Test.YtggbcgldnjmobaaFrg
import Derived.Test.YtggbcgldnjmobaaFrl
namespace Go.Proofs.Ytggbcgldnjmobaa
open Go Go.Ai
set_option linter.unusedSimpArgs false
set_option linter.unusedVariables false
set_option maxHeartbeats 4000000
def A_rlong : List Ann := [⟨(some ⟨[1], [1], []⟩), [], [], [], []⟩, ⟨(some ⟨[2], [], []⟩), [], [], [], []⟩]
def C_rlong : AC := (.seq (.reg false [⟨(some 1), none, .box (.t 0)⟩, ⟨(some 2), none, .mv (.v (.int .i64 (0)))⟩] (some ⟨[1], [1], []⟩))
  (.seq (.reg false [⟨(some 3), none, .fadr 1 (.t 1)⟩, ⟨(some 4), none, .load false 1 (.t 3)⟩, ⟨(some 5), none, .fadr 0 (.t 1)⟩, ⟨(some 6), none, .load false 1 (.t 5)⟩, ⟨(some 7), none, .bin .sub (.t 4) (.t 6)⟩, ⟨(some 2), none, .mv (.t 7)⟩] (some ⟨[2], [], []⟩))
  .ret))
theorem c_rlong : compileCode Try.prog Try.f131.ntmps (Try.f131.body.getD .skip) A_rlong = some (C_rlong, []) := by kernel_rfl
theorem r_rlong : compileRes Try.prog Try.f131.results.toList = some [.t 2] := by kernel_rfl
theorem b_rlong : Try.f131.body = some (Try.f131.body.getD .skip) := by kernel_rfl
theorem n_rlong : (Try.f131.name == "runtime.NumGoroutine") = false := by kernel_rfl
theorem fc_rlong {xt : Option (List Cel)} {args : List Val} {R : List Cel → Val → Prop} (hn : (if xt.isSome then 1 else 0) + args.length ≤ Try.f131.ntmps) (h : ex Try.prog C_rlong [] (fpost xt [.t 2] R) (initSt xt args)) : FC Try.prog 131 xt args R :=
  fc_of_awp Try.func131 b_rlong n_rlong c_rlong r_rlong (of_decide_eq_true (by kernel_rfl)) hn h


theorem rlong_fc (f t : Int) (h1 : -4611686018427387904 ≤ t - f) (h2 : t - f ≤ 4611686018427387904) : FC Try.prog 131 none [winV f t] (fun _ r => r = iv (t - f)) := by
  refine fc_rlong (by simp +arith) ?_
  unfold C_rlong
  simp (maxSteps := 1000000) (disch := omega) only [go_sem, eq_self, decide_true, decide_false, not_true_eq_false, not_false_eq_true, reduceIte, reduceCtorEq, Nat.reduceEqDiff, Nat.reduceAdd, Nat.reduceSub, Nat.reduceLeDiff]
def ovSp (a b : List (Int × Int)) : List (Int × Int) × Int × Int := if orSp [fwF a, fwF b] ≠ 0 then ([], 0, orSp [fwF a, fwF b]) else (OV2 b a, lenS (OV2 b a), 0)
def ovSt (n : Int) (out A B : List (Int × Int)) : AS := ⟨tabV [(0, frsV false A), (1, frsV false B), (8, .one (.ow 8 0)), (9, iv n)], tabO [], tabO [(8, winRow out)]⟩
def ooSt (a b : List (Int × Int)) (i n : Int) (out : List (Int × Int)) : AS := ⟨tabV [(1, frsV false b), (6, .one (.ow 6 0)), (7, iv n), (13, frsV false a), (14, iv a.length), (15, iv i)], tabO [], tabO [(6, winRow out)]⟩
def oiSt (a b : List (Int × Int)) (i k n : Int) (out : List (Int × Int)) : AS := ⟨tabV [(1, frsV false b), (6, .one (.ow 6 0)), (7, iv n), (9, .one (.bx 9 0)), (13, frsV false a), (14, iv a.length), (15, iv i), (19, frsV false b), (20, iv b.length), (21, iv k)], tabO [(9, frC (a.getD i.toNat default))], tabO [(6, winRow out)]⟩
def fo1St (l : List Smp) (st sp jn ls un i : Int) (out : List (Int × Int)) (op : Bool) : AS := ⟨tabV [(2, iv un), (3, .one (.bx 3 0)), (8, .one (.ow 8 0)), (9, bv op), (16, smps false l), (17, iv l.length), (18, iv i)], tabO [(3, [.g (.int .i64 st), .g (.int .i64 sp), .g (.int .i64 jn), .g (.int .i64 ls)])], tabO [(8, winRow out)]⟩
def fo2St (m : List (Int × Int)) (st sp jn ls i : Int) (out : List (Int × Int)) : AS := ⟨tabV [(3, .one (.bx 3 0)), (12, .one (.ow 12 0)), (67, frsV true m), (68, iv m.length), (69, iv i)], tabO [(3, [.g (.int .i64 st), .g (.int .i64 sp), .g (.int .i64 jn), .g (.int .i64 ls)])], tabO [(12, winRow out)]⟩
def frmRf (l : List Smp) (st sp jn ls un : Int) : List (Int × Int) × Int := if (frmW st sp jn ls un l).length > 2000 then ([], 2) else (frmW st sp jn ls un l, 0)
end Go.Proofs.Ytggbcgldnjmobaa

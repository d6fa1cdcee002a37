
/-
  Fits: which samples can be kept without those between them.
-/
import Derived.Test.YtggbcgldnjmobaaErr
import Derived.Test.YtggbcgldnjmobaaRep
namespace Go.Proofs.Ytggbcgldnjmobaa
open Go Go.Ai
set_option linter.unusedSimpArgs false
set_option linter.unusedVariables false
set_option maxHeartbeats 4000000
def A_joined : List Ann := [⟨(some ⟨[1,2,3,4], [4], []⟩), [], [], [], []⟩, ⟨(some ⟨[1,2,3,4,18], [4], []⟩), [], [], [], []⟩, ⟨(some ⟨[8], [], []⟩), [], [], [], []⟩, ⟨(some ⟨[1,2,3,4,9,10], [4,9,10], []⟩), [], [(2, none), (3, none), (6, none), (7, none)], [], []⟩, ⟨(some ⟨[1,2,3,4,9,10,34], [4,9,10], []⟩), [], [], [], []⟩, ⟨(some ⟨[8], [], []⟩), [], [], [], []⟩, ⟨(some ⟨[4,9,10,40,41,42], [4,9,10], []⟩), [], [], [], []⟩, ⟨(some ⟨[4,9,10,40,41,42,43], [4,9,10], []⟩), [], [], [], []⟩, ⟨(some ⟨[4,9,10,12,40,41,42], [4,9,10,12], []⟩), [], [], [], []⟩, ⟨(some ⟨[4,9,10,12,40,41,42,50], [4,9,10,12], []⟩), [], [], [], []⟩, ⟨(some ⟨[8], [], []⟩), [], [], [], []⟩, ⟨(some ⟨[4,9,10,13,14,40,41,42], [4,9,10,13], []⟩), [], [], [], []⟩, ⟨(some ⟨[4,9,10,40,41,42,69], [4,9,10], []⟩), [], [], [], []⟩, ⟨(some ⟨[8], [], []⟩), [], [], [], []⟩, ⟨(some ⟨[4,9,10,40,41,42], [4,9,10], []⟩), [], [], [], []⟩, ⟨(some ⟨[8], [], []⟩), [], [], [], []⟩]
def C_joined : AC := (.seq (.reg false [⟨(some 4), none, .box (.t 0)⟩, ⟨(some 8), none, .mv (.v (.bool false))⟩] (some ⟨[1,2,3,4], [4], []⟩))
  (.seq (.seq (.reg false [⟨(some 15), none, .mv (.t 3)⟩, ⟨(some 16), none, .mv (.t 2)⟩, ⟨(some 17), none, .bin .add (.t 16) (.v (.int .i64 (1)))⟩, ⟨(some 18), none, .bin .eql (.t 15) (.t 17)⟩] (some ⟨[1,2,3,4,18], [4], []⟩))
  (.cond (.t 18)
  (.seq (.reg false [⟨(some 8), none, .mv (.v (.bool true))⟩] (some ⟨[8], [], []⟩))
  .ret)
  .skip))
  (.seq (.reg true [⟨(some 19), none, .mv (.t 1)⟩, ⟨(some 20), none, .mv (.t 2)⟩, ⟨none, none, .chk (.t 19) none⟩, ⟨(some 21), none, .iadr 3 (.t 19) (.t 20)⟩, ⟨none, none, .chk (.t 21) none⟩, ⟨(some 22), none, .load true 3 (.t 21)⟩, ⟨(some 23), none, .mv (.t 1)⟩, ⟨(some 24), none, .mv (.t 3)⟩, ⟨none, none, .chk (.t 23) none⟩, ⟨(some 25), none, .iadr 3 (.t 23) (.t 24)⟩, ⟨none, none, .chk (.t 25) none⟩, ⟨(some 26), none, .load true 3 (.t 25)⟩, ⟨(some 9), none, .alloc [(.int .i64 (0)), (.int .i64 (0)), (.int .i64 (0))]⟩, ⟨(some 10), none, .alloc [(.int .i64 (0)), (.int .i64 (0)), (.int .i64 (0))]⟩, ⟨none, none, .store 3 (.t 9) (.t 22)⟩, ⟨none, none, .store 3 (.t 10) (.t 26)⟩] (some ⟨[1,2,3,4,9,10], [4,9,10], []⟩))
  (.seq (.seq (.reg false [⟨(some 27), none, .fadr 0 (.t 10)⟩, ⟨(some 28), none, .load false 1 (.t 27)⟩, ⟨(some 29), none, .fadr 0 (.t 9)⟩, ⟨(some 30), none, .load false 1 (.t 29)⟩, ⟨(some 31), none, .bin .sub (.t 28) (.t 30)⟩, ⟨(some 32), none, .fadr 1 (.t 4)⟩, ⟨(some 33), none, .load false 1 (.t 32)⟩, ⟨(some 34), none, .bin .gtr (.t 31) (.t 33)⟩] (some ⟨[1,2,3,4,9,10,34], [4,9,10], []⟩))
  (.cond (.t 34)
  (.seq (.reg false [⟨(some 8), none, .mv (.v (.bool false))⟩] (some ⟨[8], [], []⟩))
  .ret)
  .skip))
  (.seq (.seq (.reg false [⟨(some 35), none, .mv (.t 1)⟩, ⟨(some 36), none, .mv (.t 2)⟩, ⟨(some 37), none, .bin .add (.t 36) (.v (.int .i64 (1)))⟩, ⟨(some 38), none, .mv (.t 3)⟩, ⟨(some 39), none, .bin .add (.t 38) (.v (.int .i64 (1)))⟩, ⟨(some 40), none, .slc 3 (.t 35) (some (.t 37)) (some (.t 39))⟩, ⟨(some 41), none, .len (.t 40)⟩, ⟨(some 42), none, .mv (.v (.int .i64 (0)))⟩] (some ⟨[4,9,10,40,41,42], [4,9,10], []⟩))
  (.block 0 (.loop (.seq (.reg false [⟨(some 43), none, .bin .lss (.t 42) (.t 41)⟩] (some ⟨[4,9,10,40,41,42,43], [4,9,10], []⟩))
  (.seq (.cond (.t 43)
  .skip
  (.exit 0))
  (.seq (.block 1 (.seq (.reg false [⟨(some 44), none, .iadr 3 (.t 40) (.t 42)⟩, ⟨(some 45), none, .load true 3 (.t 44)⟩, ⟨(some 12), none, .alloc [(.int .i64 (0)), (.int .i64 (0)), (.int .i64 (0))]⟩, ⟨none, none, .store 3 (.t 12) (.t 45)⟩] (some ⟨[4,9,10,12,40,41,42], [4,9,10,12], []⟩))
  (.seq (.seq (.reg false [⟨(some 46), none, .fadr 2 (.t 12)⟩, ⟨(some 47), none, .load false 1 (.t 46)⟩, ⟨(some 48), none, .fadr 2 (.t 9)⟩, ⟨(some 49), none, .load false 1 (.t 48)⟩, ⟨(some 50), none, .bin .neq (.t 47) (.t 49)⟩] (some ⟨[4,9,10,12,40,41,42,50], [4,9,10,12], []⟩))
  (.cond (.t 50)
  (.seq (.reg false [⟨(some 8), none, .mv (.v (.bool false))⟩] (some ⟨[8], [], []⟩))
  .ret)
  .skip))
  (.seq (.reg false [⟨(some 52), none, .load true 3 (.t 9)⟩, ⟨(some 53), none, .load true 3 (.t 10)⟩, ⟨(some 54), none, .bslice 3 2 [(.t 52), (.t 53)]⟩, ⟨(some 55), none, .load true 3 (.t 12)⟩, ⟨(some 56), none, .call (.f 119) [(.t 54), (.t 55)]⟩, ⟨(some 51), none, .mv (.t 56)⟩, ⟨(some 57), none, .extr (.t 51) 0⟩, ⟨(some 58), none, .extr (.t 51) 1⟩, ⟨(some 13), none, .alloc [(.int .i64 (0)), (.int .i64 (0))]⟩, ⟨none, none, .store 2 (.t 13) (.t 57)⟩, ⟨(some 14), none, .mv (.t 58)⟩] (some ⟨[4,9,10,13,14,40,41,42], [4,9,10,13], []⟩))
  (.seq (.reg false [⟨(some 59), none, .mv (.t 14)⟩, ⟨(some 60), none, .mv (.t 59)⟩, ⟨(some 61), (some (60, true)), .fadr 0 (.t 13)⟩, ⟨(some 62), (some (60, true)), .load false 1 (.t 61)⟩, ⟨(some 63), (some (60, true)), .fadr 0 (.t 4)⟩, ⟨(some 64), (some (60, true)), .load false 1 (.t 63)⟩, ⟨(some 65), (some (60, true)), .fadr 1 (.t 13)⟩, ⟨(some 66), (some (60, true)), .load false 1 (.t 65)⟩, ⟨(some 67), (some (60, true)), .bin .mul (.t 64) (.t 66)⟩, ⟨(some 68), (some (60, true)), .bin .gtr (.t 62) (.t 67)⟩, ⟨(some 69), none, .pick (.t 60) (.t 68) (.v (.bool false))⟩] (some ⟨[4,9,10,40,41,42,69], [4,9,10], []⟩))
  (.cond (.t 69)
  (.seq (.reg false [⟨(some 8), none, .mv (.v (.bool false))⟩] (some ⟨[8], [], []⟩))
  .ret)
  .skip))))))
  (.reg false [⟨(some 70), none, .bin .add (.t 42) (.v (.int .i64 (1)))⟩, ⟨(some 42), none, .mv (.t 70)⟩] (some ⟨[4,9,10,40,41,42], [4,9,10], []⟩))))))))
  (.seq (.reg false [⟨(some 8), none, .mv (.v (.bool true))⟩] (some ⟨[8], [], []⟩))
  .ret))))))
theorem c_joined : compileCode Try.prog Try.f87.ntmps (Try.f87.body.getD .skip) A_joined = some (C_joined, []) := by kernel_rfl
theorem r_joined : compileRes Try.prog Try.f87.results.toList = some [.t 8] := by kernel_rfl
theorem b_joined : Try.f87.body = some (Try.f87.body.getD .skip) := by kernel_rfl
theorem n_joined : (Try.f87.name == "runtime.NumGoroutine") = false := by kernel_rfl
theorem fc_joined {xt : Option (List Cel)} {args : List Val} {R : List Cel → Val → Prop} (hn : (if xt.isSome then 1 else 0) + args.length ≤ Try.f87.ntmps) (h : ex Try.prog C_joined [] (fpost xt [.t 8] R) (initSt xt args)) : FC Try.prog 87 xt args R :=
  fc_of_awp Try.func87 b_joined n_joined c_joined r_joined (of_decide_eq_true (by kernel_rfl)) hn h

def A_fits : List Ann := [⟨(some ⟨[1,2,3], [3], []⟩), [], [], [], []⟩, ⟨(some ⟨[1,2,3,8], [3], []⟩), [], [], [], []⟩, ⟨(some ⟨[1,2,3,8,19], [3], []⟩), [], [], [], []⟩, ⟨(some ⟨[6,7], [], []⟩), [], [], [], []⟩, ⟨(some ⟨[1,2,3,23], [3], []⟩), [], [], [], []⟩, ⟨(some ⟨[6,7], [], []⟩), [], [], [], []⟩, ⟨(some ⟨[1,2,3,9], [3], []⟩), [], [], [], []⟩, ⟨(some ⟨[1,2,3,9,44], [3], []⟩), [], [], [], []⟩, ⟨(some ⟨[6,7], [], []⟩), [], [], [], []⟩, ⟨(some ⟨[1,2,3,9,10], [3], []⟩), [], [], [], []⟩, ⟨(some ⟨[1,2,3,9,10,47], [3], []⟩), [], [], [], []⟩, ⟨(some ⟨[1,2,3,9,10,62], [3], []⟩), [], [], [], []⟩, ⟨(some ⟨[6,7], [], []⟩), [], [], [], []⟩, ⟨(some ⟨[1,2,3,9,10], [3], []⟩), [], [], [], []⟩, ⟨(some ⟨[6,7], [], []⟩), [], [], [], []⟩]
def C_fits : AC := (.seq (.reg false [⟨(some 3), none, .box (.t 0)⟩, ⟨(some 6), none, .mv (.v (.bool false))⟩, ⟨(some 7), none, .mv (.v (.int .i64 (0)))⟩] (some ⟨[1,2,3], [3], []⟩))
  (.seq (.seq (.reg false [⟨(some 11), none, .load true 2 (.t 3)⟩, ⟨(some 12), none, .call (.f 75) [(.t 11)]⟩, ⟨(some 13), none, .mv (.t 1)⟩, ⟨(some 14), none, .mv (.t 2)⟩, ⟨(some 15), none, .call (.f 86) [(.t 13), (.t 14)]⟩, ⟨(some 16), none, .bslice 1 2 [(.t 12), (.t 15)]⟩, ⟨(some 17), none, .call (.f 84) [(.t 16)]⟩, ⟨(some 8), none, .mv (.t 17)⟩] (some ⟨[1,2,3,8], [3], []⟩))
  (.seq (.reg false [⟨(some 18), none, .mv (.t 8)⟩, ⟨(some 19), none, .bin .neq (.t 18) (.v (.int .i64 (0)))⟩] (some ⟨[1,2,3,8,19], [3], []⟩))
  (.cond (.t 19)
  (.seq (.reg false [⟨(some 20), none, .mv (.t 8)⟩, ⟨(some 6), none, .mv (.v (.bool false))⟩, ⟨(some 7), none, .mv (.t 20)⟩] (some ⟨[6,7], [], []⟩))
  .ret)
  .skip)))
  (.seq (.seq (.reg false [⟨(some 21), none, .mv (.t 1)⟩, ⟨(some 22), none, .len (.t 21)⟩, ⟨(some 23), none, .bin .eql (.t 22) (.v (.int .i64 (0)))⟩] (some ⟨[1,2,3,23], [3], []⟩))
  (.cond (.t 23)
  (.seq (.reg false [⟨(some 6), none, .mv (.v (.bool true))⟩, ⟨(some 7), none, .mv (.v (.int .i64 (0)))⟩] (some ⟨[6,7], [], []⟩))
  .ret)
  .skip))
  (.seq (.reg false [⟨(some 24), none, .mv (.t 2)⟩, ⟨(some 25), none, .len (.t 24)⟩, ⟨(some 9), none, .mv (.t 25)⟩] (some ⟨[1,2,3,9], [3], []⟩))
  (.seq (.seq (.reg false [⟨(some 26), none, .mv (.t 9)⟩, ⟨(some 27), none, .bin .eql (.t 26) (.v (.int .i64 (0)))⟩, ⟨(some 28), none, .mv (.t 27)⟩, ⟨(some 29), (some (28, false)), .mv (.t 2)⟩, ⟨(some 30), (some (28, false)), .iadr 1 (.t 29) (.v (.int .i64 (0)))⟩, ⟨(some 31), (some (28, false)), .load false 1 (.t 30)⟩, ⟨(some 32), (some (28, false)), .bin .neq (.t 31) (.v (.int .i64 (0)))⟩, ⟨(some 33), none, .pick (.t 28) (.v (.bool true)) (.t 32)⟩, ⟨(some 34), none, .mv (.t 33)⟩, ⟨(some 35), (some (34, false)), .mv (.t 2)⟩, ⟨(some 36), (some (34, false)), .mv (.t 9)⟩, ⟨(some 37), (some (34, false)), .bin .sub (.t 36) (.v (.int .i64 (1)))⟩, ⟨(some 38), (some (34, false)), .iadr 1 (.t 35) (.t 37)⟩, ⟨(some 39), (some (34, false)), .load false 1 (.t 38)⟩, ⟨(some 40), (some (34, false)), .mv (.t 1)⟩, ⟨(some 41), (some (34, false)), .len (.t 40)⟩, ⟨(some 42), (some (34, false)), .bin .sub (.t 41) (.v (.int .i64 (1)))⟩, ⟨(some 43), (some (34, false)), .bin .neq (.t 39) (.t 42)⟩, ⟨(some 44), none, .pick (.t 34) (.v (.bool true)) (.t 43)⟩] (some ⟨[1,2,3,9,44], [3], []⟩))
  (.cond (.t 44)
  (.seq (.reg false [⟨(some 6), none, .mv (.v (.bool false))⟩, ⟨(some 7), none, .mv (.v (.int .i64 (0)))⟩] (some ⟨[6,7], [], []⟩))
  .ret)
  .skip))
  (.seq (.seq (.reg false [⟨(some 10), none, .mv (.v (.int .i64 (1)))⟩] (some ⟨[1,2,3,9,10], [3], []⟩))
  (.block 0 (.loop (.seq (.seq (.reg false [⟨(some 45), none, .mv (.t 10)⟩, ⟨(some 46), none, .mv (.t 9)⟩, ⟨(some 47), none, .bin .lss (.t 45) (.t 46)⟩] (some ⟨[1,2,3,9,10,47], [3], []⟩))
  (.cond (.t 47)
  .skip
  (.exit 0)))
  (.seq (.block 1 (.seq (.reg true [⟨(some 50), none, .load true 2 (.t 3)⟩, ⟨(some 51), none, .mv (.t 1)⟩, ⟨(some 52), none, .mv (.t 2)⟩, ⟨(some 53), none, .mv (.t 10)⟩, ⟨(some 54), none, .bin .sub (.t 53) (.v (.int .i64 (1)))⟩, ⟨(some 55), none, .iadr 1 (.t 52) (.t 54)⟩, ⟨(some 56), none, .load false 1 (.t 55)⟩, ⟨(some 57), none, .mv (.t 2)⟩, ⟨(some 58), none, .mv (.t 10)⟩, ⟨(some 59), none, .iadr 1 (.t 57) (.t 58)⟩, ⟨(some 60), none, .load false 1 (.t 59)⟩, ⟨(some 61), none, .call (.f 87) [(.t 50), (.t 51), (.t 56), (.t 60)]⟩, ⟨(some 62), none, .un .not (.t 61)⟩] (some ⟨[1,2,3,9,10,62], [3], []⟩))
  (.cond (.t 62)
  (.seq (.reg false [⟨(some 6), none, .mv (.v (.bool false))⟩, ⟨(some 7), none, .mv (.v (.int .i64 (0)))⟩] (some ⟨[6,7], [], []⟩))
  .ret)
  .skip)))
  (.reg false [⟨(some 48), none, .mv (.t 10)⟩, ⟨(some 49), none, .bin .add (.t 48) (.v (.int .i64 (1)))⟩, ⟨(some 10), none, .mv (.t 49)⟩] (some ⟨[1,2,3,9,10], [3], []⟩)))))))
  (.seq (.reg false [⟨(some 6), none, .mv (.v (.bool true))⟩, ⟨(some 7), none, .mv (.v (.int .i64 (0)))⟩] (some ⟨[6,7], [], []⟩))
  .ret)))))))
theorem c_fits : compileCode Try.prog Try.f30.ntmps (Try.f30.body.getD .skip) A_fits = some (C_fits, []) := by kernel_rfl
theorem r_fits : compileRes Try.prog Try.f30.results.toList = some [.t 6, .t 7] := by kernel_rfl
theorem b_fits : Try.f30.body = some (Try.f30.body.getD .skip) := by kernel_rfl
theorem n_fits : (Try.f30.name == "runtime.NumGoroutine") = false := by kernel_rfl
theorem fc_fits {xt : Option (List Cel)} {args : List Val} {R : List Cel → Val → Prop} (hn : (if xt.isSome then 1 else 0) + args.length ≤ Try.f30.ntmps) (h : ex Try.prog C_fits [] (fpost xt [.t 6, .t 7] R) (initSt xt args)) : FC Try.prog 30 xt args R :=
  fc_of_awp Try.func30 b_fits n_fits c_fits r_fits (of_decide_eq_true (by kernel_rfl)) hn h


theorem fit_bd {a b : Int} (ha : 0 ≤ a ∧ a ≤ 2000000) (hb : 0 ≤ b ∧ b ≤ 345686400000) : 0 ≤ a * b ∧ a * b ≤ 900000000000000000 := by
  have h1 := Int.mul_nonneg ha.1 hb.1
  have h2 := Int.mul_le_mul_of_nonneg_right ha.2 hb.1
  omega
/-- Two samples that are apart are a series. -/
theorem good_two {l : List Smp} (hg : Good l) {i k : Nat} (hik : i < k) (hk : k < l.length) : Good [l.getD i default, l.getD k default] := by
  refine ⟨by simp, fun j hj => ?_, fun j hj => ?_, fun a b hab hb => ?_⟩
  · match j, hj with
    | 0, _ => exact hg.ok i (by omega)
    | 1, _ => exact hg.ok k hk
    | j + 2, hj => exact absurd hj (by simp only [List.length_cons, List.length_nil]; omega)
  · match j, hj with
    | 0, _ => exact hg.bad i (by omega)
    | 1, _ => exact hg.bad k hk
    | j + 2, hj => exact absurd hj (by simp only [List.length_cons, List.length_nil]; omega)
  · match a, b, hab, hb with
    | 0, 1, _, _ => exact hg.up i k hik hk
    | a, b + 2, _, hb => exact absurd hb (by simp only [List.length_cons, List.length_nil]; omega)
    | a + 1, 1, hab, _ => omega
    | a, 0, hab, _ => omega
/-- A sample has the quality of the first, and is near enough to the line. -/
def nrB (dv : Int) (a b s : Smp) : Bool := decide (s.q = a.q) && !((apSp [a, b] s).2 && decide ((apSp [a, b] s).1.1 > dv * (apSp [a, b] s).1.2))
def jnB (dv mg : Int) (l : List Smp) (i k : Int) : Bool :=
  decide (k = i + 1) || (decide ((l.getD k.toNat default).a - (l.getD i.toNat default).a ≤ mg) && ((l.take (k + 1).toNat).drop (i + 1).toNat).all (nrB dv (l.getD i.toNat default) (l.getD k.toNat default)))
def jnSt (dv mg : Int) (a b : Smp) (m : List Smp) (j : Int) : AS := ⟨tabV [(4, .one (.bx 4 0)), (9, .one (.bx 9 0)), (10, .one (.bx 10 0)), (40, smps false m), (41, iv m.length), (42, iv j)], tabO [(4, [.g (.int .i64 dv), .g (.int .i64 mg)]), (9, smpC a), (10, smpC b)], tabO []⟩
set_option maxHeartbeats 4000000 in
theorem joined_fc (dv mg : Int) (hd : 0 ≤ dv ∧ dv ≤ 2000000) (l : List Smp) (hg : Good l) (i k : Int) (h0 : 0 ≤ i) (h1 : i < k) (h2 : k < l.length) :
    FC Try.prog 87 none [twoV dv mg, smps false l, iv i, iv k] (fun _ r => r = bv (jnB dv mg l i k)) := by
  refine fc_joined (by simp +arith) ?_
  have hlen := hg.len
  have oi := hg.ok i.toNat (by omega)
  have ok := hg.ok k.toNat (by omega)
  have ei := getD_map_at smpC l i [] h0 (by omega)
  have ek := getD_map_at smpC l k [] (by omega) h2
  have hup := hg.up i.toNat k.toNat (by omega) (by omega)
  have h2g := good_two hg (i := i.toNat) (k := k.toNat) (by omega) (by omega)
  have et : ((l.map smpC).take (k + 1).toNat).drop (i + 1).toNat = ((l.take (k + 1).toNat).drop (i + 1).toNat).map smpC := by rw [List.map_drop, List.map_take]
  have hml : ((l.take (k + 1).toNat).drop (i + 1).toNat).length = (k - i).toNat := by rw [List.length_drop, List.length_take]; omega
  have hm : ∀ s ∈ (l.take (k + 1).toNat).drop (i + 1).toNat, okSmp s := fun s hs => by
    obtain ⟨j, hj, rfl⟩ := List.mem_iff_getElem.1 (List.mem_of_mem_take (List.mem_of_mem_drop hs))
    have := hg.ok j hj
    simpa [List.getD_eq_getElem?_getD, hj] using this
  unfold jnB
  unfold okSmp at oi ok
  by_cases c1 : k = i + 1
  · rw [decide_eq_true c1]
    unfold C_joined
    simp (maxSteps := 1000000) (disch := omega) only [go_sem, eq_self, decide_true, decide_false, not_true_eq_false, not_false_eq_true, reduceIte, reduceCtorEq, Nat.reduceEqDiff, Nat.reduceAdd, Nat.reduceSub, Nat.reduceLeDiff]
    rfl
  · rw [decide_eq_false c1]
    by_cases c2 : (l.getD k.toNat default).a - (l.getD i.toNat default).a ≤ mg
    · rw [decide_eq_true c2]
      unfold C_joined
      simp (maxSteps := 1000000) (disch := omega) only [go_sem, eq_self, decide_true, decide_false, not_true_eq_false, not_false_eq_true, reduceIte, reduceCtorEq, Nat.reduceEqDiff, Nat.reduceAdd, Nat.reduceSub, Nat.reduceLeDiff]
      rw [et]
      generalize (l.take (k + 1).toNat).drop (i + 1).toNat = m at *
      generalize l.getD i.toNat default = a at *
      generalize l.getD k.toNat default = b at *
      simp (maxSteps := 1000000) (disch := omega) only [go_sem, eq_self, decide_true, decide_false, not_true_eq_false, not_false_eq_true, reduceIte, reduceCtorEq, Nat.reduceEqDiff, Nat.reduceAdd, Nat.reduceSub, Nat.reduceLeDiff]
      refine ex_loop1 (jnSt dv mg a b m) (fun j => 0 ≤ j ∧ j ≤ m.length ∧ (m.drop j.toNat).all (nrB dv a b) = m.all (nrB dv a b)) (fun j => (m.length - j).toNat) 0 ⟨by omega, by omega, rfl⟩ rfl ?_
      rintro j ⟨g1, g2, g3⟩
      unfold jnSt
      by_cases hj : j < m.length
      · have e2 : (j + 1).toNat = j.toNat + 1 := by omega
        have em := getD_map_at smpC m j [] g1 hj
        have o1 := hm _ (getD_mem m j.toNat (by omega))
        rw [drop_cons m j.toNat (by omega), ← e2, List.all_cons] at g3
        have hap := apart_fc [a, b] h2g (m.getD j.toNat default) o1
        have hbd := apSp_bd h2g o1
        have hnr : nrB dv a b (m.getD j.toNat default) = (decide ((m.getD j.toNat default).q = a.q) && !((apSp [a, b] (m.getD j.toNat default)).2 && decide ((apSp [a, b] (m.getD j.toNat default)).1.1 > dv * (apSp [a, b] (m.getD j.toNat default)).1.2))) := rfl
        rw [hnr] at g3
        by_cases c3 : (m.getD j.toNat default).q = a.q
        · rw [decide_eq_true c3, Bool.true_and] at g3
          generalize apSp [a, b] (m.getD j.toNat default) = y at *
          obtain ⟨⟨n, d⟩, is⟩ := y
          cases is with
          | false =>
            simp only [Bool.false_and, Bool.not_false, Bool.true_and] at g3
            simp (maxSteps := 1000000) (disch := omega) only [go_sem, eq_self, decide_true, decide_false, not_true_eq_false, not_false_eq_true, reduceIte, reduceCtorEq, Nat.reduceEqDiff, Nat.reduceAdd, Nat.reduceSub, Nat.reduceLeDiff]
            refine CALL_det hap (.inl rfl) ?_
            simp (maxSteps := 1000000) (disch := omega) only [go_sem, eq_self, decide_true, decide_false, not_true_eq_false, not_false_eq_true, reduceIte, reduceCtorEq, Nat.reduceEqDiff, Nat.reduceAdd, Nat.reduceSub, Nat.reduceLeDiff]
            exact ⟨j + 1, rfl, ⟨by omega, by omega, g3⟩, by omega⟩
          | true =>
            obtain ⟨b1, b2⟩ := hbd rfl
            simp only at b1 b2
            have b3 := fit_bd (a := dv) (b := d) (by omega) (by omega)
            simp only [Bool.true_and] at g3
            by_cases c4 : n > dv * d
            · rw [decide_eq_true c4] at g3
              simp only [Bool.not_true, Bool.false_and] at g3
              rw [← g3]
              generalize hX : dv * d = X at *
              simp (maxSteps := 1000000) (disch := omega) only [go_sem, eq_self, decide_true, decide_false, not_true_eq_false, not_false_eq_true, reduceIte, reduceCtorEq, Nat.reduceEqDiff, Nat.reduceAdd, Nat.reduceSub, Nat.reduceLeDiff]
              refine CALL_det hap (.inl rfl) ?_
              simp (maxSteps := 1000000) (disch := omega) only [go_sem, eq_self, decide_true, decide_false, not_true_eq_false, not_false_eq_true, reduceIte, reduceCtorEq, Nat.reduceEqDiff, Nat.reduceAdd, Nat.reduceSub, Nat.reduceLeDiff]
              rfl
            · rw [decide_eq_false c4] at g3
              simp only [Bool.not_false, Bool.true_and] at g3
              generalize hX : dv * d = X at *
              simp (maxSteps := 1000000) (disch := omega) only [go_sem, eq_self, decide_true, decide_false, not_true_eq_false, not_false_eq_true, reduceIte, reduceCtorEq, Nat.reduceEqDiff, Nat.reduceAdd, Nat.reduceSub, Nat.reduceLeDiff]
              refine CALL_det hap (.inl rfl) ?_
              simp (maxSteps := 1000000) (disch := omega) only [go_sem, eq_self, decide_true, decide_false, not_true_eq_false, not_false_eq_true, reduceIte, reduceCtorEq, Nat.reduceEqDiff, Nat.reduceAdd, Nat.reduceSub, Nat.reduceLeDiff]
              exact ⟨j + 1, rfl, ⟨by omega, by omega, g3⟩, by omega⟩
        · rw [decide_eq_false c3, Bool.false_and, Bool.false_and] at g3
          rw [← g3]
          simp (maxSteps := 1000000) (disch := omega) only [go_sem, eq_self, decide_true, decide_false, not_true_eq_false, not_false_eq_true, reduceIte, reduceCtorEq, Nat.reduceEqDiff, Nat.reduceAdd, Nat.reduceSub, Nat.reduceLeDiff]
          rfl
      · rw [List.drop_eq_nil_of_le (by omega), List.all_nil] at g3
        rw [← g3]
        simp (maxSteps := 1000000) (disch := omega) only [go_sem, eq_self, decide_true, decide_false, not_true_eq_false, not_false_eq_true, reduceIte, reduceCtorEq, Nat.reduceEqDiff, Nat.reduceAdd, Nat.reduceSub, Nat.reduceLeDiff]
        rfl
    · rw [decide_eq_false c2]
      unfold C_joined
      simp (maxSteps := 1000000) (disch := omega) only [go_sem, eq_self, decide_true, decide_false, not_true_eq_false, not_false_eq_true, reduceIte, reduceCtorEq, Nat.reduceEqDiff, Nat.reduceAdd, Nat.reduceSub, Nat.reduceLeDiff]
      rfl
/-- Each is joined to the one ahead of it. -/
def chB (dv mg : Int) (l : List Smp) : Int → List Int → Bool
  | _, [] => true
  | a, b :: r => jnB dv mg l a b && chB dv mg l b r
def fitB (dv mg : Int) (l : List Smp) (kept : List Int) : Bool :=
  if l.length = 0 then true else if kept.length = 0 then false else if kept.getD 0 default ≠ 0 then false else if kept.getD ((kept.length : Int) - 1).toNat default ≠ l.length - 1 then false
  else chB dv mg l (kept.getD 0 default) (kept.drop 1)
def fitSp (dv mg : Int) (l : List Smp) (kept : List Int) : Bool × Int :=
  if excF dv mg ≠ 0 then (false, excF dv mg) else if kptF l kept ≠ 0 then (false, kptF l kept) else (fitB dv mg l kept, 0)
theorem kf_lt (n : Int) : ∀ (l : List Int) (p : Option Int), kfGo n p l = 0 → (∀ y, p = some y → ∀ k ∈ l.head?, y < k) ∧ ∀ j, j + 1 < l.length → l.getD j default < l.getD (j + 1) default
  | [], p, _ => ⟨fun y _ k hk => by simp at hk, fun j hj => by simp at hj⟩
  | x :: r, p, h => by
    rw [kfGo] at h
    split at h
    · omega
    · split at h
      · omega
      · rename_i h1 h2
        obtain ⟨i1, i2⟩ := kf_lt n r (some x) h
        refine ⟨fun y hy k hk => ?_, fun j hj => ?_⟩
        · subst hy
          simp only [List.head?_cons, Option.mem_def, Option.some.injEq] at hk
          subst hk
          simp [leO] at h2
          omega
        · cases j with
          | zero =>
            cases r with
            | nil => simp at hj
            | cons z r' => simpa using i1 x rfl z (by simp)
          | succ j => simpa using i2 j (by simp at hj; omega)
def fitSt (dv mg : Int) (l : List Smp) (kept : List Int) (i : Int) : AS := ⟨tabV [(1, smps false l), (2, ints false kept), (3, .one (.bx 3 0)), (9, iv kept.length), (10, iv i)], tabO [(3, [.g (.int .i64 dv), .g (.int .i64 mg)])], tabO []⟩
set_option maxHeartbeats 4000000 in
theorem fits_fc (dv mg : Int) (l : List Smp) (hl : l.length ≤ 4611686018427387904) (kept : List Int) (hk : kept.length ≤ 4611686018427387904) :
    FC Try.prog 30 none [twoV dv mg, smps false l, ints false kept] (fun _ r => r = .tu [bv (fitSp dv mg l kept).1, iv (fitSp dv mg l kept).2]) := by
  refine fc_fits (by simp +arith) ?_
  have hcd := checkDoor_fc dv mg
  have hkf := keptFault_fc l hl kept hk
  have hor : orSp [excF dv mg, kptF l kept] = if excF dv mg ≠ 0 then excF dv mg else kptF l kept := by
    unfold orSp; by_cases h : excF dv mg = 0 <;> by_cases h2 : kptF l kept = 0 <;> simp [h, h2, orSp]
  have hf := first_fc false [excF dv mg, kptF l kept] (by simp)
  rw [hor] at hf
  unfold C_fits fitSp
  by_cases h1 : excF dv mg = 0
  · have hdd : 0 ≤ dv ∧ dv ≤ 2000000 := by unfold excF at h1; split at h1 <;> omega
    rw [if_neg (by omega)] at hf
    rw [if_neg (by omega)]
    by_cases h2 : kptF l kept = 0
    · obtain ⟨hs, hkl, hkg⟩ := kptF_ok h2
      have hg := good_of hs
      have hlen := hg.len
      have hin := kfGo_ok _ kept none hkg
      have hlt := (kf_lt _ kept none hkg).2
      rw [h1, h2] at hf
      rw [h1] at hcd
      rw [h2] at hkf
      rw [if_neg (by omega)]
      unfold fitB
      simp (maxSteps := 1000000) (disch := omega) only [go_sem, eq_self, decide_true, decide_false, not_true_eq_false, not_false_eq_true, reduceIte, reduceCtorEq, Nat.reduceEqDiff, Nat.reduceAdd, Nat.reduceSub, Nat.reduceLeDiff]
      refine CALL_det hcd (.inl rfl) ?_
      simp (maxSteps := 1000000) (disch := omega) only [go_sem, eq_self, decide_true, decide_false, not_true_eq_false, not_false_eq_true, reduceIte, reduceCtorEq, Nat.reduceEqDiff, Nat.reduceAdd, Nat.reduceSub, Nat.reduceLeDiff]
      refine CALL_det hkf (.inl rfl) ?_
      simp (maxSteps := 1000000) (disch := omega) only [go_sem, eq_self, decide_true, decide_false, not_true_eq_false, not_false_eq_true, reduceIte, reduceCtorEq, Nat.reduceEqDiff, Nat.reduceAdd, Nat.reduceSub, Nat.reduceLeDiff]
      refine CALL_det hf (.inl rfl) ?_
      by_cases c0 : l.length = 0
      · rw [if_pos c0]
        simp (maxSteps := 1000000) (disch := omega) only [go_sem, eq_self, decide_true, decide_false, not_true_eq_false, not_false_eq_true, reduceIte, reduceCtorEq, Nat.reduceEqDiff, Nat.reduceAdd, Nat.reduceSub, Nat.reduceLeDiff]
      · rw [if_neg c0]
        by_cases c1 : kept.length = 0
        · rw [if_pos c1]
          simp (maxSteps := 1000000) (disch := omega) only [go_sem, eq_self, decide_true, decide_false, not_true_eq_false, not_false_eq_true, reduceIte, reduceCtorEq, Nat.reduceEqDiff, Nat.reduceAdd, Nat.reduceSub, Nat.reduceLeDiff]
        · have e0 := getD_map_at intC kept 0 [] (by omega) (by omega)
          have e0' : kept.getD (Int.toNat 0) default = kept.getD 0 default := rfl
          rw [e0'] at e0
          have e1 := getD_map_at intC kept ((kept.length : Int) - 1) [] (by omega) (by omega)
          rw [if_neg c1]
          by_cases c2 : kept.getD 0 default = 0
          · rw [if_neg (show ¬(kept.getD 0 default ≠ 0) from fun h => h c2)]
            by_cases c3 : kept.getD ((kept.length : Int) - 1).toNat default = (l.length : Int) - 1
            · rw [if_neg (show ¬(kept.getD ((kept.length : Int) - 1).toNat default ≠ (l.length : Int) - 1) from fun h => h c3)]
              simp (maxSteps := 1000000) (disch := omega) only [go_sem, eq_self, decide_true, decide_false, not_true_eq_false, not_false_eq_true, reduceIte, reduceCtorEq, Nat.reduceEqDiff, Nat.reduceAdd, Nat.reduceSub, Nat.reduceLeDiff]
              refine ex_loop1 (fitSt dv mg l kept) (fun i => 1 ≤ i ∧ i ≤ kept.length ∧ chB dv mg l (kept.getD (i - 1).toNat default) (kept.drop i.toNat) = chB dv mg l (kept.getD 0 default) (kept.drop 1)) (fun i => (kept.length - i).toNat) 1 ⟨by omega, by omega, rfl⟩ rfl ?_
              rintro i ⟨g1, g2, g3⟩
              unfold fitSt
              by_cases hi : i < kept.length
              · have e2 : (i + 1).toNat = i.toNat + 1 := by omega
                have e3 : (i + 1 - 1).toNat = i.toNat := by omega
                have em := getD_map_at intC kept i [] (by omega) hi
                have em1 := getD_map_at intC kept (i - 1) [] (by omega) (by omega)
                rw [drop_cons kept i.toNat (by omega), chB] at g3
                have a1 := hin _ (getD_mem kept i.toNat (by omega))
                have a2 := hin _ (getD_mem kept (i - 1).toNat (by omega))
                have a3 := hlt (i - 1).toNat (by omega)
                rw [show (i - 1).toNat + 1 = i.toNat by omega] at a3
                have hj := joined_fc dv mg hdd l hg (kept.getD (i - 1).toNat default) (kept.getD i.toNat default) a2.1 a3 a1.2
                cases hb : jnB dv mg l (kept.getD (i - 1).toNat default) (kept.getD i.toNat default) with
                | true =>
                  rw [hb] at hj g3
                  rw [Bool.true_and] at g3
                  simp (maxSteps := 1000000) (disch := omega) only [go_sem, eq_self, decide_true, decide_false, not_true_eq_false, not_false_eq_true, reduceIte, reduceCtorEq, Nat.reduceEqDiff, Nat.reduceAdd, Nat.reduceSub, Nat.reduceLeDiff]
                  refine CALL_det hj (.inl rfl) ?_
                  simp (maxSteps := 1000000) (disch := omega) only [go_sem, eq_self, decide_true, decide_false, not_true_eq_false, not_false_eq_true, reduceIte, reduceCtorEq, Nat.reduceEqDiff, Nat.reduceAdd, Nat.reduceSub, Nat.reduceLeDiff]
                  exact ⟨i + 1, rfl, ⟨by omega, by omega, by rw [e3, e2]; exact g3⟩, by omega⟩
                | false =>
                  rw [hb] at hj g3
                  rw [Bool.false_and] at g3
                  rw [← g3]
                  simp (maxSteps := 1000000) (disch := omega) only [go_sem, eq_self, decide_true, decide_false, not_true_eq_false, not_false_eq_true, reduceIte, reduceCtorEq, Nat.reduceEqDiff, Nat.reduceAdd, Nat.reduceSub, Nat.reduceLeDiff]
                  refine CALL_det hj (.inl rfl) ?_
                  simp (maxSteps := 1000000) (disch := omega) only [go_sem, eq_self, decide_true, decide_false, not_true_eq_false, not_false_eq_true, reduceIte, reduceCtorEq, Nat.reduceEqDiff, Nat.reduceAdd, Nat.reduceSub, Nat.reduceLeDiff]
              · rw [List.drop_eq_nil_of_le (by omega), chB] at g3
                rw [← g3]
                simp (maxSteps := 1000000) (disch := omega) only [go_sem, eq_self, decide_true, decide_false, not_true_eq_false, not_false_eq_true, reduceIte, reduceCtorEq, Nat.reduceEqDiff, Nat.reduceAdd, Nat.reduceSub, Nat.reduceLeDiff]
            · rw [if_pos c3]
              simp (maxSteps := 1000000) (disch := omega) only [go_sem, eq_self, decide_true, decide_false, not_true_eq_false, not_false_eq_true, reduceIte, reduceCtorEq, Nat.reduceEqDiff, Nat.reduceAdd, Nat.reduceSub, Nat.reduceLeDiff]
          · rw [if_pos c2]
            simp (maxSteps := 1000000) (disch := omega) only [go_sem, eq_self, decide_true, decide_false, not_true_eq_false, not_false_eq_true, reduceIte, reduceCtorEq, Nat.reduceEqDiff, Nat.reduceAdd, Nat.reduceSub, Nat.reduceLeDiff]
    · rw [if_pos h2]
      rw [h1] at hcd hf
      simp (maxSteps := 1000000) (disch := omega) only [go_sem, eq_self, decide_true, decide_false, not_true_eq_false, not_false_eq_true, reduceIte, reduceCtorEq, Nat.reduceEqDiff, Nat.reduceAdd, Nat.reduceSub, Nat.reduceLeDiff]
      refine CALL_det hcd (.inl rfl) ?_
      simp (maxSteps := 1000000) (disch := omega) only [go_sem, eq_self, decide_true, decide_false, not_true_eq_false, not_false_eq_true, reduceIte, reduceCtorEq, Nat.reduceEqDiff, Nat.reduceAdd, Nat.reduceSub, Nat.reduceLeDiff]
      refine CALL_det hkf (.inl rfl) ?_
      simp (maxSteps := 1000000) (disch := omega) only [go_sem, eq_self, decide_true, decide_false, not_true_eq_false, not_false_eq_true, reduceIte, reduceCtorEq, Nat.reduceEqDiff, Nat.reduceAdd, Nat.reduceSub, Nat.reduceLeDiff]
      refine CALL_det hf (.inl rfl) ?_
      simp (maxSteps := 1000000) (disch := omega) only [go_sem, eq_self, decide_true, decide_false, not_true_eq_false, not_false_eq_true, reduceIte, reduceCtorEq, Nat.reduceEqDiff, Nat.reduceAdd, Nat.reduceSub, Nat.reduceLeDiff]
  · rw [if_pos h1] at hf
    rw [if_pos h1]
    simp (maxSteps := 1000000) (disch := omega) only [go_sem, eq_self, decide_true, decide_false, not_true_eq_false, not_false_eq_true, reduceIte, reduceCtorEq, Nat.reduceEqDiff, Nat.reduceAdd, Nat.reduceSub, Nat.reduceLeDiff]
    refine CALL_det hcd (.inl rfl) ?_
    simp (maxSteps := 1000000) (disch := omega) only [go_sem, eq_self, decide_true, decide_false, not_true_eq_false, not_false_eq_true, reduceIte, reduceCtorEq, Nat.reduceEqDiff, Nat.reduceAdd, Nat.reduceSub, Nat.reduceLeDiff]
    refine CALL_det hkf (.inl rfl) ?_
    simp (maxSteps := 1000000) (disch := omega) only [go_sem, eq_self, decide_true, decide_false, not_true_eq_false, not_false_eq_true, reduceIte, reduceCtorEq, Nat.reduceEqDiff, Nat.reduceAdd, Nat.reduceSub, Nat.reduceLeDiff]
    refine CALL_det hf (.inl rfl) ?_
    simp (maxSteps := 1000000) (disch := omega) only [go_sem, eq_self, decide_true, decide_false, not_true_eq_false, not_false_eq_true, reduceIte, reduceCtorEq, Nat.reduceEqDiff, Nat.reduceAdd, Nat.reduceSub, Nat.reduceLeDiff]
end Go.Proofs.Ytggbcgldnjmobaa

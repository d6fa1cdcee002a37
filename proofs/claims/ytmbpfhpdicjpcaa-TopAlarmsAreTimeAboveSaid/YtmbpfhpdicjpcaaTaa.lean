
/-
  TopAlarmsAreTimeAbove returns true for every slice of integers, and leaves the slice as it was: a high alarm without deadband and delays is active where the value is above the limit. No condition.
-/
import Derived.Test.YtmbpfhpdicjpcaaTfp
import Derived.Test.YtmbpfhpdicjpcaaTap
import Derived.Test.YtmbpfhpdicjpcaaGenC
import Derived.Test.YtmbpfhpdicjpcaaAiRow
import Derived.Test.YtmbpfhpdicjpcaaRows
namespace Go.Proofs.Ytmbpfhpdicjpcaa
open Go Go.Ai
set_option linter.unusedSimpArgs false
set_option linter.unusedVariables false
set_option maxHeartbeats 4000000
def A_eqWin : List Ann := [⟨(some ⟨[0,1], [], []⟩), [], [], [], []⟩, ⟨(some ⟨[0,1,10], [], []⟩), [], [], [], []⟩, ⟨(some ⟨[4], [], []⟩), [], [], [], []⟩, ⟨(some ⟨[0,1,12,13], [], []⟩), [], [], [], []⟩, ⟨(some ⟨[0,1,12,13,14], [], []⟩), [], [], [], []⟩, ⟨(some ⟨[0,1,5,12,13], [], []⟩), [], [], [], []⟩, ⟨(some ⟨[0,1,12,13,24], [], []⟩), [], [], [], []⟩, ⟨(some ⟨[4], [], []⟩), [], [], [], []⟩, ⟨(some ⟨[0,1,12,13], [], []⟩), [], [], [], []⟩, ⟨(some ⟨[4], [], []⟩), [], [], [], []⟩]
def C_eqWin : AC := (.seq (.reg false [⟨(some 4), none, .mv (.v (.bool false))⟩] (some ⟨[0,1], [], []⟩))
  (.seq (.seq (.reg false [⟨(some 6), none, .mv (.t 0)⟩, ⟨(some 7), none, .len (.t 6)⟩, ⟨(some 8), none, .mv (.t 1)⟩, ⟨(some 9), none, .len (.t 8)⟩, ⟨(some 10), none, .bin .neq (.t 7) (.t 9)⟩] (some ⟨[0,1,10], [], []⟩))
  (.cond (.t 10)
  (.seq (.reg false [⟨(some 4), none, .mv (.v (.bool false))⟩] (some ⟨[4], [], []⟩))
  .ret)
  .skip))
  (.seq (.seq (.reg false [⟨(some 11), none, .mv (.t 0)⟩, ⟨(some 12), none, .len (.t 11)⟩, ⟨(some 13), none, .mv (.v (.int .i64 (0)))⟩] (some ⟨[0,1,12,13], [], []⟩))
  (.block 0 (.loop (.seq (.reg false [⟨(some 14), none, .bin .lss (.t 13) (.t 12)⟩] (some ⟨[0,1,12,13,14], [], []⟩))
  (.seq (.cond (.t 14)
  .skip
  (.exit 0))
  (.seq (.block 1 (.seq (.reg false [⟨(some 15), none, .mv (.t 13)⟩, ⟨(some 5), none, .mv (.t 15)⟩] (some ⟨[0,1,5,12,13], [], []⟩))
  (.seq (.reg true [⟨(some 16), none, .mv (.t 0)⟩, ⟨(some 17), none, .mv (.t 5)⟩, ⟨(some 18), none, .iadr 2 (.t 16) (.t 17)⟩, ⟨(some 19), none, .load true 2 (.t 18)⟩, ⟨(some 20), none, .mv (.t 1)⟩, ⟨(some 21), none, .mv (.t 5)⟩, ⟨(some 22), none, .iadr 2 (.t 20) (.t 21)⟩, ⟨(some 23), none, .load true 2 (.t 22)⟩, ⟨(some 24), none, .eqs true true [.i .i64, .i .i64] (.t 19) (.t 23)⟩] (some ⟨[0,1,12,13,24], [], []⟩))
  (.cond (.t 24)
  (.seq (.reg false [⟨(some 4), none, .mv (.v (.bool false))⟩] (some ⟨[4], [], []⟩))
  .ret)
  .skip))))
  (.reg false [⟨(some 25), none, .bin .add (.t 13) (.v (.int .i64 (1)))⟩, ⟨(some 13), none, .mv (.t 25)⟩] (some ⟨[0,1,12,13], [], []⟩))))))))
  (.seq (.reg false [⟨(some 4), none, .mv (.v (.bool true))⟩] (some ⟨[4], [], []⟩))
  .ret))))
theorem c_eqWin : compileCode Try.prog Try.f30.ntmps (Try.f30.body.getD .skip) A_eqWin = some (C_eqWin, []) := by kernel_rfl
theorem r_eqWin : compileRes Try.prog Try.f30.results.toList = some [.t 4] := by kernel_rfl
theorem b_eqWin : Try.f30.body = some (Try.f30.body.getD .skip) := by kernel_rfl
theorem n_eqWin : (Try.f30.name == "runtime.NumGoroutine") = false := by kernel_rfl
theorem fc_eqWin {xt : Option (List Cel)} {args : List Val} {R : List Cel → Val → Prop} (hn : (if xt.isSome then 1 else 0) + args.length ≤ Try.f30.ntmps) (h : ex Try.prog C_eqWin [] (fpost xt [.t 4] R) (initSt xt args)) : FC Try.prog 30 xt args R :=
  fc_of_awp Try.func30 b_eqWin n_eqWin c_eqWin r_eqWin (of_decide_eq_true (by kernel_rfl)) hn h

def A_facts : List Ann := [⟨(some ⟨[], [], []⟩), [], [], [], []⟩, ⟨(some ⟨[1,2,3], [1], []⟩), [], [], [], []⟩, ⟨(some ⟨[1,2,3,4,5], [1], []⟩), [], [], [], []⟩, ⟨(some ⟨[0], [], []⟩), [], [], [], []⟩]
def C_facts : AC := (.seq (.reg false [⟨(some 0), none, .mv (.v (.bool false))⟩] (some ⟨[], [], []⟩))
  (.seq (.reg false [⟨(some 7), none, .build [(.int .i64 (0)), (.int .i64 (0)), (.int .i64 (0))] [(0, 1, (.v (.int .i64 (0)))), (1, 1, (.v (.int .i64 (0))))]⟩, ⟨(some 8), none, .build [(.int .i64 (0)), (.int .i64 (0)), (.int .i64 (0))] [(0, 1, (.v (.int .i64 (4)))), (1, 1, (.v (.int .i64 (2))))]⟩, ⟨(some 9), none, .bslice 3 2 [(.t 7), (.t 8)]⟩, ⟨(some 10), none, .call (.f 47) [(.t 9), (.v (.int .i64 (1)))]⟩, ⟨(some 6), none, .mv (.t 10)⟩, ⟨(some 11), none, .extr (.t 6) 0⟩, ⟨(some 12), none, .extr (.t 6) 1⟩, ⟨(some 13), none, .extr (.t 6) 2⟩, ⟨(some 1), none, .alloc [(.int .i64 (0)), (.int .i64 (0))]⟩, ⟨none, none, .store 2 (.t 1) (.t 11)⟩, ⟨(some 2), none, .mv (.t 12)⟩, ⟨(some 3), none, .mv (.t 13)⟩] (some ⟨[1,2,3], [1], []⟩))
  (.seq (.reg false [⟨(some 15), none, .build [(.string (ByteArray.mk #[])), (.string (ByteArray.mk #[])), (.int .i64 (0)), (.int .i64 (0)), (.int .i64 (0)), (.int .i64 (0)), (.int .i64 (0)), (.int .i64 (0)), (.bool false), (.string (ByteArray.mk #[]))] [(0, 1, (.v (.string (ByteArray.mk #[97])))), (1, 1, (.v (.string (ByteArray.mk #[116])))), (2, 1, (.v (.int .i64 (1)))), (3, 1, (.v (.int .i64 (5)))), (7, 1, (.v (.int .i64 (1))))]⟩, ⟨(some 16), none, .build [(.int .i64 (0)), (.int .i64 (0)), (.int .i64 (0))] [(0, 1, (.v (.int .i64 (3)))), (1, 1, (.v (.int .i64 (6))))]⟩, ⟨(some 17), none, .bslice 3 1 [(.t 16)]⟩, ⟨(some 18), none, .call (.f 57) [(.t 15), (.t 17), (.v (.int .i64 (9)))]⟩, ⟨(some 14), none, .mv (.t 18)⟩, ⟨(some 19), none, .extr (.t 14) 0⟩, ⟨(some 20), none, .extr (.t 14) 1⟩, ⟨(some 4), none, .mv (.t 19)⟩, ⟨(some 5), none, .mv (.t 20)⟩] (some ⟨[1,2,3,4,5], [1], []⟩))
  (.seq (.reg false [⟨(some 21), none, .mv (.t 3)⟩, ⟨(some 22), none, .bin .eql (.t 21) (.v (.int .i64 (0)))⟩, ⟨(some 23), none, .mv (.t 22)⟩, ⟨(some 24), (some (23, true)), .mv (.t 2)⟩, ⟨(some 25), none, .pick (.t 23) (.t 24) (.v (.bool false))⟩, ⟨(some 26), none, .mv (.t 25)⟩, ⟨(some 27), (some (26, true)), .load true 2 (.t 1)⟩, ⟨(some 28), (some (26, true)), .build [(.int .i64 (0)), (.int .i64 (0))] [(0, 1, (.v (.int .i64 (1)))), (1, 1, (.v (.int .i64 (2))))]⟩, ⟨(some 29), (some (26, true)), .eqs false true [.i .i64, .i .i64] (.t 27) (.t 28)⟩, ⟨(some 30), none, .pick (.t 26) (.t 29) (.v (.bool false))⟩, ⟨(some 31), none, .mv (.t 30)⟩, ⟨(some 32), (some (31, true)), .mv (.t 5)⟩, ⟨(some 33), (some (31, true)), .bin .eql (.t 32) (.v (.int .i64 (0)))⟩, ⟨(some 34), none, .pick (.t 31) (.t 33) (.v (.bool false))⟩, ⟨(some 35), none, .mv (.t 34)⟩, ⟨(some 36), (some (35, true)), .mv (.t 4)⟩, ⟨(some 37), (some (35, true)), .len (.t 36)⟩, ⟨(some 38), (some (35, true)), .bin .eql (.t 37) (.v (.int .i64 (1)))⟩, ⟨(some 39), none, .pick (.t 35) (.t 38) (.v (.bool false))⟩, ⟨(some 0), none, .mv (.t 39)⟩] (some ⟨[0], [], []⟩))
  .ret))))
theorem c_facts : compileCode Try.prog Try.f77.ntmps (Try.f77.body.getD .skip) A_facts = some (C_facts, []) := by kernel_rfl
theorem r_facts : compileRes Try.prog Try.f77.results.toList = some [.t 0] := by kernel_rfl
theorem b_facts : Try.f77.body = some (Try.f77.body.getD .skip) := by kernel_rfl
theorem n_facts : (Try.f77.name == "runtime.NumGoroutine") = false := by kernel_rfl
theorem fc_facts {xt : Option (List Cel)} {args : List Val} {R : List Cel → Val → Prop} (hn : (if xt.isSome then 1 else 0) + args.length ≤ Try.f77.ntmps) (h : ex Try.prog C_facts [] (fpost xt [.t 0] R) (initSt xt args)) : FC Try.prog 77 xt args R :=
  fc_of_awp Try.func77 b_facts n_facts c_facts r_facts (of_decide_eq_true (by kernel_rfl)) hn h

def A_contS : List Ann := [⟨(some ⟨[0,1], [], []⟩), [], [], [], []⟩, ⟨(some ⟨[4], [], []⟩), [], [], [], []⟩]
def C_contS : AC := (.seq (.reg false [⟨(some 4), none, .mv (.v (.bool false))⟩] (some ⟨[0,1], [], []⟩))
  (.seq (.reg false [⟨(some 5), none, .mv (.t 0)⟩, ⟨(some 6), none, .mv (.t 1)⟩, ⟨(some 7), none, .call (.f 152) [(.t 5), (.t 6)]⟩, ⟨(some 8), none, .bin .geq (.t 7) (.v (.int .i64 (0)))⟩, ⟨(some 4), none, .mv (.t 8)⟩] (some ⟨[4], [], []⟩))
  .ret))
theorem c_contS : compileCode Try.prog Try.f90.ntmps (Try.f90.body.getD .skip) A_contS = some (C_contS, []) := by kernel_rfl
theorem r_contS : compileRes Try.prog Try.f90.results.toList = some [.t 4] := by kernel_rfl
theorem b_contS : Try.f90.body = some (Try.f90.body.getD .skip) := by kernel_rfl
theorem n_contS : (Try.f90.name == "runtime.NumGoroutine") = false := by kernel_rfl
theorem fc_contS {xt : Option (List Cel)} {args : List Val} {R : List Cel → Val → Prop} (hn : (if xt.isSome then 1 else 0) + args.length ≤ Try.f90.ntmps) (h : ex Try.prog C_contS [] (fpost xt [.t 4] R) (initSt xt args)) : FC Try.prog 90 xt args R :=
  fc_of_awp Try.func90 b_contS n_contS c_contS r_contS (of_decide_eq_true (by kernel_rfl)) hn h

def A_idxS : List Ann := [⟨(some ⟨[0,1], [], []⟩), [], [], [], []⟩, ⟨(some ⟨[0,1,7,8], [], []⟩), [], [], [], []⟩, ⟨(some ⟨[0,1,7,8,9], [], []⟩), [], [], [], []⟩, ⟨(some ⟨[0,1,5,7,8], [], []⟩), [], [], [], []⟩, ⟨(some ⟨[0,1,5,7,8,16], [], []⟩), [], [], [], []⟩, ⟨(some ⟨[4], [], []⟩), [], [], [], []⟩, ⟨(some ⟨[0,1,7,8], [], []⟩), [], [], [], []⟩, ⟨(some ⟨[4], [], []⟩), [], [], [], []⟩]
def C_idxS : AC := (.seq (.reg false [⟨(some 4), none, .mv (.v (.int .i64 (0)))⟩] (some ⟨[0,1], [], []⟩))
  (.seq (.seq (.reg false [⟨(some 6), none, .mv (.t 0)⟩, ⟨(some 7), none, .len (.t 6)⟩, ⟨(some 8), none, .mv (.v (.int .i64 (0)))⟩] (some ⟨[0,1,7,8], [], []⟩))
  (.block 0 (.loop (.seq (.reg false [⟨(some 9), none, .bin .lss (.t 8) (.t 7)⟩] (some ⟨[0,1,7,8,9], [], []⟩))
  (.seq (.cond (.t 9)
  .skip
  (.exit 0))
  (.seq (.block 1 (.seq (.reg false [⟨(some 10), none, .mv (.t 8)⟩, ⟨(some 5), none, .mv (.t 10)⟩] (some ⟨[0,1,5,7,8], [], []⟩))
  (.seq (.reg false [⟨(some 11), none, .mv (.t 1)⟩, ⟨(some 12), none, .mv (.t 0)⟩, ⟨(some 13), none, .mv (.t 5)⟩, ⟨(some 14), none, .iadr 3 (.t 12) (.t 13)⟩, ⟨(some 15), none, .load true 3 (.t 14)⟩, ⟨(some 16), none, .call (.t 11) [(.t 15)]⟩] (some ⟨[0,1,5,7,8,16], [], []⟩))
  (.cond (.t 16)
  (.seq (.reg false [⟨(some 17), none, .mv (.t 5)⟩, ⟨(some 4), none, .mv (.t 17)⟩] (some ⟨[4], [], []⟩))
  .ret)
  .skip))))
  (.reg false [⟨(some 18), none, .bin .add (.t 8) (.v (.int .i64 (1)))⟩, ⟨(some 8), none, .mv (.t 18)⟩] (some ⟨[0,1,7,8], [], []⟩))))))))
  (.seq (.reg false [⟨(some 4), none, .mv (.v (.int .i64 (-1)))⟩] (some ⟨[4], [], []⟩))
  .ret)))
theorem c_idxS : compileCode Try.prog Try.f152.ntmps (Try.f152.body.getD .skip) A_idxS = some (C_idxS, []) := by kernel_rfl
theorem r_idxS : compileRes Try.prog Try.f152.results.toList = some [.t 4] := by kernel_rfl
theorem b_idxS : Try.f152.body = some (Try.f152.body.getD .skip) := by kernel_rfl
theorem n_idxS : (Try.f152.name == "runtime.NumGoroutine") = false := by kernel_rfl
theorem fc_idxS {xt : Option (List Cel)} {args : List Val} {R : List Cel → Val → Prop} (hn : (if xt.isSome then 1 else 0) + args.length ≤ Try.f152.ntmps) (h : ex Try.prog C_idxS [] (fpost xt [.t 4] R) (initSt xt args)) : FC Try.prog 152 xt args R :=
  fc_of_awp Try.func152 b_idxS n_idxS c_idxS r_idxS (of_decide_eq_true (by kernel_rfl)) hn h

def A_taClos : List Ann := [⟨(some ⟨[1], [1], []⟩), [], [], [], []⟩, ⟨(some ⟨[2], [], []⟩), [], [], [], []⟩]
def C_taClos : AC := (.seq (.reg false [⟨(some 1), none, .box (.t 0)⟩, ⟨(some 2), none, .mv (.v (.bool false))⟩] (some ⟨[1], [1], []⟩))
  (.seq (.reg false [⟨(some 3), none, .fadr 2 (.t 1)⟩, ⟨(some 4), none, .load false 1 (.t 3)⟩, ⟨(some 5), none, .bin .eql (.t 4) (.v (.int .i64 (2)))⟩, ⟨(some 2), none, .mv (.t 5)⟩] (some ⟨[2], [], []⟩))
  .ret))
theorem c_taClos : compileCode Try.prog Try.f91.ntmps (Try.f91.body.getD .skip) A_taClos = some (C_taClos, []) := by kernel_rfl
theorem r_taClos : compileRes Try.prog Try.f91.results.toList = some [.t 2] := by kernel_rfl
theorem b_taClos : Try.f91.body = some (Try.f91.body.getD .skip) := by kernel_rfl
theorem n_taClos : (Try.f91.name == "runtime.NumGoroutine") = false := by kernel_rfl
theorem fc_taClos {xt : Option (List Cel)} {args : List Val} {R : List Cel → Val → Prop} (hn : (if xt.isSome then 1 else 0) + args.length ≤ Try.f91.ntmps) (h : ex Try.prog C_taClos [] (fpost xt [.t 2] R) (initSt xt args)) : FC Try.prog 91 xt args R :=
  fc_of_awp Try.func91 b_taClos n_taClos c_taClos r_taClos (of_decide_eq_true (by kernel_rfl)) hn h

def A_taa : List Ann := [⟨(some ⟨[0], [], []⟩), [], [], [], []⟩, ⟨(some ⟨[3,17], [17], []⟩), [], [], [], []⟩, ⟨(some ⟨[4,5,6], [], []⟩), [], [], [], []⟩, ⟨(some ⟨[4,5,6,25], [], []⟩), [], [], [], []⟩, ⟨(some ⟨[2], [], []⟩), [], [], [], []⟩, ⟨(some ⟨[4,5,6,7,8], [], []⟩), [], [], [], []⟩, ⟨(some ⟨[7,8,9,10,11], [], []⟩), [], [], [], []⟩, ⟨(some ⟨[7,8,9,10,11,12], [], []⟩), [], [], [], []⟩, ⟨(some ⟨[7,8,9,10,11,12,44,45,46], [], []⟩), [], [], [], []⟩, ⟨(some ⟨[7,8,9,10,11,12,44,45,46,47], [], []⟩), [], [], [], []⟩, ⟨(some ⟨[7,8,9,10,11,12,14,44,45,46], [14], []⟩), [], [], [], []⟩, ⟨(some ⟨[7,8,9,10,11,12,44,45,46], [], []⟩), [], [], [], []⟩, ⟨(some ⟨[7,8,9,10,11,12,44,45,46], [], []⟩), [], [], [], []⟩, ⟨(some ⟨[2], [], []⟩), [], [], [], []⟩]
def C_taa : AC := (.seq (.reg false [⟨(some 2), none, .mv (.v (.bool false))⟩] (some ⟨[0], [], []⟩))
  (.seq (.reg false [⟨(some 15), none, .mv (.t 0)⟩, ⟨(some 16), none, .build [(.slice none 0 0), (.int .i64 (0))] [(0, 1, (.t 15))]⟩, ⟨(some 17), none, .box (.t 16)⟩, ⟨(some 3), none, .mv (.t 17)⟩] (some ⟨[3,17], [17], []⟩))
  (.seq (.reg false [⟨(some 18), none, .mv (.t 3)⟩, ⟨(some 19), none, .callx (.f 55) [(.t 18), (.v (.int .i64 (14)))]⟩, ⟨(some 20), none, .mv (.t 3)⟩, ⟨(some 21), none, .callx (.f 56) [(.t 20), (.v (.int .i64 (-2))), (.v (.int .i64 (8)))]⟩, ⟨(some 22), none, .mv (.t 3)⟩, ⟨(some 23), none, .callx (.f 56) [(.t 22), (.v (.int .i64 (1))), (.v (.int .i64 (200)))]⟩, ⟨(some 4), none, .mv (.t 19)⟩, ⟨(some 5), none, .mv (.t 21)⟩, ⟨(some 6), none, .mv (.t 23)⟩] (some ⟨[4,5,6], [], []⟩))
  (.seq (.seq (.reg false [⟨(some 24), none, .mv (.t 4)⟩, ⟨(some 25), none, .call (.f 90) [(.t 24), (.f 91)]⟩] (some ⟨[4,5,6,25], [], []⟩))
  (.cond (.t 25)
  (.seq (.reg false [⟨(some 26), none, .call (.f 77) []⟩, ⟨(some 2), none, .mv (.t 26)⟩] (some ⟨[2], [], []⟩))
  .ret)
  .skip))
  (.seq (.reg false [⟨(some 28), none, .mv (.t 5)⟩, ⟨(some 29), none, .build [(.string (ByteArray.mk #[])), (.string (ByteArray.mk #[])), (.int .i64 (0)), (.int .i64 (0)), (.int .i64 (0)), (.int .i64 (0)), (.int .i64 (0)), (.int .i64 (0)), (.bool false), (.string (ByteArray.mk #[]))] [(0, 1, (.v (.string (ByteArray.mk #[97])))), (1, 1, (.v (.string (ByteArray.mk #[116])))), (2, 1, (.v (.int .i64 (1)))), (3, 1, (.t 28)), (7, 1, (.v (.int .i64 (1))))]⟩, ⟨(some 30), none, .mv (.t 4)⟩, ⟨(some 31), none, .mv (.t 6)⟩, ⟨(some 32), none, .call (.f 57) [(.t 29), (.t 30), (.t 31)]⟩, ⟨(some 27), none, .mv (.t 32)⟩, ⟨(some 33), none, .extr (.t 27) 0⟩, ⟨(some 34), none, .extr (.t 27) 1⟩, ⟨(some 7), none, .mv (.t 33)⟩, ⟨(some 8), none, .mv (.t 34)⟩] (some ⟨[4,5,6,7,8], [], []⟩))
  (.seq (.reg false [⟨(some 36), none, .mv (.t 4)⟩, ⟨(some 37), none, .mv (.t 6)⟩, ⟨(some 38), none, .build [(.int .i64 (0)), (.int .i64 (0))] [(1, 1, (.t 37))]⟩, ⟨(some 39), none, .mv (.t 5)⟩, ⟨(some 40), none, .call (.f 92) [(.t 36), (.t 38), (.t 39)]⟩, ⟨(some 35), none, .mv (.t 40)⟩, ⟨(some 41), none, .extr (.t 35) 0⟩, ⟨(some 42), none, .extr (.t 35) 1⟩, ⟨(some 43), none, .extr (.t 35) 2⟩, ⟨(some 9), none, .mv (.t 41)⟩, ⟨(some 10), none, .mv (.t 42)⟩, ⟨(some 11), none, .mv (.t 43)⟩] (some ⟨[7,8,9,10,11], [], []⟩))
  (.seq (.reg false [⟨(some 12), none, .mv (.v (.int .i64 (0)))⟩] (some ⟨[7,8,9,10,11,12], [], []⟩))
  (.seq (.seq (.reg false [⟨(some 44), none, .mv (.t 7)⟩, ⟨(some 45), none, .len (.t 44)⟩, ⟨(some 46), none, .mv (.v (.int .i64 (0)))⟩] (some ⟨[7,8,9,10,11,12,44,45,46], [], []⟩))
  (.block 0 (.loop (.seq (.reg false [⟨(some 47), none, .bin .lss (.t 46) (.t 45)⟩] (some ⟨[7,8,9,10,11,12,44,45,46,47], [], []⟩))
  (.seq (.cond (.t 47)
  .skip
  (.exit 0))
  (.seq (.block 1 (.seq (.reg false [⟨(some 48), none, .iadr 2 (.t 44) (.t 46)⟩, ⟨(some 49), none, .load true 2 (.t 48)⟩, ⟨(some 14), none, .alloc [(.int .i64 (0)), (.int .i64 (0))]⟩, ⟨none, none, .store 2 (.t 14) (.t 49)⟩] (some ⟨[7,8,9,10,11,12,14,44,45,46], [14], []⟩))
  (.reg false [⟨(some 50), none, .mv (.t 12)⟩, ⟨(some 51), none, .fadr 1 (.t 14)⟩, ⟨(some 52), none, .load false 1 (.t 51)⟩, ⟨(some 53), none, .fadr 0 (.t 14)⟩, ⟨(some 54), none, .load false 1 (.t 53)⟩, ⟨(some 55), none, .bin .sub (.t 52) (.t 54)⟩, ⟨(some 56), none, .bin .add (.t 50) (.t 55)⟩, ⟨(some 12), none, .mv (.t 56)⟩] (some ⟨[7,8,9,10,11,12,44,45,46], [], []⟩))))
  (.reg false [⟨(some 57), none, .bin .add (.t 46) (.v (.int .i64 (1)))⟩, ⟨(some 46), none, .mv (.t 57)⟩] (some ⟨[7,8,9,10,11,12,44,45,46], [], []⟩))))))))
  (.seq (.reg false [⟨(some 58), none, .mv (.t 8)⟩, ⟨(some 59), none, .bin .eql (.t 58) (.v (.int .i64 (0)))⟩, ⟨(some 60), none, .mv (.t 59)⟩, ⟨(some 61), (some (60, true)), .mv (.t 11)⟩, ⟨(some 62), (some (60, true)), .bin .eql (.t 61) (.v (.int .i64 (0)))⟩, ⟨(some 63), none, .pick (.t 60) (.t 62) (.v (.bool false))⟩, ⟨(some 64), none, .mv (.t 63)⟩, ⟨(some 65), (some (64, true)), .mv (.t 7)⟩, ⟨(some 66), (some (64, true)), .mv (.t 9)⟩, ⟨(some 67), (some (64, true)), .call (.f 30) [(.t 65), (.t 66)]⟩, ⟨(some 68), none, .pick (.t 64) (.t 67) (.v (.bool false))⟩, ⟨(some 69), none, .mv (.t 68)⟩, ⟨(some 70), (some (69, true)), .mv (.t 12)⟩, ⟨(some 71), (some (69, true)), .mv (.t 10)⟩, ⟨(some 72), (some (69, true)), .bin .eql (.t 70) (.t 71)⟩, ⟨(some 73), none, .pick (.t 69) (.t 72) (.v (.bool false))⟩, ⟨(some 74), none, .mv (.t 73)⟩, ⟨(some 75), (some (74, true)), .call (.f 77) []⟩, ⟨(some 76), none, .pick (.t 74) (.t 75) (.v (.bool false))⟩, ⟨(some 2), none, .mv (.t 76)⟩] (some ⟨[2], [], []⟩))
  .ret)))))))))
theorem c_taa : compileCode Try.prog Try.f13.ntmps (Try.f13.body.getD .skip) A_taa = some (C_taa, []) := by kernel_rfl
theorem r_taa : compileRes Try.prog Try.f13.results.toList = some [.t 2] := by kernel_rfl
theorem b_taa : Try.f13.body = some (Try.f13.body.getD .skip) := by kernel_rfl
theorem n_taa : (Try.f13.name == "runtime.NumGoroutine") = false := by kernel_rfl
theorem fc_taa {xt : Option (List Cel)} {args : List Val} {R : List Cel → Val → Prop} (hn : (if xt.isSome then 1 else 0) + args.length ≤ Try.f13.ntmps) (h : ex Try.prog C_taa [] (fpost xt [.t 2] R) (initSt xt args)) : FC Try.prog 13 xt args R :=
  fc_of_awp Try.func13 b_taa n_taa c_taa r_taa (of_decide_eq_true (by kernel_rfl)) hn h


def eqWSt (fr fr' : Bool) (l : List (Int × Int)) (i : Int) : AS := ⟨tabV [(0, frsV fr l), (1, frsV fr' l), (12, iv l.length), (13, iv i)], tabO [], tabO []⟩
theorem eqWin_fc (fr fr' : Bool) (l : List (Int × Int)) (hl : l.length ≤ 4611686018427387904) : FC Try.prog 30 none [frsV fr l, frsV fr' l] (fun _ r => r = bv true) := by
  refine fc_eqWin (by simp +arith) ?_
  unfold C_eqWin
  simp (maxSteps := 1000000) (disch := omega) only [go_sem, eq_self, decide_true, decide_false, not_true_eq_false, not_false_eq_true, reduceIte, reduceCtorEq, Nat.reduceEqDiff, Nat.reduceAdd, Nat.reduceSub, Nat.reduceLeDiff]
  refine ex_loop1 (eqWSt fr fr' l) (fun i => 0 ≤ i ∧ i ≤ l.length) (fun i => (l.length - i).toNat) 0 ⟨by omega, by omega⟩ rfl ?_
  rintro i ⟨g1, g2⟩
  unfold eqWSt
  by_cases hi : i < l.length
  · simp (maxSteps := 1000000) (disch := omega) only [go_sem, eq_self, decide_true, decide_false, not_true_eq_false, not_false_eq_true, reduceIte, reduceCtorEq, Nat.reduceEqDiff, Nat.reduceAdd, Nat.reduceSub, Nat.reduceLeDiff]
    exact ⟨_, rfl, ⟨by omega, by omega⟩, by omega⟩
  · simp (maxSteps := 1000000) (disch := omega) only [go_sem, eq_self, decide_true, decide_false, not_true_eq_false, not_false_eq_true, reduceIte, reduceCtorEq, Nat.reduceEqDiff, Nat.reduceAdd, Nat.reduceSub, Nat.reduceLeDiff]
theorem facts_fc : FC Try.prog 77 none [] (fun _ r => r = bv true) := by
  refine fc_facts (by simp +arith) ?_
  unfold C_facts
  simp (maxSteps := 1000000) (disch := omega) only [go_sem, eq_self, decide_true, decide_false, not_true_eq_false, not_false_eq_true, reduceIte, reduceCtorEq, Nat.reduceEqDiff, Nat.reduceAdd, Nat.reduceSub, Nat.reduceLeDiff]
  refine CALL_det (reconstruct_fc [⟨0, 0, 0⟩, ⟨4, 2, 0⟩] (by simp) 1) (.inl rfl) ?_
  have e : recoSp [⟨0, 0, 0⟩, ⟨4, 2, 0⟩] 1 = ((1, 2), true, 0) := by kernel_rfl
  rw [e]
  simp (maxSteps := 1000000) (disch := omega) only [go_sem, eq_self, decide_true, decide_false, not_true_eq_false, not_false_eq_true, reduceIte, reduceCtorEq, Nat.reduceEqDiff, Nat.reduceAdd, Nat.reduceSub, Nat.reduceLeDiff]
  refine CALL_det (activeP_fc 1 5 0 0 0 1 9 [⟨3, 6, 0⟩] (by simp)) (.inl rfl) ?_
  have e2 : actSp 1 5 0 0 0 1 [⟨3, 6, 0⟩] 9 = ([(3, 9)], 0) := by kernel_rfl
  rw [e2]
  simp (maxSteps := 1000000) (disch := omega) only [go_sem, eq_self, decide_true, decide_false, not_true_eq_false, not_false_eq_true, reduceIte, reduceCtorEq, Nat.reduceEqDiff, Nat.reduceAdd, Nat.reduceSub, Nat.reduceLeDiff]
  rfl
theorem taClos_fc (x : Smp) : FC Try.prog 91 none [.ag (smpC x)] (fun _ r => r = bv (decide (x.q = 2))) := by
  refine fc_taClos (by simp +arith) ?_
  unfold C_taClos
  simp (maxSteps := 1000000) (disch := omega) only [go_sem, eq_self, decide_true, decide_false, not_true_eq_false, not_false_eq_true, reduceIte, reduceCtorEq, Nat.reduceEqDiff, Nat.reduceAdd, Nat.reduceSub, Nat.reduceLeDiff]
def ixSSt (cl : FuncId) (l : List Smp) (i : Int) : AS := ⟨tabV [(0, smps false l), (1, .one (.fn cl [])), (7, iv l.length), (8, iv i)], tabO [], tabO []⟩
theorem idxS_fc (cl : FuncId) (p : Smp → Bool) (l : List Smp) (hl : l.length ≤ 1000000) (hcl : ∀ x, FC Try.prog cl none [.ag (smpC x)] (fun _ r => r = bv (p x))) : FC Try.prog 152 none [smps false l, .one (.fn cl [])] (fun _ r => r = iv (idxG p 0 l)) := by
  refine fc_idxS (by simp +arith) ?_
  unfold C_idxS
  simp (maxSteps := 1000000) (disch := omega) only [go_sem, eq_self, decide_true, decide_false, not_true_eq_false, not_false_eq_true, reduceIte, reduceCtorEq, Nat.reduceEqDiff, Nat.reduceAdd, Nat.reduceSub, Nat.reduceLeDiff]
  refine ex_loop1 (ixSSt cl l) (fun i => 0 ≤ i ∧ i ≤ l.length ∧ idxG p i (l.drop i.toNat) = idxG p 0 l) (fun i => (l.length - i).toNat) 0 ⟨by omega, by omega, rfl⟩ rfl ?_
  rintro i ⟨g1, g2, g3⟩
  unfold ixSSt
  by_cases hi : i < l.length
  · rw [drop_cons l i.toNat (by omega), idxG] at g3
    have e2 : (i + 1).toNat = i.toNat + 1 := by omega
    simp (maxSteps := 1000000) (disch := omega) only [go_sem, eq_self, decide_true, decide_false, not_true_eq_false, not_false_eq_true, reduceIte, reduceCtorEq, Nat.reduceEqDiff, Nat.reduceAdd, Nat.reduceSub, Nat.reduceLeDiff]
    refine CALL_det (hcl _) (.inl rfl) ?_
    cases h : p (l.getD i.toNat default) with
    | true => rw [h, if_pos rfl] at g3; simp (maxSteps := 1000000) (disch := omega) only [go_sem, eq_self, decide_true, decide_false, not_true_eq_false, not_false_eq_true, reduceIte, reduceCtorEq, Nat.reduceEqDiff, Nat.reduceAdd, Nat.reduceSub, Nat.reduceLeDiff]; rw [← g3]
    | false =>
      rw [h, if_neg (by simp)] at g3
      simp (maxSteps := 1000000) (disch := omega) only [go_sem, eq_self, decide_true, decide_false, not_true_eq_false, not_false_eq_true, reduceIte, reduceCtorEq, Nat.reduceEqDiff, Nat.reduceAdd, Nat.reduceSub, Nat.reduceLeDiff]
      exact ⟨_, rfl, ⟨by omega, by omega, by rw [e2]; exact g3⟩, by omega⟩
  · rw [List.drop_eq_nil_of_le (by omega), idxG] at g3
    simp (maxSteps := 1000000) (disch := omega) only [go_sem, eq_self, decide_true, decide_false, not_true_eq_false, not_false_eq_true, reduceIte, reduceCtorEq, Nat.reduceEqDiff, Nat.reduceAdd, Nat.reduceSub, Nat.reduceLeDiff]
    rw [← g3]
theorem idxG_any {α : Type} [Inhabited α] (p : α → Bool) (l : List α) : decide (idxG p 0 l ≥ 0) = l.any p := by
  rcases idxG_spec p l 0 (by omega) with ⟨h1, h2⟩ | ⟨h1, h2, h3, _⟩
  · rw [h1]
    have : l.any p = false := by rw [List.any_eq_false]; intro x hx; rw [h2 x hx]; simp
    rw [this]; rfl
  · have : l.any p = true := List.any_eq_true.2 ⟨_, getD_mem l _ (by omega), h3⟩
    rw [this]; simp [h1]
theorem contS_fc (cl : FuncId) (p : Smp → Bool) (l : List Smp) (hl : l.length ≤ 1000000) (hcl : ∀ x, FC Try.prog cl none [.ag (smpC x)] (fun _ r => r = bv (p x))) : FC Try.prog 90 none [smps false l, .one (.fn cl [])] (fun _ r => r = bv (l.any p)) := by
  refine fc_contS (by simp +arith) ?_
  unfold C_contS
  simp (maxSteps := 1000000) (disch := omega) only [go_sem, eq_self, decide_true, decide_false, not_true_eq_false, not_false_eq_true, reduceIte, reduceCtorEq, Nat.reduceEqDiff, Nat.reduceAdd, Nat.reduceSub, Nat.reduceLeDiff]
  refine CALL_det (idxS_fc cl p l hl hcl) (.inl rfl) ?_
  simp (maxSteps := 1000000) (disch := omega) only [go_sem, eq_self, decide_true, decide_false, not_true_eq_false, not_false_eq_true, reduceIte, reduceCtorEq, Nat.reduceEqDiff, Nat.reduceAdd, Nat.reduceSub, Nat.reduceLeDiff]
  rw [← idxG_any p l]
theorem abvSp_ok {l : List Smp} {f t L : Int} (h1 : bothFault l f t = 0) (h2 : limF L = 0) : abvSp l f t L = ((abW L f t l).1, (abW L f t l).2, 0) := by
  unfold abvSp; rw [if_neg (by omega), if_neg (by omega)]
def taaSt (f : List (Int × Int)) (n i s : Int) : AS := ⟨tabV [(7, frsV true f), (8, iv 0), (9, frsV true f), (10, iv n), (11, iv 0), (12, iv s), (44, frsV true f), (45, iv f.length), (46, iv i)], tabO [], tabO []⟩
theorem taa_fc (L : List Int) (hL : ∀ x ∈ L, I64 x) (hl : L.length ≤ 9223372036854775807) : FC Try.prog 13 none [ints false L] (fun _ r => r = bv true) := by
  refine fc_taa (by simp +arith) ?_
  unfold C_taa
  simp (maxSteps := 1000000) (disch := omega) only [go_sem, eq_self, decide_true, decide_false, not_true_eq_false, not_false_eq_true, reduceIte, reduceCtorEq, Nat.reduceEqDiff, Nat.reduceAdd, Nat.reduceSub, Nat.reduceLeDiff]
  refine callx_gen (p := 0) (rightCurve_fc 14 (by omega) (by omega)) hL hl (by omega) (by omega) ⟨_, [], rfl, by simp, rfl⟩ ?_
  rintro pa r ha1 ha2 ⟨l, hs, hlm, rfl⟩
  refine ⟨rfl, ?_⟩
  unfold strm
  simp (maxSteps := 1000000) (disch := omega) only [go_sem, eq_self, decide_true, decide_false, not_true_eq_false, not_false_eq_true, reduceIte, reduceCtorEq, Nat.reduceEqDiff, Nat.reduceAdd, Nat.reduceSub, Nat.reduceLeDiff]
  refine callx_gen (range_fc (-2) 8 (by omega) (by omega) (by omega)) hL hl (by omega) (by omega) ⟨_, 1, by omega, by omega, rfl⟩ ?_
  rintro pb r hb1 hb2 ⟨lim, hs1, hs2, rfl⟩
  refine ⟨rfl, ?_⟩
  unfold strm
  simp (maxSteps := 1000000) (disch := omega) only [go_sem, eq_self, decide_true, decide_false, not_true_eq_false, not_false_eq_true, reduceIte, reduceCtorEq, Nat.reduceEqDiff, Nat.reduceAdd, Nat.reduceSub, Nat.reduceLeDiff]
  refine callx_gen (range_fc 1 200 (by omega) (by omega) (by omega)) hL hl (by omega) (by omega) ⟨_, 1, by omega, by omega, rfl⟩ ?_
  rintro pc r hc1 hc2 ⟨un, hu1, hu2, rfl⟩
  refine ⟨rfl, ?_⟩
  unfold strm
  simp (maxSteps := 1000000) (disch := omega) only [go_sem, eq_self, decide_true, decide_false, not_true_eq_false, not_false_eq_true, reduceIte, reduceCtorEq, Nat.reduceEqDiff, Nat.reduceAdd, Nat.reduceSub, Nat.reduceLeDiff]
  refine CALL_det (contS_fc 91 (fun x => decide (x.q = 2)) l (by omega) (fun x => taClos_fc x)) (.inl rfl) ?_
  cases hb : l.any (fun x => decide (x.q = 2)) with
  | true =>
    simp (maxSteps := 1000000) (disch := omega) only [go_sem, eq_self, decide_true, decide_false, not_true_eq_false, not_false_eq_true, reduceIte, reduceCtorEq, Nat.reduceEqDiff, Nat.reduceAdd, Nat.reduceSub, Nat.reduceLeDiff]
    refine CALL_det facts_fc (.inl rfl) ?_
    simp (maxSteps := 1000000) (disch := omega) only [go_sem, eq_self, decide_true, decide_false, not_true_eq_false, not_false_eq_true, reduceIte, reduceCtorEq, Nat.reduceEqDiff, Nat.reduceAdd, Nat.reduceSub, Nat.reduceLeDiff]
  | false =>
    have hb2 : ∀ s ∈ l, ¬s.q = 2 := fun s hs2 => by
      rw [List.any_eq_false] at hb
      have := hb s hs2
      simpa using this
    have hasc := asc_of hs
    have e2 := actSp_ok (lim := lim) (db := 0) (by omega) (by omega) (show 0 ≤ un ∧ un ≤ 345686400000 by omega) hs
    rw [actW_raw (by omega) hasc, show lim - 0 + 1 = lim + 1 by omega] at e2
    have hbf : bothFault l 0 un = 0 := by unfold bothFault; rw [if_neg (by omega)]; unfold winFault; rw [if_neg (by omega)]
    have e3 := abvSp_ok hbf (show limF lim = 0 by unfold limF; rw [if_pos (by omega)])
    obtain ⟨e4, e5⟩ := abW_raw (L := lim) (un := un) hasc hb2
    rw [e4, e5] at e3
    have hrl := raw_len (lim + 1) (lim + 1) un l ([], false)
    change (rawW (lim + 1) (lim + 1) un l).length ≤ _ at hrl
    simp only [List.length_nil, Nat.zero_add] at hrl
    have hf := (raw_fch (show un ≤ 345686400000 by omega) l 0 hasc (st := lim + 1) (sp := lim + 1)).1
    rw [← rawW_R] at hf
    have hge := fun w hw => hf.ge w hw
    clear hf e4 e5
    generalize rawW (lim + 1) (lim + 1) un l = f at *
    simp (maxSteps := 1000000) (disch := omega) only [go_sem, eq_self, decide_true, decide_false, not_true_eq_false, not_false_eq_true, reduceIte, reduceCtorEq, Nat.reduceEqDiff, Nat.reduceAdd, Nat.reduceSub, Nat.reduceLeDiff]
    refine CALL_det (activeP_fc 1 lim 0 0 0 1 un l (by omega)) (.inl rfl) ?_
    rw [e2]
    simp (maxSteps := 1000000) (disch := omega) only [go_sem, eq_self, decide_true, decide_false, not_true_eq_false, not_false_eq_true, reduceIte, reduceCtorEq, Nat.reduceEqDiff, Nat.reduceAdd, Nat.reduceSub, Nat.reduceLeDiff]
    refine CALL_det (above_fc l (by omega) 0 un lim) (.inl rfl) ?_
    rw [e3]
    simp (maxSteps := 1000000) (disch := omega) only [go_sem, eq_self, decide_true, decide_false, not_true_eq_false, not_false_eq_true, reduceIte, reduceCtorEq, Nat.reduceEqDiff, Nat.reduceAdd, Nat.reduceSub, Nat.reduceLeDiff]
    refine ex_loop2 (taaSt f (lenS f)) (fun i s => 0 ≤ i ∧ i ≤ f.length ∧ 0 ≤ s ∧ s ≤ i * 345686400000 ∧ s + lenS (f.drop i.toNat) = lenS f) (fun i _ => (f.length - i).toNat) 0 0 ⟨by omega, by omega, by omega, by omega, by simp⟩ rfl ?_
    rintro i s ⟨g1, g2, g3, g4, g5⟩
    unfold taaSt
    by_cases hi : i < f.length
    · have e2 : (i + 1).toNat = i.toNat + 1 := by omega
      have em := getD_map_at frC f i [] g1 hi
      have hx := hge _ (getD_mem f i.toNat (by omega))
      rw [drop_cons f i.toNat (by omega), ← e2, lenS] at g5
      simp (maxSteps := 1000000) (disch := omega) only [go_sem, eq_self, decide_true, decide_false, not_true_eq_false, not_false_eq_true, reduceIte, reduceCtorEq, Nat.reduceEqDiff, Nat.reduceAdd, Nat.reduceSub, Nat.reduceLeDiff]
      exact ⟨i + 1, s + ((f.getD i.toNat default).2 - (f.getD i.toNat default).1), rfl, ⟨by omega, by omega, by omega, by omega, by omega⟩, by omega⟩
    · rw [List.drop_eq_nil_of_le (by omega), lenS, Int.add_zero] at g5
      simp (maxSteps := 1000000) (disch := omega) only [go_sem, eq_self, decide_true, decide_false, not_true_eq_false, not_false_eq_true, reduceIte, reduceCtorEq, Nat.reduceEqDiff, Nat.reduceAdd, Nat.reduceSub, Nat.reduceLeDiff]
      refine CALL_det (eqWin_fc _ _ f (by omega)) (.inl rfl) ?_
      rw [g5]
      simp (maxSteps := 1000000) (disch := omega) only [go_sem, eq_self, decide_true, decide_false, not_true_eq_false, not_false_eq_true, reduceIte, reduceCtorEq, Nat.reduceEqDiff, Nat.reduceAdd, Nat.reduceSub, Nat.reduceLeDiff]
      refine CALL_det facts_fc (.inl rfl) ?_
      simp (maxSteps := 1000000) (disch := omega) only [go_sem, eq_self, decide_true, decide_false, not_true_eq_false, not_false_eq_true, reduceIte, reduceCtorEq, Nat.reduceEqDiff, Nat.reduceAdd, Nat.reduceSub, Nat.reduceLeDiff]
theorem taa_own : ownKnob Try.prog.godebug = none := by kernel_rfl
theorem taa_laid : laidOutB Try.prog = true := by kernel_rfl
set_option maxRecDepth 100000 in
theorem taa_lifted (os : Os) (started : os.Started) (H : Type) (enc : TypeId × Value → H) :
    ReturnsInHanded {} Try.checked os 13 .any (Rows.topAlarmsAreTimeAboveSpec.pre6 enc Try.prog Try.f13 Rows.topAlarmsAreTimeAboveRow.domain false) (Rows.topAlarmsAreTimeAboveSpec.post enc Try.prog Try.f13 false true false false) := by
  refine returnsInHanded_of_change (C := Try.checked) taa_own started (by kernel_rfl) Try.func13
    (ChangeSpec.witness6 (enc := enc) (C := Try.checked) false ⟨#[], #[.slice none 0 0], []⟩ 8 (by kernel_rfl) (by kernel_rfl) (by kernel_rfl) (by kernel_rfl)) ?_
  intro W base args ds gs before hval hW _ _
  exact law_contract (P := Try.prog) (fun L h1 h2 => taa_fc L h1 h2) (fun _ _ => rfl) rfl rfl rfl taa_laid (by kernel_rfl) (of_decide_eq_true (by kernel_rfl)) Try.underlying22 Try.underlying3 (by kernel_rfl) Try.underlying4 W base args ds gs before hval hW
theorem taa_over : Rows.topAlarmsAreTimeAboveRow.holds Try.pinned (OpenSpec.ofChange Rows.topAlarmsAreTimeAboveSpec) :=
  OpenClaim.holds_of_wide 13 Try.f13 rfl rfl rfl rfl rfl rfl rfl ⟨rfl, rfl, rfl, rfl, rfl⟩ rfl rfl rfl rfl rfl (by kernel_rfl) Try.func13 (by kernel_rfl)
    (of_decide_eq_true (by kernel_rfl)) (by unfold Func.isWrapper; first | (rw [if_pos (by decide +kernel)]; kernel_rfl) | (rw [if_neg (by decide +kernel)]; exact ⟨rfl, rfl⟩))
    (fun os started H enc _ => taa_lifted os started H enc)
theorem top_alarms_are_time_above : Rows.TopAlarmsAreTimeAboveSaid := taa_over
end Go.Proofs.Ytmbpfhpdicjpcaa


/-
  Bins of a series.
-/
import Derived.Test.YtmbpfhpdicjpcaaTot
import Derived.Test.YtmbpfhpdicjpcaaFrl
namespace Go.Proofs.Ytmbpfhpdicjpcaa
open Go Go.Ai
set_option linter.unusedSimpArgs false
set_option linter.unusedVariables false
set_option maxHeartbeats 4000000
def A_isStep : List Ann := [⟨(some ⟨[0], [], []⟩), [], [], [], []⟩, ⟨(some ⟨[2], [], []⟩), [], [], [], []⟩]
def C_isStep : AC := (.seq (.reg false [⟨(some 2), none, .mv (.v (.bool false))⟩] (some ⟨[0], [], []⟩))
  (.seq (.reg false [⟨(some 3), none, .mv (.t 0)⟩, ⟨(some 4), none, .call (.f 96) [(.t 3), (.v (.int .i64 (1))), (.v (.int .i64 (86400000)))]⟩, ⟨(some 5), none, .un .not (.t 4)⟩, ⟨(some 6), none, .mv (.t 5)⟩, ⟨(some 7), (some (6, true)), .mv (.t 0)⟩, ⟨(some 8), (some (6, true)), .bin .rem (.v (.int .i64 (86400000))) (.t 7)⟩, ⟨(some 9), (some (6, true)), .bin .eql (.t 8) (.v (.int .i64 (0)))⟩, ⟨(some 10), none, .pick (.t 6) (.t 9) (.v (.bool false))⟩, ⟨(some 2), none, .mv (.t 10)⟩] (some ⟨[2], [], []⟩))
  .ret))
theorem c_isStep : compileCode Try.prog Try.f134.ntmps (Try.f134.body.getD .skip) A_isStep = some (C_isStep, []) := by kernel_rfl
theorem r_isStep : compileRes Try.prog Try.f134.results.toList = some [.t 2] := by kernel_rfl
theorem b_isStep : Try.f134.body = some (Try.f134.body.getD .skip) := by kernel_rfl
theorem n_isStep : (Try.f134.name == "runtime.NumGoroutine") = false := by kernel_rfl
theorem fc_isStep {xt : Option (List Cel)} {args : List Val} {R : List Cel → Val → Prop} (hn : (if xt.isSome then 1 else 0) + args.length ≤ Try.f134.ntmps) (h : ex Try.prog C_isStep [] (fpost xt [.t 2] R) (initSt xt args)) : FC Try.prog 134 xt args R :=
  fc_of_awp Try.func134 b_isStep n_isStep c_isStep r_isStep (of_decide_eq_true (by kernel_rfl)) hn h

def A_combined : List Ann := [⟨(some ⟨[2,3,4], [2,3,4], []⟩), [], [], [], []⟩, ⟨(some ⟨[2,3,4,5], [2,3,4,5], []⟩), [], [], [], []⟩, ⟨(some ⟨[2,3,4,5,36], [2,3,4,5], []⟩), [], [], [], []⟩, ⟨(some ⟨[4,5], [4,5], []⟩), [], [(2, (some 3)), (3, (some 3)), (5, (some 5))], [], []⟩, ⟨(some ⟨[2,3,4,5,46], [2,3,4,5], []⟩), [], [], [], []⟩, ⟨(some ⟨[4,5], [4,5], []⟩), [], [(2, (some 2)), (3, (some 2)), (5, (some 5))], [], []⟩, ⟨(some ⟨[4,5], [4,5], []⟩), [], [(5, (some 2)), (6, (some 2)), (7, (some 3)), (8, (some 3)), (11, (some 5))], [], []⟩, ⟨(some ⟨[4], [4], []⟩), [], [], [], []⟩]
def C_combined : AC := (.seq (.reg false [⟨(some 2), none, .box (.t 0)⟩, ⟨(some 3), none, .box (.t 1)⟩, ⟨(some 4), none, .alloc [(.int .i64 (0)), (.int .i64 (0)), (.int .i64 (0)), (.int .i64 (0)), (.int .i64 (0)), (.int .i64 (0))]⟩] (some ⟨[2,3,4], [2,3,4], []⟩))
  (.seq (.reg false [⟨(some 6), none, .fadr 0 (.t 2)⟩, ⟨(some 7), none, .load false 1 (.t 6)⟩, ⟨(some 8), none, .fadr 1 (.t 2)⟩, ⟨(some 9), none, .load false 1 (.t 8)⟩, ⟨(some 10), none, .fadr 1 (.t 3)⟩, ⟨(some 11), none, .load false 1 (.t 10)⟩, ⟨(some 12), none, .bin .add (.t 9) (.t 11)⟩, ⟨(some 13), none, .fadr 2 (.t 2)⟩, ⟨(some 14), none, .load false 1 (.t 13)⟩, ⟨(some 15), none, .fadr 2 (.t 3)⟩, ⟨(some 16), none, .load false 1 (.t 15)⟩, ⟨(some 17), none, .bin .add (.t 14) (.t 16)⟩, ⟨(some 18), none, .fadr 3 (.t 2)⟩, ⟨(some 19), none, .load false 1 (.t 18)⟩, ⟨(some 20), none, .fadr 3 (.t 3)⟩, ⟨(some 21), none, .load false 1 (.t 20)⟩, ⟨(some 22), none, .bin .add (.t 19) (.t 21)⟩, ⟨(some 23), none, .build [(.int .i64 (0)), (.int .i64 (0)), (.int .i64 (0)), (.int .i64 (0)), (.int .i64 (0)), (.int .i64 (0))] [(0, 1, (.t 7)), (1, 1, (.t 12)), (2, 1, (.t 17)), (3, 1, (.t 22))]⟩, ⟨(some 5), none, .alloc [(.int .i64 (0)), (.int .i64 (0)), (.int .i64 (0)), (.int .i64 (0)), (.int .i64 (0)), (.int .i64 (0))]⟩, ⟨none, none, .store 6 (.t 5) (.t 23)⟩] (some ⟨[2,3,4,5], [2,3,4,5], []⟩))
  (.seq (.block 0 (.seq (.reg false [⟨(some 37), none, .fadr 2 (.t 2)⟩, ⟨(some 38), none, .load false 1 (.t 37)⟩, ⟨(some 39), none, .bin .eql (.t 38) (.v (.int .i64 (0)))⟩, ⟨(some 36), none, .mv (.t 39)⟩] (some ⟨[2,3,4,5,36], [2,3,4,5], []⟩))
  (.cond (.t 36)
  (.reg true [⟨(some 40), none, .fadr 4 (.t 3)⟩, ⟨(some 41), none, .load false 1 (.t 40)⟩, ⟨none, none, .chk (.t 3) (some 3)⟩, ⟨(some 42), none, .fadr 5 (.t 3)⟩, ⟨none, none, .chk (.t 42) (some 3)⟩, ⟨(some 43), none, .load false 1 (.t 42)⟩, ⟨(some 44), none, .fadr 4 (.t 5)⟩, ⟨none, none, .chk (.t 44) (some 5)⟩, ⟨none, none, .store 1 (.t 44) (.t 41)⟩, ⟨(some 45), none, .fadr 5 (.t 5)⟩, ⟨none, none, .store 1 (.t 45) (.t 43)⟩] (some ⟨[4,5], [4,5], []⟩))
  (.seq (.reg false [⟨(some 47), none, .fadr 2 (.t 3)⟩, ⟨(some 48), none, .load false 1 (.t 47)⟩, ⟨(some 49), none, .bin .eql (.t 48) (.v (.int .i64 (0)))⟩, ⟨(some 46), none, .mv (.t 49)⟩] (some ⟨[2,3,4,5,46], [2,3,4,5], []⟩))
  (.cond (.t 46)
  (.reg true [⟨(some 50), none, .fadr 4 (.t 2)⟩, ⟨(some 51), none, .load false 1 (.t 50)⟩, ⟨none, none, .chk (.t 2) (some 2)⟩, ⟨(some 52), none, .fadr 5 (.t 2)⟩, ⟨none, none, .chk (.t 52) (some 2)⟩, ⟨(some 53), none, .load false 1 (.t 52)⟩, ⟨(some 54), none, .fadr 4 (.t 5)⟩, ⟨none, none, .chk (.t 54) (some 5)⟩, ⟨none, none, .store 1 (.t 54) (.t 51)⟩, ⟨(some 55), none, .fadr 5 (.t 5)⟩, ⟨none, none, .store 1 (.t 55) (.t 53)⟩] (some ⟨[4,5], [4,5], []⟩))
  (.reg true [⟨(some 24), none, .fadr 4 (.t 2)⟩, ⟨(some 25), none, .load false 1 (.t 24)⟩, ⟨(some 26), none, .fadr 4 (.t 3)⟩, ⟨(some 27), none, .load false 1 (.t 26)⟩, ⟨(some 28), none, .mnx false (.t 25) (.t 27)⟩, ⟨none, none, .chk (.t 2) (some 2)⟩, ⟨(some 29), none, .fadr 5 (.t 2)⟩, ⟨none, none, .chk (.t 29) (some 2)⟩, ⟨(some 30), none, .load false 1 (.t 29)⟩, ⟨none, none, .chk (.t 3) (some 3)⟩, ⟨(some 31), none, .fadr 5 (.t 3)⟩, ⟨none, none, .chk (.t 31) (some 3)⟩, ⟨(some 32), none, .load false 1 (.t 31)⟩, ⟨(some 33), none, .mnx true (.t 30) (.t 32)⟩, ⟨(some 34), none, .fadr 4 (.t 5)⟩, ⟨none, none, .chk (.t 34) (some 5)⟩, ⟨none, none, .store 1 (.t 34) (.t 28)⟩, ⟨(some 35), none, .fadr 5 (.t 5)⟩, ⟨none, none, .store 1 (.t 35) (.t 33)⟩] (some ⟨[4,5], [4,5], []⟩)))))))
  (.seq (.reg false [⟨(some 56), none, .load true 6 (.t 5)⟩, ⟨none, none, .store 6 (.t 4) (.t 56)⟩] (some ⟨[4], [4], []⟩))
  .ret))))
theorem c_combined : compileCode Try.prog Try.f190.ntmps (Try.f190.body.getD .skip) A_combined = some (C_combined, []) := by kernel_rfl
theorem r_combined : compileRes Try.prog Try.f190.results.toList = some [.cell 4 true 6] := by kernel_rfl
theorem b_combined : Try.f190.body = some (Try.f190.body.getD .skip) := by kernel_rfl
theorem n_combined : (Try.f190.name == "runtime.NumGoroutine") = false := by kernel_rfl
theorem fc_combined {xt : Option (List Cel)} {args : List Val} {R : List Cel → Val → Prop} (hn : (if xt.isSome then 1 else 0) + args.length ≤ Try.f190.ntmps) (h : ex Try.prog C_combined [] (fpost xt [.cell 4 true 6] R) (initSt xt args)) : FC Try.prog 190 xt args R :=
  fc_of_awp Try.func190 b_combined n_combined c_combined r_combined (of_decide_eq_true (by kernel_rfl)) hn h

def A_put : List Ann := [⟨(some ⟨[0,3], [3], [1000000]⟩), [], [], [], []⟩, ⟨(some ⟨[0,3,5], [3], [1000000]⟩), [], [], [], []⟩, ⟨(some ⟨[0,3,5,20], [3], [1000000]⟩), [], [], [], []⟩, ⟨(some ⟨[0], [], [1000000]⟩), [], [], [], []⟩, ⟨(some ⟨[4], [], [1000000]⟩), [], [], [], []⟩, ⟨(some ⟨[4], [], [1000000]⟩), [], [], [], []⟩]
def C_put : AC := (.seq (.reg false [⟨(some 3), none, .box (.t 1)⟩, ⟨(some 4), none, .mv (.v (.slice none 0 0))⟩] (some ⟨[0,3], [3], [1000000]⟩))
  (.seq (.seq (.reg false [⟨(some 6), none, .mv (.t 0)⟩, ⟨(some 7), none, .len (.t 6)⟩, ⟨(some 8), none, .bin .sub (.t 7) (.v (.int .i64 (1)))⟩, ⟨(some 5), none, .mv (.t 8)⟩] (some ⟨[0,3,5], [3], [1000000]⟩))
  (.seq (.reg true [⟨(some 9), none, .mv (.t 5)⟩, ⟨(some 10), none, .bin .geq (.t 9) (.v (.int .i64 (0)))⟩, ⟨(some 11), none, .mv (.t 10)⟩, ⟨(some 12), (some (11, true)), .mv (.t 0)⟩, ⟨(some 13), (some (11, true)), .mv (.t 5)⟩, ⟨(some 14), (some (11, true)), .iadr 6 (.t 12) (.t 13)⟩, ⟨(some 15), (some (11, true)), .fadr 0 (.t 14)⟩, ⟨(some 16), (some (11, true)), .load false 1 (.t 15)⟩, ⟨(some 17), (some (11, true)), .fadr 0 (.t 3)⟩, ⟨(some 18), (some (11, true)), .load false 1 (.t 17)⟩, ⟨(some 19), (some (11, true)), .bin .eql (.t 16) (.t 18)⟩, ⟨(some 20), none, .pick (.t 11) (.t 19) (.v (.bool false))⟩] (some ⟨[0,3,5,20], [3], [1000000]⟩))
  (.cond (.t 20)
  (.seq (.reg true [⟨(some 21), none, .mv (.t 0)⟩, ⟨(some 22), none, .mv (.t 5)⟩, ⟨(some 23), none, .mv (.t 0)⟩, ⟨(some 24), none, .mv (.t 5)⟩, ⟨(some 25), none, .iadr 6 (.t 23) (.t 24)⟩, ⟨(some 26), none, .load true 6 (.t 25)⟩, ⟨(some 27), none, .load true 6 (.t 3)⟩, ⟨(some 28), none, .call (.f 190) [(.t 26), (.t 27)]⟩, ⟨(some 29), none, .iadr 6 (.t 21) (.t 22)⟩, ⟨none, none, .store 6 (.t 29) (.t 28)⟩] (some ⟨[0], [], [1000000]⟩))
  (.seq (.reg false [⟨(some 30), none, .mv (.t 0)⟩, ⟨(some 4), none, .mv (.t 30)⟩] (some ⟨[4], [], [1000000]⟩))
  .ret))
  .skip)))
  (.seq (.reg false [⟨(some 31), none, .mv (.t 0)⟩, ⟨(some 32), none, .load true 6 (.t 3)⟩, ⟨(some 33), none, .bslice 6 1 [(.t 32)]⟩, ⟨(some 34), none, .append 118 6 48 (.t 31) (.t 33)⟩, ⟨(some 4), none, .mv (.t 34)⟩] (some ⟨[4], [], [1000000]⟩))
  .ret)))
theorem c_put : compileCode Try.prog Try.f174.ntmps (Try.f174.body.getD .skip) A_put = some (C_put, []) := by kernel_rfl
theorem r_put : compileRes Try.prog Try.f174.results.toList = some [.t 4] := by kernel_rfl
theorem b_put : Try.f174.body = some (Try.f174.body.getD .skip) := by kernel_rfl
theorem n_put : (Try.f174.name == "runtime.NumGoroutine") = false := by kernel_rfl
theorem fcm_put {H : Hp} {K : Keep} {args : List Val} {R : Hp → Val → Prop} (hn : args.length ≤ Try.f174.ntmps) (hkb : ∀ p ∈ H.bs, p.1 = 0 ∨ XK ≤ p.1) (hkr : ∀ p ∈ H.rs, XK ≤ p.1) (h : ex Try.prog C_put [] (mpost H K [.t 4] R) (initM H args)) : FCM Try.prog 174 H args R :=
  fcm_of_awp Try.func174 b_put n_put c_put r_put (of_decide_eq_true (by kernel_rfl)) hn hkb hkr h

def A_bins : List Ann := [⟨(some ⟨[0,1], [], []⟩), [], [], [], []⟩, ⟨(some ⟨[0,1,5], [], []⟩), [(5, 118, 6)], [], [], []⟩, ⟨(some ⟨[1,5,9,10,11], [], [5]⟩), [], [], [], []⟩, ⟨(some ⟨[1,5,9,10,11,12], [], [5]⟩), [], [], [], []⟩, ⟨(some ⟨[1,5,7,9,10,11], [7], [5]⟩), [], [], [], []⟩, ⟨(some ⟨[1,5,7,8,9,10,11], [7,8], [5]⟩), [], [], [], []⟩, ⟨(some ⟨[1,5,7,8,9,10,11,24], [7,8], [5]⟩), [], [], [], []⟩, ⟨(some ⟨[1,5,8,9,10,11], [8], [5]⟩), [], [], [], []⟩, ⟨(some ⟨[1,5,9,10,11], [], [5]⟩), [], [], [], [(36, ⟨[], [5], [], [5]⟩)]⟩, ⟨(some ⟨[1,5,9,10,11], [], [5]⟩), [], [], [], []⟩, ⟨(some ⟨[4], [], []⟩), [], [], [], []⟩]
def C_bins : AC := (.seq (.reg false [⟨(some 4), none, .mv (.v (.slice none 0 0))⟩] (some ⟨[0,1], [], []⟩))
  (.seq (.seq (.reg false [⟨(some 5), none, .mv (.v (.slice none 0 0))⟩] (some ⟨[0,1,5], [], []⟩))
  (.own 5 118 6))
  (.seq (.seq (.reg false [⟨(some 9), none, .mv (.t 0)⟩, ⟨(some 10), none, .len (.t 9)⟩, ⟨(some 11), none, .mv (.v (.int .i64 (0)))⟩] (some ⟨[1,5,9,10,11], [], [5]⟩))
  (.block 0 (.loop (.seq (.reg false [⟨(some 12), none, .bin .lss (.t 11) (.t 10)⟩] (some ⟨[1,5,9,10,11,12], [], [5]⟩))
  (.seq (.cond (.t 12)
  .skip
  (.exit 0))
  (.seq (.block 1 (.seq (.reg false [⟨(some 13), none, .iadr 3 (.t 9) (.t 11)⟩, ⟨(some 14), none, .load true 3 (.t 13)⟩, ⟨(some 7), none, .alloc [(.int .i64 (0)), (.int .i64 (0)), (.int .i64 (0))]⟩, ⟨none, none, .store 3 (.t 7) (.t 14)⟩] (some ⟨[1,5,7,9,10,11], [7], [5]⟩))
  (.seq (.reg false [⟨(some 15), none, .fadr 0 (.t 7)⟩, ⟨(some 16), none, .load false 1 (.t 15)⟩, ⟨(some 17), none, .mv (.t 1)⟩, ⟨(some 18), none, .bin .quo (.t 16) (.t 17)⟩, ⟨(some 19), none, .mv (.t 1)⟩, ⟨(some 20), none, .bin .mul (.t 18) (.t 19)⟩, ⟨(some 21), none, .build [(.int .i64 (0)), (.int .i64 (0)), (.int .i64 (0)), (.int .i64 (0)), (.int .i64 (0)), (.int .i64 (0))] [(0, 1, (.t 20)), (3, 1, (.v (.int .i64 (1))))]⟩, ⟨(some 8), none, .alloc [(.int .i64 (0)), (.int .i64 (0)), (.int .i64 (0)), (.int .i64 (0)), (.int .i64 (0)), (.int .i64 (0))]⟩, ⟨none, none, .store 6 (.t 8) (.t 21)⟩] (some ⟨[1,5,7,8,9,10,11], [7,8], [5]⟩))
  (.seq (.seq (.reg false [⟨(some 22), none, .fadr 2 (.t 7)⟩, ⟨(some 23), none, .load false 1 (.t 22)⟩, ⟨(some 24), none, .bin .eql (.t 23) (.v (.int .i64 (0)))⟩] (some ⟨[1,5,7,8,9,10,11,24], [7,8], [5]⟩))
  (.cond (.t 24)
  (.reg false [⟨(some 25), none, .fadr 0 (.t 8)⟩, ⟨(some 26), none, .load false 1 (.t 25)⟩, ⟨(some 27), none, .fadr 1 (.t 7)⟩, ⟨(some 28), none, .load false 1 (.t 27)⟩, ⟨(some 29), none, .fadr 1 (.t 7)⟩, ⟨(some 30), none, .load false 1 (.t 29)⟩, ⟨(some 31), none, .fadr 1 (.t 7)⟩, ⟨(some 32), none, .load false 1 (.t 31)⟩, ⟨(some 33), none, .build [(.int .i64 (0)), (.int .i64 (0)), (.int .i64 (0)), (.int .i64 (0)), (.int .i64 (0)), (.int .i64 (0))] [(0, 1, (.t 26)), (1, 1, (.t 28)), (2, 1, (.v (.int .i64 (1)))), (4, 1, (.t 30)), (5, 1, (.t 32))]⟩, ⟨none, none, .store 6 (.t 8) (.t 33)⟩] (some ⟨[1,5,8,9,10,11], [8], [5]⟩))
  .skip))
  (.reg false [⟨(some 34), none, .mv (.t 5)⟩, ⟨(some 35), none, .load true 6 (.t 8)⟩, ⟨(some 36), none, .callm (.f 174) [(.t 34), (.t 35)] ⟨[], [5], [], [5]⟩⟩, ⟨(some 5), none, .mv (.t 36)⟩] (some ⟨[1,5,9,10,11], [], [5]⟩))))))
  (.reg false [⟨(some 37), none, .bin .add (.t 11) (.v (.int .i64 (1)))⟩, ⟨(some 11), none, .mv (.t 37)⟩] (some ⟨[1,5,9,10,11], [], [5]⟩))))))))
  (.seq (.reg false [⟨(some 38), none, .mv (.t 5)⟩, ⟨(some 4), none, .mv (.t 38)⟩] (some ⟨[4], [], []⟩))
  .ret))))
theorem c_bins : compileCode Try.prog Try.f135.ntmps (Try.f135.body.getD .skip) A_bins = some (C_bins, []) := by kernel_rfl
theorem r_bins : compileRes Try.prog Try.f135.results.toList = some [.t 4] := by kernel_rfl
theorem b_bins : Try.f135.body = some (Try.f135.body.getD .skip) := by kernel_rfl
theorem n_bins : (Try.f135.name == "runtime.NumGoroutine") = false := by kernel_rfl
theorem fc_bins {xt : Option (List Cel)} {args : List Val} {R : List Cel → Val → Prop} (hn : (if xt.isSome then 1 else 0) + args.length ≤ Try.f135.ntmps) (h : ex Try.prog C_bins [] (fpost xt [.t 4] R) (initSt xt args)) : FC Try.prog 135 xt args R :=
  fc_of_awp Try.func135 b_bins n_bins c_bins r_bins (of_decide_eq_true (by kernel_rfl)) hn h
theorem fcm_bins {H : Hp} {K : Keep} {args : List Val} {R : Hp → Val → Prop} (hn : args.length ≤ Try.f135.ntmps) (hkb : ∀ p ∈ H.bs, p.1 = 0 ∨ XK ≤ p.1) (hkr : ∀ p ∈ H.rs, XK ≤ p.1) (h : ex Try.prog C_bins [] (mpost H K [.t 4] R) (initM H args)) : FCM Try.prog 135 H args R :=
  fcm_of_awp Try.func135 b_bins n_bins c_bins r_bins (of_decide_eq_true (by kernel_rfl)) hn hkb hkr h

def A_binsP : List Ann := [⟨(some ⟨[0,1], [], []⟩), [], [], [], []⟩, ⟨(some ⟨[0,1,6], [], []⟩), [], [], [], []⟩, ⟨(some ⟨[0,1,6,10], [], []⟩), [], [], [], []⟩, ⟨(some ⟨[4,5], [], []⟩), [], [], [(4, 6)], []⟩, ⟨(some ⟨[0,1,14], [], []⟩), [], [], [], []⟩, ⟨(some ⟨[4,5], [], []⟩), [], [], [(4, 6)], []⟩, ⟨(some ⟨[4,5], [], []⟩), [], [], [], []⟩]
def C_binsP : AC := (.seq (.reg false [⟨(some 4), none, .mv (.v (.slice none 0 0))⟩, ⟨(some 5), none, .mv (.v (.int .i64 (0)))⟩] (some ⟨[0,1], [], []⟩))
  (.seq (.seq (.reg false [⟨(some 7), none, .mv (.t 0)⟩, ⟨(some 8), none, .call (.f 98) [(.t 7)]⟩, ⟨(some 6), none, .mv (.t 8)⟩] (some ⟨[0,1,6], [], []⟩))
  (.seq (.reg false [⟨(some 9), none, .mv (.t 6)⟩, ⟨(some 10), none, .bin .neq (.t 9) (.v (.int .i64 (0)))⟩] (some ⟨[0,1,6,10], [], []⟩))
  (.cond (.t 10)
  (.seq (.seq (.reg false [⟨(some 11), none, .mv (.t 6)⟩, ⟨(some 4), none, .mv (.v (.slice none 0 0))⟩, ⟨(some 5), none, .mv (.t 11)⟩] (some ⟨[4,5], [], []⟩))
  (.ty 4 6))
  .ret)
  .skip)))
  (.seq (.seq (.reg false [⟨(some 12), none, .mv (.t 1)⟩, ⟨(some 13), none, .call (.f 134) [(.t 12)]⟩, ⟨(some 14), none, .un .not (.t 13)⟩] (some ⟨[0,1,14], [], []⟩))
  (.cond (.t 14)
  (.seq (.seq (.reg false [⟨(some 4), none, .mv (.v (.slice none 0 0))⟩, ⟨(some 5), none, .mv (.v (.int .i64 (1)))⟩] (some ⟨[4,5], [], []⟩))
  (.ty 4 6))
  .ret)
  .skip))
  (.seq (.reg false [⟨(some 15), none, .mv (.t 0)⟩, ⟨(some 16), none, .mv (.t 1)⟩, ⟨(some 17), none, .call (.f 135) [(.t 15), (.t 16)]⟩, ⟨(some 4), none, .mv (.t 17)⟩, ⟨(some 5), none, .mv (.v (.int .i64 (0)))⟩] (some ⟨[4,5], [], []⟩))
  .ret))))
theorem c_binsP : compileCode Try.prog Try.f74.ntmps (Try.f74.body.getD .skip) A_binsP = some (C_binsP, []) := by kernel_rfl
theorem r_binsP : compileRes Try.prog Try.f74.results.toList = some [.t 4, .t 5] := by kernel_rfl
theorem b_binsP : Try.f74.body = some (Try.f74.body.getD .skip) := by kernel_rfl
theorem n_binsP : (Try.f74.name == "runtime.NumGoroutine") = false := by kernel_rfl
theorem fc_binsP {xt : Option (List Cel)} {args : List Val} {R : List Cel → Val → Prop} (hn : (if xt.isSome then 1 else 0) + args.length ≤ Try.f74.ntmps) (h : ex Try.prog C_binsP [] (fpost xt [.t 4, .t 5] R) (initSt xt args)) : FC Try.prog 74 xt args R :=
  fc_of_awp Try.func74 b_binsP n_binsP c_binsP r_binsP (of_decide_eq_true (by kernel_rfl)) hn h


structure Bn where
  f : Int
  s : Int
  c : Int
  o : Int
  lo : Int
  hi : Int
  deriving Inhabited
def bnC (x : Bn) : List Cel := [.g (.int .i64 x.f), .g (.int .i64 x.s), .g (.int .i64 x.c), .g (.int .i64 x.o), .g (.int .i64 x.lo), .g (.int .i64 x.hi)]
theorem bnC_eq (x : Bn) : bnC x = [.g (.int .i64 x.f), .g (.int .i64 x.s), .g (.int .i64 x.c), .g (.int .i64 x.o), .g (.int .i64 x.lo), .g (.int .i64 x.hi)] := (rfl)
theorem frE_bn (l : List Bn) : frE (l.map bnC) = true := frE_map (fun _ => rfl) l
theorem datE_bn (l : List Bn) : datE (l.map bnC) = l.map bnC := datE_map (fun _ => rfl) l
theorem tofE_bn (l : List Bn) : tofE (l.map bnC) = l.map bnC := tofE_map (fun _ => rfl) l
attribute [go_sem] bnC_eq frE_bn datE_bn tofE_bn
abbrev bnsV (fr : Bool) (l : List Bn) : Val := .one (.sl fr 6 (l.map bnC))
abbrev bnRow (l : List Bn) : Row := ⟨0, 118, 6, l.map bnC⟩
def okB (n : Int) (b : Bn) : Prop := (0 ≤ b.f ∧ b.f ≤ 345686399000) ∧ (-1000000 * n ≤ b.s ∧ b.s ≤ 1000000 * n) ∧ (0 ≤ b.c ∧ b.c ≤ n) ∧ (0 ≤ b.o ∧ b.o ≤ n) ∧ (-1000000 ≤ b.lo ∧ b.lo ≤ 1000000) ∧ (-1000000 ≤ b.hi ∧ b.hi ≤ 1000000)
def cmbB (a b : Bn) : Bn := ⟨a.f, a.s + b.s, a.c + b.c, a.o + b.o, if a.c = 0 then b.lo else if b.c = 0 then a.lo else min a.lo b.lo, if a.c = 0 then b.hi else if b.c = 0 then a.hi else max a.hi b.hi⟩
theorem combined_fc (a b : Bn) (ha : okB 10000 a) (hb : okB 10000 b) : FC Try.prog 190 none [.ag (bnC a), .ag (bnC b)] (fun _ r => r = .ag (bnC (cmbB a b))) := by
  refine fc_combined (by simp +arith) ?_
  unfold okB at ha hb
  unfold C_combined cmbB
  by_cases c1 : a.c = 0
  · rw [if_pos c1, if_pos c1]
    simp (maxSteps := 1000000) (disch := omega) only [go_sem, eq_self, decide_true, decide_false, not_true_eq_false, not_false_eq_true, reduceIte, reduceCtorEq, Nat.reduceEqDiff, Nat.reduceAdd, Nat.reduceSub, Nat.reduceLeDiff]
  · rw [if_neg c1, if_neg c1]
    by_cases c2 : b.c = 0
    · rw [if_pos c2, if_pos c2]
      simp (maxSteps := 1000000) (disch := omega) only [go_sem, eq_self, decide_true, decide_false, not_true_eq_false, not_false_eq_true, reduceIte, reduceCtorEq, Nat.reduceEqDiff, Nat.reduceAdd, Nat.reduceSub, Nat.reduceLeDiff]
    · rw [if_neg c2, if_neg c2]
      simp (maxSteps := 1000000) (disch := omega) only [go_sem, eq_self, decide_true, decide_false, not_true_eq_false, not_false_eq_true, reduceIte, reduceCtorEq, Nat.reduceEqDiff, Nat.reduceAdd, Nat.reduceSub, Nat.reduceLeDiff]
def lastB (l : List Bn) : Bn := l.getD ((l.length : Int) - 1).toNat default
def putB (l : List Bn) (b : Bn) : List Bn := if 1 ≤ l.length ∧ (l.getD ((l.length : Int) - 1).toNat default).f = b.f then l.set ((l.length : Int) - 1).toNat (cmbB (l.getD ((l.length : Int) - 1).toNat default) b) else l ++ [b]
theorem put_fcm (l : List Bn) (b : Bn) (hl : l.length ≤ 5000) (h : ∀ x ∈ l, okB 10000 x) (hb : okB 10000 b) :
    FCM Try.prog 174 ⟨[], [(1000000, bnRow l)]⟩ [.one (.ow 1000000 0), .ag (bnC b)] (fun H r => H = ⟨[], [(1000000, bnRow (putB l b))]⟩ ∧ r = .one (.ow 1000000 0)) := by
  refine fcm_put (K := ⟨[], [], [1000000]⟩) (by simp +arith) (by simp) (by simp [XK]) ?_
  unfold C_put putB
  by_cases c1 : 1 ≤ l.length
  · have hx := h _ (getD_mem l ((l.length : Int) - 1).toNat (by omega))
    have eo := getE_map_in bnC l ((l.length : Int) - 1).toNat (by omega)
    by_cases c2 : (l.getD ((l.length : Int) - 1).toNat default).f = b.f
    · rw [if_pos ⟨c1, c2⟩]
      simp (maxSteps := 1000000) (disch := omega) only [go_sem, eq_self, decide_true, decide_false, not_true_eq_false, not_false_eq_true, reduceIte, reduceCtorEq, Nat.reduceEqDiff, Nat.reduceAdd, Nat.reduceSub, Nat.reduceLeDiff]
      refine CALL_det (combined_fc _ b hx hb) (.inl rfl) ?_
      simp (maxSteps := 1000000) (disch := omega) only [go_sem, eq_self, decide_true, decide_false, not_true_eq_false, not_false_eq_true, reduceIte, reduceCtorEq, Nat.reduceEqDiff, Nat.reduceAdd, Nat.reduceSub, Nat.reduceLeDiff]
      simp only [bnRow, List.map_set, bnC_eq]
    · rw [if_neg (fun h => c2 h.2)]
      simp (maxSteps := 1000000) (disch := omega) only [go_sem, eq_self, decide_true, decide_false, not_true_eq_false, not_false_eq_true, reduceIte, reduceCtorEq, Nat.reduceEqDiff, Nat.reduceAdd, Nat.reduceSub, Nat.reduceLeDiff]
      simp only [bnRow, List.map_append, List.map_cons, List.map_nil, bnC_eq]
  · rw [if_neg (fun h => c1 h.1)]
    have e : l.length = 0 := by omega
    simp (maxSteps := 1000000) (disch := omega) only [go_sem, eq_self, decide_true, decide_false, not_true_eq_false, not_false_eq_true, reduceIte, reduceCtorEq, Nat.reduceEqDiff, Nat.reduceAdd, Nat.reduceSub, Nat.reduceLeDiff]
    simp only [bnRow, List.map_append, List.map_cons, List.map_nil, bnC_eq]
def flB (a : Int) : Int := a / 1000 * 1000
def mkB (x : Smp) : Bn := if x.q = 0 then ⟨flB x.a, x.v, 1, 0, x.v, x.v⟩ else ⟨flB x.a, 0, 0, 1, 0, 0⟩
def bnsW (l : List Smp) : List Bn := l.foldl (fun out x => putB out (mkB x)) []
theorem okB_mono {n m : Int} {b : Bn} (h : okB n b) (hnm : n ≤ m) : okB m b := by unfold okB at *; omega
theorem mkB_ok {x : Smp} (h : okSmp x) : okB 1 (mkB x) := by
  unfold okSmp at h; unfold okB mkB flB
  split <;> simp only <;> omega
theorem putB_ok {n : Int} {l : List Bn} {b : Bn} (hn : 0 ≤ n) (h : ∀ x ∈ l, okB n x) (hb : okB 1 b) : ∀ x ∈ putB l b, okB (n + 1) x := by
  intro x hx
  unfold putB at hx
  split at hx
  · rename_i c
    rcases List.mem_or_eq_of_mem_set hx with hx | rfl
    · exact okB_mono (h x hx) (by omega)
    · have h1 := h _ (getD_mem l ((l.length : Int) - 1).toNat (by omega))
      unfold okB at h1 hb
      unfold okB cmbB
      refine ⟨by simp only; omega, by simp only; omega, by simp only; omega, by simp only; omega, ?_, ?_⟩
      · simp only; (repeat' split) <;> omega
      · simp only; (repeat' split) <;> omega
  · simp only [List.mem_append, List.mem_cons, List.not_mem_nil, or_false] at hx
    rcases hx with hx | rfl
    · exact okB_mono (h x hx) (by omega)
    · exact okB_mono hb (by omega)
theorem putB_len (l : List Bn) (b : Bn) : (putB l b).length ≤ l.length + 1 := by
  unfold putB; split
  · rw [List.length_set]; omega
  · simp
def biSt (l : List Smp) (i : Int) (out : List Bn) : AS := ⟨tabV [(1, iv 1000), (5, .one (.ow 5 0)), (9, smps false l), (10, iv l.length), (11, iv i)], tabO [], tabO [(5, bnRow out)]⟩
theorem bins_fc (l : List Smp) (hg : Good l) : FC Try.prog 135 none [smps false l, iv 1000] (fun _ r => r = bnsV true (bnsW l)) := by
  refine fc_bins (by simp +arith) ?_
  have hlen := hg.len
  unfold C_bins
  simp (maxSteps := 1000000) (disch := omega) only [go_sem, eq_self, decide_true, decide_false, not_true_eq_false, not_false_eq_true, reduceIte, reduceCtorEq, Nat.reduceEqDiff, Nat.reduceAdd, Nat.reduceSub, Nat.reduceLeDiff]
  refine ex_loop2 (biSt l) (fun i out => 0 ≤ i ∧ i ≤ l.length ∧ out.length ≤ i ∧ (∀ x ∈ out, okB i x) ∧ (l.drop i.toNat).foldl (fun out x => putB out (mkB x)) out = bnsW l) (fun i _ => (l.length - i).toNat) 0 [] ⟨by omega, by omega, by simp, by simp, rfl⟩ rfl ?_
  rintro i out ⟨g1, g2, g3, g4, g5⟩
  unfold biSt
  by_cases hi : i < l.length
  · have e2 : (i + 1).toNat = i.toNat + 1 := by omega
    have em := getD_map_at smpC l i [] g1 hi
    have ho := hg.ok i.toNat (by omega)
    rw [drop_cons l i.toNat (by omega), List.foldl_cons, ← e2] at g5
    have hok := mkB_ok ho
    have hnx := putB_ok g1 g4 hok
    have hln := putB_len out (mkB (l.getD i.toNat default))
    have ho2 := ho
    unfold okSmp at ho2
    have t1 : (l.getD i.toNat default).a.tdiv 1000 = (l.getD i.toNat default).a / 1000 := Int.tdiv_eq_ediv_of_nonneg ho2.1
    have hput := put_fcm out (mkB (l.getD i.toNat default)) (by omega) (fun x hx => okB_mono (g4 x hx) (by omega)) (okB_mono hok (by omega))
    generalize hP : putB out (mkB (l.getD i.toNat default)) = P at *
    by_cases q : (l.getD i.toNat default).q = 0
    · have e : mkB (l.getD i.toNat default) = ⟨(l.getD i.toNat default).a.tdiv 1000 * 1000, (l.getD i.toNat default).v, 1, 0, (l.getD i.toNat default).v, (l.getD i.toNat default).v⟩ := by unfold mkB flB; rw [if_pos q, t1]
      rw [e] at hput
      simp (maxSteps := 1000000) (disch := omega) only [go_sem, eq_self, decide_true, decide_false, not_true_eq_false, not_false_eq_true, reduceIte, reduceCtorEq, Nat.reduceEqDiff, Nat.reduceAdd, Nat.reduceSub, Nat.reduceLeDiff]
      refine ⟨rfl, CALLM_rnE ⟨[], [(5, bnRow P)]⟩ (.one (.ow 5 0)) (fun k => k) (swp 5 1000000) (fun _ => rfl) (swp_swp 5 1000000) hput (by simp) rfl rfl rfl rfl ⟨rfl, rfl⟩ ?_⟩
      simp (maxSteps := 1000000) (disch := omega) only [go_sem, eq_self, decide_true, decide_false, not_true_eq_false, not_false_eq_true, reduceIte, reduceCtorEq, Nat.reduceEqDiff, Nat.reduceAdd, Nat.reduceSub, Nat.reduceLeDiff]
      exact ⟨i + 1, P, rfl, ⟨by omega, by omega, by omega, hnx, g5⟩, by omega⟩
    · have e : mkB (l.getD i.toNat default) = ⟨(l.getD i.toNat default).a.tdiv 1000 * 1000, 0, 0, 1, 0, 0⟩ := by unfold mkB flB; rw [if_neg q, t1]
      rw [e] at hput
      simp (maxSteps := 1000000) (disch := omega) only [go_sem, eq_self, decide_true, decide_false, not_true_eq_false, not_false_eq_true, reduceIte, reduceCtorEq, Nat.reduceEqDiff, Nat.reduceAdd, Nat.reduceSub, Nat.reduceLeDiff]
      refine ⟨rfl, CALLM_rnE ⟨[], [(5, bnRow P)]⟩ (.one (.ow 5 0)) (fun k => k) (swp 5 1000000) (fun _ => rfl) (swp_swp 5 1000000) hput (by simp) rfl rfl rfl rfl ⟨rfl, rfl⟩ ?_⟩
      simp (maxSteps := 1000000) (disch := omega) only [go_sem, eq_self, decide_true, decide_false, not_true_eq_false, not_false_eq_true, reduceIte, reduceCtorEq, Nat.reduceEqDiff, Nat.reduceAdd, Nat.reduceSub, Nat.reduceLeDiff]
      exact ⟨i + 1, P, rfl, ⟨by omega, by omega, by omega, hnx, g5⟩, by omega⟩
  · rw [List.drop_eq_nil_of_le (by omega), List.foldl_nil] at g5
    rw [← g5]
    simp (maxSteps := 1000000) (disch := omega) only [go_sem, eq_self, decide_true, decide_false, not_true_eq_false, not_false_eq_true, reduceIte, reduceCtorEq, Nat.reduceEqDiff, Nat.reduceAdd, Nat.reduceSub, Nat.reduceLeDiff]
theorem isStep_fc : FC Try.prog 134 none [iv 1000] (fun _ r => r = bv true) := by
  refine fc_isStep (by simp +arith) ?_
  unfold C_isStep
  simp (maxSteps := 1000000) (disch := omega) only [go_sem, eq_self, decide_true, decide_false, not_true_eq_false, not_false_eq_true, reduceIte, reduceCtorEq, Nat.reduceEqDiff, Nat.reduceAdd, Nat.reduceSub, Nat.reduceLeDiff]
  refine CALL_det (out_fc _ _ _) (.inl rfl) ?_
  simp (maxSteps := 1000000) (disch := omega) only [go_sem, eq_self, decide_true, decide_false, not_true_eq_false, not_false_eq_true, reduceIte, reduceCtorEq, Nat.reduceEqDiff, Nat.reduceAdd, Nat.reduceSub, Nat.reduceLeDiff]
  rfl
theorem binsP_fc (l : List Smp) (hs : serFault l = 0) : FC Try.prog 74 none [smps false l, iv 1000] (fun _ r => r = .tu [bnsV true (bnsW l), iv 0]) := by
  refine fc_binsP (by simp +arith) ?_
  have hg := good_of hs
  have hlen := hg.len
  unfold C_binsP
  simp (maxSteps := 1000000) (disch := omega) only [go_sem, eq_self, decide_true, decide_false, not_true_eq_false, not_false_eq_true, reduceIte, reduceCtorEq, Nat.reduceEqDiff, Nat.reduceAdd, Nat.reduceSub, Nat.reduceLeDiff]
  refine CALL_det (checkSeries_fc l (by omega)) (.inl rfl) ?_
  rw [hs]
  simp (maxSteps := 1000000) (disch := omega) only [go_sem, eq_self, decide_true, decide_false, not_true_eq_false, not_false_eq_true, reduceIte, reduceCtorEq, Nat.reduceEqDiff, Nat.reduceAdd, Nat.reduceSub, Nat.reduceLeDiff]
  refine CALL_det isStep_fc (.inl rfl) ?_
  simp (maxSteps := 1000000) (disch := omega) only [go_sem, eq_self, decide_true, decide_false, not_true_eq_false, not_false_eq_true, reduceIte, reduceCtorEq, Nat.reduceEqDiff, Nat.reduceAdd, Nat.reduceSub, Nat.reduceLeDiff]
  refine CALL_det (bins_fc l hg) (.inl rfl) ?_
  simp (maxSteps := 1000000) (disch := omega) only [go_sem, eq_self, decide_true, decide_false, not_true_eq_false, not_false_eq_true, reduceIte, reduceCtorEq, Nat.reduceEqDiff, Nat.reduceAdd, Nat.reduceSub, Nat.reduceLeDiff]
/-! the plain law -/
theorem cntN_app (q : Int) : ∀ a b : List Smp, cntN q (a ++ b) = cntN q a + cntN q b
  | [], b => by simp [cntN]
  | x :: a, b => by rw [List.cons_append, cntN, cntN, cntN_app q a b]; omega
def cntR (p : List Smp) (f : Int) : Int := cntN 0 (p.filter fun x => decide (flB x.a = f))
theorem cntR_snoc (p : List Smp) (x : Smp) (f : Int) : cntR (p ++ [x]) f = cntR p f + (if flB x.a = f then (if x.q = 0 then 1 else 0) else 0) := by
  unfold cntR
  rw [List.filter_append, cntN_app, List.filter_cons]
  by_cases h : flB x.a = f
  · rw [if_pos (by simpa using h), if_pos h]; simp [cntN]
  · rw [if_neg (by simpa using h), if_neg h]; simp [cntN]
theorem cntR_none {p : List Smp} {f : Int} (h : ∀ s ∈ p, ¬flB s.a = f) : cntR p f = 0 := by
  unfold cntR
  have e : p.filter (fun x => decide (flB x.a = f)) = [] := by
    rw [List.filter_eq_nil_iff]; intro s hs; simpa using h s hs
  rw [e]; rfl
def sumC : List Bn → Int
  | [] => 0
  | b :: r => b.c + sumC r
theorem sumC_app : ∀ a b : List Bn, sumC (a ++ b) = sumC a + sumC b
  | [], b => by simp [sumC]
  | x :: a, b => by rw [List.cons_append, sumC, sumC, sumC_app a b]; omega
structure BnI (p : List Smp) (out : List Bn) : Prop where
  a : ∀ b ∈ out, b.c = cntR p b.f
  s : sumC out = cntN 0 p
  n : out = [] → p = []
  l : ∀ init b, out = init ++ [b] → (∀ y ∈ init, y.f < b.f) ∧ ∀ s ∈ p, flB s.a ≤ b.f
  t : ∀ b ∈ out, ∃ s ∈ p, flB s.a = b.f
theorem snoc_inj {α : Type} {a c : List α} {b d : α} (h : a ++ [b] = c ++ [d]) : a = c ∧ b = d := by
  have := List.append_inj' h rfl
  exact ⟨this.1, by simpa using this.2⟩
theorem bn_step {p : List Smp} {out : List Bn} {x : Smp} (h : BnI p out) (hx : ∀ s ∈ p, s.a ≤ x.a) : BnI (p ++ [x]) (putB out (mkB x)) := by
  obtain ⟨ha, hs, hn, hl, ht⟩ := h
  have hfx : (mkB x).f = flB x.a := by unfold mkB; split <;> rfl
  have hcx : (mkB x).c = if x.q = 0 then 1 else 0 := by unfold mkB; split <;> rfl
  have hcs : cntN 0 (p ++ [x]) = cntN 0 p + if x.q = 0 then 1 else 0 := by rw [cntN_app]; simp [cntN]
  rcases List.eq_nil_or_concat out with rfl | ⟨init, b, rfl⟩
  · have hp := hn rfl
    subst hp
    have e : putB [] (mkB x) = [mkB x] := by unfold putB; rw [if_neg (by simp)]; rfl
    rw [e, List.nil_append]
    refine ⟨?_, ?_, by simp, ?_, ?_⟩
    · intro b hb
      simp only [List.mem_singleton] at hb; subst hb
      rw [hcx, hfx]
      have h1 := cntR_snoc [] x (flB x.a)
      rw [List.nil_append, if_pos rfl, cntR_none (p := []) (fun s hs => by cases hs)] at h1
      omega
    · rw [List.nil_append] at hcs
      simp only [sumC]; rw [hcx, hcs]; simp [cntN]
    · intro init b he
      have h1 := snoc_inj (a := []) (show [] ++ [mkB x] = init ++ [b] from he)
      rw [← h1.1, ← h1.2, hfx]
      exact ⟨by simp, by intro s hs; simp only [List.mem_singleton] at hs; subst hs; omega⟩
    · intro b hb
      simp only [List.mem_singleton] at hb; subst hb
      exact ⟨x, by simp, hfx.symm⟩
  · rw [List.concat_eq_append] at *
    obtain ⟨l1, l2⟩ := hl init b rfl
    have elast : (init ++ [b]).getD (((init ++ [b]).length : Int) - 1).toNat default = b := by
      have e : (((init ++ [b]).length : Int) - 1).toNat = init.length := by simp
      rw [e, List.getD_eq_getElem?_getD]; simp
    have eset : ∀ y : Bn, (init ++ [b]).set (((init ++ [b]).length : Int) - 1).toNat y = init ++ [y] := fun y => by
      have e : (((init ++ [b]).length : Int) - 1).toNat = init.length := by simp
      rw [e]; simp
    have hle : b.f ≤ flB x.a := by
      obtain ⟨s, h1, h2⟩ := ht b (by simp)
      have := hx s h1
      rw [← h2]; unfold flB; omega
    have hall : ∀ s ∈ p ++ [x], flB s.a ≤ flB x.a := fun s h1 => by
      simp only [List.mem_append, List.mem_cons, List.not_mem_nil, or_false] at h1
      rcases h1 with h1 | rfl
      · have := l2 s h1; omega
      · omega
    have hbc := ha b (by simp)
    rw [sumC_app] at hs
    simp only [sumC] at hs
    by_cases c : b.f = flB x.a
    · have e : putB (init ++ [b]) (mkB x) = init ++ [cmbB b (mkB x)] := by
        unfold putB; rw [elast, if_pos ⟨by simp, by rw [hfx]; exact c⟩, eset]
      rw [e]
      have hcf : (cmbB b (mkB x)).f = b.f := rfl
      have hcc : (cmbB b (mkB x)).c = b.c + (mkB x).c := rfl
      refine ⟨?_, ?_, by simp, ?_, ?_⟩
      · intro y hy
        simp only [List.mem_append, List.mem_cons, List.not_mem_nil, or_false] at hy
        rw [cntR_snoc]
        rcases hy with hy | rfl
        · have := l1 y hy
          rw [if_neg (by omega), ← ha y (by simp [hy])]; omega
        · rw [hcf, if_pos c.symm, hcc, hcx, hbc]
      · rw [sumC_app, hcs]; simp only [sumC]; rw [hcc, hcx]; omega
      · intro init' b' he
        have h1 := snoc_inj he
        rw [← h1.1, ← h1.2, hcf]
        exact ⟨l1, fun s h1 => by have := hall s h1; omega⟩
      · intro y hy
        simp only [List.mem_append, List.mem_cons, List.not_mem_nil, or_false] at hy
        rcases hy with hy | rfl
        · obtain ⟨s, h1, h2⟩ := ht y (by simp [hy]); exact ⟨s, by simp [h1], h2⟩
        · exact ⟨x, by simp, by rw [hcf]; exact c.symm⟩
    · have e : putB (init ++ [b]) (mkB x) = init ++ [b] ++ [mkB x] := by
        unfold putB; rw [elast, if_neg (fun h => c (by rw [← hfx]; exact h.2))]
      rw [e]
      have hlt : ∀ y ∈ init ++ [b], y.f < flB x.a := fun y hy => by
        simp only [List.mem_append, List.mem_cons, List.not_mem_nil, or_false] at hy
        rcases hy with hy | rfl
        · have := l1 y hy; omega
        · omega
      refine ⟨?_, ?_, by simp, ?_, ?_⟩
      · intro y hy
        rw [List.mem_append] at hy
        rw [cntR_snoc]
        rcases hy with hy | hy
        · have := hlt y hy
          rw [if_neg (by omega), ← ha y hy]; omega
        · simp only [List.mem_singleton] at hy; subst hy
          rw [hfx, if_pos rfl, hcx, cntR_none (fun s h1 => by have := l2 s h1; omega)]; omega
      · rw [sumC_app, sumC_app, hcs]; simp only [sumC]; rw [hcx]; omega
      · intro init' b' he
        have h1 := snoc_inj he
        rw [← h1.1, ← h1.2, hfx]
        exact ⟨hlt, hall⟩
      · intro y hy
        rw [List.mem_append] at hy
        rcases hy with hy | hy
        · obtain ⟨s, h1, h2⟩ := ht y hy; exact ⟨s, by simp [h1], h2⟩
        · simp only [List.mem_singleton] at hy; subst hy
          exact ⟨x, by simp, hfx.symm⟩
theorem bn_all : ∀ (r p : List Smp) (out : List Bn) (lo : Int), BnI p out → Asc lo r → (∀ s ∈ p, s.a < lo) → BnI (p ++ r) (r.foldl (fun out x => putB out (mkB x)) out)
  | [], p, out, lo, h, _, _ => by rw [List.append_nil]; exact h
  | x :: r, p, out, lo, h, ha, hp => by
    obtain ⟨h1, h2, h3⟩ := ha
    have h4 := bn_all r (p ++ [x]) (putB out (mkB x)) (x.a + 1) (bn_step h (fun s hs => by have := hp s hs; omega)) h3 (fun s hs => by
      simp only [List.mem_append, List.mem_cons, List.not_mem_nil, or_false] at hs
      rcases hs with hs | rfl
      · have := hp s hs; omega
      · omega)
    rw [List.append_assoc] at h4
    exact h4
theorem bns_ok : ∀ (r : List Smp) (n : Int) (out : List Bn), 0 ≤ n → (∀ s ∈ r, okSmp s) → (∀ b ∈ out, okB n b) → ∀ b ∈ r.foldl (fun out x => putB out (mkB x)) out, okB (n + r.length) b
  | [], n, out, _, _, h => by simpa using h
  | x :: r, n, out, hn, hs, h => by
    have h4 := bns_ok r (n + 1) (putB out (mkB x)) (by omega) (fun s h => hs s (by simp [h])) (putB_ok hn h (mkB_ok (hs x (by simp))))
    intro b hb
    have := h4 b hb
    rw [List.length_cons]
    exact okB_mono this (by omega)
/-- What the bins of a right series count. -/
theorem bins_law {l : List Smp} (hs : serFault l = 0) : (∀ b ∈ bnsW l, (0 ≤ b.f ∧ b.f ≤ 345686399000) ∧ (0 ≤ b.c ∧ b.c ≤ l.length) ∧ b.c = cntN 0 (ins l b.f (b.f + 1000) false)) ∧ sumC (bnsW l) = cntN 0 (ins l 0 345686400000 false) := by
  have ha := asc_of hs
  have hal : ∀ s ∈ l, okSmp s := fun s h => (ha.ge s h).2
  have hI := bn_all l [] [] 0 ⟨by simp, rfl, fun _ => rfl, fun init b h => by simp at h, by simp⟩ ha (by simp)
  have hok := bns_ok l 0 [] (by omega) hal (by simp)
  rw [List.nil_append] at hI
  change BnI l (bnsW l) at hI
  refine ⟨fun b hb => ?_, ?_⟩
  · have h1 := hok b hb
    unfold okB at h1
    refine ⟨h1.1, by omega, ?_⟩
    rw [hI.a b hb]
    obtain ⟨s, h2, h3⟩ := hI.t b hb
    have hm : b.f % 1000 = 0 := by rw [← h3]; unfold flB; omega
    unfold cntR ins
    congr 1
    refine List.filter_congr (fun y hy => ?_)
    unfold insP
    rw [Bool.false_and, Bool.or_false]
    by_cases c : flB y.a = b.f
    · rw [decide_eq_true c, decide_eq_true]; unfold flB at c; omega
    · rw [decide_eq_false c, decide_eq_false]; unfold flB at c; omega
  · rw [hI.s]
    have e : ins l 0 345686400000 false = l := by
      unfold ins
      rw [List.filter_eq_self]
      intro y hy
      have := hal y hy
      unfold okSmp at this
      unfold insP
      rw [decide_eq_true (by omega)]; rfl
    rw [e]
end Go.Proofs.Ytmbpfhpdicjpcaa

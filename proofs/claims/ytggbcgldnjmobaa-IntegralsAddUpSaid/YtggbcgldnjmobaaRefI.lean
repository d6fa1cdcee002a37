
/-
  The reference's stretches of a window, and what it tells of them.
-/
import Derived.Test.YtggbcgldnjmobaaInt
namespace Go.Proofs.Ytggbcgldnjmobaa
open Go Go.Ai
set_option linter.unusedSimpArgs false
set_option linter.unusedVariables false
set_option maxHeartbeats 4000000
def A_del5 : List Ann := [⟨(some ⟨[0,1], [], [1000000]⟩), [], [], [], []⟩, ⟨(some ⟨[0,1,5], [], [1000000]⟩), [], [], [], []⟩, ⟨(some ⟨[0,1,5,12], [], [1000000]⟩), [], [], [], []⟩, ⟨(some ⟨[4], [], [1000000]⟩), [], [], [], []⟩, ⟨(some ⟨[0,1,5,6], [], [1000000]⟩), [], [], [], []⟩, ⟨(some ⟨[0,1,5,6,19], [], [1000000]⟩), [], [], [], []⟩, ⟨(some ⟨[0,1,5,6,7], [7], [1000000]⟩), [], [], [], []⟩, ⟨(some ⟨[0,1,5,6,7,29], [7], [1000000]⟩), [], [], [], []⟩, ⟨(some ⟨[0,1,5,6], [], [1000000]⟩), [], [], [], []⟩, ⟨(some ⟨[0,1,5,6], [], [1000000]⟩), [], [], [], []⟩, ⟨(some ⟨[0,1,5,6], [], [1000000]⟩), [], [], [], []⟩, ⟨(some ⟨[0,5], [], [1000000]⟩), [], [], [], [(38, ⟨[], [], [], [], []⟩)]⟩, ⟨(some ⟨[4], [], [1000000]⟩), [], [], [], [(41, ⟨[], [], [], [], []⟩)]⟩]
def C_del5 : AC := (.seq (.reg false [⟨(some 4), none, .mv (.v (.slice none 0 0))⟩] (some ⟨[0,1], [], [1000000]⟩))
  (.seq (.reg false [⟨(some 8), none, .mv (.t 0)⟩, ⟨(some 9), none, .mv (.t 1)⟩, ⟨(some 10), none, .call (.f 202) [(.t 8), (.t 9)]⟩, ⟨(some 5), none, .mv (.t 10)⟩] (some ⟨[0,1,5], [], [1000000]⟩))
  (.seq (.seq (.reg false [⟨(some 11), none, .mv (.t 5)⟩, ⟨(some 12), none, .bin .eql (.t 11) (.v (.int .i64 (-1)))⟩] (some ⟨[0,1,5,12], [], [1000000]⟩))
  (.cond (.t 12)
  (.seq (.reg false [⟨(some 13), none, .mv (.t 0)⟩, ⟨(some 4), none, .mv (.t 13)⟩] (some ⟨[4], [], [1000000]⟩))
  .ret)
  .skip))
  (.seq (.seq (.reg false [⟨(some 14), none, .mv (.t 5)⟩, ⟨(some 15), none, .bin .add (.t 14) (.v (.int .i64 (1)))⟩, ⟨(some 6), none, .mv (.t 15)⟩] (some ⟨[0,1,5,6], [], [1000000]⟩))
  (.block 0 (.loop (.seq (.seq (.reg false [⟨(some 16), none, .mv (.t 6)⟩, ⟨(some 17), none, .mv (.t 0)⟩, ⟨(some 18), none, .len (.t 17)⟩, ⟨(some 19), none, .bin .lss (.t 16) (.t 18)⟩] (some ⟨[0,1,5,6,19], [], [1000000]⟩))
  (.cond (.t 19)
  .skip
  (.exit 0)))
  (.seq (.block 1 (.seq (.reg false [⟨(some 22), none, .mv (.t 0)⟩, ⟨(some 23), none, .mv (.t 6)⟩, ⟨(some 24), none, .iadr 5 (.t 22) (.t 23)⟩, ⟨(some 25), none, .load true 5 (.t 24)⟩, ⟨(some 7), none, .alloc [(.int .i64 (0)), (.int .i64 (0)), (.int .i64 (0)), (.int .i64 (0)), (.int .i64 (0))]⟩, ⟨none, none, .store 5 (.t 7) (.t 25)⟩] (some ⟨[0,1,5,6,7], [7], [1000000]⟩))
  (.seq (.reg false [⟨(some 26), none, .mv (.t 1)⟩, ⟨(some 27), none, .load true 5 (.t 7)⟩, ⟨(some 28), none, .call (.t 26) [(.t 27)]⟩, ⟨(some 29), none, .un .not (.t 28)⟩] (some ⟨[0,1,5,6,7,29], [7], [1000000]⟩))
  (.cond (.t 29)
  (.seq (.reg false [⟨(some 30), none, .mv (.t 0)⟩, ⟨(some 31), none, .mv (.t 5)⟩, ⟨(some 32), none, .load true 5 (.t 7)⟩, ⟨(some 33), none, .iadr 5 (.t 30) (.t 31)⟩, ⟨none, none, .store 5 (.t 33) (.t 32)⟩] (some ⟨[0,1,5,6], [], [1000000]⟩))
  (.reg false [⟨(some 34), none, .mv (.t 5)⟩, ⟨(some 35), none, .bin .add (.t 34) (.v (.int .i64 (1)))⟩, ⟨(some 5), none, .mv (.t 35)⟩] (some ⟨[0,1,5,6], [], [1000000]⟩)))
  .skip))))
  (.reg false [⟨(some 20), none, .mv (.t 6)⟩, ⟨(some 21), none, .bin .add (.t 20) (.v (.int .i64 (1)))⟩, ⟨(some 6), none, .mv (.t 21)⟩] (some ⟨[0,1,5,6], [], [1000000]⟩)))))))
  (.seq (.reg false [⟨(some 36), none, .mv (.t 0)⟩, ⟨(some 37), none, .mv (.t 5)⟩, ⟨(some 38), none, .sfx 5 (.t 36) (.t 37)⟩, ⟨none, none, .clr 187 5 [(.int .i64 (0)), (.int .i64 (0)), (.int .i64 (0)), (.int .i64 (0)), (.int .i64 (0))] (.t 38)⟩] (some ⟨[0,5], [], [1000000]⟩))
  (.seq (.reg false [⟨(some 39), none, .mv (.t 0)⟩, ⟨(some 40), none, .mv (.t 5)⟩, ⟨(some 41), none, .trn 5 (.t 39) (.t 40)⟩, ⟨(some 4), none, .mv (.t 41)⟩] (some ⟨[4], [], [1000000]⟩))
  .ret))))))
theorem c_del5 : compileCode Try.prog Try.f171.ntmps (Try.f171.body.getD .skip) A_del5 = some (C_del5, []) := by kernel_rfl
theorem r_del5 : compileRes Try.prog Try.f171.results.toList = some [.t 4] := by kernel_rfl
theorem b_del5 : Try.f171.body = some (Try.f171.body.getD .skip) := by kernel_rfl
theorem n_del5 : (Try.f171.name == "runtime.NumGoroutine") = false := by kernel_rfl
theorem fcm_del5 {H : Hp} {K : Keep} {args : List Val} {R : Hp → Val → Prop} (hn : args.length ≤ Try.f171.ntmps) (hkb : ∀ p ∈ H.bs, p.1 = 0 ∨ XK ≤ p.1) (hkr : ∀ p ∈ H.rs, XK ≤ p.1) (h : ex Try.prog C_del5 [] (mpost H K [.t 4] R) (initM H args)) : FCM Try.prog 171 H args R :=
  fcm_of_awp Try.func171 b_del5 n_del5 c_del5 r_del5 (of_decide_eq_true (by kernel_rfl)) hn hkb hkr h
theorem fcms_del5 {S : List Nat} {H : Hp} {K : Keep} {args : List Val} {R : Hp → Val → Prop} (hn : args.length ≤ Try.f171.ntmps) (hkb : ∀ p ∈ H.bs, p.1 = 0 ∨ XK ≤ p.1) (hkr : ∀ p ∈ H.rs, XK ≤ p.1) (h : ex Try.prog C_del5 [] (mpostS S H K [.t 4] R) (initM H args))   : FCMS Try.prog 171 S H args R :=
  fcms_of_awp Try.func171 b_del5 n_del5 c_del5 r_del5 (of_decide_eq_true (by kernel_rfl)) hn hkb hkr h

def A_idx5 : List Ann := [⟨(some ⟨[0,1], [], []⟩), [], [], [], []⟩, ⟨(some ⟨[0,1,7,8], [], []⟩), [], [], [], []⟩, ⟨(some ⟨[0,1,7,8,9], [], []⟩), [], [], [], []⟩, ⟨(some ⟨[0,1,5,7,8], [], []⟩), [], [], [], []⟩, ⟨(some ⟨[0,1,5,7,8,16], [], []⟩), [], [], [], []⟩, ⟨(some ⟨[4], [], []⟩), [], [], [], []⟩, ⟨(some ⟨[0,1,7,8], [], []⟩), [], [], [], []⟩, ⟨(some ⟨[4], [], []⟩), [], [], [], []⟩]
def C_idx5 : AC := (.seq (.reg false [⟨(some 4), none, .mv (.v (.int .i64 (0)))⟩] (some ⟨[0,1], [], []⟩))
  (.seq (.seq (.reg false [⟨(some 6), none, .mv (.t 0)⟩, ⟨(some 7), none, .len (.t 6)⟩, ⟨(some 8), none, .mv (.v (.int .i64 (0)))⟩] (some ⟨[0,1,7,8], [], []⟩))
  (.block 0 (.loop (.seq (.reg false [⟨(some 9), none, .bin .lss (.t 8) (.t 7)⟩] (some ⟨[0,1,7,8,9], [], []⟩))
  (.seq (.cond (.t 9)
  .skip
  (.exit 0))
  (.seq (.block 1 (.seq (.reg false [⟨(some 10), none, .mv (.t 8)⟩, ⟨(some 5), none, .mv (.t 10)⟩] (some ⟨[0,1,5,7,8], [], []⟩))
  (.seq (.reg false [⟨(some 11), none, .mv (.t 1)⟩, ⟨(some 12), none, .mv (.t 0)⟩, ⟨(some 13), none, .mv (.t 5)⟩, ⟨(some 14), none, .iadr 5 (.t 12) (.t 13)⟩, ⟨(some 15), none, .load true 5 (.t 14)⟩, ⟨(some 16), none, .call (.t 11) [(.t 15)]⟩] (some ⟨[0,1,5,7,8,16], [], []⟩))
  (.cond (.t 16)
  (.seq (.reg false [⟨(some 17), none, .mv (.t 5)⟩, ⟨(some 4), none, .mv (.t 17)⟩] (some ⟨[4], [], []⟩))
  .ret)
  .skip))))
  (.reg false [⟨(some 18), none, .bin .add (.t 8) (.v (.int .i64 (1)))⟩, ⟨(some 8), none, .mv (.t 18)⟩] (some ⟨[0,1,7,8], [], []⟩))))))))
  (.seq (.reg false [⟨(some 4), none, .mv (.v (.int .i64 (-1)))⟩] (some ⟨[4], [], []⟩))
  .ret)))
theorem c_idx5 : compileCode Try.prog Try.f202.ntmps (Try.f202.body.getD .skip) A_idx5 = some (C_idx5, []) := by kernel_rfl
theorem r_idx5 : compileRes Try.prog Try.f202.results.toList = some [.t 4] := by kernel_rfl
theorem b_idx5 : Try.f202.body = some (Try.f202.body.getD .skip) := by kernel_rfl
theorem n_idx5 : (Try.f202.name == "runtime.NumGoroutine") = false := by kernel_rfl
theorem fc_idx5 {xt : Option (List Cel)} {args : List Val} {R : List Cel → Val → Prop} (hn : (if xt.isSome then 1 else 0) + args.length ≤ Try.f202.ntmps) (h : ex Try.prog C_idx5 [] (fpost xt [.t 4] R) (initSt xt args)) : FC Try.prog 202 xt args R :=
  fc_of_awp Try.func202 b_idx5 n_idx5 c_idx5 r_idx5 (of_decide_eq_true (by kernel_rfl)) hn h

def A_rvalClos : List Ann := [⟨(some ⟨[1], [1], []⟩), [], [], [], []⟩, ⟨(some ⟨[2], [], []⟩), [], [], [], []⟩]
def C_rvalClos : AC := (.seq (.reg false [⟨(some 1), none, .box (.t 0)⟩, ⟨(some 2), none, .mv (.v (.bool false))⟩] (some ⟨[1], [1], []⟩))
  (.seq (.reg false [⟨(some 3), none, .fadr 2 (.t 1)⟩, ⟨(some 4), none, .fadr 2 (.t 3)⟩, ⟨(some 5), none, .load false 1 (.t 4)⟩, ⟨(some 6), none, .bin .eql (.t 5) (.v (.int .i64 (2)))⟩, ⟨(some 2), none, .mv (.t 6)⟩] (some ⟨[2], [], []⟩))
  .ret))
theorem c_rvalClos : compileCode Try.prog Try.f172.ntmps (Try.f172.body.getD .skip) A_rvalClos = some (C_rvalClos, []) := by kernel_rfl
theorem r_rvalClos : compileRes Try.prog Try.f172.results.toList = some [.t 2] := by kernel_rfl
theorem b_rvalClos : Try.f172.body = some (Try.f172.body.getD .skip) := by kernel_rfl
theorem n_rvalClos : (Try.f172.name == "runtime.NumGoroutine") = false := by kernel_rfl
theorem fc_rvalClos {xt : Option (List Cel)} {args : List Val} {R : List Cel → Val → Prop} (hn : (if xt.isSome then 1 else 0) + args.length ≤ Try.f172.ntmps) (h : ex Try.prog C_rvalClos [] (fpost xt [.t 2] R) (initSt xt args)) : FC Try.prog 172 xt args R :=
  fc_of_awp Try.func172 b_rvalClos n_rvalClos c_rvalClos r_rvalClos (of_decide_eq_true (by kernel_rfl)) hn h

def A_stretches : List Ann := [⟨(some ⟨[0,3], [3], [5]⟩), [], [], [], []⟩, ⟨(some ⟨[0,3,5], [3], []⟩), [(5, 187, 5)], [], [], []⟩, ⟨(some ⟨[0,3,5,9,10,11], [3], [5]⟩), [], [], [], []⟩, ⟨(some ⟨[0,3,5,9,10,11,12], [3], [5]⟩), [], [], [], []⟩, ⟨(some ⟨[0,3,5,6,7,9,10,11], [3,7], [5]⟩), [], [], [], []⟩, ⟨(some ⟨[0,3,5,6,7,8,9,10,11], [3,7,8], [5]⟩), [], [], [], []⟩, ⟨(some ⟨[0,3,5,6,7,8,9,10,11,28], [3,7,8], [5]⟩), [], [], [], []⟩, ⟨(some ⟨[0,3,5,7,8,9,10,11], [3,7,8], [5]⟩), [], [], [], []⟩, ⟨(some ⟨[0,3,5,7,8,9,10,11,43], [3,7,8], [5]⟩), [], [], [], []⟩, ⟨(some ⟨[0,3,5,9,10,11], [3], [5]⟩), [], [], [], []⟩, ⟨(some ⟨[0,3,5,9,10,11], [3], [5]⟩), [], [], [], []⟩, ⟨(some ⟨[4], [], [5]⟩), [], [], [], []⟩]
def C_stretches : AC := (.seq (.reg false [⟨(some 3), none, .box (.t 1)⟩, ⟨(some 4), none, .mv (.v (.slice none 0 0))⟩] (some ⟨[0,3], [3], [5]⟩))
  (.seq (.seq (.reg false [⟨(some 5), none, .mv (.v (.slice none 0 0))⟩] (some ⟨[0,3,5], [3], []⟩))
  (.own 5 187 5))
  (.seq (.seq (.reg false [⟨(some 9), none, .mv (.t 0)⟩, ⟨(some 10), none, .len (.t 9)⟩, ⟨(some 11), none, .mv (.v (.int .i64 (0)))⟩] (some ⟨[0,3,5,9,10,11], [3], [5]⟩))
  (.block 0 (.loop (.seq (.reg false [⟨(some 12), none, .bin .lss (.t 11) (.t 10)⟩] (some ⟨[0,3,5,9,10,11,12], [3], [5]⟩))
  (.seq (.cond (.t 12)
  .skip
  (.exit 0))
  (.seq (.block 1 (.seq (.reg false [⟨(some 13), none, .mv (.t 11)⟩, ⟨(some 14), none, .iadr 3 (.t 9) (.t 11)⟩, ⟨(some 15), none, .load true 3 (.t 14)⟩, ⟨(some 7), none, .alloc [(.int .i64 (0)), (.int .i64 (0)), (.int .i64 (0))]⟩, ⟨(some 6), none, .mv (.t 13)⟩, ⟨none, none, .store 3 (.t 7) (.t 15)⟩] (some ⟨[0,3,5,6,7,9,10,11], [3,7], [5]⟩))
  (.seq (.reg false [⟨(some 16), none, .fadr 0 (.t 7)⟩, ⟨(some 17), none, .load false 1 (.t 16)⟩, ⟨(some 18), none, .fadr 0 (.t 3)⟩, ⟨(some 19), none, .load false 1 (.t 18)⟩, ⟨(some 20), none, .mnx true (.t 17) (.t 19)⟩, ⟨(some 21), none, .fadr 1 (.t 3)⟩, ⟨(some 22), none, .load false 1 (.t 21)⟩, ⟨(some 23), none, .build [(.int .i64 (0)), (.int .i64 (0))] [(0, 1, (.t 20)), (1, 1, (.t 22))]⟩, ⟨(some 8), none, .alloc [(.int .i64 (0)), (.int .i64 (0))]⟩, ⟨none, none, .store 2 (.t 8) (.t 23)⟩] (some ⟨[0,3,5,6,7,8,9,10,11], [3,7,8], [5]⟩))
  (.seq (.seq (.reg false [⟨(some 24), none, .mv (.t 6)⟩, ⟨(some 25), none, .bin .add (.t 24) (.v (.int .i64 (1)))⟩, ⟨(some 26), none, .mv (.t 0)⟩, ⟨(some 27), none, .len (.t 26)⟩, ⟨(some 28), none, .bin .lss (.t 25) (.t 27)⟩] (some ⟨[0,3,5,6,7,8,9,10,11,28], [3,7,8], [5]⟩))
  (.cond (.t 28)
  (.reg true [⟨(some 29), none, .fadr 1 (.t 8)⟩, ⟨(some 30), none, .load false 1 (.t 29)⟩, ⟨(some 31), none, .mv (.t 0)⟩, ⟨(some 32), none, .mv (.t 6)⟩, ⟨(some 33), none, .bin .add (.t 32) (.v (.int .i64 (1)))⟩, ⟨(some 34), none, .iadr 3 (.t 31) (.t 33)⟩, ⟨(some 35), none, .fadr 0 (.t 34)⟩, ⟨(some 36), none, .load false 1 (.t 35)⟩, ⟨(some 37), none, .mnx false (.t 30) (.t 36)⟩, ⟨(some 38), none, .fadr 1 (.t 8)⟩, ⟨none, none, .store 1 (.t 38) (.t 37)⟩] (some ⟨[0,3,5,7,8,9,10,11], [3,7,8], [5]⟩))
  .skip))
  (.seq (.reg false [⟨(some 39), none, .fadr 0 (.t 8)⟩, ⟨(some 40), none, .load false 1 (.t 39)⟩, ⟨(some 41), none, .fadr 1 (.t 8)⟩, ⟨(some 42), none, .load false 1 (.t 41)⟩, ⟨(some 43), none, .bin .lss (.t 40) (.t 42)⟩] (some ⟨[0,3,5,7,8,9,10,11,43], [3,7,8], [5]⟩))
  (.cond (.t 43)
  (.reg false [⟨(some 44), none, .mv (.t 5)⟩, ⟨(some 45), none, .load true 2 (.t 8)⟩, ⟨(some 46), none, .load true 3 (.t 7)⟩, ⟨(some 47), none, .build [(.int .i64 (0)), (.int .i64 (0)), (.int .i64 (0)), (.int .i64 (0)), (.int .i64 (0))] [(0, 2, (.t 45)), (2, 3, (.t 46))]⟩, ⟨(some 48), none, .bslice 5 1 [(.t 47)]⟩, ⟨(some 49), none, .append 187 5 40 (.t 44) (.t 48)⟩, ⟨(some 5), none, .mv (.t 49)⟩] (some ⟨[0,3,5,9,10,11], [3], [5]⟩))
  .skip))))))
  (.reg false [⟨(some 50), none, .bin .add (.t 11) (.v (.int .i64 (1)))⟩, ⟨(some 11), none, .mv (.t 50)⟩] (some ⟨[0,3,5,9,10,11], [3], [5]⟩))))))))
  (.seq (.reg false [⟨(some 51), none, .mv (.t 5)⟩, ⟨(some 4), none, .mv (.t 51)⟩] (some ⟨[4], [], [5]⟩))
  .ret))))
theorem c_stretches : compileCode Try.prog Try.f130.ntmps (Try.f130.body.getD .skip) A_stretches = some (C_stretches, []) := by kernel_rfl
theorem r_stretches : compileRes Try.prog Try.f130.results.toList = some [.t 4] := by kernel_rfl
theorem b_stretches : Try.f130.body = some (Try.f130.body.getD .skip) := by kernel_rfl
theorem n_stretches : (Try.f130.name == "runtime.NumGoroutine") = false := by kernel_rfl
theorem fc_stretches {xt : Option (List Cel)} {args : List Val} {R : List Cel → Val → Prop} (hn : (if xt.isSome then 1 else 0) + args.length ≤ Try.f130.ntmps) (h : ex Try.prog C_stretches [] (fpost xt [.t 4] R) (initSt xt args)) : FC Try.prog 130 xt args R :=
  fc_of_awp Try.func130 b_stretches n_stretches c_stretches r_stretches (of_decide_eq_true (by kernel_rfl)) hn h
theorem fcm_stretches {H : Hp} {K : Keep} {args : List Val} {R : Hp → Val → Prop} (hn : args.length ≤ Try.f130.ntmps) (hkb : ∀ p ∈ H.bs, p.1 = 0 ∨ XK ≤ p.1) (hkr : ∀ p ∈ H.rs, XK ≤ p.1) (h : ex Try.prog C_stretches [] (mpost H K [.t 4] R) (initM H args)) : FCM Try.prog 130 H args R :=
  fcm_of_awp Try.func130 b_stretches n_stretches c_stretches r_stretches (of_decide_eq_true (by kernel_rfl)) hn hkb hkr h
theorem fcms_stretches {S : List Nat} {H : Hp} {K : Keep} {args : List Val} {R : Hp → Val → Prop} (hn : args.length ≤ Try.f130.ntmps) (hkb : ∀ p ∈ H.bs, p.1 = 0 ∨ XK ≤ p.1) (hkr : ∀ p ∈ H.rs, XK ≤ p.1) (h : ex Try.prog C_stretches [] (mpostS S H K [.t 4] R) (initM H args))   : FCMS Try.prog 130 S H args R :=
  fcms_of_awp Try.func130 b_stretches n_stretches c_stretches r_stretches (of_decide_eq_true (by kernel_rfl)) hn hkb hkr h

def A_rvalued : List Ann := [⟨(some ⟨[0,3], [3], []⟩), [], [], [], []⟩, ⟨(some ⟨[4], [], []⟩), [], [], [], [(7, ⟨[], [], [], [5], []⟩), (8, ⟨[], [5], [], [5], []⟩)]⟩]
def C_rvalued : AC := (.seq (.reg false [⟨(some 3), none, .box (.t 1)⟩, ⟨(some 4), none, .mv (.v (.slice none 0 0))⟩] (some ⟨[0,3], [3], []⟩))
  (.seq (.reg false [⟨(some 5), none, .mv (.t 0)⟩, ⟨(some 6), none, .load true 2 (.t 3)⟩, ⟨(some 7), none, .callm (.f 130) [(.t 5), (.t 6)] ⟨[], [], [], [5], []⟩⟩, ⟨(some 8), none, .callm (.f 171) [(.t 7), (.f 172)] ⟨[], [5], [], [5], []⟩⟩, ⟨(some 4), none, .mv (.t 8)⟩] (some ⟨[4], [], []⟩))
  .ret))
theorem c_rvalued : compileCode Try.prog Try.f133.ntmps (Try.f133.body.getD .skip) A_rvalued = some (C_rvalued, []) := by kernel_rfl
theorem r_rvalued : compileRes Try.prog Try.f133.results.toList = some [.t 4] := by kernel_rfl
theorem b_rvalued : Try.f133.body = some (Try.f133.body.getD .skip) := by kernel_rfl
theorem n_rvalued : (Try.f133.name == "runtime.NumGoroutine") = false := by kernel_rfl
theorem fc_rvalued {xt : Option (List Cel)} {args : List Val} {R : List Cel → Val → Prop} (hn : (if xt.isSome then 1 else 0) + args.length ≤ Try.f133.ntmps) (h : ex Try.prog C_rvalued [] (fpost xt [.t 4] R) (initSt xt args)) : FC Try.prog 133 xt args R :=
  fc_of_awp Try.func133 b_rvalued n_rvalued c_rvalued r_rvalued (of_decide_eq_true (by kernel_rfl)) hn h
theorem fcm_rvalued {H : Hp} {K : Keep} {args : List Val} {R : Hp → Val → Prop} (hn : args.length ≤ Try.f133.ntmps) (hkb : ∀ p ∈ H.bs, p.1 = 0 ∨ XK ≤ p.1) (hkr : ∀ p ∈ H.rs, XK ≤ p.1) (h : ex Try.prog C_rvalued [] (mpost H K [.t 4] R) (initM H args)) : FCM Try.prog 133 H args R :=
  fcm_of_awp Try.func133 b_rvalued n_rvalued c_rvalued r_rvalued (of_decide_eq_true (by kernel_rfl)) hn hkb hkr h
theorem fcms_rvalued {S : List Nat} {H : Hp} {K : Keep} {args : List Val} {R : Hp → Val → Prop} (hn : args.length ≤ Try.f133.ntmps) (hkb : ∀ p ∈ H.bs, p.1 = 0 ∨ XK ≤ p.1) (hkr : ∀ p ∈ H.rs, XK ≤ p.1) (h : ex Try.prog C_rvalued [] (mpostS S H K [.t 4] R) (initM H args))   : FCMS Try.prog 133 S H args R :=
  fcms_of_awp Try.func133 b_rvalued n_rvalued c_rvalued r_rvalued (of_decide_eq_true (by kernel_rfl)) hn hkb hkr h

def A_rlong : List Ann := [⟨(some ⟨[1], [1], []⟩), [], [], [], []⟩, ⟨(some ⟨[2], [], []⟩), [], [], [], []⟩]
def C_rlong : AC := (.seq (.reg false [⟨(some 1), none, .box (.t 0)⟩, ⟨(some 2), none, .mv (.v (.int .i64 (0)))⟩] (some ⟨[1], [1], []⟩))
  (.seq (.reg false [⟨(some 3), none, .fadr 1 (.t 1)⟩, ⟨(some 4), none, .load false 1 (.t 3)⟩, ⟨(some 5), none, .fadr 0 (.t 1)⟩, ⟨(some 6), none, .load false 1 (.t 5)⟩, ⟨(some 7), none, .bin .sub (.t 4) (.t 6)⟩, ⟨(some 2), none, .mv (.t 7)⟩] (some ⟨[2], [], []⟩))
  .ret))
theorem c_rlong : compileCode Try.prog Try.f131.ntmps (Try.f131.body.getD .skip) A_rlong = some (C_rlong, []) := by kernel_rfl
theorem r_rlong : compileRes Try.prog Try.f131.results.toList = some [.t 2] := by kernel_rfl
theorem b_rlong : Try.f131.body = some (Try.f131.body.getD .skip) := by kernel_rfl
theorem n_rlong : (Try.f131.name == "runtime.NumGoroutine") = false := by kernel_rfl
theorem fc_rlong {xt : Option (List Cel)} {args : List Val} {R : List Cel → Val → Prop} (hn : (if xt.isSome then 1 else 0) + args.length ≤ Try.f131.ntmps) (h : ex Try.prog C_rlong [] (fpost xt [.t 2] R) (initSt xt args)) : FC Try.prog 131 xt args R :=
  fc_of_awp Try.func131 b_rlong n_rlong c_rlong r_rlong (of_decide_eq_true (by kernel_rfl)) hn h

def A_integralOf : List Ann := [⟨(some ⟨[0,3,4,5], [3], []⟩), [], [], [], []⟩, ⟨(some ⟨[4,5,10,11,12], [], []⟩), [], [], [], []⟩, ⟨(some ⟨[4,5,10,11,12,13], [], []⟩), [], [], [], []⟩, ⟨(some ⟨[4,5,7,10,11,12], [7], []⟩), [], [], [], []⟩, ⟨(some ⟨[4,5,7,10,11,12], [7], []⟩), [], [], [], []⟩, ⟨(some ⟨[4,5,10,11,12], [], []⟩), [], [], [], []⟩, ⟨(some ⟨[4,5,10,11,12], [], []⟩), [], [], [], []⟩, ⟨(some ⟨[4,5], [], []⟩), [], [], [], []⟩]
def C_integralOf : AC := (.seq (.reg false [⟨(some 3), none, .box (.t 1)⟩, ⟨(some 4), none, .mv (.v (.int .i64 (0)))⟩, ⟨(some 5), none, .mv (.v (.int .i64 (0)))⟩] (some ⟨[0,3,4,5], [3], []⟩))
  (.seq (.seq (.reg false [⟨(some 8), none, .mv (.t 0)⟩, ⟨(some 9), none, .load true 2 (.t 3)⟩, ⟨(some 10), none, .call (.f 133) [(.t 8), (.t 9)]⟩, ⟨(some 11), none, .len (.t 10)⟩, ⟨(some 12), none, .mv (.v (.int .i64 (0)))⟩] (some ⟨[4,5,10,11,12], [], []⟩))
  (.block 0 (.loop (.seq (.reg false [⟨(some 13), none, .bin .lss (.t 12) (.t 11)⟩] (some ⟨[4,5,10,11,12,13], [], []⟩))
  (.seq (.cond (.t 13)
  .skip
  (.exit 0))
  (.seq (.block 1 (.seq (.reg false [⟨(some 14), none, .iadr 5 (.t 10) (.t 12)⟩, ⟨(some 15), none, .load true 5 (.t 14)⟩, ⟨(some 7), none, .alloc [(.int .i64 (0)), (.int .i64 (0)), (.int .i64 (0)), (.int .i64 (0)), (.int .i64 (0))]⟩, ⟨none, none, .store 5 (.t 7) (.t 15)⟩] (some ⟨[4,5,7,10,11,12], [7], []⟩))
  (.seq (.reg true [⟨(some 16), none, .mv (.t 4)⟩, ⟨(some 17), none, .fadr 2 (.t 7)⟩, ⟨(some 18), none, .fadr 1 (.t 17)⟩, ⟨(some 19), none, .load false 1 (.t 18)⟩, ⟨(some 20), none, .fadr 0 (.t 7)⟩, ⟨(some 21), none, .load true 2 (.t 20)⟩, ⟨(some 22), none, .call (.f 131) [(.t 21)]⟩, ⟨(some 23), none, .bin .mul (.t 19) (.t 22)⟩, ⟨(some 24), none, .bin .add (.t 16) (.t 23)⟩, ⟨(some 4), none, .mv (.t 24)⟩] (some ⟨[4,5,7,10,11,12], [7], []⟩))
  (.reg false [⟨(some 25), none, .mv (.t 5)⟩, ⟨(some 26), none, .fadr 0 (.t 7)⟩, ⟨(some 27), none, .load true 2 (.t 26)⟩, ⟨(some 28), none, .call (.f 131) [(.t 27)]⟩, ⟨(some 29), none, .bin .add (.t 25) (.t 28)⟩, ⟨(some 5), none, .mv (.t 29)⟩] (some ⟨[4,5,10,11,12], [], []⟩)))))
  (.reg false [⟨(some 30), none, .bin .add (.t 12) (.v (.int .i64 (1)))⟩, ⟨(some 12), none, .mv (.t 30)⟩] (some ⟨[4,5,10,11,12], [], []⟩))))))))
  (.seq (.reg false [⟨(some 31), none, .mv (.t 4)⟩, ⟨(some 32), none, .mv (.t 5)⟩, ⟨(some 4), none, .mv (.t 31)⟩, ⟨(some 5), none, .mv (.t 32)⟩] (some ⟨[4,5], [], []⟩))
  .ret)))
theorem c_integralOf : compileCode Try.prog Try.f70.ntmps (Try.f70.body.getD .skip) A_integralOf = some (C_integralOf, []) := by kernel_rfl
theorem r_integralOf : compileRes Try.prog Try.f70.results.toList = some [.t 4, .t 5] := by kernel_rfl
theorem b_integralOf : Try.f70.body = some (Try.f70.body.getD .skip) := by kernel_rfl
theorem n_integralOf : (Try.f70.name == "runtime.NumGoroutine") = false := by kernel_rfl
theorem fc_integralOf {xt : Option (List Cel)} {args : List Val} {R : List Cel → Val → Prop} (hn : (if xt.isSome then 1 else 0) + args.length ≤ Try.f70.ntmps) (h : ex Try.prog C_integralOf [] (fpost xt [.t 4, .t 5] R) (initSt xt args)) : FC Try.prog 70 xt args R :=
  fc_of_awp Try.func70 b_integralOf n_integralOf c_integralOf r_integralOf (of_decide_eq_true (by kernel_rfl)) hn h

def A_averageOf : List Ann := [⟨(some ⟨[0,3,4], [3,4], []⟩), [], [], [], []⟩, ⟨(some ⟨[4,6,7], [4], []⟩), [], [], [], []⟩, ⟨(some ⟨[4,6,7,15], [4], []⟩), [], [], [], []⟩, ⟨(some ⟨[4,5], [4], []⟩), [], [], [], []⟩, ⟨(some ⟨[4,5], [4], []⟩), [], [], [], []⟩]
def C_averageOf : AC := (.seq (.reg false [⟨(some 3), none, .box (.t 1)⟩, ⟨(some 4), none, .alloc [(.int .i64 (0)), (.int .i64 (0))]⟩, ⟨(some 5), none, .mv (.v (.bool false))⟩] (some ⟨[0,3,4], [3,4], []⟩))
  (.seq (.reg false [⟨(some 9), none, .mv (.t 0)⟩, ⟨(some 10), none, .load true 2 (.t 3)⟩, ⟨(some 11), none, .call (.f 70) [(.t 9), (.t 10)]⟩, ⟨(some 8), none, .mv (.t 11)⟩, ⟨(some 12), none, .extr (.t 8) 0⟩, ⟨(some 13), none, .extr (.t 8) 1⟩, ⟨(some 6), none, .mv (.t 12)⟩, ⟨(some 7), none, .mv (.t 13)⟩] (some ⟨[4,6,7], [4], []⟩))
  (.seq (.seq (.reg false [⟨(some 14), none, .mv (.t 7)⟩, ⟨(some 15), none, .bin .eql (.t 14) (.v (.int .i64 (0)))⟩] (some ⟨[4,6,7,15], [4], []⟩))
  (.cond (.t 15)
  (.seq (.reg false [⟨(some 16), none, .build [(.int .i64 (0)), (.int .i64 (0))] []⟩, ⟨none, none, .store 2 (.t 4) (.t 16)⟩, ⟨(some 5), none, .mv (.v (.bool false))⟩] (some ⟨[4,5], [4], []⟩))
  .ret)
  .skip))
  (.seq (.reg false [⟨(some 17), none, .mv (.t 6)⟩, ⟨(some 18), none, .mv (.t 7)⟩, ⟨(some 19), none, .call (.f 134) [(.t 17), (.t 18)]⟩, ⟨none, none, .store 2 (.t 4) (.t 19)⟩, ⟨(some 5), none, .mv (.v (.bool true))⟩] (some ⟨[4,5], [4], []⟩))
  .ret))))
theorem c_averageOf : compileCode Try.prog Try.f71.ntmps (Try.f71.body.getD .skip) A_averageOf = some (C_averageOf, []) := by kernel_rfl
theorem r_averageOf : compileRes Try.prog Try.f71.results.toList = some [.cell 4 true 2, .t 5] := by kernel_rfl
theorem b_averageOf : Try.f71.body = some (Try.f71.body.getD .skip) := by kernel_rfl
theorem n_averageOf : (Try.f71.name == "runtime.NumGoroutine") = false := by kernel_rfl
theorem fc_averageOf {xt : Option (List Cel)} {args : List Val} {R : List Cel → Val → Prop} (hn : (if xt.isSome then 1 else 0) + args.length ≤ Try.f71.ntmps) (h : ex Try.prog C_averageOf [] (fpost xt [.cell 4 true 2, .t 5] R) (initSt xt args)) : FC Try.prog 71 xt args R :=
  fc_of_awp Try.func71 b_averageOf n_averageOf c_averageOf r_averageOf (of_decide_eq_true (by kernel_rfl)) hn h

def A_extremesOf : List Ann := [⟨(some ⟨[0,3,4,5,6], [3], []⟩), [], [], [], []⟩, ⟨(some ⟨[4,5,6,11,12,13], [], []⟩), [], [], [], []⟩, ⟨(some ⟨[4,5,6,11,12,13,14], [], []⟩), [], [], [], []⟩, ⟨(some ⟨[4,5,7,8,11,12,13], [8], []⟩), [], [], [], []⟩, ⟨(some ⟨[4,5,8,11,12,13,19], [8], []⟩), [], [], [], []⟩, ⟨(some ⟨[4,5,8,11,12,13], [8], []⟩), [], [], [], []⟩, ⟨(some ⟨[4,5,6,11,12,13], [], []⟩), [], [], [], []⟩, ⟨(some ⟨[4,5,6,11,12,13], [], []⟩), [], [], [], []⟩, ⟨(some ⟨[4,5,6], [], []⟩), [], [], [], []⟩]
def C_extremesOf : AC := (.seq (.reg false [⟨(some 3), none, .box (.t 1)⟩, ⟨(some 4), none, .mv (.v (.int .i64 (0)))⟩, ⟨(some 5), none, .mv (.v (.int .i64 (0)))⟩, ⟨(some 6), none, .mv (.v (.bool false))⟩] (some ⟨[0,3,4,5,6], [3], []⟩))
  (.seq (.seq (.reg false [⟨(some 9), none, .mv (.t 0)⟩, ⟨(some 10), none, .load true 2 (.t 3)⟩, ⟨(some 11), none, .call (.f 133) [(.t 9), (.t 10)]⟩, ⟨(some 12), none, .len (.t 11)⟩, ⟨(some 13), none, .mv (.v (.int .i64 (0)))⟩] (some ⟨[4,5,6,11,12,13], [], []⟩))
  (.block 0 (.loop (.seq (.reg false [⟨(some 14), none, .bin .lss (.t 13) (.t 12)⟩] (some ⟨[4,5,6,11,12,13,14], [], []⟩))
  (.seq (.cond (.t 14)
  .skip
  (.exit 0))
  (.seq (.block 1 (.seq (.reg false [⟨(some 15), none, .mv (.t 13)⟩, ⟨(some 16), none, .iadr 5 (.t 11) (.t 13)⟩, ⟨(some 17), none, .load true 5 (.t 16)⟩, ⟨(some 8), none, .alloc [(.int .i64 (0)), (.int .i64 (0)), (.int .i64 (0)), (.int .i64 (0)), (.int .i64 (0))]⟩, ⟨(some 7), none, .mv (.t 15)⟩, ⟨none, none, .store 5 (.t 8) (.t 17)⟩] (some ⟨[4,5,7,8,11,12,13], [8], []⟩))
  (.seq (.seq (.reg false [⟨(some 18), none, .mv (.t 7)⟩, ⟨(some 19), none, .bin .eql (.t 18) (.v (.int .i64 (0)))⟩] (some ⟨[4,5,8,11,12,13,19], [8], []⟩))
  (.cond (.t 19)
  (.reg true [⟨(some 20), none, .fadr 2 (.t 8)⟩, ⟨(some 21), none, .fadr 1 (.t 20)⟩, ⟨(some 22), none, .load false 1 (.t 21)⟩, ⟨(some 23), none, .fadr 2 (.t 8)⟩, ⟨(some 24), none, .fadr 1 (.t 23)⟩, ⟨(some 25), none, .load false 1 (.t 24)⟩, ⟨(some 4), none, .mv (.t 22)⟩, ⟨(some 5), none, .mv (.t 25)⟩] (some ⟨[4,5,8,11,12,13], [8], []⟩))
  .skip))
  (.reg true [⟨(some 26), none, .mv (.t 4)⟩, ⟨(some 27), none, .fadr 2 (.t 8)⟩, ⟨(some 28), none, .fadr 1 (.t 27)⟩, ⟨(some 29), none, .load false 1 (.t 28)⟩, ⟨(some 30), none, .mnx false (.t 26) (.t 29)⟩, ⟨(some 31), none, .mv (.t 5)⟩, ⟨(some 32), none, .fadr 2 (.t 8)⟩, ⟨(some 33), none, .fadr 1 (.t 32)⟩, ⟨(some 34), none, .load false 1 (.t 33)⟩, ⟨(some 35), none, .mnx true (.t 31) (.t 34)⟩, ⟨(some 4), none, .mv (.t 30)⟩, ⟨(some 5), none, .mv (.t 35)⟩, ⟨(some 6), none, .mv (.v (.bool true))⟩] (some ⟨[4,5,6,11,12,13], [], []⟩)))))
  (.reg false [⟨(some 36), none, .bin .add (.t 13) (.v (.int .i64 (1)))⟩, ⟨(some 13), none, .mv (.t 36)⟩] (some ⟨[4,5,6,11,12,13], [], []⟩))))))))
  (.seq (.reg false [⟨(some 37), none, .mv (.t 4)⟩, ⟨(some 38), none, .mv (.t 5)⟩, ⟨(some 39), none, .mv (.t 6)⟩, ⟨(some 4), none, .mv (.t 37)⟩, ⟨(some 5), none, .mv (.t 38)⟩, ⟨(some 6), none, .mv (.t 39)⟩] (some ⟨[4,5,6], [], []⟩))
  .ret)))
theorem c_extremesOf : compileCode Try.prog Try.f72.ntmps (Try.f72.body.getD .skip) A_extremesOf = some (C_extremesOf, []) := by kernel_rfl
theorem r_extremesOf : compileRes Try.prog Try.f72.results.toList = some [.t 4, .t 5, .t 6] := by kernel_rfl
theorem b_extremesOf : Try.f72.body = some (Try.f72.body.getD .skip) := by kernel_rfl
theorem n_extremesOf : (Try.f72.name == "runtime.NumGoroutine") = false := by kernel_rfl
theorem fc_extremesOf {xt : Option (List Cel)} {args : List Val} {R : List Cel → Val → Prop} (hn : (if xt.isSome then 1 else 0) + args.length ≤ Try.f72.ntmps) (h : ex Try.prog C_extremesOf [] (fpost xt [.t 4, .t 5, .t 6] R) (initSt xt args)) : FC Try.prog 72 xt args R :=
  fc_of_awp Try.func72 b_extremesOf n_extremesOf c_extremesOf r_extremesOf (of_decide_eq_true (by kernel_rfl)) hn h


/-- A stretch: its window, and the sample that counts in it. -/
structure Sr where
  f : Int
  t : Int
  a : Int
  v : Int
  q : Int
  deriving Inhabited
def srC (x : Sr) : List Cel := [.g (.int .i64 x.f), .g (.int .i64 x.t), .g (.int .i64 x.a), .g (.int .i64 x.v), .g (.int .i64 x.q)]
theorem srC_eq (x : Sr) : srC x = [.g (.int .i64 x.f), .g (.int .i64 x.t), .g (.int .i64 x.a), .g (.int .i64 x.v), .g (.int .i64 x.q)] := (rfl)
theorem frE_sr (l : List Sr) : frE (l.map srC) = true := frE_map (fun _ => rfl) l
theorem datE_sr (l : List Sr) : datE (l.map srC) = l.map srC := datE_map (fun _ => rfl) l
theorem tofE_sr (l : List Sr) : tofE (l.map srC) = l.map srC := tofE_map (fun _ => rfl) l
attribute [go_sem] srC_eq frE_sr datE_sr tofE_sr
abbrev srsV (fr : Bool) (l : List Sr) : Val := .one (.sl fr 5 (l.map srC))
def ix5St (cl : FuncId) (l : List Sr) (i : Int) : AS := ⟨tabV [(0, srsV false l), (1, .one (.fn cl [])), (7, iv l.length), (8, iv i)], tabO [], tabO []⟩
theorem idx5_fc (cl : FuncId) (p : Sr → Bool) (l : List Sr) (hl : l.length ≤ 1000000) (hcl : ∀ x, FC Try.prog cl none [.ag (srC x)] (fun _ r => r = bv (p x))) : FC Try.prog 202 none [srsV false l, .one (.fn cl [])] (fun _ r => r = iv (idxG p 0 l)) := by
  refine fc_idx5 (by simp +arith) ?_
  unfold C_idx5
  simp (maxSteps := 1000000) (disch := omega) only [go_sem, eq_self, decide_true, decide_false, not_true_eq_false, not_false_eq_true, reduceIte, reduceCtorEq, Nat.reduceEqDiff, Nat.reduceAdd, Nat.reduceSub, Nat.reduceLeDiff]
  refine ex_loop1 (ix5St cl l) (fun i => 0 ≤ i ∧ i ≤ l.length ∧ idxG p i (l.drop i.toNat) = idxG p 0 l) (fun i => (l.length - i).toNat) 0 ⟨by omega, by omega, rfl⟩ rfl ?_
  rintro i ⟨g1, g2, g3⟩
  unfold ix5St
  by_cases hi : i < l.length
  · rw [drop_cons l i.toNat (by omega), idxG] at g3
    have e2 : (i + 1).toNat = i.toNat + 1 := by omega
    simp (maxSteps := 1000000) (disch := omega) only [go_sem, eq_self, decide_true, decide_false, not_true_eq_false, not_false_eq_true, reduceIte, reduceCtorEq, Nat.reduceEqDiff, Nat.reduceAdd, Nat.reduceSub, Nat.reduceLeDiff]
    refine CALL_det (hcl _) (.inl rfl) ?_
    cases h : p (l.getD i.toNat default) with
    | true => rw [h, if_pos rfl] at g3; simp (maxSteps := 1000000) (disch := omega) only [go_sem, eq_self, decide_true, decide_false, not_true_eq_false, not_false_eq_true, reduceIte, reduceCtorEq, Nat.reduceEqDiff, Nat.reduceAdd, Nat.reduceSub, Nat.reduceLeDiff]; rw [← g3]
    | false =>
      rw [h, if_neg (by simp)] at g3
      simp (maxSteps := 1000000) (disch := omega) only [go_sem, eq_self, decide_true, decide_false, not_true_eq_false, not_false_eq_true, reduceIte, reduceCtorEq, Nat.reduceEqDiff, Nat.reduceAdd, Nat.reduceSub, Nat.reduceLeDiff]
      exact ⟨_, rfl, ⟨by omega, by omega, by rw [e2]; exact g3⟩, by omega⟩
  · rw [List.drop_eq_nil_of_le (by omega), idxG] at g3
    simp (maxSteps := 1000000) (disch := omega) only [go_sem, eq_self, decide_true, decide_false, not_true_eq_false, not_false_eq_true, reduceIte, reduceCtorEq, Nat.reduceEqDiff, Nat.reduceAdd, Nat.reduceSub, Nat.reduceLeDiff]
    rw [← g3]
abbrev srRow (l : List Sr) : Row := ⟨0, 187, 5, l.map srC⟩
def dl5St (cl : FuncId) (j k : Int) (cur : List Sr) : AS := ⟨tabV [(0, .one (.ow 1000000 0)), (1, .one (.fn cl [])), (5, iv j), (6, iv k)], tabO [], tabO [(1000000, srRow cur)]⟩
theorem del5_fcm (cl : FuncId) (p : Sr → Bool) (l : List Sr) (hl : l.length ≤ 1000000) (hcl : ∀ x, FC Try.prog cl none [.ag (srC x)] (fun _ r => r = bv (p x))) :
    FCM Try.prog 171 ⟨[], [(1000000, srRow l)]⟩ [.one (.ow 1000000 0), .one (.fn cl [])] (fun H r => H = ⟨[], [(1000000, srRow (l.filter fun x => !p x))]⟩ ∧ r = .one (.ow 1000000 0)) := by
  refine fcm_del5 (K := ⟨[], [], [1000000]⟩) (by simp +arith) (by simp) (by simp [XK]) ?_
  unfold C_del5
  simp (maxSteps := 1000000) (disch := omega) only [go_sem, eq_self, decide_true, decide_false, not_true_eq_false, not_false_eq_true, reduceIte, reduceCtorEq, Nat.reduceEqDiff, Nat.reduceAdd, Nat.reduceSub, Nat.reduceLeDiff]
  refine CALL_det (idx5_fc cl p l hl hcl) (.inl rfl) ?_
  rcases idxG_spec p l 0 (by omega) with ⟨h1, h2⟩ | ⟨h1, h2, h3, h4⟩
  · rw [h1]
    rw [filter_none h2]
    simp (maxSteps := 1000000) (disch := omega) only [go_sem, eq_self, decide_true, decide_false, not_true_eq_false, not_false_eq_true, reduceIte, reduceCtorEq, Nat.reduceEqDiff, Nat.reduceAdd, Nat.reduceSub, Nat.reduceLeDiff]
  · generalize idxG p 0 l = i at *
    rw [show (i - 0).toNat = i.toNat by omega] at h3
    have h5 := DelI.start h1 (by omega) h3 (fun j hj => h4 j (by omega))
    simp (maxSteps := 1000000) (disch := omega) only [go_sem, eq_self, decide_true, decide_false, not_true_eq_false, not_false_eq_true, reduceIte, reduceCtorEq, Nat.reduceEqDiff, Nat.reduceAdd, Nat.reduceSub, Nat.reduceLeDiff]
    refine ex_loop3 (dl5St cl) (DelI p l) (fun _ k _ => (l.length - k).toNat) i (i + 1) l h5 rfl ?_
    rintro j k cur hI
    have i1 := hI.j0
    have i2 := hI.jk
    have i3 := hI.kn
    have i4 := hI.len
    unfold dl5St
    by_cases hk : k < l.length
    · have eat := hI.at hk
      have ek := getD_map_at srC cur k [] (by omega) (by omega)
      have ej := getE_map_in srC cur j.toNat (by omega)
      simp (maxSteps := 1000000) (disch := omega) only [go_sem, eq_self, decide_true, decide_false, not_true_eq_false, not_false_eq_true, reduceIte, reduceCtorEq, Nat.reduceEqDiff, Nat.reduceAdd, Nat.reduceSub, Nat.reduceLeDiff]
      rw [eat]
      refine CALL_det (hcl _) (.inl rfl) ?_
      cases hp : p (l.getD k.toNat default) with
      | true =>
        simp (maxSteps := 1000000) (disch := omega) only [go_sem, eq_self, decide_true, decide_false, not_true_eq_false, not_false_eq_true, reduceIte, reduceCtorEq, Nat.reduceEqDiff, Nat.reduceAdd, Nat.reduceSub, Nat.reduceLeDiff]
        exact ⟨_, _, _, rfl, hI.del hk hp, by omega⟩
      | false =>
        simp (maxSteps := 1000000) (disch := omega) only [go_sem, eq_self, decide_true, decide_false, not_true_eq_false, not_false_eq_true, reduceIte, reduceCtorEq, Nat.reduceEqDiff, Nat.reduceAdd, Nat.reduceSub, Nat.reduceLeDiff]
        exact ⟨j + 1, k + 1, cur.set j.toNat (l.getD k.toNat default), by simp only [dl5St, srRow, List.map_set, srC_eq], hI.put hk hp, by omega⟩
    · have hf := hI.fin hk
      simp (maxSteps := 1000000) (disch := omega) only [go_sem, eq_self, decide_true, decide_false, not_true_eq_false, not_false_eq_true, reduceIte, reduceCtorEq, Nat.reduceEqDiff, Nat.reduceAdd, Nat.reduceSub, Nat.reduceLeDiff]
      refine ⟨⟨by omega, by simp; omega, by simp; omega⟩, ?_⟩
      rw [List.take_left' (by simp; omega), ← List.map_take, hf]

/-- The stretches of a window: of a sample, up to the next one. -/
def strGo (f t : Int) : List Smp → List Sr
  | [] => []
  | [s] => if max s.a f < t then [⟨max s.a f, t, s.a, s.v, s.q⟩] else []
  | s :: s' :: r => (if max s.a f < min t s'.a then [⟨max s.a f, min t s'.a, s.a, s.v, s.q⟩] else []) ++ strGo f t (s' :: r)
def toPc (x : Sr) : Pc := ⟨x.f, x.t, x.v, x.q⟩
theorem str_pcs (f t : Int) : ∀ l : List Smp, (strGo f t l).map toPc = pcsGo f t l
  | [] => rfl
  | [s] => by
    rw [strGo, pcsGo, Int.max_comm s.a f]
    split <;> rfl
  | s :: s' :: r => by
    rw [strGo, pcsGo, Int.max_comm s.a f, List.map_append, str_pcs f t (s' :: r)]
    split <;> rfl
theorem strGo_len (f t : Int) (l : List Smp) : (strGo f t l).length ≤ l.length := by
  have := pcsGo_len f t l
  rw [← str_pcs, List.length_map] at this; exact this
theorem strGo_last (f t : Int) (l : List Smp) (i : Nat) (h : i + 1 = l.length) : strGo f t (l.drop i) = if max (l.getD i default).a f < t then [⟨max (l.getD i default).a f, t, (l.getD i default).a, (l.getD i default).v, (l.getD i default).q⟩] else [] := by
  rw [drop_cons l i (by omega), List.drop_eq_nil_of_le (by omega), strGo]
theorem strGo_next (f t : Int) (l : List Smp) (i : Nat) (h : i + 1 < l.length) : strGo f t (l.drop i) = (if max (l.getD i default).a f < min t (l.getD (i + 1) default).a then [⟨max (l.getD i default).a f, min t (l.getD (i + 1) default).a, (l.getD i default).a, (l.getD i default).v, (l.getD i default).q⟩] else []) ++ strGo f t (l.drop (i + 1)) := by
  rw [drop_cons l i (by omega), drop_cons l (i + 1) (by omega), strGo]
def strSt (l : List Smp) (f t i : Int) (acc : List Sr) : AS := ⟨tabV [(0, smps false l), (3, .one (.bx 3 0)), (5, .one (.ow 5 0)), (9, smps false l), (10, iv l.length), (11, iv i)], tabO [(3, [.g (.int .i64 f), .g (.int .i64 t)])], tabO [(5, srRow acc)]⟩
theorem stretches_fcm (l : List Smp) (hl : l.length ≤ 5000) (f t : Int) : FCM Try.prog 130 ⟨[], []⟩ [smps false l, winV f t] (fun H r => H = ⟨[], [(5, srRow (strGo f t l))]⟩ ∧ r = .one (.ow 5 0)) := by
  refine fcm_stretches (K := ⟨[], [], [5]⟩) (by simp +arith) (by simp) (by simp) ?_
  unfold C_stretches
  simp (maxSteps := 1000000) (disch := omega) only [go_sem, eq_self, decide_true, decide_false, not_true_eq_false, not_false_eq_true, reduceIte, reduceCtorEq, Nat.reduceEqDiff, Nat.reduceAdd, Nat.reduceSub, Nat.reduceLeDiff]
  refine ex_loop2 (strSt l f t) (fun i acc => 0 ≤ i ∧ i ≤ l.length ∧ acc.length ≤ i ∧ acc ++ strGo f t (l.drop i.toNat) = strGo f t l) (fun i _ => (l.length - i).toNat) 0 [] ⟨by omega, by omega, by simp, by simp⟩ rfl ?_
  rintro i acc ⟨g1, g2, g3, g4⟩
  unfold strSt
  by_cases hi : i < l.length
  · have e2 : (i + 1).toNat = i.toNat + 1 := by omega
    have em := getD_map_at smpC l i [] g1 hi
    by_cases hn : i + 1 < l.length
    · have en := getD_map_at smpC l (i + 1) [] (by omega) hn
      rw [strGo_next f t l i.toNat (by omega), ← e2] at g4
      by_cases hw : max (l.getD i.toNat default).a f < min t (l.getD (i + 1).toNat default).a
      · rw [if_pos hw] at g4
        simp (maxSteps := 1000000) (disch := omega) only [go_sem, eq_self, decide_true, decide_false, not_true_eq_false, not_false_eq_true, reduceIte, reduceCtorEq, Nat.reduceEqDiff, Nat.reduceAdd, Nat.reduceSub, Nat.reduceLeDiff]
        exact ⟨i + 1, acc ++ [⟨max (l.getD i.toNat default).a f, min t (l.getD (i + 1).toNat default).a, (l.getD i.toNat default).a, (l.getD i.toNat default).v, (l.getD i.toNat default).q⟩], by simp only [strSt, srRow, List.map_append, List.map_cons, List.map_nil, srC_eq], ⟨by omega, by omega, by simp; omega, by simpa using g4⟩, by omega⟩
      · rw [if_neg hw, List.nil_append] at g4
        simp (maxSteps := 1000000) (disch := omega) only [go_sem, eq_self, decide_true, decide_false, not_true_eq_false, not_false_eq_true, reduceIte, reduceCtorEq, Nat.reduceEqDiff, Nat.reduceAdd, Nat.reduceSub, Nat.reduceLeDiff]
        exact ⟨_, _, rfl, ⟨by omega, by omega, by omega, g4⟩, by omega⟩
    · have hd : strGo f t (l.drop (i + 1).toNat) = [] := by rw [List.drop_eq_nil_of_le (by omega), strGo]
      rw [strGo_last f t l i.toNat (by omega)] at g4
      by_cases hw : max (l.getD i.toNat default).a f < t
      · rw [if_pos hw] at g4
        simp (maxSteps := 1000000) (disch := omega) only [go_sem, eq_self, decide_true, decide_false, not_true_eq_false, not_false_eq_true, reduceIte, reduceCtorEq, Nat.reduceEqDiff, Nat.reduceAdd, Nat.reduceSub, Nat.reduceLeDiff]
        exact ⟨i + 1, acc ++ [⟨max (l.getD i.toNat default).a f, t, (l.getD i.toNat default).a, (l.getD i.toNat default).v, (l.getD i.toNat default).q⟩], by simp only [strSt, srRow, List.map_append, List.map_cons, List.map_nil, srC_eq], ⟨by omega, by omega, by simp; omega, by rw [hd]; simpa using g4⟩, by omega⟩
      · rw [if_neg hw] at g4
        simp (maxSteps := 1000000) (disch := omega) only [go_sem, eq_self, decide_true, decide_false, not_true_eq_false, not_false_eq_true, reduceIte, reduceCtorEq, Nat.reduceEqDiff, Nat.reduceAdd, Nat.reduceSub, Nat.reduceLeDiff]
        exact ⟨_, _, rfl, ⟨by omega, by omega, by omega, by rw [hd]; exact g4⟩, by omega⟩
  · rw [List.drop_eq_nil_of_le (by omega), strGo, List.append_nil] at g4
    simp (maxSteps := 1000000) (disch := omega) only [go_sem, eq_self, decide_true, decide_false, not_true_eq_false, not_false_eq_true, reduceIte, reduceCtorEq, Nat.reduceEqDiff, Nat.reduceAdd, Nat.reduceSub, Nat.reduceLeDiff]
    rw [g4]
theorem rvalClos_fc (x : Sr) : FC Try.prog 172 none [.ag (srC x)] (fun _ r => r = bv (decide (x.q = 2))) := by
  refine fc_rvalClos (by simp +arith) ?_
  unfold C_rvalClos
  simp (maxSteps := 1000000) (disch := omega) only [go_sem, eq_self, decide_true, decide_false, not_true_eq_false, not_false_eq_true, reduceIte, reduceCtorEq, Nat.reduceEqDiff, Nat.reduceAdd, Nat.reduceSub, Nat.reduceLeDiff]
def rvals (f t : Int) (l : List Smp) : List Sr := (strGo f t l).filter fun x => !decide (x.q = 2)
theorem rvals_pc (f t : Int) (l : List Smp) : (rvals f t l).map toPc = vals f t l := by
  unfold rvals vals
  rw [← str_pcs, List.filter_map]
  rfl
theorem rvals_len (f t : Int) (l : List Smp) : (rvals f t l).length ≤ l.length := Nat.le_trans (List.length_filter_le _ _) (strGo_len f t l)
theorem rvalued_fc (l : List Smp) (hl : l.length ≤ 5000) (f t : Int) : FC Try.prog 133 none [smps false l, winV f t] (fun _ r => r = srsV true (rvals f t l)) := by
  refine fc_rvalued (by simp +arith) ?_
  have hp := strGo_len f t l
  unfold C_rvalued
  simp (maxSteps := 1000000) (disch := omega) only [go_sem, eq_self, decide_true, decide_false, not_true_eq_false, not_false_eq_true, reduceIte, reduceCtorEq, Nat.reduceEqDiff, Nat.reduceAdd, Nat.reduceSub, Nat.reduceLeDiff]
  refine ⟨rfl, CALLM_det (stretches_fcm l hl f t) ⟨rfl, rfl⟩ ?_⟩
  simp (maxSteps := 1000000) (disch := omega) only [go_sem, eq_self, decide_true, decide_false, not_true_eq_false, not_false_eq_true, reduceIte, reduceCtorEq, Nat.reduceEqDiff, Nat.reduceAdd, Nat.reduceSub, Nat.reduceLeDiff]
  refine ⟨rfl, CALLM_rnE ⟨[], [(5, srRow (rvals f t l))]⟩ (.one (.ow 5 0)) (fun k => k) (swp 5 1000000) (fun _ => rfl) (swp_swp 5 1000000) (del5_fcm 172 (fun x => decide (x.q = 2)) (strGo f t l) (by omega) (fun x => rvalClos_fc x)) (by simp) rfl rfl rfl rfl ⟨rfl, rfl⟩ ?_⟩
  simp (maxSteps := 1000000) (disch := omega) only [go_sem, eq_self, decide_true, decide_false, not_true_eq_false, not_false_eq_true, reduceIte, reduceCtorEq, Nat.reduceEqDiff, Nat.reduceAdd, Nat.reduceSub, Nat.reduceLeDiff]
theorem rlong_fc (f t : Int) (h1 : -4611686018427387904 ≤ t - f) (h2 : t - f ≤ 4611686018427387904) : FC Try.prog 131 none [winV f t] (fun _ r => r = iv (t - f)) := by
  refine fc_rlong (by simp +arith) ?_
  unfold C_rlong
  simp (maxSteps := 1000000) (disch := omega) only [go_sem, eq_self, decide_true, decide_false, not_true_eq_false, not_false_eq_true, reduceIte, reduceCtorEq, Nat.reduceEqDiff, Nat.reduceAdd, Nat.reduceSub, Nat.reduceLeDiff]
theorem toPc_getD (m : List Sr) (i : Nat) : (m.map toPc).getD i default = toPc (m.getD i default) := by
  by_cases h : i < m.length
  · exact getD_map_in toPc m i default h
  · simp only [List.getD_eq_getElem?_getD, List.getElem?_map, List.getElem?_eq_none (show m.length ≤ i by omega)]; rfl
def itoSt (m : List Sr) (i s tt : Int) : AS := ⟨tabV [(4, iv s), (5, iv tt), (10, srsV true m), (11, iv m.length), (12, iv i)], tabO [], tabO []⟩
theorem integralOf_fc (l : List Smp) (hs : serFault l = 0) (f t : Int) (hw : 0 ≤ f ∧ f ≤ t ∧ t ≤ 345686400000) : FC Try.prog 70 none [smps false l, winV f t] (fun _ r => r = .tu [iv (intS (vals f t l)), iv (intT (vals f t l))]) := by
  refine fc_integralOf (by simp +arith) ?_
  have hlen := (good_of hs).len
  have hml := rvals_len f t l
  have hc := vals_chain hw.2.1 hs
  unfold C_integralOf
  simp (maxSteps := 1000000) (disch := omega) only [go_sem, eq_self, decide_true, decide_false, not_true_eq_false, not_false_eq_true, reduceIte, reduceCtorEq, Nat.reduceEqDiff, Nat.reduceAdd, Nat.reduceSub, Nat.reduceLeDiff]
  refine CALL_det (rvalued_fc l (by omega) f t) (.inl rfl) ?_
  rw [← rvals_pc] at hc ⊢
  generalize rvals f t l = m at *
  simp (maxSteps := 1000000) (disch := omega) only [go_sem, eq_self, decide_true, decide_false, not_true_eq_false, not_false_eq_true, reduceIte, reduceCtorEq, Nat.reduceEqDiff, Nat.reduceAdd, Nat.reduceSub, Nat.reduceLeDiff]
  refine ex_loop3 (itoSt m) (fun i s tt => 0 ≤ i ∧ i ≤ m.length ∧ s + intS ((m.drop i.toNat).map toPc) = intS (m.map toPc) ∧ tt + intT ((m.drop i.toNat).map toPc) = intT (m.map toPc) ∧ ∃ lo, Chain lo t ((m.drop i.toNat).map toPc) ∧ 0 ≤ tt ∧ tt ≤ lo - f ∧ -1000000 * tt ≤ s ∧ s ≤ 1000000 * tt) (fun i _ _ => (m.length - i).toNat) 0 0 0 ⟨by omega, by omega, by simp, by simp, f, hc, by omega, by omega, by omega, by omega⟩ rfl ?_
  rintro i s tt ⟨g1, g2, g3, g4, lo, g5, g6, g7, g8, g9⟩
  unfold itoSt
  by_cases hi : i < m.length
  · have e2 : (i + 1).toNat = i.toNat + 1 := by omega
    have em := getD_map_at srC m i [] g1 hi
    rw [drop_cons m i.toNat (by omega), ← e2, List.map_cons] at g3 g4 g5
    simp only [intS, intT] at g3 g4
    obtain ⟨k1, k2, k3, k4⟩ := g5
    have k5 := k4.le
    have hpv := pv_bd k2 k3
    simp only [toPc] at g3 g4 k1 k2 k3 k5 hpv
    simp (maxSteps := 1000000) (disch := omega) only [go_sem, eq_self, decide_true, decide_false, not_true_eq_false, not_false_eq_true, reduceIte, reduceCtorEq, Nat.reduceEqDiff, Nat.reduceAdd, Nat.reduceSub, Nat.reduceLeDiff]
    refine CALL_det (rlong_fc (m.getD i.toNat default).f (m.getD i.toNat default).t (by omega) (by omega)) (.inl rfl) ?_
    simp (maxSteps := 1000000) (disch := omega) only [go_sem, eq_self, decide_true, decide_false, not_true_eq_false, not_false_eq_true, reduceIte, reduceCtorEq, Nat.reduceEqDiff, Nat.reduceAdd, Nat.reduceSub, Nat.reduceLeDiff]
    refine CALL_det (rlong_fc (m.getD i.toNat default).f (m.getD i.toNat default).t (by omega) (by omega)) (.inl rfl) ?_
    simp (maxSteps := 1000000) (disch := omega) only [go_sem, eq_self, decide_true, decide_false, not_true_eq_false, not_false_eq_true, reduceIte, reduceCtorEq, Nat.reduceEqDiff, Nat.reduceAdd, Nat.reduceSub, Nat.reduceLeDiff]
    exact ⟨_, _, _, rfl, ⟨by omega, by omega, by omega, by omega, _, k4, by omega, by simp only [toPc]; omega, by omega, by omega⟩, by omega⟩
  · rw [List.drop_eq_nil_of_le (by omega)] at g3 g4
    simp only [List.map_nil, intS, intT, Int.add_zero] at g3 g4
    rw [← g3, ← g4]
    simp (maxSteps := 1000000) (disch := omega) only [go_sem, eq_self, decide_true, decide_false, not_true_eq_false, not_false_eq_true, reduceIte, reduceCtorEq, Nat.reduceEqDiff, Nat.reduceAdd, Nat.reduceSub, Nat.reduceLeDiff]
theorem averageOf_fc (l : List Smp) (hs : serFault l = 0) (f t : Int) (hw : 0 ≤ f ∧ f ≤ t ∧ t ≤ 345686400000) : FC Try.prog 71 none [smps false l, winV f t] (fun _ r => r = if intT (vals f t l) = 0 then .tu [.ag (frC (0, 0)), bv false] else .tu [.ag (frC (lowN (intS (vals f t l)) (intT (vals f t l)), lowD (intS (vals f t l)) (intT (vals f t l)))), bv true]) := by
  refine fc_averageOf (by simp +arith) ?_
  have hb := int_bd (vals_chain hw.2.1 hs)
  unfold C_averageOf
  simp (maxSteps := 1000000) (disch := omega) only [go_sem, eq_self, decide_true, decide_false, not_true_eq_false, not_false_eq_true, reduceIte, reduceCtorEq, Nat.reduceEqDiff, Nat.reduceAdd, Nat.reduceSub, Nat.reduceLeDiff]
  refine CALL_det (integralOf_fc l hs f t hw) (.inl rfl) ?_
  by_cases h2 : intT (vals f t l) = 0
  · rw [if_pos h2]
    simp (maxSteps := 1000000) (disch := omega) only [go_sem, eq_self, decide_true, decide_false, not_true_eq_false, not_false_eq_true, reduceIte, reduceCtorEq, Nat.reduceEqDiff, Nat.reduceAdd, Nat.reduceSub, Nat.reduceLeDiff]
  · rw [if_neg h2]
    simp (maxSteps := 1000000) (disch := omega) only [go_sem, eq_self, decide_true, decide_false, not_true_eq_false, not_false_eq_true, reduceIte, reduceCtorEq, Nat.reduceEqDiff, Nat.reduceAdd, Nat.reduceSub, Nat.reduceLeDiff]
    refine CALL_det (lowest_fc _ _ (by omega) (by omega) (by omega)) (.inl rfl) ?_
    simp (maxSteps := 1000000) (disch := omega) only [go_sem, eq_self, decide_true, decide_false, not_true_eq_false, not_false_eq_true, reduceIte, reduceCtorEq, Nat.reduceEqDiff, Nat.reduceAdd, Nat.reduceSub, Nat.reduceLeDiff]
end Go.Proofs.Ytggbcgldnjmobaa

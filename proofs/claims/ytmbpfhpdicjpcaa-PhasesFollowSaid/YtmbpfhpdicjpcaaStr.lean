
/-
  The reference's stretches of a window, and its phases.
-/
import Derived.Test.YtmbpfhpdicjpcaaPha
namespace Go.Proofs.Ytmbpfhpdicjpcaa
open Go Go.Ai
set_option linter.unusedSimpArgs false
set_option linter.unusedVariables false
set_option maxHeartbeats 4000000
def A_del5 : List Ann := [⟨(some ⟨[0,1], [], [1000000]⟩), [], [], [], []⟩, ⟨(some ⟨[0,1,5], [], [1000000]⟩), [], [], [], []⟩, ⟨(some ⟨[0,1,5,12], [], [1000000]⟩), [], [], [], []⟩, ⟨(some ⟨[4], [], [1000000]⟩), [], [], [], []⟩, ⟨(some ⟨[0,1,5,6], [], [1000000]⟩), [], [], [], []⟩, ⟨(some ⟨[0,1,5,6,19], [], [1000000]⟩), [], [], [], []⟩, ⟨(some ⟨[0,1,5,6,7], [7], [1000000]⟩), [], [], [], []⟩, ⟨(some ⟨[0,1,5,6,7,29], [7], [1000000]⟩), [], [], [], []⟩, ⟨(some ⟨[0,1,5,6], [], [1000000]⟩), [], [], [], []⟩, ⟨(some ⟨[0,1,5,6], [], [1000000]⟩), [], [], [], []⟩, ⟨(some ⟨[0,1,5,6], [], [1000000]⟩), [], [], [], []⟩, ⟨(some ⟨[0,5], [], [1000000]⟩), [], [], [], [(38, ⟨[], [], [], []⟩)]⟩, ⟨(some ⟨[4], [], [1000000]⟩), [], [], [], [(41, ⟨[], [], [], []⟩)]⟩]
def C_del5 : AC := (.seq (.reg false [⟨(some 4), none, .mv (.v (.slice none 0 0))⟩] (some ⟨[0,1], [], [1000000]⟩))
  (.seq (.reg false [⟨(some 8), none, .mv (.t 0)⟩, ⟨(some 9), none, .mv (.t 1)⟩, ⟨(some 10), none, .call (.f 192) [(.t 8), (.t 9)]⟩, ⟨(some 5), none, .mv (.t 10)⟩] (some ⟨[0,1,5], [], [1000000]⟩))
  (.seq (.seq (.reg false [⟨(some 11), none, .mv (.t 5)⟩, ⟨(some 12), none, .bin .eql (.t 11) (.v (.int .i64 (-1)))⟩] (some ⟨[0,1,5,12], [], [1000000]⟩))
  (.cond (.t 12)
  (.seq (.reg false [⟨(some 13), none, .mv (.t 0)⟩, ⟨(some 4), none, .mv (.t 13)⟩] (some ⟨[4], [], [1000000]⟩))
  .ret)
  .skip))
  (.seq (.seq (.reg false [⟨(some 14), none, .mv (.t 5)⟩, ⟨(some 15), none, .bin .add (.t 14) (.v (.int .i64 (1)))⟩, ⟨(some 6), none, .mv (.t 15)⟩] (some ⟨[0,1,5,6], [], [1000000]⟩))
  (.block 0 (.loop (.seq (.seq (.reg false [⟨(some 16), none, .mv (.t 6)⟩, ⟨(some 17), none, .mv (.t 0)⟩, ⟨(some 18), none, .len (.t 17)⟩, ⟨(some 19), none, .bin .lss (.t 16) (.t 18)⟩] (some ⟨[0,1,5,6,19], [], [1000000]⟩))
  (.cond (.t 19)
  .skip
  (.exit 0)))
  (.seq (.block 1 (.seq (.reg false [⟨(some 22), none, .mv (.t 0)⟩, ⟨(some 23), none, .mv (.t 6)⟩, ⟨(some 24), none, .iadr 5 (.t 22) (.t 23)⟩, ⟨(some 25), none, .load true 5 (.t 24)⟩, ⟨(some 7), none, .alloc [(.int .i64 (0)), (.int .i64 (0)), (.int .i64 (0)), (.int .i64 (0)), (.int .i64 (0))]⟩, ⟨none, none, .store 5 (.t 7) (.t 25)⟩] (some ⟨[0,1,5,6,7], [7], [1000000]⟩))
  (.seq (.reg false [⟨(some 26), none, .mv (.t 1)⟩, ⟨(some 27), none, .load true 5 (.t 7)⟩, ⟨(some 28), none, .call (.t 26) [(.t 27)]⟩, ⟨(some 29), none, .un .not (.t 28)⟩] (some ⟨[0,1,5,6,7,29], [7], [1000000]⟩))
  (.cond (.t 29)
  (.seq (.reg false [⟨(some 30), none, .mv (.t 0)⟩, ⟨(some 31), none, .mv (.t 5)⟩, ⟨(some 32), none, .load true 5 (.t 7)⟩, ⟨(some 33), none, .iadr 5 (.t 30) (.t 31)⟩, ⟨none, none, .store 5 (.t 33) (.t 32)⟩] (some ⟨[0,1,5,6], [], [1000000]⟩))
  (.reg false [⟨(some 34), none, .mv (.t 5)⟩, ⟨(some 35), none, .bin .add (.t 34) (.v (.int .i64 (1)))⟩, ⟨(some 5), none, .mv (.t 35)⟩] (some ⟨[0,1,5,6], [], [1000000]⟩)))
  .skip))))
  (.reg false [⟨(some 20), none, .mv (.t 6)⟩, ⟨(some 21), none, .bin .add (.t 20) (.v (.int .i64 (1)))⟩, ⟨(some 6), none, .mv (.t 21)⟩] (some ⟨[0,1,5,6], [], [1000000]⟩)))))))
  (.seq (.reg false [⟨(some 36), none, .mv (.t 0)⟩, ⟨(some 37), none, .mv (.t 5)⟩, ⟨(some 38), none, .sfx 5 (.t 36) (.t 37)⟩, ⟨none, none, .clr 196 5 [(.int .i64 (0)), (.int .i64 (0)), (.int .i64 (0)), (.int .i64 (0)), (.int .i64 (0))] (.t 38)⟩] (some ⟨[0,5], [], [1000000]⟩))
  (.seq (.reg false [⟨(some 39), none, .mv (.t 0)⟩, ⟨(some 40), none, .mv (.t 5)⟩, ⟨(some 41), none, .trn 5 (.t 39) (.t 40)⟩, ⟨(some 4), none, .mv (.t 41)⟩] (some ⟨[4], [], [1000000]⟩))
  .ret))))))
theorem c_del5 : compileCode Try.prog Try.f179.ntmps (Try.f179.body.getD .skip) A_del5 = some (C_del5, []) := by kernel_rfl
theorem r_del5 : compileRes Try.prog Try.f179.results.toList = some [.t 4] := by kernel_rfl
theorem b_del5 : Try.f179.body = some (Try.f179.body.getD .skip) := by kernel_rfl
theorem n_del5 : (Try.f179.name == "runtime.NumGoroutine") = false := by kernel_rfl
theorem fcm_del5 {H : Hp} {K : Keep} {args : List Val} {R : Hp → Val → Prop} (hn : args.length ≤ Try.f179.ntmps) (hkb : ∀ p ∈ H.bs, p.1 = 0 ∨ XK ≤ p.1) (hkr : ∀ p ∈ H.rs, XK ≤ p.1) (h : ex Try.prog C_del5 [] (mpost H K [.t 4] R) (initM H args)) : FCM Try.prog 179 H args R :=
  fcm_of_awp Try.func179 b_del5 n_del5 c_del5 r_del5 (of_decide_eq_true (by kernel_rfl)) hn hkb hkr h

def A_idx5 : List Ann := [⟨(some ⟨[0,1], [], []⟩), [], [], [], []⟩, ⟨(some ⟨[0,1,7,8], [], []⟩), [], [], [], []⟩, ⟨(some ⟨[0,1,7,8,9], [], []⟩), [], [], [], []⟩, ⟨(some ⟨[0,1,5,7,8], [], []⟩), [], [], [], []⟩, ⟨(some ⟨[0,1,5,7,8,16], [], []⟩), [], [], [], []⟩, ⟨(some ⟨[4], [], []⟩), [], [], [], []⟩, ⟨(some ⟨[0,1,7,8], [], []⟩), [], [], [], []⟩, ⟨(some ⟨[4], [], []⟩), [], [], [], []⟩]
def C_idx5 : AC := (.seq (.reg false [⟨(some 4), none, .mv (.v (.int .i64 (0)))⟩] (some ⟨[0,1], [], []⟩))
  (.seq (.seq (.reg false [⟨(some 6), none, .mv (.t 0)⟩, ⟨(some 7), none, .len (.t 6)⟩, ⟨(some 8), none, .mv (.v (.int .i64 (0)))⟩] (some ⟨[0,1,7,8], [], []⟩))
  (.block 0 (.loop (.seq (.reg false [⟨(some 9), none, .bin .lss (.t 8) (.t 7)⟩] (some ⟨[0,1,7,8,9], [], []⟩))
  (.seq (.cond (.t 9)
  .skip
  (.exit 0))
  (.seq (.block 1 (.seq (.reg false [⟨(some 10), none, .mv (.t 8)⟩, ⟨(some 5), none, .mv (.t 10)⟩] (some ⟨[0,1,5,7,8], [], []⟩))
  (.seq (.reg false [⟨(some 11), none, .mv (.t 1)⟩, ⟨(some 12), none, .mv (.t 0)⟩, ⟨(some 13), none, .mv (.t 5)⟩, ⟨(some 14), none, .iadr 5 (.t 12) (.t 13)⟩, ⟨(some 15), none, .load true 5 (.t 14)⟩, ⟨(some 16), none, .call (.t 11) [(.t 15)]⟩] (some ⟨[0,1,5,7,8,16], [], []⟩))
  (.cond (.t 16)
  (.seq (.reg false [⟨(some 17), none, .mv (.t 5)⟩, ⟨(some 4), none, .mv (.t 17)⟩] (some ⟨[4], [], []⟩))
  .ret)
  .skip))))
  (.reg false [⟨(some 18), none, .bin .add (.t 8) (.v (.int .i64 (1)))⟩, ⟨(some 8), none, .mv (.t 18)⟩] (some ⟨[0,1,7,8], [], []⟩))))))))
  (.seq (.reg false [⟨(some 4), none, .mv (.v (.int .i64 (-1)))⟩] (some ⟨[4], [], []⟩))
  .ret)))
theorem c_idx5 : compileCode Try.prog Try.f192.ntmps (Try.f192.body.getD .skip) A_idx5 = some (C_idx5, []) := by kernel_rfl
theorem r_idx5 : compileRes Try.prog Try.f192.results.toList = some [.t 4] := by kernel_rfl
theorem b_idx5 : Try.f192.body = some (Try.f192.body.getD .skip) := by kernel_rfl
theorem n_idx5 : (Try.f192.name == "runtime.NumGoroutine") = false := by kernel_rfl
theorem fc_idx5 {xt : Option (List Cel)} {args : List Val} {R : List Cel → Val → Prop} (hn : (if xt.isSome then 1 else 0) + args.length ≤ Try.f192.ntmps) (h : ex Try.prog C_idx5 [] (fpost xt [.t 4] R) (initSt xt args)) : FC Try.prog 192 xt args R :=
  fc_of_awp Try.func192 b_idx5 n_idx5 c_idx5 r_idx5 (of_decide_eq_true (by kernel_rfl)) hn h

def A_rvalClos : List Ann := [⟨(some ⟨[1], [1], []⟩), [], [], [], []⟩, ⟨(some ⟨[2], [], []⟩), [], [], [], []⟩]
def C_rvalClos : AC := (.seq (.reg false [⟨(some 1), none, .box (.t 0)⟩, ⟨(some 2), none, .mv (.v (.bool false))⟩] (some ⟨[1], [1], []⟩))
  (.seq (.reg false [⟨(some 3), none, .fadr 2 (.t 1)⟩, ⟨(some 4), none, .fadr 2 (.t 3)⟩, ⟨(some 5), none, .load false 1 (.t 4)⟩, ⟨(some 6), none, .bin .eql (.t 5) (.v (.int .i64 (2)))⟩, ⟨(some 2), none, .mv (.t 6)⟩] (some ⟨[2], [], []⟩))
  .ret))
theorem c_rvalClos : compileCode Try.prog Try.f181.ntmps (Try.f181.body.getD .skip) A_rvalClos = some (C_rvalClos, []) := by kernel_rfl
theorem r_rvalClos : compileRes Try.prog Try.f181.results.toList = some [.t 2] := by kernel_rfl
theorem b_rvalClos : Try.f181.body = some (Try.f181.body.getD .skip) := by kernel_rfl
theorem n_rvalClos : (Try.f181.name == "runtime.NumGoroutine") = false := by kernel_rfl
theorem fc_rvalClos {xt : Option (List Cel)} {args : List Val} {R : List Cel → Val → Prop} (hn : (if xt.isSome then 1 else 0) + args.length ≤ Try.f181.ntmps) (h : ex Try.prog C_rvalClos [] (fpost xt [.t 2] R) (initSt xt args)) : FC Try.prog 181 xt args R :=
  fc_of_awp Try.func181 b_rvalClos n_rvalClos c_rvalClos r_rvalClos (of_decide_eq_true (by kernel_rfl)) hn h

def A_stretches : List Ann := [⟨(some ⟨[0,3], [3], [5]⟩), [], [], [], []⟩, ⟨(some ⟨[0,3,5], [3], []⟩), [(5, 196, 5)], [], [], []⟩, ⟨(some ⟨[0,3,5,9,10,11], [3], [5]⟩), [], [], [], []⟩, ⟨(some ⟨[0,3,5,9,10,11,12], [3], [5]⟩), [], [], [], []⟩, ⟨(some ⟨[0,3,5,6,7,9,10,11], [3,7], [5]⟩), [], [], [], []⟩, ⟨(some ⟨[0,3,5,6,7,8,9,10,11], [3,7,8], [5]⟩), [], [], [], []⟩, ⟨(some ⟨[0,3,5,6,7,8,9,10,11,28], [3,7,8], [5]⟩), [], [], [], []⟩, ⟨(some ⟨[0,3,5,7,8,9,10,11], [3,7,8], [5]⟩), [], [], [], []⟩, ⟨(some ⟨[0,3,5,7,8,9,10,11,43], [3,7,8], [5]⟩), [], [], [], []⟩, ⟨(some ⟨[0,3,5,9,10,11], [3], [5]⟩), [], [], [], []⟩, ⟨(some ⟨[0,3,5,9,10,11], [3], [5]⟩), [], [], [], []⟩, ⟨(some ⟨[4], [], [5]⟩), [], [], [], []⟩]
def C_stretches : AC := (.seq (.reg false [⟨(some 3), none, .box (.t 1)⟩, ⟨(some 4), none, .mv (.v (.slice none 0 0))⟩] (some ⟨[0,3], [3], [5]⟩))
  (.seq (.seq (.reg false [⟨(some 5), none, .mv (.v (.slice none 0 0))⟩] (some ⟨[0,3,5], [3], []⟩))
  (.own 5 196 5))
  (.seq (.seq (.reg false [⟨(some 9), none, .mv (.t 0)⟩, ⟨(some 10), none, .len (.t 9)⟩, ⟨(some 11), none, .mv (.v (.int .i64 (0)))⟩] (some ⟨[0,3,5,9,10,11], [3], [5]⟩))
  (.block 0 (.loop (.seq (.reg false [⟨(some 12), none, .bin .lss (.t 11) (.t 10)⟩] (some ⟨[0,3,5,9,10,11,12], [3], [5]⟩))
  (.seq (.cond (.t 12)
  .skip
  (.exit 0))
  (.seq (.block 1 (.seq (.reg false [⟨(some 13), none, .mv (.t 11)⟩, ⟨(some 14), none, .iadr 3 (.t 9) (.t 11)⟩, ⟨(some 15), none, .load true 3 (.t 14)⟩, ⟨(some 7), none, .alloc [(.int .i64 (0)), (.int .i64 (0)), (.int .i64 (0))]⟩, ⟨(some 6), none, .mv (.t 13)⟩, ⟨none, none, .store 3 (.t 7) (.t 15)⟩] (some ⟨[0,3,5,6,7,9,10,11], [3,7], [5]⟩))
  (.seq (.reg false [⟨(some 16), none, .fadr 0 (.t 7)⟩, ⟨(some 17), none, .load false 1 (.t 16)⟩, ⟨(some 18), none, .fadr 0 (.t 3)⟩, ⟨(some 19), none, .load false 1 (.t 18)⟩, ⟨(some 20), none, .mnx true (.t 17) (.t 19)⟩, ⟨(some 21), none, .fadr 1 (.t 3)⟩, ⟨(some 22), none, .load false 1 (.t 21)⟩, ⟨(some 23), none, .build [(.int .i64 (0)), (.int .i64 (0))] [(0, 1, (.t 20)), (1, 1, (.t 22))]⟩, ⟨(some 8), none, .alloc [(.int .i64 (0)), (.int .i64 (0))]⟩, ⟨none, none, .store 2 (.t 8) (.t 23)⟩] (some ⟨[0,3,5,6,7,8,9,10,11], [3,7,8], [5]⟩))
  (.seq (.seq (.reg false [⟨(some 24), none, .mv (.t 6)⟩, ⟨(some 25), none, .bin .add (.t 24) (.v (.int .i64 (1)))⟩, ⟨(some 26), none, .mv (.t 0)⟩, ⟨(some 27), none, .len (.t 26)⟩, ⟨(some 28), none, .bin .lss (.t 25) (.t 27)⟩] (some ⟨[0,3,5,6,7,8,9,10,11,28], [3,7,8], [5]⟩))
  (.cond (.t 28)
  (.reg true [⟨(some 29), none, .fadr 1 (.t 8)⟩, ⟨(some 30), none, .load false 1 (.t 29)⟩, ⟨(some 31), none, .mv (.t 0)⟩, ⟨(some 32), none, .mv (.t 6)⟩, ⟨(some 33), none, .bin .add (.t 32) (.v (.int .i64 (1)))⟩, ⟨(some 34), none, .iadr 3 (.t 31) (.t 33)⟩, ⟨(some 35), none, .fadr 0 (.t 34)⟩, ⟨(some 36), none, .load false 1 (.t 35)⟩, ⟨(some 37), none, .mnx false (.t 30) (.t 36)⟩, ⟨(some 38), none, .fadr 1 (.t 8)⟩, ⟨none, none, .store 1 (.t 38) (.t 37)⟩] (some ⟨[0,3,5,7,8,9,10,11], [3,7,8], [5]⟩))
  .skip))
  (.seq (.reg false [⟨(some 39), none, .fadr 0 (.t 8)⟩, ⟨(some 40), none, .load false 1 (.t 39)⟩, ⟨(some 41), none, .fadr 1 (.t 8)⟩, ⟨(some 42), none, .load false 1 (.t 41)⟩, ⟨(some 43), none, .bin .lss (.t 40) (.t 42)⟩] (some ⟨[0,3,5,7,8,9,10,11,43], [3,7,8], [5]⟩))
  (.cond (.t 43)
  (.reg false [⟨(some 44), none, .mv (.t 5)⟩, ⟨(some 45), none, .load true 2 (.t 8)⟩, ⟨(some 46), none, .load true 3 (.t 7)⟩, ⟨(some 47), none, .build [(.int .i64 (0)), (.int .i64 (0)), (.int .i64 (0)), (.int .i64 (0)), (.int .i64 (0))] [(0, 2, (.t 45)), (2, 3, (.t 46))]⟩, ⟨(some 48), none, .bslice 5 1 [(.t 47)]⟩, ⟨(some 49), none, .append 196 5 40 (.t 44) (.t 48)⟩, ⟨(some 5), none, .mv (.t 49)⟩] (some ⟨[0,3,5,9,10,11], [3], [5]⟩))
  .skip))))))
  (.reg false [⟨(some 50), none, .bin .add (.t 11) (.v (.int .i64 (1)))⟩, ⟨(some 11), none, .mv (.t 50)⟩] (some ⟨[0,3,5,9,10,11], [3], [5]⟩))))))))
  (.seq (.reg false [⟨(some 51), none, .mv (.t 5)⟩, ⟨(some 4), none, .mv (.t 51)⟩] (some ⟨[4], [], [5]⟩))
  .ret))))
theorem c_stretches : compileCode Try.prog Try.f180.ntmps (Try.f180.body.getD .skip) A_stretches = some (C_stretches, []) := by kernel_rfl
theorem r_stretches : compileRes Try.prog Try.f180.results.toList = some [.t 4] := by kernel_rfl
theorem b_stretches : Try.f180.body = some (Try.f180.body.getD .skip) := by kernel_rfl
theorem n_stretches : (Try.f180.name == "runtime.NumGoroutine") = false := by kernel_rfl
theorem fc_stretches {xt : Option (List Cel)} {args : List Val} {R : List Cel → Val → Prop} (hn : (if xt.isSome then 1 else 0) + args.length ≤ Try.f180.ntmps) (h : ex Try.prog C_stretches [] (fpost xt [.t 4] R) (initSt xt args)) : FC Try.prog 180 xt args R :=
  fc_of_awp Try.func180 b_stretches n_stretches c_stretches r_stretches (of_decide_eq_true (by kernel_rfl)) hn h
theorem fcm_stretches {H : Hp} {K : Keep} {args : List Val} {R : Hp → Val → Prop} (hn : args.length ≤ Try.f180.ntmps) (hkb : ∀ p ∈ H.bs, p.1 = 0 ∨ XK ≤ p.1) (hkr : ∀ p ∈ H.rs, XK ≤ p.1) (h : ex Try.prog C_stretches [] (mpost H K [.t 4] R) (initM H args)) : FCM Try.prog 180 H args R :=
  fcm_of_awp Try.func180 b_stretches n_stretches c_stretches r_stretches (of_decide_eq_true (by kernel_rfl)) hn hkb hkr h

def A_rvalued : List Ann := [⟨(some ⟨[0,3], [3], []⟩), [], [], [], []⟩, ⟨(some ⟨[4], [], []⟩), [], [], [], [(7, ⟨[], [], [], [5]⟩), (8, ⟨[], [5], [], [5]⟩)]⟩]
def C_rvalued : AC := (.seq (.reg false [⟨(some 3), none, .box (.t 1)⟩, ⟨(some 4), none, .mv (.v (.slice none 0 0))⟩] (some ⟨[0,3], [3], []⟩))
  (.seq (.reg false [⟨(some 5), none, .mv (.t 0)⟩, ⟨(some 6), none, .load true 2 (.t 3)⟩, ⟨(some 7), none, .callm (.f 180) [(.t 5), (.t 6)] ⟨[], [], [], [5]⟩⟩, ⟨(some 8), none, .callm (.f 179) [(.t 7), (.f 181)] ⟨[], [5], [], [5]⟩⟩, ⟨(some 4), none, .mv (.t 8)⟩] (some ⟨[4], [], []⟩))
  .ret))
theorem c_rvalued : compileCode Try.prog Try.f149.ntmps (Try.f149.body.getD .skip) A_rvalued = some (C_rvalued, []) := by kernel_rfl
theorem r_rvalued : compileRes Try.prog Try.f149.results.toList = some [.t 4] := by kernel_rfl
theorem b_rvalued : Try.f149.body = some (Try.f149.body.getD .skip) := by kernel_rfl
theorem n_rvalued : (Try.f149.name == "runtime.NumGoroutine") = false := by kernel_rfl
theorem fc_rvalued {xt : Option (List Cel)} {args : List Val} {R : List Cel → Val → Prop} (hn : (if xt.isSome then 1 else 0) + args.length ≤ Try.f149.ntmps) (h : ex Try.prog C_rvalued [] (fpost xt [.t 4] R) (initSt xt args)) : FC Try.prog 149 xt args R :=
  fc_of_awp Try.func149 b_rvalued n_rvalued c_rvalued r_rvalued (of_decide_eq_true (by kernel_rfl)) hn h
theorem fcm_rvalued {H : Hp} {K : Keep} {args : List Val} {R : Hp → Val → Prop} (hn : args.length ≤ Try.f149.ntmps) (hkb : ∀ p ∈ H.bs, p.1 = 0 ∨ XK ≤ p.1) (hkr : ∀ p ∈ H.rs, XK ≤ p.1) (h : ex Try.prog C_rvalued [] (mpost H K [.t 4] R) (initM H args)) : FCM Try.prog 149 H args R :=
  fcm_of_awp Try.func149 b_rvalued n_rvalued c_rvalued r_rvalued (of_decide_eq_true (by kernel_rfl)) hn hkb hkr h

def A_phasesOf : List Ann := [⟨(some ⟨[0,3], [3], []⟩), [], [], [], []⟩, ⟨(some ⟨[0,3,5], [3], []⟩), [(5, 138, 3)], [], [], []⟩, ⟨(some ⟨[5,11,12,13], [], [5]⟩), [], [], [], []⟩, ⟨(some ⟨[5,11,12,13,14], [], [5]⟩), [], [], [], []⟩, ⟨(some ⟨[5,7,11,12,13], [7], [5]⟩), [], [], [], []⟩, ⟨(some ⟨[5,7,11,12,13,21], [7], [5]⟩), [], [], [], []⟩, ⟨(some ⟨[5,7,8,11,12,13], [7], [5]⟩), [], [], [], []⟩, ⟨(some ⟨[5,7,8,11,12,13,50], [7], [5]⟩), [], [], [], []⟩, ⟨(some ⟨[5,11,12,13], [], [5]⟩), [], [], [], []⟩, ⟨(some ⟨[5,11,12,13], [], [5]⟩), [], [], [], []⟩, ⟨(some ⟨[5,11,12,13], [], [5]⟩), [], [], [], []⟩, ⟨(some ⟨[4], [], []⟩), [], [], [], []⟩]
def C_phasesOf : AC := (.seq (.reg false [⟨(some 3), none, .box (.t 1)⟩, ⟨(some 4), none, .mv (.v (.slice none 0 0))⟩] (some ⟨[0,3], [3], []⟩))
  (.seq (.seq (.reg false [⟨(some 5), none, .mv (.v (.slice none 0 0))⟩] (some ⟨[0,3,5], [3], []⟩))
  (.own 5 138 3))
  (.seq (.seq (.reg false [⟨(some 9), none, .mv (.t 0)⟩, ⟨(some 10), none, .load true 2 (.t 3)⟩, ⟨(some 11), none, .call (.f 149) [(.t 9), (.t 10)]⟩, ⟨(some 12), none, .len (.t 11)⟩, ⟨(some 13), none, .mv (.v (.int .i64 (0)))⟩] (some ⟨[5,11,12,13], [], [5]⟩))
  (.block 0 (.loop (.seq (.reg false [⟨(some 14), none, .bin .lss (.t 13) (.t 12)⟩] (some ⟨[5,11,12,13,14], [], [5]⟩))
  (.seq (.cond (.t 14)
  .skip
  (.exit 0))
  (.seq (.block 1 (.seq (.reg false [⟨(some 15), none, .iadr 5 (.t 11) (.t 13)⟩, ⟨(some 16), none, .load true 5 (.t 15)⟩, ⟨(some 7), none, .alloc [(.int .i64 (0)), (.int .i64 (0)), (.int .i64 (0)), (.int .i64 (0)), (.int .i64 (0))]⟩, ⟨none, none, .store 5 (.t 7) (.t 16)⟩] (some ⟨[5,7,11,12,13], [7], [5]⟩))
  (.seq (.seq (.reg false [⟨(some 17), none, .fadr 2 (.t 7)⟩, ⟨(some 18), none, .fadr 1 (.t 17)⟩, ⟨(some 19), none, .load false 1 (.t 18)⟩, ⟨(some 20), none, .call (.f 95) [(.t 19), (.v (.int .i64 (0))), (.v (.int .i64 (1000)))]⟩, ⟨(some 21), none, .un .not (.t 20)⟩] (some ⟨[5,7,11,12,13,21], [7], [5]⟩))
  (.cond (.t 21)
  (.exit 1)
  .skip))
  (.seq (.seq (.reg false [⟨(some 22), none, .mv (.t 5)⟩, ⟨(some 23), none, .len (.t 22)⟩, ⟨(some 8), none, .mv (.t 23)⟩] (some ⟨[5,7,8,11,12,13], [7], [5]⟩))
  (.seq (.reg true [⟨(some 24), none, .mv (.t 8)⟩, ⟨(some 25), none, .bin .gtr (.t 24) (.v (.int .i64 (0)))⟩, ⟨(some 26), none, .mv (.t 25)⟩, ⟨(some 27), (some (26, true)), .mv (.t 5)⟩, ⟨(some 28), (some (26, true)), .mv (.t 8)⟩, ⟨(some 29), (some (26, true)), .bin .sub (.t 28) (.v (.int .i64 (1)))⟩, ⟨(some 30), (some (26, true)), .iadr 3 (.t 27) (.t 29)⟩, ⟨(some 31), (some (26, true)), .fadr 0 (.t 30)⟩, ⟨(some 32), (some (26, true)), .load false 1 (.t 31)⟩, ⟨(some 33), (some (26, true)), .fadr 2 (.t 7)⟩, ⟨(some 34), (some (26, true)), .fadr 1 (.t 33)⟩, ⟨(some 35), (some (26, true)), .load false 1 (.t 34)⟩, ⟨(some 36), (some (26, true)), .bin .eql (.t 32) (.t 35)⟩, ⟨(some 37), none, .pick (.t 26) (.t 36) (.v (.bool false))⟩, ⟨(some 38), none, .mv (.t 37)⟩, ⟨(some 39), (some (38, true)), .mv (.t 5)⟩, ⟨(some 40), (some (38, true)), .mv (.t 8)⟩, ⟨(some 41), (some (38, true)), .bin .sub (.t 40) (.v (.int .i64 (1)))⟩, ⟨(some 42), (some (38, true)), .iadr 3 (.t 39) (.t 41)⟩, ⟨(some 43), (some (38, true)), .fadr 1 (.t 42)⟩, ⟨(some 44), (some (38, true)), .fadr 1 (.t 43)⟩, ⟨(some 45), (some (38, true)), .load false 1 (.t 44)⟩, ⟨(some 46), (some (38, true)), .fadr 0 (.t 7)⟩, ⟨(some 47), (some (38, true)), .fadr 0 (.t 46)⟩, ⟨(some 48), (some (38, true)), .load false 1 (.t 47)⟩, ⟨(some 49), (some (38, true)), .bin .eql (.t 45) (.t 48)⟩, ⟨(some 50), none, .pick (.t 38) (.t 49) (.v (.bool false))⟩] (some ⟨[5,7,8,11,12,13,50], [7], [5]⟩))
  (.cond (.t 50)
  (.seq (.reg false [⟨(some 51), none, .mv (.t 5)⟩, ⟨(some 52), none, .mv (.t 8)⟩, ⟨(some 53), none, .bin .sub (.t 52) (.v (.int .i64 (1)))⟩, ⟨(some 54), none, .fadr 0 (.t 7)⟩, ⟨(some 55), none, .fadr 1 (.t 54)⟩, ⟨(some 56), none, .load false 1 (.t 55)⟩, ⟨(some 57), none, .iadr 3 (.t 51) (.t 53)⟩, ⟨(some 58), none, .fadr 1 (.t 57)⟩, ⟨(some 59), none, .fadr 1 (.t 58)⟩, ⟨none, none, .store 1 (.t 59) (.t 56)⟩] (some ⟨[5,11,12,13], [], [5]⟩))
  (.exit 1))
  .skip)))
  (.reg false [⟨(some 60), none, .mv (.t 5)⟩, ⟨(some 61), none, .fadr 2 (.t 7)⟩, ⟨(some 62), none, .fadr 1 (.t 61)⟩, ⟨(some 63), none, .load false 1 (.t 62)⟩, ⟨(some 64), none, .fadr 0 (.t 7)⟩, ⟨(some 65), none, .load true 2 (.t 64)⟩, ⟨(some 66), none, .build [(.int .i64 (0)), (.int .i64 (0)), (.int .i64 (0))] [(0, 1, (.t 63)), (1, 2, (.t 65))]⟩, ⟨(some 67), none, .bslice 3 1 [(.t 66)]⟩, ⟨(some 68), none, .append 138 3 24 (.t 60) (.t 67)⟩, ⟨(some 5), none, .mv (.t 68)⟩] (some ⟨[5,11,12,13], [], [5]⟩))))))
  (.reg false [⟨(some 69), none, .bin .add (.t 13) (.v (.int .i64 (1)))⟩, ⟨(some 13), none, .mv (.t 69)⟩] (some ⟨[5,11,12,13], [], [5]⟩))))))))
  (.seq (.reg false [⟨(some 70), none, .mv (.t 5)⟩, ⟨(some 4), none, .mv (.t 70)⟩] (some ⟨[4], [], []⟩))
  .ret))))
theorem c_phasesOf : compileCode Try.prog Try.f86.ntmps (Try.f86.body.getD .skip) A_phasesOf = some (C_phasesOf, []) := by kernel_rfl
theorem r_phasesOf : compileRes Try.prog Try.f86.results.toList = some [.t 4] := by kernel_rfl
theorem b_phasesOf : Try.f86.body = some (Try.f86.body.getD .skip) := by kernel_rfl
theorem n_phasesOf : (Try.f86.name == "runtime.NumGoroutine") = false := by kernel_rfl
theorem fc_phasesOf {xt : Option (List Cel)} {args : List Val} {R : List Cel → Val → Prop} (hn : (if xt.isSome then 1 else 0) + args.length ≤ Try.f86.ntmps) (h : ex Try.prog C_phasesOf [] (fpost xt [.t 4] R) (initSt xt args)) : FC Try.prog 86 xt args R :=
  fc_of_awp Try.func86 b_phasesOf n_phasesOf c_phasesOf r_phasesOf (of_decide_eq_true (by kernel_rfl)) hn h


/-- A stretch: its window, and the sample that counts in it. -/
structure Sr where
  f : Int
  t : Int
  a : Int
  v : Int
  q : Int
  deriving Inhabited
def srC (x : Sr) : List Cel := [.g (.int .i64 x.f), .g (.int .i64 x.t), .g (.int .i64 x.a), .g (.int .i64 x.v), .g (.int .i64 x.q)]
theorem srC_eq (x : Sr) : srC x = [.g (.int .i64 x.f), .g (.int .i64 x.t), .g (.int .i64 x.a), .g (.int .i64 x.v), .g (.int .i64 x.q)] := (rfl)
theorem frE_sr (l : List Sr) : frE (l.map srC) = true := frE_map (fun _ => rfl) l
theorem datE_sr (l : List Sr) : datE (l.map srC) = l.map srC := datE_map (fun _ => rfl) l
theorem tofE_sr (l : List Sr) : tofE (l.map srC) = l.map srC := tofE_map (fun _ => rfl) l
attribute [go_sem] srC_eq frE_sr datE_sr tofE_sr
abbrev srsV (fr : Bool) (l : List Sr) : Val := .one (.sl fr 5 (l.map srC))
def ix5St (cl : FuncId) (l : List Sr) (i : Int) : AS := ⟨tabV [(0, srsV false l), (1, .one (.fn cl [])), (7, iv l.length), (8, iv i)], tabO [], tabO []⟩
theorem idx5_fc (cl : FuncId) (p : Sr → Bool) (l : List Sr) (hl : l.length ≤ 1000000) (hcl : ∀ x, FC Try.prog cl none [.ag (srC x)] (fun _ r => r = bv (p x))) : FC Try.prog 192 none [srsV false l, .one (.fn cl [])] (fun _ r => r = iv (idxG p 0 l)) := by
  refine fc_idx5 (by simp +arith) ?_
  unfold C_idx5
  simp (maxSteps := 1000000) (disch := omega) only [go_sem, eq_self, decide_true, decide_false, not_true_eq_false, not_false_eq_true, reduceIte, reduceCtorEq, Nat.reduceEqDiff, Nat.reduceAdd, Nat.reduceSub, Nat.reduceLeDiff]
  refine ex_loop1 (ix5St cl l) (fun i => 0 ≤ i ∧ i ≤ l.length ∧ idxG p i (l.drop i.toNat) = idxG p 0 l) (fun i => (l.length - i).toNat) 0 ⟨by omega, by omega, rfl⟩ rfl ?_
  rintro i ⟨g1, g2, g3⟩
  unfold ix5St
  by_cases hi : i < l.length
  · rw [drop_cons l i.toNat (by omega), idxG] at g3
    have e2 : (i + 1).toNat = i.toNat + 1 := by omega
    simp (maxSteps := 1000000) (disch := omega) only [go_sem, eq_self, decide_true, decide_false, not_true_eq_false, not_false_eq_true, reduceIte, reduceCtorEq, Nat.reduceEqDiff, Nat.reduceAdd, Nat.reduceSub, Nat.reduceLeDiff]
    refine CALL_det (hcl _) (.inl rfl) ?_
    cases h : p (l.getD i.toNat default) with
    | true => rw [h, if_pos rfl] at g3; simp (maxSteps := 1000000) (disch := omega) only [go_sem, eq_self, decide_true, decide_false, not_true_eq_false, not_false_eq_true, reduceIte, reduceCtorEq, Nat.reduceEqDiff, Nat.reduceAdd, Nat.reduceSub, Nat.reduceLeDiff]; rw [← g3]
    | false =>
      rw [h, if_neg (by simp)] at g3
      simp (maxSteps := 1000000) (disch := omega) only [go_sem, eq_self, decide_true, decide_false, not_true_eq_false, not_false_eq_true, reduceIte, reduceCtorEq, Nat.reduceEqDiff, Nat.reduceAdd, Nat.reduceSub, Nat.reduceLeDiff]
      exact ⟨_, rfl, ⟨by omega, by omega, by rw [e2]; exact g3⟩, by omega⟩
  · rw [List.drop_eq_nil_of_le (by omega), idxG] at g3
    simp (maxSteps := 1000000) (disch := omega) only [go_sem, eq_self, decide_true, decide_false, not_true_eq_false, not_false_eq_true, reduceIte, reduceCtorEq, Nat.reduceEqDiff, Nat.reduceAdd, Nat.reduceSub, Nat.reduceLeDiff]
    rw [← g3]
abbrev srRow (l : List Sr) : Row := ⟨0, 196, 5, l.map srC⟩
def dl5St (cl : FuncId) (j k : Int) (cur : List Sr) : AS := ⟨tabV [(0, .one (.ow 1000000 0)), (1, .one (.fn cl [])), (5, iv j), (6, iv k)], tabO [], tabO [(1000000, srRow cur)]⟩
theorem del5_fcm (cl : FuncId) (p : Sr → Bool) (l : List Sr) (hl : l.length ≤ 1000000) (hcl : ∀ x, FC Try.prog cl none [.ag (srC x)] (fun _ r => r = bv (p x))) :
    FCM Try.prog 179 ⟨[], [(1000000, srRow l)]⟩ [.one (.ow 1000000 0), .one (.fn cl [])] (fun H r => H = ⟨[], [(1000000, srRow (l.filter fun x => !p x))]⟩ ∧ r = .one (.ow 1000000 0)) := by
  refine fcm_del5 (K := ⟨[], [], [1000000]⟩) (by simp +arith) (by simp) (by simp [XK]) ?_
  unfold C_del5
  simp (maxSteps := 1000000) (disch := omega) only [go_sem, eq_self, decide_true, decide_false, not_true_eq_false, not_false_eq_true, reduceIte, reduceCtorEq, Nat.reduceEqDiff, Nat.reduceAdd, Nat.reduceSub, Nat.reduceLeDiff]
  refine CALL_det (idx5_fc cl p l hl hcl) (.inl rfl) ?_
  rcases idxG_spec p l 0 (by omega) with ⟨h1, h2⟩ | ⟨h1, h2, h3, h4⟩
  · rw [h1]
    rw [filter_none h2]
    simp (maxSteps := 1000000) (disch := omega) only [go_sem, eq_self, decide_true, decide_false, not_true_eq_false, not_false_eq_true, reduceIte, reduceCtorEq, Nat.reduceEqDiff, Nat.reduceAdd, Nat.reduceSub, Nat.reduceLeDiff]
  · generalize idxG p 0 l = i at *
    rw [show (i - 0).toNat = i.toNat by omega] at h3
    have h5 := DelI.start h1 (by omega) h3 (fun j hj => h4 j (by omega))
    simp (maxSteps := 1000000) (disch := omega) only [go_sem, eq_self, decide_true, decide_false, not_true_eq_false, not_false_eq_true, reduceIte, reduceCtorEq, Nat.reduceEqDiff, Nat.reduceAdd, Nat.reduceSub, Nat.reduceLeDiff]
    refine ex_loop3 (dl5St cl) (DelI p l) (fun _ k _ => (l.length - k).toNat) i (i + 1) l h5 rfl ?_
    rintro j k cur hI
    have i1 := hI.j0
    have i2 := hI.jk
    have i3 := hI.kn
    have i4 := hI.len
    unfold dl5St
    by_cases hk : k < l.length
    · have eat := hI.at hk
      have ek := getD_map_at srC cur k [] (by omega) (by omega)
      have ej := getE_map_in srC cur j.toNat (by omega)
      simp (maxSteps := 1000000) (disch := omega) only [go_sem, eq_self, decide_true, decide_false, not_true_eq_false, not_false_eq_true, reduceIte, reduceCtorEq, Nat.reduceEqDiff, Nat.reduceAdd, Nat.reduceSub, Nat.reduceLeDiff]
      rw [eat]
      refine CALL_det (hcl _) (.inl rfl) ?_
      cases hp : p (l.getD k.toNat default) with
      | true =>
        simp (maxSteps := 1000000) (disch := omega) only [go_sem, eq_self, decide_true, decide_false, not_true_eq_false, not_false_eq_true, reduceIte, reduceCtorEq, Nat.reduceEqDiff, Nat.reduceAdd, Nat.reduceSub, Nat.reduceLeDiff]
        exact ⟨_, _, _, rfl, hI.del hk hp, by omega⟩
      | false =>
        simp (maxSteps := 1000000) (disch := omega) only [go_sem, eq_self, decide_true, decide_false, not_true_eq_false, not_false_eq_true, reduceIte, reduceCtorEq, Nat.reduceEqDiff, Nat.reduceAdd, Nat.reduceSub, Nat.reduceLeDiff]
        exact ⟨j + 1, k + 1, cur.set j.toNat (l.getD k.toNat default), by simp only [dl5St, srRow, List.map_set, srC_eq], hI.put hk hp, by omega⟩
    · have hf := hI.fin hk
      simp (maxSteps := 1000000) (disch := omega) only [go_sem, eq_self, decide_true, decide_false, not_true_eq_false, not_false_eq_true, reduceIte, reduceCtorEq, Nat.reduceEqDiff, Nat.reduceAdd, Nat.reduceSub, Nat.reduceLeDiff]
      refine ⟨⟨by omega, by simp; omega, by simp; omega⟩, ?_⟩
      rw [List.take_left' (by simp; omega), ← List.map_take, hf]

/-- The stretches of a window: of a sample, up to the next one. -/
def strGo (f t : Int) : List Smp → List Sr
  | [] => []
  | [s] => if max s.a f < t then [⟨max s.a f, t, s.a, s.v, s.q⟩] else []
  | s :: s' :: r => (if max s.a f < min t s'.a then [⟨max s.a f, min t s'.a, s.a, s.v, s.q⟩] else []) ++ strGo f t (s' :: r)
theorem strGo_len (f t : Int) : ∀ l : List Smp, (strGo f t l).length ≤ l.length
  | [] => by simp [strGo]
  | [s] => by rw [strGo]; split <;> simp
  | s :: s' :: r => by
    have := strGo_len f t (s' :: r)
    rw [strGo, List.length_append, List.length_cons]
    split <;> simp only [List.length_cons, List.length_nil] at * <;> omega
theorem strGo_last (f t : Int) (l : List Smp) (i : Nat) (h : i + 1 = l.length) : strGo f t (l.drop i) = if max (l.getD i default).a f < t then [⟨max (l.getD i default).a f, t, (l.getD i default).a, (l.getD i default).v, (l.getD i default).q⟩] else [] := by
  rw [drop_cons l i (by omega), List.drop_eq_nil_of_le (by omega), strGo]
theorem strGo_next (f t : Int) (l : List Smp) (i : Nat) (h : i + 1 < l.length) : strGo f t (l.drop i) = (if max (l.getD i default).a f < min t (l.getD (i + 1) default).a then [⟨max (l.getD i default).a f, min t (l.getD (i + 1) default).a, (l.getD i default).a, (l.getD i default).v, (l.getD i default).q⟩] else []) ++ strGo f t (l.drop (i + 1)) := by
  rw [drop_cons l i (by omega), drop_cons l (i + 1) (by omega), strGo]
def strSt (l : List Smp) (f t i : Int) (acc : List Sr) : AS := ⟨tabV [(0, smps false l), (3, .one (.bx 3 0)), (5, .one (.ow 5 0)), (9, smps false l), (10, iv l.length), (11, iv i)], tabO [(3, [.g (.int .i64 f), .g (.int .i64 t)])], tabO [(5, srRow acc)]⟩
theorem stretches_fcm (l : List Smp) (hl : l.length ≤ 5000) (f t : Int) : FCM Try.prog 180 ⟨[], []⟩ [smps false l, winV f t] (fun H r => H = ⟨[], [(5, srRow (strGo f t l))]⟩ ∧ r = .one (.ow 5 0)) := by
  refine fcm_stretches (K := ⟨[], [], [5]⟩) (by simp +arith) (by simp) (by simp) ?_
  unfold C_stretches
  simp (maxSteps := 1000000) (disch := omega) only [go_sem, eq_self, decide_true, decide_false, not_true_eq_false, not_false_eq_true, reduceIte, reduceCtorEq, Nat.reduceEqDiff, Nat.reduceAdd, Nat.reduceSub, Nat.reduceLeDiff]
  refine ex_loop2 (strSt l f t) (fun i acc => 0 ≤ i ∧ i ≤ l.length ∧ acc.length ≤ i ∧ acc ++ strGo f t (l.drop i.toNat) = strGo f t l) (fun i _ => (l.length - i).toNat) 0 [] ⟨by omega, by omega, by simp, by simp⟩ rfl ?_
  rintro i acc ⟨g1, g2, g3, g4⟩
  unfold strSt
  by_cases hi : i < l.length
  · have e2 : (i + 1).toNat = i.toNat + 1 := by omega
    have em := getD_map_at smpC l i [] g1 hi
    by_cases hn : i + 1 < l.length
    · have en := getD_map_at smpC l (i + 1) [] (by omega) hn
      rw [strGo_next f t l i.toNat (by omega), ← e2] at g4
      by_cases hw : max (l.getD i.toNat default).a f < min t (l.getD (i + 1).toNat default).a
      · rw [if_pos hw] at g4
        simp (maxSteps := 1000000) (disch := omega) only [go_sem, eq_self, decide_true, decide_false, not_true_eq_false, not_false_eq_true, reduceIte, reduceCtorEq, Nat.reduceEqDiff, Nat.reduceAdd, Nat.reduceSub, Nat.reduceLeDiff]
        exact ⟨i + 1, acc ++ [⟨max (l.getD i.toNat default).a f, min t (l.getD (i + 1).toNat default).a, (l.getD i.toNat default).a, (l.getD i.toNat default).v, (l.getD i.toNat default).q⟩], by simp only [strSt, srRow, List.map_append, List.map_cons, List.map_nil, srC_eq], ⟨by omega, by omega, by simp; omega, by simpa using g4⟩, by omega⟩
      · rw [if_neg hw, List.nil_append] at g4
        simp (maxSteps := 1000000) (disch := omega) only [go_sem, eq_self, decide_true, decide_false, not_true_eq_false, not_false_eq_true, reduceIte, reduceCtorEq, Nat.reduceEqDiff, Nat.reduceAdd, Nat.reduceSub, Nat.reduceLeDiff]
        exact ⟨_, _, rfl, ⟨by omega, by omega, by omega, g4⟩, by omega⟩
    · have hd : strGo f t (l.drop (i + 1).toNat) = [] := by rw [List.drop_eq_nil_of_le (by omega), strGo]
      rw [strGo_last f t l i.toNat (by omega)] at g4
      by_cases hw : max (l.getD i.toNat default).a f < t
      · rw [if_pos hw] at g4
        simp (maxSteps := 1000000) (disch := omega) only [go_sem, eq_self, decide_true, decide_false, not_true_eq_false, not_false_eq_true, reduceIte, reduceCtorEq, Nat.reduceEqDiff, Nat.reduceAdd, Nat.reduceSub, Nat.reduceLeDiff]
        exact ⟨i + 1, acc ++ [⟨max (l.getD i.toNat default).a f, t, (l.getD i.toNat default).a, (l.getD i.toNat default).v, (l.getD i.toNat default).q⟩], by simp only [strSt, srRow, List.map_append, List.map_cons, List.map_nil, srC_eq], ⟨by omega, by omega, by simp; omega, by rw [hd]; simpa using g4⟩, by omega⟩
      · rw [if_neg hw] at g4
        simp (maxSteps := 1000000) (disch := omega) only [go_sem, eq_self, decide_true, decide_false, not_true_eq_false, not_false_eq_true, reduceIte, reduceCtorEq, Nat.reduceEqDiff, Nat.reduceAdd, Nat.reduceSub, Nat.reduceLeDiff]
        exact ⟨_, _, rfl, ⟨by omega, by omega, by omega, by rw [hd]; exact g4⟩, by omega⟩
  · rw [List.drop_eq_nil_of_le (by omega), strGo, List.append_nil] at g4
    simp (maxSteps := 1000000) (disch := omega) only [go_sem, eq_self, decide_true, decide_false, not_true_eq_false, not_false_eq_true, reduceIte, reduceCtorEq, Nat.reduceEqDiff, Nat.reduceAdd, Nat.reduceSub, Nat.reduceLeDiff]
    rw [g4]
theorem rvalClos_fc (x : Sr) : FC Try.prog 181 none [.ag (srC x)] (fun _ r => r = bv (decide (x.q = 2))) := by
  refine fc_rvalClos (by simp +arith) ?_
  unfold C_rvalClos
  simp (maxSteps := 1000000) (disch := omega) only [go_sem, eq_self, decide_true, decide_false, not_true_eq_false, not_false_eq_true, reduceIte, reduceCtorEq, Nat.reduceEqDiff, Nat.reduceAdd, Nat.reduceSub, Nat.reduceLeDiff]
def rvals (f t : Int) (l : List Smp) : List Sr := (strGo f t l).filter fun x => !decide (x.q = 2)
theorem rvals_len (f t : Int) (l : List Smp) : (rvals f t l).length ≤ l.length := Nat.le_trans (List.length_filter_le _ _) (strGo_len f t l)
theorem rvalued_fc (l : List Smp) (hl : l.length ≤ 5000) (f t : Int) : FC Try.prog 149 none [smps false l, winV f t] (fun _ r => r = srsV true (rvals f t l)) := by
  refine fc_rvalued (by simp +arith) ?_
  have hp := strGo_len f t l
  unfold C_rvalued
  simp (maxSteps := 1000000) (disch := omega) only [go_sem, eq_self, decide_true, decide_false, not_true_eq_false, not_false_eq_true, reduceIte, reduceCtorEq, Nat.reduceEqDiff, Nat.reduceAdd, Nat.reduceSub, Nat.reduceLeDiff]
  refine ⟨rfl, CALLM_det (stretches_fcm l hl f t) ⟨rfl, rfl⟩ ?_⟩
  simp (maxSteps := 1000000) (disch := omega) only [go_sem, eq_self, decide_true, decide_false, not_true_eq_false, not_false_eq_true, reduceIte, reduceCtorEq, Nat.reduceEqDiff, Nat.reduceAdd, Nat.reduceSub, Nat.reduceLeDiff]
  refine ⟨rfl, CALLM_rnE ⟨[], [(5, srRow (rvals f t l))]⟩ (.one (.ow 5 0)) (fun k => k) (swp 5 1000000) (fun _ => rfl) (swp_swp 5 1000000) (del5_fcm 181 (fun x => decide (x.q = 2)) (strGo f t l) (by omega) (fun x => rvalClos_fc x)) (by simp) rfl rfl rfl rfl ⟨rfl, rfl⟩ ?_⟩
  simp (maxSteps := 1000000) (disch := omega) only [go_sem, eq_self, decide_true, decide_false, not_true_eq_false, not_false_eq_true, reduceIte, reduceCtorEq, Nat.reduceEqDiff, Nat.reduceAdd, Nat.reduceSub, Nat.reduceLeDiff]
def poStep (out : List Ph) (x : Sr) : List Ph := if x.v < 0 ∨ x.v > 1000 then out else
  if 1 ≤ out.length ∧ (out.getD ((out.length : Int) - 1).toNat default).n = x.v ∧ (out.getD ((out.length : Int) - 1).toNat default).t = x.f then endTo out x.t else out ++ [⟨x.v, x.f, x.t⟩]
def poSt (m : List Sr) (i : Int) (out : List Ph) : AS := ⟨tabV [(5, .one (.ow 5 0)), (11, srsV true m), (12, iv m.length), (13, iv i)], tabO [], tabO [(5, phRow out)]⟩
theorem phasesOfW_fc (l : List Smp) (hl : l.length ≤ 5000) (f t : Int) : FC Try.prog 86 none [smps false l, winV f t] (fun _ r => r = phsV true ((rvals f t l).foldl poStep [])) := by
  refine fc_phasesOf (by simp +arith) ?_
  have hml := rvals_len f t l
  unfold C_phasesOf
  simp (maxSteps := 1000000) (disch := omega) only [go_sem, eq_self, decide_true, decide_false, not_true_eq_false, not_false_eq_true, reduceIte, reduceCtorEq, Nat.reduceEqDiff, Nat.reduceAdd, Nat.reduceSub, Nat.reduceLeDiff]
  refine CALL_det (rvalued_fc l hl f t) (.inl rfl) ?_
  generalize rvals f t l = m at *
  simp (maxSteps := 1000000) (disch := omega) only [go_sem, eq_self, decide_true, decide_false, not_true_eq_false, not_false_eq_true, reduceIte, reduceCtorEq, Nat.reduceEqDiff, Nat.reduceAdd, Nat.reduceSub, Nat.reduceLeDiff]
  refine ex_loop2 (poSt m) (fun i out => 0 ≤ i ∧ i ≤ m.length ∧ out.length ≤ i ∧ (m.drop i.toNat).foldl poStep out = m.foldl poStep []) (fun i _ => (m.length - i).toNat) 0 [] ⟨by omega, by omega, by simp, rfl⟩ rfl ?_
  rintro i out ⟨g1, g2, g3, g4⟩
  unfold poSt
  by_cases hi : i < m.length
  · have e2 : (i + 1).toNat = i.toNat + 1 := by omega
    have em := getD_map_at srC m i [] g1 hi
    rw [drop_cons m i.toNat (by omega), List.foldl_cons, ← e2] at g4
    have est : poStep out (m.getD i.toNat default) = if (m.getD i.toNat default).v < 0 ∨ (m.getD i.toNat default).v > 1000 then out else if 1 ≤ out.length ∧ (out.getD ((out.length : Int) - 1).toNat default).n = (m.getD i.toNat default).v ∧ (out.getD ((out.length : Int) - 1).toNat default).t = (m.getD i.toNat default).f then endTo out (m.getD i.toNat default).t else out ++ [⟨(m.getD i.toNat default).v, (m.getD i.toNat default).f, (m.getD i.toNat default).t⟩] := rfl
    rw [est] at g4
    by_cases c1 : (m.getD i.toNat default).v < 0 ∨ (m.getD i.toNat default).v > 1000
    · rw [if_pos c1] at g4
      simp (maxSteps := 1000000) (disch := omega) only [go_sem, eq_self, decide_true, decide_false, not_true_eq_false, not_false_eq_true, reduceIte, reduceCtorEq, Nat.reduceEqDiff, Nat.reduceAdd, Nat.reduceSub, Nat.reduceLeDiff]
      refine CALL_det (rin1_fc _ _ _) (.inl rfl) ?_
      rw [decide_eq_false (show ¬(0 ≤ (m.getD i.toNat default).v ∧ (m.getD i.toNat default).v ≤ 1000) by omega)]
      simp (maxSteps := 1000000) (disch := omega) only [go_sem, eq_self, decide_true, decide_false, not_true_eq_false, not_false_eq_true, reduceIte, reduceCtorEq, Nat.reduceEqDiff, Nat.reduceAdd, Nat.reduceSub, Nat.reduceLeDiff]
      exact ⟨i + 1, out, rfl, ⟨by omega, by omega, by omega, g4⟩, by omega⟩
    · rw [if_neg c1] at g4
      have hin : decide (0 ≤ (m.getD i.toNat default).v ∧ (m.getD i.toNat default).v ≤ 1000) = true := decide_eq_true (by omega)
      by_cases c2 : 1 ≤ out.length
      · have eo := getE_map_in phC out ((out.length : Int) - 1).toNat (by omega)
        by_cases c3 : (out.getD ((out.length : Int) - 1).toNat default).n = (m.getD i.toNat default).v
        · by_cases c4 : (out.getD ((out.length : Int) - 1).toNat default).t = (m.getD i.toNat default).f
          · rw [if_pos ⟨c2, c3, c4⟩] at g4
            simp (maxSteps := 1000000) (disch := omega) only [go_sem, eq_self, decide_true, decide_false, not_true_eq_false, not_false_eq_true, reduceIte, reduceCtorEq, Nat.reduceEqDiff, Nat.reduceAdd, Nat.reduceSub, Nat.reduceLeDiff]
            refine CALL_det (rin1_fc _ _ _) (.inl rfl) ?_
            rw [hin]
            simp (maxSteps := 1000000) (disch := omega) only [go_sem, eq_self, decide_true, decide_false, not_true_eq_false, not_false_eq_true, reduceIte, reduceCtorEq, Nat.reduceEqDiff, Nat.reduceAdd, Nat.reduceSub, Nat.reduceLeDiff]
            exact ⟨i + 1, endTo out (m.getD i.toNat default).t, by simp only [poSt, phRow, endTo_map], ⟨by omega, by omega, by rw [endTo_len]; omega, g4⟩, by omega⟩
          · rw [if_neg (fun h => c4 h.2.2)] at g4
            simp (maxSteps := 1000000) (disch := omega) only [go_sem, eq_self, decide_true, decide_false, not_true_eq_false, not_false_eq_true, reduceIte, reduceCtorEq, Nat.reduceEqDiff, Nat.reduceAdd, Nat.reduceSub, Nat.reduceLeDiff]
            refine CALL_det (rin1_fc _ _ _) (.inl rfl) ?_
            rw [hin]
            simp (maxSteps := 1000000) (disch := omega) only [go_sem, eq_self, decide_true, decide_false, not_true_eq_false, not_false_eq_true, reduceIte, reduceCtorEq, Nat.reduceEqDiff, Nat.reduceAdd, Nat.reduceSub, Nat.reduceLeDiff]
            exact ⟨i + 1, out ++ [⟨(m.getD i.toNat default).v, (m.getD i.toNat default).f, (m.getD i.toNat default).t⟩], by simp only [poSt, phRow, List.map_append, List.map_cons, List.map_nil, phC_eq], ⟨by omega, by omega, by simp; omega, g4⟩, by omega⟩
        · rw [if_neg (fun h => c3 h.2.1)] at g4
          simp (maxSteps := 1000000) (disch := omega) only [go_sem, eq_self, decide_true, decide_false, not_true_eq_false, not_false_eq_true, reduceIte, reduceCtorEq, Nat.reduceEqDiff, Nat.reduceAdd, Nat.reduceSub, Nat.reduceLeDiff]
          refine CALL_det (rin1_fc _ _ _) (.inl rfl) ?_
          rw [hin]
          simp (maxSteps := 1000000) (disch := omega) only [go_sem, eq_self, decide_true, decide_false, not_true_eq_false, not_false_eq_true, reduceIte, reduceCtorEq, Nat.reduceEqDiff, Nat.reduceAdd, Nat.reduceSub, Nat.reduceLeDiff]
          exact ⟨i + 1, out ++ [⟨(m.getD i.toNat default).v, (m.getD i.toNat default).f, (m.getD i.toNat default).t⟩], by simp only [poSt, phRow, List.map_append, List.map_cons, List.map_nil, phC_eq], ⟨by omega, by omega, by simp; omega, g4⟩, by omega⟩
      · rw [if_neg (fun h => c2 h.1)] at g4
        simp (maxSteps := 1000000) (disch := omega) only [go_sem, eq_self, decide_true, decide_false, not_true_eq_false, not_false_eq_true, reduceIte, reduceCtorEq, Nat.reduceEqDiff, Nat.reduceAdd, Nat.reduceSub, Nat.reduceLeDiff]
        refine CALL_det (rin1_fc _ _ _) (.inl rfl) ?_
        rw [hin]
        simp (maxSteps := 1000000) (disch := omega) only [go_sem, eq_self, decide_true, decide_false, not_true_eq_false, not_false_eq_true, reduceIte, reduceCtorEq, Nat.reduceEqDiff, Nat.reduceAdd, Nat.reduceSub, Nat.reduceLeDiff]
        exact ⟨i + 1, out ++ [⟨(m.getD i.toNat default).v, (m.getD i.toNat default).f, (m.getD i.toNat default).t⟩], by simp only [poSt, phRow, List.map_append, List.map_cons, List.map_nil, phC_eq], ⟨by omega, by omega, by simp; omega, g4⟩, by omega⟩
  · rw [List.drop_eq_nil_of_le (by omega), List.foldl_nil] at g4
    rw [← g4]
    simp (maxSteps := 1000000) (disch := omega) only [go_sem, eq_self, decide_true, decide_false, not_true_eq_false, not_false_eq_true, reduceIte, reduceCtorEq, Nat.reduceEqDiff, Nat.reduceAdd, Nat.reduceSub, Nat.reduceLeDiff]
/-! the two ways are one -/
def sE (l : List Smp) (f t : Int) (i : Nat) : List Sr := if (l.getD i default).q = 2 then [] else if max (l.getD i default).a f < nxT l t i then [⟨max (l.getD i default).a f, nxT l t i, (l.getD i default).a, (l.getD i default).v, (l.getD i default).q⟩] else []
def rvN (l : List Smp) (f t : Int) : Nat → List Sr
  | 0 => []
  | i + 1 => rvN l f t i ++ sE l f t i
theorem rv_step (l : List Smp) (f t : Int) (i : Nat) (h : i < l.length) : rvals f t (l.drop i) = sE l f t i ++ rvals f t (l.drop (i + 1)) := by
  unfold rvals sE nxT
  by_cases c : i + 1 < l.length
  · rw [strGo_next f t l i c, List.filter_append, if_pos c]
    congr 1
    by_cases q : (l.getD i default).q = 2
    · rw [if_pos q]
      split
      · rw [List.filter_cons, if_neg (by simpa using q)]; rfl
      · rfl
    · rw [if_neg q]
      split
      · rw [List.filter_cons, if_pos (by simpa using q)]; rfl
      · rfl
  · have e : l.drop (i + 1) = [] := List.drop_eq_nil_of_le (by omega)
    rw [strGo_last f t l i (by omega), if_neg c, e]
    simp only [strGo, List.filter_nil, List.append_nil]
    by_cases q : (l.getD i default).q = 2
    · rw [if_pos q]
      split
      · rw [List.filter_cons, if_neg (by simpa using q)]; rfl
      · rfl
    · rw [if_neg q]
      split
      · rw [List.filter_cons, if_pos (by simpa using q)]; rfl
      · rfl
theorem rv_all (l : List Smp) (f t : Int) : ∀ i, i ≤ l.length → rvN l f t i ++ rvals f t (l.drop i) = rvals f t l
  | 0, _ => rfl
  | i + 1, h => by
    have ih := rv_all l f t i (by omega)
    rw [rv_step l f t i (by omega), ← List.append_assoc] at ih
    exact ih
theorem po_ph {l : List Smp} (hg : Good l) {f t : Int} (hw : 0 ≤ f ∧ f < t ∧ t ≤ 345686400000) : ∀ i, i ≤ l.length → (rvN l f t i).foldl poStep [] = (phN l f t i).1 ∧ (i < l.length → ((phN l f t i).2 = true → ((phN l f t i).1.getD (((phN l f t i).1.length : Int) - 1).toNat default).t = min t (l.getD i default).a ∧ f < min t (l.getD i default).a) ∧ ((phN l f t i).2 = false → ∀ y ∈ (phN l f t i).1, y.t < max f (l.getD i default).a))
  | 0, _ => ⟨rfl, fun _ => ⟨by simp [phN], by simp [phN]⟩⟩
  | i + 1, hi => by
    obtain ⟨ih, ihq⟩ := po_ph hg hw i (by omega)
    obtain ⟨q1, q2⟩ := ihq (by omega)
    have hI := ph_inv hg hw i (by omega)
    have hT : lstA l i = (l.getD i default).a := by unfold lstA; rw [if_pos (by omega)]
    have hlen := (phN_len l f t i).2
    have hnx : i + 1 < l.length → (l.getD i default).a < (l.getD (i + 1) default).a ∧ nxT l t i = min t (l.getD (i + 1) default).a := fun h => ⟨hg.up i (i + 1) (by omega) h, by unfold nxT; rw [if_pos h]⟩
    have hout : i + 1 < l.length → ∀ y ∈ (phN l f t i).1, y.t < max f (l.getD (i + 1) default).a := fun h y hy => by
      have h1 := hI.e y hy
      have h2 := (hnx h).1
      omega
    have same : ∀ z : List Ph × Bool, z = ((phN l f t i).1, false) → (i + 1 < l.length → (z.2 = true → (z.1.getD ((z.1.length : Int) - 1).toNat default).t = min t (l.getD (i + 1) default).a ∧ f < min t (l.getD (i + 1) default).a) ∧ (z.2 = false → ∀ y ∈ z.1, y.t < max f (l.getD (i + 1) default).a)) := by
      intro z hz h
      subst hz
      exact ⟨fun h2 => (by cases h2), fun _ => hout h⟩
    rw [rvN, List.foldl_append, ih, phN]
    unfold phOn sE
    by_cases c1 : (l.getD i default).q = 2
    · rw [if_pos c1, if_pos (Or.inl c1)]
      exact ⟨rfl, same _ rfl⟩
    by_cases c2 : (l.getD i default).v < 0 ∨ (l.getD i default).v > 1000
    · rw [if_neg c1, if_pos (Or.inr c2)]
      refine ⟨?_, same _ rfl⟩
      split
      · rw [List.foldl_cons, List.foldl_nil]; unfold poStep; rw [if_pos c2]
      · rfl
    rw [if_neg c1, if_neg (show ¬((l.getD i default).q = 2 ∨ (l.getD i default).v < 0 ∨ (l.getD i default).v > 1000) by omega)]
    by_cases c3 : max f (l.getD i default).a ≥ nxT l t i
    · rw [if_pos c3, if_neg (by omega)]
      exact ⟨rfl, same _ rfl⟩
    rw [if_neg c3, if_pos (by omega), List.foldl_cons, List.foldl_nil]
    have hnt : nxT l t i ≤ t := by unfold nxT; split <;> omega
    have tail : ∀ o : List Ph, 1 ≤ o.length → (o.getD ((o.length : Int) - 1).toNat default).t = nxT l t i → (i + 1 < l.length → ((((o, true) : List Ph × Bool)).2 = true → (o.getD ((o.length : Int) - 1).toNat default).t = min t (l.getD (i + 1) default).a ∧ f < min t (l.getD (i + 1) default).a) ∧ ((((o, true) : List Ph × Bool)).2 = false → ∀ y ∈ o, y.t < max f (l.getD (i + 1) default).a)) := fun o _ ho h => ⟨fun _ => by rw [ho, (hnx h).2]; have := (hnx h).2; exact ⟨rfl, by omega⟩, fun h2 => by cases h2⟩
    have hend : ∀ o : List Ph, 1 ≤ o.length → ((endTo o (nxT l t i)).getD (((endTo o (nxT l t i)).length : Int) - 1).toNat default).t = nxT l t i := fun o ho => by
      rw [endTo_len]
      unfold endTo
      have hl2 : ((o.length : Int) - 1).toNat < o.length := by omega
      generalize ((o.length : Int) - 1).toNat = k at *
      rw [List.getD_eq_getElem?_getD, List.getElem?_set_self hl2]; rfl
    have happ : ∀ (o : List Ph) (y : Ph), ((o ++ [y]).getD (((o ++ [y]).length : Int) - 1).toNat default) = y := fun o y => by
      have e : (((o ++ [y]).length : Int) - 1).toNat = o.length := by simp
      rw [e, List.getD_eq_getElem?_getD]; simp
    unfold poStep
    simp only
    rw [if_neg c2, Int.max_comm (l.getD i default).a f]
    cases hb : (phN l f t i).2 with
    | true =>
      have h1 := hlen hb
      obtain ⟨h2, h3⟩ := q1 hb
      have h4 : min t (l.getD i default).a = max f (l.getD i default).a := by omega
      by_cases c4 : ((phN l f t i).1.getD (((phN l f t i).1.length : Int) - 1).toNat default).n = (l.getD i default).v
      · rw [if_pos ⟨h1, c4, by rw [h2, h4]⟩, if_pos ⟨rfl, c4⟩]
        exact ⟨rfl, tail _ (by rw [endTo_len]; exact h1) (hend _ h1)⟩
      · rw [if_neg (fun h => c4 h.2.1), if_neg (fun h => c4 h.2)]
        exact ⟨rfl, tail _ (by simp) (by rw [happ])⟩
    | false =>
      rw [if_neg (fun h => by
        have h1 := q2 hb _ (getD_mem (phN l f t i).1 (((phN l f t i).1.length : Int) - 1).toNat (by omega))
        have := h.2.2
        omega), if_neg (by simp)]
      exact ⟨rfl, tail _ (by simp) (by rw [happ])⟩
theorem phasesOf_fc (l : List Smp) (hs : serFault l = 0) (f t : Int) (hw : w1F f t = 0) : FC Try.prog 86 none [smps false l, winV f t] (fun _ r => r = phsV true (phN l f t l.length).1) := by
  have hg := good_of hs
  have h1 := rv_all l f t l.length (by omega)
  have e : rvals f t (l.drop l.length) = [] := by rw [List.drop_eq_nil_of_le (by omega)]; rfl
  rw [e, List.append_nil] at h1
  have h2 := (po_ph hg (w1F_ok hw) l.length (by omega)).1
  rw [h1] at h2
  have := phasesOfW_fc l hg.len f t
  rw [h2] at this
  exact this
end Go.Proofs.Ytmbpfhpdicjpcaa

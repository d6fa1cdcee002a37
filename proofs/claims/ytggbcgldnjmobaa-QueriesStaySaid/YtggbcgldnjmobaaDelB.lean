
/-
  The pieces of a window, and those that are not Bad.
-/
import Derived.Test.YtggbcgldnjmobaaDelA
import Derived.Test.YtggbcgldnjmobaaChk
namespace Go.Proofs.Ytggbcgldnjmobaa
open Go Go.Ai
set_option linter.unusedSimpArgs false
set_option linter.unusedVariables false
set_option maxHeartbeats 4000000
def A_pieces : List Ann := [⟨(some ⟨[0,3], [3], [5]⟩), [], [], [], []⟩, ⟨(some ⟨[0,3,5], [3], []⟩), [(5, 174, 4)], [], [], []⟩, ⟨(some ⟨[0,3,5,10,11,12], [3], [5]⟩), [], [], [], []⟩, ⟨(some ⟨[0,3,5,10,11,12,13], [3], [5]⟩), [], [], [], []⟩, ⟨(some ⟨[0,3,5,6,7,10,11,12], [3,7], [5]⟩), [], [], [], []⟩, ⟨(some ⟨[0,3,5,6,7,8,10,11,12], [3,7], [5]⟩), [], [], [], []⟩, ⟨(some ⟨[0,3,5,6,7,8,10,11,12,23], [3,7], [5]⟩), [], [], [], []⟩, ⟨(some ⟨[0,3,5,7,8,10,11,12], [3,7], [5]⟩), [], [], [], []⟩, ⟨(some ⟨[0,3,5,7,8,9,10,11,12], [3,7], [5]⟩), [], [], [], []⟩, ⟨(some ⟨[0,3,5,7,8,9,10,11,12,39], [3,7], [5]⟩), [], [], [], []⟩, ⟨(some ⟨[0,3,5,10,11,12], [3], [5]⟩), [], [], [], []⟩, ⟨(some ⟨[0,3,5,10,11,12], [3], [5]⟩), [], [], [], []⟩, ⟨(some ⟨[4], [], [5]⟩), [], [], [], []⟩]
def C_pieces : AC := (.seq (.reg false [⟨(some 3), none, .box (.t 1)⟩, ⟨(some 4), none, .mv (.v (.slice none 0 0))⟩] (some ⟨[0,3], [3], [5]⟩))
  (.seq (.seq (.reg false [⟨(some 5), none, .mv (.v (.slice none 0 0))⟩] (some ⟨[0,3,5], [3], []⟩))
  (.own 5 174 4))
  (.seq (.seq (.reg false [⟨(some 10), none, .mv (.t 0)⟩, ⟨(some 11), none, .len (.t 10)⟩, ⟨(some 12), none, .mv (.v (.int .i64 (0)))⟩] (some ⟨[0,3,5,10,11,12], [3], [5]⟩))
  (.block 0 (.loop (.seq (.reg false [⟨(some 13), none, .bin .lss (.t 12) (.t 11)⟩] (some ⟨[0,3,5,10,11,12,13], [3], [5]⟩))
  (.seq (.cond (.t 13)
  .skip
  (.exit 0))
  (.seq (.block 1 (.seq (.reg false [⟨(some 14), none, .mv (.t 12)⟩, ⟨(some 15), none, .iadr 3 (.t 10) (.t 12)⟩, ⟨(some 16), none, .load true 3 (.t 15)⟩, ⟨(some 7), none, .alloc [(.int .i64 (0)), (.int .i64 (0)), (.int .i64 (0))]⟩, ⟨(some 6), none, .mv (.t 14)⟩, ⟨none, none, .store 3 (.t 7) (.t 16)⟩] (some ⟨[0,3,5,6,7,10,11,12], [3,7], [5]⟩))
  (.seq (.reg false [⟨(some 17), none, .fadr 1 (.t 3)⟩, ⟨(some 18), none, .load false 1 (.t 17)⟩, ⟨(some 8), none, .mv (.t 18)⟩] (some ⟨[0,3,5,6,7,8,10,11,12], [3,7], [5]⟩))
  (.seq (.seq (.reg false [⟨(some 19), none, .mv (.t 6)⟩, ⟨(some 20), none, .bin .add (.t 19) (.v (.int .i64 (1)))⟩, ⟨(some 21), none, .mv (.t 0)⟩, ⟨(some 22), none, .len (.t 21)⟩, ⟨(some 23), none, .bin .lss (.t 20) (.t 22)⟩] (some ⟨[0,3,5,6,7,8,10,11,12,23], [3,7], [5]⟩))
  (.cond (.t 23)
  (.reg false [⟨(some 24), none, .mv (.t 8)⟩, ⟨(some 25), none, .mv (.t 0)⟩, ⟨(some 26), none, .mv (.t 6)⟩, ⟨(some 27), none, .bin .add (.t 26) (.v (.int .i64 (1)))⟩, ⟨(some 28), none, .iadr 3 (.t 25) (.t 27)⟩, ⟨(some 29), none, .fadr 0 (.t 28)⟩, ⟨(some 30), none, .load false 1 (.t 29)⟩, ⟨(some 31), none, .mnx false (.t 24) (.t 30)⟩, ⟨(some 8), none, .mv (.t 31)⟩] (some ⟨[0,3,5,7,8,10,11,12], [3,7], [5]⟩))
  .skip))
  (.seq (.reg false [⟨(some 32), none, .fadr 0 (.t 3)⟩, ⟨(some 33), none, .load false 1 (.t 32)⟩, ⟨(some 34), none, .fadr 0 (.t 7)⟩, ⟨(some 35), none, .load false 1 (.t 34)⟩, ⟨(some 36), none, .mnx true (.t 33) (.t 35)⟩, ⟨(some 9), none, .mv (.t 36)⟩] (some ⟨[0,3,5,7,8,9,10,11,12], [3,7], [5]⟩))
  (.seq (.reg false [⟨(some 37), none, .mv (.t 9)⟩, ⟨(some 38), none, .mv (.t 8)⟩, ⟨(some 39), none, .bin .lss (.t 37) (.t 38)⟩] (some ⟨[0,3,5,7,8,9,10,11,12,39], [3,7], [5]⟩))
  (.cond (.t 39)
  (.reg false [⟨(some 40), none, .mv (.t 5)⟩, ⟨(some 41), none, .mv (.t 9)⟩, ⟨(some 42), none, .mv (.t 8)⟩, ⟨(some 43), none, .build [(.int .i64 (0)), (.int .i64 (0))] [(0, 1, (.t 41)), (1, 1, (.t 42))]⟩, ⟨(some 44), none, .fadr 1 (.t 7)⟩, ⟨(some 45), none, .load false 1 (.t 44)⟩, ⟨(some 46), none, .fadr 2 (.t 7)⟩, ⟨(some 47), none, .load false 1 (.t 46)⟩, ⟨(some 48), none, .build [(.int .i64 (0)), (.int .i64 (0)), (.int .i64 (0)), (.int .i64 (0))] [(0, 2, (.t 43)), (2, 1, (.t 45)), (3, 1, (.t 47))]⟩, ⟨(some 49), none, .bslice 4 1 [(.t 48)]⟩, ⟨(some 50), none, .append 174 4 32 (.t 40) (.t 49)⟩, ⟨(some 5), none, .mv (.t 50)⟩] (some ⟨[0,3,5,10,11,12], [3], [5]⟩))
  .skip)))))))
  (.reg false [⟨(some 51), none, .bin .add (.t 12) (.v (.int .i64 (1)))⟩, ⟨(some 12), none, .mv (.t 51)⟩] (some ⟨[0,3,5,10,11,12], [3], [5]⟩))))))))
  (.seq (.reg false [⟨(some 52), none, .mv (.t 5)⟩, ⟨(some 4), none, .mv (.t 52)⟩] (some ⟨[4], [], [5]⟩))
  .ret))))
theorem c_pieces : compileCode Try.prog Try.f128.ntmps (Try.f128.body.getD .skip) A_pieces = some (C_pieces, []) := by kernel_rfl
theorem r_pieces : compileRes Try.prog Try.f128.results.toList = some [.t 4] := by kernel_rfl
theorem b_pieces : Try.f128.body = some (Try.f128.body.getD .skip) := by kernel_rfl
theorem n_pieces : (Try.f128.name == "runtime.NumGoroutine") = false := by kernel_rfl
theorem fc_pieces {xt : Option (List Cel)} {args : List Val} {R : List Cel → Val → Prop} (hn : (if xt.isSome then 1 else 0) + args.length ≤ Try.f128.ntmps) (h : ex Try.prog C_pieces [] (fpost xt [.t 4] R) (initSt xt args)) : FC Try.prog 128 xt args R :=
  fc_of_awp Try.func128 b_pieces n_pieces c_pieces r_pieces (of_decide_eq_true (by kernel_rfl)) hn h
theorem fcm_pieces {H : Hp} {K : Keep} {args : List Val} {R : Hp → Val → Prop} (hn : args.length ≤ Try.f128.ntmps) (hkb : ∀ p ∈ H.bs, p.1 = 0 ∨ XK ≤ p.1) (hkr : ∀ p ∈ H.rs, XK ≤ p.1) (h : ex Try.prog C_pieces [] (mpost H K [.t 4] R) (initM H args)) : FCM Try.prog 128 H args R :=
  fcm_of_awp Try.func128 b_pieces n_pieces c_pieces r_pieces (of_decide_eq_true (by kernel_rfl)) hn hkb hkr h
theorem fcms_pieces {S : List Nat} {H : Hp} {K : Keep} {args : List Val} {R : Hp → Val → Prop} (hn : args.length ≤ Try.f128.ntmps) (hkb : ∀ p ∈ H.bs, p.1 = 0 ∨ XK ≤ p.1) (hkr : ∀ p ∈ H.rs, XK ≤ p.1) (h : ex Try.prog C_pieces [] (mpostS S H K [.t 4] R) (initM H args))   : FCMS Try.prog 128 S H args R :=
  fcms_of_awp Try.func128 b_pieces n_pieces c_pieces r_pieces (of_decide_eq_true (by kernel_rfl)) hn hkb hkr h

def A_valued : List Ann := [⟨(some ⟨[0,3], [3], []⟩), [], [], [], []⟩, ⟨(some ⟨[4], [], []⟩), [], [], [], [(7, ⟨[], [], [], [5], []⟩), (8, ⟨[], [5], [], [5], []⟩)]⟩]
def C_valued : AC := (.seq (.reg false [⟨(some 3), none, .box (.t 1)⟩, ⟨(some 4), none, .mv (.v (.slice none 0 0))⟩] (some ⟨[0,3], [3], []⟩))
  (.seq (.reg false [⟨(some 5), none, .mv (.t 0)⟩, ⟨(some 6), none, .load true 2 (.t 3)⟩, ⟨(some 7), none, .callm (.f 128) [(.t 5), (.t 6)] ⟨[], [], [], [5], []⟩⟩, ⟨(some 8), none, .callm (.f 159) [(.t 7), (.f 160)] ⟨[], [5], [], [5], []⟩⟩, ⟨(some 4), none, .mv (.t 8)⟩] (some ⟨[4], [], []⟩))
  .ret))
theorem c_valued : compileCode Try.prog Try.f114.ntmps (Try.f114.body.getD .skip) A_valued = some (C_valued, []) := by kernel_rfl
theorem r_valued : compileRes Try.prog Try.f114.results.toList = some [.t 4] := by kernel_rfl
theorem b_valued : Try.f114.body = some (Try.f114.body.getD .skip) := by kernel_rfl
theorem n_valued : (Try.f114.name == "runtime.NumGoroutine") = false := by kernel_rfl
theorem fc_valued {xt : Option (List Cel)} {args : List Val} {R : List Cel → Val → Prop} (hn : (if xt.isSome then 1 else 0) + args.length ≤ Try.f114.ntmps) (h : ex Try.prog C_valued [] (fpost xt [.t 4] R) (initSt xt args)) : FC Try.prog 114 xt args R :=
  fc_of_awp Try.func114 b_valued n_valued c_valued r_valued (of_decide_eq_true (by kernel_rfl)) hn h
theorem fcm_valued {H : Hp} {K : Keep} {args : List Val} {R : Hp → Val → Prop} (hn : args.length ≤ Try.f114.ntmps) (hkb : ∀ p ∈ H.bs, p.1 = 0 ∨ XK ≤ p.1) (hkr : ∀ p ∈ H.rs, XK ≤ p.1) (h : ex Try.prog C_valued [] (mpost H K [.t 4] R) (initM H args)) : FCM Try.prog 114 H args R :=
  fcm_of_awp Try.func114 b_valued n_valued c_valued r_valued (of_decide_eq_true (by kernel_rfl)) hn hkb hkr h
theorem fcms_valued {S : List Nat} {H : Hp} {K : Keep} {args : List Val} {R : Hp → Val → Prop} (hn : args.length ≤ Try.f114.ntmps) (hkb : ∀ p ∈ H.bs, p.1 = 0 ∨ XK ≤ p.1) (hkr : ∀ p ∈ H.rs, XK ≤ p.1) (h : ex Try.prog C_valued [] (mpostS S H K [.t 4] R) (initM H args))   : FCMS Try.prog 114 S H args R :=
  fcms_of_awp Try.func114 b_valued n_valued c_valued r_valued (of_decide_eq_true (by kernel_rfl)) hn hkb hkr h

def A_long : List Ann := [⟨(some ⟨[1], [1], []⟩), [], [], [], []⟩, ⟨(some ⟨[2], [], []⟩), [], [], [], []⟩]
def C_long : AC := (.seq (.reg false [⟨(some 1), none, .box (.t 0)⟩, ⟨(some 2), none, .mv (.v (.int .i64 (0)))⟩] (some ⟨[1], [1], []⟩))
  (.seq (.reg false [⟨(some 3), none, .fadr 0 (.t 1)⟩, ⟨(some 4), none, .fadr 1 (.t 3)⟩, ⟨(some 5), none, .load false 1 (.t 4)⟩, ⟨(some 6), none, .fadr 0 (.t 1)⟩, ⟨(some 7), none, .fadr 0 (.t 6)⟩, ⟨(some 8), none, .load false 1 (.t 7)⟩, ⟨(some 9), none, .bin .sub (.t 5) (.t 8)⟩, ⟨(some 2), none, .mv (.t 9)⟩] (some ⟨[2], [], []⟩))
  .ret))
theorem c_long : compileCode Try.prog Try.f118.ntmps (Try.f118.body.getD .skip) A_long = some (C_long, []) := by kernel_rfl
theorem r_long : compileRes Try.prog Try.f118.results.toList = some [.t 2] := by kernel_rfl
theorem b_long : Try.f118.body = some (Try.f118.body.getD .skip) := by kernel_rfl
theorem n_long : (Try.f118.name == "runtime.NumGoroutine") = false := by kernel_rfl
theorem fc_long {xt : Option (List Cel)} {args : List Val} {R : List Cel → Val → Prop} (hn : (if xt.isSome then 1 else 0) + args.length ≤ Try.f118.ntmps) (h : ex Try.prog C_long [] (fpost xt [.t 2] R) (initSt xt args)) : FC Try.prog 118 xt args R :=
  fc_of_awp Try.func118 b_long n_long c_long r_long (of_decide_eq_true (by kernel_rfl)) hn h

def A_integral : List Ann := [⟨(some ⟨[0,2,3], [], []⟩), [], [], [], []⟩, ⟨(some ⟨[2,3,6,7,8], [], []⟩), [], [], [], []⟩, ⟨(some ⟨[2,3,6,7,8,9], [], []⟩), [], [], [], []⟩, ⟨(some ⟨[2,3,5,6,7,8], [5], []⟩), [], [], [], []⟩, ⟨(some ⟨[2,3,5,6,7,8], [5], []⟩), [], [], [], []⟩, ⟨(some ⟨[2,3,6,7,8], [], []⟩), [], [], [], []⟩, ⟨(some ⟨[2,3,6,7,8], [], []⟩), [], [], [], []⟩, ⟨(some ⟨[2,3], [], []⟩), [], [], [], []⟩]
def C_integral : AC := (.seq (.reg false [⟨(some 2), none, .mv (.v (.int .i64 (0)))⟩, ⟨(some 3), none, .mv (.v (.int .i64 (0)))⟩] (some ⟨[0,2,3], [], []⟩))
  (.seq (.seq (.reg false [⟨(some 6), none, .mv (.t 0)⟩, ⟨(some 7), none, .len (.t 6)⟩, ⟨(some 8), none, .mv (.v (.int .i64 (0)))⟩] (some ⟨[2,3,6,7,8], [], []⟩))
  (.block 0 (.loop (.seq (.reg false [⟨(some 9), none, .bin .lss (.t 8) (.t 7)⟩] (some ⟨[2,3,6,7,8,9], [], []⟩))
  (.seq (.cond (.t 9)
  .skip
  (.exit 0))
  (.seq (.block 1 (.seq (.reg false [⟨(some 10), none, .iadr 4 (.t 6) (.t 8)⟩, ⟨(some 11), none, .load true 4 (.t 10)⟩, ⟨(some 5), none, .alloc [(.int .i64 (0)), (.int .i64 (0)), (.int .i64 (0)), (.int .i64 (0))]⟩, ⟨none, none, .store 4 (.t 5) (.t 11)⟩] (some ⟨[2,3,5,6,7,8], [5], []⟩))
  (.seq (.reg true [⟨(some 12), none, .mv (.t 2)⟩, ⟨(some 13), none, .fadr 2 (.t 5)⟩, ⟨(some 14), none, .load false 1 (.t 13)⟩, ⟨(some 15), none, .load true 4 (.t 5)⟩, ⟨(some 16), none, .call (.f 118) [(.t 15)]⟩, ⟨(some 17), none, .bin .mul (.t 14) (.t 16)⟩, ⟨(some 18), none, .bin .add (.t 12) (.t 17)⟩, ⟨(some 2), none, .mv (.t 18)⟩] (some ⟨[2,3,5,6,7,8], [5], []⟩))
  (.reg false [⟨(some 19), none, .mv (.t 3)⟩, ⟨(some 20), none, .load true 4 (.t 5)⟩, ⟨(some 21), none, .call (.f 118) [(.t 20)]⟩, ⟨(some 22), none, .bin .add (.t 19) (.t 21)⟩, ⟨(some 3), none, .mv (.t 22)⟩] (some ⟨[2,3,6,7,8], [], []⟩)))))
  (.reg false [⟨(some 23), none, .bin .add (.t 8) (.v (.int .i64 (1)))⟩, ⟨(some 8), none, .mv (.t 23)⟩] (some ⟨[2,3,6,7,8], [], []⟩))))))))
  (.seq (.reg false [⟨(some 24), none, .mv (.t 2)⟩, ⟨(some 25), none, .mv (.t 3)⟩, ⟨(some 2), none, .mv (.t 24)⟩, ⟨(some 3), none, .mv (.t 25)⟩] (some ⟨[2,3], [], []⟩))
  .ret)))
theorem c_integral : compileCode Try.prog Try.f115.ntmps (Try.f115.body.getD .skip) A_integral = some (C_integral, []) := by kernel_rfl
theorem r_integral : compileRes Try.prog Try.f115.results.toList = some [.t 2, .t 3] := by kernel_rfl
theorem b_integral : Try.f115.body = some (Try.f115.body.getD .skip) := by kernel_rfl
theorem n_integral : (Try.f115.name == "runtime.NumGoroutine") = false := by kernel_rfl
theorem fc_integral {xt : Option (List Cel)} {args : List Val} {R : List Cel → Val → Prop} (hn : (if xt.isSome then 1 else 0) + args.length ≤ Try.f115.ntmps) (h : ex Try.prog C_integral [] (fpost xt [.t 2, .t 3] R) (initSt xt args)) : FC Try.prog 115 xt args R :=
  fc_of_awp Try.func115 b_integral n_integral c_integral r_integral (of_decide_eq_true (by kernel_rfl)) hn h


/-- The pieces of a window: of a sample, up to the next one. -/
def pcsGo (f t : Int) : List Smp → List Pc
  | [] => []
  | [s] => if max f s.a < t then [⟨max f s.a, t, s.v, s.q⟩] else []
  | s :: s' :: r => (if max f s.a < min t s'.a then [⟨max f s.a, min t s'.a, s.v, s.q⟩] else []) ++ pcsGo f t (s' :: r)
theorem pcsGo_len (f t : Int) : ∀ l : List Smp, (pcsGo f t l).length ≤ l.length
  | [] => by simp [pcsGo]
  | [s] => by rw [pcsGo]; split <;> simp
  | s :: s' :: r => by
    have := pcsGo_len f t (s' :: r)
    rw [pcsGo, List.length_append, List.length_cons]
    split <;> simp at * <;> omega
theorem pcsGo_last (f t : Int) (l : List Smp) (i : Nat) (h : i + 1 = l.length) : pcsGo f t (l.drop i) = if max f (l.getD i default).a < t then [⟨max f (l.getD i default).a, t, (l.getD i default).v, (l.getD i default).q⟩] else [] := by
  rw [drop_cons l i (by omega), List.drop_eq_nil_of_le (by omega), pcsGo]
theorem pcsGo_next (f t : Int) (l : List Smp) (i : Nat) (h : i + 1 < l.length) : pcsGo f t (l.drop i) = (if max f (l.getD i default).a < min t (l.getD (i + 1) default).a then [⟨max f (l.getD i default).a, min t (l.getD (i + 1) default).a, (l.getD i default).v, (l.getD i default).q⟩] else []) ++ pcsGo f t (l.drop (i + 1)) := by
  rw [drop_cons l i (by omega), drop_cons l (i + 1) (by omega), pcsGo]
def pcs0St (l : List Smp) (f t i : Int) (acc : List Pc) : AS := ⟨tabV [(0, smps false l), (3, .one (.bx 3 0)), (5, .one (.ow 5 0)), (10, smps false l), (11, iv l.length), (12, iv i)], tabO [(3, [.g (.int .i64 f), .g (.int .i64 t)])], tabO [(5, pcRow acc)]⟩
theorem pieces_fcm (l : List Smp) (hl : l.length ≤ 5000) (f t : Int) : FCM Try.prog 128 ⟨[], []⟩ [smps false l, winV f t] (fun H r => H = ⟨[], [(5, pcRow (pcsGo f t l))]⟩ ∧ r = .one (.ow 5 0)) := by
  refine fcm_pieces (K := ⟨[], [], [5]⟩) (by simp +arith) (by simp) (by simp) ?_
  unfold C_pieces
  simp (maxSteps := 1000000) (disch := omega) only [go_sem, eq_self, decide_true, decide_false, not_true_eq_false, not_false_eq_true, reduceIte, reduceCtorEq, Nat.reduceEqDiff, Nat.reduceAdd, Nat.reduceSub, Nat.reduceLeDiff]
  refine ex_loop2 (pcs0St l f t) (fun i acc => 0 ≤ i ∧ i ≤ l.length ∧ acc.length ≤ i ∧ acc ++ pcsGo f t (l.drop i.toNat) = pcsGo f t l) (fun i _ => (l.length - i).toNat) 0 [] ⟨by omega, by omega, by simp, by simp⟩ rfl ?_
  rintro i acc ⟨g1, g2, g3, g4⟩
  unfold pcs0St
  by_cases hi : i < l.length
  · have e2 : (i + 1).toNat = i.toNat + 1 := by omega
    have em := getD_map_at smpC l i [] g1 hi
    by_cases hn : i + 1 < l.length
    · have en := getD_map_at smpC l (i + 1) [] (by omega) hn
      rw [pcsGo_next f t l i.toNat (by omega), ← e2] at g4
      by_cases hw : max f (l.getD i.toNat default).a < min t (l.getD (i + 1).toNat default).a
      · rw [if_pos hw] at g4
        simp (maxSteps := 1000000) (disch := omega) only [go_sem, eq_self, decide_true, decide_false, not_true_eq_false, not_false_eq_true, reduceIte, reduceCtorEq, Nat.reduceEqDiff, Nat.reduceAdd, Nat.reduceSub, Nat.reduceLeDiff]
        exact ⟨i + 1, acc ++ [⟨max f (l.getD i.toNat default).a, min t (l.getD (i + 1).toNat default).a, (l.getD i.toNat default).v, (l.getD i.toNat default).q⟩], by simp only [pcs0St, pcRow, List.map_append, List.map_cons, List.map_nil, pcC_eq], ⟨by omega, by omega, by simp; omega, by simpa using g4⟩, by omega⟩
      · rw [if_neg hw, List.nil_append] at g4
        simp (maxSteps := 1000000) (disch := omega) only [go_sem, eq_self, decide_true, decide_false, not_true_eq_false, not_false_eq_true, reduceIte, reduceCtorEq, Nat.reduceEqDiff, Nat.reduceAdd, Nat.reduceSub, Nat.reduceLeDiff]
        exact ⟨_, _, rfl, ⟨by omega, by omega, by omega, g4⟩, by omega⟩
    · have hd : pcsGo f t (l.drop (i + 1).toNat) = [] := by rw [List.drop_eq_nil_of_le (by omega), pcsGo]
      rw [pcsGo_last f t l i.toNat (by omega)] at g4
      by_cases hw : max f (l.getD i.toNat default).a < t
      · rw [if_pos hw] at g4
        simp (maxSteps := 1000000) (disch := omega) only [go_sem, eq_self, decide_true, decide_false, not_true_eq_false, not_false_eq_true, reduceIte, reduceCtorEq, Nat.reduceEqDiff, Nat.reduceAdd, Nat.reduceSub, Nat.reduceLeDiff]
        exact ⟨i + 1, acc ++ [⟨max f (l.getD i.toNat default).a, t, (l.getD i.toNat default).v, (l.getD i.toNat default).q⟩], by simp only [pcs0St, pcRow, List.map_append, List.map_cons, List.map_nil, pcC_eq], ⟨by omega, by omega, by simp; omega, by rw [hd]; simpa using g4⟩, by omega⟩
      · rw [if_neg hw] at g4
        simp (maxSteps := 1000000) (disch := omega) only [go_sem, eq_self, decide_true, decide_false, not_true_eq_false, not_false_eq_true, reduceIte, reduceCtorEq, Nat.reduceEqDiff, Nat.reduceAdd, Nat.reduceSub, Nat.reduceLeDiff]
        exact ⟨_, _, rfl, ⟨by omega, by omega, by omega, by rw [hd]; exact g4⟩, by omega⟩
  · rw [List.drop_eq_nil_of_le (by omega), pcsGo, List.append_nil] at g4
    simp (maxSteps := 1000000) (disch := omega) only [go_sem, eq_self, decide_true, decide_false, not_true_eq_false, not_false_eq_true, reduceIte, reduceCtorEq, Nat.reduceEqDiff, Nat.reduceAdd, Nat.reduceSub, Nat.reduceLeDiff]
    rw [g4]
theorem valClos_fc (x : Pc) : FC Try.prog 160 none [.ag (pcC x)] (fun _ r => r = bv (decide (x.q = 2))) := by
  refine fc_valClos (by simp +arith) ?_
  unfold C_valClos
  simp (maxSteps := 1000000) (disch := omega) only [go_sem, eq_self, decide_true, decide_false, not_true_eq_false, not_false_eq_true, reduceIte, reduceCtorEq, Nat.reduceEqDiff, Nat.reduceAdd, Nat.reduceSub, Nat.reduceLeDiff]
def vals (f t : Int) (l : List Smp) : List Pc := (pcsGo f t l).filter fun x => !decide (x.q = 2)
theorem valued_fc (l : List Smp) (hl : l.length ≤ 5000) (f t : Int) : FC Try.prog 114 none [smps false l, winV f t] (fun _ r => r = pcsV true (vals f t l)) := by
  refine fc_valued (by simp +arith) ?_
  have hp := pcsGo_len f t l
  unfold C_valued
  simp (maxSteps := 1000000) (disch := omega) only [go_sem, eq_self, decide_true, decide_false, not_true_eq_false, not_false_eq_true, reduceIte, reduceCtorEq, Nat.reduceEqDiff, Nat.reduceAdd, Nat.reduceSub, Nat.reduceLeDiff]
  refine ⟨rfl, CALLM_det (pieces_fcm l hl f t) ⟨rfl, rfl⟩ ?_⟩
  simp (maxSteps := 1000000) (disch := omega) only [go_sem, eq_self, decide_true, decide_false, not_true_eq_false, not_false_eq_true, reduceIte, reduceCtorEq, Nat.reduceEqDiff, Nat.reduceAdd, Nat.reduceSub, Nat.reduceLeDiff]
  refine ⟨rfl, CALLM_rnE ⟨[], [(5, pcRow (vals f t l))]⟩ (.one (.ow 5 0)) (fun k => k) (swp 5 1000000) (fun _ => rfl) (swp_swp 5 1000000) (del4_fcm 160 (fun x => decide (x.q = 2)) (pcsGo f t l) (by omega) (fun x => valClos_fc x)) (by simp) rfl rfl rfl rfl ⟨rfl, rfl⟩ ?_⟩
  simp (maxSteps := 1000000) (disch := omega) only [go_sem, eq_self, decide_true, decide_false, not_true_eq_false, not_false_eq_true, reduceIte, reduceCtorEq, Nat.reduceEqDiff, Nat.reduceAdd, Nat.reduceSub, Nat.reduceLeDiff]
end Go.Proofs.Ytggbcgldnjmobaa

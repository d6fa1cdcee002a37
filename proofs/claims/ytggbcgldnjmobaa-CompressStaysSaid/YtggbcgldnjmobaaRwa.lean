
/-
  A compression hands back new rows: add and flush.
-/
import Derived.Test.YtggbcgldnjmobaaSta
namespace Go.Proofs.Ytggbcgldnjmobaa
open Go Go.Ai
set_option linter.unusedSimpArgs false
set_option linter.unusedVariables false
set_option maxHeartbeats 4000000
def A_addR : List Ann := [⟨(some ⟨[0,2,3], [0,2,3], [5,20]⟩), [], [], [], []⟩, ⟨(some ⟨[0,2,3,12], [0,2,3], [5,20]⟩), [], [], [], []⟩, ⟨(some ⟨[0,2,3], [0,2,3], [5,20]⟩), [], [], [], []⟩, ⟨(some ⟨[3], [0,3], [5,20]⟩), [], [], [], []⟩, ⟨(some ⟨[4], [0], [5,20]⟩), [], [], [], [(20, ⟨[], [], [], [], []⟩)]⟩, ⟨(some ⟨[0,2,3,5], [0,2,3,5], [20]⟩), [(1000005, 38, 3)], [], [], []⟩, ⟨(some ⟨[0,2,3,5,6], [0,2,3,5], [5,20]⟩), [], [], [], []⟩, ⟨(some ⟨[0,2,3,5,6,7], [0,2,3,5], [5,20]⟩), [], [], [], []⟩, ⟨(some ⟨[0,2,3,5,6,7,36], [0,2,3,5], [5,20]⟩), [], [], [], []⟩, ⟨(some ⟨[0,2,3,5], [0,2,3,5], [5,20]⟩), [], [], [], [(46, ⟨[0,2,5], [5], [0,2,5], [5], []⟩)]⟩, ⟨(some ⟨[0,2,3,5], [0,2,3,5], [5,20]⟩), [], [], [], []⟩, ⟨(some ⟨[5], [0,5], [5,20]⟩), [], [], [], []⟩, ⟨(some ⟨[4], [0], [5,20]⟩), [], [], [], []⟩, ⟨(some ⟨[0,2,3,5,6,7,55], [0,2,3,5], [5,20]⟩), [], [], [], []⟩, ⟨(some ⟨[0,2,3,5,6,59], [0,2,3,5], [5,20]⟩), [], [], [], []⟩, ⟨(some ⟨[0,2,3,5], [0,2,3,5], [5,20]⟩), [], [], [], [(61, ⟨[0,2,5], [5], [0,2,5], [5], []⟩)]⟩, ⟨(some ⟨[0,2,3,5,6,62], [0,2,3,5], [5,20]⟩), [], [], [], [(73, ⟨[0], [], [0], [], []⟩)]⟩, ⟨(some ⟨[0,2,3,5], [0,2,3,5], [5,20]⟩), [], [], [], [(77, ⟨[0,2,5], [5], [0,2,5], [5], []⟩)]⟩, ⟨(some ⟨[0,2,3,5,80], [0,2,3,5], [5,20]⟩), [], [], [], []⟩, ⟨(some ⟨[0,2,3,5], [0,2,3,5], [5,20]⟩), [], [], [], [(94, ⟨[0], [], [0], [], []⟩)]⟩, ⟨(some ⟨[5], [0,5], [5,20]⟩), [], [], [], []⟩, ⟨(some ⟨[4], [0], [5,20]⟩), [], [], [], []⟩]
def C_addR : AC := (.seq (.reg false [⟨(some 2), none, .box (.t 0)⟩, ⟨(some 3), none, .box (.t 1)⟩, ⟨(some 4), none, .mv (.v (.slice none 0 0))⟩] (some ⟨[0,2,3], [0,2,3], [5,20]⟩))
  (.seq (.seq (.reg false [⟨(some 8), none, .load false 1 (.t 2)⟩, ⟨(some 9), none, .nilchk (.t 8)⟩, ⟨(some 10), none, .fadr 2 (.t 9)⟩, ⟨(some 11), none, .load false 1 (.t 10)⟩, ⟨(some 12), none, .un .not (.t 11)⟩] (some ⟨[0,2,3,12], [0,2,3], [5,20]⟩))
  (.cond (.t 12)
  (.seq (.reg false [⟨(some 13), none, .load false 1 (.t 2)⟩, ⟨(some 14), none, .nilchk (.t 13)⟩, ⟨(some 15), none, .fadr 2 (.t 14)⟩, ⟨none, none, .store 1 (.t 15) (.v (.bool true))⟩] (some ⟨[0,2,3], [0,2,3], [5,20]⟩))
  (.seq (.reg false [⟨(some 16), none, .load false 1 (.t 2)⟩, ⟨(some 17), none, .load true 3 (.t 3)⟩, ⟨(some 18), none, .callx (.f 138) [(.t 16), (.t 17)]⟩] (some ⟨[3], [0,3], [5,20]⟩))
  (.seq (.reg false [⟨(some 19), none, .load true 3 (.t 3)⟩, ⟨(some 20), none, .bslr 38 3 1 [(.t 19)]⟩, ⟨(some 4), none, .mv (.t 20)⟩] (some ⟨[4], [0], [5,20]⟩))
  .ret)))
  .skip))
  (.seq (.seq (.reg false [⟨(some 5), none, .alloc [(.slice none 0 0)]⟩] (some ⟨[0,2,3,5], [0,2,3,5], [20]⟩))
  (.ownb 5 38 3))
  (.seq (.reg false [⟨(some 21), none, .mkfn 139 [(.t 2), (.t 5)]⟩, ⟨(some 6), none, .mv (.t 21)⟩] (some ⟨[0,2,3,5,6], [0,2,3,5], [5,20]⟩))
  (.seq (.reg true [⟨(some 22), none, .fadr 0 (.t 3)⟩, ⟨(some 23), none, .load false 1 (.t 22)⟩, ⟨(some 24), none, .load false 1 (.t 2)⟩, ⟨(some 25), none, .nilchk (.t 24)⟩, ⟨(some 26), none, .fadr 3 (.t 25)⟩, ⟨(some 27), none, .fadr 0 (.t 26)⟩, ⟨(some 28), none, .load false 1 (.t 27)⟩, ⟨(some 29), none, .bin .sub (.t 23) (.t 28)⟩, ⟨(some 30), none, .load false 1 (.t 2)⟩, ⟨(some 31), none, .nilchk (.t 30)⟩, ⟨(some 32), none, .fadr 0 (.t 31)⟩, ⟨(some 33), none, .fadr 1 (.t 32)⟩, ⟨(some 34), none, .load false 1 (.t 33)⟩, ⟨(some 35), none, .bin .gtr (.t 29) (.t 34)⟩, ⟨(some 7), none, .mv (.t 35)⟩] (some ⟨[0,2,3,5,6,7], [0,2,3,5], [5,20]⟩))
  (.seq (.block 0 (.seq (.reg true [⟨(some 37), none, .fadr 2 (.t 3)⟩, ⟨(some 38), none, .load false 1 (.t 37)⟩, ⟨(some 39), none, .load false 1 (.t 2)⟩, ⟨(some 40), none, .nilchk (.t 39)⟩, ⟨(some 41), none, .fadr 3 (.t 40)⟩, ⟨(some 42), none, .fadr 2 (.t 41)⟩, ⟨(some 43), none, .load false 1 (.t 42)⟩, ⟨(some 44), none, .bin .neq (.t 38) (.t 43)⟩, ⟨(some 36), none, .mv (.t 44)⟩] (some ⟨[0,2,3,5,6,7,36], [0,2,3,5], [5,20]⟩))
  (.cond (.t 36)
  (.seq (.reg false [⟨(some 45), none, .mv (.t 6)⟩, ⟨(some 46), none, .callm (.t 45) [] ⟨[0,2,5], [5], [0,2,5], [5], []⟩⟩] (some ⟨[0,2,3,5], [0,2,3,5], [5,20]⟩))
  (.seq (.reg false [⟨(some 47), none, .load false 1 (.t 5)⟩, ⟨(some 48), none, .load true 3 (.t 3)⟩, ⟨(some 49), none, .bslice 3 1 [(.t 48)]⟩, ⟨(some 50), none, .append 38 3 24 (.t 47) (.t 49)⟩, ⟨none, none, .store 1 (.t 5) (.t 50)⟩] (some ⟨[0,2,3,5], [0,2,3,5], [5,20]⟩))
  (.seq (.reg false [⟨(some 51), none, .load false 1 (.t 2)⟩, ⟨(some 52), none, .load true 3 (.t 3)⟩, ⟨(some 53), none, .callx (.f 138) [(.t 51), (.t 52)]⟩] (some ⟨[5], [0,5], [5,20]⟩))
  (.seq (.reg false [⟨(some 54), none, .load false 1 (.t 5)⟩, ⟨(some 4), none, .mv (.t 54)⟩] (some ⟨[4], [0], [5,20]⟩))
  .ret))))
  (.seq (.reg false [⟨(some 56), none, .fadr 2 (.t 3)⟩, ⟨(some 57), none, .load false 1 (.t 56)⟩, ⟨(some 58), none, .bin .eql (.t 57) (.v (.int .i64 (2)))⟩, ⟨(some 55), none, .mv (.t 58)⟩] (some ⟨[0,2,3,5,6,7,55], [0,2,3,5], [5,20]⟩))
  (.cond (.t 55)
  (.seq (.reg false [⟨(some 59), none, .mv (.t 7)⟩] (some ⟨[0,2,3,5,6,59], [0,2,3,5], [5,20]⟩))
  (.cond (.t 59)
  (.reg false [⟨(some 60), none, .mv (.t 6)⟩, ⟨(some 61), none, .callm (.t 60) [] ⟨[0,2,5], [5], [0,2,5], [5], []⟩⟩] (some ⟨[0,2,3,5], [0,2,3,5], [5,20]⟩))
  .skip))
  (.seq (.reg true [⟨(some 63), none, .mv (.t 7)⟩, ⟨(some 64), none, .mv (.t 63)⟩, ⟨(some 65), (some (64, false)), .load false 1 (.t 2)⟩, ⟨(some 66), (some (64, false)), .nilchk (.t 65)⟩, ⟨(some 67), (some (64, false)), .fadr 9 (.t 66)⟩, ⟨(some 68), (some (64, false)), .load false 1 (.t 2)⟩, ⟨(some 69), (some (64, false)), .nilchk (.t 68)⟩, ⟨(some 70), (some (64, false)), .fadr 3 (.t 69)⟩, ⟨(some 71), (some (64, false)), .load true 3 (.t 70)⟩, ⟨(some 72), (some (64, false)), .load true 3 (.t 3)⟩, ⟨(some 73), (some (64, false)), .callm (.f 140) [(.t 67), (.t 71), (.t 72)] ⟨[0], [], [0], [], []⟩⟩, ⟨(some 74), (some (64, false)), .un .not (.t 73)⟩, ⟨(some 75), none, .pick (.t 64) (.v (.bool true)) (.t 74)⟩, ⟨(some 62), none, .mv (.t 75)⟩] (some ⟨[0,2,3,5,6,62], [0,2,3,5], [5,20]⟩))
  (.cond (.t 62)
  (.reg false [⟨(some 76), none, .mv (.t 6)⟩, ⟨(some 77), none, .callm (.t 76) [] ⟨[0,2,5], [5], [0,2,5], [5], []⟩⟩] (some ⟨[0,2,3,5], [0,2,3,5], [5,20]⟩))
  .skip)))))))
  (.seq (.seq (.reg false [⟨(some 78), none, .fadr 2 (.t 3)⟩, ⟨(some 79), none, .load false 1 (.t 78)⟩, ⟨(some 80), none, .bin .neq (.t 79) (.v (.int .i64 (2)))⟩] (some ⟨[0,2,3,5,80], [0,2,3,5], [5,20]⟩))
  (.cond (.t 80)
  (.reg true [⟨(some 81), none, .load false 1 (.t 2)⟩, ⟨(some 82), none, .nilchk (.t 81)⟩, ⟨(some 83), none, .fadr 9 (.t 82)⟩, ⟨(some 84), none, .load false 1 (.t 2)⟩, ⟨(some 85), none, .nilchk (.t 84)⟩, ⟨(some 86), none, .fadr 3 (.t 85)⟩, ⟨(some 87), none, .load true 3 (.t 86)⟩, ⟨(some 88), none, .load true 3 (.t 3)⟩, ⟨(some 89), none, .load false 1 (.t 2)⟩, ⟨(some 90), none, .nilchk (.t 89)⟩, ⟨(some 91), none, .fadr 0 (.t 90)⟩, ⟨(some 92), none, .fadr 0 (.t 91)⟩, ⟨(some 93), none, .load false 1 (.t 92)⟩, ⟨(some 94), none, .callm (.f 141) [(.t 83), (.t 87), (.t 88), (.t 93)] ⟨[0], [], [0], [], []⟩⟩] (some ⟨[0,2,3,5], [0,2,3,5], [5,20]⟩))
  .skip))
  (.seq (.reg false [⟨(some 95), none, .load false 1 (.t 2)⟩, ⟨(some 96), none, .load true 3 (.t 3)⟩, ⟨(some 97), none, .nilchk (.t 95)⟩, ⟨(some 98), none, .fadr 6 (.t 97)⟩, ⟨none, none, .store 3 (.t 98) (.t 96)⟩] (some ⟨[5], [0,5], [5,20]⟩))
  (.seq (.reg false [⟨(some 99), none, .load false 1 (.t 5)⟩, ⟨(some 4), none, .mv (.t 99)⟩] (some ⟨[4], [0], [5,20]⟩))
  .ret)))))))))
theorem c_addR : compileCode Try.prog Try.f79.ntmps (Try.f79.body.getD .skip) A_addR = some (C_addR, []) := by kernel_rfl
theorem r_addR : compileRes Try.prog Try.f79.results.toList = some [.t 4] := by kernel_rfl
theorem b_addR : Try.f79.body = some (Try.f79.body.getD .skip) := by kernel_rfl
theorem n_addR : (Try.f79.name == "runtime.NumGoroutine") = false := by kernel_rfl
theorem fcm_addR {H : Hp} {K : Keep} {args : List Val} {R : Hp → Val → Prop} (hn : args.length ≤ Try.f79.ntmps) (hkb : ∀ p ∈ H.bs, p.1 = 0 ∨ XK ≤ p.1) (hkr : ∀ p ∈ H.rs, XK ≤ p.1) (h : ex Try.prog C_addR [] (mpost H K [.t 4] R) (initM H args)) : FCM Try.prog 79 H args R :=
  fcm_of_awp Try.func79 b_addR n_addR c_addR r_addR (of_decide_eq_true (by kernel_rfl)) hn hkb hkr h
theorem fcms_addR {S : List Nat} {H : Hp} {K : Keep} {args : List Val} {R : Hp → Val → Prop} (hn : args.length ≤ Try.f79.ntmps) (hkb : ∀ p ∈ H.bs, p.1 = 0 ∨ XK ≤ p.1) (hkr : ∀ p ∈ H.rs, XK ≤ p.1) (h : ex Try.prog C_addR [] (mpostS S H K [.t 4] R) (initM H args))   : FCMS Try.prog 79 S H args R :=
  fcms_of_awp Try.func79 b_addR n_addR c_addR r_addR (of_decide_eq_true (by kernel_rfl)) hn hkb hkr h

def A_flushR : List Ann := [⟨(some ⟨[0], [0], [3]⟩), [], [], [], []⟩, ⟨(some ⟨[0,3], [0], []⟩), [(3, 38, 3)], [], [], []⟩, ⟨(some ⟨[0,3,18], [0], [3]⟩), [], [], [], []⟩, ⟨(some ⟨[0,3], [0], [3]⟩), [], [], [], []⟩, ⟨(some ⟨[3], [0], [3]⟩), [], [], [], []⟩, ⟨(some ⟨[2], [0], [3]⟩), [], [], [], []⟩]
def C_flushR : AC := (.seq (.reg false [⟨(some 2), none, .mv (.v (.slice none 0 0))⟩] (some ⟨[0], [0], [3]⟩))
  (.seq (.seq (.reg false [⟨(some 3), none, .mv (.v (.slice none 0 0))⟩] (some ⟨[0,3], [0], []⟩))
  (.own 3 38 3))
  (.seq (.seq (.reg true [⟨(some 4), none, .mv (.t 0)⟩, ⟨(some 5), none, .nilchk (.t 4)⟩, ⟨(some 6), none, .fadr 2 (.t 5)⟩, ⟨(some 7), none, .load false 1 (.t 6)⟩, ⟨(some 8), none, .mv (.t 7)⟩, ⟨(some 9), (some (8, true)), .mv (.t 0)⟩, ⟨(some 10), (some (8, true)), .nilchk (.t 9)⟩, ⟨(some 11), (some (8, true)), .fadr 6 (.t 10)⟩, ⟨(some 12), (some (8, true)), .load true 3 (.t 11)⟩, ⟨(some 13), (some (8, true)), .mv (.t 0)⟩, ⟨(some 14), (some (8, true)), .nilchk (.t 13)⟩, ⟨(some 15), (some (8, true)), .fadr 3 (.t 14)⟩, ⟨(some 16), (some (8, true)), .load true 3 (.t 15)⟩, ⟨(some 17), (some (8, true)), .eqs true true [.i .i64, .i .i64, .i .i64] (.t 12) (.t 16)⟩, ⟨(some 18), none, .pick (.t 8) (.t 17) (.v (.bool false))⟩] (some ⟨[0,3,18], [0], [3]⟩))
  (.cond (.t 18)
  (.reg false [⟨(some 19), none, .mv (.t 3)⟩, ⟨(some 20), none, .mv (.t 0)⟩, ⟨(some 21), none, .nilchk (.t 20)⟩, ⟨(some 22), none, .fadr 6 (.t 21)⟩, ⟨(some 23), none, .load true 3 (.t 22)⟩, ⟨(some 24), none, .bslice 3 1 [(.t 23)]⟩, ⟨(some 25), none, .append 38 3 24 (.t 19) (.t 24)⟩, ⟨(some 3), none, .mv (.t 25)⟩] (some ⟨[0,3], [0], [3]⟩))
  .skip))
  (.seq (.reg false [⟨(some 26), none, .mv (.t 0)⟩, ⟨(some 27), none, .mv (.t 0)⟩, ⟨(some 28), none, .nilchk (.t 27)⟩, ⟨(some 29), none, .fadr 0 (.t 28)⟩, ⟨(some 30), none, .load true 2 (.t 29)⟩, ⟨(some 31), none, .build [(.int .i64 (0)), (.int .i64 (0)), (.bool false), (.int .i64 (0)), (.int .i64 (0)), (.int .i64 (0)), (.int .i64 (0)), (.int .i64 (0)), (.int .i64 (0)), (.bool false), (.int .i64 (0)), (.int .i64 (0)), (.int .i64 (0)), (.int .i64 (0))] [(0, 2, (.t 30))]⟩, ⟨(some 32), none, .nilchk (.t 26)⟩, ⟨none, none, .store 14 (.t 32) (.t 31)⟩] (some ⟨[3], [0], [3]⟩))
  (.seq (.reg false [⟨(some 33), none, .mv (.t 3)⟩, ⟨(some 2), none, .mv (.t 33)⟩] (some ⟨[2], [0], [3]⟩))
  .ret)))))
theorem c_flushR : compileCode Try.prog Try.f81.ntmps (Try.f81.body.getD .skip) A_flushR = some (C_flushR, []) := by kernel_rfl
theorem r_flushR : compileRes Try.prog Try.f81.results.toList = some [.t 2] := by kernel_rfl
theorem b_flushR : Try.f81.body = some (Try.f81.body.getD .skip) := by kernel_rfl
theorem n_flushR : (Try.f81.name == "runtime.NumGoroutine") = false := by kernel_rfl
theorem fcm_flushR {H : Hp} {K : Keep} {args : List Val} {R : Hp → Val → Prop} (hn : args.length ≤ Try.f81.ntmps) (hkb : ∀ p ∈ H.bs, p.1 = 0 ∨ XK ≤ p.1) (hkr : ∀ p ∈ H.rs, XK ≤ p.1) (h : ex Try.prog C_flushR [] (mpost H K [.t 2] R) (initM H args)) : FCM Try.prog 81 H args R :=
  fcm_of_awp Try.func81 b_flushR n_flushR c_flushR r_flushR (of_decide_eq_true (by kernel_rfl)) hn hkb hkr h
theorem fcms_flushR {S : List Nat} {H : Hp} {K : Keep} {args : List Val} {R : Hp → Val → Prop} (hn : args.length ≤ Try.f81.ntmps) (hkb : ∀ p ∈ H.bs, p.1 = 0 ∨ XK ≤ p.1) (hkr : ∀ p ∈ H.rs, XK ≤ p.1) (h : ex Try.prog C_flushR [] (mpostS S H K [.t 2] R) (initM H args))   : FCMS Try.prog 81 S H args R :=
  fcms_of_awp Try.func81 b_flushR n_flushR c_flushR r_flushR (of_decide_eq_true (by kernel_rfl)) hn hkb hkr h


set_option maxHeartbeats 12000000 in
set_option maxRecDepth 8000 in
theorem addR_new (x : Sc) (o : Option Int) (s : Smp) (hb : x.b = false) :
    FCM Try.prog 79 ⟨[(0, scC x o)], []⟩ [.one (.bx 0 0), .ag (smpC s)] (fun H r => H = ⟨[(0, scC (addS x s).1 o)], [(20, smpRow (addS x s).2)]⟩ ∧ r = .one (.ow 20 0)) := by
  refine fcm_addR (K := ⟨[], [0], [20]⟩) (by simp +arith) (by simp) (by simp) ?_
  unfold C_addR addS
  have ha := archive_fc ⟨x.dv, x.mg, true, x.p, x.h, x.c, x.lr, x.ln, x.hr, x.hn⟩ o s
  unfold scC at ha ⊢
  rw [hb]
  simp (maxSteps := 1000000) (disch := omega) only [go_sem, eq_self, decide_true, decide_false, not_true_eq_false, not_false_eq_true, reduceIte, reduceCtorEq, Nat.reduceEqDiff, Nat.reduceAdd, Nat.reduceSub, Nat.reduceLeDiff]
  refine CALLX_det ha rfl (sc_data (arch ⟨x.dv, x.mg, true, x.p, x.h, x.c, x.lr, x.ln, x.hr, x.hn⟩ s) o) ?_
  unfold arch
  simp (maxSteps := 1000000) (disch := omega) only [go_sem, eq_self, decide_true, decide_false, not_true_eq_false, not_false_eq_true, reduceIte, reduceCtorEq, Nat.reduceEqDiff, Nat.reduceAdd, Nat.reduceSub, Nat.reduceLeDiff]
  rfl
set_option maxHeartbeats 12000000 in
set_option maxRecDepth 8000 in
theorem addR_old (x : Sc) (o : Option Int) (s : Smp) (hb : x.b = true) (hk : OkX x s) :
    FCM Try.prog 79 ⟨[(0, scC x o)], []⟩ [.one (.bx 0 0), .ag (smpC s)] (fun H r => H = ⟨[(0, scC (addS x s).1 o)], [(5, smpRow (addS x s).2)]⟩ ∧ r = .one (.ow 5 0)) := by
  refine fcm_addR (K := ⟨[], [0], [5]⟩) (by simp +arith) (by simp) (by simp) ?_
  unfold C_addR addS
  obtain ⟨k1, k2, k3, k4⟩ := keepS_ok hk
  have hK := fun {Q : AX → AS → Prop} {s : AS} {k : List KI} {kp : Option Keep} {l : List GI} {d : Option Nat} => CALLM_keep (Q := Q) (s := s) (k := k) (kp := kp) (l := l) x o (d := d)
  have p1 := hk.okp
  have p2 := hk.oks
  have p3 := hk.lep
  have p4 := k1.okp
  have p5 := k1.lep
  have p6 := hk.okd
  have p7 := hk.okm
  have p8 := hk.okc
  have p9 := k1.okc
  unfold okSmp at p1 p2 p4
  by_cases c1 : s.q = x.p.q
  · rw [if_neg (by rw [hb]; simp), if_neg (show ¬(s.q ≠ x.p.q) from fun h => h c1)]
    by_cases c2 : s.q = 2
    · rw [if_pos c2]
      by_cases c3 : s.a - x.p.a > x.mg
      · rw [if_pos c3]
        unfold scC at hK ⊢
        rw [hb] at hK ⊢
        generalize keepS x [] = y at *
        obtain ⟨y, out⟩ := y
        simp only at k1 k2 k3 k4 p4 p5 p9 hK
        simp (maxSteps := 1000000) (disch := omega) only [go_sem, eq_self, decide_true, decide_false, not_true_eq_false, not_false_eq_true, reduceIte, reduceCtorEq, Nat.reduceEqDiff, Nat.reduceAdd, Nat.reduceSub, Nat.reduceLeDiff]
        refine ⟨rfl, hK ?_⟩
        unfold hldS
        simp (maxSteps := 1000000) (disch := omega) only [go_sem, eq_self, decide_true, decide_false, not_true_eq_false, not_false_eq_true, reduceIte, reduceCtorEq, Nat.reduceEqDiff, Nat.reduceAdd, Nat.reduceSub, Nat.reduceLeDiff]
      · rw [if_neg c3]
        unfold scC
        rw [hb]
        unfold hldS
        simp (maxSteps := 1000000) (disch := omega) only [go_sem, eq_self, decide_true, decide_false, not_true_eq_false, not_false_eq_true, reduceIte, reduceCtorEq, Nat.reduceEqDiff, Nat.reduceAdd, Nat.reduceSub, Nat.reduceLeDiff]
        first | (rw [hb]; done) | (rw [hb]; rfl)
    · rw [if_neg c2]
      have hn := fun (x : Sc) (h1 : okC x) (h2 : -2000000 ≤ s.v - x.p.v ∧ s.v - x.p.v ≤ 2000000) (h3 : 0 ≤ s.a - x.p.a ∧ s.a - x.p.a ≤ 345686400000) (h4 : 0 ≤ x.dv ∧ x.dv ≤ 2000000) => narrow_fcm x o x.p s x.dv h1 h2 h3 h4
      have hny := hn (keepS x []).1 p9 (by omega) (by omega) (by omega)
      have hnx := hn x p8 (by omega) (by omega) (by omega)
      have hhas := has_fcm x o x.p s p8 (by omega) (by omega)
      clear hn
      by_cases c3 : s.a - x.p.a > x.mg
      · rw [if_pos (.inl c3), ← k3]
        unfold scC at hK hny ⊢
        rw [hb] at hK k2 ⊢
        generalize keepS x [] = y at *
        obtain ⟨y, out⟩ := y
        simp only at k1 k2 k3 k4 p4 p5 p9 hK hny
        simp (maxSteps := 1000000) (disch := omega) only [go_sem, eq_self, decide_true, decide_false, not_true_eq_false, not_false_eq_true, reduceIte, reduceCtorEq, Nat.reduceEqDiff, Nat.reduceAdd, Nat.reduceSub, Nat.reduceLeDiff]
        refine ⟨rfl, hK ?_⟩
        simp (maxSteps := 1000000) (disch := omega) only [go_sem, eq_self, decide_true, decide_false, not_true_eq_false, not_false_eq_true, reduceIte, reduceCtorEq, Nat.reduceEqDiff, Nat.reduceAdd, Nat.reduceSub, Nat.reduceLeDiff]
        refine ⟨rfl, CALLM_det hny ⟨rfl, rfl⟩ ?_⟩
        unfold hldS
        simp (maxSteps := 1000000) (disch := omega) only [go_sem, eq_self, decide_true, decide_false, not_true_eq_false, not_false_eq_true, reduceIte, reduceCtorEq, Nat.reduceEqDiff, Nat.reduceAdd, Nat.reduceSub, Nat.reduceLeDiff]
      · cases hh : hasB x x.p s with
        | true =>
          rw [if_neg (by rintro (h | h); exact c3 h; cases h)]
          rw [hh] at hhas
          unfold scC at hhas hnx ⊢
          rw [hb] at hhas hnx ⊢
          clear hK
          simp (maxSteps := 1000000) (disch := omega) only [go_sem, eq_self, decide_true, decide_false, not_true_eq_false, not_false_eq_true, reduceIte, reduceCtorEq, Nat.reduceEqDiff, Nat.reduceAdd, Nat.reduceSub, Nat.reduceLeDiff]
          refine ⟨rfl, CALLM_det hhas ⟨rfl, rfl⟩ ?_⟩
          simp (maxSteps := 1000000) (disch := omega) only [go_sem, eq_self, decide_true, decide_false, not_true_eq_false, not_false_eq_true, reduceIte, reduceCtorEq, Nat.reduceEqDiff, Nat.reduceAdd, Nat.reduceSub, Nat.reduceLeDiff]
          refine ⟨rfl, CALLM_det hnx ⟨rfl, rfl⟩ ?_⟩
          unfold hldS
          simp (maxSteps := 1000000) (disch := omega) only [go_sem, eq_self, decide_true, decide_false, not_true_eq_false, not_false_eq_true, reduceIte, reduceCtorEq, Nat.reduceEqDiff, Nat.reduceAdd, Nat.reduceSub, Nat.reduceLeDiff]
          rfl
        | false =>
          rw [if_pos (.inr rfl), ← k3]
          rw [hh] at hhas
          unfold scC at hK hny hhas ⊢
          rw [hb] at hK k2 hhas ⊢
          generalize keepS x [] = y at *
          obtain ⟨y, out⟩ := y
          simp only at k1 k2 k3 k4 p4 p5 p9 hK hny
          simp (maxSteps := 1000000) (disch := omega) only [go_sem, eq_self, decide_true, decide_false, not_true_eq_false, not_false_eq_true, reduceIte, reduceCtorEq, Nat.reduceEqDiff, Nat.reduceAdd, Nat.reduceSub, Nat.reduceLeDiff]
          refine ⟨rfl, CALLM_det hhas ⟨rfl, rfl⟩ ?_⟩
          simp (maxSteps := 1000000) (disch := omega) only [go_sem, eq_self, decide_true, decide_false, not_true_eq_false, not_false_eq_true, reduceIte, reduceCtorEq, Nat.reduceEqDiff, Nat.reduceAdd, Nat.reduceSub, Nat.reduceLeDiff]
          refine ⟨rfl, hK ?_⟩
          simp (maxSteps := 1000000) (disch := omega) only [go_sem, eq_self, decide_true, decide_false, not_true_eq_false, not_false_eq_true, reduceIte, reduceCtorEq, Nat.reduceEqDiff, Nat.reduceAdd, Nat.reduceSub, Nat.reduceLeDiff]
          refine ⟨rfl, CALLM_det hny ⟨rfl, rfl⟩ ?_⟩
          unfold hldS
          simp (maxSteps := 1000000) (disch := omega) only [go_sem, eq_self, decide_true, decide_false, not_true_eq_false, not_false_eq_true, reduceIte, reduceCtorEq, Nat.reduceEqDiff, Nat.reduceAdd, Nat.reduceSub, Nat.reduceLeDiff]
  · rw [if_neg (by rw [hb]; simp), if_pos c1]
    have ha := archive_fc (keepS x []).1 o s
    have hsd := sc_data (arch (keepS x []).1 s) o
    unfold scC at hK ha hsd ⊢
    rw [hb] at hK ⊢
    generalize keepS x [] = y at *
    obtain ⟨y, out⟩ := y
    simp only at k1 k2 k3 k4 p4 p5 ha hK hsd
    simp (maxSteps := 1000000) (disch := omega) only [go_sem, eq_self, decide_true, decide_false, not_true_eq_false, not_false_eq_true, reduceIte, reduceCtorEq, Nat.reduceEqDiff, Nat.reduceAdd, Nat.reduceSub, Nat.reduceLeDiff]
    refine ⟨rfl, hK ?_⟩
    simp (maxSteps := 1000000) (disch := omega) only [go_sem, eq_self, decide_true, decide_false, not_true_eq_false, not_false_eq_true, reduceIte, reduceCtorEq, Nat.reduceEqDiff, Nat.reduceAdd, Nat.reduceSub, Nat.reduceLeDiff]
    refine CALLX_det ha rfl hsd ?_
    unfold arch
    simp (maxSteps := 1000000) (disch := omega) only [go_sem, eq_self, decide_true, decide_false, not_true_eq_false, not_false_eq_true, reduceIte, reduceCtorEq, Nat.reduceEqDiff, Nat.reduceAdd, Nat.reduceSub, Nat.reduceLeDiff]
    simp only [smpRow, List.map_append, List.map_cons, List.map_nil, smpC_eq]
theorem flushR_fcm (x : Sc) (o : Option Int) : FCM Try.prog 81 ⟨[(0, scC x o)], []⟩ [.one (.bx 0 0)] (fun H r => H = ⟨[(0, scC (fluS x).1 o)], [(3, smpRow (fluS x).2)]⟩ ∧ r = .one (.ow 3 0)) := by
  refine fcm_flushR (K := ⟨[], [0], [3]⟩) (by simp +arith) (by simp) (by simp) ?_
  unfold C_flushR fluS
  cases hb : x.b with
  | false =>
    rw [if_neg (by simp)]
    unfold scC
    rw [hb]
    simp (maxSteps := 1000000) (disch := omega) only [go_sem, eq_self, decide_true, decide_false, not_true_eq_false, not_false_eq_true, reduceIte, reduceCtorEq, Nat.reduceEqDiff, Nat.reduceAdd, Nat.reduceSub, Nat.reduceLeDiff]
    rfl
  | true =>
    by_cases hs : sm x.h x.p
    · rw [if_neg (fun h => h.2 hs)]
      unfold sm at hs
      unfold scC
      rw [hb]
      simp (maxSteps := 1000000) (disch := omega) only [go_sem, eq_self, decide_true, decide_false, not_true_eq_false, not_false_eq_true, reduceIte, reduceCtorEq, Nat.reduceEqDiff, Nat.reduceAdd, Nat.reduceSub, Nat.reduceLeDiff]
      rfl
    · rw [if_pos ⟨rfl, hs⟩]
      unfold sm at hs
      unfold scC
      rw [hb]
      simp (maxSteps := 1000000) (disch := omega) only [go_sem, eq_self, decide_true, decide_false, not_true_eq_false, not_false_eq_true, reduceIte, reduceCtorEq, Nat.reduceEqDiff, Nat.reduceAdd, Nat.reduceSub, Nat.reduceLeDiff]
      rfl
end Go.Proofs.Ytggbcgldnjmobaa

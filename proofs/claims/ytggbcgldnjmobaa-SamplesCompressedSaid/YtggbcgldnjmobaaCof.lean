
/-
  The reference's compression of a whole series, and what a compressor does with a sample.
-/
import Derived.Test.YtggbcgldnjmobaaStp
import Derived.Test.YtggbcgldnjmobaaSta
namespace Go.Proofs.Ytggbcgldnjmobaa
open Go Go.Ai
set_option linter.unusedSimpArgs false
set_option linter.unusedVariables false
set_option maxHeartbeats 4000000
def A_keptOf : List Ann := [⟨(some ⟨[0,1], [], []⟩), [], [], [], []⟩, ⟨(some ⟨[0,1,5], [], []⟩), [(5, 38, 3)], [], [], []⟩, ⟨(some ⟨[0,5,8,9,10], [], [5]⟩), [], [], [], []⟩, ⟨(some ⟨[0,5,8,9,10,11], [], [5]⟩), [], [], [], []⟩, ⟨(some ⟨[0,5,7,8,9,10], [], [5]⟩), [], [], [], []⟩, ⟨(some ⟨[0,5,8,9,10], [], [5]⟩), [], [], [], []⟩, ⟨(some ⟨[0,5,8,9,10], [], [5]⟩), [], [], [], []⟩, ⟨(some ⟨[4], [], []⟩), [], [], [], []⟩]
def C_keptOf : AC := (.seq (.reg false [⟨(some 4), none, .mv (.v (.slice none 0 0))⟩] (some ⟨[0,1], [], []⟩))
  (.seq (.seq (.reg false [⟨(some 5), none, .mv (.v (.slice none 0 0))⟩] (some ⟨[0,1,5], [], []⟩))
  (.own 5 38 3))
  (.seq (.seq (.reg false [⟨(some 8), none, .mv (.t 1)⟩, ⟨(some 9), none, .len (.t 8)⟩, ⟨(some 10), none, .mv (.v (.int .i64 (0)))⟩] (some ⟨[0,5,8,9,10], [], [5]⟩))
  (.block 0 (.loop (.seq (.reg false [⟨(some 11), none, .bin .lss (.t 10) (.t 9)⟩] (some ⟨[0,5,8,9,10,11], [], [5]⟩))
  (.seq (.cond (.t 11)
  .skip
  (.exit 0))
  (.seq (.block 1 (.seq (.reg false [⟨(some 12), none, .iadr 1 (.t 8) (.t 10)⟩, ⟨(some 13), none, .load false 1 (.t 12)⟩, ⟨(some 7), none, .mv (.t 13)⟩] (some ⟨[0,5,7,8,9,10], [], [5]⟩))
  (.reg false [⟨(some 14), none, .mv (.t 5)⟩, ⟨(some 15), none, .mv (.t 0)⟩, ⟨(some 16), none, .mv (.t 7)⟩, ⟨(some 17), none, .iadr 3 (.t 15) (.t 16)⟩, ⟨(some 18), none, .load true 3 (.t 17)⟩, ⟨(some 19), none, .bslice 3 1 [(.t 18)]⟩, ⟨(some 20), none, .append 38 3 24 (.t 14) (.t 19)⟩, ⟨(some 5), none, .mv (.t 20)⟩] (some ⟨[0,5,8,9,10], [], [5]⟩))))
  (.reg false [⟨(some 21), none, .bin .add (.t 10) (.v (.int .i64 (1)))⟩, ⟨(some 10), none, .mv (.t 21)⟩] (some ⟨[0,5,8,9,10], [], [5]⟩))))))))
  (.seq (.reg false [⟨(some 22), none, .mv (.t 5)⟩, ⟨(some 4), none, .mv (.t 22)⟩] (some ⟨[4], [], []⟩))
  .ret))))
theorem c_keptOf : compileCode Try.prog Try.f24.ntmps (Try.f24.body.getD .skip) A_keptOf = some (C_keptOf, []) := by kernel_rfl
theorem r_keptOf : compileRes Try.prog Try.f24.results.toList = some [.t 4] := by kernel_rfl
theorem b_keptOf : Try.f24.body = some (Try.f24.body.getD .skip) := by kernel_rfl
theorem n_keptOf : (Try.f24.name == "runtime.NumGoroutine") = false := by kernel_rfl
theorem fc_keptOf {xt : Option (List Cel)} {args : List Val} {R : List Cel → Val → Prop} (hn : (if xt.isSome then 1 else 0) + args.length ≤ Try.f24.ntmps) (h : ex Try.prog C_keptOf [] (fpost xt [.t 4] R) (initSt xt args)) : FC Try.prog 24 xt args R :=
  fc_of_awp Try.func24 b_keptOf n_keptOf c_keptOf r_keptOf (of_decide_eq_true (by kernel_rfl)) hn h

def A_eqSmp : List Ann := [⟨(some ⟨[0,1], [], []⟩), [], [], [], []⟩, ⟨(some ⟨[0,1,10], [], []⟩), [], [], [], []⟩, ⟨(some ⟨[4], [], []⟩), [], [], [], []⟩, ⟨(some ⟨[0,1,12,13], [], []⟩), [], [], [], []⟩, ⟨(some ⟨[0,1,12,13,14], [], []⟩), [], [], [], []⟩, ⟨(some ⟨[0,1,5,12,13], [], []⟩), [], [], [], []⟩, ⟨(some ⟨[0,1,12,13,24], [], []⟩), [], [], [], []⟩, ⟨(some ⟨[4], [], []⟩), [], [], [], []⟩, ⟨(some ⟨[0,1,12,13], [], []⟩), [], [], [], []⟩, ⟨(some ⟨[4], [], []⟩), [], [], [], []⟩]
def C_eqSmp : AC := (.seq (.reg false [⟨(some 4), none, .mv (.v (.bool false))⟩] (some ⟨[0,1], [], []⟩))
  (.seq (.seq (.reg false [⟨(some 6), none, .mv (.t 0)⟩, ⟨(some 7), none, .len (.t 6)⟩, ⟨(some 8), none, .mv (.t 1)⟩, ⟨(some 9), none, .len (.t 8)⟩, ⟨(some 10), none, .bin .neq (.t 7) (.t 9)⟩] (some ⟨[0,1,10], [], []⟩))
  (.cond (.t 10)
  (.seq (.reg false [⟨(some 4), none, .mv (.v (.bool false))⟩] (some ⟨[4], [], []⟩))
  .ret)
  .skip))
  (.seq (.seq (.reg false [⟨(some 11), none, .mv (.t 0)⟩, ⟨(some 12), none, .len (.t 11)⟩, ⟨(some 13), none, .mv (.v (.int .i64 (0)))⟩] (some ⟨[0,1,12,13], [], []⟩))
  (.block 0 (.loop (.seq (.reg false [⟨(some 14), none, .bin .lss (.t 13) (.t 12)⟩] (some ⟨[0,1,12,13,14], [], []⟩))
  (.seq (.cond (.t 14)
  .skip
  (.exit 0))
  (.seq (.block 1 (.seq (.reg false [⟨(some 15), none, .mv (.t 13)⟩, ⟨(some 5), none, .mv (.t 15)⟩] (some ⟨[0,1,5,12,13], [], []⟩))
  (.seq (.reg true [⟨(some 16), none, .mv (.t 0)⟩, ⟨(some 17), none, .mv (.t 5)⟩, ⟨(some 18), none, .iadr 3 (.t 16) (.t 17)⟩, ⟨(some 19), none, .load true 3 (.t 18)⟩, ⟨(some 20), none, .mv (.t 1)⟩, ⟨(some 21), none, .mv (.t 5)⟩, ⟨(some 22), none, .iadr 3 (.t 20) (.t 21)⟩, ⟨(some 23), none, .load true 3 (.t 22)⟩, ⟨(some 24), none, .eqs true true [.i .i64, .i .i64, .i .i64] (.t 19) (.t 23)⟩] (some ⟨[0,1,12,13,24], [], []⟩))
  (.cond (.t 24)
  (.seq (.reg false [⟨(some 4), none, .mv (.v (.bool false))⟩] (some ⟨[4], [], []⟩))
  .ret)
  .skip))))
  (.reg false [⟨(some 25), none, .bin .add (.t 13) (.v (.int .i64 (1)))⟩, ⟨(some 13), none, .mv (.t 25)⟩] (some ⟨[0,1,12,13], [], []⟩))))))))
  (.seq (.reg false [⟨(some 4), none, .mv (.v (.bool true))⟩] (some ⟨[4], [], []⟩))
  .ret))))
theorem c_eqSmp : compileCode Try.prog Try.f23.ntmps (Try.f23.body.getD .skip) A_eqSmp = some (C_eqSmp, []) := by kernel_rfl
theorem r_eqSmp : compileRes Try.prog Try.f23.results.toList = some [.t 4] := by kernel_rfl
theorem b_eqSmp : Try.f23.body = some (Try.f23.body.getD .skip) := by kernel_rfl
theorem n_eqSmp : (Try.f23.name == "runtime.NumGoroutine") = false := by kernel_rfl
theorem fc_eqSmp {xt : Option (List Cel)} {args : List Val} {R : List Cel → Val → Prop} (hn : (if xt.isSome then 1 else 0) + args.length ≤ Try.f23.ntmps) (h : ex Try.prog C_eqSmp [] (fpost xt [.t 4] R) (initSt xt args)) : FC Try.prog 23 xt args R :=
  fc_of_awp Try.func23 b_eqSmp n_eqSmp c_eqSmp r_eqSmp (of_decide_eq_true (by kernel_rfl)) hn h

def A_lineOff : List Ann := [⟨(some ⟨[3,4,5], [3,4,5], []⟩), [], [], [], []⟩, ⟨(some ⟨[6], [], []⟩), [], [], [], []⟩]
def C_lineOff : AC := (.seq (.reg false [⟨(some 3), none, .box (.t 0)⟩, ⟨(some 4), none, .box (.t 1)⟩, ⟨(some 5), none, .box (.t 2)⟩, ⟨(some 6), none, .mv (.v (.int .i64 (0)))⟩] (some ⟨[3,4,5], [3,4,5], []⟩))
  (.seq (.reg false [⟨(some 7), none, .fadr 1 (.t 3)⟩, ⟨(some 8), none, .load false 1 (.t 7)⟩, ⟨(some 9), none, .fadr 1 (.t 5)⟩, ⟨(some 10), none, .load false 1 (.t 9)⟩, ⟨(some 11), none, .bin .sub (.t 8) (.t 10)⟩, ⟨(some 12), none, .fadr 0 (.t 4)⟩, ⟨(some 13), none, .load false 1 (.t 12)⟩, ⟨(some 14), none, .fadr 0 (.t 3)⟩, ⟨(some 15), none, .load false 1 (.t 14)⟩, ⟨(some 16), none, .bin .sub (.t 13) (.t 15)⟩, ⟨(some 17), none, .bin .mul (.t 11) (.t 16)⟩, ⟨(some 18), none, .fadr 1 (.t 4)⟩, ⟨(some 19), none, .load false 1 (.t 18)⟩, ⟨(some 20), none, .fadr 1 (.t 3)⟩, ⟨(some 21), none, .load false 1 (.t 20)⟩, ⟨(some 22), none, .bin .sub (.t 19) (.t 21)⟩, ⟨(some 23), none, .fadr 0 (.t 5)⟩, ⟨(some 24), none, .load false 1 (.t 23)⟩, ⟨(some 25), none, .fadr 0 (.t 3)⟩, ⟨(some 26), none, .load false 1 (.t 25)⟩, ⟨(some 27), none, .bin .sub (.t 24) (.t 26)⟩, ⟨(some 28), none, .bin .mul (.t 22) (.t 27)⟩, ⟨(some 29), none, .bin .add (.t 17) (.t 28)⟩, ⟨(some 30), none, .call (.f 146) [(.t 29), (.v (.int .i64 (0)))]⟩, ⟨(some 6), none, .mv (.t 30)⟩] (some ⟨[6], [], []⟩))
  .ret))
theorem c_lineOff : compileCode Try.prog Try.f143.ntmps (Try.f143.body.getD .skip) A_lineOff = some (C_lineOff, []) := by kernel_rfl
theorem r_lineOff : compileRes Try.prog Try.f143.results.toList = some [.t 6] := by kernel_rfl
theorem b_lineOff : Try.f143.body = some (Try.f143.body.getD .skip) := by kernel_rfl
theorem n_lineOff : (Try.f143.name == "runtime.NumGoroutine") = false := by kernel_rfl
theorem fc_lineOff {xt : Option (List Cel)} {args : List Val} {R : List Cel → Val → Prop} (hn : (if xt.isSome then 1 else 0) + args.length ≤ Try.f143.ntmps) (h : ex Try.prog C_lineOff [] (fpost xt [.t 6] R) (initSt xt args)) : FC Try.prog 143 xt args R :=
  fc_of_awp Try.func143 b_lineOff n_lineOff c_lineOff r_lineOff (of_decide_eq_true (by kernel_rfl)) hn h

def A_covers : List Ann := [⟨(some ⟨[1,2,3,4], [4], []⟩), [], [], [], []⟩, ⟨(some ⟨[1,2,3,4,15,16,17], [4], []⟩), [], [], [], []⟩, ⟨(some ⟨[1,2,3,4,15,16,17,18], [4], []⟩), [], [], [], []⟩, ⟨(some ⟨[1,2,3,4,10,15,16,17], [4,10], []⟩), [], [], [], []⟩, ⟨(some ⟨[1,2,3,4,15,16,17,45], [4], []⟩), [], [], [], []⟩, ⟨(some ⟨[8], [], []⟩), [], [], [], []⟩, ⟨(some ⟨[1,2,3,4,15,16,17], [4], []⟩), [], [], [], []⟩, ⟨(some ⟨[8], [], []⟩), [], [], [], []⟩]
def C_covers : AC := (.seq (.reg false [⟨(some 4), none, .box (.t 0)⟩, ⟨(some 8), none, .mv (.v (.bool false))⟩] (some ⟨[1,2,3,4], [4], []⟩))
  (.seq (.seq (.reg false [⟨(some 11), none, .mv (.t 1)⟩, ⟨(some 12), none, .mv (.t 2)⟩, ⟨(some 13), none, .bin .add (.t 12) (.v (.int .i64 (1)))⟩, ⟨(some 14), none, .mv (.t 3)⟩, ⟨(some 15), none, .slc 3 (.t 11) (some (.t 13)) (some (.t 14))⟩, ⟨(some 16), none, .len (.t 15)⟩, ⟨(some 17), none, .mv (.v (.int .i64 (0)))⟩] (some ⟨[1,2,3,4,15,16,17], [4], []⟩))
  (.block 0 (.loop (.seq (.reg false [⟨(some 18), none, .bin .lss (.t 17) (.t 16)⟩] (some ⟨[1,2,3,4,15,16,17,18], [4], []⟩))
  (.seq (.cond (.t 18)
  .skip
  (.exit 0))
  (.seq (.block 1 (.seq (.reg false [⟨(some 19), none, .iadr 3 (.t 15) (.t 17)⟩, ⟨(some 20), none, .load true 3 (.t 19)⟩, ⟨(some 10), none, .alloc [(.int .i64 (0)), (.int .i64 (0)), (.int .i64 (0))]⟩, ⟨none, none, .store 3 (.t 10) (.t 20)⟩] (some ⟨[1,2,3,4,10,15,16,17], [4,10], []⟩))
  (.seq (.reg true [⟨(some 21), none, .mv (.t 1)⟩, ⟨(some 22), none, .mv (.t 2)⟩, ⟨(some 23), none, .iadr 3 (.t 21) (.t 22)⟩, ⟨(some 24), none, .load true 3 (.t 23)⟩, ⟨(some 25), none, .mv (.t 1)⟩, ⟨(some 26), none, .mv (.t 3)⟩, ⟨(some 27), none, .iadr 3 (.t 25) (.t 26)⟩, ⟨(some 28), none, .load true 3 (.t 27)⟩, ⟨(some 29), none, .load true 3 (.t 10)⟩, ⟨(some 30), none, .call (.f 143) [(.t 24), (.t 28), (.t 29)]⟩, ⟨(some 31), none, .fadr 0 (.t 4)⟩, ⟨(some 32), none, .load false 1 (.t 31)⟩, ⟨(some 33), none, .mv (.t 1)⟩, ⟨(some 34), none, .mv (.t 3)⟩, ⟨(some 35), none, .iadr 3 (.t 33) (.t 34)⟩, ⟨(some 36), none, .fadr 0 (.t 35)⟩, ⟨(some 37), none, .load false 1 (.t 36)⟩, ⟨(some 38), none, .mv (.t 1)⟩, ⟨(some 39), none, .mv (.t 2)⟩, ⟨(some 40), none, .iadr 3 (.t 38) (.t 39)⟩, ⟨(some 41), none, .fadr 0 (.t 40)⟩, ⟨(some 42), none, .load false 1 (.t 41)⟩, ⟨(some 43), none, .bin .sub (.t 37) (.t 42)⟩, ⟨(some 44), none, .bin .mul (.t 32) (.t 43)⟩, ⟨(some 45), none, .bin .gtr (.t 30) (.t 44)⟩] (some ⟨[1,2,3,4,15,16,17,45], [4], []⟩))
  (.cond (.t 45)
  (.seq (.reg false [⟨(some 8), none, .mv (.v (.bool false))⟩] (some ⟨[8], [], []⟩))
  .ret)
  .skip))))
  (.reg false [⟨(some 46), none, .bin .add (.t 17) (.v (.int .i64 (1)))⟩, ⟨(some 17), none, .mv (.t 46)⟩] (some ⟨[1,2,3,4,15,16,17], [4], []⟩))))))))
  (.seq (.reg false [⟨(some 8), none, .mv (.v (.bool true))⟩] (some ⟨[8], [], []⟩))
  .ret)))
theorem c_covers : compileCode Try.prog Try.f83.ntmps (Try.f83.body.getD .skip) A_covers = some (C_covers, []) := by kernel_rfl
theorem r_covers : compileRes Try.prog Try.f83.results.toList = some [.t 8] := by kernel_rfl
theorem b_covers : Try.f83.body = some (Try.f83.body.getD .skip) := by kernel_rfl
theorem n_covers : (Try.f83.name == "runtime.NumGoroutine") = false := by kernel_rfl
theorem fc_covers {xt : Option (List Cel)} {args : List Val} {R : List Cel → Val → Prop} (hn : (if xt.isSome then 1 else 0) + args.length ≤ Try.f83.ntmps) (h : ex Try.prog C_covers [] (fpost xt [.t 8] R) (initSt xt args)) : FC Try.prog 83 xt args R :=
  fc_of_awp Try.func83 b_covers n_covers c_covers r_covers (of_decide_eq_true (by kernel_rfl)) hn h

def A_cofC : List Ann := [⟨(some ⟨[0,1,2,16,1000001,1000002], [1000001,1000002], [1000005]⟩), [], [], [], []⟩, ⟨(some ⟨[0,2,1000002], [1000001,1000002], [1000005]⟩), [], [], [], []⟩, ⟨(some ⟨[], [1000001,1000002], [1000005]⟩), [], [], [], []⟩]
def C_cofC : AC := (.seq (.seq (.reg false [⟨(some 4), none, .load false 1 (.t 1)⟩, ⟨(some 5), none, .len (.t 4)⟩, ⟨(some 6), none, .bin .eql (.t 5) (.v (.int .i64 (0)))⟩, ⟨(some 7), none, .mv (.t 6)⟩, ⟨(some 8), (some (7, false)), .load false 1 (.t 1)⟩, ⟨(some 9), (some (7, false)), .load false 1 (.t 1)⟩, ⟨(some 10), (some (7, false)), .len (.t 9)⟩, ⟨(some 11), (some (7, false)), .bin .sub (.t 10) (.v (.int .i64 (1)))⟩, ⟨(some 12), (some (7, false)), .iadr 1 (.t 8) (.t 11)⟩, ⟨(some 13), (some (7, false)), .load false 1 (.t 12)⟩, ⟨(some 14), (some (7, false)), .mv (.t 0)⟩, ⟨(some 15), (some (7, false)), .bin .neq (.t 13) (.t 14)⟩, ⟨(some 16), none, .pick (.t 7) (.v (.bool true)) (.t 15)⟩] (some ⟨[0,1,2,16,1000001,1000002], [1000001,1000002], [1000005]⟩))
  (.cond (.t 16)
  (.reg false [⟨(some 17), none, .load false 1 (.t 1)⟩, ⟨(some 18), none, .mv (.t 0)⟩, ⟨(some 19), none, .bslice 1 1 [(.t 18)]⟩, ⟨(some 20), none, .append 3 1 8 (.t 17) (.t 19)⟩, ⟨none, none, .store 1 (.t 1) (.t 20)⟩] (some ⟨[0,2,1000002], [1000001,1000002], [1000005]⟩))
  .skip))
  (.reg false [⟨(some 21), none, .mv (.t 0)⟩, ⟨none, none, .store 1 (.t 2) (.t 21)⟩] (some ⟨[], [1000001,1000002], [1000005]⟩)))
theorem c_cofC : compileCode Try.prog Try.f82.ntmps (Try.f82.body.getD .skip) A_cofC = some (C_cofC, []) := by kernel_rfl
theorem r_cofC : compileRes Try.prog Try.f82.results.toList = some [] := by kernel_rfl
theorem b_cofC : Try.f82.body = some (Try.f82.body.getD .skip) := by kernel_rfl
theorem n_cofC : (Try.f82.name == "runtime.NumGoroutine") = false := by kernel_rfl
theorem fcm_cofC {H : Hp} {K : Keep} {args : List Val} {R : Hp → Val → Prop} (hn : args.length ≤ Try.f82.ntmps) (hkb : ∀ p ∈ H.bs, p.1 = 0 ∨ XK ≤ p.1) (hkr : ∀ p ∈ H.rs, XK ≤ p.1) (h : ex Try.prog C_cofC [] (mpost H K [] R) (initM H args)) : FCM Try.prog 82 H args R :=
  fcm_of_awp Try.func82 b_cofC n_cofC c_cofC r_cofC (of_decide_eq_true (by kernel_rfl)) hn hkb hkr h
theorem fcms_cofC {S : List Nat} {H : Hp} {K : Keep} {args : List Val} {R : Hp → Val → Prop} (hn : args.length ≤ Try.f82.ntmps) (hkb : ∀ p ∈ H.bs, p.1 = 0 ∨ XK ≤ p.1) (hkr : ∀ p ∈ H.rs, XK ≤ p.1) (h : ex Try.prog C_cofC [] (mpostS S H K [] R) (initM H args))   : FCMS Try.prog 82 S H args R :=
  fcms_of_awp Try.func82 b_cofC n_cofC c_cofC r_cofC (of_decide_eq_true (by kernel_rfl)) hn hkb hkr h

def A_cof : List Ann := [⟨(some ⟨[1,2], [2], []⟩), [], [], [], []⟩, ⟨(some ⟨[1,2,5], [2,5], []⟩), [(1000005, 3, 1)], [], [], []⟩, ⟨(some ⟨[1,2,5,6,7], [2,5,6], [5]⟩), [], [], [], []⟩, ⟨(some ⟨[1,2,5,6,7,8], [2,5,6], [5]⟩), [], [], [], []⟩, ⟨(some ⟨[1,2,5,6,7,8,14,15,16], [2,5,6], [5]⟩), [], [], [], []⟩, ⟨(some ⟨[1,2,5,6,7,8,14,15,16,17], [2,5,6], [5]⟩), [], [], [], []⟩, ⟨(some ⟨[1,2,5,6,7,8,9,10,14,15,16], [2,5,6,10], [5]⟩), [], [], [], []⟩, ⟨(some ⟨[1,2,5,6,7,8,9,10,11,14,15,16], [2,5,6,10,11], [5]⟩), [], [], [], []⟩, ⟨(some ⟨[1,2,5,6,7,8,9,10,11,12,14,15,16], [2,5,6,10,11], [5]⟩), [], [], [], []⟩, ⟨(some ⟨[1,2,5,6,7,8,9,10,11,12,14,15,16,33], [2,5,6,10,11], [5]⟩), [], [], [], []⟩, ⟨(some ⟨[1,2,5,6,8,9,14,15,16], [2,5,6], [5]⟩), [], [], [], [(37, ⟨[5,6], [5], [5,6], [5], []⟩)]⟩, ⟨(some ⟨[1,2,5,6,7,8,9,10,12,14,15,16,38], [2,5,6,10], [5]⟩), [], [], [], []⟩, ⟨(some ⟨[1,2,5,6,8,9,14,15,16], [2,5,6], [5]⟩), [], [], [], [(46, ⟨[5,6], [5], [5,6], [5], []⟩)]⟩, ⟨(some ⟨[1,2,5,6,8,9,14,15,16], [2,5,6], [5]⟩), [], [], [], [(49, ⟨[5,6], [5], [5,6], [5], []⟩)]⟩, ⟨(some ⟨[1,2,5,6,7,8,9,10,12,14,15,16,50], [2,5,6,10], [5]⟩), [], [], [], []⟩, ⟨(some ⟨[1,2,5,6,7,8,9,14,15,16,50], [2,5,6], [5]⟩), [], [], [], []⟩, ⟨(some ⟨[1,2,5,6,8,9,14,15,16], [2,5,6], [5]⟩), [], [], [], [(73, ⟨[5,6], [5], [5,6], [5], []⟩)]⟩, ⟨(some ⟨[1,2,5,6,7,8,14,15,16], [2,5,6], [5]⟩), [], [], [], []⟩, ⟨(some ⟨[1,2,5,6,7,8,14,15,16], [2,5,6], [5]⟩), [], [], [], []⟩, ⟨(some ⟨[5,6,7,8,78], [5,6], [5]⟩), [], [], [], []⟩, ⟨(some ⟨[5], [5], []⟩), [], [], [], [(81, ⟨[5,6], [5], [5,6], [5], []⟩)]⟩, ⟨(some ⟨[4], [], []⟩), [], [], [], []⟩]
def C_cof : AC := (.seq (.reg false [⟨(some 2), none, .box (.t 0)⟩, ⟨(some 4), none, .mv (.v (.slice none 0 0))⟩] (some ⟨[1,2], [2], []⟩))
  (.seq (.seq (.reg false [⟨(some 5), none, .alloc [(.slice none 0 0)]⟩] (some ⟨[1,2,5], [2,5], []⟩))
  (.ownb 5 3 1))
  (.seq (.reg false [⟨(some 6), none, .alloc [(.int .i64 (0))]⟩, ⟨none, none, .store 1 (.t 6) (.v (.int .i64 (0)))⟩, ⟨(some 7), none, .mv (.v (.int .i64 (0)))⟩] (some ⟨[1,2,5,6,7], [2,5,6], [5]⟩))
  (.seq (.reg false [⟨(some 13), none, .mkfn 82 [(.t 5), (.t 6)]⟩, ⟨(some 8), none, .mv (.t 13)⟩] (some ⟨[1,2,5,6,7,8], [2,5,6], [5]⟩))
  (.seq (.seq (.reg false [⟨(some 14), none, .mv (.t 1)⟩, ⟨(some 15), none, .len (.t 14)⟩, ⟨(some 16), none, .mv (.v (.int .i64 (0)))⟩] (some ⟨[1,2,5,6,7,8,14,15,16], [2,5,6], [5]⟩))
  (.block 0 (.loop (.seq (.reg false [⟨(some 17), none, .bin .lss (.t 16) (.t 15)⟩] (some ⟨[1,2,5,6,7,8,14,15,16,17], [2,5,6], [5]⟩))
  (.seq (.cond (.t 17)
  .skip
  (.exit 0))
  (.seq (.block 1 (.seq (.reg false [⟨(some 18), none, .mv (.t 16)⟩, ⟨(some 19), none, .iadr 3 (.t 14) (.t 16)⟩, ⟨(some 20), none, .load true 3 (.t 19)⟩, ⟨(some 10), none, .alloc [(.int .i64 (0)), (.int .i64 (0)), (.int .i64 (0))]⟩, ⟨(some 9), none, .mv (.t 18)⟩, ⟨none, none, .store 3 (.t 10) (.t 20)⟩] (some ⟨[1,2,5,6,7,8,9,10,14,15,16], [2,5,6,10], [5]⟩))
  (.seq (.reg false [⟨(some 21), none, .mv (.t 1)⟩, ⟨(some 22), none, .load false 1 (.t 6)⟩, ⟨(some 23), none, .iadr 3 (.t 21) (.t 22)⟩, ⟨(some 24), none, .load true 3 (.t 23)⟩, ⟨(some 11), none, .alloc [(.int .i64 (0)), (.int .i64 (0)), (.int .i64 (0))]⟩, ⟨none, none, .store 3 (.t 11) (.t 24)⟩] (some ⟨[1,2,5,6,7,8,9,10,11,14,15,16], [2,5,6,10,11], [5]⟩))
  (.seq (.reg false [⟨(some 25), none, .fadr 0 (.t 10)⟩, ⟨(some 26), none, .load false 1 (.t 25)⟩, ⟨(some 27), none, .fadr 0 (.t 11)⟩, ⟨(some 28), none, .load false 1 (.t 27)⟩, ⟨(some 29), none, .bin .sub (.t 26) (.t 28)⟩, ⟨(some 30), none, .fadr 1 (.t 2)⟩, ⟨(some 31), none, .load false 1 (.t 30)⟩, ⟨(some 32), none, .bin .gtr (.t 29) (.t 31)⟩, ⟨(some 12), none, .mv (.t 32)⟩] (some ⟨[1,2,5,6,7,8,9,10,11,12,14,15,16], [2,5,6,10,11], [5]⟩))
  (.seq (.block 2 (.seq (.reg false [⟨(some 34), none, .mv (.t 9)⟩, ⟨(some 35), none, .bin .eql (.t 34) (.v (.int .i64 (0)))⟩, ⟨(some 33), none, .mv (.t 35)⟩] (some ⟨[1,2,5,6,7,8,9,10,11,12,14,15,16,33], [2,5,6,10,11], [5]⟩))
  (.cond (.t 33)
  (.reg false [⟨(some 36), none, .mv (.t 8)⟩, ⟨(some 37), none, .callm (.t 36) [(.v (.int .i64 (0)))] ⟨[5,6], [5], [5,6], [5], []⟩⟩] (some ⟨[1,2,5,6,8,9,14,15,16], [2,5,6], [5]⟩))
  (.seq (.reg false [⟨(some 39), none, .fadr 2 (.t 10)⟩, ⟨(some 40), none, .load false 1 (.t 39)⟩, ⟨(some 41), none, .fadr 2 (.t 11)⟩, ⟨(some 42), none, .load false 1 (.t 41)⟩, ⟨(some 43), none, .bin .neq (.t 40) (.t 42)⟩, ⟨(some 38), none, .mv (.t 43)⟩] (some ⟨[1,2,5,6,7,8,9,10,12,14,15,16,38], [2,5,6,10], [5]⟩))
  (.cond (.t 38)
  (.seq (.reg false [⟨(some 44), none, .mv (.t 8)⟩, ⟨(some 45), none, .mv (.t 7)⟩, ⟨(some 46), none, .callm (.t 44) [(.t 45)] ⟨[5,6], [5], [5,6], [5], []⟩⟩] (some ⟨[1,2,5,6,8,9,14,15,16], [2,5,6], [5]⟩))
  (.reg false [⟨(some 47), none, .mv (.t 8)⟩, ⟨(some 48), none, .mv (.t 9)⟩, ⟨(some 49), none, .callm (.t 47) [(.t 48)] ⟨[5,6], [5], [5,6], [5], []⟩⟩] (some ⟨[1,2,5,6,8,9,14,15,16], [2,5,6], [5]⟩)))
  (.seq (.seq (.reg false [⟨(some 51), none, .fadr 2 (.t 10)⟩, ⟨(some 52), none, .load false 1 (.t 51)⟩, ⟨(some 53), none, .bin .eql (.t 52) (.v (.int .i64 (2)))⟩, ⟨(some 54), none, .mv (.t 53)⟩, ⟨(some 55), (some (54, true)), .mv (.t 12)⟩, ⟨(some 56), none, .pick (.t 54) (.t 55) (.v (.bool false))⟩, ⟨(some 50), none, .mv (.t 56)⟩] (some ⟨[1,2,5,6,7,8,9,10,12,14,15,16,50], [2,5,6,10], [5]⟩))
  (.cond (.t 50)
  .skip
  (.reg false [⟨(some 57), none, .fadr 2 (.t 10)⟩, ⟨(some 58), none, .load false 1 (.t 57)⟩, ⟨(some 59), none, .bin .neq (.t 58) (.v (.int .i64 (2)))⟩, ⟨(some 60), none, .mv (.t 59)⟩, ⟨(some 61), (some (60, true)), .mv (.t 12)⟩, ⟨(some 62), (some (60, true)), .mv (.t 61)⟩, ⟨(some 63), (some (62, false)), .load true 2 (.t 2)⟩, ⟨(some 64), (some (62, false)), .mv (.t 1)⟩, ⟨(some 65), (some (62, false)), .load false 1 (.t 6)⟩, ⟨(some 66), (some (62, false)), .mv (.t 9)⟩, ⟨(some 67), (some (62, false)), .call (.f 83) [(.t 63), (.t 64), (.t 65), (.t 66)]⟩, ⟨(some 68), (some (62, false)), .un .not (.t 67)⟩, ⟨(some 69), (some (60, true)), .pick (.t 62) (.v (.bool true)) (.t 68)⟩, ⟨(some 70), none, .pick (.t 60) (.t 69) (.v (.bool false))⟩, ⟨(some 50), none, .mv (.t 70)⟩] (some ⟨[1,2,5,6,7,8,9,14,15,16,50], [2,5,6], [5]⟩))))
  (.cond (.t 50)
  (.reg false [⟨(some 71), none, .mv (.t 8)⟩, ⟨(some 72), none, .mv (.t 7)⟩, ⟨(some 73), none, .callm (.t 71) [(.t 72)] ⟨[5,6], [5], [5,6], [5], []⟩⟩] (some ⟨[1,2,5,6,8,9,14,15,16], [2,5,6], [5]⟩))
  .skip)))))))
  (.reg false [⟨(some 74), none, .mv (.t 9)⟩, ⟨(some 7), none, .mv (.t 74)⟩] (some ⟨[1,2,5,6,7,8,14,15,16], [2,5,6], [5]⟩)))))))
  (.reg false [⟨(some 75), none, .bin .add (.t 16) (.v (.int .i64 (1)))⟩, ⟨(some 16), none, .mv (.t 75)⟩] (some ⟨[1,2,5,6,7,8,14,15,16], [2,5,6], [5]⟩))))))))
  (.seq (.seq (.reg false [⟨(some 76), none, .mv (.t 1)⟩, ⟨(some 77), none, .len (.t 76)⟩, ⟨(some 78), none, .bin .gtr (.t 77) (.v (.int .i64 (0)))⟩] (some ⟨[5,6,7,8,78], [5,6], [5]⟩))
  (.cond (.t 78)
  (.reg false [⟨(some 79), none, .mv (.t 8)⟩, ⟨(some 80), none, .mv (.t 7)⟩, ⟨(some 81), none, .callm (.t 79) [(.t 80)] ⟨[5,6], [5], [5,6], [5], []⟩⟩] (some ⟨[5], [5], []⟩))
  .skip))
  (.seq (.reg false [⟨(some 82), none, .load false 1 (.t 5)⟩, ⟨(some 4), none, .mv (.t 82)⟩] (some ⟨[4], [], []⟩))
  .ret)))))))
theorem c_cof : compileCode Try.prog Try.f25.ntmps (Try.f25.body.getD .skip) A_cof = some (C_cof, []) := by kernel_rfl
theorem r_cof : compileRes Try.prog Try.f25.results.toList = some [.t 4] := by kernel_rfl
theorem b_cof : Try.f25.body = some (Try.f25.body.getD .skip) := by kernel_rfl
theorem n_cof : (Try.f25.name == "runtime.NumGoroutine") = false := by kernel_rfl
theorem fc_cof {xt : Option (List Cel)} {args : List Val} {R : List Cel → Val → Prop} (hn : (if xt.isSome then 1 else 0) + args.length ≤ Try.f25.ntmps) (h : ex Try.prog C_cof [] (fpost xt [.t 4] R) (initSt xt args)) : FC Try.prog 25 xt args R :=
  fc_of_awp Try.func25 b_cof n_cof c_cof r_cof (of_decide_eq_true (by kernel_rfl)) hn h
theorem fcm_cof {H : Hp} {K : Keep} {args : List Val} {R : Hp → Val → Prop} (hn : args.length ≤ Try.f25.ntmps) (hkb : ∀ p ∈ H.bs, p.1 = 0 ∨ XK ≤ p.1) (hkr : ∀ p ∈ H.rs, XK ≤ p.1) (h : ex Try.prog C_cof [] (mpost H K [.t 4] R) (initM H args)) : FCM Try.prog 25 H args R :=
  fcm_of_awp Try.func25 b_cof n_cof c_cof r_cof (of_decide_eq_true (by kernel_rfl)) hn hkb hkr h
theorem fcms_cof {S : List Nat} {H : Hp} {K : Keep} {args : List Val} {R : Hp → Val → Prop} (hn : args.length ≤ Try.f25.ntmps) (hkb : ∀ p ∈ H.bs, p.1 = 0 ∨ XK ≤ p.1) (hkr : ∀ p ∈ H.rs, XK ≤ p.1) (h : ex Try.prog C_cof [] (mpostS S H K [.t 4] R) (initM H args))   : FCMS Try.prog 25 S H args R :=
  fcms_of_awp Try.func25 b_cof n_cof c_cof r_cof (of_decide_eq_true (by kernel_rfl)) hn hkb hkr h


theorem keptOf_fc (l : List Smp) (hl : l.length ≤ 5000) (kept : List Int) (hk : kept.length ≤ l.length) (hin : ∀ k ∈ kept, 0 ≤ k ∧ k < l.length) : FC Try.prog 24 none [smps false l, ints false kept] (fun _ r => r = smps true (kep l kept)) := by
  refine fc_keptOf (by simp +arith) ?_
  unfold C_keptOf
  simp (maxSteps := 1000000) (disch := omega) only [go_sem, eq_self, decide_true, decide_false, not_true_eq_false, not_false_eq_true, reduceIte, reduceCtorEq, Nat.reduceEqDiff, Nat.reduceAdd, Nat.reduceSub, Nat.reduceLeDiff]
  refine ex_loop2 (fun i out => (⟨tabV [(0, smps false l), (5, .one (.ow 5 0)), (8, ints false kept), (9, iv kept.length), (10, iv i)], tabO [], tabO [(5, ⟨0, 38, 3, out.map smpC⟩)]⟩ : AS)) (fun i out => 0 ≤ i ∧ i ≤ kept.length ∧ out.length = i ∧ out ++ kep l (kept.drop i.toNat) = kep l kept) (fun i _ => (kept.length - i).toNat) 0 [] ⟨by omega, by omega, by simp, rfl⟩ rfl ?_
  rintro i out ⟨g1, g2, g3, g4⟩
  by_cases hi : i < kept.length
  · have e2 : (i + 1).toNat = i.toNat + 1 := by omega
    have em := getD_map_at intC kept i [] g1 hi
    have hm := hin _ (getD_mem kept i.toNat (by omega))
    rw [drop_cons kept i.toNat (by omega), ← e2] at g4
    have e3 : kep l (kept.getD i.toNat default :: kept.drop (i + 1).toNat) = [l.getD (kept.getD i.toNat default).toNat default] ++ kep l (kept.drop (i + 1).toNat) := rfl
    rw [e3, ← List.append_assoc] at g4
    simp (maxSteps := 1000000) (disch := omega) only [go_sem, eq_self, decide_true, decide_false, not_true_eq_false, not_false_eq_true, reduceIte, reduceCtorEq, Nat.reduceEqDiff, Nat.reduceAdd, Nat.reduceSub, Nat.reduceLeDiff]
    exact ⟨i + 1, out ++ [_], by simp only [List.map_append, List.map_cons, List.map_nil, smpC_eq], ⟨by omega, by omega, by simp; omega, g4⟩, by omega⟩
  · rw [List.drop_eq_nil_of_le (by omega)] at g4
    have e3 : kep l [] = [] := rfl
    rw [e3, List.append_nil] at g4
    rw [← g4]
    simp (maxSteps := 1000000) (disch := omega) only [go_sem, eq_self, decide_true, decide_false, not_true_eq_false, not_false_eq_true, reduceIte, reduceCtorEq, Nat.reduceEqDiff, Nat.reduceAdd, Nat.reduceSub, Nat.reduceLeDiff]
def eqSSt (fr fr' : Bool) (l : List Smp) (i : Int) : AS := ⟨tabV [(0, smps fr l), (1, smps fr' l), (12, iv l.length), (13, iv i)], tabO [], tabO []⟩
theorem eqSmp_fc (fr fr' : Bool) (l : List Smp) (hl : l.length ≤ 4611686018427387904) : FC Try.prog 23 none [smps fr l, smps fr' l] (fun _ r => r = bv true) := by
  refine fc_eqSmp (by simp +arith) ?_
  unfold C_eqSmp
  simp (maxSteps := 1000000) (disch := omega) only [go_sem, eq_self, decide_true, decide_false, not_true_eq_false, not_false_eq_true, reduceIte, reduceCtorEq, Nat.reduceEqDiff, Nat.reduceAdd, Nat.reduceSub, Nat.reduceLeDiff]
  refine ex_loop1 (eqSSt fr fr' l) (fun i => 0 ≤ i ∧ i ≤ l.length) (fun i => (l.length - i).toNat) 0 ⟨by omega, by omega⟩ rfl ?_
  rintro i ⟨g1, g2⟩
  unfold eqSSt
  by_cases hi : i < l.length
  · simp (maxSteps := 1000000) (disch := omega) only [go_sem, eq_self, decide_true, decide_false, not_true_eq_false, not_false_eq_true, reduceIte, reduceCtorEq, Nat.reduceEqDiff, Nat.reduceAdd, Nat.reduceSub, Nat.reduceLeDiff]
    exact ⟨_, rfl, ⟨by omega, by omega⟩, by omega⟩
  · simp (maxSteps := 1000000) (disch := omega) only [go_sem, eq_self, decide_true, decide_false, not_true_eq_false, not_false_eq_true, reduceIte, reduceCtorEq, Nat.reduceEqDiff, Nat.reduceAdd, Nat.reduceSub, Nat.reduceLeDiff]
/-- How far a line is from a sample. -/
def loV (a b s : Smp) : Int := (a.v - s.v) * (b.a - a.a) + (b.v - a.v) * (s.a - a.a)
theorem loV_bd {a b s : Smp} (ha : okSmp a) (hb : okSmp b) (hs : okSmp s) (h1 : a.a ≤ b.a) (h2 : a.a ≤ s.a) :
    (-900000000000000000 ≤ (a.v - s.v) * (b.a - a.a) ∧ (a.v - s.v) * (b.a - a.a) ≤ 900000000000000000) ∧ (-900000000000000000 ≤ (b.v - a.v) * (s.a - a.a) ∧ (b.v - a.v) * (s.a - a.a) ≤ 900000000000000000) := by
  unfold okSmp at *
  have m1 := Int.mul_le_mul_of_nonneg_right (show a.v - s.v ≤ 2000000 by omega) (show 0 ≤ b.a - a.a by omega)
  have m2 := Int.mul_le_mul_of_nonneg_right (show -2000000 ≤ a.v - s.v by omega) (show 0 ≤ b.a - a.a by omega)
  have m3 := Int.mul_le_mul_of_nonneg_right (show b.v - a.v ≤ 2000000 by omega) (show 0 ≤ s.a - a.a by omega)
  have m4 := Int.mul_le_mul_of_nonneg_right (show -2000000 ≤ b.v - a.v by omega) (show 0 ≤ s.a - a.a by omega)
  omega
theorem lineOff_fc (a b s : Smp) (ha : okSmp a) (hb : okSmp b) (hs : okSmp s) (h1 : a.a ≤ b.a) (h2 : a.a ≤ s.a) :
    FC Try.prog 143 none [.ag (smpC a), .ag (smpC b), .ag (smpC s)] (fun _ r => r = iv (max (loV a b s) (-loV a b s))) := by
  refine fc_lineOff (by simp +arith) ?_
  obtain ⟨b1, b2⟩ := loV_bd ha hb hs h1 h2
  have hf := far_fc (loV a b s) 0
  unfold loV at hf ⊢
  unfold okSmp at ha hb hs
  unfold C_lineOff
  generalize hx : (a.v - s.v) * (b.a - a.a) = X at *
  generalize hy : (b.v - a.v) * (s.a - a.a) = Y at *
  simp (maxSteps := 1000000) (disch := omega) only [go_sem, eq_self, decide_true, decide_false, not_true_eq_false, not_false_eq_true, reduceIte, reduceCtorEq, Nat.reduceEqDiff, Nat.reduceAdd, Nat.reduceSub, Nat.reduceLeDiff]
  rw [hx, hy]
  refine CALL_det (hf (by omega) (by omega)) (.inl rfl) ?_
  simp (maxSteps := 1000000) (disch := omega) only [go_sem, eq_self, decide_true, decide_false, not_true_eq_false, not_false_eq_true, reduceIte, reduceCtorEq, Nat.reduceEqDiff, Nat.reduceAdd, Nat.reduceSub, Nat.reduceLeDiff]
  rw [show X + Y - 0 = X + Y by omega, show 0 - (X + Y) = -(X + Y) by omega]
/-- The line from p to b is near enough to s. -/
def nearB (d : Int) (p b s : Smp) : Bool := decide (max (loV p b s) (-loV p b s) ≤ d * (b.a - p.a))
def cvB (d : Int) (l : List Smp) (i k : Int) : Bool := ((l.take k.toNat).drop (i + 1).toNat).all (nearB d (l.getD i.toNat default) (l.getD k.toNat default))
def cvSt (dv mg : Int) (l : List Smp) (i k : Int) (m : List Smp) (j : Int) : AS := ⟨tabV [(1, smps false l), (2, iv i), (3, iv k), (4, .one (.bx 4 0)), (15, smps false m), (16, iv m.length), (17, iv j)], tabO [(4, [.g (.int .i64 dv), .g (.int .i64 mg)])], tabO []⟩
theorem covers_fc (dv mg : Int) (hd : 0 ≤ dv ∧ dv ≤ 2000000) (l : List Smp) (hg : Good l) (i k : Int) (h0 : 0 ≤ i) (h1 : i < k) (h2 : k < l.length) :
    FC Try.prog 83 none [twoV dv mg, smps false l, iv i, iv k] (fun _ r => r = bv (cvB dv l i k)) := by
  refine fc_covers (by simp +arith) ?_
  have hlen := hg.len
  have hi := hg.ok i.toNat (by omega)
  have hk := hg.ok k.toNat (by omega)
  have hup := hg.up i.toNat k.toNat (by omega) (by omega)
  have ei := getD_map_at smpC l i [] h0 (by omega)
  have ek := getD_map_at smpC l k [] (by omega) (by omega)
  have et : ((l.map smpC).take k.toNat).drop (i + 1).toNat = ((l.take k.toNat).drop (i + 1).toNat).map smpC := by rw [List.map_drop, List.map_take]
  have hml : ((l.take k.toNat).drop (i + 1).toNat).length = (k - i - 1).toNat := by rw [List.length_drop, List.length_take]; omega
  have hm : ∀ s ∈ (l.take k.toNat).drop (i + 1).toNat, okSmp s ∧ (l.getD i.toNat default).a ≤ s.a := fun s hs => by
    obtain ⟨j, hj, rfl⟩ := List.mem_iff_getElem.1 hs
    rw [List.length_drop, List.length_take] at hj
    have e : ((l.take k.toNat).drop (i + 1).toNat)[j] = l.getD ((i + 1).toNat + j) default := by
      rw [List.getElem_drop, List.getElem_take]
      simp [List.getD_eq_getElem?_getD, show (i + 1).toNat + j < l.length by omega]
    rw [e]
    have := hg.up i.toNat ((i + 1).toNat + j) (by omega) (by omega)
    exact ⟨hg.ok _ (by omega), by omega⟩
  unfold C_covers cvB
  simp (maxSteps := 1000000) (disch := omega) only [go_sem, eq_self, decide_true, decide_false, not_true_eq_false, not_false_eq_true, reduceIte, reduceCtorEq, Nat.reduceEqDiff, Nat.reduceAdd, Nat.reduceSub, Nat.reduceLeDiff]
  rw [et]
  simp only [List.length_map]
  generalize (l.take k.toNat).drop (i + 1).toNat = m at *
  have hml2 : (m.length : Int) ≤ 5000 := by omega
  refine ex_loop1 (cvSt dv mg l i k m) (fun j => 0 ≤ j ∧ j ≤ m.length ∧ (m.drop j.toNat).all (nearB dv (l.getD i.toNat default) (l.getD k.toNat default)) = m.all (nearB dv (l.getD i.toNat default) (l.getD k.toNat default))) (fun j => (m.length - j).toNat) 0 ⟨by omega, by omega, rfl⟩ rfl ?_
  rintro j ⟨g1, g2, g3⟩
  unfold cvSt
  by_cases hj : j < m.length
  · have e2 : (j + 1).toNat = j.toNat + 1 := by omega
    have em := getD_map_at smpC m j [] g1 hj
    obtain ⟨o1, o2⟩ := hm _ (getD_mem m j.toNat (by omega))
    rw [drop_cons m j.toNat (by omega), ← e2, List.all_cons] at g3
    have hlo := lineOff_fc (l.getD i.toNat default) (l.getD k.toNat default) (m.getD j.toNat default) hi hk o1 (by omega) o2
    have hb := prod_bd (a := dv) (b := (l.getD k.toNat default).a - (l.getD i.toNat default).a) (by omega) (by unfold okSmp at hi hk; omega)
    have hq : nearB dv (l.getD i.toNat default) (l.getD k.toNat default) (m.getD j.toNat default) = decide (max (loV (l.getD i.toNat default) (l.getD k.toNat default) (m.getD j.toNat default)) (-loV (l.getD i.toNat default) (l.getD k.toNat default) (m.getD j.toNat default)) ≤ dv * ((l.getD k.toNat default).a - (l.getD i.toNat default).a)) := rfl
    generalize max (loV (l.getD i.toNat default) (l.getD k.toNat default) (m.getD j.toNat default)) (-loV (l.getD i.toNat default) (l.getD k.toNat default) (m.getD j.toNat default)) = X at *
    generalize hY : dv * ((l.getD k.toNat default).a - (l.getD i.toNat default).a) = Y at *
    unfold okSmp at hi hk
    by_cases c : X ≤ Y
    · rw [hq, decide_eq_true c, Bool.true_and] at g3
      simp (maxSteps := 1000000) (disch := omega) only [go_sem, eq_self, decide_true, decide_false, not_true_eq_false, not_false_eq_true, reduceIte, reduceCtorEq, Nat.reduceEqDiff, Nat.reduceAdd, Nat.reduceSub, Nat.reduceLeDiff]
      refine CALL_det hlo (.inl rfl) ?_
      simp (maxSteps := 1000000) (disch := omega) only [go_sem, eq_self, decide_true, decide_false, not_true_eq_false, not_false_eq_true, reduceIte, reduceCtorEq, Nat.reduceEqDiff, Nat.reduceAdd, Nat.reduceSub, Nat.reduceLeDiff]
      exact ⟨j + 1, rfl, ⟨by omega, by omega, g3⟩, by omega⟩
    · rw [hq, decide_eq_false c, Bool.false_and] at g3
      rw [← g3]
      simp (maxSteps := 1000000) (disch := omega) only [go_sem, eq_self, decide_true, decide_false, not_true_eq_false, not_false_eq_true, reduceIte, reduceCtorEq, Nat.reduceEqDiff, Nat.reduceAdd, Nat.reduceSub, Nat.reduceLeDiff]
      refine CALL_det hlo (.inl rfl) ?_
      simp (maxSteps := 1000000) (disch := omega) only [go_sem, eq_self, decide_true, decide_false, not_true_eq_false, not_false_eq_true, reduceIte, reduceCtorEq, Nat.reduceEqDiff, Nat.reduceAdd, Nat.reduceSub, Nat.reduceLeDiff]
  · rw [List.drop_eq_nil_of_le (by omega), List.all_nil] at g3
    rw [← g3]
    simp (maxSteps := 1000000) (disch := omega) only [go_sem, eq_self, decide_true, decide_false, not_true_eq_false, not_false_eq_true, reduceIte, reduceCtorEq, Nat.reduceEqDiff, Nat.reduceAdd, Nat.reduceSub, Nat.reduceLeDiff]
/-- The reference's closure: a number is archived, if it is not the last one. -/
def kpI (out : List Int) (i : Int) : List Int := if out.length = 0 ∨ out.getD ((out.length : Int) - 1).toNat default ≠ i then out ++ [i] else out
abbrev intRow (l : List Int) : Row := ⟨0, 3, 1, l.map intC⟩
theorem cofC_fcm (i pv : Int) (out : List Int) (hl : out.length ≤ 1000000) :
    FCM Try.prog 82 ⟨[(1000001, [.ow 1000005 0]), (1000002, [.g (.int .i64 pv)])], [(1000005, intRow out)]⟩ [iv i, .one (.bx 1000001 0), .one (.bx 1000002 0)]
      (fun H r => H = ⟨[(1000001, [.ow 1000005 0]), (1000002, [.g (.int .i64 i)])], [(1000005, intRow (kpI out i))]⟩ ∧ r = .tu []) := by
  refine fcm_cofC (K := ⟨[], [1000001, 1000002], [1000005]⟩) (by simp +arith) (by simp [XK]) (by simp [XK]) ?_
  unfold C_cofC kpI
  by_cases c1 : out.length = 0
  · rw [if_pos (.inl c1)]
    simp (maxSteps := 1000000) (disch := omega) only [go_sem, eq_self, decide_true, decide_false, not_true_eq_false, not_false_eq_true, reduceIte, reduceCtorEq, Nat.reduceEqDiff, Nat.reduceAdd, Nat.reduceSub, Nat.reduceLeDiff]
    simp only [intRow, List.map_append, List.map_cons, List.map_nil, intC_eq]
  · have eo := getE_map_in intC out ((out.length : Int) - 1).toNat (by omega)
    by_cases c2 : out.getD ((out.length : Int) - 1).toNat default = i
    · rw [if_neg (by rintro (h | h); exact c1 h; exact h c2)]
      simp (maxSteps := 1000000) (disch := omega) only [go_sem, eq_self, decide_true, decide_false, not_true_eq_false, not_false_eq_true, reduceIte, reduceCtorEq, Nat.reduceEqDiff, Nat.reduceAdd, Nat.reduceSub, Nat.reduceLeDiff]
    · rw [if_pos (.inr c2)]
      simp (maxSteps := 1000000) (disch := omega) only [go_sem, eq_self, decide_true, decide_false, not_true_eq_false, not_false_eq_true, reduceIte, reduceCtorEq, Nat.reduceEqDiff, Nat.reduceAdd, Nat.reduceSub, Nat.reduceLeDiff]
      simp only [intRow, List.map_append, List.map_cons, List.map_nil, intC_eq]
def pB (k : Nat) : Nat := swp 5 1000001 (swp 6 1000002 k)
theorem pB_pB (k : Nat) : pB (pB k) = k := by unfold pB swp; (repeat' split) <;> omega
section
variable {Q : AX → AS → Prop} {s : AS} {k : List KI} {kp : Option Keep} {l : List GI}
theorem CALLM_kpI (i pv : Int) (out : List Int) (hl : out.length ≤ 1000000) {d : Option Nat} (h : rg Try.prog l kp k Q ((s.after ⟨[5, 6], [5], [5, 6], [5], []⟩ ⟨[(5, [.ow 5 0]), (6, [.g (.int .i64 i)])], [(5, intRow (kpI out i))]⟩).put d (s.backV ⟨[5, 6], [5], [5, 6], [5], []⟩ (.tu [])))) :
    CALLM Try.prog 82 ⟨[(5, [.ow 5 0]), (6, [.g (.int .i64 pv)])], [(5, intRow out)]⟩ [iv i, .one (.bx 5 0), .one (.bx 6 0)] ⟨[5, 6], [5], [5, 6], [5], []⟩ d l kp k Q s :=
  CALLM_rn pB (swp 5 1000005) pB_pB (swp_swp 5 1000005) (cofC_fcm i pv out hl) (by simp) rfl rfl ⟨rfl, rfl⟩ h
end
/-- Where the reference is: what is archived, the pivot, the held one. -/
structure Rs where
  o : List Int
  p : Int
  h : Int
def rsK (x : Rs) (i : Int) : Rs := ⟨kpI x.o i, i, x.h⟩
def rsStep (dv mg : Int) (l : List Smp) (x : Rs) (i : Nat) : Rs :=
  let y : Rs :=
    if i = 0 then rsK x 0
    else if (l.getD i default).q ≠ (l.getD x.p.toNat default).q then rsK (rsK x x.h) i
    else if ((l.getD i default).q = 2 ∧ (l.getD i default).a - (l.getD x.p.toNat default).a > mg) ∨ ((l.getD i default).q ≠ 2 ∧ ((l.getD i default).a - (l.getD x.p.toNat default).a > mg ∨ cvB dv l x.p i = false)) then rsK x x.h
    else x
  ⟨y.o, y.p, i⟩
def rsRun (dv mg : Int) (l : List Smp) : Nat → Rs
  | 0 => ⟨[], 0, 0⟩
  | i + 1 => rsStep dv mg l (rsRun dv mg l i) i
def cofSp (dv mg : Int) (l : List Smp) : List Int := if 0 < l.length then kpI (rsRun dv mg l l.length).o (rsRun dv mg l l.length).h else (rsRun dv mg l l.length).o
theorem kpI_len (o : List Int) (i : Int) : (kpI o i).length ≤ o.length + 1 := by
  unfold kpI; split <;> simp
theorem rs_in (dv mg : Int) (l : List Smp) : ∀ i : Nat, (i ≤ l.length → (rsRun dv mg l i).o.length ≤ 2 * i ∧ 0 ≤ (rsRun dv mg l i).p ∧ 0 ≤ (rsRun dv mg l i).h ∧ (rsRun dv mg l i).p ≤ (rsRun dv mg l i).h ∧ (i = 0 → (rsRun dv mg l i).h = 0) ∧ (0 < i → (rsRun dv mg l i).h = i - 1))
  | 0, _ => by simp [rsRun]
  | i + 1, hi => by
    obtain ⟨h1, h2, h3, h4, h5, h6⟩ := rs_in dv mg l i (by omega)
    rw [rsRun]
    generalize rsRun dv mg l i = x at *
    have k1 := kpI_len x.o 0
    have k2 := kpI_len x.o x.h
    have k3 := kpI_len (kpI x.o x.h) i
    unfold rsStep
    simp only
    split
    · simp only [rsK]; omega
    · split
      · simp only [rsK]; omega
      · split
        · simp only [rsK]; omega
        · omega
def cofSt (dv mg : Int) (l : List Smp) (i : Int) (x : Rs) : AS := ⟨tabV [(1, smps false l), (2, .one (.bx 2 0)), (5, .one (.bx 5 0)), (6, .one (.bx 6 0)), (7, iv x.h), (8, .one (.fn 82 [.bx 5 0, .bx 6 0])), (14, smps false l), (15, iv l.length), (16, iv i)], tabO [(2, [.g (.int .i64 dv), .g (.int .i64 mg)]), (5, [.ow 5 0]), (6, [.g (.int .i64 x.p)])], tabO [(5, intRow x.o)]⟩
set_option maxHeartbeats 12000000 in
set_option maxRecDepth 8000 in
theorem cof_fc (dv mg : Int) (hd : 0 ≤ dv ∧ dv ≤ 2000000) (l : List Smp) (hg : Good l) : FC Try.prog 25 none [twoV dv mg, smps false l] (fun _ r => r = ints true (cofSp dv mg l)) := by
  refine fc_cof (by simp +arith) ?_
  have hlen := hg.len
  unfold C_cof cofSp
  simp (maxSteps := 1000000) (disch := omega) only [go_sem, eq_self, decide_true, decide_false, not_true_eq_false, not_false_eq_true, reduceIte, reduceCtorEq, Nat.reduceEqDiff, Nat.reduceAdd, Nat.reduceSub, Nat.reduceLeDiff]
  refine ⟨by omega, ?_⟩
  refine ex_loop1 (fun i => cofSt dv mg l i (rsRun dv mg l i.toNat)) (fun i => 0 ≤ i ∧ i ≤ l.length) (fun i => (l.length - i).toNat) 0 ⟨by omega, by omega⟩ rfl ?_
  rintro i ⟨g1, g2⟩
  obtain ⟨r1, r2, r3, r4, r5, r6⟩ := rs_in dv mg l i.toNat (by omega)
  have hstep : rsRun dv mg l (i.toNat + 1) = rsStep dv mg l (rsRun dv mg l i.toNat) i.toNat := rfl
  unfold cofSt
  by_cases hi : i < l.length
  · have e2 : (i + 1).toNat = i.toNat + 1 := by omega
    have em := getD_map_at smpC l i [] g1 hi
    generalize rsRun dv mg l i.toNat = x at *
    obtain ⟨out, pv, hd'⟩ := x
    simp only at r1 r2 r3 r4 r5 r6
    have ep := getD_map_at smpC l pv [] r2 (by omega)
    have oi := hg.ok i.toNat (by omega)
    have op := hg.ok pv.toNat (by omega)
    have k1 := kpI_len out hd'
    have e3 : ((i.toNat : Nat) : Int) = i := by omega
    unfold rsStep rsK at hstep
    simp only [e3] at hstep
    unfold okSmp at oi op
    by_cases c0 : i = 0
    · rw [if_pos (show i.toNat = 0 by omega)] at hstep
      simp (maxSteps := 1000000) (disch := omega) only [go_sem, eq_self, decide_true, decide_false, not_true_eq_false, not_false_eq_true, reduceIte, reduceCtorEq, Nat.reduceEqDiff, Nat.reduceAdd, Nat.reduceSub, Nat.reduceLeDiff]
      refine ⟨rfl, CALLM_kpI 0 pv out (by omega) ?_⟩
      simp (maxSteps := 1000000) (disch := omega) only [go_sem, eq_self, decide_true, decide_false, not_true_eq_false, not_false_eq_true, reduceIte, reduceCtorEq, Nat.reduceEqDiff, Nat.reduceAdd, Nat.reduceSub, Nat.reduceLeDiff]
      exact ⟨i + 1, by simp only [e2, hstep], ⟨by omega, by omega⟩, by omega⟩
    · rw [if_neg (show ¬i.toNat = 0 by omega)] at hstep
      by_cases c1 : (l.getD i.toNat default).q = (l.getD pv.toNat default).q
      · rw [if_neg (show ¬((l.getD i.toNat default).q ≠ (l.getD pv.toNat default).q) from fun h => h c1)] at hstep
        by_cases c2 : (l.getD i.toNat default).q = 2
        · by_cases c3 : (l.getD i.toNat default).a - (l.getD pv.toNat default).a > mg
          · rw [if_pos (.inl ⟨c2, c3⟩)] at hstep
            simp (maxSteps := 1000000) (disch := omega) only [go_sem, eq_self, decide_true, decide_false, not_true_eq_false, not_false_eq_true, reduceIte, reduceCtorEq, Nat.reduceEqDiff, Nat.reduceAdd, Nat.reduceSub, Nat.reduceLeDiff]
            refine ⟨rfl, CALLM_kpI hd' pv out (by omega) ?_⟩
            simp (maxSteps := 1000000) (disch := omega) only [go_sem, eq_self, decide_true, decide_false, not_true_eq_false, not_false_eq_true, reduceIte, reduceCtorEq, Nat.reduceEqDiff, Nat.reduceAdd, Nat.reduceSub, Nat.reduceLeDiff]
            exact ⟨i + 1, by simp only [e2, hstep], ⟨by omega, by omega⟩, by omega⟩
          · rw [if_neg (by rintro (h | h); exact c3 h.2; exact h.1 c2)] at hstep
            simp (maxSteps := 1000000) (disch := omega) only [go_sem, eq_self, decide_true, decide_false, not_true_eq_false, not_false_eq_true, reduceIte, reduceCtorEq, Nat.reduceEqDiff, Nat.reduceAdd, Nat.reduceSub, Nat.reduceLeDiff]
            exact ⟨i + 1, by simp only [e2, hstep], ⟨by omega, by omega⟩, by omega⟩
        · by_cases c3 : (l.getD i.toNat default).a - (l.getD pv.toNat default).a > mg
          · rw [if_pos (.inr ⟨c2, .inl c3⟩)] at hstep
            simp (maxSteps := 1000000) (disch := omega) only [go_sem, eq_self, decide_true, decide_false, not_true_eq_false, not_false_eq_true, reduceIte, reduceCtorEq, Nat.reduceEqDiff, Nat.reduceAdd, Nat.reduceSub, Nat.reduceLeDiff]
            refine ⟨rfl, CALLM_kpI hd' pv out (by omega) ?_⟩
            simp (maxSteps := 1000000) (disch := omega) only [go_sem, eq_self, decide_true, decide_false, not_true_eq_false, not_false_eq_true, reduceIte, reduceCtorEq, Nat.reduceEqDiff, Nat.reduceAdd, Nat.reduceSub, Nat.reduceLeDiff]
            exact ⟨i + 1, by simp only [e2, hstep], ⟨by omega, by omega⟩, by omega⟩
          · have hcv := covers_fc dv mg hd l hg pv i r2 (by omega) hi
            cases hc : cvB dv l pv i with
            | true =>
              rw [hc] at hcv
              rw [if_neg (by rintro (h | ⟨_, h | h⟩); exact c2 h.1; exact c3 h; rw [hc] at h; cases h)] at hstep
              simp (maxSteps := 1000000) (disch := omega) only [go_sem, eq_self, decide_true, decide_false, not_true_eq_false, not_false_eq_true, reduceIte, reduceCtorEq, Nat.reduceEqDiff, Nat.reduceAdd, Nat.reduceSub, Nat.reduceLeDiff]
              refine CALL_det hcv (.inl rfl) ?_
              simp (maxSteps := 1000000) (disch := omega) only [go_sem, eq_self, decide_true, decide_false, not_true_eq_false, not_false_eq_true, reduceIte, reduceCtorEq, Nat.reduceEqDiff, Nat.reduceAdd, Nat.reduceSub, Nat.reduceLeDiff]
              exact ⟨i + 1, by simp only [e2, hstep], ⟨by omega, by omega⟩, by omega⟩
            | false =>
              rw [hc] at hcv
              rw [if_pos (.inr ⟨c2, .inr hc⟩)] at hstep
              simp (maxSteps := 1000000) (disch := omega) only [go_sem, eq_self, decide_true, decide_false, not_true_eq_false, not_false_eq_true, reduceIte, reduceCtorEq, Nat.reduceEqDiff, Nat.reduceAdd, Nat.reduceSub, Nat.reduceLeDiff]
              refine CALL_det hcv (.inl rfl) ?_
              simp (maxSteps := 1000000) (disch := omega) only [go_sem, eq_self, decide_true, decide_false, not_true_eq_false, not_false_eq_true, reduceIte, reduceCtorEq, Nat.reduceEqDiff, Nat.reduceAdd, Nat.reduceSub, Nat.reduceLeDiff]
              refine ⟨rfl, CALLM_kpI hd' pv out (by omega) ?_⟩
              simp (maxSteps := 1000000) (disch := omega) only [go_sem, eq_self, decide_true, decide_false, not_true_eq_false, not_false_eq_true, reduceIte, reduceCtorEq, Nat.reduceEqDiff, Nat.reduceAdd, Nat.reduceSub, Nat.reduceLeDiff]
              exact ⟨i + 1, by simp only [e2, hstep], ⟨by omega, by omega⟩, by omega⟩
      · rw [if_pos c1] at hstep
        simp (maxSteps := 1000000) (disch := omega) only [go_sem, eq_self, decide_true, decide_false, not_true_eq_false, not_false_eq_true, reduceIte, reduceCtorEq, Nat.reduceEqDiff, Nat.reduceAdd, Nat.reduceSub, Nat.reduceLeDiff]
        refine ⟨rfl, CALLM_kpI hd' pv out (by omega) ?_⟩
        simp (maxSteps := 1000000) (disch := omega) only [go_sem, eq_self, decide_true, decide_false, not_true_eq_false, not_false_eq_true, reduceIte, reduceCtorEq, Nat.reduceEqDiff, Nat.reduceAdd, Nat.reduceSub, Nat.reduceLeDiff]
        refine ⟨rfl, CALLM_kpI i hd' (kpI out hd') (by omega) ?_⟩
        simp (maxSteps := 1000000) (disch := omega) only [go_sem, eq_self, decide_true, decide_false, not_true_eq_false, not_false_eq_true, reduceIte, reduceCtorEq, Nat.reduceEqDiff, Nat.reduceAdd, Nat.reduceSub, Nat.reduceLeDiff]
        exact ⟨i + 1, by simp only [e2, hstep], ⟨by omega, by omega⟩, by omega⟩
  · have ee : i.toNat = l.length := by omega
    rw [ee] at r1 r2 r3 r4 r5 r6 ⊢
    generalize rsRun dv mg l l.length = x at *
    obtain ⟨out, pv, hd'⟩ := x
    simp only at r1 r2 r3 r4 r5 r6
    by_cases c0 : 0 < l.length
    · rw [if_pos c0]
      simp (maxSteps := 1000000) (disch := omega) only [go_sem, eq_self, decide_true, decide_false, not_true_eq_false, not_false_eq_true, reduceIte, reduceCtorEq, Nat.reduceEqDiff, Nat.reduceAdd, Nat.reduceSub, Nat.reduceLeDiff]
      refine ⟨rfl, CALLM_kpI hd' pv out (by omega) ?_⟩
      simp (maxSteps := 1000000) (disch := omega) only [go_sem, eq_self, decide_true, decide_false, not_true_eq_false, not_false_eq_true, reduceIte, reduceCtorEq, Nat.reduceEqDiff, Nat.reduceAdd, Nat.reduceSub, Nat.reduceLeDiff]
    · rw [if_neg c0]
      simp (maxSteps := 1000000) (disch := omega) only [go_sem, eq_self, decide_true, decide_false, not_true_eq_false, not_false_eq_true, reduceIte, reduceCtorEq, Nat.reduceEqDiff, Nat.reduceAdd, Nat.reduceSub, Nat.reduceLeDiff]
end Go.Proofs.Ytggbcgldnjmobaa

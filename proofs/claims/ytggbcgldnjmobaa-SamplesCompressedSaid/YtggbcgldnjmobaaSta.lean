
/-
  The state of a compression: what one sample does to it.
-/
import Derived.Test.YtggbcgldnjmobaaRep
namespace Go.Proofs.Ytggbcgldnjmobaa
open Go Go.Ai
set_option linter.unusedSimpArgs false
set_option linter.unusedVariables false
set_option maxHeartbeats 4000000
def A_less : List Ann := [⟨(some ⟨[2,3], [2,3], []⟩), [], [], [], []⟩, ⟨(some ⟨[4], [], []⟩), [], [], [], []⟩]
def C_less : AC := (.seq (.reg false [⟨(some 2), none, .box (.t 0)⟩, ⟨(some 3), none, .box (.t 1)⟩, ⟨(some 4), none, .mv (.v (.bool false))⟩] (some ⟨[2,3], [2,3], []⟩))
  (.seq (.reg false [⟨(some 5), none, .fadr 0 (.t 2)⟩, ⟨(some 6), none, .load false 1 (.t 5)⟩, ⟨(some 7), none, .fadr 1 (.t 3)⟩, ⟨(some 8), none, .load false 1 (.t 7)⟩, ⟨(some 9), none, .bin .mul (.t 6) (.t 8)⟩, ⟨(some 10), none, .fadr 0 (.t 3)⟩, ⟨(some 11), none, .load false 1 (.t 10)⟩, ⟨(some 12), none, .fadr 1 (.t 2)⟩, ⟨(some 13), none, .load false 1 (.t 12)⟩, ⟨(some 14), none, .bin .mul (.t 11) (.t 13)⟩, ⟨(some 15), none, .bin .lss (.t 9) (.t 14)⟩, ⟨(some 4), none, .mv (.t 15)⟩] (some ⟨[4], [], []⟩))
  .ret))
theorem c_less : compileCode Try.prog Try.f176.ntmps (Try.f176.body.getD .skip) A_less = some (C_less, []) := by kernel_rfl
theorem r_less : compileRes Try.prog Try.f176.results.toList = some [.t 4] := by kernel_rfl
theorem b_less : Try.f176.body = some (Try.f176.body.getD .skip) := by kernel_rfl
theorem n_less : (Try.f176.name == "runtime.NumGoroutine") = false := by kernel_rfl
theorem fc_less {xt : Option (List Cel)} {args : List Val} {R : List Cel → Val → Prop} (hn : (if xt.isSome then 1 else 0) + args.length ≤ Try.f176.ntmps) (h : ex Try.prog C_less [] (fpost xt [.t 4] R) (initSt xt args)) : FC Try.prog 176 xt args R :=
  fc_of_awp Try.func176 b_less n_less c_less r_less (of_decide_eq_true (by kernel_rfl)) hn h

def A_archive : List Ann := [⟨(some ⟨[0,3], [0,3], []⟩), [], [], [], []⟩, ⟨(some ⟨[], [0], []⟩), [], [(4, (some 3)), (8, (some 0))], [], []⟩]
def C_archive : AC := (.seq (.reg false [⟨(some 3), none, .box (.t 1)⟩] (some ⟨[0,3], [0,3], []⟩))
  (.reg true [⟨(some 4), none, .mv (.t 0)⟩, ⟨(some 5), none, .mv (.t 0)⟩, ⟨(some 6), none, .mv (.t 0)⟩, ⟨(some 7), none, .load true 3 (.t 3)⟩, ⟨none, none, .chk (.t 3) (some 3)⟩, ⟨(some 8), none, .load true 3 (.t 3)⟩, ⟨(some 9), none, .build [(.bool false), (.int .i64 (0)), (.int .i64 (0)), (.int .i64 (0)), (.int .i64 (0))] []⟩, ⟨(some 10), none, .nilchk (.t 4)⟩, ⟨(some 11), none, .fadr 3 (.t 10)⟩, ⟨none, none, .chk (.t 11) (some 0)⟩, ⟨none, none, .store 3 (.t 11) (.t 7)⟩, ⟨(some 12), none, .nilchk (.t 5)⟩, ⟨(some 13), none, .fadr 6 (.t 12)⟩, ⟨none, none, .store 3 (.t 13) (.t 8)⟩, ⟨(some 14), none, .nilchk (.t 6)⟩, ⟨(some 15), none, .fadr 9 (.t 14)⟩, ⟨none, none, .store 5 (.t 15) (.t 9)⟩] (some ⟨[], [0], []⟩)))
theorem c_archive : compileCode Try.prog Try.f138.ntmps (Try.f138.body.getD .skip) A_archive = some (C_archive, []) := by kernel_rfl
theorem r_archive : compileRes Try.prog Try.f138.results.toList = some [] := by kernel_rfl
theorem b_archive : Try.f138.body = some (Try.f138.body.getD .skip) := by kernel_rfl
theorem n_archive : (Try.f138.name == "runtime.NumGoroutine") = false := by kernel_rfl
theorem fc_archive {xt : Option (List Cel)} {args : List Val} {R : List Cel → Val → Prop} (hn : (if xt.isSome then 1 else 0) + args.length ≤ Try.f138.ntmps) (h : ex Try.prog C_archive [] (fpost xt [] R) (initSt xt args)) : FC Try.prog 138 xt args R :=
  fc_of_awp Try.func138 b_archive n_archive c_archive r_archive (of_decide_eq_true (by kernel_rfl)) hn h

def A_has : List Ann := [⟨(some ⟨[0,4,5], [0,4,5], []⟩), [], [], [], []⟩, ⟨(some ⟨[0,7], [0,7], []⟩), [], [], [], []⟩, ⟨(some ⟨[6], [0], []⟩), [], [], [], []⟩]
def C_has : AC := (.seq (.reg false [⟨(some 4), none, .box (.t 1)⟩, ⟨(some 5), none, .box (.t 2)⟩, ⟨(some 6), none, .mv (.v (.bool false))⟩] (some ⟨[0,4,5], [0,4,5], []⟩))
  (.seq (.reg false [⟨(some 8), none, .fadr 1 (.t 5)⟩, ⟨(some 9), none, .load false 1 (.t 8)⟩, ⟨(some 10), none, .fadr 1 (.t 4)⟩, ⟨(some 11), none, .load false 1 (.t 10)⟩, ⟨(some 12), none, .bin .sub (.t 9) (.t 11)⟩, ⟨(some 13), none, .fadr 0 (.t 5)⟩, ⟨(some 14), none, .load false 1 (.t 13)⟩, ⟨(some 15), none, .fadr 0 (.t 4)⟩, ⟨(some 16), none, .load false 1 (.t 15)⟩, ⟨(some 17), none, .bin .sub (.t 14) (.t 16)⟩, ⟨(some 18), none, .build [(.int .i64 (0)), (.int .i64 (0))] [(0, 1, (.t 12)), (1, 1, (.t 17))]⟩, ⟨(some 7), none, .alloc [(.int .i64 (0)), (.int .i64 (0))]⟩, ⟨none, none, .store 2 (.t 7) (.t 18)⟩] (some ⟨[0,7], [0,7], []⟩))
  (.seq (.reg true [⟨(some 19), none, .mv (.t 0)⟩, ⟨(some 20), none, .nilchk (.t 19)⟩, ⟨(some 21), none, .fadr 0 (.t 20)⟩, ⟨(some 22), none, .load false 1 (.t 21)⟩, ⟨(some 23), none, .un .not (.t 22)⟩, ⟨(some 24), none, .mv (.t 23)⟩, ⟨(some 25), (some (24, false)), .load true 2 (.t 7)⟩, ⟨(some 26), (some (24, false)), .mv (.t 0)⟩, ⟨(some 27), (some (24, false)), .nilchk (.t 26)⟩, ⟨(some 28), (some (24, false)), .fadr 1 (.t 27)⟩, ⟨(some 29), (some (24, false)), .load true 2 (.t 28)⟩, ⟨(some 30), (some (24, false)), .call (.f 176) [(.t 25), (.t 29)]⟩, ⟨(some 31), (some (24, false)), .un .not (.t 30)⟩, ⟨(some 32), (some (24, false)), .mv (.t 31)⟩, ⟨(some 33), (some (32, true)), .mv (.t 0)⟩, ⟨(some 34), (some (32, true)), .nilchk (.t 33)⟩, ⟨(some 35), (some (32, true)), .fadr 3 (.t 34)⟩, ⟨(some 36), (some (32, true)), .load true 2 (.t 35)⟩, ⟨(some 37), (some (32, true)), .load true 2 (.t 7)⟩, ⟨(some 38), (some (32, true)), .call (.f 176) [(.t 36), (.t 37)]⟩, ⟨(some 39), (some (32, true)), .un .not (.t 38)⟩, ⟨(some 40), (some (24, false)), .pick (.t 32) (.t 39) (.v (.bool false))⟩, ⟨(some 41), none, .pick (.t 24) (.v (.bool true)) (.t 40)⟩, ⟨(some 6), none, .mv (.t 41)⟩] (some ⟨[6], [0], []⟩))
  .ret)))
theorem c_has : compileCode Try.prog Try.f140.ntmps (Try.f140.body.getD .skip) A_has = some (C_has, []) := by kernel_rfl
theorem r_has : compileRes Try.prog Try.f140.results.toList = some [.t 6] := by kernel_rfl
theorem b_has : Try.f140.body = some (Try.f140.body.getD .skip) := by kernel_rfl
theorem n_has : (Try.f140.name == "runtime.NumGoroutine") = false := by kernel_rfl
theorem fcm_has {H : Hp} {K : Keep} {args : List Val} {R : Hp → Val → Prop} (hn : args.length ≤ Try.f140.ntmps) (hkb : ∀ p ∈ H.bs, p.1 = 0 ∨ XK ≤ p.1) (hkr : ∀ p ∈ H.rs, XK ≤ p.1) (h : ex Try.prog C_has [] (mpost H K [.t 6] R) (initM H args)) : FCM Try.prog 140 H args R :=
  fcm_of_awp Try.func140 b_has n_has c_has r_has (of_decide_eq_true (by kernel_rfl)) hn hkb hkr h
theorem fcms_has {S : List Nat} {H : Hp} {K : Keep} {args : List Val} {R : Hp → Val → Prop} (hn : args.length ≤ Try.f140.ntmps) (hkb : ∀ p ∈ H.bs, p.1 = 0 ∨ XK ≤ p.1) (hkr : ∀ p ∈ H.rs, XK ≤ p.1) (h : ex Try.prog C_has [] (mpostS S H K [.t 6] R) (initM H args))   : FCMS Try.prog 140 S H args R :=
  fcms_of_awp Try.func140 b_has n_has c_has r_has (of_decide_eq_true (by kernel_rfl)) hn hkb hkr h

def A_narrow : List Ann := [⟨(some ⟨[0,3,5,6], [0,5,6], []⟩), [], [], [], []⟩, ⟨(some ⟨[0,3,8,9], [0], []⟩), [], [], [], []⟩, ⟨(some ⟨[0,10,11], [0,10,11], []⟩), [], [], [], []⟩, ⟨(some ⟨[0,10,11,44], [0,10,11], []⟩), [], [], [], []⟩, ⟨(some ⟨[0,11], [0,11], []⟩), [], [], [], []⟩, ⟨(some ⟨[0,11,61], [0,11], []⟩), [], [], [], []⟩, ⟨(some ⟨[0], [0], []⟩), [], [], [], []⟩, ⟨(some ⟨[], [0], []⟩), [], [], [], []⟩]
def C_narrow : AC := (.seq (.reg false [⟨(some 5), none, .box (.t 1)⟩, ⟨(some 6), none, .box (.t 2)⟩] (some ⟨[0,3,5,6], [0,5,6], []⟩))
  (.seq (.reg true [⟨(some 12), none, .fadr 0 (.t 6)⟩, ⟨(some 13), none, .load false 1 (.t 12)⟩, ⟨(some 14), none, .fadr 0 (.t 5)⟩, ⟨(some 15), none, .load false 1 (.t 14)⟩, ⟨(some 16), none, .bin .sub (.t 13) (.t 15)⟩, ⟨(some 17), none, .fadr 1 (.t 6)⟩, ⟨(some 18), none, .load false 1 (.t 17)⟩, ⟨(some 19), none, .fadr 1 (.t 5)⟩, ⟨(some 20), none, .load false 1 (.t 19)⟩, ⟨(some 21), none, .bin .sub (.t 18) (.t 20)⟩, ⟨(some 8), none, .mv (.t 16)⟩, ⟨(some 9), none, .mv (.t 21)⟩] (some ⟨[0,3,8,9], [0], []⟩))
  (.seq (.reg false [⟨(some 22), none, .mv (.t 9)⟩, ⟨(some 23), none, .mv (.t 3)⟩, ⟨(some 24), none, .bin .sub (.t 22) (.t 23)⟩, ⟨(some 25), none, .mv (.t 8)⟩, ⟨(some 26), none, .build [(.int .i64 (0)), (.int .i64 (0))] [(0, 1, (.t 24)), (1, 1, (.t 25))]⟩, ⟨(some 27), none, .mv (.t 9)⟩, ⟨(some 28), none, .mv (.t 3)⟩, ⟨(some 29), none, .bin .add (.t 27) (.t 28)⟩, ⟨(some 30), none, .mv (.t 8)⟩, ⟨(some 31), none, .build [(.int .i64 (0)), (.int .i64 (0))] [(0, 1, (.t 29)), (1, 1, (.t 30))]⟩, ⟨(some 10), none, .alloc [(.int .i64 (0)), (.int .i64 (0))]⟩, ⟨(some 11), none, .alloc [(.int .i64 (0)), (.int .i64 (0))]⟩, ⟨none, none, .store 2 (.t 10) (.t 26)⟩, ⟨none, none, .store 2 (.t 11) (.t 31)⟩] (some ⟨[0,10,11], [0,10,11], []⟩))
  (.seq (.seq (.reg true [⟨(some 32), none, .mv (.t 0)⟩, ⟨(some 33), none, .nilchk (.t 32)⟩, ⟨(some 34), none, .fadr 0 (.t 33)⟩, ⟨(some 35), none, .load false 1 (.t 34)⟩, ⟨(some 36), none, .un .not (.t 35)⟩, ⟨(some 37), none, .mv (.t 36)⟩, ⟨(some 38), (some (37, false)), .mv (.t 0)⟩, ⟨(some 39), (some (37, false)), .nilchk (.t 38)⟩, ⟨(some 40), (some (37, false)), .fadr 1 (.t 39)⟩, ⟨(some 41), (some (37, false)), .load true 2 (.t 40)⟩, ⟨(some 42), (some (37, false)), .load true 2 (.t 10)⟩, ⟨(some 43), (some (37, false)), .call (.f 176) [(.t 41), (.t 42)]⟩, ⟨(some 44), none, .pick (.t 37) (.v (.bool true)) (.t 43)⟩] (some ⟨[0,10,11,44], [0,10,11], []⟩))
  (.cond (.t 44)
  (.reg false [⟨(some 45), none, .mv (.t 0)⟩, ⟨(some 46), none, .load true 2 (.t 10)⟩, ⟨(some 47), none, .nilchk (.t 45)⟩, ⟨(some 48), none, .fadr 1 (.t 47)⟩, ⟨none, none, .store 2 (.t 48) (.t 46)⟩] (some ⟨[0,11], [0,11], []⟩))
  .skip))
  (.seq (.seq (.reg true [⟨(some 49), none, .mv (.t 0)⟩, ⟨(some 50), none, .nilchk (.t 49)⟩, ⟨(some 51), none, .fadr 0 (.t 50)⟩, ⟨(some 52), none, .load false 1 (.t 51)⟩, ⟨(some 53), none, .un .not (.t 52)⟩, ⟨(some 54), none, .mv (.t 53)⟩, ⟨(some 55), (some (54, false)), .load true 2 (.t 11)⟩, ⟨(some 56), (some (54, false)), .mv (.t 0)⟩, ⟨(some 57), (some (54, false)), .nilchk (.t 56)⟩, ⟨(some 58), (some (54, false)), .fadr 3 (.t 57)⟩, ⟨(some 59), (some (54, false)), .load true 2 (.t 58)⟩, ⟨(some 60), (some (54, false)), .call (.f 176) [(.t 55), (.t 59)]⟩, ⟨(some 61), none, .pick (.t 54) (.v (.bool true)) (.t 60)⟩] (some ⟨[0,11,61], [0,11], []⟩))
  (.cond (.t 61)
  (.reg false [⟨(some 62), none, .mv (.t 0)⟩, ⟨(some 63), none, .load true 2 (.t 11)⟩, ⟨(some 64), none, .nilchk (.t 62)⟩, ⟨(some 65), none, .fadr 3 (.t 64)⟩, ⟨none, none, .store 2 (.t 65) (.t 63)⟩] (some ⟨[0], [0], []⟩))
  .skip))
  (.reg false [⟨(some 66), none, .mv (.t 0)⟩, ⟨(some 67), none, .nilchk (.t 66)⟩, ⟨(some 68), none, .fadr 0 (.t 67)⟩, ⟨none, none, .store 1 (.t 68) (.v (.bool true))⟩] (some ⟨[], [0], []⟩)))))))
theorem c_narrow : compileCode Try.prog Try.f141.ntmps (Try.f141.body.getD .skip) A_narrow = some (C_narrow, []) := by kernel_rfl
theorem r_narrow : compileRes Try.prog Try.f141.results.toList = some [] := by kernel_rfl
theorem b_narrow : Try.f141.body = some (Try.f141.body.getD .skip) := by kernel_rfl
theorem n_narrow : (Try.f141.name == "runtime.NumGoroutine") = false := by kernel_rfl
theorem fcm_narrow {H : Hp} {K : Keep} {args : List Val} {R : Hp → Val → Prop} (hn : args.length ≤ Try.f141.ntmps) (hkb : ∀ p ∈ H.bs, p.1 = 0 ∨ XK ≤ p.1) (hkr : ∀ p ∈ H.rs, XK ≤ p.1) (h : ex Try.prog C_narrow [] (mpost H K [] R) (initM H args)) : FCM Try.prog 141 H args R :=
  fcm_of_awp Try.func141 b_narrow n_narrow c_narrow r_narrow (of_decide_eq_true (by kernel_rfl)) hn hkb hkr h
theorem fcms_narrow {S : List Nat} {H : Hp} {K : Keep} {args : List Val} {R : Hp → Val → Prop} (hn : args.length ≤ Try.f141.ntmps) (hkb : ∀ p ∈ H.bs, p.1 = 0 ∨ XK ≤ p.1) (hkr : ∀ p ∈ H.rs, XK ≤ p.1) (h : ex Try.prog C_narrow [] (mpostS S H K [] R) (initM H args))   : FCMS Try.prog 141 S H args R :=
  fcms_of_awp Try.func141 b_narrow n_narrow c_narrow r_narrow (of_decide_eq_true (by kernel_rfl)) hn hkb hkr h

def A_addC : List Ann := [⟨(some ⟨[0,1,10,1000001,1000002], [0,1000001,1000002], [1000005]⟩), [], [], [], []⟩, ⟨(some ⟨[0,1000001], [0,1000001,1000002], [1000005]⟩), [], [], [], []⟩, ⟨(some ⟨[], [0,1000001,1000002], [1000005]⟩), [], [], [], []⟩]
def C_addC : AC := (.seq (.reg true [⟨(some 2), none, .load false 1 (.t 0)⟩, ⟨(some 3), none, .nilchk (.t 2)⟩, ⟨(some 4), none, .fadr 6 (.t 3)⟩, ⟨(some 5), none, .load true 3 (.t 4)⟩, ⟨(some 6), none, .load false 1 (.t 0)⟩, ⟨(some 7), none, .nilchk (.t 6)⟩, ⟨(some 8), none, .fadr 3 (.t 7)⟩, ⟨(some 9), none, .load true 3 (.t 8)⟩, ⟨(some 10), none, .eqs true true [.i .i64, .i .i64, .i .i64] (.t 5) (.t 9)⟩] (some ⟨[0,1,10,1000001,1000002], [0,1000001,1000002], [1000005]⟩))
  (.cond (.t 10)
  (.seq (.reg true [⟨(some 11), none, .load false 1 (.t 1)⟩, ⟨(some 12), none, .load false 1 (.t 0)⟩, ⟨(some 13), none, .nilchk (.t 12)⟩, ⟨(some 14), none, .fadr 6 (.t 13)⟩, ⟨(some 15), none, .load true 3 (.t 14)⟩, ⟨(some 16), none, .bslice 3 1 [(.t 15)]⟩, ⟨(some 17), none, .append 38 3 24 (.t 11) (.t 16)⟩, ⟨none, none, .store 1 (.t 1) (.t 17)⟩] (some ⟨[0,1000001], [0,1000001,1000002], [1000005]⟩))
  (.reg true [⟨(some 18), none, .load false 1 (.t 0)⟩, ⟨(some 19), none, .load false 1 (.t 0)⟩, ⟨(some 20), none, .nilchk (.t 19)⟩, ⟨(some 21), none, .fadr 6 (.t 20)⟩, ⟨(some 22), none, .load true 3 (.t 21)⟩, ⟨(some 23), none, .callx (.f 138) [(.t 18), (.t 22)]⟩] (some ⟨[], [0,1000001,1000002], [1000005]⟩)))
  .skip))
theorem c_addC : compileCode Try.prog Try.f139.ntmps (Try.f139.body.getD .skip) A_addC = some (C_addC, []) := by kernel_rfl
theorem r_addC : compileRes Try.prog Try.f139.results.toList = some [] := by kernel_rfl
theorem b_addC : Try.f139.body = some (Try.f139.body.getD .skip) := by kernel_rfl
theorem n_addC : (Try.f139.name == "runtime.NumGoroutine") = false := by kernel_rfl
theorem fcm_addC {H : Hp} {K : Keep} {args : List Val} {R : Hp → Val → Prop} (hn : args.length ≤ Try.f139.ntmps) (hkb : ∀ p ∈ H.bs, p.1 = 0 ∨ XK ≤ p.1) (hkr : ∀ p ∈ H.rs, XK ≤ p.1) (h : ex Try.prog C_addC [] (mpost H K [] R) (initM H args)) : FCM Try.prog 139 H args R :=
  fcm_of_awp Try.func139 b_addC n_addC c_addC r_addC (of_decide_eq_true (by kernel_rfl)) hn hkb hkr h
theorem fcms_addC {S : List Nat} {H : Hp} {K : Keep} {args : List Val} {R : Hp → Val → Prop} (hn : args.length ≤ Try.f139.ntmps) (hkb : ∀ p ∈ H.bs, p.1 = 0 ∨ XK ≤ p.1) (hkr : ∀ p ∈ H.rs, XK ≤ p.1) (h : ex Try.prog C_addC [] (mpostS S H K [] R) (initM H args))   : FCMS Try.prog 139 S H args R :=
  fcms_of_awp Try.func139 b_addC n_addC c_addC r_addC (of_decide_eq_true (by kernel_rfl)) hn hkb hkr h

def A_add : List Ann := [⟨(some ⟨[0,2,3], [0,2,3], [5]⟩), [], [], [], []⟩, ⟨(some ⟨[0,2,3,12], [0,2,3], [5]⟩), [], [], [], []⟩, ⟨(some ⟨[0,2,3], [0,2,3], []⟩), [], [], [], []⟩, ⟨(some ⟨[3], [0,3], []⟩), [], [], [], []⟩, ⟨(some ⟨[4], [0], []⟩), [], [], [], []⟩, ⟨(some ⟨[0,2,3,5], [0,2,3,5], []⟩), [(1000005, 38, 3)], [], [], []⟩, ⟨(some ⟨[0,2,3,5,6], [0,2,3,5], [5]⟩), [], [], [], []⟩, ⟨(some ⟨[0,2,3,5,6,7], [0,2,3,5], [5]⟩), [], [], [], []⟩, ⟨(some ⟨[0,2,3,5,6,7,36], [0,2,3,5], [5]⟩), [], [], [], []⟩, ⟨(some ⟨[0,2,3,5], [0,2,3,5], [5]⟩), [], [], [], [(46, ⟨[0,2,5], [5], [0,2,5], [5], []⟩)]⟩, ⟨(some ⟨[0,2,3,5], [0,2,3,5], []⟩), [], [], [], []⟩, ⟨(some ⟨[5], [0,5], []⟩), [], [], [], []⟩, ⟨(some ⟨[4], [0], []⟩), [], [], [], []⟩, ⟨(some ⟨[0,2,3,5,6,7,55], [0,2,3,5], [5]⟩), [], [], [], []⟩, ⟨(some ⟨[0,2,3,5,6,59], [0,2,3,5], [5]⟩), [], [], [], []⟩, ⟨(some ⟨[0,2,3,5], [0,2,3,5], [5]⟩), [], [], [], [(61, ⟨[0,2,5], [5], [0,2,5], [5], []⟩)]⟩, ⟨(some ⟨[0,2,3,5,6,62], [0,2,3,5], [5]⟩), [], [], [], [(73, ⟨[0], [], [0], [], []⟩)]⟩, ⟨(some ⟨[0,2,3,5], [0,2,3,5], [5]⟩), [], [], [], [(77, ⟨[0,2,5], [5], [0,2,5], [5], []⟩)]⟩, ⟨(some ⟨[0,2,3,5,80], [0,2,3,5], [5]⟩), [], [], [], []⟩, ⟨(some ⟨[0,2,3,5], [0,2,3,5], [5]⟩), [], [], [], [(94, ⟨[0], [], [0], [], []⟩)]⟩, ⟨(some ⟨[5], [0,5], []⟩), [], [], [], []⟩, ⟨(some ⟨[4], [0], []⟩), [], [], [], []⟩]
def C_add : AC := (.seq (.reg false [⟨(some 2), none, .box (.t 0)⟩, ⟨(some 3), none, .box (.t 1)⟩, ⟨(some 4), none, .mv (.v (.slice none 0 0))⟩] (some ⟨[0,2,3], [0,2,3], [5]⟩))
  (.seq (.seq (.reg false [⟨(some 8), none, .load false 1 (.t 2)⟩, ⟨(some 9), none, .nilchk (.t 8)⟩, ⟨(some 10), none, .fadr 2 (.t 9)⟩, ⟨(some 11), none, .load false 1 (.t 10)⟩, ⟨(some 12), none, .un .not (.t 11)⟩] (some ⟨[0,2,3,12], [0,2,3], [5]⟩))
  (.cond (.t 12)
  (.seq (.reg false [⟨(some 13), none, .load false 1 (.t 2)⟩, ⟨(some 14), none, .nilchk (.t 13)⟩, ⟨(some 15), none, .fadr 2 (.t 14)⟩, ⟨none, none, .store 1 (.t 15) (.v (.bool true))⟩] (some ⟨[0,2,3], [0,2,3], []⟩))
  (.seq (.reg false [⟨(some 16), none, .load false 1 (.t 2)⟩, ⟨(some 17), none, .load true 3 (.t 3)⟩, ⟨(some 18), none, .callx (.f 138) [(.t 16), (.t 17)]⟩] (some ⟨[3], [0,3], []⟩))
  (.seq (.reg false [⟨(some 19), none, .load true 3 (.t 3)⟩, ⟨(some 20), none, .bslice 3 1 [(.t 19)]⟩, ⟨(some 4), none, .mv (.t 20)⟩] (some ⟨[4], [0], []⟩))
  .ret)))
  .skip))
  (.seq (.seq (.reg false [⟨(some 5), none, .alloc [(.slice none 0 0)]⟩] (some ⟨[0,2,3,5], [0,2,3,5], []⟩))
  (.ownb 5 38 3))
  (.seq (.reg false [⟨(some 21), none, .mkfn 139 [(.t 2), (.t 5)]⟩, ⟨(some 6), none, .mv (.t 21)⟩] (some ⟨[0,2,3,5,6], [0,2,3,5], [5]⟩))
  (.seq (.reg true [⟨(some 22), none, .fadr 0 (.t 3)⟩, ⟨(some 23), none, .load false 1 (.t 22)⟩, ⟨(some 24), none, .load false 1 (.t 2)⟩, ⟨(some 25), none, .nilchk (.t 24)⟩, ⟨(some 26), none, .fadr 3 (.t 25)⟩, ⟨(some 27), none, .fadr 0 (.t 26)⟩, ⟨(some 28), none, .load false 1 (.t 27)⟩, ⟨(some 29), none, .bin .sub (.t 23) (.t 28)⟩, ⟨(some 30), none, .load false 1 (.t 2)⟩, ⟨(some 31), none, .nilchk (.t 30)⟩, ⟨(some 32), none, .fadr 0 (.t 31)⟩, ⟨(some 33), none, .fadr 1 (.t 32)⟩, ⟨(some 34), none, .load false 1 (.t 33)⟩, ⟨(some 35), none, .bin .gtr (.t 29) (.t 34)⟩, ⟨(some 7), none, .mv (.t 35)⟩] (some ⟨[0,2,3,5,6,7], [0,2,3,5], [5]⟩))
  (.seq (.block 0 (.seq (.reg true [⟨(some 37), none, .fadr 2 (.t 3)⟩, ⟨(some 38), none, .load false 1 (.t 37)⟩, ⟨(some 39), none, .load false 1 (.t 2)⟩, ⟨(some 40), none, .nilchk (.t 39)⟩, ⟨(some 41), none, .fadr 3 (.t 40)⟩, ⟨(some 42), none, .fadr 2 (.t 41)⟩, ⟨(some 43), none, .load false 1 (.t 42)⟩, ⟨(some 44), none, .bin .neq (.t 38) (.t 43)⟩, ⟨(some 36), none, .mv (.t 44)⟩] (some ⟨[0,2,3,5,6,7,36], [0,2,3,5], [5]⟩))
  (.cond (.t 36)
  (.seq (.reg false [⟨(some 45), none, .mv (.t 6)⟩, ⟨(some 46), none, .callm (.t 45) [] ⟨[0,2,5], [5], [0,2,5], [5], []⟩⟩] (some ⟨[0,2,3,5], [0,2,3,5], [5]⟩))
  (.seq (.reg false [⟨(some 47), none, .load false 1 (.t 5)⟩, ⟨(some 48), none, .load true 3 (.t 3)⟩, ⟨(some 49), none, .bslice 3 1 [(.t 48)]⟩, ⟨(some 50), none, .append 38 3 24 (.t 47) (.t 49)⟩, ⟨none, none, .store 1 (.t 5) (.t 50)⟩] (some ⟨[0,2,3,5], [0,2,3,5], []⟩))
  (.seq (.reg false [⟨(some 51), none, .load false 1 (.t 2)⟩, ⟨(some 52), none, .load true 3 (.t 3)⟩, ⟨(some 53), none, .callx (.f 138) [(.t 51), (.t 52)]⟩] (some ⟨[5], [0,5], []⟩))
  (.seq (.reg false [⟨(some 54), none, .load false 1 (.t 5)⟩, ⟨(some 4), none, .mv (.t 54)⟩] (some ⟨[4], [0], []⟩))
  .ret))))
  (.seq (.reg false [⟨(some 56), none, .fadr 2 (.t 3)⟩, ⟨(some 57), none, .load false 1 (.t 56)⟩, ⟨(some 58), none, .bin .eql (.t 57) (.v (.int .i64 (2)))⟩, ⟨(some 55), none, .mv (.t 58)⟩] (some ⟨[0,2,3,5,6,7,55], [0,2,3,5], [5]⟩))
  (.cond (.t 55)
  (.seq (.reg false [⟨(some 59), none, .mv (.t 7)⟩] (some ⟨[0,2,3,5,6,59], [0,2,3,5], [5]⟩))
  (.cond (.t 59)
  (.reg false [⟨(some 60), none, .mv (.t 6)⟩, ⟨(some 61), none, .callm (.t 60) [] ⟨[0,2,5], [5], [0,2,5], [5], []⟩⟩] (some ⟨[0,2,3,5], [0,2,3,5], [5]⟩))
  .skip))
  (.seq (.reg true [⟨(some 63), none, .mv (.t 7)⟩, ⟨(some 64), none, .mv (.t 63)⟩, ⟨(some 65), (some (64, false)), .load false 1 (.t 2)⟩, ⟨(some 66), (some (64, false)), .nilchk (.t 65)⟩, ⟨(some 67), (some (64, false)), .fadr 9 (.t 66)⟩, ⟨(some 68), (some (64, false)), .load false 1 (.t 2)⟩, ⟨(some 69), (some (64, false)), .nilchk (.t 68)⟩, ⟨(some 70), (some (64, false)), .fadr 3 (.t 69)⟩, ⟨(some 71), (some (64, false)), .load true 3 (.t 70)⟩, ⟨(some 72), (some (64, false)), .load true 3 (.t 3)⟩, ⟨(some 73), (some (64, false)), .callm (.f 140) [(.t 67), (.t 71), (.t 72)] ⟨[0], [], [0], [], []⟩⟩, ⟨(some 74), (some (64, false)), .un .not (.t 73)⟩, ⟨(some 75), none, .pick (.t 64) (.v (.bool true)) (.t 74)⟩, ⟨(some 62), none, .mv (.t 75)⟩] (some ⟨[0,2,3,5,6,62], [0,2,3,5], [5]⟩))
  (.cond (.t 62)
  (.reg false [⟨(some 76), none, .mv (.t 6)⟩, ⟨(some 77), none, .callm (.t 76) [] ⟨[0,2,5], [5], [0,2,5], [5], []⟩⟩] (some ⟨[0,2,3,5], [0,2,3,5], [5]⟩))
  .skip)))))))
  (.seq (.seq (.reg false [⟨(some 78), none, .fadr 2 (.t 3)⟩, ⟨(some 79), none, .load false 1 (.t 78)⟩, ⟨(some 80), none, .bin .neq (.t 79) (.v (.int .i64 (2)))⟩] (some ⟨[0,2,3,5,80], [0,2,3,5], [5]⟩))
  (.cond (.t 80)
  (.reg true [⟨(some 81), none, .load false 1 (.t 2)⟩, ⟨(some 82), none, .nilchk (.t 81)⟩, ⟨(some 83), none, .fadr 9 (.t 82)⟩, ⟨(some 84), none, .load false 1 (.t 2)⟩, ⟨(some 85), none, .nilchk (.t 84)⟩, ⟨(some 86), none, .fadr 3 (.t 85)⟩, ⟨(some 87), none, .load true 3 (.t 86)⟩, ⟨(some 88), none, .load true 3 (.t 3)⟩, ⟨(some 89), none, .load false 1 (.t 2)⟩, ⟨(some 90), none, .nilchk (.t 89)⟩, ⟨(some 91), none, .fadr 0 (.t 90)⟩, ⟨(some 92), none, .fadr 0 (.t 91)⟩, ⟨(some 93), none, .load false 1 (.t 92)⟩, ⟨(some 94), none, .callm (.f 141) [(.t 83), (.t 87), (.t 88), (.t 93)] ⟨[0], [], [0], [], []⟩⟩] (some ⟨[0,2,3,5], [0,2,3,5], [5]⟩))
  .skip))
  (.seq (.reg false [⟨(some 95), none, .load false 1 (.t 2)⟩, ⟨(some 96), none, .load true 3 (.t 3)⟩, ⟨(some 97), none, .nilchk (.t 95)⟩, ⟨(some 98), none, .fadr 6 (.t 97)⟩, ⟨none, none, .store 3 (.t 98) (.t 96)⟩] (some ⟨[5], [0,5], []⟩))
  (.seq (.reg false [⟨(some 99), none, .load false 1 (.t 5)⟩, ⟨(some 4), none, .mv (.t 99)⟩] (some ⟨[4], [0], []⟩))
  .ret)))))))))
theorem c_add : compileCode Try.prog Try.f79.ntmps (Try.f79.body.getD .skip) A_add = some (C_add, []) := by kernel_rfl
theorem r_add : compileRes Try.prog Try.f79.results.toList = some [.t 4] := by kernel_rfl
theorem b_add : Try.f79.body = some (Try.f79.body.getD .skip) := by kernel_rfl
theorem n_add : (Try.f79.name == "runtime.NumGoroutine") = false := by kernel_rfl
theorem fc_add {xt : Option (List Cel)} {args : List Val} {R : List Cel → Val → Prop} (hn : (if xt.isSome then 1 else 0) + args.length ≤ Try.f79.ntmps) (h : ex Try.prog C_add [] (fpost xt [.t 4] R) (initSt xt args)) : FC Try.prog 79 xt args R :=
  fc_of_awp Try.func79 b_add n_add c_add r_add (of_decide_eq_true (by kernel_rfl)) hn h
theorem fcm_add {H : Hp} {K : Keep} {args : List Val} {R : Hp → Val → Prop} (hn : args.length ≤ Try.f79.ntmps) (hkb : ∀ p ∈ H.bs, p.1 = 0 ∨ XK ≤ p.1) (hkr : ∀ p ∈ H.rs, XK ≤ p.1) (h : ex Try.prog C_add [] (mpost H K [.t 4] R) (initM H args)) : FCM Try.prog 79 H args R :=
  fcm_of_awp Try.func79 b_add n_add c_add r_add (of_decide_eq_true (by kernel_rfl)) hn hkb hkr h
theorem fcms_add {S : List Nat} {H : Hp} {K : Keep} {args : List Val} {R : Hp → Val → Prop} (hn : args.length ≤ Try.f79.ntmps) (hkb : ∀ p ∈ H.bs, p.1 = 0 ∨ XK ≤ p.1) (hkr : ∀ p ∈ H.rs, XK ≤ p.1) (h : ex Try.prog C_add [] (mpostS S H K [.t 4] R) (initM H args))   : FCMS Try.prog 79 S H args R :=
  fcms_of_awp Try.func79 b_add n_add c_add r_add (of_decide_eq_true (by kernel_rfl)) hn hkb hkr h

def A_flush : List Ann := [⟨(some ⟨[0], [0], []⟩), [], [], [], []⟩, ⟨(some ⟨[0,3], [0], []⟩), [(3, 38, 3)], [], [], []⟩, ⟨(some ⟨[0,3,18], [0], [3]⟩), [], [], [], []⟩, ⟨(some ⟨[0,3], [0], []⟩), [], [], [], []⟩, ⟨(some ⟨[3], [0], []⟩), [], [], [], []⟩, ⟨(some ⟨[2], [0], []⟩), [], [], [], []⟩]
def C_flush : AC := (.seq (.reg false [⟨(some 2), none, .mv (.v (.slice none 0 0))⟩] (some ⟨[0], [0], []⟩))
  (.seq (.seq (.reg false [⟨(some 3), none, .mv (.v (.slice none 0 0))⟩] (some ⟨[0,3], [0], []⟩))
  (.own 3 38 3))
  (.seq (.seq (.reg true [⟨(some 4), none, .mv (.t 0)⟩, ⟨(some 5), none, .nilchk (.t 4)⟩, ⟨(some 6), none, .fadr 2 (.t 5)⟩, ⟨(some 7), none, .load false 1 (.t 6)⟩, ⟨(some 8), none, .mv (.t 7)⟩, ⟨(some 9), (some (8, true)), .mv (.t 0)⟩, ⟨(some 10), (some (8, true)), .nilchk (.t 9)⟩, ⟨(some 11), (some (8, true)), .fadr 6 (.t 10)⟩, ⟨(some 12), (some (8, true)), .load true 3 (.t 11)⟩, ⟨(some 13), (some (8, true)), .mv (.t 0)⟩, ⟨(some 14), (some (8, true)), .nilchk (.t 13)⟩, ⟨(some 15), (some (8, true)), .fadr 3 (.t 14)⟩, ⟨(some 16), (some (8, true)), .load true 3 (.t 15)⟩, ⟨(some 17), (some (8, true)), .eqs true true [.i .i64, .i .i64, .i .i64] (.t 12) (.t 16)⟩, ⟨(some 18), none, .pick (.t 8) (.t 17) (.v (.bool false))⟩] (some ⟨[0,3,18], [0], [3]⟩))
  (.cond (.t 18)
  (.reg false [⟨(some 19), none, .mv (.t 3)⟩, ⟨(some 20), none, .mv (.t 0)⟩, ⟨(some 21), none, .nilchk (.t 20)⟩, ⟨(some 22), none, .fadr 6 (.t 21)⟩, ⟨(some 23), none, .load true 3 (.t 22)⟩, ⟨(some 24), none, .bslice 3 1 [(.t 23)]⟩, ⟨(some 25), none, .append 38 3 24 (.t 19) (.t 24)⟩, ⟨(some 3), none, .mv (.t 25)⟩] (some ⟨[0,3], [0], []⟩))
  .skip))
  (.seq (.reg false [⟨(some 26), none, .mv (.t 0)⟩, ⟨(some 27), none, .mv (.t 0)⟩, ⟨(some 28), none, .nilchk (.t 27)⟩, ⟨(some 29), none, .fadr 0 (.t 28)⟩, ⟨(some 30), none, .load true 2 (.t 29)⟩, ⟨(some 31), none, .build [(.int .i64 (0)), (.int .i64 (0)), (.bool false), (.int .i64 (0)), (.int .i64 (0)), (.int .i64 (0)), (.int .i64 (0)), (.int .i64 (0)), (.int .i64 (0)), (.bool false), (.int .i64 (0)), (.int .i64 (0)), (.int .i64 (0)), (.int .i64 (0))] [(0, 2, (.t 30))]⟩, ⟨(some 32), none, .nilchk (.t 26)⟩, ⟨none, none, .store 14 (.t 32) (.t 31)⟩] (some ⟨[3], [0], []⟩))
  (.seq (.reg false [⟨(some 33), none, .mv (.t 3)⟩, ⟨(some 2), none, .mv (.t 33)⟩] (some ⟨[2], [0], []⟩))
  .ret)))))
theorem c_flush : compileCode Try.prog Try.f81.ntmps (Try.f81.body.getD .skip) A_flush = some (C_flush, []) := by kernel_rfl
theorem r_flush : compileRes Try.prog Try.f81.results.toList = some [.t 2] := by kernel_rfl
theorem b_flush : Try.f81.body = some (Try.f81.body.getD .skip) := by kernel_rfl
theorem n_flush : (Try.f81.name == "runtime.NumGoroutine") = false := by kernel_rfl
theorem fc_flush {xt : Option (List Cel)} {args : List Val} {R : List Cel → Val → Prop} (hn : (if xt.isSome then 1 else 0) + args.length ≤ Try.f81.ntmps) (h : ex Try.prog C_flush [] (fpost xt [.t 2] R) (initSt xt args)) : FC Try.prog 81 xt args R :=
  fc_of_awp Try.func81 b_flush n_flush c_flush r_flush (of_decide_eq_true (by kernel_rfl)) hn h


section
variable {P : Program} {Q : AX → AS → Prop} {s : AS} {k : List KI} {kp : Option Keep} {l : List GI}
theorem CALLX_det {f : FuncId} {key : Nat} {cs0 cs : List Cel} {vargs : List Val} {d : Option Nat} {r : Val} (hf : FC P f (some cs0) vargs (fun cs' x => cs' = cs ∧ x = r)) (hr : dataRV r = true) (hc : cs.all dataRC = true)
    (h : rg P l kp k Q ({ s with bx := upd s.bx key (some cs) }.put d r)) : CALLX P f key cs0 vargs d l kp k Q s :=
  ⟨_, hf, ⟨cs, r, rfl, rfl⟩, fun _ _ hx => by obtain ⟨rfl, rfl⟩ := hx; exact ⟨hr, hc, h⟩⟩
end
/-- Door, whether it has begun, pivot, held sample; the cone: whether there is one, its lowest and highest slope. -/
structure Sc where
  dv : Int
  mg : Int
  b : Bool
  p : Smp
  h : Smp
  c : Bool
  lr : Int
  ln : Int
  hr : Int
  hn : Int
/-- What stands behind the state in its box. -/
def tlC : Option Int → List Cel
  | none => []
  | some n => [.g (.int .i64 n)]
def scC (x : Sc) (o : Option Int) : List Cel := .g (.int .i64 x.dv) :: .g (.int .i64 x.mg) :: .g (.bool x.b) :: .g (.int .i64 x.p.a) :: .g (.int .i64 x.p.v) :: .g (.int .i64 x.p.q) :: .g (.int .i64 x.h.a) :: .g (.int .i64 x.h.v) :: .g (.int .i64 x.h.q) :: .g (.bool x.c) :: .g (.int .i64 x.lr) :: .g (.int .i64 x.ln) :: .g (.int .i64 x.hr) :: .g (.int .i64 x.hn) :: tlC o
section
variable {s : AS} {o : Option Int}
theorem tl_ren {K : Kp} : (tlC o).map (s.renC K) = tlC o := by cases o <;> rfl
theorem tl_pass {m : CAnn} : (tlC o).map (s.passC m) = tlC o := by cases o <;> rfl
theorem tl_back {m : CAnn} : (tlC o).map (s.backC m) = tlC o := by cases o <;> rfl
theorem tl_view : (tlC o).map s.viewC = tlC o := by cases o <;> rfl
theorem tl_fin : (tlC o).map s.finC = tlC o := by cases o <;> rfl
theorem tl_dat : (tlC o).map Cel.dat = tlC o := by cases o <;> rfl
theorem tl_rn {p q : Nat → Nat} : (tlC o).map (rnC p q) = tlC o := by cases o <;> rfl
theorem tl_plain : (tlC o).all plainC = true := by cases o <;> rfl
end
attribute [go_sem] tl_ren tl_pass tl_back tl_view tl_fin tl_dat tl_rn tl_plain
theorem sc_data (x : Sc) (o : Option Int) : (scC x o).all dataRC = true := by cases o <;> rfl
theorem less_fc (a b c d : Int) (h1 : -9000000000000000000 ≤ a * d ∧ a * d ≤ 9000000000000000000) (h2 : -9000000000000000000 ≤ c * b ∧ c * b ≤ 9000000000000000000) :
    FC Try.prog 176 none [.ag [.g (.int .i64 a), .g (.int .i64 b)], .ag [.g (.int .i64 c), .g (.int .i64 d)]] (fun _ r => r = bv (decide (a * d < c * b))) := by
  refine fc_less (by simp +arith) ?_
  unfold C_less
  generalize hx : a * d = X at *
  generalize hy : c * b = Y at *
  simp (maxSteps := 1000000) (disch := omega) only [go_sem, eq_self, decide_true, decide_false, not_true_eq_false, not_false_eq_true, reduceIte, reduceCtorEq, Nat.reduceEqDiff, Nat.reduceAdd, Nat.reduceSub, Nat.reduceLeDiff]
  rw [hx, hy]
def arch (x : Sc) (s : Smp) : Sc := ⟨x.dv, x.mg, x.b, s, s, false, 0, 0, 0, 0⟩
theorem archive_fc (x : Sc) (o : Option Int) (s : Smp) : FC Try.prog 138 (some (scC x o)) [.ag (smpC s)] (fun cs r => cs = scC (arch x s) o ∧ r = .tu []) := by
  refine fc_archive (by simp +arith) ?_
  unfold C_archive scC arch
  simp (maxSteps := 1000000) (disch := omega) only [go_sem, eq_self, decide_true, decide_false, not_true_eq_false, not_false_eq_true, reduceIte, reduceCtorEq, Nat.reduceEqDiff, Nat.reduceAdd, Nat.reduceSub, Nat.reduceLeDiff]
/-- A slope is less than another one. -/
abbrev sl (a b c d : Int) : Prop := a * d < c * b
def hasB (x : Sc) (p s : Smp) : Bool := !x.c || (!decide (sl (s.v - p.v) (s.a - p.a) x.lr x.ln) && !decide (sl x.hr x.hn (s.v - p.v) (s.a - p.a)))
def nrw (x : Sc) (p s : Smp) (dev : Int) : Sc :=
  let lo : Bool := !x.c || decide (sl x.lr x.ln (s.v - p.v - dev) (s.a - p.a))
  let hi : Bool := !x.c || decide (sl (s.v - p.v + dev) (s.a - p.a) x.hr x.hn)
  ⟨x.dv, x.mg, x.b, x.p, x.h, true, if lo then s.v - p.v - dev else x.lr, if lo then s.a - p.a else x.ln, if hi then s.v - p.v + dev else x.hr, if hi then s.a - p.a else x.hn⟩
/-- The slopes of a cone are small enough. -/
def okC (x : Sc) : Prop := (-4000000 ≤ x.lr ∧ x.lr ≤ 4000000) ∧ (0 ≤ x.ln ∧ x.ln ≤ 345686400000) ∧ (-4000000 ≤ x.hr ∧ x.hr ≤ 4000000) ∧ (0 ≤ x.hn ∧ x.hn ≤ 345686400000)
theorem prod_bd {a b : Int} (ha : -4000000 ≤ a ∧ a ≤ 4000000) (hb : 0 ≤ b ∧ b ≤ 345686400000) : -9000000000000000000 ≤ a * b ∧ a * b ≤ 9000000000000000000 := by
  have h1 := Int.mul_le_mul_of_nonneg_right ha.1 hb.1
  have h2 := Int.mul_le_mul_of_nonneg_right ha.2 hb.1
  omega
theorem has_fcm (x : Sc) (o : Option Int) (p s : Smp) (hx : okC x) (hv : -2000000 ≤ s.v - p.v ∧ s.v - p.v ≤ 2000000) (ha : 0 ≤ s.a - p.a ∧ s.a - p.a ≤ 345686400000) :
    FCM Try.prog 140 ⟨[(0, scC x o)], []⟩ [.one (.bx 0 9), .ag (smpC p), .ag (smpC s)] (fun H r => H = ⟨[(0, scC x o)], []⟩ ∧ r = bv (hasB x p s)) := by
  refine fcm_has (K := ⟨[], [0], []⟩) (by simp +arith) (by simp) (by simp) ?_
  obtain ⟨h1, h2, h3, h4⟩ := hx
  have b1 := prod_bd (a := s.v - p.v) (b := x.ln) (by omega) h2
  have b2 := prod_bd (b := s.a - p.a) h1 ha
  have b3 := prod_bd (b := s.a - p.a) h3 ha
  have b4 := prod_bd (a := s.v - p.v) (b := x.hn) (by omega) h4
  have l1 := less_fc (s.v - p.v) (s.a - p.a) x.lr x.ln b1 b2
  have l2 := less_fc x.hr x.hn (s.v - p.v) (s.a - p.a) b3 b4
  unfold C_has hasB sl scC
  cases hc : x.c with
  | false =>
    simp (maxSteps := 1000000) (disch := omega) only [go_sem, eq_self, decide_true, decide_false, not_true_eq_false, not_false_eq_true, reduceIte, reduceCtorEq, Nat.reduceEqDiff, Nat.reduceAdd, Nat.reduceSub, Nat.reduceLeDiff]
    rfl
  | true =>
    by_cases c1 : (s.v - p.v) * x.ln < x.lr * (s.a - p.a)
    · rw [decide_eq_true c1] at l1 ⊢
      simp (maxSteps := 1000000) (disch := omega) only [go_sem, eq_self, decide_true, decide_false, not_true_eq_false, not_false_eq_true, reduceIte, reduceCtorEq, Nat.reduceEqDiff, Nat.reduceAdd, Nat.reduceSub, Nat.reduceLeDiff]
      refine CALL_det l1 (.inl rfl) ?_
      simp (maxSteps := 1000000) (disch := omega) only [go_sem, eq_self, decide_true, decide_false, not_true_eq_false, not_false_eq_true, reduceIte, reduceCtorEq, Nat.reduceEqDiff, Nat.reduceAdd, Nat.reduceSub, Nat.reduceLeDiff]
      rfl
    · rw [decide_eq_false c1] at l1 ⊢
      by_cases c2 : x.hr * (s.a - p.a) < (s.v - p.v) * x.hn
      · rw [decide_eq_true c2] at l2 ⊢
        simp (maxSteps := 1000000) (disch := omega) only [go_sem, eq_self, decide_true, decide_false, not_true_eq_false, not_false_eq_true, reduceIte, reduceCtorEq, Nat.reduceEqDiff, Nat.reduceAdd, Nat.reduceSub, Nat.reduceLeDiff]
        refine CALL_det l1 (.inl rfl) ?_
        simp (maxSteps := 1000000) (disch := omega) only [go_sem, eq_self, decide_true, decide_false, not_true_eq_false, not_false_eq_true, reduceIte, reduceCtorEq, Nat.reduceEqDiff, Nat.reduceAdd, Nat.reduceSub, Nat.reduceLeDiff]
        refine CALL_det l2 (.inl rfl) ?_
        simp (maxSteps := 1000000) (disch := omega) only [go_sem, eq_self, decide_true, decide_false, not_true_eq_false, not_false_eq_true, reduceIte, reduceCtorEq, Nat.reduceEqDiff, Nat.reduceAdd, Nat.reduceSub, Nat.reduceLeDiff]
        rfl
      · rw [decide_eq_false c2] at l2 ⊢
        simp (maxSteps := 1000000) (disch := omega) only [go_sem, eq_self, decide_true, decide_false, not_true_eq_false, not_false_eq_true, reduceIte, reduceCtorEq, Nat.reduceEqDiff, Nat.reduceAdd, Nat.reduceSub, Nat.reduceLeDiff]
        refine CALL_det l1 (.inl rfl) ?_
        simp (maxSteps := 1000000) (disch := omega) only [go_sem, eq_self, decide_true, decide_false, not_true_eq_false, not_false_eq_true, reduceIte, reduceCtorEq, Nat.reduceEqDiff, Nat.reduceAdd, Nat.reduceSub, Nat.reduceLeDiff]
        refine CALL_det l2 (.inl rfl) ?_
        simp (maxSteps := 1000000) (disch := omega) only [go_sem, eq_self, decide_true, decide_false, not_true_eq_false, not_false_eq_true, reduceIte, reduceCtorEq, Nat.reduceEqDiff, Nat.reduceAdd, Nat.reduceSub, Nat.reduceLeDiff]
        rfl
theorem narrow_fcm (x : Sc) (o : Option Int) (p s : Smp) (dev : Int) (hx : okC x) (hv : -2000000 ≤ s.v - p.v ∧ s.v - p.v ≤ 2000000) (ha : 0 ≤ s.a - p.a ∧ s.a - p.a ≤ 345686400000) (hd : 0 ≤ dev ∧ dev ≤ 2000000) :
    FCM Try.prog 141 ⟨[(0, scC x o)], []⟩ [.one (.bx 0 9), .ag (smpC p), .ag (smpC s), iv dev] (fun H r => H = ⟨[(0, scC (nrw x p s dev) o)], []⟩ ∧ r = .tu []) := by
  refine fcm_narrow (K := ⟨[], [0], []⟩) (by simp +arith) (by simp) (by simp) ?_
  obtain ⟨h1, h2, h3, h4⟩ := hx
  have b1 := prod_bd (a := s.v - p.v - dev) (b := x.ln) (by omega) h2
  have b2 := prod_bd (b := s.a - p.a) h1 ha
  have b3 := prod_bd (b := s.a - p.a) h3 ha
  have b4 := prod_bd (a := s.v - p.v + dev) (b := x.hn) (by omega) h4
  have l1 := less_fc x.lr x.ln (s.v - p.v - dev) (s.a - p.a) b2 b1
  have l2 := less_fc (s.v - p.v + dev) (s.a - p.a) x.hr x.hn b4 b3
  unfold C_narrow nrw sl scC
  cases hc : x.c with
  | false =>
    simp (maxSteps := 1000000) (disch := omega) only [go_sem, eq_self, decide_true, decide_false, not_true_eq_false, not_false_eq_true, reduceIte, reduceCtorEq, Nat.reduceEqDiff, Nat.reduceAdd, Nat.reduceSub, Nat.reduceLeDiff]
    rfl
  | true =>
    by_cases c1 : x.lr * (s.a - p.a) < (s.v - p.v - dev) * x.ln
    · rw [decide_eq_true c1] at l1 ⊢
      by_cases c2 : (s.v - p.v + dev) * x.hn < x.hr * (s.a - p.a)
      · rw [decide_eq_true c2] at l2 ⊢
        simp (maxSteps := 1000000) (disch := omega) only [go_sem, eq_self, decide_true, decide_false, not_true_eq_false, not_false_eq_true, reduceIte, reduceCtorEq, Nat.reduceEqDiff, Nat.reduceAdd, Nat.reduceSub, Nat.reduceLeDiff]
        refine CALL_det l1 (.inl rfl) ?_
        simp (maxSteps := 1000000) (disch := omega) only [go_sem, eq_self, decide_true, decide_false, not_true_eq_false, not_false_eq_true, reduceIte, reduceCtorEq, Nat.reduceEqDiff, Nat.reduceAdd, Nat.reduceSub, Nat.reduceLeDiff]
        refine CALL_det l2 (.inl rfl) ?_
        simp (maxSteps := 1000000) (disch := omega) only [go_sem, eq_self, decide_true, decide_false, not_true_eq_false, not_false_eq_true, reduceIte, reduceCtorEq, Nat.reduceEqDiff, Nat.reduceAdd, Nat.reduceSub, Nat.reduceLeDiff]
        rfl
      · rw [decide_eq_false c2] at l2 ⊢
        simp (maxSteps := 1000000) (disch := omega) only [go_sem, eq_self, decide_true, decide_false, not_true_eq_false, not_false_eq_true, reduceIte, reduceCtorEq, Nat.reduceEqDiff, Nat.reduceAdd, Nat.reduceSub, Nat.reduceLeDiff]
        refine CALL_det l1 (.inl rfl) ?_
        simp (maxSteps := 1000000) (disch := omega) only [go_sem, eq_self, decide_true, decide_false, not_true_eq_false, not_false_eq_true, reduceIte, reduceCtorEq, Nat.reduceEqDiff, Nat.reduceAdd, Nat.reduceSub, Nat.reduceLeDiff]
        refine CALL_det l2 (.inl rfl) ?_
        simp (maxSteps := 1000000) (disch := omega) only [go_sem, eq_self, decide_true, decide_false, not_true_eq_false, not_false_eq_true, reduceIte, reduceCtorEq, Nat.reduceEqDiff, Nat.reduceAdd, Nat.reduceSub, Nat.reduceLeDiff]
        rfl
    · rw [decide_eq_false c1] at l1 ⊢
      by_cases c2 : (s.v - p.v + dev) * x.hn < x.hr * (s.a - p.a)
      · rw [decide_eq_true c2] at l2 ⊢
        simp (maxSteps := 1000000) (disch := omega) only [go_sem, eq_self, decide_true, decide_false, not_true_eq_false, not_false_eq_true, reduceIte, reduceCtorEq, Nat.reduceEqDiff, Nat.reduceAdd, Nat.reduceSub, Nat.reduceLeDiff]
        refine CALL_det l1 (.inl rfl) ?_
        simp (maxSteps := 1000000) (disch := omega) only [go_sem, eq_self, decide_true, decide_false, not_true_eq_false, not_false_eq_true, reduceIte, reduceCtorEq, Nat.reduceEqDiff, Nat.reduceAdd, Nat.reduceSub, Nat.reduceLeDiff]
        refine CALL_det l2 (.inl rfl) ?_
        simp (maxSteps := 1000000) (disch := omega) only [go_sem, eq_self, decide_true, decide_false, not_true_eq_false, not_false_eq_true, reduceIte, reduceCtorEq, Nat.reduceEqDiff, Nat.reduceAdd, Nat.reduceSub, Nat.reduceLeDiff]
        rfl
      · rw [decide_eq_false c2] at l2 ⊢
        simp (maxSteps := 1000000) (disch := omega) only [go_sem, eq_self, decide_true, decide_false, not_true_eq_false, not_false_eq_true, reduceIte, reduceCtorEq, Nat.reduceEqDiff, Nat.reduceAdd, Nat.reduceSub, Nat.reduceLeDiff]
        refine CALL_det l1 (.inl rfl) ?_
        simp (maxSteps := 1000000) (disch := omega) only [go_sem, eq_self, decide_true, decide_false, not_true_eq_false, not_false_eq_true, reduceIte, reduceCtorEq, Nat.reduceEqDiff, Nat.reduceAdd, Nat.reduceSub, Nat.reduceLeDiff]
        refine CALL_det l2 (.inl rfl) ?_
        simp (maxSteps := 1000000) (disch := omega) only [go_sem, eq_self, decide_true, decide_false, not_true_eq_false, not_false_eq_true, reduceIte, reduceCtorEq, Nat.reduceEqDiff, Nat.reduceAdd, Nat.reduceSub, Nat.reduceLeDiff]
        rfl
abbrev smpRow (l : List Smp) : Row := ⟨0, 38, 3, l.map smpC⟩
/-- Two samples are one. -/
def sm (x y : Smp) : Prop := x.a = y.a ∧ x.v = y.v ∧ x.q = y.q
instance (x y : Smp) : Decidable (sm x y) := inferInstanceAs (Decidable (_ ∧ _))
/-- What is held is archived, if it is not the pivot. -/
def keepS (x : Sc) (out : List Smp) : Sc × List Smp := if sm x.h x.p then (x, out) else (arch x x.h, out ++ [x.h])
theorem addC_fcm (x : Sc) (o : Option Int) (out : List Smp) (hl : out.length ≤ 1000000) :
    FCM Try.prog 139 ⟨[(0, scC x o), (1000001, [.bx 0 0]), (1000002, [.ow 1000005 0])], [(1000005, smpRow out)]⟩ [.one (.bx 1000001 0), .one (.bx 1000002 0)]
      (fun H r => H = ⟨[(0, scC (keepS x out).1 o), (1000001, [.bx 0 0]), (1000002, [.ow 1000005 0])], [(1000005, smpRow (keepS x out).2)]⟩ ∧ r = .tu []) := by
  refine fcm_addC (K := ⟨[], [0, 1000001, 1000002], [1000005]⟩) (by simp +arith) (by simp [XK]) (by simp [XK]) ?_
  have ha := archive_fc x o x.h
  unfold C_addC keepS
  by_cases hs : sm x.h x.p
  · rw [if_pos hs]
    unfold sm at hs
    unfold scC
    simp (maxSteps := 1000000) (disch := omega) only [go_sem, eq_self, decide_true, decide_false, not_true_eq_false, not_false_eq_true, reduceIte, reduceCtorEq, Nat.reduceEqDiff, Nat.reduceAdd, Nat.reduceSub, Nat.reduceLeDiff]
  · rw [if_neg hs]
    unfold sm at hs
    unfold scC at ha ⊢
    simp (maxSteps := 1000000) (disch := omega) only [go_sem, eq_self, decide_true, decide_false, not_true_eq_false, not_false_eq_true, reduceIte, reduceCtorEq, Nat.reduceEqDiff, Nat.reduceAdd, Nat.reduceSub, Nat.reduceLeDiff]
    refine CALLX_det ha rfl (sc_data (arch x x.h) o) ?_
    unfold arch
    simp (maxSteps := 1000000) (disch := omega) only [go_sem, eq_self, decide_true, decide_false, not_true_eq_false, not_false_eq_true, reduceIte, reduceCtorEq, Nat.reduceEqDiff, Nat.reduceAdd, Nat.reduceSub, Nat.reduceLeDiff]
    simp only [smpRow, List.map_append, List.map_cons, List.map_nil, smpC_eq]
def pA (k : Nat) : Nat := swp 2 1000001 (swp 5 1000002 k)
theorem pA_pA (k : Nat) : pA (pA k) = k := by unfold pA swp; (repeat' split) <;> omega
section
variable {Q : AX → AS → Prop} {s : AS} {k : List KI} {kp : Option Keep} {l : List GI}
theorem CALLM_keep (x : Sc) (o : Option Int) {d : Option Nat} (h : rg Try.prog l kp k Q ((s.after ⟨[0, 2, 5], [5], [0, 2, 5], [5], []⟩ ⟨[(0, scC (keepS x []).1 o), (2, [.bx 0 0]), (5, [.ow 5 0])], [(5, smpRow (keepS x []).2)]⟩).put d (s.backV ⟨[0, 2, 5], [5], [0, 2, 5], [5], []⟩ (.tu [])))) :
    CALLM Try.prog 139 ⟨[(0, scC x o), (2, [.bx 0 0]), (5, [.ow 5 0])], [(5, smpRow [])]⟩ [.one (.bx 2 0), .one (.bx 5 0)] ⟨[0, 2, 5], [5], [0, 2, 5], [5], []⟩ d l kp k Q s := by
  refine CALLM_rn pA (swp 5 1000005) pA_pA (swp_swp 5 1000005) (addC_fcm x o [] (by simp)) (by simp) ?_ ?_ ⟨rfl, rfl⟩ ?_
  · cases o <;> rfl
  · rfl
  · have e : (⟨[(0, scC (keepS x []).1 o), (1000001, [.bx 0 0]), (1000002, [.ow 1000005 0])], [(1000005, smpRow (keepS x []).2)]⟩ : Hp).rn pA (swp 5 1000005) = ⟨[(0, scC (keepS x []).1 o), (2, [.bx 0 0]), (5, [.ow 5 0])], [(5, smpRow (keepS x []).2)]⟩ := by cases o <;> rfl
    rw [e]
    exact h
end
def hldS (x : Sc) (s : Smp) : Sc := ⟨x.dv, x.mg, x.b, x.p, s, x.c, x.lr, x.ln, x.hr, x.hn⟩
def addS (x : Sc) (s : Smp) : Sc × List Smp :=
  if x.b = false then (arch ⟨x.dv, x.mg, true, x.p, x.h, x.c, x.lr, x.ln, x.hr, x.hn⟩ s, [s])
  else if s.q ≠ x.p.q then (arch (keepS x []).1 s, (keepS x []).2 ++ [s])
  else if s.q = 2 then (if s.a - x.p.a > x.mg then (hldS (keepS x []).1 s, (keepS x []).2) else (hldS x s, []))
  else if s.a - x.p.a > x.mg ∨ hasB x x.p s = false then (hldS (nrw (keepS x []).1 (keepS x []).1.p s x.dv) s, (keepS x []).2) else (hldS (nrw x x.p s x.dv) s, [])
/-- The state is right, and the sample comes behind it. -/
structure OkX (x : Sc) (s : Smp) : Prop where
  okc : okC x
  okd : 0 ≤ x.dv ∧ x.dv ≤ 2000000
  okm : 1 ≤ x.mg ∧ x.mg ≤ 345686400000
  okp : okSmp x.p
  okh : okSmp x.h
  oks : okSmp s
  lep : x.p.a ≤ s.a
  leh : x.h.a ≤ s.a
theorem keepS_ok {x : Sc} {s : Smp} (h : OkX x s) : OkX (keepS x []).1 s ∧ (keepS x []).1.b = x.b ∧ (keepS x []).1.dv = x.dv ∧ (keepS x []).2.length ≤ 1 := by
  unfold keepS
  split
  · exact ⟨h, rfl, rfl, by simp⟩
  · exact ⟨⟨by unfold okC arch; simp, h.okd, h.okm, h.okh, h.okh, h.oks, h.leh, h.leh⟩, rfl, rfl, by simp⟩
set_option maxHeartbeats 12000000 in
set_option maxRecDepth 8000 in
theorem add_fc (x : Sc) (o : Option Int) (s : Smp) (hx : x.b = true → OkX x s) :
    FC Try.prog 79 (some (scC x o)) [.ag (smpC s)] (fun cs r => cs = scC (addS x s).1 o ∧ r = smps true (addS x s).2) := by
  refine fc_add (by simp +arith) ?_
  unfold C_add addS
  cases hb : x.b with
  | false =>
    have ha := archive_fc ⟨x.dv, x.mg, true, x.p, x.h, x.c, x.lr, x.ln, x.hr, x.hn⟩ o s
    unfold scC at ha ⊢
    rw [hb]
    simp (maxSteps := 1000000) (disch := omega) only [go_sem, eq_self, decide_true, decide_false, not_true_eq_false, not_false_eq_true, reduceIte, reduceCtorEq, Nat.reduceEqDiff, Nat.reduceAdd, Nat.reduceSub, Nat.reduceLeDiff]
    refine CALLX_det ha rfl (sc_data (arch ⟨x.dv, x.mg, true, x.p, x.h, x.c, x.lr, x.ln, x.hr, x.hn⟩ s) o) ?_
    unfold arch
    simp (maxSteps := 1000000) (disch := omega) only [go_sem, eq_self, decide_true, decide_false, not_true_eq_false, not_false_eq_true, reduceIte, reduceCtorEq, Nat.reduceEqDiff, Nat.reduceAdd, Nat.reduceSub, Nat.reduceLeDiff]
    rfl
  | true =>
    have hk := hx hb
    obtain ⟨k1, k2, k3, k4⟩ := keepS_ok hk
    have hK := fun {Q : AX → AS → Prop} {s : AS} {k : List KI} {kp : Option Keep} {l : List GI} {d : Option Nat} => CALLM_keep (Q := Q) (s := s) (k := k) (kp := kp) (l := l) x o (d := d)
    have p1 := hk.okp
    have p2 := hk.oks
    have p3 := hk.lep
    have p4 := k1.okp
    have p5 := k1.lep
    have p6 := hk.okd
    have p7 := hk.okm
    have p8 := hk.okc
    have p9 := k1.okc
    unfold okSmp at p1 p2 p4
    by_cases c1 : s.q = x.p.q
    · rw [if_neg (by simp), if_neg (show ¬(s.q ≠ x.p.q) from fun h => h c1)]
      by_cases c2 : s.q = 2
      · rw [if_pos c2]
        by_cases c3 : s.a - x.p.a > x.mg
        · rw [if_pos c3]
          unfold scC at hK ⊢
          rw [hb] at hK ⊢
          generalize keepS x [] = y at *
          obtain ⟨y, out⟩ := y
          simp only at k1 k2 k3 k4 p4 p5 p9 hK
          simp (maxSteps := 1000000) (disch := omega) only [go_sem, eq_self, decide_true, decide_false, not_true_eq_false, not_false_eq_true, reduceIte, reduceCtorEq, Nat.reduceEqDiff, Nat.reduceAdd, Nat.reduceSub, Nat.reduceLeDiff]
          refine ⟨rfl, hK ?_⟩
          unfold hldS
          simp (maxSteps := 1000000) (disch := omega) only [go_sem, eq_self, decide_true, decide_false, not_true_eq_false, not_false_eq_true, reduceIte, reduceCtorEq, Nat.reduceEqDiff, Nat.reduceAdd, Nat.reduceSub, Nat.reduceLeDiff]
        · rw [if_neg c3]
          unfold scC
          rw [hb]
          unfold hldS
          simp (maxSteps := 1000000) (disch := omega) only [go_sem, eq_self, decide_true, decide_false, not_true_eq_false, not_false_eq_true, reduceIte, reduceCtorEq, Nat.reduceEqDiff, Nat.reduceAdd, Nat.reduceSub, Nat.reduceLeDiff]
          exact ⟨by rw [hb], rfl⟩
      · rw [if_neg c2]
        have hn := fun (x : Sc) (h1 : okC x) (h2 : -2000000 ≤ s.v - x.p.v ∧ s.v - x.p.v ≤ 2000000) (h3 : 0 ≤ s.a - x.p.a ∧ s.a - x.p.a ≤ 345686400000) (h4 : 0 ≤ x.dv ∧ x.dv ≤ 2000000) => narrow_fcm x o x.p s x.dv h1 h2 h3 h4
        have hny := hn (keepS x []).1 p9 (by omega) (by omega) (by omega)
        have hnx := hn x p8 (by omega) (by omega) (by omega)
        have hhas := has_fcm x o x.p s p8 (by omega) (by omega)
        clear hn
        by_cases c3 : s.a - x.p.a > x.mg
        · rw [if_pos (.inl c3), ← k3]
          unfold scC at hK hny ⊢
          rw [hb] at hK k2 ⊢
          generalize keepS x [] = y at *
          obtain ⟨y, out⟩ := y
          simp only at k1 k2 k3 k4 p4 p5 p9 hK hny
          simp (maxSteps := 1000000) (disch := omega) only [go_sem, eq_self, decide_true, decide_false, not_true_eq_false, not_false_eq_true, reduceIte, reduceCtorEq, Nat.reduceEqDiff, Nat.reduceAdd, Nat.reduceSub, Nat.reduceLeDiff]
          refine ⟨rfl, hK ?_⟩
          simp (maxSteps := 1000000) (disch := omega) only [go_sem, eq_self, decide_true, decide_false, not_true_eq_false, not_false_eq_true, reduceIte, reduceCtorEq, Nat.reduceEqDiff, Nat.reduceAdd, Nat.reduceSub, Nat.reduceLeDiff]
          refine ⟨rfl, CALLM_det hny ⟨rfl, rfl⟩ ?_⟩
          unfold hldS
          simp (maxSteps := 1000000) (disch := omega) only [go_sem, eq_self, decide_true, decide_false, not_true_eq_false, not_false_eq_true, reduceIte, reduceCtorEq, Nat.reduceEqDiff, Nat.reduceAdd, Nat.reduceSub, Nat.reduceLeDiff]
        · cases hh : hasB x x.p s with
          | true =>
            rw [if_neg (by rintro (h | h); exact c3 h; cases h)]
            rw [hh] at hhas
            unfold scC at hhas hnx ⊢
            rw [hb] at hhas hnx ⊢
            clear hK
            simp (maxSteps := 1000000) (disch := omega) only [go_sem, eq_self, decide_true, decide_false, not_true_eq_false, not_false_eq_true, reduceIte, reduceCtorEq, Nat.reduceEqDiff, Nat.reduceAdd, Nat.reduceSub, Nat.reduceLeDiff]
            refine ⟨rfl, CALLM_det hhas ⟨rfl, rfl⟩ ?_⟩
            simp (maxSteps := 1000000) (disch := omega) only [go_sem, eq_self, decide_true, decide_false, not_true_eq_false, not_false_eq_true, reduceIte, reduceCtorEq, Nat.reduceEqDiff, Nat.reduceAdd, Nat.reduceSub, Nat.reduceLeDiff]
            refine ⟨rfl, CALLM_det hnx ⟨rfl, rfl⟩ ?_⟩
            unfold hldS
            simp (maxSteps := 1000000) (disch := omega) only [go_sem, eq_self, decide_true, decide_false, not_true_eq_false, not_false_eq_true, reduceIte, reduceCtorEq, Nat.reduceEqDiff, Nat.reduceAdd, Nat.reduceSub, Nat.reduceLeDiff]
            rfl
          | false =>
            rw [if_pos (.inr rfl), ← k3]
            rw [hh] at hhas
            unfold scC at hK hny hhas ⊢
            rw [hb] at hK k2 hhas ⊢
            generalize keepS x [] = y at *
            obtain ⟨y, out⟩ := y
            simp only at k1 k2 k3 k4 p4 p5 p9 hK hny
            simp (maxSteps := 1000000) (disch := omega) only [go_sem, eq_self, decide_true, decide_false, not_true_eq_false, not_false_eq_true, reduceIte, reduceCtorEq, Nat.reduceEqDiff, Nat.reduceAdd, Nat.reduceSub, Nat.reduceLeDiff]
            refine ⟨rfl, CALLM_det hhas ⟨rfl, rfl⟩ ?_⟩
            simp (maxSteps := 1000000) (disch := omega) only [go_sem, eq_self, decide_true, decide_false, not_true_eq_false, not_false_eq_true, reduceIte, reduceCtorEq, Nat.reduceEqDiff, Nat.reduceAdd, Nat.reduceSub, Nat.reduceLeDiff]
            refine ⟨rfl, hK ?_⟩
            simp (maxSteps := 1000000) (disch := omega) only [go_sem, eq_self, decide_true, decide_false, not_true_eq_false, not_false_eq_true, reduceIte, reduceCtorEq, Nat.reduceEqDiff, Nat.reduceAdd, Nat.reduceSub, Nat.reduceLeDiff]
            refine ⟨rfl, CALLM_det hny ⟨rfl, rfl⟩ ?_⟩
            unfold hldS
            simp (maxSteps := 1000000) (disch := omega) only [go_sem, eq_self, decide_true, decide_false, not_true_eq_false, not_false_eq_true, reduceIte, reduceCtorEq, Nat.reduceEqDiff, Nat.reduceAdd, Nat.reduceSub, Nat.reduceLeDiff]
    · rw [if_neg (by simp), if_pos c1]
      have ha := archive_fc (keepS x []).1 o s
      have hsd := sc_data (arch (keepS x []).1 s) o
      unfold scC at hK ha hsd ⊢
      rw [hb] at hK ⊢
      generalize keepS x [] = y at *
      obtain ⟨y, out⟩ := y
      simp only at k1 k2 k3 k4 p4 p5 ha hK hsd
      simp (maxSteps := 1000000) (disch := omega) only [go_sem, eq_self, decide_true, decide_false, not_true_eq_false, not_false_eq_true, reduceIte, reduceCtorEq, Nat.reduceEqDiff, Nat.reduceAdd, Nat.reduceSub, Nat.reduceLeDiff]
      refine ⟨rfl, hK ?_⟩
      simp (maxSteps := 1000000) (disch := omega) only [go_sem, eq_self, decide_true, decide_false, not_true_eq_false, not_false_eq_true, reduceIte, reduceCtorEq, Nat.reduceEqDiff, Nat.reduceAdd, Nat.reduceSub, Nat.reduceLeDiff]
      refine CALLX_det ha rfl hsd ?_
      unfold arch
      simp (maxSteps := 1000000) (disch := omega) only [go_sem, eq_self, decide_true, decide_false, not_true_eq_false, not_false_eq_true, reduceIte, reduceCtorEq, Nat.reduceEqDiff, Nat.reduceAdd, Nat.reduceSub, Nat.reduceLeDiff]
      simp only [smps, List.map_append, List.map_cons, List.map_nil, smpC_eq]
/-- What is held, if it is not the pivot; the state begins anew. -/
def fluS (x : Sc) : Sc × List Smp := (⟨x.dv, x.mg, false, ⟨0, 0, 0⟩, ⟨0, 0, 0⟩, false, 0, 0, 0, 0⟩, if x.b = true ∧ ¬sm x.h x.p then [x.h] else [])
theorem flush_fc (x : Sc) (o : Option Int) : FC Try.prog 81 (some (scC x o)) [] (fun cs r => cs = scC (fluS x).1 o ∧ r = smps true (fluS x).2) := by
  refine fc_flush (by simp +arith) ?_
  unfold C_flush fluS
  cases hb : x.b with
  | false =>
    rw [if_neg (by simp)]
    unfold scC
    rw [hb]
    simp (maxSteps := 1000000) (disch := omega) only [go_sem, eq_self, decide_true, decide_false, not_true_eq_false, not_false_eq_true, reduceIte, reduceCtorEq, Nat.reduceEqDiff, Nat.reduceAdd, Nat.reduceSub, Nat.reduceLeDiff]
    rfl
  | true =>
    by_cases hs : sm x.h x.p
    · rw [if_neg (fun h => h.2 hs)]
      unfold sm at hs
      unfold scC
      rw [hb]
      simp (maxSteps := 1000000) (disch := omega) only [go_sem, eq_self, decide_true, decide_false, not_true_eq_false, not_false_eq_true, reduceIte, reduceCtorEq, Nat.reduceEqDiff, Nat.reduceAdd, Nat.reduceSub, Nat.reduceLeDiff]
      rfl
    · rw [if_pos ⟨rfl, hs⟩]
      unfold sm at hs
      unfold scC
      rw [hb]
      simp (maxSteps := 1000000) (disch := omega) only [go_sem, eq_self, decide_true, decide_false, not_true_eq_false, not_false_eq_true, reduceIte, reduceCtorEq, Nat.reduceEqDiff, Nat.reduceAdd, Nat.reduceSub, Nat.reduceLeDiff]
      rfl
end Go.Proofs.Ytggbcgldnjmobaa

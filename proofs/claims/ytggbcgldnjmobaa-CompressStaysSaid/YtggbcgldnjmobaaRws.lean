
/-
  A compressor hands back new rows: add, flush, Add, Flush; Keep and Steps; what spoils them.
-/
import Derived.Test.YtggbcgldnjmobaaRwa
import Derived.Test.YtggbcgldnjmobaaCaf
import Derived.Test.YtggbcgldnjmobaaDelA
namespace Go.Proofs.Ytggbcgldnjmobaa
open Go Go.Ai
set_option linter.unusedSimpArgs false
set_option linter.unusedVariables false
set_option maxHeartbeats 4000000
def A_cAddR : List Ann := [⟨(some ⟨[0,3], [0,3], [500]⟩), [], [], [], []⟩, ⟨(some ⟨[0,3,6], [0,3], [500]⟩), [], [], [], []⟩, ⟨(some ⟨[0,3,6,10], [0,3], [500]⟩), [], [], [], []⟩, ⟨(some ⟨[0,4,5], [0], [500]⟩), [], [], [(4, 3)], []⟩, ⟨(some ⟨[0,3,25], [0,3], [500]⟩), [], [], [], []⟩, ⟨(some ⟨[0,4,5], [0], [500]⟩), [], [], [(4, 3)], []⟩, ⟨(some ⟨[0,3], [0,3], [500]⟩), [], [], [], []⟩, ⟨(some ⟨[0,4,5], [0], [500]⟩), [], [], [], [(35, ⟨[0], [], [0], [500], []⟩)]⟩]
def C_cAddR : AC := (.seq (.reg false [⟨(some 3), none, .box (.t 1)⟩, ⟨(some 4), none, .mv (.v (.slice none 0 0))⟩, ⟨(some 5), none, .mv (.v (.int .i64 (0)))⟩] (some ⟨[0,3], [0,3], [500]⟩))
  (.seq (.seq (.reg false [⟨(some 7), none, .load true 3 (.t 3)⟩, ⟨(some 8), none, .call (.f 78) [(.t 7)]⟩, ⟨(some 6), none, .mv (.t 8)⟩] (some ⟨[0,3,6], [0,3], [500]⟩))
  (.seq (.reg false [⟨(some 9), none, .mv (.t 6)⟩, ⟨(some 10), none, .bin .neq (.t 9) (.v (.int .i64 (0)))⟩] (some ⟨[0,3,6,10], [0,3], [500]⟩))
  (.cond (.t 10)
  (.seq (.seq (.reg false [⟨(some 11), none, .mv (.t 6)⟩, ⟨(some 4), none, .mv (.v (.slice none 0 0))⟩, ⟨(some 5), none, .mv (.t 11)⟩] (some ⟨[0,4,5], [0], [500]⟩))
  (.ty 4 3))
  .ret)
  .skip)))
  (.seq (.seq (.reg true [⟨(some 12), none, .mv (.t 0)⟩, ⟨(some 13), none, .nilchk (.t 12)⟩, ⟨(some 14), none, .fadr 0 (.t 13)⟩, ⟨(some 15), none, .fadr 2 (.t 14)⟩, ⟨(some 16), none, .load false 1 (.t 15)⟩, ⟨(some 17), none, .mv (.t 16)⟩, ⟨(some 18), (some (17, true)), .fadr 0 (.t 3)⟩, ⟨(some 19), (some (17, true)), .load false 1 (.t 18)⟩, ⟨(some 20), (some (17, true)), .mv (.t 0)⟩, ⟨(some 21), (some (17, true)), .nilchk (.t 20)⟩, ⟨(some 22), (some (17, true)), .fadr 14 (.t 21)⟩, ⟨(some 23), (some (17, true)), .load false 1 (.t 22)⟩, ⟨(some 24), (some (17, true)), .bin .leq (.t 19) (.t 23)⟩, ⟨(some 25), none, .pick (.t 17) (.t 24) (.v (.bool false))⟩] (some ⟨[0,3,25], [0,3], [500]⟩))
  (.cond (.t 25)
  (.seq (.seq (.reg false [⟨(some 4), none, .mv (.v (.slice none 0 0))⟩, ⟨(some 5), none, .mv (.v (.int .i64 (7)))⟩] (some ⟨[0,4,5], [0], [500]⟩))
  (.ty 4 3))
  .ret)
  .skip))
  (.seq (.reg false [⟨(some 26), none, .mv (.t 0)⟩, ⟨(some 27), none, .fadr 0 (.t 3)⟩, ⟨(some 28), none, .load false 1 (.t 27)⟩, ⟨(some 29), none, .nilchk (.t 26)⟩, ⟨(some 30), none, .fadr 14 (.t 29)⟩, ⟨none, none, .store 1 (.t 30) (.t 28)⟩] (some ⟨[0,3], [0,3], [500]⟩))
  (.seq (.reg true [⟨(some 31), none, .mv (.t 0)⟩, ⟨(some 32), none, .nilchk (.t 31)⟩, ⟨(some 33), none, .fadr 0 (.t 32)⟩, ⟨(some 34), none, .load true 3 (.t 3)⟩, ⟨(some 35), none, .callm (.f 79) [(.t 33), (.t 34)] ⟨[0], [], [0], [500], []⟩⟩, ⟨(some 4), none, .mv (.t 35)⟩, ⟨(some 5), none, .mv (.v (.int .i64 (0)))⟩] (some ⟨[0,4,5], [0], [500]⟩))
  .ret)))))
theorem c_cAddR : compileCode Try.prog Try.f19.ntmps (Try.f19.body.getD .skip) A_cAddR = some (C_cAddR, []) := by kernel_rfl
theorem r_cAddR : compileRes Try.prog Try.f19.results.toList = some [.t 4, .t 5] := by kernel_rfl
theorem b_cAddR : Try.f19.body = some (Try.f19.body.getD .skip) := by kernel_rfl
theorem n_cAddR : (Try.f19.name == "runtime.NumGoroutine") = false := by kernel_rfl
theorem fcm_cAddR {H : Hp} {K : Keep} {args : List Val} {R : Hp → Val → Prop} (hn : args.length ≤ Try.f19.ntmps) (hkb : ∀ p ∈ H.bs, p.1 = 0 ∨ XK ≤ p.1) (hkr : ∀ p ∈ H.rs, XK ≤ p.1) (h : ex Try.prog C_cAddR [] (mpost H K [.t 4, .t 5] R) (initM H args)) : FCM Try.prog 19 H args R :=
  fcm_of_awp Try.func19 b_cAddR n_cAddR c_cAddR r_cAddR (of_decide_eq_true (by kernel_rfl)) hn hkb hkr h
theorem fcms_cAddR {S : List Nat} {H : Hp} {K : Keep} {args : List Val} {R : Hp → Val → Prop} (hn : args.length ≤ Try.f19.ntmps) (hkb : ∀ p ∈ H.bs, p.1 = 0 ∨ XK ≤ p.1) (hkr : ∀ p ∈ H.rs, XK ≤ p.1) (h : ex Try.prog C_cAddR [] (mpostS S H K [.t 4, .t 5] R) (initM H args))   : FCMS Try.prog 19 S H args R :=
  fcms_of_awp Try.func19 b_cAddR n_cAddR c_cAddR r_cAddR (of_decide_eq_true (by kernel_rfl)) hn hkb hkr h

def A_cFlushR : List Ann := [⟨(some ⟨[0], [0], [500]⟩), [], [], [], []⟩, ⟨(some ⟨[0,2], [0], [500]⟩), [], [], [], [(6, ⟨[0], [], [0], [500], []⟩)]⟩]
def C_cFlushR : AC := (.seq (.reg false [⟨(some 2), none, .mv (.v (.slice none 0 0))⟩] (some ⟨[0], [0], [500]⟩))
  (.seq (.reg false [⟨(some 3), none, .mv (.t 0)⟩, ⟨(some 4), none, .nilchk (.t 3)⟩, ⟨(some 5), none, .fadr 0 (.t 4)⟩, ⟨(some 6), none, .callm (.f 81) [(.t 5)] ⟨[0], [], [0], [500], []⟩⟩, ⟨(some 2), none, .mv (.t 6)⟩] (some ⟨[0,2], [0], [500]⟩))
  .ret))
theorem c_cFlushR : compileCode Try.prog Try.f22.ntmps (Try.f22.body.getD .skip) A_cFlushR = some (C_cFlushR, []) := by kernel_rfl
theorem r_cFlushR : compileRes Try.prog Try.f22.results.toList = some [.t 2] := by kernel_rfl
theorem b_cFlushR : Try.f22.body = some (Try.f22.body.getD .skip) := by kernel_rfl
theorem n_cFlushR : (Try.f22.name == "runtime.NumGoroutine") = false := by kernel_rfl
theorem fcm_cFlushR {H : Hp} {K : Keep} {args : List Val} {R : Hp → Val → Prop} (hn : args.length ≤ Try.f22.ntmps) (hkb : ∀ p ∈ H.bs, p.1 = 0 ∨ XK ≤ p.1) (hkr : ∀ p ∈ H.rs, XK ≤ p.1) (h : ex Try.prog C_cFlushR [] (mpost H K [.t 2] R) (initM H args)) : FCM Try.prog 22 H args R :=
  fcm_of_awp Try.func22 b_cFlushR n_cFlushR c_cFlushR r_cFlushR (of_decide_eq_true (by kernel_rfl)) hn hkb hkr h
theorem fcms_cFlushR {S : List Nat} {H : Hp} {K : Keep} {args : List Val} {R : Hp → Val → Prop} (hn : args.length ≤ Try.f22.ntmps) (hkb : ∀ p ∈ H.bs, p.1 = 0 ∨ XK ≤ p.1) (hkr : ∀ p ∈ H.rs, XK ≤ p.1) (h : ex Try.prog C_cFlushR [] (mpostS S H K [.t 2] R) (initM H args))   : FCMS Try.prog 22 S H args R :=
  fcms_of_awp Try.func22 b_cFlushR n_cFlushR c_cFlushR r_cFlushR (of_decide_eq_true (by kernel_rfl)) hn hkb hkr h

def A_spoilS : List Ann := [⟨(some ⟨[0,4,5], [], [1000000]⟩), [], [], [], []⟩, ⟨(some ⟨[0,4,5,6], [], [1000000]⟩), [], [], [], []⟩, ⟨(some ⟨[0,2,4,5], [], [1000000]⟩), [], [], [], []⟩, ⟨(some ⟨[0,4,5], [], [1000000]⟩), [], [], [], []⟩, ⟨(some ⟨[0,4,5], [], [1000000]⟩), [], [], [], []⟩]
def C_spoilS : AC := (.seq (.reg false [⟨(some 3), none, .mv (.t 0)⟩, ⟨(some 4), none, .len (.t 3)⟩, ⟨(some 5), none, .mv (.v (.int .i64 (0)))⟩] (some ⟨[0,4,5], [], [1000000]⟩))
  (.block 0 (.loop (.seq (.reg false [⟨(some 6), none, .bin .lss (.t 5) (.t 4)⟩] (some ⟨[0,4,5,6], [], [1000000]⟩))
  (.seq (.cond (.t 6)
  .skip
  (.exit 0))
  (.seq (.block 1 (.seq (.reg false [⟨(some 7), none, .mv (.t 5)⟩, ⟨(some 2), none, .mv (.t 7)⟩] (some ⟨[0,2,4,5], [], [1000000]⟩))
  (.reg false [⟨(some 8), none, .mv (.t 0)⟩, ⟨(some 9), none, .mv (.t 2)⟩, ⟨(some 10), none, .build [(.int .i64 (0)), (.int .i64 (0)), (.int .i64 (0))] [(0, 1, (.v (.int .i64 (777)))), (1, 1, (.v (.int .i64 (777)))), (2, 1, (.v (.int .i64 (7))))]⟩, ⟨(some 11), none, .iadr 3 (.t 8) (.t 9)⟩, ⟨none, none, .store 3 (.t 11) (.t 10)⟩] (some ⟨[0,4,5], [], [1000000]⟩))))
  (.reg false [⟨(some 12), none, .bin .add (.t 5) (.v (.int .i64 (1)))⟩, ⟨(some 5), none, .mv (.t 12)⟩] (some ⟨[0,4,5], [], [1000000]⟩))))))))
theorem c_spoilS : compileCode Try.prog Try.f51.ntmps (Try.f51.body.getD .skip) A_spoilS = some (C_spoilS, []) := by kernel_rfl
theorem r_spoilS : compileRes Try.prog Try.f51.results.toList = some [] := by kernel_rfl
theorem b_spoilS : Try.f51.body = some (Try.f51.body.getD .skip) := by kernel_rfl
theorem n_spoilS : (Try.f51.name == "runtime.NumGoroutine") = false := by kernel_rfl
theorem fcm_spoilS {H : Hp} {K : Keep} {args : List Val} {R : Hp → Val → Prop} (hn : args.length ≤ Try.f51.ntmps) (hkb : ∀ p ∈ H.bs, p.1 = 0 ∨ XK ≤ p.1) (hkr : ∀ p ∈ H.rs, XK ≤ p.1) (h : ex Try.prog C_spoilS [] (mpost H K [] R) (initM H args)) : FCM Try.prog 51 H args R :=
  fcm_of_awp Try.func51 b_spoilS n_spoilS c_spoilS r_spoilS (of_decide_eq_true (by kernel_rfl)) hn hkb hkr h
theorem fcms_spoilS {S : List Nat} {H : Hp} {K : Keep} {args : List Val} {R : Hp → Val → Prop} (hn : args.length ≤ Try.f51.ntmps) (hkb : ∀ p ∈ H.bs, p.1 = 0 ∨ XK ≤ p.1) (hkr : ∀ p ∈ H.rs, XK ≤ p.1) (h : ex Try.prog C_spoilS [] (mpostS S H K [] R) (initM H args))   : FCMS Try.prog 51 S H args R :=
  fcms_of_awp Try.func51 b_spoilS n_spoilS c_spoilS r_spoilS (of_decide_eq_true (by kernel_rfl)) hn hkb hkr h

def A_spoilI : List Ann := [⟨(some ⟨[0,4,5], [], [1000000]⟩), [], [], [], []⟩, ⟨(some ⟨[0,4,5,6], [], [1000000]⟩), [], [], [], []⟩, ⟨(some ⟨[0,2,4,5], [], [1000000]⟩), [], [], [], []⟩, ⟨(some ⟨[0,4,5], [], [1000000]⟩), [], [], [], []⟩, ⟨(some ⟨[0,4,5], [], [1000000]⟩), [], [], [], []⟩]
def C_spoilI : AC := (.seq (.reg false [⟨(some 3), none, .mv (.t 0)⟩, ⟨(some 4), none, .len (.t 3)⟩, ⟨(some 5), none, .mv (.v (.int .i64 (0)))⟩] (some ⟨[0,4,5], [], [1000000]⟩))
  (.block 0 (.loop (.seq (.reg false [⟨(some 6), none, .bin .lss (.t 5) (.t 4)⟩] (some ⟨[0,4,5,6], [], [1000000]⟩))
  (.seq (.cond (.t 6)
  .skip
  (.exit 0))
  (.seq (.block 1 (.seq (.reg false [⟨(some 7), none, .mv (.t 5)⟩, ⟨(some 2), none, .mv (.t 7)⟩] (some ⟨[0,2,4,5], [], [1000000]⟩))
  (.reg false [⟨(some 8), none, .mv (.t 0)⟩, ⟨(some 9), none, .mv (.t 2)⟩, ⟨(some 10), none, .iadr 1 (.t 8) (.t 9)⟩, ⟨none, none, .store 1 (.t 10) (.v (.int .i64 (777)))⟩] (some ⟨[0,4,5], [], [1000000]⟩))))
  (.reg false [⟨(some 11), none, .bin .add (.t 5) (.v (.int .i64 (1)))⟩, ⟨(some 5), none, .mv (.t 11)⟩] (some ⟨[0,4,5], [], [1000000]⟩))))))))
theorem c_spoilI : compileCode Try.prog Try.f52.ntmps (Try.f52.body.getD .skip) A_spoilI = some (C_spoilI, []) := by kernel_rfl
theorem r_spoilI : compileRes Try.prog Try.f52.results.toList = some [] := by kernel_rfl
theorem b_spoilI : Try.f52.body = some (Try.f52.body.getD .skip) := by kernel_rfl
theorem n_spoilI : (Try.f52.name == "runtime.NumGoroutine") = false := by kernel_rfl
theorem fcm_spoilI {H : Hp} {K : Keep} {args : List Val} {R : Hp → Val → Prop} (hn : args.length ≤ Try.f52.ntmps) (hkb : ∀ p ∈ H.bs, p.1 = 0 ∨ XK ≤ p.1) (hkr : ∀ p ∈ H.rs, XK ≤ p.1) (h : ex Try.prog C_spoilI [] (mpost H K [] R) (initM H args)) : FCM Try.prog 52 H args R :=
  fcm_of_awp Try.func52 b_spoilI n_spoilI c_spoilI r_spoilI (of_decide_eq_true (by kernel_rfl)) hn hkb hkr h
theorem fcms_spoilI {S : List Nat} {H : Hp} {K : Keep} {args : List Val} {R : Hp → Val → Prop} (hn : args.length ≤ Try.f52.ntmps) (hkb : ∀ p ∈ H.bs, p.1 = 0 ∨ XK ≤ p.1) (hkr : ∀ p ∈ H.rs, XK ≤ p.1) (h : ex Try.prog C_spoilI [] (mpostS S H K [] R) (initM H args))   : FCMS Try.prog 52 S H args R :=
  fcms_of_awp Try.func52 b_spoilI n_spoilI c_spoilI r_spoilI (of_decide_eq_true (by kernel_rfl)) hn hkb hkr h

def A_keepR : List Ann := [⟨(some ⟨[0,1], [], [5]⟩), [], [], [], []⟩, ⟨(some ⟨[0,1,5], [], []⟩), [(5, 38, 3)], [], [], []⟩, ⟨(some ⟨[0,5,8,9,10], [], [5]⟩), [], [], [], []⟩, ⟨(some ⟨[0,5,8,9,10,11], [], [5]⟩), [], [], [], []⟩, ⟨(some ⟨[0,5,7,8,9,10], [], [5]⟩), [], [], [], []⟩, ⟨(some ⟨[0,5,8,9,10], [], [5]⟩), [], [], [], []⟩, ⟨(some ⟨[0,5,8,9,10], [], [5]⟩), [], [], [], []⟩, ⟨(some ⟨[4], [], [5]⟩), [], [], [], []⟩]
def C_keepR : AC := (.seq (.reg false [⟨(some 4), none, .mv (.v (.slice none 0 0))⟩] (some ⟨[0,1], [], [5]⟩))
  (.seq (.seq (.reg false [⟨(some 5), none, .mv (.v (.slice none 0 0))⟩] (some ⟨[0,1,5], [], []⟩))
  (.own 5 38 3))
  (.seq (.seq (.reg false [⟨(some 8), none, .mv (.t 1)⟩, ⟨(some 9), none, .len (.t 8)⟩, ⟨(some 10), none, .mv (.v (.int .i64 (0)))⟩] (some ⟨[0,5,8,9,10], [], [5]⟩))
  (.block 0 (.loop (.seq (.reg false [⟨(some 11), none, .bin .lss (.t 10) (.t 9)⟩] (some ⟨[0,5,8,9,10,11], [], [5]⟩))
  (.seq (.cond (.t 11)
  .skip
  (.exit 0))
  (.seq (.block 1 (.seq (.reg false [⟨(some 12), none, .iadr 1 (.t 8) (.t 10)⟩, ⟨(some 13), none, .load false 1 (.t 12)⟩, ⟨(some 7), none, .mv (.t 13)⟩] (some ⟨[0,5,7,8,9,10], [], [5]⟩))
  (.reg false [⟨(some 14), none, .mv (.t 5)⟩, ⟨(some 15), none, .mv (.t 0)⟩, ⟨(some 16), none, .mv (.t 7)⟩, ⟨(some 17), none, .iadr 3 (.t 15) (.t 16)⟩, ⟨(some 18), none, .load true 3 (.t 17)⟩, ⟨(some 19), none, .bslice 3 1 [(.t 18)]⟩, ⟨(some 20), none, .append 38 3 24 (.t 14) (.t 19)⟩, ⟨(some 5), none, .mv (.t 20)⟩] (some ⟨[0,5,8,9,10], [], [5]⟩))))
  (.reg false [⟨(some 21), none, .bin .add (.t 10) (.v (.int .i64 (1)))⟩, ⟨(some 10), none, .mv (.t 21)⟩] (some ⟨[0,5,8,9,10], [], [5]⟩))))))))
  (.seq (.reg false [⟨(some 22), none, .mv (.t 5)⟩, ⟨(some 4), none, .mv (.t 22)⟩] (some ⟨[4], [], [5]⟩))
  .ret))))
theorem c_keepR : compileCode Try.prog Try.f109.ntmps (Try.f109.body.getD .skip) A_keepR = some (C_keepR, []) := by kernel_rfl
theorem r_keepR : compileRes Try.prog Try.f109.results.toList = some [.t 4] := by kernel_rfl
theorem b_keepR : Try.f109.body = some (Try.f109.body.getD .skip) := by kernel_rfl
theorem n_keepR : (Try.f109.name == "runtime.NumGoroutine") = false := by kernel_rfl
theorem fc_keepR {xt : Option (List Cel)} {args : List Val} {R : List Cel → Val → Prop} (hn : (if xt.isSome then 1 else 0) + args.length ≤ Try.f109.ntmps) (h : ex Try.prog C_keepR [] (fpost xt [.t 4] R) (initSt xt args)) : FC Try.prog 109 xt args R :=
  fc_of_awp Try.func109 b_keepR n_keepR c_keepR r_keepR (of_decide_eq_true (by kernel_rfl)) hn h
theorem fcm_keepR {H : Hp} {K : Keep} {args : List Val} {R : Hp → Val → Prop} (hn : args.length ≤ Try.f109.ntmps) (hkb : ∀ p ∈ H.bs, p.1 = 0 ∨ XK ≤ p.1) (hkr : ∀ p ∈ H.rs, XK ≤ p.1) (h : ex Try.prog C_keepR [] (mpost H K [.t 4] R) (initM H args)) : FCM Try.prog 109 H args R :=
  fcm_of_awp Try.func109 b_keepR n_keepR c_keepR r_keepR (of_decide_eq_true (by kernel_rfl)) hn hkb hkr h
theorem fcms_keepR {S : List Nat} {H : Hp} {K : Keep} {args : List Val} {R : Hp → Val → Prop} (hn : args.length ≤ Try.f109.ntmps) (hkb : ∀ p ∈ H.bs, p.1 = 0 ∨ XK ≤ p.1) (hkr : ∀ p ∈ H.rs, XK ≤ p.1) (h : ex Try.prog C_keepR [] (mpostS S H K [.t 4] R) (initM H args))   : FCMS Try.prog 109 S H args R :=
  fcms_of_awp Try.func109 b_keepR n_keepR c_keepR r_keepR (of_decide_eq_true (by kernel_rfl)) hn hkb hkr h

def A_keepPR : List Ann := [⟨(some ⟨[0,1], [], [500]⟩), [], [], [], []⟩, ⟨(some ⟨[0,1,6], [], [500]⟩), [], [], [], []⟩, ⟨(some ⟨[0,1,6,11], [], [500]⟩), [], [], [], []⟩, ⟨(some ⟨[4,5], [], [500]⟩), [], [], [(4, 3)], []⟩, ⟨(some ⟨[4,5], [], [500]⟩), [], [], [], [(15, ⟨[], [], [], [500], []⟩)]⟩]
def C_keepPR : AC := (.seq (.reg false [⟨(some 4), none, .mv (.v (.slice none 0 0))⟩, ⟨(some 5), none, .mv (.v (.int .i64 (0)))⟩] (some ⟨[0,1], [], [500]⟩))
  (.seq (.seq (.reg false [⟨(some 7), none, .mv (.t 0)⟩, ⟨(some 8), none, .mv (.t 1)⟩, ⟨(some 9), none, .call (.f 86) [(.t 7), (.t 8)]⟩, ⟨(some 6), none, .mv (.t 9)⟩] (some ⟨[0,1,6], [], [500]⟩))
  (.seq (.reg false [⟨(some 10), none, .mv (.t 6)⟩, ⟨(some 11), none, .bin .neq (.t 10) (.v (.int .i64 (0)))⟩] (some ⟨[0,1,6,11], [], [500]⟩))
  (.cond (.t 11)
  (.seq (.seq (.reg false [⟨(some 12), none, .mv (.t 6)⟩, ⟨(some 4), none, .mv (.v (.slice none 0 0))⟩, ⟨(some 5), none, .mv (.t 12)⟩] (some ⟨[4,5], [], [500]⟩))
  (.ty 4 3))
  .ret)
  .skip)))
  (.seq (.reg false [⟨(some 13), none, .mv (.t 0)⟩, ⟨(some 14), none, .mv (.t 1)⟩, ⟨(some 15), none, .callm (.f 109) [(.t 13), (.t 14)] ⟨[], [], [], [500], []⟩⟩, ⟨(some 4), none, .mv (.t 15)⟩, ⟨(some 5), none, .mv (.v (.int .i64 (0)))⟩] (some ⟨[4,5], [], [500]⟩))
  .ret)))
theorem c_keepPR : compileCode Try.prog Try.f50.ntmps (Try.f50.body.getD .skip) A_keepPR = some (C_keepPR, []) := by kernel_rfl
theorem r_keepPR : compileRes Try.prog Try.f50.results.toList = some [.t 4, .t 5] := by kernel_rfl
theorem b_keepPR : Try.f50.body = some (Try.f50.body.getD .skip) := by kernel_rfl
theorem n_keepPR : (Try.f50.name == "runtime.NumGoroutine") = false := by kernel_rfl
theorem fc_keepPR {xt : Option (List Cel)} {args : List Val} {R : List Cel → Val → Prop} (hn : (if xt.isSome then 1 else 0) + args.length ≤ Try.f50.ntmps) (h : ex Try.prog C_keepPR [] (fpost xt [.t 4, .t 5] R) (initSt xt args)) : FC Try.prog 50 xt args R :=
  fc_of_awp Try.func50 b_keepPR n_keepPR c_keepPR r_keepPR (of_decide_eq_true (by kernel_rfl)) hn h
theorem fcm_keepPR {H : Hp} {K : Keep} {args : List Val} {R : Hp → Val → Prop} (hn : args.length ≤ Try.f50.ntmps) (hkb : ∀ p ∈ H.bs, p.1 = 0 ∨ XK ≤ p.1) (hkr : ∀ p ∈ H.rs, XK ≤ p.1) (h : ex Try.prog C_keepPR [] (mpost H K [.t 4, .t 5] R) (initM H args)) : FCM Try.prog 50 H args R :=
  fcm_of_awp Try.func50 b_keepPR n_keepPR c_keepPR r_keepPR (of_decide_eq_true (by kernel_rfl)) hn hkb hkr h
theorem fcms_keepPR {S : List Nat} {H : Hp} {K : Keep} {args : List Val} {R : Hp → Val → Prop} (hn : args.length ≤ Try.f50.ntmps) (hkb : ∀ p ∈ H.bs, p.1 = 0 ∨ XK ≤ p.1) (hkr : ∀ p ∈ H.rs, XK ≤ p.1) (h : ex Try.prog C_keepPR [] (mpostS S H K [.t 4, .t 5] R) (initM H args))   : FCMS Try.prog 50 S H args R :=
  fcms_of_awp Try.func50 b_keepPR n_keepPR c_keepPR r_keepPR (of_decide_eq_true (by kernel_rfl)) hn hkb hkr h

def A_stepsR : List Ann := [⟨(some ⟨[0], [], [5]⟩), [], [], [], []⟩, ⟨(some ⟨[0,4], [], [5]⟩), [], [], [], []⟩, ⟨(some ⟨[0,4,11], [], [5]⟩), [], [], [], []⟩, ⟨(some ⟨[2,3], [], [5]⟩), [], [], [(2, 1)], []⟩, ⟨(some ⟨[0,5], [], []⟩), [(5, 3, 1)], [], [], []⟩, ⟨(some ⟨[0,5,13,14,15], [], [5]⟩), [], [], [], []⟩, ⟨(some ⟨[0,5,13,14,15,16], [], [5]⟩), [], [], [], []⟩, ⟨(some ⟨[0,5,6,7,13,14,15], [7], [5]⟩), [], [], [], []⟩, ⟨(some ⟨[0,5,6,13,14,15,50], [], [5]⟩), [], [], [], []⟩, ⟨(some ⟨[0,5,13,14,15], [], [5]⟩), [], [], [], []⟩, ⟨(some ⟨[0,5,13,14,15], [], [5]⟩), [], [], [], []⟩, ⟨(some ⟨[2,3], [], [5]⟩), [], [], [], []⟩]
def C_stepsR : AC := (.seq (.reg false [⟨(some 2), none, .mv (.v (.slice none 0 0))⟩, ⟨(some 3), none, .mv (.v (.int .i64 (0)))⟩] (some ⟨[0], [], [5]⟩))
  (.seq (.seq (.reg false [⟨(some 8), none, .mv (.t 0)⟩, ⟨(some 9), none, .call (.f 85) [(.t 8)]⟩, ⟨(some 4), none, .mv (.t 9)⟩] (some ⟨[0,4], [], [5]⟩))
  (.seq (.reg false [⟨(some 10), none, .mv (.t 4)⟩, ⟨(some 11), none, .bin .neq (.t 10) (.v (.int .i64 (0)))⟩] (some ⟨[0,4,11], [], [5]⟩))
  (.cond (.t 11)
  (.seq (.seq (.reg false [⟨(some 12), none, .mv (.t 4)⟩, ⟨(some 2), none, .mv (.v (.slice none 0 0))⟩, ⟨(some 3), none, .mv (.t 12)⟩] (some ⟨[2,3], [], [5]⟩))
  (.ty 2 1))
  .ret)
  .skip)))
  (.seq (.seq (.reg false [⟨(some 5), none, .mv (.v (.slice none 0 0))⟩] (some ⟨[0,5], [], []⟩))
  (.own 5 3 1))
  (.seq (.seq (.reg false [⟨(some 13), none, .mv (.t 0)⟩, ⟨(some 14), none, .len (.t 13)⟩, ⟨(some 15), none, .mv (.v (.int .i64 (0)))⟩] (some ⟨[0,5,13,14,15], [], [5]⟩))
  (.block 0 (.loop (.seq (.reg false [⟨(some 16), none, .bin .lss (.t 15) (.t 14)⟩] (some ⟨[0,5,13,14,15,16], [], [5]⟩))
  (.seq (.cond (.t 16)
  .skip
  (.exit 0))
  (.seq (.block 1 (.seq (.reg false [⟨(some 17), none, .mv (.t 15)⟩, ⟨(some 18), none, .iadr 3 (.t 13) (.t 15)⟩, ⟨(some 19), none, .load true 3 (.t 18)⟩, ⟨(some 7), none, .alloc [(.int .i64 (0)), (.int .i64 (0)), (.int .i64 (0))]⟩, ⟨(some 6), none, .mv (.t 17)⟩, ⟨none, none, .store 3 (.t 7) (.t 19)⟩] (some ⟨[0,5,6,7,13,14,15], [7], [5]⟩))
  (.seq (.reg true [⟨(some 20), none, .mv (.t 6)⟩, ⟨(some 21), none, .bin .eql (.t 20) (.v (.int .i64 (0)))⟩, ⟨(some 22), none, .mv (.t 21)⟩, ⟨(some 23), (some (22, false)), .mv (.t 6)⟩, ⟨(some 24), (some (22, false)), .mv (.t 0)⟩, ⟨(some 25), (some (22, false)), .len (.t 24)⟩, ⟨(some 26), (some (22, false)), .bin .sub (.t 25) (.v (.int .i64 (1)))⟩, ⟨(some 27), (some (22, false)), .bin .eql (.t 23) (.t 26)⟩, ⟨(some 28), none, .pick (.t 22) (.v (.bool true)) (.t 27)⟩, ⟨(some 29), none, .mv (.t 28)⟩, ⟨(some 30), (some (29, false)), .fadr 1 (.t 7)⟩, ⟨(some 31), (some (29, false)), .load false 1 (.t 30)⟩, ⟨(some 32), (some (29, false)), .mv (.t 0)⟩, ⟨(some 33), (some (29, false)), .mv (.t 6)⟩, ⟨(some 34), (some (29, false)), .bin .sub (.t 33) (.v (.int .i64 (1)))⟩, ⟨(some 35), (some (29, false)), .iadr 3 (.t 32) (.t 34)⟩, ⟨(some 36), (some (29, false)), .fadr 1 (.t 35)⟩, ⟨(some 37), (some (29, false)), .load false 1 (.t 36)⟩, ⟨(some 38), (some (29, false)), .bin .neq (.t 31) (.t 37)⟩, ⟨(some 39), none, .pick (.t 29) (.v (.bool true)) (.t 38)⟩, ⟨(some 40), none, .mv (.t 39)⟩, ⟨(some 41), (some (40, false)), .fadr 2 (.t 7)⟩, ⟨(some 42), (some (40, false)), .load false 1 (.t 41)⟩, ⟨(some 43), (some (40, false)), .mv (.t 0)⟩, ⟨(some 44), (some (40, false)), .mv (.t 6)⟩, ⟨(some 45), (some (40, false)), .bin .sub (.t 44) (.v (.int .i64 (1)))⟩, ⟨(some 46), (some (40, false)), .iadr 3 (.t 43) (.t 45)⟩, ⟨(some 47), (some (40, false)), .fadr 2 (.t 46)⟩, ⟨(some 48), (some (40, false)), .load false 1 (.t 47)⟩, ⟨(some 49), (some (40, false)), .bin .neq (.t 42) (.t 48)⟩, ⟨(some 50), none, .pick (.t 40) (.v (.bool true)) (.t 49)⟩] (some ⟨[0,5,6,13,14,15,50], [], [5]⟩))
  (.cond (.t 50)
  (.reg false [⟨(some 51), none, .mv (.t 5)⟩, ⟨(some 52), none, .mv (.t 6)⟩, ⟨(some 53), none, .bslice 1 1 [(.t 52)]⟩, ⟨(some 54), none, .append 3 1 8 (.t 51) (.t 53)⟩, ⟨(some 5), none, .mv (.t 54)⟩] (some ⟨[0,5,13,14,15], [], [5]⟩))
  .skip))))
  (.reg false [⟨(some 55), none, .bin .add (.t 15) (.v (.int .i64 (1)))⟩, ⟨(some 15), none, .mv (.t 55)⟩] (some ⟨[0,5,13,14,15], [], [5]⟩))))))))
  (.seq (.reg false [⟨(some 56), none, .mv (.t 5)⟩, ⟨(some 2), none, .mv (.t 56)⟩, ⟨(some 3), none, .mv (.v (.int .i64 (0)))⟩] (some ⟨[2,3], [], [5]⟩))
  .ret)))))
theorem c_stepsR : compileCode Try.prog Try.f32.ntmps (Try.f32.body.getD .skip) A_stepsR = some (C_stepsR, []) := by kernel_rfl
theorem r_stepsR : compileRes Try.prog Try.f32.results.toList = some [.t 2, .t 3] := by kernel_rfl
theorem b_stepsR : Try.f32.body = some (Try.f32.body.getD .skip) := by kernel_rfl
theorem n_stepsR : (Try.f32.name == "runtime.NumGoroutine") = false := by kernel_rfl
theorem fc_stepsR {xt : Option (List Cel)} {args : List Val} {R : List Cel → Val → Prop} (hn : (if xt.isSome then 1 else 0) + args.length ≤ Try.f32.ntmps) (h : ex Try.prog C_stepsR [] (fpost xt [.t 2, .t 3] R) (initSt xt args)) : FC Try.prog 32 xt args R :=
  fc_of_awp Try.func32 b_stepsR n_stepsR c_stepsR r_stepsR (of_decide_eq_true (by kernel_rfl)) hn h
theorem fcm_stepsR {H : Hp} {K : Keep} {args : List Val} {R : Hp → Val → Prop} (hn : args.length ≤ Try.f32.ntmps) (hkb : ∀ p ∈ H.bs, p.1 = 0 ∨ XK ≤ p.1) (hkr : ∀ p ∈ H.rs, XK ≤ p.1) (h : ex Try.prog C_stepsR [] (mpost H K [.t 2, .t 3] R) (initM H args)) : FCM Try.prog 32 H args R :=
  fcm_of_awp Try.func32 b_stepsR n_stepsR c_stepsR r_stepsR (of_decide_eq_true (by kernel_rfl)) hn hkb hkr h
theorem fcms_stepsR {S : List Nat} {H : Hp} {K : Keep} {args : List Val} {R : Hp → Val → Prop} (hn : args.length ≤ Try.f32.ntmps) (hkb : ∀ p ∈ H.bs, p.1 = 0 ∨ XK ≤ p.1) (hkr : ∀ p ∈ H.rs, XK ≤ p.1) (h : ex Try.prog C_stepsR [] (mpostS S H K [.t 2, .t 3] R) (initM H args))   : FCMS Try.prog 32 S H args R :=
  fcms_of_awp Try.func32 b_stepsR n_stepsR c_stepsR r_stepsR (of_decide_eq_true (by kernel_rfl)) hn hkb hkr h


section
variable {s : AS} {x : Sc} {o : Option Int}
theorem sc_ren {K : Kp} : (scC x o).map (s.renC K) = scC x o := by cases o <;> rfl
theorem sc_back {m : CAnn} : (scC x o).map (s.backC m) = scC x o := by cases o <;> rfl
theorem sc_view : (scC x o).map s.viewC = scC x o := by cases o <;> rfl
theorem sc_plain : (scC x o).all plainC = true := by cases o <;> rfl
end
attribute [go_sem] sc_ren sc_back sc_view sc_plain
theorem cAddR_ok (x : Sc) (n : Int) (s : Smp) (h : smpFault s = 0) (h2 : x.b = true → ¬s.a ≤ n) (hx : x.b = true → OkX x s) : FCM Try.prog 19 ⟨[(0, scC x (some n))], []⟩ [.one (.bx 0 0), .ag (smpC s)] (fun H r => H = ⟨[(0, scC (addS x s).1 (some s.a))], [(500, smpRow (addS x s).2)]⟩ ∧ r = .tu [.one (.ow 500 0), iv 0]) := by
  refine fcm_cAddR (K := ⟨[], [0], [500]⟩) (by simp +arith) (by simp) (by simp) ?_
  unfold C_cAddR
  cases hb : x.b with
  | true =>
    have h3 := h2 hb
    have ha := addR_old x (some s.a) s hb (hx hb)
    unfold scC tlC at ha ⊢
    generalize addS x s = y at *
    rw [hb] at ha
    rw [hb]
    simp (maxSteps := 1000000) (disch := omega) only [go_sem, eq_self, decide_true, decide_false, not_true_eq_false, not_false_eq_true, reduceIte, reduceCtorEq, Nat.reduceEqDiff, Nat.reduceAdd, Nat.reduceSub, Nat.reduceLeDiff]
    refine CALL_det (checkSample_fc s) (.inl rfl) ?_
    rw [h]
    simp (maxSteps := 1000000) (disch := omega) only [go_sem, eq_self, decide_true, decide_false, not_true_eq_false, not_false_eq_true, reduceIte, reduceCtorEq, Nat.reduceEqDiff, Nat.reduceAdd, Nat.reduceSub, Nat.reduceLeDiff]
    refine ⟨rfl, CALLM_rnE ⟨[(0, scC y.1 (some s.a))], [(500, smpRow y.2)]⟩ (.one (.ow 500 0)) (fun k => k) (swp 5 500) (fun _ => rfl) (swp_swp 5 500) ha (by simp) rfl rfl rfl rfl ⟨rfl, rfl⟩ ?_⟩
    simp (maxSteps := 1000000) (disch := omega) only [go_sem, eq_self, decide_true, decide_false, not_true_eq_false, not_false_eq_true, reduceIte, reduceCtorEq, Nat.reduceEqDiff, Nat.reduceAdd, Nat.reduceSub, Nat.reduceLeDiff]
    rfl
  | false =>
    have ha := addR_new x (some s.a) s hb
    unfold scC tlC at ha ⊢
    generalize addS x s = y at *
    rw [hb] at ha
    rw [hb]
    simp (maxSteps := 1000000) (disch := omega) only [go_sem, eq_self, decide_true, decide_false, not_true_eq_false, not_false_eq_true, reduceIte, reduceCtorEq, Nat.reduceEqDiff, Nat.reduceAdd, Nat.reduceSub, Nat.reduceLeDiff]
    refine CALL_det (checkSample_fc s) (.inl rfl) ?_
    rw [h]
    simp (maxSteps := 1000000) (disch := omega) only [go_sem, eq_self, decide_true, decide_false, not_true_eq_false, not_false_eq_true, reduceIte, reduceCtorEq, Nat.reduceEqDiff, Nat.reduceAdd, Nat.reduceSub, Nat.reduceLeDiff]
    refine ⟨rfl, CALLM_rnE ⟨[(0, scC y.1 (some s.a))], [(500, smpRow y.2)]⟩ (.one (.ow 500 0)) (fun k => k) (swp 20 500) (fun _ => rfl) (swp_swp 20 500) ha (by simp) rfl rfl rfl rfl ⟨rfl, rfl⟩ ?_⟩
    simp (maxSteps := 1000000) (disch := omega) only [go_sem, eq_self, decide_true, decide_false, not_true_eq_false, not_false_eq_true, reduceIte, reduceCtorEq, Nat.reduceEqDiff, Nat.reduceAdd, Nat.reduceSub, Nat.reduceLeDiff]
    rfl
theorem cFlushR_fcm (x : Sc) (n : Int) : FCM Try.prog 22 ⟨[(0, scC x (some n))], []⟩ [.one (.bx 0 0)] (fun H r => H = ⟨[(0, scC (fluS x).1 (some n))], [(500, smpRow (fluS x).2)]⟩ ∧ r = .one (.ow 500 0)) := by
  refine fcm_cFlushR (K := ⟨[], [0], [500]⟩) (by simp +arith) (by simp) (by simp) ?_
  have ha := flushR_fcm x (some n)
  unfold C_cFlushR
  unfold scC tlC at ha ⊢
  generalize fluS x = y at *
  simp (maxSteps := 1000000) (disch := omega) only [go_sem, eq_self, decide_true, decide_false, not_true_eq_false, not_false_eq_true, reduceIte, reduceCtorEq, Nat.reduceEqDiff, Nat.reduceAdd, Nat.reduceSub, Nat.reduceLeDiff]
  refine ⟨rfl, CALLM_rnE ⟨[(0, scC y.1 (some n))], [(500, smpRow y.2)]⟩ (.one (.ow 500 0)) (fun k => k) (swp 3 500) (fun _ => rfl) (swp_swp 3 500) ha (by simp) rfl rfl rfl rfl ⟨rfl, rfl⟩ ?_⟩
  simp (maxSteps := 1000000) (disch := omega) only [go_sem, eq_self, decide_true, decide_false, not_true_eq_false, not_false_eq_true, reduceIte, reduceCtorEq, Nat.reduceEqDiff, Nat.reduceAdd, Nat.reduceSub, Nat.reduceLeDiff]
  rfl
def spo : Nat → List Smp → List Smp
  | 0, l => l
  | n + 1, l => (spo n l).set n ⟨777, 777, 7⟩
theorem spo_len (l : List Smp) : ∀ n, (spo n l).length = l.length
  | 0 => rfl
  | n + 1 => by rw [spo, List.length_set, spo_len l n]
def spSt (l : List Smp) (n i : Int) : AS := ⟨tabV [(0, .one (.ow 1000000 0)), (4, iv n), (5, iv i)], tabO [], tabO [(1000000, smpRow l)]⟩
theorem spoilS_fcm (l : List Smp) (hl : l.length ≤ 1000000) : FCM Try.prog 51 ⟨[], [(1000000, smpRow l)]⟩ [.one (.ow 1000000 0)] (fun H r => H = ⟨[], [(1000000, smpRow (spo l.length l))]⟩ ∧ r = .tu []) := by
  refine fcm_spoilS (K := ⟨[], [], [1000000]⟩) (by simp +arith) (by simp [XK]) (by simp [XK]) ?_
  unfold C_spoilS
  simp (maxSteps := 1000000) (disch := omega) only [go_sem, eq_self, decide_true, decide_false, not_true_eq_false, not_false_eq_true, reduceIte, reduceCtorEq, Nat.reduceEqDiff, Nat.reduceAdd, Nat.reduceSub, Nat.reduceLeDiff]
  refine ex_loop1 (fun i => spSt (spo i.toNat l) l.length i) (fun i => 0 ≤ i ∧ i ≤ l.length) (fun i => (l.length - i).toNat) 0 ⟨by omega, by omega⟩ rfl ?_
  rintro i ⟨g1, g2⟩
  have e2 : (i + 1).toNat = i.toNat + 1 := by omega
  have e3 : spo (i + 1).toNat l = (spo i.toNat l).set i.toNat ⟨777, 777, 7⟩ := by rw [e2, spo]
  have hml := spo_len l i.toNat
  unfold spSt
  by_cases hi : i < l.length
  · generalize spo i.toNat l = m at *
    have ei := getE_map_in smpC m i.toNat (by omega)
    simp (maxSteps := 1000000) (disch := omega) only [go_sem, eq_self, decide_true, decide_false, not_true_eq_false, not_false_eq_true, reduceIte, reduceCtorEq, Nat.reduceEqDiff, Nat.reduceAdd, Nat.reduceSub, Nat.reduceLeDiff]
    exact ⟨i + 1, by simp only [e3, smpRow, List.map_set, smpC], ⟨by omega, by omega⟩, by omega⟩
  · have e4 : i.toNat = l.length := by omega
    rw [e4]
    simp (maxSteps := 1000000) (disch := omega) only [go_sem, eq_self, decide_true, decide_false, not_true_eq_false, not_false_eq_true, reduceIte, reduceCtorEq, Nat.reduceEqDiff, Nat.reduceAdd, Nat.reduceSub, Nat.reduceLeDiff]
def spio : Nat → List Int → List Int
  | 0, l => l
  | n + 1, l => (spio n l).set n 777
theorem spio_len (l : List Int) : ∀ n, (spio n l).length = l.length
  | 0 => rfl
  | n + 1 => by rw [spio, List.length_set, spio_len l n]
def spiSt (l : List Int) (n i : Int) : AS := ⟨tabV [(0, .one (.ow 1000000 0)), (4, iv n), (5, iv i)], tabO [], tabO [(1000000, intRow l)]⟩
theorem spoilI_fcm (l : List Int) (hl : l.length ≤ 1000000) : FCM Try.prog 52 ⟨[], [(1000000, intRow l)]⟩ [.one (.ow 1000000 0)] (fun H r => H = ⟨[], [(1000000, intRow (spio l.length l))]⟩ ∧ r = .tu []) := by
  refine fcm_spoilI (K := ⟨[], [], [1000000]⟩) (by simp +arith) (by simp [XK]) (by simp [XK]) ?_
  unfold C_spoilI
  simp (maxSteps := 1000000) (disch := omega) only [go_sem, eq_self, decide_true, decide_false, not_true_eq_false, not_false_eq_true, reduceIte, reduceCtorEq, Nat.reduceEqDiff, Nat.reduceAdd, Nat.reduceSub, Nat.reduceLeDiff]
  refine ex_loop1 (fun i => spiSt (spio i.toNat l) l.length i) (fun i => 0 ≤ i ∧ i ≤ l.length) (fun i => (l.length - i).toNat) 0 ⟨by omega, by omega⟩ rfl ?_
  rintro i ⟨g1, g2⟩
  have e2 : (i + 1).toNat = i.toNat + 1 := by omega
  have e3 : spio (i + 1).toNat l = (spio i.toNat l).set i.toNat 777 := by rw [e2, spio]
  have hml := spio_len l i.toNat
  unfold spiSt
  by_cases hi : i < l.length
  · generalize spio i.toNat l = m at *
    have ei := getE_map_in intC m i.toNat (by omega)
    simp (maxSteps := 1000000) (disch := omega) only [go_sem, eq_self, decide_true, decide_false, not_true_eq_false, not_false_eq_true, reduceIte, reduceCtorEq, Nat.reduceEqDiff, Nat.reduceAdd, Nat.reduceSub, Nat.reduceLeDiff]
    exact ⟨i + 1, by simp only [e3, intRow, List.map_set, intC], ⟨by omega, by omega⟩, by omega⟩
  · have e4 : i.toNat = l.length := by omega
    rw [e4]
    simp (maxSteps := 1000000) (disch := omega) only [go_sem, eq_self, decide_true, decide_false, not_true_eq_false, not_false_eq_true, reduceIte, reduceCtorEq, Nat.reduceEqDiff, Nat.reduceAdd, Nat.reduceSub, Nat.reduceLeDiff]
theorem keepR_fcm (l : List Smp) (hl : l.length ≤ 5000) (kept : List Int) (hk : kept.length ≤ l.length) (hin : ∀ k ∈ kept, 0 ≤ k ∧ k < l.length) : FCM Try.prog 109 ⟨[], []⟩ [smps false l, ints false kept] (fun H r => H = ⟨[], [(5, smpRow (kep l kept))]⟩ ∧ r = .one (.ow 5 0)) := by
  refine fcm_keepR (K := ⟨[], [], [5]⟩) (by simp +arith) (by simp) (by simp) ?_
  unfold C_keepR
  simp (maxSteps := 1000000) (disch := omega) only [go_sem, eq_self, decide_true, decide_false, not_true_eq_false, not_false_eq_true, reduceIte, reduceCtorEq, Nat.reduceEqDiff, Nat.reduceAdd, Nat.reduceSub, Nat.reduceLeDiff]
  refine ex_loop2 (kepSt l kept) (fun i out => 0 ≤ i ∧ i ≤ kept.length ∧ out.length = i ∧ out ++ kep l (kept.drop i.toNat) = kep l kept) (fun i _ => (kept.length - i).toNat) 0 [] ⟨by omega, by omega, by simp, by simp⟩ rfl ?_
  rintro i out ⟨g1, g2, g3, g4⟩
  unfold kepSt
  by_cases hi : i < kept.length
  · have e2 : (i + 1).toNat = i.toNat + 1 := by omega
    have em := getD_map_at intC kept i [] g1 hi
    obtain ⟨k1, k2⟩ := hin _ (getD_mem kept i.toNat (by omega))
    have ek := getD_map_at smpC l (kept.getD i.toNat default) [] k1 k2
    rw [drop_cons kept i.toNat (by omega), ← e2] at g4
    unfold kep at g4 ⊢
    rw [List.map_cons] at g4
    simp (maxSteps := 1000000) (disch := omega) only [go_sem, eq_self, decide_true, decide_false, not_true_eq_false, not_false_eq_true, reduceIte, reduceCtorEq, Nat.reduceEqDiff, Nat.reduceAdd, Nat.reduceSub, Nat.reduceLeDiff]
    exact ⟨i + 1, out ++ [l.getD (kept.getD i.toNat default).toNat default], by simp only [kepSt, List.map_append, List.map_cons, List.map_nil, smpC_eq], ⟨by omega, by omega, by simp; omega, by simpa using g4⟩, by omega⟩
  · rw [List.drop_eq_nil_of_le (by omega)] at g4
    simp only [kep, List.map_nil, List.append_nil] at g4
    simp (maxSteps := 1000000) (disch := omega) only [go_sem, eq_self, decide_true, decide_false, not_true_eq_false, not_false_eq_true, reduceIte, reduceCtorEq, Nat.reduceEqDiff, Nat.reduceAdd, Nat.reduceSub, Nat.reduceLeDiff]
    rw [g4]; rfl
theorem keepPR_fcm (l : List Smp) (kept : List Int) (h1 : kptF l kept = 0) : FCM Try.prog 50 ⟨[], []⟩ [smps false l, ints false kept] (fun H r => H = ⟨[], [(500, smpRow (kep l kept))]⟩ ∧ r = .tu [.one (.ow 500 0), iv 0]) := by
  refine fcm_keepPR (K := ⟨[], [], [500]⟩) (by simp +arith) (by simp) (by simp) ?_
  unfold C_keepPR
  obtain ⟨h2, h3, h4⟩ := kptF_ok h1
  have hlen := (good_of h2).len
  simp (maxSteps := 1000000) (disch := omega) only [go_sem, eq_self, decide_true, decide_false, not_true_eq_false, not_false_eq_true, reduceIte, reduceCtorEq, Nat.reduceEqDiff, Nat.reduceAdd, Nat.reduceSub, Nat.reduceLeDiff]
  refine CALL_det (keptFault_fc l (by omega) kept (by omega)) (.inl rfl) ?_
  rw [h1]
  simp (maxSteps := 1000000) (disch := omega) only [go_sem, eq_self, decide_true, decide_false, not_true_eq_false, not_false_eq_true, reduceIte, reduceCtorEq, Nat.reduceEqDiff, Nat.reduceAdd, Nat.reduceSub, Nat.reduceLeDiff]
  refine ⟨rfl, CALLM_rnE ⟨[], [(500, smpRow (kep l kept))]⟩ (.one (.ow 500 0)) (fun k => k) (swp 5 500) (fun _ => rfl) (swp_swp 5 500) (keepR_fcm l hlen kept h3 (kfGo_ok _ kept none h4)) (by simp) rfl rfl rfl rfl ⟨rfl, rfl⟩ ?_⟩
  simp (maxSteps := 1000000) (disch := omega) only [go_sem, eq_self, decide_true, decide_false, not_true_eq_false, not_false_eq_true, reduceIte, reduceCtorEq, Nat.reduceEqDiff, Nat.reduceAdd, Nat.reduceSub, Nat.reduceLeDiff]
theorem stepsR_fcm (l : List Smp) (h1 : serFault l = 0) : FCM Try.prog 32 ⟨[], []⟩ [smps false l] (fun H r => H = ⟨[], [(5, intRow (stpW l l.length))]⟩ ∧ r = .tu [.one (.ow 5 0), iv 0]) := by
  refine fcm_stepsR (K := ⟨[], [], [5]⟩) (by simp +arith) (by simp) (by simp) ?_
  have hl := (good_of h1).len
  unfold C_stepsR
  simp (maxSteps := 1000000) (disch := omega) only [go_sem, eq_self, decide_true, decide_false, not_true_eq_false, not_false_eq_true, reduceIte, reduceCtorEq, Nat.reduceEqDiff, Nat.reduceAdd, Nat.reduceSub, Nat.reduceLeDiff]
  refine CALL_det (checkSeries_fc l (by omega)) (.inl rfl) ?_
  rw [h1]
  have hg := good_of h1
  have hlen := hg.len
  simp (maxSteps := 1000000) (disch := omega) only [go_sem, eq_self, decide_true, decide_false, not_true_eq_false, not_false_eq_true, reduceIte, reduceCtorEq, Nat.reduceEqDiff, Nat.reduceAdd, Nat.reduceSub, Nat.reduceLeDiff]
  refine ⟨by omega, ?_⟩
  refine ex_loop1 (fun i => stpSt l i (stpW l i.toNat)) (fun i => 0 ≤ i ∧ i ≤ l.length) (fun i => (l.length - i).toNat) 0 ⟨by omega, by omega⟩ rfl ?_
  rintro i ⟨g1, g2⟩
  have hsl := stpW_len l i.toNat
  have e2 : (i + 1).toNat = i.toNat + 1 := by omega
  have ei : ((i.toNat : Nat) : Int) = i := by omega
  have e3 : stpW l (i + 1).toNat = stpW l i.toNat ++ (if stepB l i = true then [i] else []) := by rw [e2, stpW, ei]
  unfold stpSt
  by_cases hi : i < l.length
  · have em := getD_map_at smpC l i [] g1 hi
    by_cases c1 : i = 0
    · have hb : stepB l i = true := decide_eq_true (.inl c1)
      rw [if_pos hb] at e3
      simp (maxSteps := 1000000) (disch := omega) only [go_sem, eq_self, decide_true, decide_false, not_true_eq_false, not_false_eq_true, reduceIte, reduceCtorEq, Nat.reduceEqDiff, Nat.reduceAdd, Nat.reduceSub, Nat.reduceLeDiff]
      exact ⟨i + 1, by simp only [e3, List.map_append, List.map_cons, List.map_nil, intC_eq], ⟨by omega, by omega⟩, by omega⟩
    by_cases c2 : i = l.length - 1
    · have hb : stepB l i = true := decide_eq_true (.inr (.inl c2))
      rw [if_pos hb] at e3
      simp (maxSteps := 1000000) (disch := omega) only [go_sem, eq_self, decide_true, decide_false, not_true_eq_false, not_false_eq_true, reduceIte, reduceCtorEq, Nat.reduceEqDiff, Nat.reduceAdd, Nat.reduceSub, Nat.reduceLeDiff]
      exact ⟨i + 1, by simp only [e3, List.map_append, List.map_cons, List.map_nil, intC_eq], ⟨by omega, by omega⟩, by omega⟩
    have ep := getD_map_at smpC l (i - 1) [] (by omega) (by omega)
    by_cases c3 : (l.getD i.toNat default).v = (l.getD (i - 1).toNat default).v
    · by_cases c4 : (l.getD i.toNat default).q = (l.getD (i - 1).toNat default).q
      · have hb : ¬stepB l i = true := by unfold stepB; rw [decide_eq_true_eq]; omega
        rw [if_neg hb, List.append_nil] at e3
        simp (maxSteps := 1000000) (disch := omega) only [go_sem, eq_self, decide_true, decide_false, not_true_eq_false, not_false_eq_true, reduceIte, reduceCtorEq, Nat.reduceEqDiff, Nat.reduceAdd, Nat.reduceSub, Nat.reduceLeDiff]
        exact ⟨i + 1, by simp only [e3], ⟨by omega, by omega⟩, by omega⟩
      · have hb : stepB l i = true := decide_eq_true (.inr (.inr (.inr c4)))
        rw [if_pos hb] at e3
        simp (maxSteps := 1000000) (disch := omega) only [go_sem, eq_self, decide_true, decide_false, not_true_eq_false, not_false_eq_true, reduceIte, reduceCtorEq, Nat.reduceEqDiff, Nat.reduceAdd, Nat.reduceSub, Nat.reduceLeDiff]
        exact ⟨i + 1, by simp only [e3, List.map_append, List.map_cons, List.map_nil, intC_eq], ⟨by omega, by omega⟩, by omega⟩
    · have hb : stepB l i = true := decide_eq_true (.inr (.inr (.inl c3)))
      rw [if_pos hb] at e3
      simp (maxSteps := 1000000) (disch := omega) only [go_sem, eq_self, decide_true, decide_false, not_true_eq_false, not_false_eq_true, reduceIte, reduceCtorEq, Nat.reduceEqDiff, Nat.reduceAdd, Nat.reduceSub, Nat.reduceLeDiff]
      exact ⟨i + 1, by simp only [e3, List.map_append, List.map_cons, List.map_nil, intC_eq], ⟨by omega, by omega⟩, by omega⟩
  · have hi' : i.toNat = l.length := by omega
    rw [hi']
    simp (maxSteps := 1000000) (disch := omega) only [go_sem, eq_self, decide_true, decide_false, not_true_eq_false, not_false_eq_true, reduceIte, reduceCtorEq, Nat.reduceEqDiff, Nat.reduceAdd, Nat.reduceSub, Nat.reduceLeDiff]
end Go.Proofs.Ytggbcgldnjmobaa

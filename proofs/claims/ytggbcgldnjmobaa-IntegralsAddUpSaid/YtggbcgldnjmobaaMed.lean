
/-
  slices.SortStableFunc over fewer than twenty stretches, medians, and how long the quality is good enough.
-/
import Derived.Test.YtggbcgldnjmobaaSrt
import Derived.Test.YtggbcgldnjmobaaRefJ
namespace Go.Proofs.Ytggbcgldnjmobaa
open Go Go.Ai
set_option linter.unusedSimpArgs false
set_option linter.unusedVariables false
set_option maxHeartbeats 4000000
def A_ins5 : List Ann := [⟨(some ⟨[0,1,2,3,8], [], [1000000]⟩), [], [], [], []⟩, ⟨(some ⟨[0,1,2,3,8,14], [], [1000000]⟩), [], [], [], []⟩, ⟨(some ⟨[0,1,2,3,8,9], [], [1000000]⟩), [], [], [], []⟩, ⟨(some ⟨[0,1,2,3,8,9,34], [], [1000000]⟩), [], [], [], []⟩, ⟨(some ⟨[0,1,2,3,8,9], [], [1000000]⟩), [], [], [], []⟩, ⟨(some ⟨[0,1,2,3,8,9], [], [1000000]⟩), [], [], [], []⟩, ⟨(some ⟨[0,1,2,3,8], [], [1000000]⟩), [], [], [], []⟩]
def C_ins5 : AC := (.seq (.reg false [⟨(some 10), none, .mv (.t 1)⟩, ⟨(some 11), none, .bin .add (.t 10) (.v (.int .i64 (1)))⟩, ⟨(some 8), none, .mv (.t 11)⟩] (some ⟨[0,1,2,3,8], [], [1000000]⟩))
  (.block 0 (.loop (.seq (.seq (.reg false [⟨(some 12), none, .mv (.t 8)⟩, ⟨(some 13), none, .mv (.t 2)⟩, ⟨(some 14), none, .bin .lss (.t 12) (.t 13)⟩] (some ⟨[0,1,2,3,8,14], [], [1000000]⟩))
  (.cond (.t 14)
  .skip
  (.exit 0)))
  (.seq (.block 1 (.seq (.reg false [⟨(some 17), none, .mv (.t 8)⟩, ⟨(some 9), none, .mv (.t 17)⟩] (some ⟨[0,1,2,3,8,9], [], [1000000]⟩))
  (.block 2 (.loop (.seq (.seq (.reg true [⟨(some 18), none, .mv (.t 9)⟩, ⟨(some 19), none, .mv (.t 1)⟩, ⟨(some 20), none, .bin .gtr (.t 18) (.t 19)⟩, ⟨(some 21), none, .mv (.t 20)⟩, ⟨(some 22), (some (21, true)), .mv (.t 3)⟩, ⟨(some 23), (some (21, true)), .mv (.t 0)⟩, ⟨(some 24), (some (21, true)), .mv (.t 9)⟩, ⟨(some 25), (some (21, true)), .iadr 5 (.t 23) (.t 24)⟩, ⟨(some 26), (some (21, true)), .load true 5 (.t 25)⟩, ⟨(some 27), (some (21, true)), .mv (.t 0)⟩, ⟨(some 28), (some (21, true)), .mv (.t 9)⟩, ⟨(some 29), (some (21, true)), .bin .sub (.t 28) (.v (.int .i64 (1)))⟩, ⟨(some 30), (some (21, true)), .iadr 5 (.t 27) (.t 29)⟩, ⟨(some 31), (some (21, true)), .load true 5 (.t 30)⟩, ⟨(some 32), (some (21, true)), .call (.t 22) [(.t 26), (.t 31)]⟩, ⟨(some 33), (some (21, true)), .bin .lss (.t 32) (.v (.int .i64 (0)))⟩, ⟨(some 34), none, .pick (.t 21) (.t 33) (.v (.bool false))⟩] (some ⟨[0,1,2,3,8,9,34], [], [1000000]⟩))
  (.cond (.t 34)
  .skip
  (.exit 2)))
  (.seq (.block 3 (.reg true [⟨(some 37), none, .mv (.t 0)⟩, ⟨(some 38), none, .mv (.t 9)⟩, ⟨(some 39), none, .mv (.t 0)⟩, ⟨(some 40), none, .mv (.t 9)⟩, ⟨(some 41), none, .bin .sub (.t 40) (.v (.int .i64 (1)))⟩, ⟨(some 42), none, .mv (.t 0)⟩, ⟨(some 43), none, .mv (.t 9)⟩, ⟨(some 44), none, .bin .sub (.t 43) (.v (.int .i64 (1)))⟩, ⟨(some 45), none, .iadr 5 (.t 42) (.t 44)⟩, ⟨(some 46), none, .load true 5 (.t 45)⟩, ⟨(some 47), none, .mv (.t 0)⟩, ⟨(some 48), none, .mv (.t 9)⟩, ⟨(some 49), none, .iadr 5 (.t 47) (.t 48)⟩, ⟨(some 50), none, .load true 5 (.t 49)⟩, ⟨(some 51), none, .iadr 5 (.t 37) (.t 38)⟩, ⟨none, none, .store 5 (.t 51) (.t 46)⟩, ⟨(some 52), none, .iadr 5 (.t 39) (.t 41)⟩, ⟨none, none, .store 5 (.t 52) (.t 50)⟩] (some ⟨[0,1,2,3,8,9], [], [1000000]⟩)))
  (.reg false [⟨(some 35), none, .mv (.t 9)⟩, ⟨(some 36), none, .bin .sub (.t 35) (.v (.int .i64 (1)))⟩, ⟨(some 9), none, .mv (.t 36)⟩] (some ⟨[0,1,2,3,8,9], [], [1000000]⟩))))))))
  (.reg false [⟨(some 15), none, .mv (.t 8)⟩, ⟨(some 16), none, .bin .add (.t 15) (.v (.int .i64 (1)))⟩, ⟨(some 8), none, .mv (.t 16)⟩] (some ⟨[0,1,2,3,8], [], [1000000]⟩)))))))
theorem c_ins5 : compileCode Try.prog Try.f203.ntmps (Try.f203.body.getD .skip) A_ins5 = some (C_ins5, []) := by kernel_rfl
theorem r_ins5 : compileRes Try.prog Try.f203.results.toList = some [] := by kernel_rfl
theorem b_ins5 : Try.f203.body = some (Try.f203.body.getD .skip) := by kernel_rfl
theorem n_ins5 : (Try.f203.name == "runtime.NumGoroutine") = false := by kernel_rfl
theorem fcm_ins5 {H : Hp} {K : Keep} {args : List Val} {R : Hp → Val → Prop} (hn : args.length ≤ Try.f203.ntmps) (hkb : ∀ p ∈ H.bs, p.1 = 0 ∨ XK ≤ p.1) (hkr : ∀ p ∈ H.rs, XK ≤ p.1) (h : ex Try.prog C_ins5 [] (mpost H K [] R) (initM H args)) : FCM Try.prog 203 H args R :=
  fcm_of_awp Try.func203 b_ins5 n_ins5 c_ins5 r_ins5 (of_decide_eq_true (by kernel_rfl)) hn hkb hkr h
theorem fcms_ins5 {S : List Nat} {H : Hp} {K : Keep} {args : List Val} {R : Hp → Val → Prop} (hn : args.length ≤ Try.f203.ntmps) (hkb : ∀ p ∈ H.bs, p.1 = 0 ∨ XK ≤ p.1) (hkr : ∀ p ∈ H.rs, XK ≤ p.1) (h : ex Try.prog C_ins5 [] (mpostS S H K [] R) (initM H args))   : FCMS Try.prog 203 S H args R :=
  fcms_of_awp Try.func203 b_ins5 n_ins5 c_ins5 r_ins5 (of_decide_eq_true (by kernel_rfl)) hn hkb hkr h

def A_stb5 : List Ann := [⟨(some ⟨[0,1,2,6], [], [1000000]⟩), [], [], [], []⟩, ⟨(some ⟨[0,1,2,6,7,8], [], [1000000]⟩), [], [], [], []⟩, ⟨(some ⟨[0,1,2,6,7,8,13], [], [1000000]⟩), [], [], [], []⟩, ⟨(some ⟨[0,1,2,6,8], [], [1000000]⟩), [], [], [], [(18, ⟨[], [1000000], [], [1000000], [1000000]⟩)]⟩, ⟨(some ⟨[0,1,2,6,7,8], [], [1000000]⟩), [], [], [], []⟩, ⟨(some ⟨[0,1,2,6,7,8], [], [1000000]⟩), [], [], [], []⟩, ⟨(some ⟨[0,1,2,6], [], [1000000]⟩), [], [], [], [(27, ⟨[], [1000000], [], [1000000], [1000000]⟩)]⟩, ⟨(some ⟨[0,1,2,6,30], [], [1000000]⟩), [], [], [], []⟩, ⟨(some ⟨[0,1,2,6,7,8], [], [1000000]⟩), [], [], [], []⟩, ⟨(some ⟨[0,1,2,6,7,8,35], [], [1000000]⟩), [], [], [], []⟩, ⟨(some ⟨[0,1,2,6,8], [], [1000000]⟩), [], [], [], []⟩, ⟨(some ⟨[0,1,2,6,7,8], [], [1000000]⟩), [], [], [], []⟩, ⟨(some ⟨[0,1,2,6,7,8], [], [1000000]⟩), [], [], [], []⟩, ⟨(some ⟨[0,1,2,6,7,9], [], [1000000]⟩), [], [], [], []⟩, ⟨(some ⟨[0,1,2,6,7,9,54], [], [1000000]⟩), [], [], [], []⟩, ⟨(some ⟨[0,1,2,6], [], [1000000]⟩), [], [], [], []⟩, ⟨(some ⟨[0,1,2,6], [], [1000000]⟩), [], [], [], []⟩]
def C_stb5 : AC := (.seq (.reg false [⟨(some 6), none, .mv (.v (.int .i64 (20)))⟩] (some ⟨[0,1,2,6], [], [1000000]⟩))
  (.seq (.reg false [⟨(some 10), none, .mv (.t 6)⟩, ⟨(some 7), none, .mv (.v (.int .i64 (0)))⟩, ⟨(some 8), none, .mv (.t 10)⟩] (some ⟨[0,1,2,6,7,8], [], [1000000]⟩))
  (.seq (.block 0 (.loop (.seq (.seq (.reg false [⟨(some 11), none, .mv (.t 8)⟩, ⟨(some 12), none, .mv (.t 1)⟩, ⟨(some 13), none, .bin .leq (.t 11) (.t 12)⟩] (some ⟨[0,1,2,6,7,8,13], [], [1000000]⟩))
  (.cond (.t 13)
  .skip
  (.exit 0)))
  (.block 1 (.seq (.reg false [⟨(some 14), none, .mv (.t 0)⟩, ⟨(some 15), none, .mv (.t 7)⟩, ⟨(some 16), none, .mv (.t 8)⟩, ⟨(some 17), none, .mv (.t 2)⟩, ⟨(some 18), none, .callm (.f 203) [(.t 14), (.t 15), (.t 16), (.t 17)] ⟨[], [1000000], [], [1000000], [1000000]⟩⟩] (some ⟨[0,1,2,6,8], [], [1000000]⟩))
  (.seq (.reg false [⟨(some 19), none, .mv (.t 8)⟩, ⟨(some 7), none, .mv (.t 19)⟩] (some ⟨[0,1,2,6,7,8], [], [1000000]⟩))
  (.reg false [⟨(some 20), none, .mv (.t 8)⟩, ⟨(some 21), none, .mv (.t 6)⟩, ⟨(some 22), none, .bin .add (.t 20) (.t 21)⟩, ⟨(some 8), none, .mv (.t 22)⟩] (some ⟨[0,1,2,6,7,8], [], [1000000]⟩))))))))
  (.seq (.reg false [⟨(some 23), none, .mv (.t 0)⟩, ⟨(some 24), none, .mv (.t 7)⟩, ⟨(some 25), none, .mv (.t 1)⟩, ⟨(some 26), none, .mv (.t 2)⟩, ⟨(some 27), none, .callm (.f 203) [(.t 23), (.t 24), (.t 25), (.t 26)] ⟨[], [1000000], [], [1000000], [1000000]⟩⟩] (some ⟨[0,1,2,6], [], [1000000]⟩))
  (.block 2 (.loop (.seq (.seq (.reg false [⟨(some 28), none, .mv (.t 6)⟩, ⟨(some 29), none, .mv (.t 1)⟩, ⟨(some 30), none, .bin .lss (.t 28) (.t 29)⟩] (some ⟨[0,1,2,6,30], [], [1000000]⟩))
  (.cond (.t 30)
  .skip
  (.exit 2)))
  (.block 3 (.seq (.reg false [⟨(some 31), none, .mv (.t 6)⟩, ⟨(some 32), none, .bin .mul (.v (.int .i64 (2))) (.t 31)⟩, ⟨(some 7), none, .mv (.v (.int .i64 (0)))⟩, ⟨(some 8), none, .mv (.t 32)⟩] (some ⟨[0,1,2,6,7,8], [], [1000000]⟩))
  (.seq (.block 4 (.loop (.seq (.seq (.reg false [⟨(some 33), none, .mv (.t 8)⟩, ⟨(some 34), none, .mv (.t 1)⟩, ⟨(some 35), none, .bin .leq (.t 33) (.t 34)⟩] (some ⟨[0,1,2,6,7,8,35], [], [1000000]⟩))
  (.cond (.t 35)
  .skip
  (.exit 4)))
  (.block 5 (.seq (.reg false [⟨(some 36), none, .mv (.t 0)⟩, ⟨(some 37), none, .mv (.t 7)⟩, ⟨(some 38), none, .mv (.t 7)⟩, ⟨(some 39), none, .mv (.t 6)⟩, ⟨(some 40), none, .bin .add (.t 38) (.t 39)⟩, ⟨(some 41), none, .mv (.t 8)⟩, ⟨(some 42), none, .mv (.t 2)⟩, ⟨(some 43), none, .call (.f 204) [(.t 36), (.t 37), (.t 40), (.t 41), (.t 42)]⟩] (some ⟨[0,1,2,6,8], [], [1000000]⟩))
  (.seq (.reg false [⟨(some 44), none, .mv (.t 8)⟩, ⟨(some 7), none, .mv (.t 44)⟩] (some ⟨[0,1,2,6,7,8], [], [1000000]⟩))
  (.reg false [⟨(some 45), none, .mv (.t 8)⟩, ⟨(some 46), none, .mv (.t 6)⟩, ⟨(some 47), none, .bin .mul (.v (.int .i64 (2))) (.t 46)⟩, ⟨(some 48), none, .bin .add (.t 45) (.t 47)⟩, ⟨(some 8), none, .mv (.t 48)⟩] (some ⟨[0,1,2,6,7,8], [], [1000000]⟩))))))))
  (.seq (.seq (.reg false [⟨(some 49), none, .mv (.t 7)⟩, ⟨(some 50), none, .mv (.t 6)⟩, ⟨(some 51), none, .bin .add (.t 49) (.t 50)⟩, ⟨(some 9), none, .mv (.t 51)⟩] (some ⟨[0,1,2,6,7,9], [], [1000000]⟩))
  (.seq (.reg false [⟨(some 52), none, .mv (.t 9)⟩, ⟨(some 53), none, .mv (.t 1)⟩, ⟨(some 54), none, .bin .lss (.t 52) (.t 53)⟩] (some ⟨[0,1,2,6,7,9,54], [], [1000000]⟩))
  (.cond (.t 54)
  (.reg false [⟨(some 55), none, .mv (.t 0)⟩, ⟨(some 56), none, .mv (.t 7)⟩, ⟨(some 57), none, .mv (.t 9)⟩, ⟨(some 58), none, .mv (.t 1)⟩, ⟨(some 59), none, .mv (.t 2)⟩, ⟨(some 60), none, .call (.f 204) [(.t 55), (.t 56), (.t 57), (.t 58), (.t 59)]⟩] (some ⟨[0,1,2,6], [], [1000000]⟩))
  .skip)))
  (.reg false [⟨(some 61), none, .mv (.t 6)⟩, ⟨(some 62), none, .bin .mul (.t 61) (.v (.int .i64 (2)))⟩, ⟨(some 6), none, .mv (.t 62)⟩] (some ⟨[0,1,2,6], [], [1000000]⟩)))))))))))))
theorem c_stb5 : compileCode Try.prog Try.f174.ntmps (Try.f174.body.getD .skip) A_stb5 = some (C_stb5, []) := by kernel_rfl
theorem r_stb5 : compileRes Try.prog Try.f174.results.toList = some [] := by kernel_rfl
theorem b_stb5 : Try.f174.body = some (Try.f174.body.getD .skip) := by kernel_rfl
theorem n_stb5 : (Try.f174.name == "runtime.NumGoroutine") = false := by kernel_rfl
theorem fcm_stb5 {H : Hp} {K : Keep} {args : List Val} {R : Hp → Val → Prop} (hn : args.length ≤ Try.f174.ntmps) (hkb : ∀ p ∈ H.bs, p.1 = 0 ∨ XK ≤ p.1) (hkr : ∀ p ∈ H.rs, XK ≤ p.1) (h : ex Try.prog C_stb5 [] (mpost H K [] R) (initM H args)) : FCM Try.prog 174 H args R :=
  fcm_of_awp Try.func174 b_stb5 n_stb5 c_stb5 r_stb5 (of_decide_eq_true (by kernel_rfl)) hn hkb hkr h
theorem fcms_stb5 {S : List Nat} {H : Hp} {K : Keep} {args : List Val} {R : Hp → Val → Prop} (hn : args.length ≤ Try.f174.ntmps) (hkb : ∀ p ∈ H.bs, p.1 = 0 ∨ XK ≤ p.1) (hkr : ∀ p ∈ H.rs, XK ≤ p.1) (h : ex Try.prog C_stb5 [] (mpostS S H K [] R) (initM H args))   : FCMS Try.prog 174 S H args R :=
  fcms_of_awp Try.func174 b_stb5 n_stb5 c_stb5 r_stb5 (of_decide_eq_true (by kernel_rfl)) hn hkb hkr h

def A_srs5 : List Ann := [⟨(some ⟨[], [], [1000000]⟩), [], [], [], [(8, ⟨[], [1000000], [], [1000000], [1000000]⟩)]⟩]
def C_srs5 : AC := (.reg false [⟨(some 4), none, .mv (.t 0)⟩, ⟨(some 5), none, .mv (.t 0)⟩, ⟨(some 6), none, .len (.t 5)⟩, ⟨(some 7), none, .mv (.t 1)⟩, ⟨(some 8), none, .callm (.f 174) [(.t 4), (.t 6), (.t 7)] ⟨[], [1000000], [], [1000000], [1000000]⟩⟩] (some ⟨[], [], [1000000]⟩))
theorem c_srs5 : compileCode Try.prog Try.f135.ntmps (Try.f135.body.getD .skip) A_srs5 = some (C_srs5, []) := by kernel_rfl
theorem r_srs5 : compileRes Try.prog Try.f135.results.toList = some [] := by kernel_rfl
theorem b_srs5 : Try.f135.body = some (Try.f135.body.getD .skip) := by kernel_rfl
theorem n_srs5 : (Try.f135.name == "runtime.NumGoroutine") = false := by kernel_rfl
theorem fcm_srs5 {H : Hp} {K : Keep} {args : List Val} {R : Hp → Val → Prop} (hn : args.length ≤ Try.f135.ntmps) (hkb : ∀ p ∈ H.bs, p.1 = 0 ∨ XK ≤ p.1) (hkr : ∀ p ∈ H.rs, XK ≤ p.1) (h : ex Try.prog C_srs5 [] (mpost H K [] R) (initM H args)) : FCM Try.prog 135 H args R :=
  fcm_of_awp Try.func135 b_srs5 n_srs5 c_srs5 r_srs5 (of_decide_eq_true (by kernel_rfl)) hn hkb hkr h
theorem fcms_srs5 {S : List Nat} {H : Hp} {K : Keep} {args : List Val} {R : Hp → Val → Prop} (hn : args.length ≤ Try.f135.ntmps) (hkb : ∀ p ∈ H.bs, p.1 = 0 ∨ XK ≤ p.1) (hkr : ∀ p ∈ H.rs, XK ≤ p.1) (h : ex Try.prog C_srs5 [] (mpostS S H K [] R) (initM H args))   : FCMS Try.prog 135 S H args R :=
  fcms_of_awp Try.func135 b_srs5 n_srs5 c_srs5 r_srs5 (of_decide_eq_true (by kernel_rfl)) hn hkb hkr h

def A_rmedClos : List Ann := [⟨(some ⟨[2,3], [2,3], []⟩), [], [], [], []⟩, ⟨(some ⟨[4], [], []⟩), [], [], [], []⟩]
def C_rmedClos : AC := (.seq (.reg false [⟨(some 2), none, .box (.t 0)⟩, ⟨(some 3), none, .box (.t 1)⟩, ⟨(some 4), none, .mv (.v (.int .i64 (0)))⟩] (some ⟨[2,3], [2,3], []⟩))
  (.seq (.reg false [⟨(some 5), none, .fadr 2 (.t 2)⟩, ⟨(some 6), none, .fadr 1 (.t 5)⟩, ⟨(some 7), none, .load false 1 (.t 6)⟩, ⟨(some 8), none, .fadr 2 (.t 3)⟩, ⟨(some 9), none, .fadr 1 (.t 8)⟩, ⟨(some 10), none, .load false 1 (.t 9)⟩, ⟨(some 11), none, .call (.f 93) [(.t 7), (.t 10)]⟩, ⟨(some 4), none, .mv (.t 11)⟩] (some ⟨[4], [], []⟩))
  .ret))
theorem c_rmedClos : compileCode Try.prog Try.f136.ntmps (Try.f136.body.getD .skip) A_rmedClos = some (C_rmedClos, []) := by kernel_rfl
theorem r_rmedClos : compileRes Try.prog Try.f136.results.toList = some [.t 4] := by kernel_rfl
theorem b_rmedClos : Try.f136.body = some (Try.f136.body.getD .skip) := by kernel_rfl
theorem n_rmedClos : (Try.f136.name == "runtime.NumGoroutine") = false := by kernel_rfl
theorem fc_rmedClos {xt : Option (List Cel)} {args : List Val} {R : List Cel → Val → Prop} (hn : (if xt.isSome then 1 else 0) + args.length ≤ Try.f136.ntmps) (h : ex Try.prog C_rmedClos [] (fpost xt [.t 4] R) (initSt xt args)) : FC Try.prog 136 xt args R :=
  fc_of_awp Try.func136 b_rmedClos n_rmedClos c_rmedClos r_rmedClos (of_decide_eq_true (by kernel_rfl)) hn h

def A_valuedM : List Ann := [⟨(some ⟨[0,3], [3], [5]⟩), [], [], [], []⟩, ⟨(some ⟨[4], [], [5]⟩), [], [], [], [(7, ⟨[], [], [], [5], []⟩), (8, ⟨[], [5], [], [5], []⟩)]⟩]
def C_valuedM : AC := (.seq (.reg false [⟨(some 3), none, .box (.t 1)⟩, ⟨(some 4), none, .mv (.v (.slice none 0 0))⟩] (some ⟨[0,3], [3], [5]⟩))
  (.seq (.reg false [⟨(some 5), none, .mv (.t 0)⟩, ⟨(some 6), none, .load true 2 (.t 3)⟩, ⟨(some 7), none, .callm (.f 128) [(.t 5), (.t 6)] ⟨[], [], [], [5], []⟩⟩, ⟨(some 8), none, .callm (.f 159) [(.t 7), (.f 160)] ⟨[], [5], [], [5], []⟩⟩, ⟨(some 4), none, .mv (.t 8)⟩] (some ⟨[4], [], [5]⟩))
  .ret))
theorem c_valuedM : compileCode Try.prog Try.f114.ntmps (Try.f114.body.getD .skip) A_valuedM = some (C_valuedM, []) := by kernel_rfl
theorem r_valuedM : compileRes Try.prog Try.f114.results.toList = some [.t 4] := by kernel_rfl
theorem b_valuedM : Try.f114.body = some (Try.f114.body.getD .skip) := by kernel_rfl
theorem n_valuedM : (Try.f114.name == "runtime.NumGoroutine") = false := by kernel_rfl
theorem fc_valuedM {xt : Option (List Cel)} {args : List Val} {R : List Cel → Val → Prop} (hn : (if xt.isSome then 1 else 0) + args.length ≤ Try.f114.ntmps) (h : ex Try.prog C_valuedM [] (fpost xt [.t 4] R) (initSt xt args)) : FC Try.prog 114 xt args R :=
  fc_of_awp Try.func114 b_valuedM n_valuedM c_valuedM r_valuedM (of_decide_eq_true (by kernel_rfl)) hn h
theorem fcm_valuedM {H : Hp} {K : Keep} {args : List Val} {R : Hp → Val → Prop} (hn : args.length ≤ Try.f114.ntmps) (hkb : ∀ p ∈ H.bs, p.1 = 0 ∨ XK ≤ p.1) (hkr : ∀ p ∈ H.rs, XK ≤ p.1) (h : ex Try.prog C_valuedM [] (mpost H K [.t 4] R) (initM H args)) : FCM Try.prog 114 H args R :=
  fcm_of_awp Try.func114 b_valuedM n_valuedM c_valuedM r_valuedM (of_decide_eq_true (by kernel_rfl)) hn hkb hkr h
theorem fcms_valuedM {S : List Nat} {H : Hp} {K : Keep} {args : List Val} {R : Hp → Val → Prop} (hn : args.length ≤ Try.f114.ntmps) (hkb : ∀ p ∈ H.bs, p.1 = 0 ∨ XK ≤ p.1) (hkr : ∀ p ∈ H.rs, XK ≤ p.1) (h : ex Try.prog C_valuedM [] (mpostS S H K [.t 4] R) (initM H args))   : FCMS Try.prog 114 S H args R :=
  fcms_of_awp Try.func114 b_valuedM n_valuedM c_valuedM r_valuedM (of_decide_eq_true (by kernel_rfl)) hn hkb hkr h

def A_rvaluedM : List Ann := [⟨(some ⟨[0,3], [3], [5]⟩), [], [], [], []⟩, ⟨(some ⟨[4], [], [5]⟩), [], [], [], [(7, ⟨[], [], [], [5], []⟩), (8, ⟨[], [5], [], [5], []⟩)]⟩]
def C_rvaluedM : AC := (.seq (.reg false [⟨(some 3), none, .box (.t 1)⟩, ⟨(some 4), none, .mv (.v (.slice none 0 0))⟩] (some ⟨[0,3], [3], [5]⟩))
  (.seq (.reg false [⟨(some 5), none, .mv (.t 0)⟩, ⟨(some 6), none, .load true 2 (.t 3)⟩, ⟨(some 7), none, .callm (.f 130) [(.t 5), (.t 6)] ⟨[], [], [], [5], []⟩⟩, ⟨(some 8), none, .callm (.f 171) [(.t 7), (.f 172)] ⟨[], [5], [], [5], []⟩⟩, ⟨(some 4), none, .mv (.t 8)⟩] (some ⟨[4], [], [5]⟩))
  .ret))
theorem c_rvaluedM : compileCode Try.prog Try.f133.ntmps (Try.f133.body.getD .skip) A_rvaluedM = some (C_rvaluedM, []) := by kernel_rfl
theorem r_rvaluedM : compileRes Try.prog Try.f133.results.toList = some [.t 4] := by kernel_rfl
theorem b_rvaluedM : Try.f133.body = some (Try.f133.body.getD .skip) := by kernel_rfl
theorem n_rvaluedM : (Try.f133.name == "runtime.NumGoroutine") = false := by kernel_rfl
theorem fc_rvaluedM {xt : Option (List Cel)} {args : List Val} {R : List Cel → Val → Prop} (hn : (if xt.isSome then 1 else 0) + args.length ≤ Try.f133.ntmps) (h : ex Try.prog C_rvaluedM [] (fpost xt [.t 4] R) (initSt xt args)) : FC Try.prog 133 xt args R :=
  fc_of_awp Try.func133 b_rvaluedM n_rvaluedM c_rvaluedM r_rvaluedM (of_decide_eq_true (by kernel_rfl)) hn h
theorem fcm_rvaluedM {H : Hp} {K : Keep} {args : List Val} {R : Hp → Val → Prop} (hn : args.length ≤ Try.f133.ntmps) (hkb : ∀ p ∈ H.bs, p.1 = 0 ∨ XK ≤ p.1) (hkr : ∀ p ∈ H.rs, XK ≤ p.1) (h : ex Try.prog C_rvaluedM [] (mpost H K [.t 4] R) (initM H args)) : FCM Try.prog 133 H args R :=
  fcm_of_awp Try.func133 b_rvaluedM n_rvaluedM c_rvaluedM r_rvaluedM (of_decide_eq_true (by kernel_rfl)) hn hkb hkr h
theorem fcms_rvaluedM {S : List Nat} {H : Hp} {K : Keep} {args : List Val} {R : Hp → Val → Prop} (hn : args.length ≤ Try.f133.ntmps) (hkb : ∀ p ∈ H.bs, p.1 = 0 ∨ XK ≤ p.1) (hkr : ∀ p ∈ H.rs, XK ≤ p.1) (h : ex Try.prog C_rvaluedM [] (mpostS S H K [.t 4] R) (initM H args))   : FCMS Try.prog 133 S H args R :=
  fcms_of_awp Try.func133 b_rvaluedM n_rvaluedM c_rvaluedM r_rvaluedM (of_decide_eq_true (by kernel_rfl)) hn hkb hkr h

def A_median : List Ann := [⟨(some ⟨[0,3], [3], []⟩), [], [], [], []⟩, ⟨(some ⟨[0,3,7], [3], []⟩), [], [], [], []⟩, ⟨(some ⟨[0,3,7,18], [3], []⟩), [], [], [], []⟩, ⟨(some ⟨[4,5,6], [], []⟩), [], [], [], []⟩, ⟨(some ⟨[8], [], [5]⟩), [], [], [], [(22, ⟨[], [], [], [5], []⟩)]⟩, ⟨(some ⟨[8], [], []⟩), [], [], [], [(24, ⟨[], [5], [], [5], [5]⟩)]⟩, ⟨(some ⟨[8,10], [], []⟩), [], [], [], []⟩, ⟨(some ⟨[8,10,11], [], []⟩), [], [], [], []⟩, ⟨(some ⟨[10,11,30,31,32], [], []⟩), [], [], [], []⟩, ⟨(some ⟨[10,11,30,31,32,33], [], []⟩), [], [], [], []⟩, ⟨(some ⟨[10,11,13,30,31,32], [13], []⟩), [], [], [], []⟩, ⟨(some ⟨[10,11,13,30,31,32], [13], []⟩), [], [], [], []⟩, ⟨(some ⟨[10,11,13,30,31,32,43], [13], []⟩), [], [], [], []⟩, ⟨(some ⟨[4,5,6], [], []⟩), [], [], [], []⟩, ⟨(some ⟨[10,11,30,31,32], [], []⟩), [], [], [], []⟩, ⟨(some ⟨[4,5,6], [], []⟩), [], [], [], []⟩]
def C_median : AC := (.seq (.reg false [⟨(some 3), none, .box (.t 1)⟩, ⟨(some 4), none, .mv (.v (.int .i64 (0)))⟩, ⟨(some 5), none, .mv (.v (.bool false))⟩, ⟨(some 6), none, .mv (.v (.int .i64 (0)))⟩] (some ⟨[0,3], [3], []⟩))
  (.seq (.seq (.reg false [⟨(some 14), none, .mv (.t 0)⟩, ⟨(some 15), none, .load true 2 (.t 3)⟩, ⟨(some 16), none, .call (.f 110) [(.t 14), (.t 15)]⟩, ⟨(some 7), none, .mv (.t 16)⟩] (some ⟨[0,3,7], [3], []⟩))
  (.seq (.reg false [⟨(some 17), none, .mv (.t 7)⟩, ⟨(some 18), none, .bin .neq (.t 17) (.v (.int .i64 (0)))⟩] (some ⟨[0,3,7,18], [3], []⟩))
  (.cond (.t 18)
  (.seq (.reg false [⟨(some 19), none, .mv (.t 7)⟩, ⟨(some 4), none, .mv (.v (.int .i64 (0)))⟩, ⟨(some 5), none, .mv (.v (.bool false))⟩, ⟨(some 6), none, .mv (.t 19)⟩] (some ⟨[4,5,6], [], []⟩))
  .ret)
  .skip)))
  (.seq (.reg false [⟨(some 20), none, .mv (.t 0)⟩, ⟨(some 21), none, .load true 2 (.t 3)⟩, ⟨(some 22), none, .callm (.f 114) [(.t 20), (.t 21)] ⟨[], [], [], [5], []⟩⟩, ⟨(some 8), none, .mv (.t 22)⟩] (some ⟨[8], [], [5]⟩))
  (.seq (.reg false [⟨(some 23), none, .mv (.t 8)⟩, ⟨(some 24), none, .callm (.f 126) [(.t 23), (.f 127)] ⟨[], [5], [], [5], [5]⟩⟩] (some ⟨[8], [], []⟩))
  (.seq (.reg false [⟨(some 26), none, .mv (.t 8)⟩, ⟨(some 27), none, .call (.f 115) [(.t 26)]⟩, ⟨(some 25), none, .mv (.t 27)⟩, ⟨(some 28), none, .extr (.t 25) 0⟩, ⟨(some 29), none, .extr (.t 25) 1⟩, ⟨(some 9), none, .mv (.t 28)⟩, ⟨(some 10), none, .mv (.t 29)⟩] (some ⟨[8,10], [], []⟩))
  (.seq (.reg false [⟨(some 11), none, .mv (.v (.int .i64 (0)))⟩] (some ⟨[8,10,11], [], []⟩))
  (.seq (.seq (.reg false [⟨(some 30), none, .mv (.t 8)⟩, ⟨(some 31), none, .len (.t 30)⟩, ⟨(some 32), none, .mv (.v (.int .i64 (0)))⟩] (some ⟨[10,11,30,31,32], [], []⟩))
  (.block 0 (.loop (.seq (.reg false [⟨(some 33), none, .bin .lss (.t 32) (.t 31)⟩] (some ⟨[10,11,30,31,32,33], [], []⟩))
  (.seq (.cond (.t 33)
  .skip
  (.exit 0))
  (.seq (.block 1 (.seq (.reg false [⟨(some 34), none, .iadr 4 (.t 30) (.t 32)⟩, ⟨(some 35), none, .load true 4 (.t 34)⟩, ⟨(some 13), none, .alloc [(.int .i64 (0)), (.int .i64 (0)), (.int .i64 (0)), (.int .i64 (0))]⟩, ⟨none, none, .store 4 (.t 13) (.t 35)⟩] (some ⟨[10,11,13,30,31,32], [13], []⟩))
  (.seq (.reg false [⟨(some 36), none, .mv (.t 11)⟩, ⟨(some 37), none, .load true 4 (.t 13)⟩, ⟨(some 38), none, .call (.f 118) [(.t 37)]⟩, ⟨(some 39), none, .bin .add (.t 36) (.t 38)⟩, ⟨(some 11), none, .mv (.t 39)⟩] (some ⟨[10,11,13,30,31,32], [13], []⟩))
  (.seq (.reg false [⟨(some 40), none, .mv (.t 11)⟩, ⟨(some 41), none, .bin .mul (.v (.int .i64 (2))) (.t 40)⟩, ⟨(some 42), none, .mv (.t 10)⟩, ⟨(some 43), none, .bin .geq (.t 41) (.t 42)⟩] (some ⟨[10,11,13,30,31,32,43], [13], []⟩))
  (.cond (.t 43)
  (.seq (.reg false [⟨(some 44), none, .fadr 2 (.t 13)⟩, ⟨(some 45), none, .load false 1 (.t 44)⟩, ⟨(some 4), none, .mv (.t 45)⟩, ⟨(some 5), none, .mv (.v (.bool true))⟩, ⟨(some 6), none, .mv (.v (.int .i64 (0)))⟩] (some ⟨[4,5,6], [], []⟩))
  .ret)
  .skip)))))
  (.reg false [⟨(some 46), none, .bin .add (.t 32) (.v (.int .i64 (1)))⟩, ⟨(some 32), none, .mv (.t 46)⟩] (some ⟨[10,11,30,31,32], [], []⟩))))))))
  (.seq (.reg false [⟨(some 4), none, .mv (.v (.int .i64 (0)))⟩, ⟨(some 5), none, .mv (.v (.bool false))⟩, ⟨(some 6), none, .mv (.v (.int .i64 (0)))⟩] (some ⟨[4,5,6], [], []⟩))
  .ret))))))))
theorem c_median : compileCode Try.prog Try.f63.ntmps (Try.f63.body.getD .skip) A_median = some (C_median, []) := by kernel_rfl
theorem r_median : compileRes Try.prog Try.f63.results.toList = some [.t 4, .t 5, .t 6] := by kernel_rfl
theorem b_median : Try.f63.body = some (Try.f63.body.getD .skip) := by kernel_rfl
theorem n_median : (Try.f63.name == "runtime.NumGoroutine") = false := by kernel_rfl
theorem fc_median {xt : Option (List Cel)} {args : List Val} {R : List Cel → Val → Prop} (hn : (if xt.isSome then 1 else 0) + args.length ≤ Try.f63.ntmps) (h : ex Try.prog C_median [] (fpost xt [.t 4, .t 5, .t 6] R) (initSt xt args)) : FC Try.prog 63 xt args R :=
  fc_of_awp Try.func63 b_median n_median c_median r_median (of_decide_eq_true (by kernel_rfl)) hn h
theorem fcm_median {H : Hp} {K : Keep} {args : List Val} {R : Hp → Val → Prop} (hn : args.length ≤ Try.f63.ntmps) (hkb : ∀ p ∈ H.bs, p.1 = 0 ∨ XK ≤ p.1) (hkr : ∀ p ∈ H.rs, XK ≤ p.1) (h : ex Try.prog C_median [] (mpost H K [.t 4, .t 5, .t 6] R) (initM H args)) : FCM Try.prog 63 H args R :=
  fcm_of_awp Try.func63 b_median n_median c_median r_median (of_decide_eq_true (by kernel_rfl)) hn hkb hkr h
theorem fcms_median {S : List Nat} {H : Hp} {K : Keep} {args : List Val} {R : Hp → Val → Prop} (hn : args.length ≤ Try.f63.ntmps) (hkb : ∀ p ∈ H.bs, p.1 = 0 ∨ XK ≤ p.1) (hkr : ∀ p ∈ H.rs, XK ≤ p.1) (h : ex Try.prog C_median [] (mpostS S H K [.t 4, .t 5, .t 6] R) (initM H args))   : FCMS Try.prog 63 S H args R :=
  fcms_of_awp Try.func63 b_median n_median c_median r_median (of_decide_eq_true (by kernel_rfl)) hn hkb hkr h

def A_medianOf : List Ann := [⟨(some ⟨[0,3], [3], []⟩), [], [], [], []⟩, ⟨(some ⟨[0,3,6], [3], [5]⟩), [], [], [], [(14, ⟨[], [], [], [5], []⟩)]⟩, ⟨(some ⟨[0,3,6], [3], []⟩), [], [], [], [(16, ⟨[], [5], [], [5], [5]⟩)]⟩, ⟨(some ⟨[6,8], [], []⟩), [], [], [], []⟩, ⟨(some ⟨[6,8,9], [], []⟩), [], [], [], []⟩, ⟨(some ⟨[8,9,23,24,25], [], []⟩), [], [], [], []⟩, ⟨(some ⟨[8,9,23,24,25,26], [], []⟩), [], [], [], []⟩, ⟨(some ⟨[8,9,11,23,24,25], [11], []⟩), [], [], [], []⟩, ⟨(some ⟨[8,9,11,23,24,25], [11], []⟩), [], [], [], []⟩, ⟨(some ⟨[8,9,11,23,24,25,37], [11], []⟩), [], [], [], []⟩, ⟨(some ⟨[4,5], [], []⟩), [], [], [], []⟩, ⟨(some ⟨[8,9,23,24,25], [], []⟩), [], [], [], []⟩, ⟨(some ⟨[4,5], [], []⟩), [], [], [], []⟩]
def C_medianOf : AC := (.seq (.reg false [⟨(some 3), none, .box (.t 1)⟩, ⟨(some 4), none, .mv (.v (.int .i64 (0)))⟩, ⟨(some 5), none, .mv (.v (.bool false))⟩] (some ⟨[0,3], [3], []⟩))
  (.seq (.reg false [⟨(some 12), none, .mv (.t 0)⟩, ⟨(some 13), none, .load true 2 (.t 3)⟩, ⟨(some 14), none, .callm (.f 133) [(.t 12), (.t 13)] ⟨[], [], [], [5], []⟩⟩, ⟨(some 6), none, .mv (.t 14)⟩] (some ⟨[0,3,6], [3], [5]⟩))
  (.seq (.reg false [⟨(some 15), none, .mv (.t 6)⟩, ⟨(some 16), none, .callm (.f 135) [(.t 15), (.f 136)] ⟨[], [5], [], [5], [5]⟩⟩] (some ⟨[0,3,6], [3], []⟩))
  (.seq (.reg false [⟨(some 18), none, .mv (.t 0)⟩, ⟨(some 19), none, .load true 2 (.t 3)⟩, ⟨(some 20), none, .call (.f 70) [(.t 18), (.t 19)]⟩, ⟨(some 17), none, .mv (.t 20)⟩, ⟨(some 21), none, .extr (.t 17) 0⟩, ⟨(some 22), none, .extr (.t 17) 1⟩, ⟨(some 7), none, .mv (.t 21)⟩, ⟨(some 8), none, .mv (.t 22)⟩] (some ⟨[6,8], [], []⟩))
  (.seq (.reg false [⟨(some 9), none, .mv (.v (.int .i64 (0)))⟩] (some ⟨[6,8,9], [], []⟩))
  (.seq (.seq (.reg false [⟨(some 23), none, .mv (.t 6)⟩, ⟨(some 24), none, .len (.t 23)⟩, ⟨(some 25), none, .mv (.v (.int .i64 (0)))⟩] (some ⟨[8,9,23,24,25], [], []⟩))
  (.block 0 (.loop (.seq (.reg false [⟨(some 26), none, .bin .lss (.t 25) (.t 24)⟩] (some ⟨[8,9,23,24,25,26], [], []⟩))
  (.seq (.cond (.t 26)
  .skip
  (.exit 0))
  (.seq (.block 1 (.seq (.reg false [⟨(some 27), none, .iadr 5 (.t 23) (.t 25)⟩, ⟨(some 28), none, .load true 5 (.t 27)⟩, ⟨(some 11), none, .alloc [(.int .i64 (0)), (.int .i64 (0)), (.int .i64 (0)), (.int .i64 (0)), (.int .i64 (0))]⟩, ⟨none, none, .store 5 (.t 11) (.t 28)⟩] (some ⟨[8,9,11,23,24,25], [11], []⟩))
  (.seq (.reg false [⟨(some 29), none, .mv (.t 9)⟩, ⟨(some 30), none, .fadr 0 (.t 11)⟩, ⟨(some 31), none, .load true 2 (.t 30)⟩, ⟨(some 32), none, .call (.f 131) [(.t 31)]⟩, ⟨(some 33), none, .bin .add (.t 29) (.t 32)⟩, ⟨(some 9), none, .mv (.t 33)⟩] (some ⟨[8,9,11,23,24,25], [11], []⟩))
  (.seq (.reg false [⟨(some 34), none, .mv (.t 9)⟩, ⟨(some 35), none, .bin .mul (.v (.int .i64 (2))) (.t 34)⟩, ⟨(some 36), none, .mv (.t 8)⟩, ⟨(some 37), none, .bin .geq (.t 35) (.t 36)⟩] (some ⟨[8,9,11,23,24,25,37], [11], []⟩))
  (.cond (.t 37)
  (.seq (.reg false [⟨(some 38), none, .fadr 2 (.t 11)⟩, ⟨(some 39), none, .fadr 1 (.t 38)⟩, ⟨(some 40), none, .load false 1 (.t 39)⟩, ⟨(some 4), none, .mv (.t 40)⟩, ⟨(some 5), none, .mv (.v (.bool true))⟩] (some ⟨[4,5], [], []⟩))
  .ret)
  .skip)))))
  (.reg false [⟨(some 41), none, .bin .add (.t 25) (.v (.int .i64 (1)))⟩, ⟨(some 25), none, .mv (.t 41)⟩] (some ⟨[8,9,23,24,25], [], []⟩))))))))
  (.seq (.reg false [⟨(some 4), none, .mv (.v (.int .i64 (0)))⟩, ⟨(some 5), none, .mv (.v (.bool false))⟩] (some ⟨[4,5], [], []⟩))
  .ret)))))))
theorem c_medianOf : compileCode Try.prog Try.f73.ntmps (Try.f73.body.getD .skip) A_medianOf = some (C_medianOf, []) := by kernel_rfl
theorem r_medianOf : compileRes Try.prog Try.f73.results.toList = some [.t 4, .t 5] := by kernel_rfl
theorem b_medianOf : Try.f73.body = some (Try.f73.body.getD .skip) := by kernel_rfl
theorem n_medianOf : (Try.f73.name == "runtime.NumGoroutine") = false := by kernel_rfl
theorem fc_medianOf {xt : Option (List Cel)} {args : List Val} {R : List Cel → Val → Prop} (hn : (if xt.isSome then 1 else 0) + args.length ≤ Try.f73.ntmps) (h : ex Try.prog C_medianOf [] (fpost xt [.t 4, .t 5] R) (initSt xt args)) : FC Try.prog 73 xt args R :=
  fc_of_awp Try.func73 b_medianOf n_medianOf c_medianOf r_medianOf (of_decide_eq_true (by kernel_rfl)) hn h
theorem fcm_medianOf {H : Hp} {K : Keep} {args : List Val} {R : Hp → Val → Prop} (hn : args.length ≤ Try.f73.ntmps) (hkb : ∀ p ∈ H.bs, p.1 = 0 ∨ XK ≤ p.1) (hkr : ∀ p ∈ H.rs, XK ≤ p.1) (h : ex Try.prog C_medianOf [] (mpost H K [.t 4, .t 5] R) (initM H args)) : FCM Try.prog 73 H args R :=
  fcm_of_awp Try.func73 b_medianOf n_medianOf c_medianOf r_medianOf (of_decide_eq_true (by kernel_rfl)) hn hkb hkr h
theorem fcms_medianOf {S : List Nat} {H : Hp} {K : Keep} {args : List Val} {R : Hp → Val → Prop} (hn : args.length ≤ Try.f73.ntmps) (hkb : ∀ p ∈ H.bs, p.1 = 0 ∨ XK ≤ p.1) (hkr : ∀ p ∈ H.rs, XK ≤ p.1) (h : ex Try.prog C_medianOf [] (mpostS S H K [.t 4, .t 5] R) (initM H args))   : FCMS Try.prog 73 S H args R :=
  fcms_of_awp Try.func73 b_medianOf n_medianOf c_medianOf r_medianOf (of_decide_eq_true (by kernel_rfl)) hn hkb hkr h

def A_goodTime : List Ann := [⟨(some ⟨[0,2,4], [4], []⟩), [], [], [], []⟩, ⟨(some ⟨[0,2,4,8], [4], []⟩), [], [], [], []⟩, ⟨(some ⟨[0,2,4,8,16], [4], []⟩), [], [], [], []⟩, ⟨(some ⟨[6,7], [], []⟩), [], [], [], []⟩, ⟨(some ⟨[0,2,4,19], [4], []⟩), [], [], [], []⟩, ⟨(some ⟨[6,7], [], []⟩), [], [], [], []⟩, ⟨(some ⟨[0,2,4,9], [4], []⟩), [], [], [], []⟩, ⟨(some ⟨[2,9,22,23,24], [], []⟩), [], [], [], [(22, ⟨[], [], [], [5], []⟩)]⟩, ⟨(some ⟨[2,9,22,23,24,25], [], []⟩), [], [], [], []⟩, ⟨(some ⟨[2,9,11,22,23,24], [11], []⟩), [], [], [], []⟩, ⟨(some ⟨[2,9,11,22,23,24,31], [11], []⟩), [], [], [], []⟩, ⟨(some ⟨[2,9,22,23,24], [], []⟩), [], [], [], []⟩, ⟨(some ⟨[2,9,22,23,24], [], []⟩), [], [], [], []⟩, ⟨(some ⟨[6,7], [], []⟩), [], [], [], []⟩]
def C_goodTime : AC := (.seq (.reg false [⟨(some 4), none, .box (.t 1)⟩, ⟨(some 6), none, .mv (.v (.int .i64 (0)))⟩, ⟨(some 7), none, .mv (.v (.int .i64 (0)))⟩] (some ⟨[0,2,4], [4], []⟩))
  (.seq (.seq (.reg false [⟨(some 12), none, .mv (.t 0)⟩, ⟨(some 13), none, .load true 2 (.t 4)⟩, ⟨(some 14), none, .call (.f 110) [(.t 12), (.t 13)]⟩, ⟨(some 8), none, .mv (.t 14)⟩] (some ⟨[0,2,4,8], [4], []⟩))
  (.seq (.reg false [⟨(some 15), none, .mv (.t 8)⟩, ⟨(some 16), none, .bin .neq (.t 15) (.v (.int .i64 (0)))⟩] (some ⟨[0,2,4,8,16], [4], []⟩))
  (.cond (.t 16)
  (.seq (.reg false [⟨(some 17), none, .mv (.t 8)⟩, ⟨(some 6), none, .mv (.v (.int .i64 (0)))⟩, ⟨(some 7), none, .mv (.t 17)⟩] (some ⟨[6,7], [], []⟩))
  .ret)
  .skip)))
  (.seq (.seq (.reg false [⟨(some 18), none, .mv (.t 2)⟩, ⟨(some 19), none, .call (.f 97) [(.t 18), (.v (.int .i64 (0))), (.v (.int .i64 (1)))]⟩] (some ⟨[0,2,4,19], [4], []⟩))
  (.cond (.t 19)
  (.seq (.reg false [⟨(some 6), none, .mv (.v (.int .i64 (0)))⟩, ⟨(some 7), none, .mv (.v (.int .i64 (4)))⟩] (some ⟨[6,7], [], []⟩))
  .ret)
  .skip))
  (.seq (.reg false [⟨(some 9), none, .mv (.v (.int .i64 (0)))⟩] (some ⟨[0,2,4,9], [4], []⟩))
  (.seq (.seq (.reg false [⟨(some 20), none, .mv (.t 0)⟩, ⟨(some 21), none, .load true 2 (.t 4)⟩, ⟨(some 22), none, .callm (.f 128) [(.t 20), (.t 21)] ⟨[], [], [], [5], []⟩⟩, ⟨(some 23), none, .len (.t 22)⟩, ⟨(some 24), none, .mv (.v (.int .i64 (0)))⟩] (some ⟨[2,9,22,23,24], [], []⟩))
  (.block 0 (.loop (.seq (.reg false [⟨(some 25), none, .bin .lss (.t 24) (.t 23)⟩] (some ⟨[2,9,22,23,24,25], [], []⟩))
  (.seq (.cond (.t 25)
  .skip
  (.exit 0))
  (.seq (.block 1 (.seq (.reg false [⟨(some 26), none, .iadr 4 (.t 22) (.t 24)⟩, ⟨(some 27), none, .load true 4 (.t 26)⟩, ⟨(some 11), none, .alloc [(.int .i64 (0)), (.int .i64 (0)), (.int .i64 (0)), (.int .i64 (0))]⟩, ⟨none, none, .store 4 (.t 11) (.t 27)⟩] (some ⟨[2,9,11,22,23,24], [11], []⟩))
  (.seq (.reg false [⟨(some 28), none, .fadr 3 (.t 11)⟩, ⟨(some 29), none, .load false 1 (.t 28)⟩, ⟨(some 30), none, .mv (.t 2)⟩, ⟨(some 31), none, .bin .leq (.t 29) (.t 30)⟩] (some ⟨[2,9,11,22,23,24,31], [11], []⟩))
  (.cond (.t 31)
  (.reg false [⟨(some 32), none, .mv (.t 9)⟩, ⟨(some 33), none, .load true 4 (.t 11)⟩, ⟨(some 34), none, .call (.f 118) [(.t 33)]⟩, ⟨(some 35), none, .bin .add (.t 32) (.t 34)⟩, ⟨(some 9), none, .mv (.t 35)⟩] (some ⟨[2,9,22,23,24], [], []⟩))
  .skip))))
  (.reg false [⟨(some 36), none, .bin .add (.t 24) (.v (.int .i64 (1)))⟩, ⟨(some 24), none, .mv (.t 36)⟩] (some ⟨[2,9,22,23,24], [], []⟩))))))))
  (.seq (.reg false [⟨(some 37), none, .mv (.t 9)⟩, ⟨(some 6), none, .mv (.t 37)⟩, ⟨(some 7), none, .mv (.v (.int .i64 (0)))⟩] (some ⟨[6,7], [], []⟩))
  .ret))))))
theorem c_goodTime : compileCode Try.prog Try.f64.ntmps (Try.f64.body.getD .skip) A_goodTime = some (C_goodTime, []) := by kernel_rfl
theorem r_goodTime : compileRes Try.prog Try.f64.results.toList = some [.t 6, .t 7] := by kernel_rfl
theorem b_goodTime : Try.f64.body = some (Try.f64.body.getD .skip) := by kernel_rfl
theorem n_goodTime : (Try.f64.name == "runtime.NumGoroutine") = false := by kernel_rfl
theorem fc_goodTime {xt : Option (List Cel)} {args : List Val} {R : List Cel → Val → Prop} (hn : (if xt.isSome then 1 else 0) + args.length ≤ Try.f64.ntmps) (h : ex Try.prog C_goodTime [] (fpost xt [.t 6, .t 7] R) (initSt xt args)) : FC Try.prog 64 xt args R :=
  fc_of_awp Try.func64 b_goodTime n_goodTime c_goodTime r_goodTime (of_decide_eq_true (by kernel_rfl)) hn h
theorem fcm_goodTime {H : Hp} {K : Keep} {args : List Val} {R : Hp → Val → Prop} (hn : args.length ≤ Try.f64.ntmps) (hkb : ∀ p ∈ H.bs, p.1 = 0 ∨ XK ≤ p.1) (hkr : ∀ p ∈ H.rs, XK ≤ p.1) (h : ex Try.prog C_goodTime [] (mpost H K [.t 6, .t 7] R) (initM H args)) : FCM Try.prog 64 H args R :=
  fcm_of_awp Try.func64 b_goodTime n_goodTime c_goodTime r_goodTime (of_decide_eq_true (by kernel_rfl)) hn hkb hkr h
theorem fcms_goodTime {S : List Nat} {H : Hp} {K : Keep} {args : List Val} {R : Hp → Val → Prop} (hn : args.length ≤ Try.f64.ntmps) (hkb : ∀ p ∈ H.bs, p.1 = 0 ∨ XK ≤ p.1) (hkr : ∀ p ∈ H.rs, XK ≤ p.1) (h : ex Try.prog C_goodTime [] (mpostS S H K [.t 6, .t 7] R) (initM H args))   : FCMS Try.prog 64 S H args R :=
  fcms_of_awp Try.func64 b_goodTime n_goodTime c_goodTime r_goodTime (of_decide_eq_true (by kernel_rfl)) hn hkb hkr h

def A_goodOf : List Ann := [⟨(some ⟨[0,2,4], [4], []⟩), [], [], [], []⟩, ⟨(some ⟨[0,2,4,7], [4], []⟩), [], [], [], []⟩, ⟨(some ⟨[2,7,12,13,14], [], []⟩), [], [], [], [(12, ⟨[], [], [], [5], []⟩)]⟩, ⟨(some ⟨[2,7,12,13,14,15], [], []⟩), [], [], [], []⟩, ⟨(some ⟨[2,7,9,12,13,14], [9], []⟩), [], [], [], []⟩, ⟨(some ⟨[2,7,9,12,13,14,22], [9], []⟩), [], [], [], []⟩, ⟨(some ⟨[2,7,12,13,14], [], []⟩), [], [], [], []⟩, ⟨(some ⟨[2,7,12,13,14], [], []⟩), [], [], [], []⟩, ⟨(some ⟨[6], [], []⟩), [], [], [], []⟩]
def C_goodOf : AC := (.seq (.reg false [⟨(some 4), none, .box (.t 1)⟩, ⟨(some 6), none, .mv (.v (.int .i64 (0)))⟩] (some ⟨[0,2,4], [4], []⟩))
  (.seq (.reg false [⟨(some 7), none, .mv (.v (.int .i64 (0)))⟩] (some ⟨[0,2,4,7], [4], []⟩))
  (.seq (.seq (.reg false [⟨(some 10), none, .mv (.t 0)⟩, ⟨(some 11), none, .load true 2 (.t 4)⟩, ⟨(some 12), none, .callm (.f 130) [(.t 10), (.t 11)] ⟨[], [], [], [5], []⟩⟩, ⟨(some 13), none, .len (.t 12)⟩, ⟨(some 14), none, .mv (.v (.int .i64 (0)))⟩] (some ⟨[2,7,12,13,14], [], []⟩))
  (.block 0 (.loop (.seq (.reg false [⟨(some 15), none, .bin .lss (.t 14) (.t 13)⟩] (some ⟨[2,7,12,13,14,15], [], []⟩))
  (.seq (.cond (.t 15)
  .skip
  (.exit 0))
  (.seq (.block 1 (.seq (.reg false [⟨(some 16), none, .iadr 5 (.t 12) (.t 14)⟩, ⟨(some 17), none, .load true 5 (.t 16)⟩, ⟨(some 9), none, .alloc [(.int .i64 (0)), (.int .i64 (0)), (.int .i64 (0)), (.int .i64 (0)), (.int .i64 (0))]⟩, ⟨none, none, .store 5 (.t 9) (.t 17)⟩] (some ⟨[2,7,9,12,13,14], [9], []⟩))
  (.seq (.reg false [⟨(some 18), none, .fadr 2 (.t 9)⟩, ⟨(some 19), none, .fadr 2 (.t 18)⟩, ⟨(some 20), none, .load false 1 (.t 19)⟩, ⟨(some 21), none, .mv (.t 2)⟩, ⟨(some 22), none, .bin .leq (.t 20) (.t 21)⟩] (some ⟨[2,7,9,12,13,14,22], [9], []⟩))
  (.cond (.t 22)
  (.reg false [⟨(some 23), none, .mv (.t 7)⟩, ⟨(some 24), none, .fadr 0 (.t 9)⟩, ⟨(some 25), none, .load true 2 (.t 24)⟩, ⟨(some 26), none, .call (.f 131) [(.t 25)]⟩, ⟨(some 27), none, .bin .add (.t 23) (.t 26)⟩, ⟨(some 7), none, .mv (.t 27)⟩] (some ⟨[2,7,12,13,14], [], []⟩))
  .skip))))
  (.reg false [⟨(some 28), none, .bin .add (.t 14) (.v (.int .i64 (1)))⟩, ⟨(some 14), none, .mv (.t 28)⟩] (some ⟨[2,7,12,13,14], [], []⟩))))))))
  (.seq (.reg false [⟨(some 29), none, .mv (.t 7)⟩, ⟨(some 6), none, .mv (.t 29)⟩] (some ⟨[6], [], []⟩))
  .ret))))
theorem c_goodOf : compileCode Try.prog Try.f68.ntmps (Try.f68.body.getD .skip) A_goodOf = some (C_goodOf, []) := by kernel_rfl
theorem r_goodOf : compileRes Try.prog Try.f68.results.toList = some [.t 6] := by kernel_rfl
theorem b_goodOf : Try.f68.body = some (Try.f68.body.getD .skip) := by kernel_rfl
theorem n_goodOf : (Try.f68.name == "runtime.NumGoroutine") = false := by kernel_rfl
theorem fc_goodOf {xt : Option (List Cel)} {args : List Val} {R : List Cel → Val → Prop} (hn : (if xt.isSome then 1 else 0) + args.length ≤ Try.f68.ntmps) (h : ex Try.prog C_goodOf [] (fpost xt [.t 6] R) (initSt xt args)) : FC Try.prog 68 xt args R :=
  fc_of_awp Try.func68 b_goodOf n_goodOf c_goodOf r_goodOf (of_decide_eq_true (by kernel_rfl)) hn h
theorem fcm_goodOf {H : Hp} {K : Keep} {args : List Val} {R : Hp → Val → Prop} (hn : args.length ≤ Try.f68.ntmps) (hkb : ∀ p ∈ H.bs, p.1 = 0 ∨ XK ≤ p.1) (hkr : ∀ p ∈ H.rs, XK ≤ p.1) (h : ex Try.prog C_goodOf [] (mpost H K [.t 6] R) (initM H args)) : FCM Try.prog 68 H args R :=
  fcm_of_awp Try.func68 b_goodOf n_goodOf c_goodOf r_goodOf (of_decide_eq_true (by kernel_rfl)) hn hkb hkr h
theorem fcms_goodOf {S : List Nat} {H : Hp} {K : Keep} {args : List Val} {R : Hp → Val → Prop} (hn : args.length ≤ Try.f68.ntmps) (hkb : ∀ p ∈ H.bs, p.1 = 0 ∨ XK ≤ p.1) (hkr : ∀ p ∈ H.rs, XK ≤ p.1) (h : ex Try.prog C_goodOf [] (mpostS S H K [.t 6] R) (initM H args))   : FCMS Try.prog 68 S H args R :=
  fcms_of_awp Try.func68 b_goodOf n_goodOf c_goodOf r_goodOf (of_decide_eq_true (by kernel_rfl)) hn hkb hkr h


def in5St (cl : FuncId) (n i : Int) (cur : List Sr) : AS := ⟨tabV [(0, .one (.ow 1000000 0)), (1, iv 0), (2, iv n), (3, .one (.fn cl [])), (8, iv i)], tabO [], tabO [(1000000, srRow cur)]⟩
def ij5St (cl : FuncId) (n i j : Int) (cur : List Sr) : AS := ⟨tabV [(0, .one (.ow 1000000 0)), (1, iv 0), (2, iv n), (3, .one (.fn cl [])), (8, iv i), (9, iv j)], tabO [], tabO [(1000000, srRow cur)]⟩
theorem ins5_fcm (cl : FuncId) (cm : Sr → Sr → Int) (l : List Sr) (hl : l.length ≤ 1000) (hcl : ∀ x y, FC Try.prog cl none [.ag (srC x), .ag (srC y)] (fun _ r => r = iv (cm x y))) :
    FCMS Try.prog 203 [1000000] ⟨[], [(1000000, srRow l)]⟩ [.one (.ow 1000000 0), iv 0, iv l.length, .one (.fn cl [])] (fun H r => H = ⟨[], [(1000000, srRow (isrt (fun x y => decide (cm x y < 0)) l.length l))]⟩ ∧ r = .tu []) := by
  refine fcms_ins5 (K := ⟨[], [], [1000000]⟩) (by simp +arith) (by simp) (by simp [XK]) ?_
  unfold C_ins5
  simp (maxSteps := 1000000) (disch := omega) only [go_sem, eq_self, decide_true, decide_false, not_true_eq_false, not_false_eq_true, reduceIte, reduceCtorEq, Nat.reduceEqDiff, Nat.reduceAdd, Nat.reduceSub, Nat.reduceLeDiff]
  refine ex_loop1 (fun i => in5St cl l.length i (isrt (fun x y => decide (cm x y < 0)) i.toNat l)) (fun i => 1 ≤ i ∧ (1 ≤ l.length → i ≤ l.length)) (fun i => (l.length - i).toNat) 1 ⟨by omega, by omega⟩ rfl ?_
  rintro i ⟨g1, g2⟩
  unfold in5St
  by_cases hi : i < l.length
  · simp (maxSteps := 1000000) (disch := omega) only [go_sem, eq_self, decide_true, decide_false, not_true_eq_false, not_false_eq_true, reduceIte, reduceCtorEq, Nat.reduceEqDiff, Nat.reduceAdd, Nat.reduceSub, Nat.reduceLeDiff]
    refine ex_loop2 (ij5St cl l.length i) (fun j cur => 0 ≤ j ∧ j ≤ i ∧ cur.length = l.length ∧ sink (fun x y => decide (cm x y < 0)) j.toNat cur = isrt (fun x y => decide (cm x y < 0)) (i + 1).toNat l) (fun j _ => j.toNat) i (isrt (fun x y => decide (cm x y < 0)) i.toNat l) ⟨by omega, by omega, isrt_len _ _, by rw [show (i + 1).toNat = i.toNat + 1 by omega, isrt]⟩ rfl ?_
    rintro j cur ⟨h1, h2, h3, h4⟩
    unfold ij5St
    by_cases hj : 0 < j
    · rw [sink_at hj] at h4
      have ej := getD_map_at srC cur j [] (by omega) (by omega)
      have ek := getD_map_at srC cur (j - 1) [] (by omega) (by omega)
      simp (maxSteps := 1000000) (disch := omega) only [go_sem, eq_self, decide_true, decide_false, not_true_eq_false, not_false_eq_true, reduceIte, reduceCtorEq, Nat.reduceEqDiff, Nat.reduceAdd, Nat.reduceSub, Nat.reduceLeDiff]
      refine CALL_det (hcl _ _) (.inl rfl) ?_
      by_cases hc : cm (cur.getD j.toNat default) (cur.getD (j - 1).toNat default) < 0
      · rw [if_pos (by simpa using hc)] at h4
        have el : ((cur.map srC).set j.toNat (srC (cur.getD (j - 1).toNat default))).length = cur.length := by simp
        have es := set_other (cur.map srC) (srC (cur.getD (j - 1).toNat default)) (show (j - 1).toNat ≠ j.toNat by omega)
        rw [getE_map_in srC cur (j - 1).toNat (by omega)] at es
        simp only [srC_eq] at el es
        simp (maxSteps := 1000000) (disch := omega) only [go_sem, eq_self, decide_true, decide_false, not_true_eq_false, not_false_eq_true, reduceIte, reduceCtorEq, Nat.reduceEqDiff, Nat.reduceAdd, Nat.reduceSub, Nat.reduceLeDiff]
        rw [es]
        simp (maxSteps := 1000000) (disch := omega) only [go_sem, eq_self, decide_true, decide_false, not_true_eq_false, not_false_eq_true, reduceIte, reduceCtorEq, Nat.reduceEqDiff, Nat.reduceAdd, Nat.reduceSub, Nat.reduceLeDiff]
        exact ⟨j - 1, (cur.set j.toNat (cur.getD (j - 1).toNat default)).set (j - 1).toNat (cur.getD j.toNat default), by simp only [ij5St, srRow, List.map_set, srC_eq], ⟨by omega, by omega, by rw [List.length_set, List.length_set]; exact h3, h4⟩, by omega⟩
      · rw [if_neg (by simpa using hc)] at h4
        simp (maxSteps := 1000000) (disch := omega) only [go_sem, eq_self, decide_true, decide_false, not_true_eq_false, not_false_eq_true, reduceIte, reduceCtorEq, Nat.reduceEqDiff, Nat.reduceAdd, Nat.reduceSub, Nat.reduceLeDiff]
        exact ⟨i + 1, by simp only [in5St, ← h4], by omega, by omega⟩
    · obtain rfl : j = 0 := by omega
      simp (maxSteps := 1000000) (disch := omega) only [go_sem, eq_self, decide_true, decide_false, not_true_eq_false, not_false_eq_true, reduceIte, reduceCtorEq, Nat.reduceEqDiff, Nat.reduceAdd, Nat.reduceSub, Nat.reduceLeDiff]
      exact ⟨i + 1, by simp only [in5St, ← h4]; rfl, by omega, by omega⟩
  · have he : isrt (fun x y => decide (cm x y < 0)) i.toNat l = isrt (fun x y => decide (cm x y < 0)) l.length l := by
      by_cases h0 : l.length = 0
      · rw [List.length_eq_zero_iff.1 h0]
        rw [isrt_nil, isrt_nil]
      · rw [show i.toNat = l.length by omega]
    rw [he]
    simp (maxSteps := 1000000) (disch := omega) only [go_sem, eq_self, decide_true, decide_false, not_true_eq_false, not_false_eq_true, reduceIte, reduceCtorEq, Nat.reduceEqDiff, Nat.reduceAdd, Nat.reduceSub, Nat.reduceLeDiff]
theorem rmedClos_fc (x y : Sr) : FC Try.prog 136 none [.ag (srC x), .ag (srC y)] (fun _ r => r = iv (sd y.v x.v)) := by
  refine fc_rmedClos (by simp +arith) ?_
  unfold C_rmedClos
  simp (maxSteps := 1000000) (disch := omega) only [go_sem, eq_self, decide_true, decide_false, not_true_eq_false, not_false_eq_true, reduceIte, reduceCtorEq, Nat.reduceEqDiff, Nat.reduceAdd, Nat.reduceSub, Nat.reduceLeDiff]
  refine CALL_det (cmpInt_fc _ _) (.inl rfl) ?_
  simp (maxSteps := 1000000) (disch := omega) only [go_sem, eq_self, decide_true, decide_false, not_true_eq_false, not_false_eq_true, reduceIte, reduceCtorEq, Nat.reduceEqDiff, Nat.reduceAdd, Nat.reduceSub, Nat.reduceLeDiff]
theorem stb5_fcm (cl : FuncId) (cm : Sr → Sr → Int) (l : List Sr) (hl : l.length ≤ 12) (hcl : ∀ x y, FC Try.prog cl none [.ag (srC x), .ag (srC y)] (fun _ r => r = iv (cm x y))) :
    FCMS Try.prog 174 [1000000] ⟨[], [(1000000, srRow l)]⟩ [.one (.ow 1000000 0), iv l.length, .one (.fn cl [])] (fun H r => H = ⟨[], [(1000000, srRow (isrt (fun x y => decide (cm x y < 0)) l.length l))]⟩ ∧ r = .tu []) := by
  refine fcms_stb5 (K := ⟨[], [], [1000000]⟩) (by simp +arith) (by simp) (by simp [XK]) ?_
  unfold C_stb5
  simp (maxSteps := 1000000) (disch := omega) only [go_sem, eq_self, decide_true, decide_false, not_true_eq_false, not_false_eq_true, reduceIte, reduceCtorEq, Nat.reduceEqDiff, Nat.reduceAdd, Nat.reduceSub, Nat.reduceLeDiff]
  refine ex_rnd 1 ?_
  simp (maxSteps := 1000000) (disch := omega) only [go_sem, eq_self, decide_true, decide_false, not_true_eq_false, not_false_eq_true, reduceIte, reduceCtorEq, Nat.reduceEqDiff, Nat.reduceAdd, Nat.reduceSub, Nat.reduceLeDiff]
  refine ⟨rfl, CALLM_det (ins5_fcm cl cm l (by omega) hcl) ⟨rfl, rfl⟩ ?_⟩
  simp (maxSteps := 1000000) (disch := omega) only [go_sem, eq_self, decide_true, decide_false, not_true_eq_false, not_false_eq_true, reduceIte, reduceCtorEq, Nat.reduceEqDiff, Nat.reduceAdd, Nat.reduceSub, Nat.reduceLeDiff]
  refine ex_rnd 1 ?_
  simp (maxSteps := 1000000) (disch := omega) only [go_sem, eq_self, decide_true, decide_false, not_true_eq_false, not_false_eq_true, reduceIte, reduceCtorEq, Nat.reduceEqDiff, Nat.reduceAdd, Nat.reduceSub, Nat.reduceLeDiff]
theorem srs5_fcm (cl : FuncId) (cm : Sr → Sr → Int) (l : List Sr) (hl : l.length ≤ 12) (hcl : ∀ x y, FC Try.prog cl none [.ag (srC x), .ag (srC y)] (fun _ r => r = iv (cm x y))) :
    FCMS Try.prog 135 [1000000] ⟨[], [(1000000, srRow l)]⟩ [.one (.ow 1000000 0), .one (.fn cl [])] (fun H r => H = ⟨[], [(1000000, srRow (isrt (fun x y => decide (cm x y < 0)) l.length l))]⟩ ∧ r = .tu []) := by
  refine fcms_srs5 (K := ⟨[], [], [1000000]⟩) (by simp +arith) (by simp) (by simp [XK]) ?_
  unfold C_srs5
  simp (maxSteps := 1000000) (disch := omega) only [go_sem, eq_self, decide_true, decide_false, not_true_eq_false, not_false_eq_true, reduceIte, reduceCtorEq, Nat.reduceEqDiff, Nat.reduceAdd, Nat.reduceSub, Nat.reduceLeDiff]
  refine ⟨rfl, CALLM_det (stb5_fcm cl cm l hl hcl) ⟨rfl, rfl⟩ ?_⟩
  simp (maxSteps := 1000000) (disch := omega) only [go_sem, eq_self, decide_true, decide_false, not_true_eq_false, not_false_eq_true, reduceIte, reduceCtorEq, Nat.reduceEqDiff, Nat.reduceAdd, Nat.reduceSub, Nat.reduceLeDiff]
theorem valuedM_fcm (l : List Smp) (hl : l.length ≤ 5000) (f t : Int) : FCM Try.prog 114 ⟨[], []⟩ [smps false l, winV f t] (fun H r => H = ⟨[], [(5, pcRow (vals f t l))]⟩ ∧ r = .one (.ow 5 0)) := by
  refine fcm_valuedM (K := ⟨[], [], [5]⟩) (by simp +arith) (by simp) (by simp) ?_
  have hp := pcsGo_len f t l
  unfold C_valuedM
  simp (maxSteps := 1000000) (disch := omega) only [go_sem, eq_self, decide_true, decide_false, not_true_eq_false, not_false_eq_true, reduceIte, reduceCtorEq, Nat.reduceEqDiff, Nat.reduceAdd, Nat.reduceSub, Nat.reduceLeDiff]
  refine ⟨rfl, CALLM_det (pieces_fcm l hl f t) ⟨rfl, rfl⟩ ?_⟩
  simp (maxSteps := 1000000) (disch := omega) only [go_sem, eq_self, decide_true, decide_false, not_true_eq_false, not_false_eq_true, reduceIte, reduceCtorEq, Nat.reduceEqDiff, Nat.reduceAdd, Nat.reduceSub, Nat.reduceLeDiff]
  refine ⟨rfl, CALLM_rnE ⟨[], [(5, pcRow (vals f t l))]⟩ (.one (.ow 5 0)) (fun k => k) (swp 5 1000000) (fun _ => rfl) (swp_swp 5 1000000) (del4_fcm 160 (fun x => decide (x.q = 2)) (pcsGo f t l) (by omega) (fun x => valClos_fc x)) (by simp) rfl rfl rfl rfl ⟨rfl, rfl⟩ ?_⟩
  simp (maxSteps := 1000000) (disch := omega) only [go_sem, eq_self, decide_true, decide_false, not_true_eq_false, not_false_eq_true, reduceIte, reduceCtorEq, Nat.reduceEqDiff, Nat.reduceAdd, Nat.reduceSub, Nat.reduceLeDiff]
theorem rvaluedM_fcm (l : List Smp) (hl : l.length ≤ 5000) (f t : Int) : FCM Try.prog 133 ⟨[], []⟩ [smps false l, winV f t] (fun H r => H = ⟨[], [(5, srRow (rvals f t l))]⟩ ∧ r = .one (.ow 5 0)) := by
  refine fcm_rvaluedM (K := ⟨[], [], [5]⟩) (by simp +arith) (by simp) (by simp) ?_
  have hp := strGo_len f t l
  unfold C_rvaluedM
  simp (maxSteps := 1000000) (disch := omega) only [go_sem, eq_self, decide_true, decide_false, not_true_eq_false, not_false_eq_true, reduceIte, reduceCtorEq, Nat.reduceEqDiff, Nat.reduceAdd, Nat.reduceSub, Nat.reduceLeDiff]
  refine ⟨rfl, CALLM_det (stretches_fcm l hl f t) ⟨rfl, rfl⟩ ?_⟩
  simp (maxSteps := 1000000) (disch := omega) only [go_sem, eq_self, decide_true, decide_false, not_true_eq_false, not_false_eq_true, reduceIte, reduceCtorEq, Nat.reduceEqDiff, Nat.reduceAdd, Nat.reduceSub, Nat.reduceLeDiff]
  refine ⟨rfl, CALLM_rnE ⟨[], [(5, srRow (rvals f t l))]⟩ (.one (.ow 5 0)) (fun k => k) (swp 5 1000000) (fun _ => rfl) (swp_swp 5 1000000) (del5_fcm 172 (fun x => decide (x.q = 2)) (strGo f t l) (by omega) (fun x => rvalClos_fc x)) (by simp) rfl rfl rfl rfl ⟨rfl, rfl⟩ ?_⟩
  simp (maxSteps := 1000000) (disch := omega) only [go_sem, eq_self, decide_true, decide_false, not_true_eq_false, not_false_eq_true, reduceIte, reduceCtorEq, Nat.reduceEqDiff, Nat.reduceAdd, Nat.reduceSub, Nat.reduceLeDiff]
theorem sink_perm {α : Type} [Inhabited α] {lt : α → α → Bool} : ∀ (j : Nat) (l : List α), j < l.length → (sink lt j l).Perm l
  | 0, l, _ => .refl l
  | j + 1, l, h => by
    rw [sink]
    split
    · refine (sink_perm j _ (by rw [List.length_set, List.length_set]; omega)).trans ?_
      have e1 : l.getD (j + 1) default = l[j + 1] := by simp [List.getD_eq_getElem?_getD, h]
      have e2 : l.getD j default = l[j] := by simp [List.getD_eq_getElem?_getD, show j < l.length by omega]
      rw [e1, e2]
      exact List.set_set_perm h (show j < l.length by omega)
    · exact .refl l
theorem isrt_perm {α : Type} [Inhabited α] {lt : α → α → Bool} : ∀ (i : Nat) (l : List α), i ≤ l.length → (isrt lt i l).Perm l
  | 0, l, _ => .refl l
  | i + 1, l, h => by
    rw [isrt]
    exact (sink_perm i _ (by rw [isrt_len]; omega)).trans (isrt_perm i l (by omega))
theorem sink_map {ls : Sr → Sr → Bool} {lp : Pc → Pc → Bool} (h : ∀ x y, ls x y = lp (toPc x) (toPc y)) : ∀ (j : Nat) (l : List Sr), (sink ls j l).map toPc = sink lp j (l.map toPc)
  | 0, l => rfl
  | j + 1, l => by
    rw [sink, sink, toPc_getD, toPc_getD, ← h]
    split
    · rw [sink_map h j, List.map_set, List.map_set]
    · rfl
theorem isrt_map {ls : Sr → Sr → Bool} {lp : Pc → Pc → Bool} (h : ∀ x y, ls x y = lp (toPc x) (toPc y)) : ∀ (i : Nat) (l : List Sr), (isrt ls i l).map toPc = isrt lp i (l.map toPc)
  | 0, l => rfl
  | i + 1, l => by rw [isrt, isrt, sink_map h, isrt_map h i]
/-- The pieces by their values. -/
def srtP (m : List Pc) : List Pc := isrt (fun x y => decide (sd y.v x.v < 0)) m.length m
def srtS (m : List Sr) : List Sr := isrt (fun x y => decide (sd y.v x.v < 0)) m.length m
theorem srtS_pc (m : List Sr) : (srtS m).map toPc = srtP (m.map toPc) := by
  unfold srtS srtP
  rw [List.length_map]
  exact isrt_map (lp := fun x y => decide (sd y.v x.v < 0)) (fun _ _ => rfl) _ _
theorem srtP_perm (m : List Pc) : (srtP m).Perm m := isrt_perm _ _ (Nat.le_refl _)
theorem srtP_len (m : List Pc) : (srtP m).length = m.length := isrt_len _ _
theorem srtS_len (m : List Sr) : (srtS m).length = m.length := isrt_len _ _
theorem intT_perm {m n : List Pc} (h : m.Perm n) : intT m = intT n := by
  induction h with
  | nil => rfl
  | cons x _ ih => rw [intT, intT, ih]
  | swap x y l => simp only [intT]; omega
  | trans _ _ h1 h2 => rw [h1, h2]
/-- A piece of right samples. -/
def rtPc (p : Pc) : Prop := 0 ≤ p.f ∧ p.f < p.t ∧ p.t ≤ 345686400000 ∧ -1000000 ≤ p.v ∧ p.v ≤ 1000000
theorem Chain.rt : ∀ {m : List Pc} {lo hi : Int}, Chain lo hi m → 0 ≤ lo → hi ≤ 345686400000 → ∀ p ∈ m, rtPc p
  | [], lo, hi, h, h0, h1, p, hp => by simp at hp
  | x :: r, lo, hi, h, h0, h1, p, hp => by
    obtain ⟨h2, h3, h4, h5⟩ := h
    have h6 := h5.le
    rcases List.mem_cons.1 hp with rfl | hp
    · exact ⟨by omega, h3, by omega, h4.1, h4.2⟩
    · exact h5.rt (by omega) h1 p hp
theorem rtT : ∀ {m : List Pc}, (∀ p ∈ m, rtPc p) → 0 ≤ intT m
  | [], _ => by rw [intT]; omega
  | p :: r, h => by
    have h1 := rtT (m := r) (fun q hq => h q (List.mem_cons_of_mem _ hq))
    have h2 := (h p (List.mem_cons_self ..))
    unfold rtPc at h2
    rw [intT]; omega
/-- The integral of pieces in any order. -/
theorem integralM_fc (m : List Pc) (hl : m.length ≤ 1000000) (ho : ∀ p ∈ m, rtPc p) (hT : intT m ≤ 345686400000) : FC Try.prog 115 none [pcsV false m] (fun _ r => r = .tu [iv (intS m), iv (intT m)]) := by
  refine fc_integral (by simp +arith) ?_
  unfold C_integral
  simp (maxSteps := 1000000) (disch := omega) only [go_sem, eq_self, decide_true, decide_false, not_true_eq_false, not_false_eq_true, reduceIte, reduceCtorEq, Nat.reduceEqDiff, Nat.reduceAdd, Nat.reduceSub, Nat.reduceLeDiff]
  refine ex_loop3 (itgSt m) (fun i s tt => 0 ≤ i ∧ i ≤ m.length ∧ s + intS (m.drop i.toNat) = intS m ∧ tt + intT (m.drop i.toNat) = intT m ∧ 0 ≤ tt ∧ -1000000 * tt ≤ s ∧ s ≤ 1000000 * tt) (fun i _ _ => (m.length - i).toNat) 0 0 0 ⟨by omega, by omega, by simp, by simp, by omega, by omega, by omega⟩ rfl ?_
  rintro i s tt ⟨g1, g2, g3, g4, g5, g6, g7⟩
  unfold itgSt
  by_cases hi : i < m.length
  · have e2 : (i + 1).toNat = i.toNat + 1 := by omega
    have em := getD_map_at pcC m i [] g1 hi
    have k0 := ho _ (getD_mem m i.toNat (by omega))
    have k4 := rtT (m := m.drop (i + 1).toNat) (fun p hp => ho p (List.mem_of_mem_drop hp))
    unfold rtPc at k0
    obtain ⟨k1, k2, k3, k5⟩ := k0
    rw [drop_cons m i.toNat (by omega), ← e2] at g3 g4
    simp only [intS, intT] at g3 g4
    have hpv := pv_bd k2 k5
    simp (maxSteps := 1000000) (disch := omega) only [go_sem, eq_self, decide_true, decide_false, not_true_eq_false, not_false_eq_true, reduceIte, reduceCtorEq, Nat.reduceEqDiff, Nat.reduceAdd, Nat.reduceSub, Nat.reduceLeDiff]
    refine CALL_det (long_fc (m.getD i.toNat default) (by omega) (by omega)) (.inl rfl) ?_
    simp (maxSteps := 1000000) (disch := omega) only [go_sem, eq_self, decide_true, decide_false, not_true_eq_false, not_false_eq_true, reduceIte, reduceCtorEq, Nat.reduceEqDiff, Nat.reduceAdd, Nat.reduceSub, Nat.reduceLeDiff]
    refine CALL_det (long_fc (m.getD i.toNat default) (by omega) (by omega)) (.inl rfl) ?_
    simp (maxSteps := 1000000) (disch := omega) only [go_sem, eq_self, decide_true, decide_false, not_true_eq_false, not_false_eq_true, reduceIte, reduceCtorEq, Nat.reduceEqDiff, Nat.reduceAdd, Nat.reduceSub, Nat.reduceLeDiff]
    exact ⟨_, _, _, rfl, ⟨by omega, by omega, by omega, by omega, by omega, by omega, by omega⟩, by omega⟩
  · rw [List.drop_eq_nil_of_le (by omega)] at g3 g4
    simp only [intS, intT, Int.add_zero] at g3 g4
    rw [← g3, ← g4]
    simp (maxSteps := 1000000) (disch := omega) only [go_sem, eq_self, decide_true, decide_false, not_true_eq_false, not_false_eq_true, reduceIte, reduceCtorEq, Nat.reduceEqDiff, Nat.reduceAdd, Nat.reduceSub, Nat.reduceLeDiff]
def medGo (T : Int) : Int → List Pc → Int × Bool
  | _, [] => (0, false)
  | b, p :: r => if 2 * (b + (p.t - p.f)) ≥ T then (p.v, true) else medGo T (b + (p.t - p.f)) r
def medOf (m : List Pc) : Int × Bool := medGo (intT m) 0 (srtP m)
theorem medGo_in (T : Int) : ∀ (m : List Pc) (b : Int), m ≠ [] → 2 * (b + intT m) ≥ T → (medGo T b m).2 = true ∧ ∃ p ∈ m, (medGo T b m).1 = p.v
  | [], _, h, _ => absurd rfl h
  | p :: r, b, _, h => by
    rw [medGo]
    split
    · exact ⟨rfl, p, List.mem_cons_self .., rfl⟩
    · rename_i hc
      rw [intT] at h
      have hr : r ≠ [] := by rintro rfl; rw [intT] at h; omega
      obtain ⟨h1, q, h2, h3⟩ := medGo_in T r (b + (p.t - p.f)) hr (by omega)
      exact ⟨h1, q, List.mem_cons_of_mem _ h2, h3⟩
/-- The median is the value of a piece; without pieces there is none. -/
theorem medOf_in {m : List Pc} (h : m ≠ []) (ho : ∀ p ∈ m, rtPc p) : (medOf m).2 = true ∧ ∃ p ∈ m, (medOf m).1 = p.v := by
  have hp := srtP_perm m
  have hT := rtT ho
  have hn : srtP m ≠ [] := by
    intro e; rw [e] at hp; exact h (List.nil_perm.1 hp)
  obtain ⟨h1, p, h2, h3⟩ := medGo_in (intT m) (srtP m) 0 hn (by rw [intT_perm hp]; omega)
  exact ⟨h1, p, hp.mem_iff.1 h2, h3⟩
theorem medOf_nil : medOf [] = (0, false) := rfl
/-- How long pieces of a quality are. -/
def gdT (w : Int) : List Pc → Int
  | [] => 0
  | p :: r => (if p.q ≤ w then p.t - p.f else 0) + gdT w r
theorem gdT_bd (w : Int) : ∀ {m : List Pc}, (∀ p ∈ m, rtPc p) → 0 ≤ gdT w m ∧ gdT w m ≤ intT m
  | [], _ => by simp only [gdT, intT]; omega
  | p :: r, h => by
    have h1 := gdT_bd w (m := r) (fun q hq => h q (List.mem_cons_of_mem _ hq))
    have h2 := h p (List.mem_cons_self ..)
    unfold rtPc at h2
    rw [gdT, intT]; split <;> omega
def gtSt (m : List Pc) (w i tt : Int) : AS := ⟨tabV [(2, iv w), (9, iv tt), (22, pcsV true m), (23, iv m.length), (24, iv i)], tabO [], tabO []⟩
def gtSp (l : List Smp) (f t w : Int) : Int × Int := if bothFault l f t ≠ 0 then (0, bothFault l f t) else if w < 0 ∨ w > 1 then (0, 4) else (gdT w (pcsGo f t l), 0)
theorem pcs_rt {l : List Smp} {f t : Int} (hs : serFault l = 0) (hw : 0 ≤ f ∧ f ≤ t ∧ t ≤ 345686400000) : Chain f t (pcsGo f t l) := pcs_chain f t l none (serFault_ok hs).2 f hw.2.1 (fun s r _ => by omega)
theorem goodTime_fc (l : List Smp) (hl : l.length ≤ 4611686018427387904) (f t w : Int) : FC Try.prog 64 none [smps false l, winV f t, iv w] (fun _ r => r = .tu [iv (gtSp l f t w).1, iv (gtSp l f t w).2]) := by
  refine fc_goodTime (by simp +arith) ?_
  unfold C_goodTime gtSp
  simp (maxSteps := 1000000) (disch := omega) only [go_sem, eq_self, decide_true, decide_false, not_true_eq_false, not_false_eq_true, reduceIte, reduceCtorEq, Nat.reduceEqDiff, Nat.reduceAdd, Nat.reduceSub, Nat.reduceLeDiff]
  refine CALL_det (fault_fc l hl f t) (.inl rfl) ?_
  by_cases h1 : bothFault l f t = 0
  · rw [if_neg (show ¬(bothFault l f t ≠ 0) by omega), h1]
    have hs := (bothFault_ok h1).1
    have hw := winFault_ok (bothFault_ok h1).2
    have hlen := (good_of hs).len
    have hml := pcsGo_len f t l
    have hc := pcs_rt hs hw
    have hT := int_bd hc
    have hok := hc.rt hw.1 hw.2.2
    have hgd := gdT_bd w hok
    simp (maxSteps := 1000000) (disch := omega) only [go_sem, eq_self, decide_true, decide_false, not_true_eq_false, not_false_eq_true, reduceIte, reduceCtorEq, Nat.reduceEqDiff, Nat.reduceAdd, Nat.reduceSub, Nat.reduceLeDiff]
    refine CALL_det (out_fc w 0 1) (.inl rfl) ?_
    by_cases h2 : w < 0 ∨ w > 1
    · rw [if_pos h2]
      simp (maxSteps := 1000000) (disch := omega) only [go_sem, eq_self, decide_true, decide_false, not_true_eq_false, not_false_eq_true, reduceIte, reduceCtorEq, Nat.reduceEqDiff, Nat.reduceAdd, Nat.reduceSub, Nat.reduceLeDiff]
    · rw [if_neg h2]
      simp (maxSteps := 1000000) (disch := omega) only [go_sem, eq_self, decide_true, decide_false, not_true_eq_false, not_false_eq_true, reduceIte, reduceCtorEq, Nat.reduceEqDiff, Nat.reduceAdd, Nat.reduceSub, Nat.reduceLeDiff]
      refine ⟨rfl, CALLM_det (pieces_fcm l (by omega) f t) ⟨rfl, rfl⟩ ?_⟩
      simp (maxSteps := 1000000) (disch := omega) only [go_sem, eq_self, decide_true, decide_false, not_true_eq_false, not_false_eq_true, reduceIte, reduceCtorEq, Nat.reduceEqDiff, Nat.reduceAdd, Nat.reduceSub, Nat.reduceLeDiff]
      generalize pcsGo f t l = m at *
      refine ex_loop2 (gtSt m w) (fun i tt => 0 ≤ i ∧ i ≤ m.length ∧ tt + gdT w (m.drop i.toNat) = gdT w m ∧ 0 ≤ tt) (fun i _ => (m.length - i).toNat) 0 0 ⟨by omega, by omega, by simp, by omega⟩ rfl ?_
      rintro i tt ⟨g1, g2, g3, g4⟩
      unfold gtSt
      by_cases hi : i < m.length
      · have e2 : (i + 1).toNat = i.toNat + 1 := by omega
        have em := getD_map_at pcC m i [] g1 hi
        have k0 := hok _ (getD_mem m i.toNat (by omega))
        have k4 := (gdT_bd w (m := m.drop (i + 1).toNat) (fun p hp => hok p (List.mem_of_mem_drop hp))).1
        unfold rtPc at k0
        rw [drop_cons m i.toNat (by omega), ← e2, gdT] at g3
        by_cases hq : (m.getD i.toNat default).q ≤ w
        · rw [if_pos hq] at g3
          simp (maxSteps := 1000000) (disch := omega) only [go_sem, eq_self, decide_true, decide_false, not_true_eq_false, not_false_eq_true, reduceIte, reduceCtorEq, Nat.reduceEqDiff, Nat.reduceAdd, Nat.reduceSub, Nat.reduceLeDiff]
          refine CALL_det (long_fc (m.getD i.toNat default) (by omega) (by omega)) (.inl rfl) ?_
          simp (maxSteps := 1000000) (disch := omega) only [go_sem, eq_self, decide_true, decide_false, not_true_eq_false, not_false_eq_true, reduceIte, reduceCtorEq, Nat.reduceEqDiff, Nat.reduceAdd, Nat.reduceSub, Nat.reduceLeDiff]
          exact ⟨_, _, rfl, ⟨by omega, by omega, by omega, by omega⟩, by omega⟩
        · rw [if_neg hq] at g3
          simp (maxSteps := 1000000) (disch := omega) only [go_sem, eq_self, decide_true, decide_false, not_true_eq_false, not_false_eq_true, reduceIte, reduceCtorEq, Nat.reduceEqDiff, Nat.reduceAdd, Nat.reduceSub, Nat.reduceLeDiff]
          exact ⟨_, _, rfl, ⟨by omega, by omega, by omega, by omega⟩, by omega⟩
      · rw [List.drop_eq_nil_of_le (by omega), gdT] at g3
        simp (maxSteps := 1000000) (disch := omega) only [go_sem, eq_self, decide_true, decide_false, not_true_eq_false, not_false_eq_true, reduceIte, reduceCtorEq, Nat.reduceEqDiff, Nat.reduceAdd, Nat.reduceSub, Nat.reduceLeDiff]
        simp at g3 ⊢
        omega
  · rw [if_pos (show bothFault l f t ≠ 0 by omega)]
    simp (maxSteps := 1000000) (disch := omega) only [go_sem, eq_self, decide_true, decide_false, not_true_eq_false, not_false_eq_true, reduceIte, reduceCtorEq, Nat.reduceEqDiff, Nat.reduceAdd, Nat.reduceSub, Nat.reduceLeDiff]
def goSt (m : List Sr) (w i tt : Int) : AS := ⟨tabV [(2, iv w), (7, iv tt), (12, srsV true m), (13, iv m.length), (14, iv i)], tabO [], tabO []⟩
theorem goodOf_fc (l : List Smp) (hs : serFault l = 0) (f t w : Int) (hw : 0 ≤ f ∧ f ≤ t ∧ t ≤ 345686400000) : FC Try.prog 68 none [smps false l, winV f t, iv w] (fun _ r => r = iv (gdT w (pcsGo f t l))) := by
  refine fc_goodOf (by simp +arith) ?_
  have hlen := (good_of hs).len
  have hml := strGo_len f t l
  have hc := pcs_rt hs hw
  have hT := int_bd hc
  have hok := hc.rt hw.1 hw.2.2
  have hgd := gdT_bd w hok
  unfold C_goodOf
  simp (maxSteps := 1000000) (disch := omega) only [go_sem, eq_self, decide_true, decide_false, not_true_eq_false, not_false_eq_true, reduceIte, reduceCtorEq, Nat.reduceEqDiff, Nat.reduceAdd, Nat.reduceSub, Nat.reduceLeDiff]
  refine ⟨rfl, CALLM_det (stretches_fcm l (by omega) f t) ⟨rfl, rfl⟩ ?_⟩
  simp (maxSteps := 1000000) (disch := omega) only [go_sem, eq_self, decide_true, decide_false, not_true_eq_false, not_false_eq_true, reduceIte, reduceCtorEq, Nat.reduceEqDiff, Nat.reduceAdd, Nat.reduceSub, Nat.reduceLeDiff]
  rw [← str_pcs] at hc hT hok hgd ⊢
  generalize strGo f t l = m at *
  refine ex_loop2 (goSt m w) (fun i tt => 0 ≤ i ∧ i ≤ m.length ∧ tt + gdT w ((m.drop i.toNat).map toPc) = gdT w (m.map toPc) ∧ 0 ≤ tt) (fun i _ => (m.length - i).toNat) 0 0 ⟨by omega, by omega, by simp, by omega⟩ rfl ?_
  rintro i tt ⟨g1, g2, g3, g4⟩
  unfold goSt
  by_cases hi : i < m.length
  · have e2 : (i + 1).toNat = i.toNat + 1 := by omega
    have em := getD_map_at srC m i [] g1 hi
    have k0 := hok _ (List.mem_map_of_mem (f := toPc) (getD_mem m i.toNat (by omega)))
    have k4 := (gdT_bd w (m := (m.drop (i + 1).toNat).map toPc) (fun p hp => by
      obtain ⟨x, hx, rfl⟩ := List.mem_map.1 hp
      exact hok _ (List.mem_map_of_mem (List.mem_of_mem_drop hx)))).1
    unfold rtPc at k0
    rw [drop_cons m i.toNat (by omega), ← e2, List.map_cons, gdT] at g3
    simp only [toPc] at k0
    by_cases hq : (m.getD i.toNat default).q ≤ w
    · rw [if_pos (show (toPc (m.getD i.toNat default)).q ≤ w from hq)] at g3
      simp only [toPc] at g3
      simp (maxSteps := 1000000) (disch := omega) only [go_sem, eq_self, decide_true, decide_false, not_true_eq_false, not_false_eq_true, reduceIte, reduceCtorEq, Nat.reduceEqDiff, Nat.reduceAdd, Nat.reduceSub, Nat.reduceLeDiff]
      refine CALL_det (rlong_fc (m.getD i.toNat default).f (m.getD i.toNat default).t (by omega) (by omega)) (.inl rfl) ?_
      simp (maxSteps := 1000000) (disch := omega) only [go_sem, eq_self, decide_true, decide_false, not_true_eq_false, not_false_eq_true, reduceIte, reduceCtorEq, Nat.reduceEqDiff, Nat.reduceAdd, Nat.reduceSub, Nat.reduceLeDiff]
      exact ⟨_, _, rfl, ⟨by omega, by omega, by omega, by omega⟩, by omega⟩
    · rw [if_neg (show ¬(toPc (m.getD i.toNat default)).q ≤ w from hq)] at g3
      simp (maxSteps := 1000000) (disch := omega) only [go_sem, eq_self, decide_true, decide_false, not_true_eq_false, not_false_eq_true, reduceIte, reduceCtorEq, Nat.reduceEqDiff, Nat.reduceAdd, Nat.reduceSub, Nat.reduceLeDiff]
      exact ⟨_, _, rfl, ⟨by omega, by omega, by omega, by omega⟩, by omega⟩
  · rw [List.drop_eq_nil_of_le (by omega)] at g3
    simp only [List.map_nil, gdT, Int.add_zero] at g3
    simp (maxSteps := 1000000) (disch := omega) only [go_sem, eq_self, decide_true, decide_false, not_true_eq_false, not_false_eq_true, reduceIte, reduceCtorEq, Nat.reduceEqDiff, Nat.reduceAdd, Nat.reduceSub, Nat.reduceLeDiff]
    rw [g3]
end Go.Proofs.Ytggbcgldnjmobaa

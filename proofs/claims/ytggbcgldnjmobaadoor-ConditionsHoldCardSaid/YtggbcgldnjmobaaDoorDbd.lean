
/-
  Deadband: the walk.
-/
import Derived.Test.YtggbcgldnjmobaaDoorDbp
import Derived.Test.YtggbcgldnjmobaaDoorSrj
import Derived.Test.YtggbcgldnjmobaaDoorDelA
namespace Go.Proofs.YtggbcgldnjmobaaDoor
open Go Go.Ai
set_option linter.unusedSimpArgs false
set_option linter.unusedVariables false
set_option maxHeartbeats 4000000
def A_dbd : List Ann := [⟨(some ⟨[1,2,3,4], [4], [38]⟩), [], [], [], []⟩, ⟨(some ⟨[1,2,3,4,11], [4], [38]⟩), [], [], [], []⟩, ⟨(some ⟨[1,2,3,4,11,25], [4], [38]⟩), [], [], [], []⟩, ⟨(some ⟨[8,9,10], [], []⟩), [], [], [], []⟩, ⟨(some ⟨[1,2,3,4,27], [4], [38]⟩), [], [], [], []⟩, ⟨(some ⟨[8,9,10], [], []⟩), [], [], [], []⟩, ⟨(some ⟨[1,2,3,4,31], [4], [38]⟩), [], [], [], []⟩, ⟨(some ⟨[8,9,10], [], []⟩), [], [], [], []⟩, ⟨(some ⟨[1,2,3,4,12], [4], [38]⟩), [], [], [], [(38, ⟨[], [], [], [], []⟩)]⟩, ⟨(some ⟨[1,2,3,4,12,39,40,41], [4], [38]⟩), [], [], [], []⟩, ⟨(some ⟨[1,2,3,4,12,39,40,41,42], [4], [38]⟩), [], [], [], []⟩, ⟨(some ⟨[1,2,3,4,12,14,39,40,41], [4,14], [38]⟩), [], [], [], []⟩, ⟨(some ⟨[1,2,3,4,12,14,15,39,40,41], [4,14], [38]⟩), [], [], [], []⟩, ⟨(some ⟨[1,2,3,4,12,14,15,39,40,41,53], [4,14], [38]⟩), [], [], [], []⟩, ⟨(some ⟨[1,2,3,4,12,14,15,39,40,41], [4,14], [38]⟩), [], [], [], []⟩, ⟨(some ⟨[1,2,3,4,12,15,39,40,41,67], [4], [38]⟩), [], [], [], []⟩, ⟨(some ⟨[1,2,3,4,12,39,40,41], [4], [38]⟩), [], [], [], []⟩, ⟨(some ⟨[1,2,3,4,12,39,40,41], [4], [38]⟩), [], [], [], []⟩, ⟨(some ⟨[1,2,3,4,12], [4], [38]⟩), [], [], [], [(74, ⟨[], [38], [], [38], [38]⟩)]⟩, ⟨(some ⟨[1,2,3,4,76,77,78], [4], []⟩), [], [], [], [(76, ⟨[], [38], [], [38], []⟩)]⟩, ⟨(some ⟨[1,2,3,4,76,77,78,79], [4], []⟩), [], [], [], []⟩, ⟨(some ⟨[1,2,3,4,17,76,77,78], [4], []⟩), [], [], [], []⟩, ⟨(some ⟨[1,2,3,4,17,76,77,78], [4], []⟩), [], [], [], []⟩, ⟨(some ⟨[1,2,3,4,17,76,77,78,90], [4], []⟩), [], [], [], []⟩, ⟨(some ⟨[8,9,10], [], []⟩), [], [], [], []⟩, ⟨(some ⟨[1,2,3,4,76,77,78], [4], []⟩), [], [], [], []⟩, ⟨(some ⟨[8,9,10], [], []⟩), [], [], [], []⟩]
def C_dbd : AC := (.seq (.reg false [⟨(some 4), none, .box (.t 0)⟩, ⟨(some 8), none, .mv (.v (.int .i64 (0)))⟩, ⟨(some 9), none, .mv (.v (.bool false))⟩, ⟨(some 10), none, .mv (.v (.int .i64 (0)))⟩] (some ⟨[1,2,3,4], [4], [38]⟩))
  (.seq (.seq (.reg false [⟨(some 18), none, .load true 10 (.t 4)⟩, ⟨(some 19), none, .call (.f 28) [(.t 18)]⟩, ⟨(some 20), none, .mv (.t 1)⟩, ⟨(some 21), none, .call (.f 29) [(.t 20)]⟩, ⟨(some 22), none, .bslice 1 2 [(.t 19), (.t 21)]⟩, ⟨(some 23), none, .call (.f 27) [(.t 22)]⟩, ⟨(some 11), none, .mv (.t 23)⟩] (some ⟨[1,2,3,4,11], [4], [38]⟩))
  (.seq (.reg false [⟨(some 24), none, .mv (.t 11)⟩, ⟨(some 25), none, .bin .neq (.t 24) (.v (.int .i64 (0)))⟩] (some ⟨[1,2,3,4,11,25], [4], [38]⟩))
  (.cond (.t 25)
  (.seq (.reg false [⟨(some 26), none, .mv (.t 11)⟩, ⟨(some 8), none, .mv (.v (.int .i64 (0)))⟩, ⟨(some 9), none, .mv (.v (.bool false))⟩, ⟨(some 10), none, .mv (.t 26)⟩] (some ⟨[8,9,10], [], []⟩))
  .ret)
  .skip)))
  (.seq (.block 0 (.seq (.reg false [⟨(some 28), none, .fadr 2 (.t 4)⟩, ⟨(some 29), none, .load false 1 (.t 28)⟩, ⟨(some 30), none, .bin .eql (.t 29) (.v (.int .i64 (3)))⟩, ⟨(some 27), none, .mv (.t 30)⟩] (some ⟨[1,2,3,4,27], [4], [38]⟩))
  (.cond (.t 27)
  (.seq (.reg false [⟨(some 8), none, .mv (.v (.int .i64 (0)))⟩, ⟨(some 9), none, .mv (.v (.bool false))⟩, ⟨(some 10), none, .mv (.v (.int .i64 (4)))⟩] (some ⟨[8,9,10], [], []⟩))
  .ret)
  (.seq (.reg false [⟨(some 32), none, .mv (.t 2)⟩, ⟨(some 33), none, .call (.f 30) [(.t 32), (.v (.int .i64 (0))), (.v (.int .i64 (345686400000)))]⟩, ⟨(some 34), none, .mv (.t 33)⟩, ⟨(some 35), (some (34, false)), .mv (.t 3)⟩, ⟨(some 36), (some (34, false)), .call (.f 30) [(.t 35), (.v (.int .i64 (1))), (.v (.int .i64 (5000)))]⟩, ⟨(some 37), none, .pick (.t 34) (.v (.bool true)) (.t 36)⟩, ⟨(some 31), none, .mv (.t 37)⟩] (some ⟨[1,2,3,4,31], [4], [38]⟩))
  (.cond (.t 31)
  (.seq (.reg false [⟨(some 8), none, .mv (.v (.int .i64 (0)))⟩, ⟨(some 9), none, .mv (.v (.bool false))⟩, ⟨(some 10), none, .mv (.v (.int .i64 (1)))⟩] (some ⟨[8,9,10], [], []⟩))
  .ret)
  .skip)))))
  (.seq (.reg false [⟨(some 38), none, .bslr 3 1 1 [(.v (.int .i64 (0)))]⟩, ⟨(some 12), none, .mv (.t 38)⟩] (some ⟨[1,2,3,4,12], [4], [38]⟩))
  (.seq (.seq (.reg false [⟨(some 39), none, .mv (.t 1)⟩, ⟨(some 40), none, .len (.t 39)⟩, ⟨(some 41), none, .mv (.v (.int .i64 (0)))⟩] (some ⟨[1,2,3,4,12,39,40,41], [4], [38]⟩))
  (.block 1 (.loop (.seq (.reg false [⟨(some 42), none, .bin .lss (.t 41) (.t 40)⟩] (some ⟨[1,2,3,4,12,39,40,41,42], [4], [38]⟩))
  (.seq (.cond (.t 42)
  .skip
  (.exit 1))
  (.seq (.block 2 (.seq (.reg false [⟨(some 43), none, .iadr 3 (.t 39) (.t 41)⟩, ⟨(some 44), none, .load true 3 (.t 43)⟩, ⟨(some 14), none, .alloc [(.int .i64 (0)), (.int .i64 (0)), (.int .i64 (0))]⟩, ⟨none, none, .store 3 (.t 14) (.t 44)⟩] (some ⟨[1,2,3,4,12,14,39,40,41], [4,14], [38]⟩))
  (.seq (.reg false [⟨(some 45), none, .fadr 3 (.t 4)⟩, ⟨(some 46), none, .load false 1 (.t 45)⟩, ⟨(some 47), none, .fadr 1 (.t 14)⟩, ⟨(some 48), none, .load false 1 (.t 47)⟩, ⟨(some 49), none, .bin .sub (.t 46) (.t 48)⟩, ⟨(some 50), none, .bin .add (.t 49) (.v (.int .i64 (1)))⟩, ⟨(some 15), none, .mv (.t 50)⟩] (some ⟨[1,2,3,4,12,14,15,39,40,41], [4,14], [38]⟩))
  (.seq (.seq (.reg false [⟨(some 51), none, .fadr 2 (.t 4)⟩, ⟨(some 52), none, .load false 1 (.t 51)⟩, ⟨(some 53), none, .bin .eql (.t 52) (.v (.int .i64 (2)))⟩] (some ⟨[1,2,3,4,12,14,15,39,40,41,53], [4,14], [38]⟩))
  (.cond (.t 53)
  (.reg false [⟨(some 54), none, .fadr 1 (.t 14)⟩, ⟨(some 55), none, .load false 1 (.t 54)⟩, ⟨(some 56), none, .fadr 3 (.t 4)⟩, ⟨(some 57), none, .load false 1 (.t 56)⟩, ⟨(some 58), none, .bin .sub (.t 55) (.t 57)⟩, ⟨(some 59), none, .bin .add (.t 58) (.v (.int .i64 (1)))⟩, ⟨(some 15), none, .mv (.t 59)⟩] (some ⟨[1,2,3,4,12,14,15,39,40,41], [4,14], [38]⟩))
  .skip))
  (.seq (.reg false [⟨(some 60), none, .fadr 2 (.t 14)⟩, ⟨(some 61), none, .load false 1 (.t 60)⟩, ⟨(some 62), none, .bin .neq (.t 61) (.v (.int .i64 (2)))⟩, ⟨(some 63), none, .mv (.t 62)⟩, ⟨(some 64), (some (63, true)), .mv (.t 15)⟩, ⟨(some 65), (some (63, true)), .call (.f 30) [(.t 64), (.v (.int .i64 (1))), (.v (.int .i64 (2000000)))]⟩, ⟨(some 66), (some (63, true)), .un .not (.t 65)⟩, ⟨(some 67), none, .pick (.t 63) (.t 66) (.v (.bool false))⟩] (some ⟨[1,2,3,4,12,15,39,40,41,67], [4], [38]⟩))
  (.cond (.t 67)
  (.reg false [⟨(some 68), none, .mv (.t 12)⟩, ⟨(some 69), none, .mv (.t 15)⟩, ⟨(some 70), none, .bslice 1 1 [(.t 69)]⟩, ⟨(some 71), none, .append 3 1 8 (.t 68) (.t 70)⟩, ⟨(some 12), none, .mv (.t 71)⟩] (some ⟨[1,2,3,4,12,39,40,41], [4], [38]⟩))
  .skip))))))
  (.reg false [⟨(some 72), none, .bin .add (.t 41) (.v (.int .i64 (1)))⟩, ⟨(some 41), none, .mv (.t 72)⟩] (some ⟨[1,2,3,4,12,39,40,41], [4], [38]⟩))))))))
  (.seq (.reg false [⟨(some 73), none, .mv (.t 12)⟩, ⟨(some 74), none, .callm (.f 31) [(.t 73)] ⟨[], [38], [], [38], [38]⟩⟩] (some ⟨[1,2,3,4,12], [4], [38]⟩))
  (.seq (.seq (.reg false [⟨(some 75), none, .mv (.t 12)⟩, ⟨(some 76), none, .callm (.f 32) [(.t 75)] ⟨[], [38], [], [38], []⟩⟩, ⟨(some 77), none, .len (.t 76)⟩, ⟨(some 78), none, .mv (.v (.int .i64 (0)))⟩] (some ⟨[1,2,3,4,76,77,78], [4], []⟩))
  (.block 3 (.loop (.seq (.reg false [⟨(some 79), none, .bin .lss (.t 78) (.t 77)⟩] (some ⟨[1,2,3,4,76,77,78,79], [4], []⟩))
  (.seq (.cond (.t 79)
  .skip
  (.exit 3))
  (.seq (.block 4 (.seq (.reg false [⟨(some 80), none, .iadr 1 (.t 76) (.t 78)⟩, ⟨(some 81), none, .load false 1 (.t 80)⟩, ⟨(some 17), none, .mv (.t 81)⟩] (some ⟨[1,2,3,4,17,76,77,78], [4], []⟩))
  (.seq (.reg false [⟨(some 82), none, .mv (.t 17)⟩, ⟨(some 83), none, .fadr 4 (.t 4)⟩, ⟨none, none, .store 1 (.t 83) (.t 82)⟩] (some ⟨[1,2,3,4,17,76,77,78], [4], []⟩))
  (.seq (.reg false [⟨(some 84), none, .load true 10 (.t 4)⟩, ⟨(some 85), none, .mv (.t 1)⟩, ⟨(some 86), none, .mv (.t 2)⟩, ⟨(some 87), none, .call (.f 26) [(.t 84), (.t 85), (.t 86)]⟩, ⟨(some 88), none, .len (.t 87)⟩, ⟨(some 89), none, .mv (.t 3)⟩, ⟨(some 90), none, .bin .leq (.t 88) (.t 89)⟩] (some ⟨[1,2,3,4,17,76,77,78,90], [4], []⟩))
  (.cond (.t 90)
  (.seq (.reg false [⟨(some 91), none, .mv (.t 17)⟩, ⟨(some 8), none, .mv (.t 91)⟩, ⟨(some 9), none, .mv (.v (.bool true))⟩, ⟨(some 10), none, .mv (.v (.int .i64 (0)))⟩] (some ⟨[8,9,10], [], []⟩))
  .ret)
  .skip)))))
  (.reg false [⟨(some 92), none, .bin .add (.t 78) (.v (.int .i64 (1)))⟩, ⟨(some 78), none, .mv (.t 92)⟩] (some ⟨[1,2,3,4,76,77,78], [4], []⟩))))))))
  (.seq (.reg false [⟨(some 8), none, .mv (.v (.int .i64 (0)))⟩, ⟨(some 9), none, .mv (.v (.bool false))⟩, ⟨(some 10), none, .mv (.v (.int .i64 (0)))⟩] (some ⟨[8,9,10], [], []⟩))
  .ret))))))))
theorem c_dbd : compileCode Tryd.prog Tryd.f14.ntmps (Tryd.f14.body.getD .skip) A_dbd = some (C_dbd, []) := by kernel_rfl
theorem r_dbd : compileRes Tryd.prog Tryd.f14.results.toList = some [.t 8, .t 9, .t 10] := by kernel_rfl
theorem b_dbd : Tryd.f14.body = some (Tryd.f14.body.getD .skip) := by kernel_rfl
theorem n_dbd : (Tryd.f14.name == "runtime.NumGoroutine") = false := by kernel_rfl
theorem fc_dbd {xt : Option (List Cel)} {args : List Val} {R : List Cel → Val → Prop} (hn : (if xt.isSome then 1 else 0) + args.length ≤ Tryd.f14.ntmps) (h : ex Tryd.prog C_dbd [] (fpost xt [.t 8, .t 9, .t 10] R) (initSt xt args)) : FC Tryd.prog 14 xt args R :=
  fc_of_awp Tryd.func14 b_dbd n_dbd c_dbd r_dbd (of_decide_eq_true (by kernel_rfl)) hn h
theorem fcm_dbd {H : Hp} {K : Keep} {args : List Val} {R : Hp → Val → Prop} (hn : args.length ≤ Tryd.f14.ntmps) (hkb : ∀ p ∈ H.bs, p.1 = 0 ∨ XK ≤ p.1) (hkr : ∀ p ∈ H.rs, XK ≤ p.1) (h : ex Tryd.prog C_dbd [] (mpost H K [.t 8, .t 9, .t 10] R) (initM H args)) : FCM Tryd.prog 14 H args R :=
  fcm_of_awp Tryd.func14 b_dbd n_dbd c_dbd r_dbd (of_decide_eq_true (by kernel_rfl)) hn hkb hkr h
theorem fcms_dbd {S : List Nat} {H : Hp} {K : Keep} {args : List Val} {R : Hp → Val → Prop} (hn : args.length ≤ Tryd.f14.ntmps) (hkb : ∀ p ∈ H.bs, p.1 = 0 ∨ XK ≤ p.1) (hkr : ∀ p ∈ H.rs, XK ≤ p.1) (h : ex Tryd.prog C_dbd [] (mpostS S H K [.t 8, .t 9, .t 10] R) (initM H args))   : FCMS Tryd.prog 14 S H args R :=
  fcms_of_awp Tryd.func14 b_dbd n_dbd c_dbd r_dbd (of_decide_eq_true (by kernel_rfl)) hn hkb hkr h


theorem zlt2 : ((0 : Nat) < 1) = True := by simp
attribute [go_sem] zlt2
theorem act_len {kd lim db on off un : Int} (l : List Smp) : (actW kd lim db on off un l).length ≤ l.length := by
  have h : ∀ (l : List Smp) (x : ActX), (actGo kd lim db on off un l x).out.length ≤ x.out.length + l.length := by
    have h1 : ∀ (nx a : Int) (X Y : Bool) (x : ActX), (actOn on off un nx a X Y x).out.length ≤ x.out.length + 1 := by
      intro nx a X Y x
      unfold actOn; simp only []
      (repeat' split) <;> (try simp only [setTo_len, List.length_append, List.length_singleton]) <;> omega
    intro l
    induction l with
    | nil => intro x; simp [actGo]
    | cons s r ih =>
      intro x
      cases r with
      | nil => rw [actGo]; exact h1 _ _ _ _ _
      | cons s' r =>
        rw [actGo]
        have := ih (actOn on off un s'.a s.a (hldSp kd lim db s).1 (hldSp kd lim db s).2 x)
        have h2 := h1 s'.a s.a (hldSp kd lim db s).1 (hldSp kd lim db s).2 x
        rw [List.length_cons]; omega
  have := h l ⟨[], false, 0, 0, false, false⟩
  simpa [actW] using this
def db1St (kb tb pb : ByteArray) (lt : Bool) (kd lim db on off pr un many : Int) (l : List Smp) (i : Int) (T : List Int) : AS := ⟨tabV [(1, smps false l), (2, iv un), (3, iv many), (4, .one (.bx 4 0)), (12, .one (.ow 38 0)), (39, smps false l), (40, iv l.length), (41, iv i)], tabO [(4, almC kb tb pb lt kd lim db on off pr)], tabO [(38, nRow T)]⟩
def db2St (kb tb pb : ByteArray) (lt : Bool) (kd lim on off pr un many : Int) (l : List Smp) (C : List Int) (j db : Int) : AS := ⟨tabV [(1, smps false l), (2, iv un), (3, iv many), (4, .one (.bx 4 0)), (76, ints true C), (77, iv C.length), (78, iv j)], tabO [(4, almC kb tb pb lt kd lim db on off pr)], tabO []⟩
/-- What is tried, in order and once each. -/
def dbC (kd lim : Int) (l : List Smp) : List Int := Lib.compact (srtI (trN kd lim l l.length))
/-- The fault of the question for a deadband. -/
def dfF (kk : Bool) (kd lim db on off pr : Int) (l : List Smp) (un many : Int) : Int := if orSp [almG kk kd lim db on off pr, serFault l] ≠ 0 then orSp [almG kk kd lim db on off pr, serFault l] else if kd = 3 then 4 else if (un < 0 ∨ un > 345686400000) ∨ (many < 1 ∨ many > 5000) then 1 else 0
theorem dfF_ok {kk : Bool} {kd lim db on off pr : Int} {l : List Smp} {un many : Int} (h : dfF kk kd lim db on off pr l un many = 0) : almG kk kd lim db on off pr = 0 ∧ serFault l = 0 ∧ kd ≠ 3 ∧ (0 ≤ un ∧ un ≤ 345686400000) ∧ (1 ≤ many ∧ many ≤ 5000) := by
  unfold dfF at h
  split at h
  · omega
  · rename_i h2
    obtain ⟨h3, h4⟩ := or2_z' (show orSp [almG kk kd lim db on off pr, serFault l] = 0 by omega)
    split at h
    · omega
    · split at h
      · omega
      · exact ⟨h3, h4, by omega, by omega, by omega⟩
def dbdR (kk : Bool) (kd lim db on off pr : Int) (l : List Smp) (un many : Int) : Val := if dfF kk kd lim db on off pr l un many ≠ 0 then .tu [iv 0, bv false, iv (dfF kk kd lim db on off pr l un many)] else .tu [iv (dbR (dbF kd lim on off un many l (dbC kd lim l))).1, bv (dbR (dbF kd lim on off un many l (dbC kd lim l))).2, iv 0]
set_option maxHeartbeats 12000000 in
set_option maxRecDepth 8000 in
theorem dbd_fc (kb tb pb : ByteArray) (lt : Bool) (hkb : kb.size ≤ 9223372036854775807) (htb : tb.size ≤ 9223372036854775807) (kd lim db on off pr un many : Int) (l : List Smp) (hls : l.length ≤ 4611686018427387904) :
    FC Tryd.prog 14 none [almK kb tb pb lt kd lim db on off pr, smps false l, iv un, iv many] (fun _ r => r = dbdR (keyOk kb && keyOk tb) kd lim db on off pr l un many) := by
  refine fc_dbd (by simp +arith) ?_
  have hcd := alarmFault_fc kb tb pb lt hkb htb kd lim db on off pr
  generalize (keyOk kb && keyOk tb) = kk at *
  have hcs := checkSeries_fc l hls
  have hf := first_fc false [almG kk kd lim db on off pr, serFault l] (by simp)
  have ho1 := out_fc un 0 345686400000
  have ho2 := out_fc many 1 5000
  unfold C_dbd
  by_cases h0 : orSp [almG kk kd lim db on off pr, serFault l] ≠ 0
  · have er : dbdR kk kd lim db on off pr l un many = .tu [iv 0, bv false, iv (orSp [almG kk kd lim db on off pr, serFault l])] := by
      have : dfF kk kd lim db on off pr l un many = orSp [almG kk kd lim db on off pr, serFault l] := by unfold dfF; rw [if_pos h0]
      unfold dbdR; rw [this, if_pos h0]
    rw [er]
    generalize orSp [almG kk kd lim db on off pr, serFault l] = e at *
    simp (maxSteps := 1000000) (disch := omega) only [go_sem, eq_self, decide_true, decide_false, not_true_eq_false, not_false_eq_true, reduceIte, reduceCtorEq, Nat.reduceEqDiff, Nat.reduceAdd, Nat.reduceSub, Nat.reduceLeDiff]
    refine CALL_det hcd (.inl rfl) ?_
    simp (maxSteps := 1000000) (disch := omega) only [go_sem, eq_self, decide_true, decide_false, not_true_eq_false, not_false_eq_true, reduceIte, reduceCtorEq, Nat.reduceEqDiff, Nat.reduceAdd, Nat.reduceSub, Nat.reduceLeDiff]
    refine CALL_det hcs (.inl rfl) ?_
    simp (maxSteps := 1000000) (disch := omega) only [go_sem, eq_self, decide_true, decide_false, not_true_eq_false, not_false_eq_true, reduceIte, reduceCtorEq, Nat.reduceEqDiff, Nat.reduceAdd, Nat.reduceSub, Nat.reduceLeDiff]
    refine CALL_det hf (.inl rfl) ?_
    simp (maxSteps := 1000000) (disch := omega) only [go_sem, eq_self, decide_true, decide_false, not_true_eq_false, not_false_eq_true, reduceIte, reduceCtorEq, Nat.reduceEqDiff, Nat.reduceAdd, Nat.reduceSub, Nat.reduceLeDiff]
  have h0 : orSp [almG kk kd lim db on off pr, serFault l] = 0 := Decidable.not_not.1 h0
  obtain ⟨eg, hs⟩ := or2_z' h0
  obtain ⟨hkk, ha⟩ := almG_ok eg
  subst hkk
  have hg := good_of hs
  have hlen := hg.len
  obtain ⟨a1, a2, a3, a4, a5, a6⟩ := almF_ok ha
  by_cases hk3 : kd = 3
  · have er : dbdR true kd lim db on off pr l un many = .tu [iv 0, bv false, iv 4] := by
      have : dfF true kd lim db on off pr l un many = 4 := by unfold dfF; rw [if_neg (by omega), if_pos hk3]
      unfold dbdR; rw [this, if_pos (by omega)]
    rw [er]
    rw [h0] at hf
    simp (maxSteps := 1000000) (disch := omega) only [go_sem, eq_self, decide_true, decide_false, not_true_eq_false, not_false_eq_true, reduceIte, reduceCtorEq, Nat.reduceEqDiff, Nat.reduceAdd, Nat.reduceSub, Nat.reduceLeDiff]
    refine CALL_det hcd (.inl rfl) ?_
    simp (maxSteps := 1000000) (disch := omega) only [go_sem, eq_self, decide_true, decide_false, not_true_eq_false, not_false_eq_true, reduceIte, reduceCtorEq, Nat.reduceEqDiff, Nat.reduceAdd, Nat.reduceSub, Nat.reduceLeDiff]
    refine CALL_det hcs (.inl rfl) ?_
    simp (maxSteps := 1000000) (disch := omega) only [go_sem, eq_self, decide_true, decide_false, not_true_eq_false, not_false_eq_true, reduceIte, reduceCtorEq, Nat.reduceEqDiff, Nat.reduceAdd, Nat.reduceSub, Nat.reduceLeDiff]
    refine CALL_det hf (.inl rfl) ?_
    simp (maxSteps := 1000000) (disch := omega) only [go_sem, eq_self, decide_true, decide_false, not_true_eq_false, not_false_eq_true, reduceIte, reduceCtorEq, Nat.reduceEqDiff, Nat.reduceAdd, Nat.reduceSub, Nat.reduceLeDiff]
  have hk : kd = 1 ∨ kd = 2 := by omega
  by_cases hun : un < 0 ∨ un > 345686400000
  · have er : dbdR true kd lim db on off pr l un many = .tu [iv 0, bv false, iv 1] := by
      have : dfF true kd lim db on off pr l un many = 1 := by unfold dfF; rw [if_neg (by omega), if_neg hk3, if_pos (.inl hun)]
      unfold dbdR; rw [this, if_pos (by omega)]
    rw [er]
    rw [h0] at hf
    rw [decide_eq_true hun] at ho1
    simp (maxSteps := 1000000) (disch := omega) only [go_sem, eq_self, decide_true, decide_false, not_true_eq_false, not_false_eq_true, reduceIte, reduceCtorEq, Nat.reduceEqDiff, Nat.reduceAdd, Nat.reduceSub, Nat.reduceLeDiff]
    refine CALL_det hcd (.inl rfl) ?_
    simp (maxSteps := 1000000) (disch := omega) only [go_sem, eq_self, decide_true, decide_false, not_true_eq_false, not_false_eq_true, reduceIte, reduceCtorEq, Nat.reduceEqDiff, Nat.reduceAdd, Nat.reduceSub, Nat.reduceLeDiff]
    refine CALL_det hcs (.inl rfl) ?_
    simp (maxSteps := 1000000) (disch := omega) only [go_sem, eq_self, decide_true, decide_false, not_true_eq_false, not_false_eq_true, reduceIte, reduceCtorEq, Nat.reduceEqDiff, Nat.reduceAdd, Nat.reduceSub, Nat.reduceLeDiff]
    refine CALL_det hf (.inl rfl) ?_
    simp (maxSteps := 1000000) (disch := omega) only [go_sem, eq_self, decide_true, decide_false, not_true_eq_false, not_false_eq_true, reduceIte, reduceCtorEq, Nat.reduceEqDiff, Nat.reduceAdd, Nat.reduceSub, Nat.reduceLeDiff]
    refine CALL_det ho1 (.inl rfl) ?_
    simp (maxSteps := 1000000) (disch := omega) only [go_sem, eq_self, decide_true, decide_false, not_true_eq_false, not_false_eq_true, reduceIte, reduceCtorEq, Nat.reduceEqDiff, Nat.reduceAdd, Nat.reduceSub, Nat.reduceLeDiff]
  rw [decide_eq_false hun] at ho1
  by_cases hmy : many < 1 ∨ many > 5000
  · have er : dbdR true kd lim db on off pr l un many = .tu [iv 0, bv false, iv 1] := by
      have : dfF true kd lim db on off pr l un many = 1 := by unfold dfF; rw [if_neg (by omega), if_neg hk3, if_pos (.inr hmy)]
      unfold dbdR; rw [this, if_pos (by omega)]
    rw [er]
    rw [h0] at hf
    rw [decide_eq_true hmy] at ho2
    simp (maxSteps := 1000000) (disch := omega) only [go_sem, eq_self, decide_true, decide_false, not_true_eq_false, not_false_eq_true, reduceIte, reduceCtorEq, Nat.reduceEqDiff, Nat.reduceAdd, Nat.reduceSub, Nat.reduceLeDiff]
    refine CALL_det hcd (.inl rfl) ?_
    simp (maxSteps := 1000000) (disch := omega) only [go_sem, eq_self, decide_true, decide_false, not_true_eq_false, not_false_eq_true, reduceIte, reduceCtorEq, Nat.reduceEqDiff, Nat.reduceAdd, Nat.reduceSub, Nat.reduceLeDiff]
    refine CALL_det hcs (.inl rfl) ?_
    simp (maxSteps := 1000000) (disch := omega) only [go_sem, eq_self, decide_true, decide_false, not_true_eq_false, not_false_eq_true, reduceIte, reduceCtorEq, Nat.reduceEqDiff, Nat.reduceAdd, Nat.reduceSub, Nat.reduceLeDiff]
    refine CALL_det hf (.inl rfl) ?_
    simp (maxSteps := 1000000) (disch := omega) only [go_sem, eq_self, decide_true, decide_false, not_true_eq_false, not_false_eq_true, reduceIte, reduceCtorEq, Nat.reduceEqDiff, Nat.reduceAdd, Nat.reduceSub, Nat.reduceLeDiff]
    refine CALL_det ho1 (.inl rfl) ?_
    simp (maxSteps := 1000000) (disch := omega) only [go_sem, eq_self, decide_true, decide_false, not_true_eq_false, not_false_eq_true, reduceIte, reduceCtorEq, Nat.reduceEqDiff, Nat.reduceAdd, Nat.reduceSub, Nat.reduceLeDiff]
    refine CALL_det ho2 (.inl rfl) ?_
    simp (maxSteps := 1000000) (disch := omega) only [go_sem, eq_self, decide_true, decide_false, not_true_eq_false, not_false_eq_true, reduceIte, reduceCtorEq, Nat.reduceEqDiff, Nat.reduceAdd, Nat.reduceSub, Nat.reduceLeDiff]
  rw [decide_eq_false hmy] at ho2
  have er : dbdR true kd lim db on off pr l un many = .tu [iv (dbR (dbF kd lim on off un many l (dbC kd lim l))).1, bv (dbR (dbF kd lim on off un many l (dbC kd lim l))).2, iv 0] := by
    have : dfF true kd lim db on off pr l un many = 0 := by unfold dfF; rw [if_neg (by omega), if_neg hk3, if_neg (by omega)]
    unfold dbdR; rw [this, if_neg (by omega)]
  rw [er]
  rw [h0] at hf
  have hun : 0 ≤ un ∧ un ≤ 345686400000 := by omega
  have hmy : 1 ≤ many ∧ many ≤ 5000 := by omega
  simp (maxSteps := 1000000) (disch := omega) only [go_sem, eq_self, decide_true, decide_false, not_true_eq_false, not_false_eq_true, reduceIte, reduceCtorEq, Nat.reduceEqDiff, Nat.reduceAdd, Nat.reduceSub, Nat.reduceLeDiff]
  refine CALL_det hcd (.inl rfl) ?_
  simp (maxSteps := 1000000) (disch := omega) only [go_sem, eq_self, decide_true, decide_false, not_true_eq_false, not_false_eq_true, reduceIte, reduceCtorEq, Nat.reduceEqDiff, Nat.reduceAdd, Nat.reduceSub, Nat.reduceLeDiff]
  refine CALL_det hcs (.inl rfl) ?_
  simp (maxSteps := 1000000) (disch := omega) only [go_sem, eq_self, decide_true, decide_false, not_true_eq_false, not_false_eq_true, reduceIte, reduceCtorEq, Nat.reduceEqDiff, Nat.reduceAdd, Nat.reduceSub, Nat.reduceLeDiff]
  refine CALL_det hf (.inl rfl) ?_
  simp (maxSteps := 1000000) (disch := omega) only [go_sem, eq_self, decide_true, decide_false, not_true_eq_false, not_false_eq_true, reduceIte, reduceCtorEq, Nat.reduceEqDiff, Nat.reduceAdd, Nat.reduceSub, Nat.reduceLeDiff]
  refine CALL_det ho1 (.inl rfl) ?_
  simp (maxSteps := 1000000) (disch := omega) only [go_sem, eq_self, decide_true, decide_false, not_true_eq_false, not_false_eq_true, reduceIte, reduceCtorEq, Nat.reduceEqDiff, Nat.reduceAdd, Nat.reduceSub, Nat.reduceLeDiff]
  refine CALL_det ho2 (.inl rfl) ?_
  simp (maxSteps := 1000000) (disch := omega) only [go_sem, eq_self, decide_true, decide_false, not_true_eq_false, not_false_eq_true, reduceIte, reduceCtorEq, Nat.reduceEqDiff, Nat.reduceAdd, Nat.reduceSub, Nat.reduceLeDiff]
  refine ex_loop1 (fun i => db1St kb tb pb lt kd lim db on off pr un many l i (trN kd lim l i.toNat)) (fun i => 0 ≤ i ∧ i ≤ l.length) (fun i => (l.length - i).toNat) 0 ⟨by omega, by omega⟩ rfl ?_
  rintro i ⟨g1, g2⟩
  obtain ⟨tl1, tl2⟩ := trN_len kd lim l i.toNat
  unfold db1St almC
  by_cases hi : i < l.length
  · have e2 : (i + 1).toNat = i.toNat + 1 := by omega
    have em := getD_map_at smpC l i [] g1 hi
    have ho := hg.ok i.toNat (by omega)
    unfold okSmp at ho
    have e3 : trN kd lim l (i + 1).toNat = trN kd lim l i.toNat ++ (if okD kd lim (l.getD i.toNat default) = true then [dOf kd lim (l.getD i.toNat default)] else []) := by rw [e2, trN]
    have hou := out_fc (dOf kd lim (l.getD i.toNat default)) 1 2000000
    have hod : okD kd lim (l.getD i.toNat default) = decide ((l.getD i.toNat default).q ≠ 2 ∧ 1 ≤ dOf kd lim (l.getD i.toNat default) ∧ dOf kd lim (l.getD i.toNat default) ≤ 2000000) := rfl
    have fin : ∀ D : Int, dOf kd lim (l.getD i.toNat default) = D → True := fun _ _ => trivial
    rcases hk with rfl | rfl
    · have hD : dOf 1 lim (l.getD i.toNat default) = lim - (l.getD i.toNat default).v + 1 := by unfold dOf; rw [if_neg (by omega)]
      rw [hD] at hou hod e3
      by_cases c1 : (l.getD i.toNat default).q = 2
      · rw [hod, decide_eq_false (fun h => h.1 c1), if_neg (by simp), List.append_nil] at e3
        simp (maxSteps := 1000000) (disch := omega) only [go_sem, eq_self, decide_true, decide_false, not_true_eq_false, not_false_eq_true, reduceIte, reduceCtorEq, Nat.reduceEqDiff, Nat.reduceAdd, Nat.reduceSub, Nat.reduceLeDiff]
        exact ⟨i + 1, by simp only [e3], ⟨by omega, by omega⟩, by omega⟩
      · by_cases c2 : lim - (l.getD i.toNat default).v + 1 < 1 ∨ lim - (l.getD i.toNat default).v + 1 > 2000000
        · rw [hod, decide_eq_false (by omega), if_neg (by simp), List.append_nil] at e3
          rw [decide_eq_true c2] at hou
          simp (maxSteps := 1000000) (disch := omega) only [go_sem, eq_self, decide_true, decide_false, not_true_eq_false, not_false_eq_true, reduceIte, reduceCtorEq, Nat.reduceEqDiff, Nat.reduceAdd, Nat.reduceSub, Nat.reduceLeDiff]
          refine CALL_det hou (.inl rfl) ?_
          simp (maxSteps := 1000000) (disch := omega) only [go_sem, eq_self, decide_true, decide_false, not_true_eq_false, not_false_eq_true, reduceIte, reduceCtorEq, Nat.reduceEqDiff, Nat.reduceAdd, Nat.reduceSub, Nat.reduceLeDiff]
          exact ⟨i + 1, by simp only [e3], ⟨by omega, by omega⟩, by omega⟩
        · rw [hod, decide_eq_true (by omega), if_pos rfl] at e3
          rw [decide_eq_false c2] at hou
          simp (maxSteps := 1000000) (disch := omega) only [go_sem, eq_self, decide_true, decide_false, not_true_eq_false, not_false_eq_true, reduceIte, reduceCtorEq, Nat.reduceEqDiff, Nat.reduceAdd, Nat.reduceSub, Nat.reduceLeDiff]
          refine CALL_det hou (.inl rfl) ?_
          simp (maxSteps := 1000000) (disch := omega) only [go_sem, eq_self, decide_true, decide_false, not_true_eq_false, not_false_eq_true, reduceIte, reduceCtorEq, Nat.reduceEqDiff, Nat.reduceAdd, Nat.reduceSub, Nat.reduceLeDiff]
          exact ⟨i + 1, by simp only [e3, nRow, List.map_append, List.map_cons, List.map_nil, intC_eq], ⟨by omega, by omega⟩, by omega⟩
    · have hD : dOf 2 lim (l.getD i.toNat default) = (l.getD i.toNat default).v - lim + 1 := by unfold dOf; rw [if_pos rfl]
      rw [hD] at hou hod e3
      by_cases c1 : (l.getD i.toNat default).q = 2
      · rw [hod, decide_eq_false (fun h => h.1 c1), if_neg (by simp), List.append_nil] at e3
        simp (maxSteps := 1000000) (disch := omega) only [go_sem, eq_self, decide_true, decide_false, not_true_eq_false, not_false_eq_true, reduceIte, reduceCtorEq, Nat.reduceEqDiff, Nat.reduceAdd, Nat.reduceSub, Nat.reduceLeDiff]
        exact ⟨i + 1, by simp only [e3], ⟨by omega, by omega⟩, by omega⟩
      · by_cases c2 : (l.getD i.toNat default).v - lim + 1 < 1 ∨ (l.getD i.toNat default).v - lim + 1 > 2000000
        · rw [hod, decide_eq_false (by omega), if_neg (by simp), List.append_nil] at e3
          rw [decide_eq_true c2] at hou
          simp (maxSteps := 1000000) (disch := omega) only [go_sem, eq_self, decide_true, decide_false, not_true_eq_false, not_false_eq_true, reduceIte, reduceCtorEq, Nat.reduceEqDiff, Nat.reduceAdd, Nat.reduceSub, Nat.reduceLeDiff]
          refine CALL_det hou (.inl rfl) ?_
          simp (maxSteps := 1000000) (disch := omega) only [go_sem, eq_self, decide_true, decide_false, not_true_eq_false, not_false_eq_true, reduceIte, reduceCtorEq, Nat.reduceEqDiff, Nat.reduceAdd, Nat.reduceSub, Nat.reduceLeDiff]
          exact ⟨i + 1, by simp only [e3], ⟨by omega, by omega⟩, by omega⟩
        · rw [hod, decide_eq_true (by omega), if_pos rfl] at e3
          rw [decide_eq_false c2] at hou
          simp (maxSteps := 1000000) (disch := omega) only [go_sem, eq_self, decide_true, decide_false, not_true_eq_false, not_false_eq_true, reduceIte, reduceCtorEq, Nat.reduceEqDiff, Nat.reduceAdd, Nat.reduceSub, Nat.reduceLeDiff]
          refine CALL_det hou (.inl rfl) ?_
          simp (maxSteps := 1000000) (disch := omega) only [go_sem, eq_self, decide_true, decide_false, not_true_eq_false, not_false_eq_true, reduceIte, reduceCtorEq, Nat.reduceEqDiff, Nat.reduceAdd, Nat.reduceSub, Nat.reduceLeDiff]
          exact ⟨i + 1, by simp only [e3, nRow, List.map_append, List.map_cons, List.map_nil, intC_eq], ⟨by omega, by omega⟩, by omega⟩
  · have hil : i.toNat = l.length := by omega
    rw [hil] at tl1 tl2 ⊢
    have hso := sortI_fcms (trN kd lim l l.length) tl2 (by omega)
    have hsl : (srtI (trN kd lim l l.length)).length = (trN kd lim l l.length).length := List.length_mergeSort _
    have hsn : srtI (trN kd lim l l.length) ≠ [] := fun e => by
      rw [e] at hsl
      exact tl2 (List.eq_nil_of_length_eq_zero hsl.symm)
    have hco := compactI_fcm (srtI (trN kd lim l l.length)) hsn (by omega)
    have hCr : ∀ d ∈ dbC kd lim l, 0 ≤ d ∧ d ≤ 2000000 := fun d hd => by
      unfold dbC at hd
      rw [cpt_mem] at hd
      exact trN_rng kd lim l l.length d (List.mem_mergeSort.1 hd)
    have hCl : (dbC kd lim l).length ≤ 5001 := by
      have := Lib.compact_length_le (srtI (trN kd lim l l.length))
      unfold dbC; omega
    have hCd : Lib.compact (srtI (trN kd lim l l.length)) = dbC kd lim l := rfl
    rw [hCd] at hco
    generalize dbC kd lim l = C at *
    simp (maxSteps := 1000000) (disch := omega) only [go_sem, eq_self, decide_true, decide_false, not_true_eq_false, not_false_eq_true, reduceIte, reduceCtorEq, Nat.reduceEqDiff, Nat.reduceAdd, Nat.reduceSub, Nat.reduceLeDiff]
    refine ⟨rfl, CALLM_rnES ⟨[], [(38, nRow (srtI (trN kd lim l l.length)))]⟩ (.tu []) (fun k => k) (swp 38 1000000) (fun _ => rfl) (swp_swp 38 1000000) hso (by simp) rfl rfl rfl rfl rfl ⟨rfl, rfl⟩ ?_⟩
    simp (maxSteps := 1000000) (disch := omega) only [go_sem, eq_self, decide_true, decide_false, not_true_eq_false, not_false_eq_true, reduceIte, reduceCtorEq, Nat.reduceEqDiff, Nat.reduceAdd, Nat.reduceSub, Nat.reduceLeDiff]
    refine ⟨rfl, CALLM_rnE ⟨[], [(38, nRow C)]⟩ (.one (.ow 38 0)) (fun k => k) (swp 38 1000000) (fun _ => rfl) (swp_swp 38 1000000) hco (by simp) rfl rfl rfl rfl ⟨rfl, rfl⟩ ?_⟩
    simp (maxSteps := 1000000) (disch := omega) only [go_sem, eq_self, decide_true, decide_false, not_true_eq_false, not_false_eq_true, reduceIte, reduceCtorEq, Nat.reduceEqDiff, Nat.reduceAdd, Nat.reduceSub, Nat.reduceLeDiff]
    refine ex_loop2 (db2St kb tb pb lt kd lim on off pr un many l C) (fun j d => 0 ≤ j ∧ j ≤ C.length ∧ dbF kd lim on off un many l (C.drop j.toNat) = dbF kd lim on off un many l C) (fun j _ => (C.length - j).toNat) 0 db ⟨by omega, by omega, rfl⟩ rfl ?_
    rintro j d ⟨h1, h2, h3⟩
    unfold db2St almC
    by_cases hj : j < C.length
    · have e2 : (j + 1).toNat = j.toNat + 1 := by omega
      have em := getD_map_at intC C j [] h1 hj
      have hcr := hCr _ (getD_mem C j.toNat (by omega))
      have hac := active_fc kb tb pb lt kd lim (C.getD j.toNat default) on off pr un l hg a2 hcr a4 a5
      have hal := act_len (kd := kd) (lim := lim) (db := C.getD j.toNat default) (on := on) (off := off) (un := un) l
      rw [drop_cons C j.toNat (by omega), ← e2] at h3
      unfold dbF at h3
      rw [List.find?_cons] at h3
      by_cases c : ((actW kd lim (C.getD j.toNat default) on off un l).length : Int) ≤ many
      · rw [decide_eq_true c] at h3
        simp only at h3
        unfold dbF
        rw [← h3]
        unfold dbR
        generalize actW kd lim (C.getD j.toNat default) on off un l = A at *
        simp (maxSteps := 1000000) (disch := omega) only [go_sem, eq_self, decide_true, decide_false, not_true_eq_false, not_false_eq_true, reduceIte, reduceCtorEq, Nat.reduceEqDiff, Nat.reduceAdd, Nat.reduceSub, Nat.reduceLeDiff]
        refine CALL_det hac (.inl rfl) ?_
        simp (maxSteps := 1000000) (disch := omega) only [go_sem, eq_self, decide_true, decide_false, not_true_eq_false, not_false_eq_true, reduceIte, reduceCtorEq, Nat.reduceEqDiff, Nat.reduceAdd, Nat.reduceSub, Nat.reduceLeDiff]
      · rw [decide_eq_false c] at h3
        simp only at h3
        generalize actW kd lim (C.getD j.toNat default) on off un l = A at *
        simp (maxSteps := 1000000) (disch := omega) only [go_sem, eq_self, decide_true, decide_false, not_true_eq_false, not_false_eq_true, reduceIte, reduceCtorEq, Nat.reduceEqDiff, Nat.reduceAdd, Nat.reduceSub, Nat.reduceLeDiff]
        refine CALL_det hac (.inl rfl) ?_
        simp (maxSteps := 1000000) (disch := omega) only [go_sem, eq_self, decide_true, decide_false, not_true_eq_false, not_false_eq_true, reduceIte, reduceCtorEq, Nat.reduceEqDiff, Nat.reduceAdd, Nat.reduceSub, Nat.reduceLeDiff]
        exact ⟨j + 1, C.getD j.toNat default, rfl, ⟨by omega, by omega, h3⟩, by omega⟩
    · rw [List.drop_eq_nil_of_le (by omega)] at h3
      rw [← h3]
      unfold dbF dbR
      simp (maxSteps := 1000000) (disch := omega) only [go_sem, eq_self, decide_true, decide_false, not_true_eq_false, not_false_eq_true, reduceIte, reduceCtorEq, Nat.reduceEqDiff, Nat.reduceAdd, Nat.reduceSub, Nat.reduceLeDiff]
      rfl
end Go.Proofs.YtggbcgldnjmobaaDoor

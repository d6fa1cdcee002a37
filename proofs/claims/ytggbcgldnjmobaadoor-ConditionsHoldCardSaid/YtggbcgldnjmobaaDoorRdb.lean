
/-
  The reference's least deadband: the walk.
-/
import Derived.Test.YtggbcgldnjmobaaDoorCnd
import Derived.Test.YtggbcgldnjmobaaDoorDbd
import Derived.Test.YtggbcgldnjmobaaDoorRal
namespace Go.Proofs.YtggbcgldnjmobaaDoor
open Go Go.Ai
set_option linter.unusedSimpArgs false
set_option linter.unusedVariables false
set_option maxHeartbeats 4000000
def A_rdbf : List Ann := [⟨(some ⟨[1,2,3,4], [4], []⟩), [], [], [], []⟩, ⟨(some ⟨[2,3,4,9], [4], []⟩), [], [], [], []⟩, ⟨(some ⟨[2,3,4,9,17], [4], []⟩), [], [], [], []⟩, ⟨(some ⟨[8], [], []⟩), [], [], [], []⟩, ⟨(some ⟨[2,3,21], [], []⟩), [], [], [], []⟩, ⟨(some ⟨[8], [], []⟩), [], [], [], []⟩, ⟨(some ⟨[8], [], []⟩), [], [], [], []⟩]
def C_rdbf : AC := (.seq (.reg false [⟨(some 4), none, .box (.t 0)⟩, ⟨(some 8), none, .mv (.v (.int .i64 (0)))⟩] (some ⟨[1,2,3,4], [4], []⟩))
  (.seq (.seq (.reg false [⟨(some 10), none, .load true 10 (.t 4)⟩, ⟨(some 11), none, .call (.f 22) [(.t 10)]⟩, ⟨(some 12), none, .mv (.t 1)⟩, ⟨(some 13), none, .call (.f 11) [(.t 12)]⟩, ⟨(some 14), none, .bslice 1 2 [(.t 11), (.t 13)]⟩, ⟨(some 15), none, .call (.f 9) [(.t 14)]⟩, ⟨(some 9), none, .mv (.t 15)⟩] (some ⟨[2,3,4,9], [4], []⟩))
  (.seq (.reg false [⟨(some 16), none, .mv (.t 9)⟩, ⟨(some 17), none, .bin .neq (.t 16) (.v (.int .i64 (0)))⟩] (some ⟨[2,3,4,9,17], [4], []⟩))
  (.cond (.t 17)
  (.seq (.reg false [⟨(some 18), none, .mv (.t 9)⟩, ⟨(some 8), none, .mv (.t 18)⟩] (some ⟨[8], [], []⟩))
  .ret)
  .skip)))
  (.seq (.seq (.reg false [⟨(some 19), none, .fadr 2 (.t 4)⟩, ⟨(some 20), none, .load false 1 (.t 19)⟩, ⟨(some 21), none, .bin .eql (.t 20) (.v (.int .i64 (3)))⟩] (some ⟨[2,3,21], [], []⟩))
  (.cond (.t 21)
  (.seq (.reg false [⟨(some 8), none, .mv (.v (.int .i64 (4)))⟩] (some ⟨[8], [], []⟩))
  .ret)
  .skip))
  (.seq (.reg false [⟨(some 22), none, .mv (.t 2)⟩, ⟨(some 23), none, .call (.f 12) [(.t 22), (.v (.int .i64 (0))), (.v (.int .i64 (345686400000)))]⟩, ⟨(some 24), none, .mv (.t 3)⟩, ⟨(some 25), none, .call (.f 12) [(.t 24), (.v (.int .i64 (1))), (.v (.int .i64 (5000)))]⟩, ⟨(some 26), none, .bslice 1 2 [(.t 23), (.t 25)]⟩, ⟨(some 27), none, .call (.f 9) [(.t 26)]⟩, ⟨(some 8), none, .mv (.t 27)⟩] (some ⟨[8], [], []⟩))
  .ret))))
theorem c_rdbf : compileCode Tryd.prog Tryd.f17.ntmps (Tryd.f17.body.getD .skip) A_rdbf = some (C_rdbf, []) := by kernel_rfl
theorem r_rdbf : compileRes Tryd.prog Tryd.f17.results.toList = some [.t 8] := by kernel_rfl
theorem b_rdbf : Tryd.f17.body = some (Tryd.f17.body.getD .skip) := by kernel_rfl
theorem n_rdbf : (Tryd.f17.name == "runtime.NumGoroutine") = false := by kernel_rfl
theorem fc_rdbf {xt : Option (List Cel)} {args : List Val} {R : List Cel → Val → Prop} (hn : (if xt.isSome then 1 else 0) + args.length ≤ Tryd.f17.ntmps) (h : ex Tryd.prog C_rdbf [] (fpost xt [.t 8] R) (initSt xt args)) : FC Tryd.prog 17 xt args R :=
  fc_of_awp Tryd.func17 b_rdbf n_rdbf c_rdbf r_rdbf (of_decide_eq_true (by kernel_rfl)) hn h

def A_rdb : List Ann := [⟨(some ⟨[1,2,3,4], [4], [14]⟩), [], [], [], []⟩, ⟨(some ⟨[1,2,3,4,9], [4], [14]⟩), [], [], [], [(14, ⟨[], [], [], [], []⟩)]⟩, ⟨(some ⟨[1,2,3,4,9,15,16,17], [4], [14]⟩), [], [], [], []⟩, ⟨(some ⟨[1,2,3,4,9,15,16,17,18], [4], [14]⟩), [], [], [], []⟩, ⟨(some ⟨[1,2,3,4,9,11,15,16,17], [4,11], [14]⟩), [], [], [], []⟩, ⟨(some ⟨[1,2,3,4,9,15,16,17], [4], [14]⟩), [], [], [], []⟩, ⟨(some ⟨[1,2,3,4,9,15,16,17], [4], [14]⟩), [], [], [], []⟩, ⟨(some ⟨[1,2,3,4,9], [4], []⟩), [], [], [], [(32, ⟨[], [14], [], [14], [14]⟩)]⟩, ⟨(some ⟨[1,2,3,4,33,34,35], [4], []⟩), [], [], [], []⟩, ⟨(some ⟨[1,2,3,4,33,34,35,36], [4], []⟩), [], [], [], []⟩, ⟨(some ⟨[1,2,3,4,13,33,34,35], [4], []⟩), [], [], [], []⟩, ⟨(some ⟨[1,2,3,4,13,33,34,35], [4], []⟩), [], [], [], []⟩, ⟨(some ⟨[1,2,3,4,13,33,34,35,51], [4], []⟩), [], [], [], []⟩, ⟨(some ⟨[8], [], []⟩), [], [], [], []⟩, ⟨(some ⟨[1,2,3,4,33,34,35], [4], []⟩), [], [], [], []⟩, ⟨(some ⟨[8], [], []⟩), [], [], [], []⟩]
def C_rdb : AC := (.seq (.reg false [⟨(some 4), none, .box (.t 0)⟩, ⟨(some 8), none, .mv (.v (.int .i64 (0)))⟩] (some ⟨[1,2,3,4], [4], [14]⟩))
  (.seq (.reg false [⟨(some 14), none, .bslr 3 1 1 [(.v (.int .i64 (0)))]⟩, ⟨(some 9), none, .mv (.t 14)⟩] (some ⟨[1,2,3,4,9], [4], [14]⟩))
  (.seq (.seq (.reg false [⟨(some 15), none, .mv (.t 1)⟩, ⟨(some 16), none, .len (.t 15)⟩, ⟨(some 17), none, .mv (.v (.int .i64 (0)))⟩] (some ⟨[1,2,3,4,9,15,16,17], [4], [14]⟩))
  (.block 0 (.loop (.seq (.reg false [⟨(some 18), none, .bin .lss (.t 17) (.t 16)⟩] (some ⟨[1,2,3,4,9,15,16,17,18], [4], [14]⟩))
  (.seq (.cond (.t 18)
  .skip
  (.exit 0))
  (.seq (.block 1 (.seq (.reg false [⟨(some 19), none, .iadr 3 (.t 15) (.t 17)⟩, ⟨(some 20), none, .load true 3 (.t 19)⟩, ⟨(some 11), none, .alloc [(.int .i64 (0)), (.int .i64 (0)), (.int .i64 (0))]⟩, ⟨none, none, .store 3 (.t 11) (.t 20)⟩] (some ⟨[1,2,3,4,9,11,15,16,17], [4,11], [14]⟩))
  (.reg false [⟨(some 21), none, .mv (.t 9)⟩, ⟨(some 22), none, .fadr 1 (.t 11)⟩, ⟨(some 23), none, .load false 1 (.t 22)⟩, ⟨(some 24), none, .fadr 3 (.t 4)⟩, ⟨(some 25), none, .load false 1 (.t 24)⟩, ⟨(some 26), none, .call (.f 37) [(.t 23), (.t 25)]⟩, ⟨(some 27), none, .bin .add (.t 26) (.v (.int .i64 (1)))⟩, ⟨(some 28), none, .bslice 1 1 [(.t 27)]⟩, ⟨(some 29), none, .append 3 1 8 (.t 21) (.t 28)⟩, ⟨(some 9), none, .mv (.t 29)⟩] (some ⟨[1,2,3,4,9,15,16,17], [4], [14]⟩))))
  (.reg false [⟨(some 30), none, .bin .add (.t 17) (.v (.int .i64 (1)))⟩, ⟨(some 17), none, .mv (.t 30)⟩] (some ⟨[1,2,3,4,9,15,16,17], [4], [14]⟩))))))))
  (.seq (.reg false [⟨(some 31), none, .mv (.t 9)⟩, ⟨(some 32), none, .callm (.f 31) [(.t 31)] ⟨[], [14], [], [14], [14]⟩⟩] (some ⟨[1,2,3,4,9], [4], []⟩))
  (.seq (.seq (.reg false [⟨(some 33), none, .mv (.t 9)⟩, ⟨(some 34), none, .len (.t 33)⟩, ⟨(some 35), none, .mv (.v (.int .i64 (0)))⟩] (some ⟨[1,2,3,4,33,34,35], [4], []⟩))
  (.block 2 (.loop (.seq (.reg false [⟨(some 36), none, .bin .lss (.t 35) (.t 34)⟩] (some ⟨[1,2,3,4,33,34,35,36], [4], []⟩))
  (.seq (.cond (.t 36)
  .skip
  (.exit 2))
  (.seq (.block 3 (.seq (.reg false [⟨(some 37), none, .iadr 1 (.t 33) (.t 35)⟩, ⟨(some 38), none, .load false 1 (.t 37)⟩, ⟨(some 13), none, .mv (.t 38)⟩] (some ⟨[1,2,3,4,13,33,34,35], [4], []⟩))
  (.seq (.reg false [⟨(some 39), none, .mv (.t 13)⟩, ⟨(some 40), none, .fadr 4 (.t 4)⟩, ⟨none, none, .store 1 (.t 40) (.t 39)⟩] (some ⟨[1,2,3,4,13,33,34,35], [4], []⟩))
  (.seq (.reg false [⟨(some 41), none, .mv (.t 13)⟩, ⟨(some 42), none, .bin .leq (.t 41) (.v (.int .i64 (2000000)))⟩, ⟨(some 43), none, .mv (.t 42)⟩, ⟨(some 44), (some (43, true)), .load true 10 (.t 4)⟩, ⟨(some 45), (some (43, true)), .mv (.t 1)⟩, ⟨(some 46), (some (43, true)), .mv (.t 2)⟩, ⟨(some 47), (some (43, true)), .call (.f 16) [(.t 44), (.t 45), (.t 46)]⟩, ⟨(some 48), (some (43, true)), .len (.t 47)⟩, ⟨(some 49), (some (43, true)), .mv (.t 3)⟩, ⟨(some 50), (some (43, true)), .bin .leq (.t 48) (.t 49)⟩, ⟨(some 51), none, .pick (.t 43) (.t 50) (.v (.bool false))⟩] (some ⟨[1,2,3,4,13,33,34,35,51], [4], []⟩))
  (.cond (.t 51)
  (.seq (.reg false [⟨(some 52), none, .mv (.t 13)⟩, ⟨(some 8), none, .mv (.t 52)⟩] (some ⟨[8], [], []⟩))
  .ret)
  .skip)))))
  (.reg false [⟨(some 53), none, .bin .add (.t 35) (.v (.int .i64 (1)))⟩, ⟨(some 35), none, .mv (.t 53)⟩] (some ⟨[1,2,3,4,33,34,35], [4], []⟩))))))))
  (.seq (.reg false [⟨(some 8), none, .mv (.v (.int .i64 (-1)))⟩] (some ⟨[8], [], []⟩))
  .ret))))))
theorem c_rdb : compileCode Tryd.prog Tryd.f19.ntmps (Tryd.f19.body.getD .skip) A_rdb = some (C_rdb, []) := by kernel_rfl
theorem r_rdb : compileRes Tryd.prog Tryd.f19.results.toList = some [.t 8] := by kernel_rfl
theorem b_rdb : Tryd.f19.body = some (Tryd.f19.body.getD .skip) := by kernel_rfl
theorem n_rdb : (Tryd.f19.name == "runtime.NumGoroutine") = false := by kernel_rfl
theorem fc_rdb {xt : Option (List Cel)} {args : List Val} {R : List Cel → Val → Prop} (hn : (if xt.isSome then 1 else 0) + args.length ≤ Tryd.f19.ntmps) (h : ex Tryd.prog C_rdb [] (fpost xt [.t 8] R) (initSt xt args)) : FC Tryd.prog 19 xt args R :=
  fc_of_awp Tryd.func19 b_rdb n_rdb c_rdb r_rdb (of_decide_eq_true (by kernel_rfl)) hn h
theorem fcm_rdb {H : Hp} {K : Keep} {args : List Val} {R : Hp → Val → Prop} (hn : args.length ≤ Tryd.f19.ntmps) (hkb : ∀ p ∈ H.bs, p.1 = 0 ∨ XK ≤ p.1) (hkr : ∀ p ∈ H.rs, XK ≤ p.1) (h : ex Tryd.prog C_rdb [] (mpost H K [.t 8] R) (initM H args)) : FCM Tryd.prog 19 H args R :=
  fcm_of_awp Tryd.func19 b_rdb n_rdb c_rdb r_rdb (of_decide_eq_true (by kernel_rfl)) hn hkb hkr h
theorem fcms_rdb {S : List Nat} {H : Hp} {K : Keep} {args : List Val} {R : Hp → Val → Prop} (hn : args.length ≤ Tryd.f19.ntmps) (hkb : ∀ p ∈ H.bs, p.1 = 0 ∨ XK ≤ p.1) (hkr : ∀ p ∈ H.rs, XK ≤ p.1) (h : ex Tryd.prog C_rdb [] (mpostS S H K [.t 8] R) (initM H args))   : FCMS Tryd.prog 19 S H args R :=
  fcms_of_awp Tryd.func19 b_rdb n_rdb c_rdb r_rdb (of_decide_eq_true (by kernel_rfl)) hn hkb hkr h


theorem rdbf_fc (kb tb pb : ByteArray) (lt : Bool) (hkb : kb.size ≤ 9223372036854775807) (htb : tb.size ≤ 9223372036854775807) (kd lim db on off pr un many : Int) (l : List Smp) (hls : l.length ≤ 4611686018427387904) :
    FC Tryd.prog 17 none [almK kb tb pb lt kd lim db on off pr, smps false l, iv un, iv many] (fun _ r => r = iv (dfF (keyOk kb && keyOk tb) kd lim db on off pr l un many)) := by
  refine fc_rdbf (by simp +arith) ?_
  have hcd := ralm_fc kb tb pb lt hkb htb kd lim db on off pr
  generalize (keyOk kb && keyOk tb) = kk at *
  have hcs := seriesFault_fc l hls
  have hf := orE_fc false [almG kk kd lim db on off pr, serFault l] (by simp)
  have h1 := spanFault1_fc un 0 345686400000
  have h2 := spanFault1_fc many 1 5000
  unfold dfF
  generalize orSp [almG kk kd lim db on off pr, serFault l] = e at *
  unfold C_rdbf
  simp (maxSteps := 1000000) (disch := omega) only [go_sem, eq_self, decide_true, decide_false, not_true_eq_false, not_false_eq_true, reduceIte, reduceCtorEq, Nat.reduceEqDiff, Nat.reduceAdd, Nat.reduceSub, Nat.reduceLeDiff]
  refine CALL_det hcd (.inl rfl) ?_
  simp (maxSteps := 1000000) (disch := omega) only [go_sem, eq_self, decide_true, decide_false, not_true_eq_false, not_false_eq_true, reduceIte, reduceCtorEq, Nat.reduceEqDiff, Nat.reduceAdd, Nat.reduceSub, Nat.reduceLeDiff]
  refine CALL_det hcs (.inl rfl) ?_
  simp (maxSteps := 1000000) (disch := omega) only [go_sem, eq_self, decide_true, decide_false, not_true_eq_false, not_false_eq_true, reduceIte, reduceCtorEq, Nat.reduceEqDiff, Nat.reduceAdd, Nat.reduceSub, Nat.reduceLeDiff]
  refine CALL_det hf (.inl rfl) ?_
  by_cases h0 : e ≠ 0
  · rw [if_pos h0]
    simp (maxSteps := 1000000) (disch := omega) only [go_sem, eq_self, decide_true, decide_false, not_true_eq_false, not_false_eq_true, reduceIte, reduceCtorEq, Nat.reduceEqDiff, Nat.reduceAdd, Nat.reduceSub, Nat.reduceLeDiff]
  rw [if_neg h0]
  by_cases h3 : kd = 3
  · rw [if_pos h3]
    simp (maxSteps := 1000000) (disch := omega) only [go_sem, eq_self, decide_true, decide_false, not_true_eq_false, not_false_eq_true, reduceIte, reduceCtorEq, Nat.reduceEqDiff, Nat.reduceAdd, Nat.reduceSub, Nat.reduceLeDiff]
  rw [if_neg h3]
  have hf2 := orE_fc false [if 0 ≤ un ∧ un ≤ 345686400000 then 0 else 1, if 1 ≤ many ∧ many ≤ 5000 then 0 else 1] (by simp)
  simp (maxSteps := 1000000) (disch := omega) only [go_sem, eq_self, decide_true, decide_false, not_true_eq_false, not_false_eq_true, reduceIte, reduceCtorEq, Nat.reduceEqDiff, Nat.reduceAdd, Nat.reduceSub, Nat.reduceLeDiff]
  refine CALL_det h1 (.inl rfl) ?_
  simp (maxSteps := 1000000) (disch := omega) only [go_sem, eq_self, decide_true, decide_false, not_true_eq_false, not_false_eq_true, reduceIte, reduceCtorEq, Nat.reduceEqDiff, Nat.reduceAdd, Nat.reduceSub, Nat.reduceLeDiff]
  refine CALL_det h2 (.inl rfl) ?_
  simp (maxSteps := 1000000) (disch := omega) only [go_sem, eq_self, decide_true, decide_false, not_true_eq_false, not_false_eq_true, reduceIte, reduceCtorEq, Nat.reduceEqDiff, Nat.reduceAdd, Nat.reduceSub, Nat.reduceLeDiff]
  refine CALL_det hf2 (.inl rfl) ?_
  simp (maxSteps := 1000000) (disch := omega) only [go_sem, eq_self, decide_true, decide_false, not_true_eq_false, not_false_eq_true, reduceIte, reduceCtorEq, Nat.reduceEqDiff, Nat.reduceAdd, Nat.reduceSub, Nat.reduceLeDiff]
  refine iv_congr ?_
  by_cases c1 : 0 ≤ un ∧ un ≤ 345686400000
  · by_cases c2 : 1 ≤ many ∧ many ≤ 5000
    · rw [if_pos c1, if_pos c2, if_neg (by omega)]; rfl
    · rw [if_pos c1, if_neg c2, if_pos (by omega)]; rfl
  · by_cases c2 : 1 ≤ many ∧ many ≤ 5000
    · rw [if_neg c1, if_pos c2, if_pos (by omega)]; rfl
    · rw [if_neg c1, if_neg c2, if_pos (by omega)]; rfl
def rd1St (kb tb pb : ByteArray) (lt : Bool) (kd lim db on off pr un many : Int) (l : List Smp) (i : Int) (T : List Int) : AS := ⟨tabV [(1, smps false l), (2, iv un), (3, iv many), (4, .one (.bx 4 0)), (9, .one (.ow 14 0)), (15, smps false l), (16, iv l.length), (17, iv i)], tabO [(4, almC kb tb pb lt kd lim db on off pr)], tabO [(14, nRow T)]⟩
def rd2St (kb tb pb : ByteArray) (lt : Bool) (kd lim on off pr un many : Int) (l : List Smp) (D : List Int) (j db : Int) : AS := ⟨tabV [(1, smps false l), (2, iv un), (3, iv many), (4, .one (.bx 4 0)), (33, ints true D), (34, iv D.length), (35, iv j)], tabO [(4, almC kb tb pb lt kd lim db on off pr)], tabO []⟩
def rdbR : Option Int → Int
  | some d => d
  | none => -1
set_option maxHeartbeats 12000000 in
set_option maxRecDepth 8000 in
theorem rdb_fc (kb tb pb : ByteArray) (lt : Bool) (kd lim db on off pr un many : Int) (l : List Smp) (hs : serFault l = 0) (hk : kd = 1 ∨ kd = 2) (ha : almF kd lim db on off pr = 0) (hun : 0 ≤ un ∧ un ≤ 345686400000) (hmy : 1 ≤ many ∧ many ≤ 5000) :
    FC Tryd.prog 19 none [almK kb tb pb lt kd lim db on off pr, smps false l, iv un, iv many] (fun _ r => r = iv (rdbR (dbF kd lim on off un many l (dbC kd lim l)))) := by
  refine fc_rdb (by simp +arith) ?_
  have hg := good_of hs
  have hlen := hg.len
  have hok := good_mem hg
  obtain ⟨a1, a2, a3, a4, a5, a6⟩ := almF_ok ha
  have hrf := rdbF_is (kd := kd) (lim := lim) (on := on) (off := off) (un := un) (many := many) (l := l) hk
  rw [show Lib.compact (srtI (trN kd lim l l.length)) = dbC kd lim l from rfl] at hrf
  rw [← hrf]
  unfold C_rdb
  simp (maxSteps := 1000000) (disch := omega) only [go_sem, eq_self, decide_true, decide_false, not_true_eq_false, not_false_eq_true, reduceIte, reduceCtorEq, Nat.reduceEqDiff, Nat.reduceAdd, Nat.reduceSub, Nat.reduceLeDiff]
  refine ex_loop1 (fun i => rd1St kb tb pb lt kd lim db on off pr un many l i (farN lim l i.toNat)) (fun i => 0 ≤ i ∧ i ≤ l.length) (fun i => (l.length - i).toNat) 0 ⟨by omega, by omega⟩ rfl ?_
  rintro i ⟨g1, g2⟩
  have tl := farN_len lim l i.toNat
  unfold rd1St almC
  by_cases hi : i < l.length
  · have e2 : (i + 1).toNat = i.toNat + 1 := by omega
    have em := getD_map_at smpC l i [] g1 hi
    have ho := hok _ (getD_mem l i.toNat (by omega))
    unfold okSmp at ho
    have e3 : farN lim l (i + 1).toNat = farN lim l i.toNat ++ [max ((l.getD i.toNat default).v - lim) (lim - (l.getD i.toNat default).v) + 1] := by rw [e2, farN]
    have hfa := far_fc (l.getD i.toNat default).v lim (by omega) (by omega)
    simp (maxSteps := 1000000) (disch := omega) only [go_sem, eq_self, decide_true, decide_false, not_true_eq_false, not_false_eq_true, reduceIte, reduceCtorEq, Nat.reduceEqDiff, Nat.reduceAdd, Nat.reduceSub, Nat.reduceLeDiff]
    refine CALL_det hfa (.inl rfl) ?_
    simp (maxSteps := 1000000) (disch := omega) only [go_sem, eq_self, decide_true, decide_false, not_true_eq_false, not_false_eq_true, reduceIte, reduceCtorEq, Nat.reduceEqDiff, Nat.reduceAdd, Nat.reduceSub, Nat.reduceLeDiff]
    exact ⟨i + 1, by simp only [e3, nRow, List.map_append, List.map_cons, List.map_nil, intC_eq], ⟨by omega, by omega⟩, by omega⟩
  · have hil : i.toNat = l.length := by omega
    rw [hil] at tl ⊢
    have hso := sortI_all (farN lim l l.length) (by omega)
    have hsl : (srtI (farN lim l l.length)).length = (farN lim l l.length).length := List.length_mergeSort _
    have hCr : ∀ d ∈ srtI (farN lim l l.length), 0 ≤ d := fun d hd => farN_nonneg lim l _ d (srtI_mem.1 hd)
    generalize srtI (farN lim l l.length) = D at *
    simp (maxSteps := 1000000) (disch := omega) only [go_sem, eq_self, decide_true, decide_false, not_true_eq_false, not_false_eq_true, reduceIte, reduceCtorEq, Nat.reduceEqDiff, Nat.reduceAdd, Nat.reduceSub, Nat.reduceLeDiff]
    refine ⟨rfl, CALLM_rnES ⟨[], [(14, nRow D)]⟩ (.tu []) (fun k => k) (swp 14 1000000) (fun _ => rfl) (swp_swp 14 1000000) hso (by simp) rfl rfl rfl rfl rfl ⟨rfl, rfl⟩ ?_⟩
    simp (maxSteps := 1000000) (disch := omega) only [go_sem, eq_self, decide_true, decide_false, not_true_eq_false, not_false_eq_true, reduceIte, reduceCtorEq, Nat.reduceEqDiff, Nat.reduceAdd, Nat.reduceSub, Nat.reduceLeDiff]
    refine ex_loop2 (rd2St kb tb pb lt kd lim on off pr un many l D) (fun j d => 0 ≤ j ∧ j ≤ D.length ∧ rdbF kd lim on off un many l (D.drop j.toNat) = rdbF kd lim on off un many l D) (fun j _ => (D.length - j).toNat) 0 db ⟨by omega, by omega, rfl⟩ rfl ?_
    rintro j d ⟨h1, h2, h3⟩
    unfold rd2St almC
    by_cases hj : j < D.length
    · have e2 : (j + 1).toNat = j.toNat + 1 := by omega
      have em := getD_map_at intC D j [] h1 hj
      have hcr := hCr _ (getD_mem D j.toNat (by omega))
      rw [drop_cons D j.toNat (by omega), ← e2] at h3
      unfold rdbF at h3
      rw [List.find?_cons] at h3
      by_cases c0 : (D.getD j.toNat default) ≤ 2000000
      · have hac := activeOf_fc kb tb pb lt kd lim (D.getD j.toNat default) on off pr un l hg a2 ⟨hcr, c0⟩ a4 a5 hun
        have hal := act_len (kd := kd) (lim := lim) (db := (D.getD j.toNat default)) (on := on) (off := off) (un := un) l
        by_cases c : ((actW kd lim (D.getD j.toNat default) on off un l).length : Int) ≤ many
        · rw [decide_eq_true c0, decide_eq_true c] at h3
          simp only [Bool.and_self] at h3
          unfold rdbF
          rw [← h3]
          unfold rdbR
          generalize actW kd lim (D.getD j.toNat default) on off un l = A at *
          simp (maxSteps := 1000000) (disch := omega) only [go_sem, eq_self, decide_true, decide_false, not_true_eq_false, not_false_eq_true, reduceIte, reduceCtorEq, Nat.reduceEqDiff, Nat.reduceAdd, Nat.reduceSub, Nat.reduceLeDiff]
          refine CALL_det hac (.inl rfl) ?_
          simp (maxSteps := 1000000) (disch := omega) only [go_sem, eq_self, decide_true, decide_false, not_true_eq_false, not_false_eq_true, reduceIte, reduceCtorEq, Nat.reduceEqDiff, Nat.reduceAdd, Nat.reduceSub, Nat.reduceLeDiff]
        · rw [decide_eq_false c, Bool.and_false] at h3
          simp only at h3
          generalize actW kd lim (D.getD j.toNat default) on off un l = A at *
          simp (maxSteps := 1000000) (disch := omega) only [go_sem, eq_self, decide_true, decide_false, not_true_eq_false, not_false_eq_true, reduceIte, reduceCtorEq, Nat.reduceEqDiff, Nat.reduceAdd, Nat.reduceSub, Nat.reduceLeDiff]
          refine CALL_det hac (.inl rfl) ?_
          simp (maxSteps := 1000000) (disch := omega) only [go_sem, eq_self, decide_true, decide_false, not_true_eq_false, not_false_eq_true, reduceIte, reduceCtorEq, Nat.reduceEqDiff, Nat.reduceAdd, Nat.reduceSub, Nat.reduceLeDiff]
          exact ⟨j + 1, (D.getD j.toNat default), rfl, ⟨by omega, by omega, h3⟩, by omega⟩
      · rw [decide_eq_false c0, Bool.false_and] at h3
        simp only at h3
        simp (maxSteps := 1000000) (disch := omega) only [go_sem, eq_self, decide_true, decide_false, not_true_eq_false, not_false_eq_true, reduceIte, reduceCtorEq, Nat.reduceEqDiff, Nat.reduceAdd, Nat.reduceSub, Nat.reduceLeDiff]
        exact ⟨j + 1, (D.getD j.toNat default), rfl, ⟨by omega, by omega, h3⟩, by omega⟩
    · rw [List.drop_eq_nil_of_le (by omega)] at h3
      rw [← h3]
      unfold rdbF rdbR
      simp (maxSteps := 1000000) (disch := omega) only [go_sem, eq_self, decide_true, decide_false, not_true_eq_false, not_false_eq_true, reduceIte, reduceCtorEq, Nat.reduceEqDiff, Nat.reduceAdd, Nat.reduceSub, Nat.reduceLeDiff]
      rfl
end Go.Proofs.YtggbcgldnjmobaaDoor


/-
  FramesAreFrames returns true for every slice of integers, and leaves the slice as it was: the frames of right arguments are right, long enough and far enough apart, and a batch begins at a sample that reached the trigger. No condition.
-/
import Derived.Test.YtmbpfhpdicjpcaaFrh
import Derived.Test.YtmbpfhpdicjpcaaRdy
import Derived.Test.YtmbpfhpdicjpcaaStpb
import Derived.Test.YtmbpfhpdicjpcaaAiRow
import Derived.Test.YtmbpfhpdicjpcaaRows
namespace Go.Proofs.Ytmbpfhpdicjpcaa
open Go Go.Ai
set_option linter.unusedSimpArgs false
set_option linter.unusedVariables false
set_option maxHeartbeats 4000000
def A_faf : List Ann := [⟨(some ⟨[0], [], []⟩), [], [], [], []⟩, ⟨(some ⟨[3,16], [16], []⟩), [], [], [], []⟩, ⟨(some ⟨[4,5,6], [4], []⟩), [], [], [], []⟩, ⟨(some ⟨[4,5,6,25], [4], []⟩), [], [], [], []⟩, ⟨(some ⟨[2], [], []⟩), [], [], [], []⟩, ⟨(some ⟨[4,5,6,7,8], [4], []⟩), [], [], [], []⟩, ⟨(some ⟨[4,5,6,7,40], [4], []⟩), [], [], [], []⟩, ⟨(some ⟨[2], [], []⟩), [], [], [], []⟩, ⟨(some ⟨[4,5,6,7,41,42,43], [4], []⟩), [], [], [], []⟩, ⟨(some ⟨[4,5,6,7,41,42,43,44], [4], []⟩), [], [], [], []⟩, ⟨(some ⟨[4,5,6,7,9,10,41,42,43], [4,10], []⟩), [], [], [], []⟩, ⟨(some ⟨[4,5,6,7,9,10,11,12,13,41,42,43], [4,10,11], []⟩), [], [], [], []⟩, ⟨(some ⟨[4,5,6,7,41,42,43,108], [4], []⟩), [], [], [], []⟩, ⟨(some ⟨[2], [], []⟩), [], [], [], []⟩, ⟨(some ⟨[4,5,6,7,41,42,43], [4], []⟩), [], [], [], []⟩, ⟨(some ⟨[2], [], []⟩), [], [], [], []⟩]
def C_faf : AC := (.seq (.reg false [⟨(some 2), none, .mv (.v (.bool false))⟩] (some ⟨[0], [], []⟩))
  (.seq (.reg false [⟨(some 14), none, .mv (.t 0)⟩, ⟨(some 15), none, .build [(.slice none 0 0), (.int .i64 (0))] [(0, 1, (.t 14))]⟩, ⟨(some 16), none, .box (.t 15)⟩, ⟨(some 3), none, .mv (.t 16)⟩] (some ⟨[3,16], [16], []⟩))
  (.seq (.reg false [⟨(some 17), none, .mv (.t 3)⟩, ⟨(some 18), none, .callx (.f 15) [(.t 17)]⟩, ⟨(some 19), none, .mv (.t 3)⟩, ⟨(some 20), none, .callx (.f 55) [(.t 19), (.v (.int .i64 (14)))]⟩, ⟨(some 21), none, .mv (.t 3)⟩, ⟨(some 22), none, .callx (.f 56) [(.t 21), (.v (.int .i64 (0))), (.v (.int .i64 (200)))]⟩, ⟨(some 4), none, .alloc [(.int .i64 (0)), (.int .i64 (0)), (.int .i64 (0)), (.int .i64 (0))]⟩, ⟨none, none, .store 4 (.t 4) (.t 18)⟩, ⟨(some 5), none, .mv (.t 20)⟩, ⟨(some 6), none, .mv (.t 22)⟩] (some ⟨[4,5,6], [4], []⟩))
  (.seq (.seq (.reg false [⟨(some 23), none, .load true 4 (.t 4)⟩, ⟨(some 24), none, .call (.f 19) [(.t 23)]⟩, ⟨(some 25), none, .bin .neq (.t 24) (.v (.int .i64 (0)))⟩] (some ⟨[4,5,6,25], [4], []⟩))
  (.cond (.t 25)
  (.seq (.reg false [⟨(some 26), none, .call (.f 60) []⟩, ⟨(some 2), none, .mv (.t 26)⟩] (some ⟨[2], [], []⟩))
  .ret)
  .skip))
  (.seq (.reg false [⟨(some 28), none, .load true 4 (.t 4)⟩, ⟨(some 29), none, .mv (.t 5)⟩, ⟨(some 30), none, .mv (.t 6)⟩, ⟨(some 31), none, .call (.f 23) [(.t 28), (.t 29), (.t 30)]⟩, ⟨(some 27), none, .mv (.t 31)⟩, ⟨(some 32), none, .extr (.t 27) 0⟩, ⟨(some 33), none, .extr (.t 27) 1⟩, ⟨(some 7), none, .mv (.t 32)⟩, ⟨(some 8), none, .mv (.t 33)⟩] (some ⟨[4,5,6,7,8], [4], []⟩))
  (.seq (.seq (.reg false [⟨(some 34), none, .mv (.t 8)⟩, ⟨(some 35), none, .bin .neq (.t 34) (.v (.int .i64 (0)))⟩, ⟨(some 36), none, .mv (.t 35)⟩, ⟨(some 37), (some (36, false)), .mv (.t 7)⟩, ⟨(some 38), (some (36, false)), .call (.f 22) [(.t 37)]⟩, ⟨(some 39), (some (36, false)), .bin .neq (.t 38) (.v (.int .i64 (0)))⟩, ⟨(some 40), none, .pick (.t 36) (.v (.bool true)) (.t 39)⟩] (some ⟨[4,5,6,7,40], [4], []⟩))
  (.cond (.t 40)
  (.seq (.reg false [⟨(some 2), none, .mv (.v (.bool false))⟩] (some ⟨[2], [], []⟩))
  .ret)
  .skip))
  (.seq (.seq (.reg false [⟨(some 41), none, .mv (.t 7)⟩, ⟨(some 42), none, .len (.t 41)⟩, ⟨(some 43), none, .mv (.v (.int .i64 (0)))⟩] (some ⟨[4,5,6,7,41,42,43], [4], []⟩))
  (.block 0 (.loop (.seq (.reg false [⟨(some 44), none, .bin .lss (.t 43) (.t 42)⟩] (some ⟨[4,5,6,7,41,42,43,44], [4], []⟩))
  (.seq (.cond (.t 44)
  .skip
  (.exit 0))
  (.seq (.block 1 (.seq (.reg false [⟨(some 45), none, .mv (.t 43)⟩, ⟨(some 46), none, .iadr 2 (.t 41) (.t 43)⟩, ⟨(some 47), none, .load true 2 (.t 46)⟩, ⟨(some 10), none, .alloc [(.int .i64 (0)), (.int .i64 (0))]⟩, ⟨(some 9), none, .mv (.t 45)⟩, ⟨none, none, .store 2 (.t 10) (.t 47)⟩] (some ⟨[4,5,6,7,9,10,41,42,43], [4,10], []⟩))
  (.seq (.reg false [⟨(some 49), none, .mv (.t 5)⟩, ⟨(some 50), none, .fadr 0 (.t 10)⟩, ⟨(some 51), none, .load false 1 (.t 50)⟩, ⟨(some 52), none, .call (.f 73) [(.t 49), (.v (.bool true)), (.t 51)]⟩, ⟨(some 48), none, .mv (.t 52)⟩, ⟨(some 53), none, .extr (.t 48) 0⟩, ⟨(some 54), none, .extr (.t 48) 1⟩, ⟨(some 55), none, .extr (.t 48) 2⟩, ⟨(some 11), none, .alloc [(.int .i64 (0)), (.int .i64 (0)), (.int .i64 (0)), (.int .i64 (0))]⟩, ⟨none, none, .store 4 (.t 11) (.t 53)⟩, ⟨(some 12), none, .mv (.t 54)⟩, ⟨(some 13), none, .mv (.t 55)⟩] (some ⟨[4,5,6,7,9,10,11,12,13,41,42,43], [4,10,11], []⟩))
  (.seq (.reg true [⟨(some 56), none, .mv (.t 13)⟩, ⟨(some 57), none, .bin .neq (.t 56) (.v (.int .i64 (0)))⟩, ⟨(some 58), none, .mv (.t 57)⟩, ⟨(some 59), (some (58, false)), .mv (.t 12)⟩, ⟨(some 60), (some (58, false)), .un .not (.t 59)⟩, ⟨(some 61), none, .pick (.t 58) (.v (.bool true)) (.t 60)⟩, ⟨(some 62), none, .mv (.t 61)⟩, ⟨(some 63), (some (62, false)), .fadr 3 (.t 11)⟩, ⟨(some 64), (some (62, false)), .load false 1 (.t 63)⟩, ⟨(some 65), (some (62, false)), .bin .eql (.t 64) (.v (.int .i64 (2)))⟩, ⟨(some 66), none, .pick (.t 62) (.v (.bool true)) (.t 65)⟩, ⟨(some 67), none, .mv (.t 66)⟩, ⟨(some 68), (some (67, false)), .fadr 1 (.t 11)⟩, ⟨(some 69), (some (67, false)), .fadr 0 (.t 68)⟩, ⟨(some 70), (some (67, false)), .load false 1 (.t 69)⟩, ⟨(some 71), (some (67, false)), .fadr 0 (.t 4)⟩, ⟨(some 72), (some (67, false)), .load false 1 (.t 71)⟩, ⟨(some 73), (some (67, false)), .bin .lss (.t 70) (.t 72)⟩, ⟨(some 74), none, .pick (.t 67) (.v (.bool true)) (.t 73)⟩, ⟨(some 75), none, .mv (.t 74)⟩, ⟨(some 76), (some (75, false)), .fadr 1 (.t 10)⟩, ⟨(some 77), (some (75, false)), .load false 1 (.t 76)⟩, ⟨(some 78), (some (75, false)), .mv (.t 6)⟩, ⟨(some 79), (some (75, false)), .bin .gtr (.t 77) (.t 78)⟩, ⟨(some 80), none, .pick (.t 75) (.v (.bool true)) (.t 79)⟩, ⟨(some 81), none, .mv (.t 80)⟩, ⟨(some 82), (some (81, false)), .fadr 1 (.t 10)⟩, ⟨(some 83), (some (81, false)), .load false 1 (.t 82)⟩, ⟨(some 84), (some (81, false)), .fadr 0 (.t 10)⟩, ⟨(some 85), (some (81, false)), .load false 1 (.t 84)⟩, ⟨(some 86), (some (81, false)), .bin .sub (.t 83) (.t 85)⟩, ⟨(some 87), (some (81, false)), .fadr 3 (.t 4)⟩, ⟨(some 88), (some (81, false)), .load false 1 (.t 87)⟩, ⟨(some 89), (some (81, false)), .bin .lss (.t 86) (.t 88)⟩, ⟨(some 90), none, .pick (.t 81) (.v (.bool true)) (.t 89)⟩, ⟨(some 91), none, .mv (.t 90)⟩, ⟨(some 92), (some (91, false)), .mv (.t 9)⟩, ⟨(some 93), (some (91, false)), .bin .gtr (.t 92) (.v (.int .i64 (0)))⟩, ⟨(some 94), (some (91, false)), .mv (.t 93)⟩, ⟨(some 95), (some (94, true)), .fadr 0 (.t 10)⟩, ⟨(some 96), (some (94, true)), .load false 1 (.t 95)⟩, ⟨(some 97), (some (94, true)), .mv (.t 7)⟩, ⟨(some 98), (some (94, true)), .mv (.t 9)⟩, ⟨(some 99), (some (94, true)), .bin .sub (.t 98) (.v (.int .i64 (1)))⟩, ⟨(some 100), (some (94, true)), .iadr 2 (.t 97) (.t 99)⟩, ⟨(some 101), (some (94, true)), .fadr 1 (.t 100)⟩, ⟨(some 102), (some (94, true)), .load false 1 (.t 101)⟩, ⟨(some 103), (some (94, true)), .bin .sub (.t 96) (.t 102)⟩, ⟨(some 104), (some (94, true)), .fadr 2 (.t 4)⟩, ⟨(some 105), (some (94, true)), .load false 1 (.t 104)⟩, ⟨(some 106), (some (94, true)), .bin .lss (.t 103) (.t 105)⟩, ⟨(some 107), (some (91, false)), .pick (.t 94) (.t 106) (.v (.bool false))⟩, ⟨(some 108), none, .pick (.t 91) (.v (.bool true)) (.t 107)⟩] (some ⟨[4,5,6,7,41,42,43,108], [4], []⟩))
  (.cond (.t 108)
  (.seq (.reg false [⟨(some 2), none, .mv (.v (.bool false))⟩] (some ⟨[2], [], []⟩))
  .ret)
  .skip)))))
  (.reg false [⟨(some 109), none, .bin .add (.t 43) (.v (.int .i64 (1)))⟩, ⟨(some 43), none, .mv (.t 109)⟩] (some ⟨[4,5,6,7,41,42,43], [4], []⟩))))))))
  (.seq (.reg false [⟨(some 110), none, .call (.f 60) []⟩, ⟨(some 2), none, .mv (.t 110)⟩] (some ⟨[2], [], []⟩))
  .ret))))))))
theorem c_faf : compileCode Try.prog Try.f8.ntmps (Try.f8.body.getD .skip) A_faf = some (C_faf, []) := by kernel_rfl
theorem r_faf : compileRes Try.prog Try.f8.results.toList = some [.t 2] := by kernel_rfl
theorem b_faf : Try.f8.body = some (Try.f8.body.getD .skip) := by kernel_rfl
theorem n_faf : (Try.f8.name == "runtime.NumGoroutine") = false := by kernel_rfl
theorem fc_faf {xt : Option (List Cel)} {args : List Val} {R : List Cel → Val → Prop} (hn : (if xt.isSome then 1 else 0) + args.length ≤ Try.f8.ntmps) (h : ex Try.prog C_faf [] (fpost xt [.t 2] R) (initSt xt args)) : FC Try.prog 8 xt args R :=
  fc_of_awp Try.func8 b_faf n_faf c_faf r_faf (of_decide_eq_true (by kernel_rfl)) hn h


theorem lastLe_gt' (at_ : Int) : ∀ (l : List Smp) (o : Option Smp), (∀ x ∈ l, at_ < x.a) → lastLe at_ o l = o
  | [], o, _ => rfl
  | x :: r, o, h => by
    rw [lastLe, if_neg (by have := h x (by simp); omega)]
    exact lastLe_gt' at_ r o (fun y hy => h y (by simp [hy]))
theorem lastLe_mem : ∀ (l : List Smp) (lo : Int) (s : Smp) (o : Option Smp), Asc lo l → s ∈ l → lastLe s.a o l = some s
  | [], _, _, _, _, h => by cases h
  | x :: r, lo, s, o, ha, h => by
    obtain ⟨h1, h2, h3⟩ := ha
    rw [lastLe]
    simp only [List.mem_cons] at h
    rcases h with rfl | h
    · rw [if_pos (by omega)]
      exact lastLe_gt' _ r _ (fun y hy => by have := (h3.ge y hy).1; omega)
    · exact lastLe_mem r _ s _ h3 h
theorem vaSp_at {l : List Smp} (hs : serFault l = 0) {s : Smp} (h : s ∈ l) : vaSp l true s.a = (⟨s.a, s.v, 1, s.q⟩, true, 0) := by
  have hg := good_of hs
  have ho := hg.all s h
  unfold okSmp at ho
  rw [vaSp_good true hs (by omega), valSp_last l hg, lastLe_mem l 0 s none (asc_of hs) h]
def fafSt (l : List Smp) (f : List (Int × Int)) (st sp jn ls un i : Int) : AS := ⟨tabV [(4, .one (.bx 4 0)), (5, smps true l), (6, iv un), (7, frsV true f), (41, frsV true f), (42, iv f.length), (43, iv i)], tabO [(4, [.g (.int .i64 st), .g (.int .i64 sp), .g (.int .i64 jn), .g (.int .i64 ls)])], tabO []⟩
set_option maxHeartbeats 12000000 in
set_option maxRecDepth 8000 in
theorem faf_fc (L : List Int) (hL : ∀ x ∈ L, I64 x) (hl : L.length ≤ 9223372036854775807) : FC Try.prog 8 none [ints false L] (fun _ r => r = bv true) := by
  refine fc_faf (by simp +arith) ?_
  unfold C_faf
  simp (maxSteps := 1000000) (disch := omega) only [go_sem, eq_self, decide_true, decide_false, not_true_eq_false, not_false_eq_true, reduceIte, reduceCtorEq, Nat.reduceEqDiff, Nat.reduceAdd, Nat.reduceSub, Nat.reduceLeDiff]
  refine callx_gen (p := 0) triggerOf_fc hL hl (by omega) (by omega) ⟨_, 0, 0, 0, 0, by simp [I64], by simp [I64], by simp [I64], by simp [I64], rfl⟩ ?_
  rintro pa r ha1 ha2 ⟨st, sp, jn, ls, _, _, _, _, rfl⟩
  refine ⟨rfl, ?_⟩
  unfold strm
  simp (maxSteps := 1000000) (disch := omega) only [go_sem, eq_self, decide_true, decide_false, not_true_eq_false, not_false_eq_true, reduceIte, reduceCtorEq, Nat.reduceEqDiff, Nat.reduceAdd, Nat.reduceSub, Nat.reduceLeDiff]
  refine callx_gen (rightCurve_fc 14 (by omega) (by omega)) hL hl (by omega) (by omega) ⟨_, [], rfl, by simp, rfl⟩ ?_
  rintro pb r hb1 hb2 ⟨l, hs, hlm, rfl⟩
  refine ⟨rfl, ?_⟩
  unfold strm
  simp (maxSteps := 1000000) (disch := omega) only [go_sem, eq_self, decide_true, decide_false, not_true_eq_false, not_false_eq_true, reduceIte, reduceCtorEq, Nat.reduceEqDiff, Nat.reduceAdd, Nat.reduceSub, Nat.reduceLeDiff]
  refine callx_gen (range_fc 0 200 (by omega) (by omega) (by omega)) hL hl (by omega) (by omega) ⟨_, 0, by omega, by omega, rfl⟩ ?_
  rintro pc r hc1 hc2 ⟨un, hu1, hu2, rfl⟩
  refine ⟨rfl, ?_⟩
  unfold strm
  simp (maxSteps := 1000000) (disch := omega) only [go_sem, eq_self, decide_true, decide_false, not_true_eq_false, not_false_eq_true, reduceIte, reduceCtorEq, Nat.reduceEqDiff, Nat.reduceAdd, Nat.reduceSub, Nat.reduceLeDiff]
  refine CALL_det (triggerFault_fc st sp jn ls) (.inl rfl) ?_
  by_cases ht : trgF st sp jn ls = 0
  · rw [ht]
    have ht2 : (-1000000 ≤ st ∧ st ≤ 1000000) ∧ (-1000000 ≤ sp ∧ sp ≤ st) ∧ (0 ≤ jn ∧ jn ≤ 86400000) ∧ (0 ≤ ls ∧ ls ≤ 86400000) := by
      unfold trgF at ht
      split at ht
      · assumption
      · omega
    have hlen := frm_len st sp jn ls un l
    have hgc := frm_gch (st := st) (sp := sp) (jn := jn) (ls := ls) ht2.2.2.1.1 (show un ≤ 345686400000 by omega) (asc_of hs)
    have hfw : fwF (frmW st sp jn ls un l) = 0 := by
      unfold fwF
      rw [if_neg (by omega)]
      exact fwF_of none (lo := 0) (by omega) (fun y hy => by cases hy) (hgc.fch ht2.2.2.1.1)
    have hme := fun w hw => frm_mem (st := st) (sp := sp) (jn := jn) (ls := ls) (un := un) (l := l) (w := w) hw
    simp (maxSteps := 1000000) (disch := omega) only [go_sem, eq_self, decide_true, decide_false, not_true_eq_false, not_false_eq_true, reduceIte, reduceCtorEq, Nat.reduceEqDiff, Nat.reduceAdd, Nat.reduceSub, Nat.reduceLeDiff]
    refine CALL_det (frames_fc l (by omega) st sp jn ls un) (.inl rfl) ?_
    rw [frmSp_ok ht hs (by omega) (by omega)]
    generalize frmW st sp jn ls un l = f at *
    simp (maxSteps := 1000000) (disch := omega) only [go_sem, eq_self, decide_true, decide_false, not_true_eq_false, not_false_eq_true, reduceIte, reduceCtorEq, Nat.reduceEqDiff, Nat.reduceAdd, Nat.reduceSub, Nat.reduceLeDiff]
    refine CALL_det (checkFrames_fc f (by omega)) (.inl rfl) ?_
    rw [hfw]
    simp (maxSteps := 1000000) (disch := omega) only [go_sem, eq_self, decide_true, decide_false, not_true_eq_false, not_false_eq_true, reduceIte, reduceCtorEq, Nat.reduceEqDiff, Nat.reduceAdd, Nat.reduceSub, Nat.reduceLeDiff]
    refine ex_loop1 (fafSt l f st sp jn ls un) (fun i => 0 ≤ i ∧ i ≤ f.length) (fun i => (f.length - i).toNat) 0 ⟨by omega, by omega⟩ rfl ?_
    rintro i ⟨g1, g2⟩
    unfold fafSt
    by_cases hi : i < f.length
    · have em := getD_map_at frC f i [] g1 hi
      obtain ⟨⟨s, k1, k2, k3, k4, k5⟩, k6, k7⟩ := hme _ (getD_mem f i.toNat (by omega))
      have k8 := (hgc.fch ht2.2.2.1.1).ge _ (getD_mem f i.toNat (by omega))
      have ev := vaSp_at hs k1
      rw [k2] at ev
      simp (maxSteps := 1000000) (disch := omega) only [go_sem, eq_self, decide_true, decide_false, not_true_eq_false, not_false_eq_true, reduceIte, reduceCtorEq, Nat.reduceEqDiff, Nat.reduceAdd, Nat.reduceSub, Nat.reduceLeDiff]
      refine CALL_det (bvalueAt_fc l (by omega) true (f.getD i.toNat default).1) (.inl rfl) ?_
      rw [ev]
      by_cases c1 : 0 < i
      · have e1 : (i - 1).toNat + 1 = i.toNat := by omega
        have k9 := hgc.at (i - 1).toNat (by omega)
        have kA := (hgc.fch ht2.2.2.1.1).ge _ (getD_mem f (i - 1).toNat (by omega))
        rw [e1] at k9
        clear hme ev
        simp (maxSteps := 10000000) (disch := omega) only [go_sem, eq_self, decide_true, decide_false, not_true_eq_false, not_false_eq_true, reduceIte, reduceCtorEq, Nat.reduceEqDiff, Nat.reduceAdd, Nat.reduceSub, Nat.reduceLeDiff]
        exact ⟨_, rfl, ⟨by omega, by omega⟩, by omega⟩
      · simp (maxSteps := 10000000) (disch := omega) only [go_sem, eq_self, decide_true, decide_false, not_true_eq_false, not_false_eq_true, reduceIte, reduceCtorEq, Nat.reduceEqDiff, Nat.reduceAdd, Nat.reduceSub, Nat.reduceLeDiff]
        exact ⟨_, rfl, ⟨by omega, by omega⟩, by omega⟩
    · simp (maxSteps := 1000000) (disch := omega) only [go_sem, eq_self, decide_true, decide_false, not_true_eq_false, not_false_eq_true, reduceIte, reduceCtorEq, Nat.reduceEqDiff, Nat.reduceAdd, Nat.reduceSub, Nat.reduceLeDiff]
      refine CALL_det ready_fc (.inl rfl) ?_
      simp (maxSteps := 1000000) (disch := omega) only [go_sem, eq_self, decide_true, decide_false, not_true_eq_false, not_false_eq_true, reduceIte, reduceCtorEq, Nat.reduceEqDiff, Nat.reduceAdd, Nat.reduceSub, Nat.reduceLeDiff]
  · simp (maxSteps := 1000000) (disch := omega) only [go_sem, eq_self, decide_true, decide_false, not_true_eq_false, not_false_eq_true, reduceIte, reduceCtorEq, Nat.reduceEqDiff, Nat.reduceAdd, Nat.reduceSub, Nat.reduceLeDiff]
    refine CALL_det ready_fc (.inl rfl) ?_
    simp (maxSteps := 1000000) (disch := omega) only [go_sem, eq_self, decide_true, decide_false, not_true_eq_false, not_false_eq_true, reduceIte, reduceCtorEq, Nat.reduceEqDiff, Nat.reduceAdd, Nat.reduceSub, Nat.reduceLeDiff]
theorem faf_own : ownKnob Try.prog.godebug = none := by kernel_rfl
theorem faf_laid : laidOutB Try.prog = true := by kernel_rfl
set_option maxRecDepth 100000 in
theorem faf_lifted (os : Os) (started : os.Started) (H : Type) (enc : TypeId × Value → H) :
    ReturnsInHanded {} Try.checked os 8 .any (Rows.framesAreFramesSpec.pre6 enc Try.prog Try.f8 Rows.framesAreFramesRow.domain false) (Rows.framesAreFramesSpec.post enc Try.prog Try.f8 false true false false) := by
  refine returnsInHanded_of_change (C := Try.checked) faf_own started (by kernel_rfl) Try.func8
    (ChangeSpec.witness6 (enc := enc) (C := Try.checked) false ⟨#[], #[.slice none 0 0], []⟩ 8 (by kernel_rfl) (by kernel_rfl) (by kernel_rfl) (by kernel_rfl)) ?_
  intro W base args ds gs before hval hW _ _
  exact law_contract (P := Try.prog) (fun L h1 h2 => faf_fc L h1 h2) (fun _ _ => rfl) rfl rfl rfl faf_laid (by kernel_rfl) (of_decide_eq_true (by kernel_rfl)) Try.underlying22 Try.underlying3 (by kernel_rfl) Try.underlying4 W base args ds gs before hval hW
theorem faf_over : Rows.framesAreFramesRow.holds Try.pinned (OpenSpec.ofChange Rows.framesAreFramesSpec) :=
  OpenClaim.holds_of_wide 8 Try.f8 rfl rfl rfl rfl rfl rfl rfl ⟨rfl, rfl, rfl, rfl, rfl⟩ rfl rfl rfl rfl rfl (by kernel_rfl) Try.func8 (by kernel_rfl)
    (of_decide_eq_true (by kernel_rfl)) (by unfold Func.isWrapper; first | (rw [if_pos (by decide +kernel)]; kernel_rfl) | (rw [if_neg (by decide +kernel)]; exact ⟨rfl, rfl⟩))
    (fun os started H enc _ => faf_lifted os started H enc)
theorem frames_are_frames : Rows.FramesAreFramesSaid := faf_over
end Go.Proofs.Ytmbpfhpdicjpcaa

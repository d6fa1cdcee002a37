
/-
  TopBinsAreSamples returns true for every slice of integers, and leaves the slice as it was: the bins of a series have as many good samples as are counted in their intervals. No condition.
-/
import Derived.Test.YtmbpfhpdicjpcaaBin
import Derived.Test.YtmbpfhpdicjpcaaActb
import Derived.Test.YtmbpfhpdicjpcaaGenC
import Derived.Test.YtmbpfhpdicjpcaaAiRow
import Derived.Test.YtmbpfhpdicjpcaaRows
namespace Go.Proofs.Ytmbpfhpdicjpcaa
open Go Go.Ai
set_option linter.unusedSimpArgs false
set_option linter.unusedVariables false
set_option maxHeartbeats 4000000
def A_facts : List Ann := [⟨(some ⟨[], [], []⟩), [], [], [], []⟩, ⟨(some ⟨[1,2,3], [1], []⟩), [], [], [], []⟩, ⟨(some ⟨[1,2,3,4,5], [1], []⟩), [], [], [], []⟩, ⟨(some ⟨[0], [], []⟩), [], [], [], []⟩]
def C_facts : AC := (.seq (.reg false [⟨(some 0), none, .mv (.v (.bool false))⟩] (some ⟨[], [], []⟩))
  (.seq (.reg false [⟨(some 7), none, .build [(.int .i64 (0)), (.int .i64 (0)), (.int .i64 (0))] [(0, 1, (.v (.int .i64 (0)))), (1, 1, (.v (.int .i64 (0))))]⟩, ⟨(some 8), none, .build [(.int .i64 (0)), (.int .i64 (0)), (.int .i64 (0))] [(0, 1, (.v (.int .i64 (4)))), (1, 1, (.v (.int .i64 (2))))]⟩, ⟨(some 9), none, .bslice 3 2 [(.t 7), (.t 8)]⟩, ⟨(some 10), none, .call (.f 47) [(.t 9), (.v (.int .i64 (1)))]⟩, ⟨(some 6), none, .mv (.t 10)⟩, ⟨(some 11), none, .extr (.t 6) 0⟩, ⟨(some 12), none, .extr (.t 6) 1⟩, ⟨(some 13), none, .extr (.t 6) 2⟩, ⟨(some 1), none, .alloc [(.int .i64 (0)), (.int .i64 (0))]⟩, ⟨none, none, .store 2 (.t 1) (.t 11)⟩, ⟨(some 2), none, .mv (.t 12)⟩, ⟨(some 3), none, .mv (.t 13)⟩] (some ⟨[1,2,3], [1], []⟩))
  (.seq (.reg false [⟨(some 15), none, .build [(.string (ByteArray.mk #[])), (.string (ByteArray.mk #[])), (.int .i64 (0)), (.int .i64 (0)), (.int .i64 (0)), (.int .i64 (0)), (.int .i64 (0)), (.int .i64 (0)), (.bool false), (.string (ByteArray.mk #[]))] [(0, 1, (.v (.string (ByteArray.mk #[97])))), (1, 1, (.v (.string (ByteArray.mk #[116])))), (2, 1, (.v (.int .i64 (1)))), (3, 1, (.v (.int .i64 (5)))), (7, 1, (.v (.int .i64 (1))))]⟩, ⟨(some 16), none, .build [(.int .i64 (0)), (.int .i64 (0)), (.int .i64 (0))] [(0, 1, (.v (.int .i64 (3)))), (1, 1, (.v (.int .i64 (6))))]⟩, ⟨(some 17), none, .bslice 3 1 [(.t 16)]⟩, ⟨(some 18), none, .call (.f 57) [(.t 15), (.t 17), (.v (.int .i64 (9)))]⟩, ⟨(some 14), none, .mv (.t 18)⟩, ⟨(some 19), none, .extr (.t 14) 0⟩, ⟨(some 20), none, .extr (.t 14) 1⟩, ⟨(some 4), none, .mv (.t 19)⟩, ⟨(some 5), none, .mv (.t 20)⟩] (some ⟨[1,2,3,4,5], [1], []⟩))
  (.seq (.reg false [⟨(some 21), none, .mv (.t 3)⟩, ⟨(some 22), none, .bin .eql (.t 21) (.v (.int .i64 (0)))⟩, ⟨(some 23), none, .mv (.t 22)⟩, ⟨(some 24), (some (23, true)), .mv (.t 2)⟩, ⟨(some 25), none, .pick (.t 23) (.t 24) (.v (.bool false))⟩, ⟨(some 26), none, .mv (.t 25)⟩, ⟨(some 27), (some (26, true)), .load true 2 (.t 1)⟩, ⟨(some 28), (some (26, true)), .build [(.int .i64 (0)), (.int .i64 (0))] [(0, 1, (.v (.int .i64 (1)))), (1, 1, (.v (.int .i64 (2))))]⟩, ⟨(some 29), (some (26, true)), .eqs false true [.i .i64, .i .i64] (.t 27) (.t 28)⟩, ⟨(some 30), none, .pick (.t 26) (.t 29) (.v (.bool false))⟩, ⟨(some 31), none, .mv (.t 30)⟩, ⟨(some 32), (some (31, true)), .mv (.t 5)⟩, ⟨(some 33), (some (31, true)), .bin .eql (.t 32) (.v (.int .i64 (0)))⟩, ⟨(some 34), none, .pick (.t 31) (.t 33) (.v (.bool false))⟩, ⟨(some 35), none, .mv (.t 34)⟩, ⟨(some 36), (some (35, true)), .mv (.t 4)⟩, ⟨(some 37), (some (35, true)), .len (.t 36)⟩, ⟨(some 38), (some (35, true)), .bin .eql (.t 37) (.v (.int .i64 (1)))⟩, ⟨(some 39), none, .pick (.t 35) (.t 38) (.v (.bool false))⟩, ⟨(some 0), none, .mv (.t 39)⟩] (some ⟨[0], [], []⟩))
  .ret))))
theorem c_facts : compileCode Try.prog Try.f77.ntmps (Try.f77.body.getD .skip) A_facts = some (C_facts, []) := by kernel_rfl
theorem r_facts : compileRes Try.prog Try.f77.results.toList = some [.t 0] := by kernel_rfl
theorem b_facts : Try.f77.body = some (Try.f77.body.getD .skip) := by kernel_rfl
theorem n_facts : (Try.f77.name == "runtime.NumGoroutine") = false := by kernel_rfl
theorem fc_facts {xt : Option (List Cel)} {args : List Val} {R : List Cel → Val → Prop} (hn : (if xt.isSome then 1 else 0) + args.length ≤ Try.f77.ntmps) (h : ex Try.prog C_facts [] (fpost xt [.t 0] R) (initSt xt args)) : FC Try.prog 77 xt args R :=
  fc_of_awp Try.func77 b_facts n_facts c_facts r_facts (of_decide_eq_true (by kernel_rfl)) hn h

def A_tbn : List Ann := [⟨(some ⟨[0], [], []⟩), [], [], [], []⟩, ⟨(some ⟨[3,16], [16], []⟩), [], [], [], []⟩, ⟨(some ⟨[4,5], [], []⟩), [], [], [], []⟩, ⟨(some ⟨[4,5,6,7], [], []⟩), [], [], [], []⟩, ⟨(some ⟨[4,5,6,26], [], []⟩), [], [], [], []⟩, ⟨(some ⟨[2], [], []⟩), [], [], [], []⟩, ⟨(some ⟨[4,5,6,8], [], []⟩), [], [], [], []⟩, ⟨(some ⟨[4,5,8,27,28,29], [], []⟩), [], [], [], []⟩, ⟨(some ⟨[4,5,8,27,28,29,30], [], []⟩), [], [], [], []⟩, ⟨(some ⟨[4,5,8,10,27,28,29], [10], []⟩), [], [], [], []⟩, ⟨(some ⟨[4,5,8,10,11,12,27,28,29], [10], []⟩), [], [], [], []⟩, ⟨(some ⟨[4,5,8,11,27,28,29,52], [], []⟩), [], [], [], []⟩, ⟨(some ⟨[2], [], []⟩), [], [], [], []⟩, ⟨(some ⟨[4,5,8,27,28,29], [], []⟩), [], [], [], []⟩, ⟨(some ⟨[4,5,8,27,28,29], [], []⟩), [], [], [], []⟩, ⟨(some ⟨[7,8,13], [], []⟩), [], [], [], []⟩, ⟨(some ⟨[2], [], []⟩), [], [], [], []⟩]
def C_tbn : AC := (.seq (.reg false [⟨(some 2), none, .mv (.v (.bool false))⟩] (some ⟨[0], [], []⟩))
  (.seq (.reg false [⟨(some 14), none, .mv (.t 0)⟩, ⟨(some 15), none, .build [(.slice none 0 0), (.int .i64 (0))] [(0, 1, (.t 14))]⟩, ⟨(some 16), none, .box (.t 15)⟩, ⟨(some 3), none, .mv (.t 16)⟩] (some ⟨[3,16], [16], []⟩))
  (.seq (.reg false [⟨(some 17), none, .mv (.t 3)⟩, ⟨(some 18), none, .callx (.f 55) [(.t 17), (.v (.int .i64 (14)))]⟩, ⟨(some 4), none, .mv (.t 18)⟩, ⟨(some 5), none, .mv (.v (.int .i64 (1000)))⟩] (some ⟨[4,5], [], []⟩))
  (.seq (.reg false [⟨(some 20), none, .mv (.t 4)⟩, ⟨(some 21), none, .mv (.t 5)⟩, ⟨(some 22), none, .call (.f 74) [(.t 20), (.t 21)]⟩, ⟨(some 19), none, .mv (.t 22)⟩, ⟨(some 23), none, .extr (.t 19) 0⟩, ⟨(some 24), none, .extr (.t 19) 1⟩, ⟨(some 6), none, .mv (.t 23)⟩, ⟨(some 7), none, .mv (.t 24)⟩] (some ⟨[4,5,6,7], [], []⟩))
  (.seq (.seq (.reg false [⟨(some 25), none, .mv (.t 7)⟩, ⟨(some 26), none, .bin .neq (.t 25) (.v (.int .i64 (0)))⟩] (some ⟨[4,5,6,26], [], []⟩))
  (.cond (.t 26)
  (.seq (.reg false [⟨(some 2), none, .mv (.v (.bool false))⟩] (some ⟨[2], [], []⟩))
  .ret)
  .skip))
  (.seq (.reg false [⟨(some 8), none, .mv (.v (.int .i64 (0)))⟩] (some ⟨[4,5,6,8], [], []⟩))
  (.seq (.seq (.reg false [⟨(some 27), none, .mv (.t 6)⟩, ⟨(some 28), none, .len (.t 27)⟩, ⟨(some 29), none, .mv (.v (.int .i64 (0)))⟩] (some ⟨[4,5,8,27,28,29], [], []⟩))
  (.block 0 (.loop (.seq (.reg false [⟨(some 30), none, .bin .lss (.t 29) (.t 28)⟩] (some ⟨[4,5,8,27,28,29,30], [], []⟩))
  (.seq (.cond (.t 30)
  .skip
  (.exit 0))
  (.seq (.block 1 (.seq (.reg false [⟨(some 31), none, .iadr 6 (.t 27) (.t 29)⟩, ⟨(some 32), none, .load true 6 (.t 31)⟩, ⟨(some 10), none, .alloc [(.int .i64 (0)), (.int .i64 (0)), (.int .i64 (0)), (.int .i64 (0)), (.int .i64 (0)), (.int .i64 (0))]⟩, ⟨none, none, .store 6 (.t 10) (.t 32)⟩] (some ⟨[4,5,8,10,27,28,29], [10], []⟩))
  (.seq (.reg false [⟨(some 34), none, .mv (.t 4)⟩, ⟨(some 35), none, .fadr 0 (.t 10)⟩, ⟨(some 36), none, .load false 1 (.t 35)⟩, ⟨(some 37), none, .fadr 0 (.t 10)⟩, ⟨(some 38), none, .load false 1 (.t 37)⟩, ⟨(some 39), none, .mv (.t 5)⟩, ⟨(some 40), none, .bin .add (.t 38) (.t 39)⟩, ⟨(some 41), none, .build [(.int .i64 (0)), (.int .i64 (0))] [(0, 1, (.t 36)), (1, 1, (.t 40))]⟩, ⟨(some 42), none, .call (.f 75) [(.t 34), (.t 41), (.v (.int .i64 (0)))]⟩, ⟨(some 33), none, .mv (.t 42)⟩, ⟨(some 43), none, .extr (.t 33) 0⟩, ⟨(some 44), none, .extr (.t 33) 1⟩, ⟨(some 11), none, .mv (.t 43)⟩, ⟨(some 12), none, .mv (.t 44)⟩] (some ⟨[4,5,8,10,11,12,27,28,29], [10], []⟩))
  (.seq (.seq (.reg false [⟨(some 45), none, .mv (.t 12)⟩, ⟨(some 46), none, .bin .neq (.t 45) (.v (.int .i64 (0)))⟩, ⟨(some 47), none, .mv (.t 46)⟩, ⟨(some 48), (some (47, false)), .mv (.t 11)⟩, ⟨(some 49), (some (47, false)), .fadr 2 (.t 10)⟩, ⟨(some 50), (some (47, false)), .load false 1 (.t 49)⟩, ⟨(some 51), (some (47, false)), .bin .neq (.t 48) (.t 50)⟩, ⟨(some 52), none, .pick (.t 47) (.v (.bool true)) (.t 51)⟩] (some ⟨[4,5,8,11,27,28,29,52], [], []⟩))
  (.cond (.t 52)
  (.seq (.reg false [⟨(some 2), none, .mv (.v (.bool false))⟩] (some ⟨[2], [], []⟩))
  .ret)
  .skip))
  (.reg false [⟨(some 53), none, .mv (.t 8)⟩, ⟨(some 54), none, .mv (.t 11)⟩, ⟨(some 55), none, .bin .add (.t 53) (.t 54)⟩, ⟨(some 8), none, .mv (.t 55)⟩] (some ⟨[4,5,8,27,28,29], [], []⟩))))))
  (.reg false [⟨(some 56), none, .bin .add (.t 29) (.v (.int .i64 (1)))⟩, ⟨(some 29), none, .mv (.t 56)⟩] (some ⟨[4,5,8,27,28,29], [], []⟩))))))))
  (.seq (.reg false [⟨(some 58), none, .mv (.t 4)⟩, ⟨(some 59), none, .build [(.int .i64 (0)), (.int .i64 (0))] [(1, 1, (.v (.int .i64 (345686400000))))]⟩, ⟨(some 60), none, .call (.f 75) [(.t 58), (.t 59), (.v (.int .i64 (0)))]⟩, ⟨(some 57), none, .mv (.t 60)⟩, ⟨(some 61), none, .extr (.t 57) 0⟩, ⟨(some 62), none, .extr (.t 57) 1⟩, ⟨(some 13), none, .mv (.t 61)⟩, ⟨(some 7), none, .mv (.t 62)⟩] (some ⟨[7,8,13], [], []⟩))
  (.seq (.reg false [⟨(some 63), none, .mv (.t 7)⟩, ⟨(some 64), none, .bin .eql (.t 63) (.v (.int .i64 (0)))⟩, ⟨(some 65), none, .mv (.t 64)⟩, ⟨(some 66), (some (65, true)), .mv (.t 13)⟩, ⟨(some 67), (some (65, true)), .mv (.t 8)⟩, ⟨(some 68), (some (65, true)), .bin .eql (.t 66) (.t 67)⟩, ⟨(some 69), none, .pick (.t 65) (.t 68) (.v (.bool false))⟩, ⟨(some 70), none, .mv (.t 69)⟩, ⟨(some 71), (some (70, true)), .call (.f 76) [(.v (.int .i64 (0)))]⟩, ⟨(some 72), (some (70, true)), .bin .eql (.t 71) (.v (.int .i64 (0)))⟩, ⟨(some 73), none, .pick (.t 70) (.t 72) (.v (.bool false))⟩, ⟨(some 74), none, .mv (.t 73)⟩, ⟨(some 75), (some (74, true)), .call (.f 77) []⟩, ⟨(some 76), none, .pick (.t 74) (.t 75) (.v (.bool false))⟩, ⟨(some 2), none, .mv (.t 76)⟩] (some ⟨[2], [], []⟩))
  .ret)))))))))
theorem c_tbn : compileCode Try.prog Try.f9.ntmps (Try.f9.body.getD .skip) A_tbn = some (C_tbn, []) := by kernel_rfl
theorem r_tbn : compileRes Try.prog Try.f9.results.toList = some [.t 2] := by kernel_rfl
theorem b_tbn : Try.f9.body = some (Try.f9.body.getD .skip) := by kernel_rfl
theorem n_tbn : (Try.f9.name == "runtime.NumGoroutine") = false := by kernel_rfl
theorem fc_tbn {xt : Option (List Cel)} {args : List Val} {R : List Cel → Val → Prop} (hn : (if xt.isSome then 1 else 0) + args.length ≤ Try.f9.ntmps) (h : ex Try.prog C_tbn [] (fpost xt [.t 2] R) (initSt xt args)) : FC Try.prog 9 xt args R :=
  fc_of_awp Try.func9 b_tbn n_tbn c_tbn r_tbn (of_decide_eq_true (by kernel_rfl)) hn h


theorem facts_fc : FC Try.prog 77 none [] (fun _ r => r = bv true) := by
  refine fc_facts (by simp +arith) ?_
  unfold C_facts
  simp (maxSteps := 1000000) (disch := omega) only [go_sem, eq_self, decide_true, decide_false, not_true_eq_false, not_false_eq_true, reduceIte, reduceCtorEq, Nat.reduceEqDiff, Nat.reduceAdd, Nat.reduceSub, Nat.reduceLeDiff]
  refine CALL_det (reconstruct_fc [⟨0, 0, 0⟩, ⟨4, 2, 0⟩] (by simp) 1) (.inl rfl) ?_
  have e : recoSp [⟨0, 0, 0⟩, ⟨4, 2, 0⟩] 1 = ((1, 2), true, 0) := by kernel_rfl
  rw [e]
  simp (maxSteps := 1000000) (disch := omega) only [go_sem, eq_self, decide_true, decide_false, not_true_eq_false, not_false_eq_true, reduceIte, reduceCtorEq, Nat.reduceEqDiff, Nat.reduceAdd, Nat.reduceSub, Nat.reduceLeDiff]
  refine CALL_det (activeP_fc 1 5 0 0 0 1 9 [⟨3, 6, 0⟩] (by simp)) (.inl rfl) ?_
  have e2 : actSp 1 5 0 0 0 1 [⟨3, 6, 0⟩] 9 = ([(3, 9)], 0) := by kernel_rfl
  rw [e2]
  simp (maxSteps := 1000000) (disch := omega) only [go_sem, eq_self, decide_true, decide_false, not_true_eq_false, not_false_eq_true, reduceIte, reduceCtorEq, Nat.reduceEqDiff, Nat.reduceAdd, Nat.reduceSub, Nat.reduceLeDiff]
  rfl
theorem cntSp_ok {l : List Smp} (hs : serFault l = 0) {f t : Int} (hw : 0 ≤ f ∧ f ≤ t ∧ t ≤ 345686400000) : cntSp l f t 0 = (cntN 0 (ins l f t false), 0) := by
  have e : bothFault l f t = 0 := by unfold bothFault; rw [if_neg (by omega)]; unfold winFault; rw [if_neg (by omega)]
  unfold cntSp
  rw [if_neg (by omega), if_neg (by omega)]
def tbSt (l : List Smp) (b : List Bn) (i n : Int) : AS := ⟨tabV [(4, smps true l), (5, iv 1000), (8, iv n), (27, bnsV true b), (28, iv b.length), (29, iv i)], tabO [], tabO []⟩
theorem bnsW_len (l : List Smp) : (bnsW l).length ≤ l.length := by
  have h : ∀ (r : List Smp) (out : List Bn), (r.foldl (fun out x => putB out (mkB x)) out).length ≤ out.length + r.length := by
    intro r
    induction r with
    | nil => intro out; simp
    | cons x r ih =>
      intro out
      have h1 := ih (putB out (mkB x))
      have h2 := putB_len out (mkB x)
      rw [List.foldl_cons, List.length_cons]; omega
  have := h l []
  simpa [bnsW] using this
theorem tbn_fc (L : List Int) (hL : ∀ x ∈ L, I64 x) (hl : L.length ≤ 9223372036854775807) : FC Try.prog 9 none [ints false L] (fun _ r => r = bv true) := by
  refine fc_tbn (by simp +arith) ?_
  unfold C_tbn
  simp (maxSteps := 1000000) (disch := omega) only [go_sem, eq_self, decide_true, decide_false, not_true_eq_false, not_false_eq_true, reduceIte, reduceCtorEq, Nat.reduceEqDiff, Nat.reduceAdd, Nat.reduceSub, Nat.reduceLeDiff]
  refine callx_gen (p := 0) (rightCurve_fc 14 (by omega) (by omega)) hL hl (by omega) (by omega) ⟨_, [], rfl, by simp, rfl⟩ ?_
  rintro pa r ha1 ha2 ⟨l, hs, hlm, rfl⟩
  refine ⟨rfl, ?_⟩
  unfold strm
  simp (maxSteps := 1000000) (disch := omega) only [go_sem, eq_self, decide_true, decide_false, not_true_eq_false, not_false_eq_true, reduceIte, reduceCtorEq, Nat.reduceEqDiff, Nat.reduceAdd, Nat.reduceSub, Nat.reduceLeDiff]
  refine CALL_det (binsP_fc l hs) (.inl rfl) ?_
  obtain ⟨hB, hS⟩ := bins_law hs
  have hbl := bnsW_len l
  have hz := cntSp_ok hs (f := 0) (t := 345686400000) (by omega)
  rw [← hS] at hz
  generalize bnsW l = b at *
  simp (maxSteps := 1000000) (disch := omega) only [go_sem, eq_self, decide_true, decide_false, not_true_eq_false, not_false_eq_true, reduceIte, reduceCtorEq, Nat.reduceEqDiff, Nat.reduceAdd, Nat.reduceSub, Nat.reduceLeDiff]
  refine ex_loop2 (tbSt l b) (fun i n => 0 ≤ i ∧ i ≤ b.length ∧ 0 ≤ n ∧ n ≤ i * 1000 ∧ n + sumC (b.drop i.toNat) = sumC b) (fun i _ => (b.length - i).toNat) 0 0 ⟨by omega, by omega, by omega, by omega, by simp⟩ rfl ?_
  rintro i n ⟨g1, g2, g3, g4, g5⟩
  unfold tbSt
  by_cases hi : i < b.length
  · have e2 : (i + 1).toNat = i.toNat + 1 := by omega
    have em := getD_map_at bnC b i [] g1 hi
    obtain ⟨k1, k2, k3⟩ := hB _ (getD_mem b i.toNat (by omega))
    rw [drop_cons b i.toNat (by omega), ← e2, sumC] at g5
    have hc := cntSp_ok hs (f := (b.getD i.toNat default).f) (t := (b.getD i.toNat default).f + 1000) (by omega)
    rw [← k3] at hc
    simp (maxSteps := 1000000) (disch := omega) only [go_sem, eq_self, decide_true, decide_false, not_true_eq_false, not_false_eq_true, reduceIte, reduceCtorEq, Nat.reduceEqDiff, Nat.reduceAdd, Nat.reduceSub, Nat.reduceLeDiff]
    refine CALL_det (count_fc l (by omega) (b.getD i.toNat default).f ((b.getD i.toNat default).f + 1000) 0) (.inl rfl) ?_
    rw [hc]
    simp (maxSteps := 1000000) (disch := omega) only [go_sem, eq_self, decide_true, decide_false, not_true_eq_false, not_false_eq_true, reduceIte, reduceCtorEq, Nat.reduceEqDiff, Nat.reduceAdd, Nat.reduceSub, Nat.reduceLeDiff]
    exact ⟨i + 1, n + (b.getD i.toNat default).c, rfl, ⟨by omega, by omega, by omega, by omega, by omega⟩, by omega⟩
  · rw [List.drop_eq_nil_of_le (by omega), sumC, Int.add_zero] at g5
    simp (maxSteps := 1000000) (disch := omega) only [go_sem, eq_self, decide_true, decide_false, not_true_eq_false, not_false_eq_true, reduceIte, reduceCtorEq, Nat.reduceEqDiff, Nat.reduceAdd, Nat.reduceSub, Nat.reduceLeDiff]
    refine CALL_det (count_fc l (by omega) 0 345686400000 0) (.inl rfl) ?_
    rw [hz, ← g5]
    simp (maxSteps := 1000000) (disch := omega) only [go_sem, eq_self, decide_true, decide_false, not_true_eq_false, not_false_eq_true, reduceIte, reduceCtorEq, Nat.reduceEqDiff, Nat.reduceAdd, Nat.reduceSub, Nat.reduceLeDiff]
    refine CALL_det (limitFault_fc 0) (.inl rfl) ?_
    have e0 : limF 0 = 0 := by unfold limF; rw [if_pos (by omega)]
    rw [e0]
    simp (maxSteps := 1000000) (disch := omega) only [go_sem, eq_self, decide_true, decide_false, not_true_eq_false, not_false_eq_true, reduceIte, reduceCtorEq, Nat.reduceEqDiff, Nat.reduceAdd, Nat.reduceSub, Nat.reduceLeDiff]
    refine CALL_det facts_fc (.inl rfl) ?_
    simp (maxSteps := 1000000) (disch := omega) only [go_sem, eq_self, decide_true, decide_false, not_true_eq_false, not_false_eq_true, reduceIte, reduceCtorEq, Nat.reduceEqDiff, Nat.reduceAdd, Nat.reduceSub, Nat.reduceLeDiff]
theorem tbn_own : ownKnob Try.prog.godebug = none := by kernel_rfl
theorem tbn_laid : laidOutB Try.prog = true := by kernel_rfl
set_option maxRecDepth 100000 in
theorem tbn_lifted (os : Os) (started : os.Started) (H : Type) (enc : TypeId × Value → H) :
    ReturnsInHanded {} Try.checked os 9 .any (Rows.topBinsAreSamplesSpec.pre6 enc Try.prog Try.f9 Rows.topBinsAreSamplesRow.domain false) (Rows.topBinsAreSamplesSpec.post enc Try.prog Try.f9 false true false false) := by
  refine returnsInHanded_of_change (C := Try.checked) tbn_own started (by kernel_rfl) Try.func9
    (ChangeSpec.witness6 (enc := enc) (C := Try.checked) false ⟨#[], #[.slice none 0 0], []⟩ 8 (by kernel_rfl) (by kernel_rfl) (by kernel_rfl) (by kernel_rfl)) ?_
  intro W base args ds gs before hval hW _ _
  exact law_contract (P := Try.prog) (fun L h1 h2 => tbn_fc L h1 h2) (fun _ _ => rfl) rfl rfl rfl tbn_laid (by kernel_rfl) (of_decide_eq_true (by kernel_rfl)) Try.underlying22 Try.underlying3 (by kernel_rfl) Try.underlying4 W base args ds gs before hval hW
theorem tbn_over : Rows.topBinsAreSamplesRow.holds Try.pinned (OpenSpec.ofChange Rows.topBinsAreSamplesSpec) :=
  OpenClaim.holds_of_wide 9 Try.f9 rfl rfl rfl rfl rfl rfl rfl ⟨rfl, rfl, rfl, rfl, rfl⟩ rfl rfl rfl rfl rfl (by kernel_rfl) Try.func9 (by kernel_rfl)
    (of_decide_eq_true (by kernel_rfl)) (by unfold Func.isWrapper; first | (rw [if_pos (by decide +kernel)]; kernel_rfl) | (rw [if_neg (by decide +kernel)]; exact ⟨rfl, rfl⟩))
    (fun os started H enc _ => tbn_lifted os started H enc)
theorem top_bins_are_samples : Rows.TopBinsAreSamplesSaid := tbn_over
end Go.Proofs.Ytmbpfhpdicjpcaa

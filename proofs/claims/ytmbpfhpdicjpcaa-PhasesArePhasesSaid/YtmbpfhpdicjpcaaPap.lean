
/-
  PhasesArePhases returns true for every slice of integers, and leaves the slice as it was: phases are right, within the frame, with one value each; a recipe of them all follows. No condition.
-/
import Derived.Test.YtmbpfhpdicjpcaaFol
import Derived.Test.YtmbpfhpdicjpcaaRdy
import Derived.Test.YtmbpfhpdicjpcaaAiRow
import Derived.Test.YtmbpfhpdicjpcaaRows
namespace Go.Proofs.Ytmbpfhpdicjpcaa
open Go Go.Ai
set_option linter.unusedSimpArgs false
set_option linter.unusedVariables false
set_option maxHeartbeats 4000000
def A_pap : List Ann := [⟨(some ⟨[0], [], []⟩), [], [], [], []⟩, ⟨(some ⟨[3,18], [18], []⟩), [], [], [], []⟩, ⟨(some ⟨[3,4,5,18], [18], []⟩), [], [], [], []⟩, ⟨(some ⟨[4,6], [6], []⟩), [], [], [], []⟩, ⟨(some ⟨[4,6,7,8], [6], []⟩), [], [], [], []⟩, ⟨(some ⟨[4,6,7,36], [6], []⟩), [], [], [], []⟩, ⟨(some ⟨[2], [], []⟩), [], [], [], []⟩, ⟨(some ⟨[4,6,7,37,38,39], [6], []⟩), [], [], [], []⟩, ⟨(some ⟨[4,6,7,37,38,39,40], [6], []⟩), [], [], [], []⟩, ⟨(some ⟨[4,6,7,9,10,37,38,39], [6,10], []⟩), [], [], [], []⟩, ⟨(some ⟨[4,6,7,9,10,11,12,13,37,38,39], [6,10,11], []⟩), [], [], [], []⟩, ⟨(some ⟨[4,6,7,37,38,39,108], [6], []⟩), [], [], [], []⟩, ⟨(some ⟨[2], [], []⟩), [], [], [], []⟩, ⟨(some ⟨[4,6,7,37,38,39], [6], []⟩), [], [], [], []⟩, ⟨(some ⟨[7,112], [], []⟩), [], [], [], []⟩, ⟨(some ⟨[2], [], []⟩), [], [], [], []⟩, ⟨(some ⟨[8,14,15], [], []⟩), [], [], [], []⟩, ⟨(some ⟨[2], [], []⟩), [], [], [], []⟩]
def C_pap : AC := (.seq (.reg false [⟨(some 2), none, .mv (.v (.bool false))⟩] (some ⟨[0], [], []⟩))
  (.seq (.reg false [⟨(some 16), none, .mv (.t 0)⟩, ⟨(some 17), none, .build [(.slice none 0 0), (.int .i64 (0))] [(0, 1, (.t 16))]⟩, ⟨(some 18), none, .box (.t 17)⟩, ⟨(some 3), none, .mv (.t 18)⟩] (some ⟨[3,18], [18], []⟩))
  (.seq (.reg false [⟨(some 19), none, .mv (.t 3)⟩, ⟨(some 20), none, .callx (.f 55) [(.t 19), (.v (.int .i64 (12)))]⟩, ⟨(some 21), none, .mv (.t 3)⟩, ⟨(some 22), none, .callx (.f 56) [(.t 21), (.v (.int .i64 (0))), (.v (.int .i64 (40)))]⟩, ⟨(some 4), none, .mv (.t 20)⟩, ⟨(some 5), none, .mv (.t 22)⟩] (some ⟨[3,4,5,18], [18], []⟩))
  (.seq (.reg false [⟨(some 23), none, .mv (.t 5)⟩, ⟨(some 24), none, .mv (.t 5)⟩, ⟨(some 25), none, .mv (.t 3)⟩, ⟨(some 26), none, .callx (.f 56) [(.t 25), (.v (.int .i64 (1))), (.v (.int .i64 (100)))]⟩, ⟨(some 27), none, .bin .add (.t 24) (.t 26)⟩, ⟨(some 28), none, .build [(.int .i64 (0)), (.int .i64 (0))] [(0, 1, (.t 23)), (1, 1, (.t 27))]⟩, ⟨(some 6), none, .alloc [(.int .i64 (0)), (.int .i64 (0))]⟩, ⟨none, none, .store 2 (.t 6) (.t 28)⟩] (some ⟨[4,6], [6], []⟩))
  (.seq (.reg false [⟨(some 30), none, .mv (.t 4)⟩, ⟨(some 31), none, .load true 2 (.t 6)⟩, ⟨(some 32), none, .call (.f 83) [(.t 30), (.t 31)]⟩, ⟨(some 29), none, .mv (.t 32)⟩, ⟨(some 33), none, .extr (.t 29) 0⟩, ⟨(some 34), none, .extr (.t 29) 1⟩, ⟨(some 7), none, .mv (.t 33)⟩, ⟨(some 8), none, .mv (.t 34)⟩] (some ⟨[4,6,7,8], [6], []⟩))
  (.seq (.seq (.reg false [⟨(some 35), none, .mv (.t 8)⟩, ⟨(some 36), none, .bin .neq (.t 35) (.v (.int .i64 (0)))⟩] (some ⟨[4,6,7,36], [6], []⟩))
  (.cond (.t 36)
  (.seq (.reg false [⟨(some 2), none, .mv (.v (.bool false))⟩] (some ⟨[2], [], []⟩))
  .ret)
  .skip))
  (.seq (.seq (.reg false [⟨(some 37), none, .mv (.t 7)⟩, ⟨(some 38), none, .len (.t 37)⟩, ⟨(some 39), none, .mv (.v (.int .i64 (0)))⟩] (some ⟨[4,6,7,37,38,39], [6], []⟩))
  (.block 0 (.loop (.seq (.reg false [⟨(some 40), none, .bin .lss (.t 39) (.t 38)⟩] (some ⟨[4,6,7,37,38,39,40], [6], []⟩))
  (.seq (.cond (.t 40)
  .skip
  (.exit 0))
  (.seq (.block 1 (.seq (.reg false [⟨(some 41), none, .mv (.t 39)⟩, ⟨(some 42), none, .iadr 3 (.t 37) (.t 39)⟩, ⟨(some 43), none, .load true 3 (.t 42)⟩, ⟨(some 10), none, .alloc [(.int .i64 (0)), (.int .i64 (0)), (.int .i64 (0))]⟩, ⟨(some 9), none, .mv (.t 41)⟩, ⟨none, none, .store 3 (.t 10) (.t 43)⟩] (some ⟨[4,6,7,9,10,37,38,39], [6,10], []⟩))
  (.seq (.reg false [⟨(some 45), none, .mv (.t 4)⟩, ⟨(some 46), none, .fadr 1 (.t 10)⟩, ⟨(some 47), none, .fadr 0 (.t 46)⟩, ⟨(some 48), none, .load false 1 (.t 47)⟩, ⟨(some 49), none, .call (.f 73) [(.t 45), (.v (.bool true)), (.t 48)]⟩, ⟨(some 44), none, .mv (.t 49)⟩, ⟨(some 50), none, .extr (.t 44) 0⟩, ⟨(some 51), none, .extr (.t 44) 1⟩, ⟨(some 52), none, .extr (.t 44) 2⟩, ⟨(some 11), none, .alloc [(.int .i64 (0)), (.int .i64 (0)), (.int .i64 (0)), (.int .i64 (0))]⟩, ⟨none, none, .store 4 (.t 11) (.t 50)⟩, ⟨(some 12), none, .mv (.t 51)⟩, ⟨(some 13), none, .mv (.t 52)⟩] (some ⟨[4,6,7,9,10,11,12,13,37,38,39], [6,10,11], []⟩))
  (.seq (.reg true [⟨(some 53), none, .mv (.t 13)⟩, ⟨(some 54), none, .bin .neq (.t 53) (.v (.int .i64 (0)))⟩, ⟨(some 55), none, .mv (.t 54)⟩, ⟨(some 56), (some (55, false)), .mv (.t 12)⟩, ⟨(some 57), (some (55, false)), .un .not (.t 56)⟩, ⟨(some 58), none, .pick (.t 55) (.v (.bool true)) (.t 57)⟩, ⟨(some 59), none, .mv (.t 58)⟩, ⟨(some 60), (some (59, false)), .fadr 1 (.t 11)⟩, ⟨(some 61), (some (59, false)), .load true 2 (.t 60)⟩, ⟨(some 62), (some (59, false)), .fadr 0 (.t 10)⟩, ⟨(some 63), (some (59, false)), .load false 1 (.t 62)⟩, ⟨(some 64), (some (59, false)), .build [(.int .i64 (0)), (.int .i64 (0))] [(0, 1, (.t 63)), (1, 1, (.v (.int .i64 (1))))]⟩, ⟨(some 65), (some (59, false)), .eqs true true [.i .i64, .i .i64] (.t 61) (.t 64)⟩, ⟨(some 66), none, .pick (.t 59) (.v (.bool true)) (.t 65)⟩, ⟨(some 67), none, .mv (.t 66)⟩, ⟨(some 68), (some (67, false)), .fadr 1 (.t 10)⟩, ⟨(some 69), (some (67, false)), .fadr 0 (.t 68)⟩, ⟨(some 70), (some (67, false)), .load false 1 (.t 69)⟩, ⟨(some 71), (some (67, false)), .fadr 0 (.t 6)⟩, ⟨(some 72), (some (67, false)), .load false 1 (.t 71)⟩, ⟨(some 73), (some (67, false)), .bin .lss (.t 70) (.t 72)⟩, ⟨(some 74), none, .pick (.t 67) (.v (.bool true)) (.t 73)⟩, ⟨(some 75), none, .mv (.t 74)⟩, ⟨(some 76), (some (75, false)), .fadr 1 (.t 10)⟩, ⟨(some 77), (some (75, false)), .fadr 1 (.t 76)⟩, ⟨(some 78), (some (75, false)), .load false 1 (.t 77)⟩, ⟨(some 79), (some (75, false)), .fadr 1 (.t 6)⟩, ⟨(some 80), (some (75, false)), .load false 1 (.t 79)⟩, ⟨(some 81), (some (75, false)), .bin .gtr (.t 78) (.t 80)⟩, ⟨(some 82), none, .pick (.t 75) (.v (.bool true)) (.t 81)⟩, ⟨(some 83), none, .mv (.t 82)⟩, ⟨(some 84), (some (83, false)), .fadr 1 (.t 10)⟩, ⟨(some 85), (some (83, false)), .fadr 0 (.t 84)⟩, ⟨(some 86), (some (83, false)), .load false 1 (.t 85)⟩, ⟨(some 87), (some (83, false)), .fadr 1 (.t 10)⟩, ⟨(some 88), (some (83, false)), .fadr 1 (.t 87)⟩, ⟨(some 89), (some (83, false)), .load false 1 (.t 88)⟩, ⟨(some 90), (some (83, false)), .bin .geq (.t 86) (.t 89)⟩, ⟨(some 91), none, .pick (.t 83) (.v (.bool true)) (.t 90)⟩, ⟨(some 92), none, .mv (.t 91)⟩, ⟨(some 93), (some (92, false)), .mv (.t 9)⟩, ⟨(some 94), (some (92, false)), .bin .gtr (.t 93) (.v (.int .i64 (0)))⟩, ⟨(some 95), (some (92, false)), .mv (.t 94)⟩, ⟨(some 96), (some (95, true)), .fadr 1 (.t 10)⟩, ⟨(some 97), (some (95, true)), .fadr 0 (.t 96)⟩, ⟨(some 98), (some (95, true)), .load false 1 (.t 97)⟩, ⟨(some 99), (some (95, true)), .mv (.t 7)⟩, ⟨(some 100), (some (95, true)), .mv (.t 9)⟩, ⟨(some 101), (some (95, true)), .bin .sub (.t 100) (.v (.int .i64 (1)))⟩, ⟨(some 102), (some (95, true)), .iadr 3 (.t 99) (.t 101)⟩, ⟨(some 103), (some (95, true)), .fadr 1 (.t 102)⟩, ⟨(some 104), (some (95, true)), .fadr 1 (.t 103)⟩, ⟨(some 105), (some (95, true)), .load false 1 (.t 104)⟩, ⟨(some 106), (some (95, true)), .bin .lss (.t 98) (.t 105)⟩, ⟨(some 107), (some (92, false)), .pick (.t 95) (.t 106) (.v (.bool false))⟩, ⟨(some 108), none, .pick (.t 92) (.v (.bool true)) (.t 107)⟩] (some ⟨[4,6,7,37,38,39,108], [6], []⟩))
  (.cond (.t 108)
  (.seq (.reg false [⟨(some 2), none, .mv (.v (.bool false))⟩] (some ⟨[2], [], []⟩))
  .ret)
  .skip)))))
  (.reg false [⟨(some 109), none, .bin .add (.t 39) (.v (.int .i64 (1)))⟩, ⟨(some 39), none, .mv (.t 109)⟩] (some ⟨[4,6,7,37,38,39], [6], []⟩))))))))
  (.seq (.seq (.reg false [⟨(some 110), none, .mv (.t 7)⟩, ⟨(some 111), none, .len (.t 110)⟩, ⟨(some 112), none, .bin .neq (.t 111) (.v (.int .i64 (1)))⟩] (some ⟨[7,112], [], []⟩))
  (.cond (.t 112)
  (.seq (.reg false [⟨(some 113), none, .call (.f 60) []⟩, ⟨(some 2), none, .mv (.t 113)⟩] (some ⟨[2], [], []⟩))
  .ret)
  .skip))
  (.seq (.reg false [⟨(some 115), none, .mv (.t 7)⟩, ⟨(some 116), none, .iadr 3 (.t 115) (.v (.int .i64 (0)))⟩, ⟨(some 117), none, .fadr 0 (.t 116)⟩, ⟨(some 118), none, .load false 1 (.t 117)⟩, ⟨(some 119), none, .build [(.int .i64 (0)), (.bool false), (.int .i64 (0))] [(0, 1, (.t 118)), (2, 1, (.v (.int .i64 (1))))]⟩, ⟨(some 120), none, .bslice 3 1 [(.t 119)]⟩, ⟨(some 121), none, .mv (.t 7)⟩, ⟨(some 122), none, .call (.f 84) [(.t 120), (.t 121)]⟩, ⟨(some 114), none, .mv (.t 122)⟩, ⟨(some 123), none, .extr (.t 114) 0⟩, ⟨(some 124), none, .extr (.t 114) 1⟩, ⟨(some 125), none, .extr (.t 114) 2⟩, ⟨(some 14), none, .mv (.t 123)⟩, ⟨(some 15), none, .mv (.t 124)⟩, ⟨(some 8), none, .mv (.t 125)⟩] (some ⟨[8,14,15], [], []⟩))
  (.seq (.reg false [⟨(some 126), none, .mv (.t 8)⟩, ⟨(some 127), none, .bin .eql (.t 126) (.v (.int .i64 (0)))⟩, ⟨(some 128), none, .mv (.t 127)⟩, ⟨(some 129), (some (128, true)), .mv (.t 14)⟩, ⟨(some 130), none, .pick (.t 128) (.t 129) (.v (.bool false))⟩, ⟨(some 131), none, .mv (.t 130)⟩, ⟨(some 132), (some (131, true)), .mv (.t 15)⟩, ⟨(some 133), (some (131, true)), .bin .eql (.t 132) (.v (.int .i64 (0)))⟩, ⟨(some 134), none, .pick (.t 131) (.t 133) (.v (.bool false))⟩, ⟨(some 135), none, .mv (.t 134)⟩, ⟨(some 136), (some (135, true)), .call (.f 60) []⟩, ⟨(some 137), none, .pick (.t 135) (.t 136) (.v (.bool false))⟩, ⟨(some 2), none, .mv (.t 137)⟩] (some ⟨[2], [], []⟩))
  .ret))))))))))
theorem c_pap : compileCode Try.prog Try.f14.ntmps (Try.f14.body.getD .skip) A_pap = some (C_pap, []) := by kernel_rfl
theorem r_pap : compileRes Try.prog Try.f14.results.toList = some [.t 2] := by kernel_rfl
theorem b_pap : Try.f14.body = some (Try.f14.body.getD .skip) := by kernel_rfl
theorem n_pap : (Try.f14.name == "runtime.NumGoroutine") = false := by kernel_rfl
theorem fc_pap {xt : Option (List Cel)} {args : List Val} {R : List Cel → Val → Prop} (hn : (if xt.isSome then 1 else 0) + args.length ≤ Try.f14.ntmps) (h : ex Try.prog C_pap [] (fpost xt [.t 2] R) (initSt xt args)) : FC Try.prog 14 xt args R :=
  fc_of_awp Try.func14 b_pap n_pap c_pap r_pap (of_decide_eq_true (by kernel_rfl)) hn h


theorem fch_at : ∀ {l : List (Int × Int)} {lo : Int}, Fch lo l → ∀ i : Nat, i + 1 < l.length → (l.getD i default).2 ≤ (l.getD (i + 1) default).1
  | [], _, _, i, h => by simp at h
  | [w], _, _, i, h => by simp at h
  | w :: y :: r, lo, h, i, hi => by
    obtain ⟨h1, h2, h3, h4⟩ := h
    cases i with
    | zero => exact h4.1
    | succ i => exact fch_at h4 i (by simpa using hi)
theorem fl_one (x : Ph) (hn : 0 ≤ x.n ∧ x.n ≤ 1000) (hw : 0 ≤ x.f ∧ x.f < x.t ∧ x.t ≤ 345686400000) : flSp [⟨x.n, false, 1⟩] [x] = (true, 0, 0) := by
  have e1 : rcF [⟨x.n, false, 1⟩] = 0 := by
    unfold rcF
    rw [if_neg (by simp), if_neg (by simp), if_neg, if_neg]
    · simp [dupB]
    · simp only [List.any_cons, List.any_nil, Bool.or_false, badS, decide_eq_true_eq]; omega
  have e2 : phF [x] = 0 := by
    unfold phF
    rw [if_neg (by simp), if_neg]
    · have := w1F_eq x.f x.t
      have e : [x].map winP = [(x.f, x.t)] := rfl
      rw [e, this]
      unfold w1F; rw [if_neg (by omega)]
    · simp only [List.any_cons, List.any_nil, Bool.or_false, badN, decide_eq_true_eq]; omega
  have e3 : idxG (sameB x.n) 0 [(⟨x.n, false, 1⟩ : Sg)] = 0 := by
    rw [idxG, if_pos (by unfold sameB; simp)]
  unfold flSp
  rw [e1, e2, if_neg (by decide), flGo, if_neg (by simp), e3, if_neg, flGo, if_pos]
  · rfl
  · simp [optB, needB]
theorem ph_at (p : List Ph) (i : Nat) (h : i < p.length) : (p.map winP).getD i default = ((p.getD i default).f, (p.getD i default).t) := getD_map_in winP p i default h
def papSt (c : List Smp) (p : List Ph) (f t i : Int) : AS := ⟨tabV [(4, smps true c), (6, .one (.bx 6 0)), (7, phsV true p), (37, phsV true p), (38, iv p.length), (39, iv i)], tabO [(6, [.g (.int .i64 f), .g (.int .i64 t)])], tabO []⟩
set_option maxHeartbeats 12000000 in
set_option maxRecDepth 8000 in
theorem pap_fc (L : List Int) (hL : ∀ x ∈ L, I64 x) (hl : L.length ≤ 9223372036854775807) : FC Try.prog 14 none [ints false L] (fun _ r => r = bv true) := by
  refine fc_pap (by simp +arith) ?_
  unfold C_pap
  simp (maxSteps := 1000000) (disch := omega) only [go_sem, eq_self, decide_true, decide_false, not_true_eq_false, not_false_eq_true, reduceIte, reduceCtorEq, Nat.reduceEqDiff, Nat.reduceAdd, Nat.reduceSub, Nat.reduceLeDiff]
  refine callx_gen (p := 0) (rightCurve_fc 12 (by omega) (by omega)) hL hl (by omega) (by omega) ⟨_, [], rfl, by simp, rfl⟩ ?_
  rintro pa r ha1 ha2 ⟨c, hs, hlm, rfl⟩
  refine ⟨rfl, ?_⟩
  unfold strm
  simp (maxSteps := 1000000) (disch := omega) only [go_sem, eq_self, decide_true, decide_false, not_true_eq_false, not_false_eq_true, reduceIte, reduceCtorEq, Nat.reduceEqDiff, Nat.reduceAdd, Nat.reduceSub, Nat.reduceLeDiff]
  refine callx_gen (range_fc 0 40 (by omega) (by omega) (by omega)) hL hl (by omega) (by omega) ⟨_, 0, by omega, by omega, rfl⟩ ?_
  rintro pb r hb1 hb2 ⟨f, hf1, hf2, rfl⟩
  refine ⟨rfl, ?_⟩
  unfold strm
  simp (maxSteps := 1000000) (disch := omega) only [go_sem, eq_self, decide_true, decide_false, not_true_eq_false, not_false_eq_true, reduceIte, reduceCtorEq, Nat.reduceEqDiff, Nat.reduceAdd, Nat.reduceSub, Nat.reduceLeDiff]
  refine callx_gen (range_fc 1 100 (by omega) (by omega) (by omega)) hL hl (by omega) (by omega) ⟨_, 1, by omega, by omega, rfl⟩ ?_
  rintro pc r hc1 hc2 ⟨z, hz1, hz2, rfl⟩
  refine ⟨rfl, ?_⟩
  unfold strm
  have hg := good_of hs
  have hw : 0 ≤ f ∧ f < f + z ∧ f + z ≤ 345686400000 := by omega
  have e1 : phsSp c f (f + z) = ((phN c f (f + z) c.length).1, 0) := by
    have e : w1F f (f + z) = 0 := by unfold w1F; rw [if_neg (by omega)]
    unfold phsSp; rw [hs, e, if_neg (by decide)]
  have hI := ph_inv hg hw c.length (by omega)
  have hpl := (phN_len c f (f + z) c.length).1
  generalize (phN c f (f + z) c.length).1 = p at *
  have hat : ∀ i : Nat, i < p.length → (f ≤ (p.getD i default).f ∧ (p.getD i default).f < (p.getD i default).t) ∧ (p.getD i default).t ≤ f + z ∧ (0 ≤ (p.getD i default).n ∧ (p.getD i default).n ≤ 1000) := fun i hi => by
    have hm := getD_mem p i hi
    have h1 := hI.c.ge (winP (p.getD i default)) (List.mem_map.2 ⟨_, hm, rfl⟩)
    have h2 := hI.e _ hm
    have h3 := hI.n _ hm
    simp only [winP] at h1
    exact ⟨⟨h1.1, h1.2.1⟩, h2.2, h3⟩
  have hch : ∀ i : Nat, i + 1 < p.length → (p.getD i default).t ≤ (p.getD (i + 1) default).f := fun i hi => by
    have := fch_at hI.c i (by simpa using hi)
    rw [ph_at p i (by omega), ph_at p (i + 1) hi] at this
    exact this
  simp (maxSteps := 1000000) (disch := omega) only [go_sem, eq_self, decide_true, decide_false, not_true_eq_false, not_false_eq_true, reduceIte, reduceCtorEq, Nat.reduceEqDiff, Nat.reduceAdd, Nat.reduceSub, Nat.reduceLeDiff]
  refine CALL_det (phases_fc c (by omega) f (f + z)) (.inl rfl) ?_
  rw [e1]
  simp (maxSteps := 1000000) (disch := omega) only [go_sem, eq_self, decide_true, decide_false, not_true_eq_false, not_false_eq_true, reduceIte, reduceCtorEq, Nat.reduceEqDiff, Nat.reduceAdd, Nat.reduceSub, Nat.reduceLeDiff]
  refine ex_loop1 (papSt c p f (f + z)) (fun i => 0 ≤ i ∧ i ≤ p.length) (fun i => (p.length - i).toNat) 0 ⟨by omega, by omega⟩ rfl ?_
  rintro i ⟨g1, g2⟩
  unfold papSt
  by_cases hi : i < p.length
  · have em := getD_map_at phC p i [] g1 hi
    obtain ⟨k1, k2, k3⟩ := hat i.toNat (by omega)
    obtain ⟨q, hq⟩ := hI.v _ (getD_mem p i.toNat (by omega))
    have ev : vaSp c true (p.getD i.toNat default).f = (⟨(p.getD i.toNat default).f, (p.getD i.toNat default).n, 1, q⟩, true, 0) := by
      rw [vaSp_good true hs (by omega), hq]
    clear hI e1
    by_cases c1 : 0 < i
    · have k4 := hch (i - 1).toNat (by omega)
      rw [show (i - 1).toNat + 1 = i.toNat by omega] at k4
      have k5 := hat (i - 1).toNat (by omega)
      clear hat hch
      simp (maxSteps := 10000000) (disch := omega) only [go_sem, eq_self, decide_true, decide_false, not_true_eq_false, not_false_eq_true, reduceIte, reduceCtorEq, Nat.reduceEqDiff, Nat.reduceAdd, Nat.reduceSub, Nat.reduceLeDiff]
      refine CALL_det (bvalueAt_fc c (by omega) true (p.getD i.toNat default).f) (.inl rfl) ?_
      rw [ev]
      simp (maxSteps := 10000000) (disch := omega) only [go_sem, eq_self, decide_true, decide_false, not_true_eq_false, not_false_eq_true, reduceIte, reduceCtorEq, Nat.reduceEqDiff, Nat.reduceAdd, Nat.reduceSub, Nat.reduceLeDiff]
      exact ⟨_, rfl, ⟨by omega, by omega⟩, by omega⟩
    · clear hat hch
      simp (maxSteps := 10000000) (disch := omega) only [go_sem, eq_self, decide_true, decide_false, not_true_eq_false, not_false_eq_true, reduceIte, reduceCtorEq, Nat.reduceEqDiff, Nat.reduceAdd, Nat.reduceSub, Nat.reduceLeDiff]
      refine CALL_det (bvalueAt_fc c (by omega) true (p.getD i.toNat default).f) (.inl rfl) ?_
      rw [ev]
      simp (maxSteps := 10000000) (disch := omega) only [go_sem, eq_self, decide_true, decide_false, not_true_eq_false, not_false_eq_true, reduceIte, reduceCtorEq, Nat.reduceEqDiff, Nat.reduceAdd, Nat.reduceSub, Nat.reduceLeDiff]
      exact ⟨_, rfl, ⟨by omega, by omega⟩, by omega⟩
  · by_cases c2 : p.length = 1
    · cases p with
      | nil => simp at c2
      | cons x rest =>
        cases rest with
        | cons y r => simp at c2
        | nil =>
          obtain ⟨k1, k2, k3⟩ := hat 0 (by simp)
          simp only [List.getD_cons_zero] at k1 k2 k3
          have efl := fl_one x k3 (by omega)
          have el : ([x] : List Ph).length = 1 := rfl
          have em : ([x].map phC).getD (Int.toNat 0) [] = phC x := rfl
          simp (maxSteps := 1000000) (disch := omega) only [go_sem, eq_self, decide_true, decide_false, not_true_eq_false, not_false_eq_true, reduceIte, reduceCtorEq, Nat.reduceEqDiff, Nat.reduceAdd, Nat.reduceSub, Nat.reduceLeDiff]
          refine CALL_det (follows_fc [⟨x.n, false, 1⟩] [x] (by simp) (by simp)) (.inl rfl) ?_
          rw [efl]
          simp (maxSteps := 1000000) (disch := omega) only [go_sem, eq_self, decide_true, decide_false, not_true_eq_false, not_false_eq_true, reduceIte, reduceCtorEq, Nat.reduceEqDiff, Nat.reduceAdd, Nat.reduceSub, Nat.reduceLeDiff]
          refine CALL_det ready_fc (.inl rfl) ?_
          simp (maxSteps := 1000000) (disch := omega) only [go_sem, eq_self, decide_true, decide_false, not_true_eq_false, not_false_eq_true, reduceIte, reduceCtorEq, Nat.reduceEqDiff, Nat.reduceAdd, Nat.reduceSub, Nat.reduceLeDiff]
    · simp (maxSteps := 1000000) (disch := omega) only [go_sem, eq_self, decide_true, decide_false, not_true_eq_false, not_false_eq_true, reduceIte, reduceCtorEq, Nat.reduceEqDiff, Nat.reduceAdd, Nat.reduceSub, Nat.reduceLeDiff]
      refine CALL_det ready_fc (.inl rfl) ?_
      simp (maxSteps := 1000000) (disch := omega) only [go_sem, eq_self, decide_true, decide_false, not_true_eq_false, not_false_eq_true, reduceIte, reduceCtorEq, Nat.reduceEqDiff, Nat.reduceAdd, Nat.reduceSub, Nat.reduceLeDiff]
theorem pap_own : ownKnob Try.prog.godebug = none := by kernel_rfl
theorem pap_laid : laidOutB Try.prog = true := by kernel_rfl
set_option maxRecDepth 100000 in
theorem pap_lifted (os : Os) (started : os.Started) (H : Type) (enc : TypeId × Value → H) :
    ReturnsInHanded {} Try.checked os 14 .any (Rows.phasesArePhasesSpec.pre6 enc Try.prog Try.f14 Rows.phasesArePhasesRow.domain false) (Rows.phasesArePhasesSpec.post enc Try.prog Try.f14 false true false false) := by
  refine returnsInHanded_of_change (C := Try.checked) pap_own started (by kernel_rfl) Try.func14
    (ChangeSpec.witness6 (enc := enc) (C := Try.checked) false ⟨#[], #[.slice none 0 0], []⟩ 8 (by kernel_rfl) (by kernel_rfl) (by kernel_rfl) (by kernel_rfl)) ?_
  intro W base args ds gs before hval hW _ _
  exact law_contract (P := Try.prog) (fun L h1 h2 => pap_fc L h1 h2) (fun _ _ => rfl) rfl rfl rfl pap_laid (by kernel_rfl) (of_decide_eq_true (by kernel_rfl)) Try.underlying22 Try.underlying3 (by kernel_rfl) Try.underlying4 W base args ds gs before hval hW
theorem pap_over : Rows.phasesArePhasesRow.holds Try.pinned (OpenSpec.ofChange Rows.phasesArePhasesSpec) :=
  OpenClaim.holds_of_wide 14 Try.f14 rfl rfl rfl rfl rfl rfl rfl ⟨rfl, rfl, rfl, rfl, rfl⟩ rfl rfl rfl rfl rfl (by kernel_rfl) Try.func14 (by kernel_rfl)
    (of_decide_eq_true (by kernel_rfl)) (by unfold Func.isWrapper; first | (rw [if_pos (by decide +kernel)]; kernel_rfl) | (rw [if_neg (by decide +kernel)]; exact ⟨rfl, rfl⟩))
    (fun os started H enc _ => pap_lifted os started H enc)
theorem phases_are_phases : Rows.PhasesArePhasesSaid := pap_over
end Go.Proofs.Ytmbpfhpdicjpcaa

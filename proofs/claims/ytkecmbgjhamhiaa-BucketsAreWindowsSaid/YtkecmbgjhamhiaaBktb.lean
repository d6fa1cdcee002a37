/-
  BucketsAreWindows' function.
-/
import Derived.Test.YtkecmbgjhamhiaaBkt
import Derived.Test.YtkecmbgjhamhiaaGenC
import Derived.Test.YtkecmbgjhamhiaaRdy
namespace Go.Proofs.Ytkecmbgjhamhiaa
open Go Go.Ai
set_option linter.unusedSimpArgs false
set_option linter.unusedVariables false
set_option maxHeartbeats 4000000
def A_bw : List Ann := [⟨(some ⟨[0], [], []⟩), [], [], [], []⟩, ⟨(some ⟨[3,20], [20], []⟩), [], [], [], []⟩, ⟨(some ⟨[4,5,6], [5], []⟩), [], [], [], []⟩, ⟨(some ⟨[4,5,6,35], [5], []⟩), [], [], [], []⟩, ⟨(some ⟨[2], [], []⟩), [], [], [], []⟩, ⟨(some ⟨[4,5,7,8], [5], []⟩), [], [], [], []⟩, ⟨(some ⟨[4,5,7,45], [5], []⟩), [], [], [], []⟩, ⟨(some ⟨[2], [], []⟩), [], [], [], []⟩, ⟨(some ⟨[4,5,7,9], [5], []⟩), [], [], [], []⟩, ⟨(some ⟨[4,5,9,48,49,50], [5], []⟩), [], [], [], []⟩, ⟨(some ⟨[4,5,9,48,49,50,51], [5], []⟩), [], [], [], []⟩, ⟨(some ⟨[4,5,9,11,48,49,50], [5,11], []⟩), [], [], [], []⟩, ⟨(some ⟨[4,5,9,11,12,13,14,48,49,50], [5,11,12], []⟩), [], [], [], []⟩, ⟨(some ⟨[4,5,9,11,12,13,14,16,17,48,49,50], [5,11,12], []⟩), [], [], [], []⟩, ⟨(some ⟨[4,5,11,48,49,50,105], [5,11], []⟩), [], [], [], []⟩, ⟨(some ⟨[2], [], []⟩), [], [], [], []⟩, ⟨(some ⟨[4,5,9,48,49,50], [5], []⟩), [], [], [], []⟩, ⟨(some ⟨[4,5,9,48,49,50], [5], []⟩), [], [], [], []⟩, ⟨(some ⟨[2], [], []⟩), [], [], [], []⟩]
def C_bw : AC := (.seq (.reg false [⟨(some 2), none, .mv (.v (.bool false))⟩] (some ⟨[0], [], []⟩))
  (.seq (.reg false [⟨(some 18), none, .mv (.t 0)⟩, ⟨(some 19), none, .build [(.slice none 0 0), (.int .i64 (0))] [(0, 1, (.t 18))]⟩, ⟨(some 20), none, .box (.t 19)⟩, ⟨(some 3), none, .mv (.t 20)⟩] (some ⟨[3,20], [20], []⟩))
  (.seq (.reg false [⟨(some 21), none, .mv (.t 3)⟩, ⟨(some 22), none, .callx (.f 64) [(.t 21), (.v (.int .i64 (10)))]⟩, ⟨(some 23), none, .mv (.t 3)⟩, ⟨(some 24), none, .callx (.f 18) [(.t 23)]⟩, ⟨(some 25), none, .mv (.t 3)⟩, ⟨(some 26), none, .callx (.f 65) [(.t 25), (.v (.int .i64 (1))), (.v (.int .i64 (30)))]⟩, ⟨(some 5), none, .alloc [(.int .i64 (0)), (.int .i64 (0))]⟩, ⟨(some 4), none, .mv (.t 22)⟩, ⟨none, none, .store 2 (.t 5) (.t 24)⟩, ⟨(some 6), none, .mv (.t 26)⟩] (some ⟨[4,5,6], [5], []⟩))
  (.seq (.seq (.reg false [⟨(some 27), none, .load true 2 (.t 5)⟩, ⟨(some 28), none, .call (.f 25) [(.t 27)]⟩, ⟨(some 29), none, .bin .neq (.t 28) (.v (.int .i64 (0)))⟩, ⟨(some 30), none, .mv (.t 29)⟩, ⟨(some 31), (some (30, false)), .load true 2 (.t 5)⟩, ⟨(some 32), (some (30, false)), .mv (.t 6)⟩, ⟨(some 33), (some (30, false)), .call (.f 26) [(.t 31), (.t 32)]⟩, ⟨(some 34), (some (30, false)), .bin .neq (.t 33) (.v (.int .i64 (0)))⟩, ⟨(some 35), none, .pick (.t 30) (.v (.bool true)) (.t 34)⟩] (some ⟨[4,5,6,35], [5], []⟩))
  (.cond (.t 35)
  (.seq (.reg false [⟨(some 36), none, .call (.f 68) []⟩, ⟨(some 2), none, .mv (.t 36)⟩] (some ⟨[2], [], []⟩))
  .ret)
  .skip))
  (.seq (.reg false [⟨(some 38), none, .mv (.t 4)⟩, ⟨(some 39), none, .load true 2 (.t 5)⟩, ⟨(some 40), none, .mv (.t 6)⟩, ⟨(some 41), none, .call (.f 55) [(.t 38), (.t 39), (.t 40)]⟩, ⟨(some 37), none, .mv (.t 41)⟩, ⟨(some 42), none, .extr (.t 37) 0⟩, ⟨(some 43), none, .extr (.t 37) 1⟩, ⟨(some 7), none, .mv (.t 42)⟩, ⟨(some 8), none, .mv (.t 43)⟩] (some ⟨[4,5,7,8], [5], []⟩))
  (.seq (.seq (.reg false [⟨(some 44), none, .mv (.t 8)⟩, ⟨(some 45), none, .bin .neq (.t 44) (.v (.int .i64 (0)))⟩] (some ⟨[4,5,7,45], [5], []⟩))
  (.cond (.t 45)
  (.seq (.reg false [⟨(some 2), none, .mv (.v (.bool false))⟩] (some ⟨[2], [], []⟩))
  .ret)
  .skip))
  (.seq (.reg false [⟨(some 46), none, .fadr 0 (.t 5)⟩, ⟨(some 47), none, .load false 1 (.t 46)⟩, ⟨(some 9), none, .mv (.t 47)⟩] (some ⟨[4,5,7,9], [5], []⟩))
  (.seq (.seq (.reg false [⟨(some 48), none, .mv (.t 7)⟩, ⟨(some 49), none, .len (.t 48)⟩, ⟨(some 50), none, .mv (.v (.int .i64 (0)))⟩] (some ⟨[4,5,9,48,49,50], [5], []⟩))
  (.block 0 (.loop (.seq (.reg false [⟨(some 51), none, .bin .lss (.t 50) (.t 49)⟩] (some ⟨[4,5,9,48,49,50,51], [5], []⟩))
  (.seq (.cond (.t 51)
  .skip
  (.exit 0))
  (.seq (.block 1 (.seq (.reg false [⟨(some 52), none, .iadr 7 (.t 48) (.t 50)⟩, ⟨(some 53), none, .load true 7 (.t 52)⟩, ⟨(some 11), none, .alloc [(.int .i64 (0)), (.int .i64 (0)), (.int .i64 (0)), (.int .i64 (0)), (.int .i64 (0)), (.int .i64 (0)), (.int .i64 (0))]⟩, ⟨none, none, .store 7 (.t 11) (.t 53)⟩] (some ⟨[4,5,9,11,48,49,50], [5,11], []⟩))
  (.seq (.reg false [⟨(some 55), none, .mv (.t 4)⟩, ⟨(some 56), none, .fadr 0 (.t 11)⟩, ⟨(some 57), none, .load true 2 (.t 56)⟩, ⟨(some 58), none, .call (.f 71) [(.t 55), (.t 57)]⟩, ⟨(some 54), none, .mv (.t 58)⟩, ⟨(some 59), none, .extr (.t 54) 0⟩, ⟨(some 60), none, .extr (.t 54) 1⟩, ⟨(some 61), none, .extr (.t 54) 2⟩, ⟨(some 12), none, .alloc [(.int .i64 (0)), (.int .i64 (0))]⟩, ⟨none, none, .store 2 (.t 12) (.t 59)⟩, ⟨(some 13), none, .mv (.t 60)⟩, ⟨(some 14), none, .mv (.t 61)⟩] (some ⟨[4,5,9,11,12,13,14,48,49,50], [5,11,12], []⟩))
  (.seq (.reg false [⟨(some 63), none, .mv (.t 4)⟩, ⟨(some 64), none, .fadr 0 (.t 11)⟩, ⟨(some 65), none, .load true 2 (.t 64)⟩, ⟨(some 66), none, .call (.f 72) [(.t 63), (.t 65)]⟩, ⟨(some 62), none, .mv (.t 66)⟩, ⟨(some 67), none, .extr (.t 62) 0⟩, ⟨(some 68), none, .extr (.t 62) 1⟩, ⟨(some 69), none, .extr (.t 62) 2⟩, ⟨(some 15), none, .mv (.t 67)⟩, ⟨(some 16), none, .mv (.t 68)⟩, ⟨(some 17), none, .mv (.t 69)⟩] (some ⟨[4,5,9,11,12,13,14,16,17,48,49,50], [5,11,12], []⟩))
  (.seq (.seq (.reg false [⟨(some 70), none, .mv (.t 14)⟩, ⟨(some 71), none, .bin .neq (.t 70) (.v (.int .i64 (0)))⟩, ⟨(some 72), none, .mv (.t 71)⟩, ⟨(some 73), (some (72, false)), .mv (.t 17)⟩, ⟨(some 74), (some (72, false)), .bin .neq (.t 73) (.v (.int .i64 (0)))⟩, ⟨(some 75), none, .pick (.t 72) (.v (.bool true)) (.t 74)⟩, ⟨(some 76), none, .mv (.t 75)⟩, ⟨(some 77), (some (76, false)), .fadr 0 (.t 11)⟩, ⟨(some 78), (some (76, false)), .fadr 0 (.t 77)⟩, ⟨(some 79), (some (76, false)), .load false 1 (.t 78)⟩, ⟨(some 80), (some (76, false)), .mv (.t 9)⟩, ⟨(some 81), (some (76, false)), .bin .neq (.t 79) (.t 80)⟩, ⟨(some 82), none, .pick (.t 76) (.v (.bool true)) (.t 81)⟩, ⟨(some 83), none, .mv (.t 82)⟩, ⟨(some 84), (some (83, false)), .fadr 0 (.t 11)⟩, ⟨(some 85), (some (83, false)), .fadr 1 (.t 84)⟩, ⟨(some 86), (some (83, false)), .load false 1 (.t 85)⟩, ⟨(some 87), (some (83, false)), .fadr 1 (.t 5)⟩, ⟨(some 88), (some (83, false)), .load false 1 (.t 87)⟩, ⟨(some 89), (some (83, false)), .bin .gtr (.t 86) (.t 88)⟩, ⟨(some 90), none, .pick (.t 83) (.v (.bool true)) (.t 89)⟩, ⟨(some 91), none, .mv (.t 90)⟩, ⟨(some 92), (some (91, false)), .fadr 2 (.t 11)⟩, ⟨(some 93), (some (91, false)), .load false 1 (.t 92)⟩, ⟨(some 94), (some (91, false)), .mv (.t 16)⟩, ⟨(some 95), (some (91, false)), .bin .neq (.t 93) (.t 94)⟩, ⟨(some 96), none, .pick (.t 91) (.v (.bool true)) (.t 95)⟩, ⟨(some 97), none, .mv (.t 96)⟩, ⟨(some 98), (some (97, false)), .mv (.t 13)⟩, ⟨(some 99), (some (97, false)), .mv (.t 98)⟩, ⟨(some 100), (some (99, true)), .load true 2 (.t 12)⟩, ⟨(some 101), (some (99, true)), .fadr 3 (.t 11)⟩, ⟨(some 102), (some (99, true)), .load true 2 (.t 101)⟩, ⟨(some 103), (some (99, true)), .eqs true true [.i .i64, .i .i64] (.t 100) (.t 102)⟩, ⟨(some 104), (some (97, false)), .pick (.t 99) (.t 103) (.v (.bool false))⟩, ⟨(some 105), none, .pick (.t 97) (.v (.bool true)) (.t 104)⟩] (some ⟨[4,5,11,48,49,50,105], [5,11], []⟩))
  (.cond (.t 105)
  (.seq (.reg false [⟨(some 2), none, .mv (.v (.bool false))⟩] (some ⟨[2], [], []⟩))
  .ret)
  .skip))
  (.reg false [⟨(some 106), none, .fadr 0 (.t 11)⟩, ⟨(some 107), none, .fadr 1 (.t 106)⟩, ⟨(some 108), none, .load false 1 (.t 107)⟩, ⟨(some 9), none, .mv (.t 108)⟩] (some ⟨[4,5,9,48,49,50], [5], []⟩)))))))
  (.reg false [⟨(some 109), none, .bin .add (.t 50) (.v (.int .i64 (1)))⟩, ⟨(some 50), none, .mv (.t 109)⟩] (some ⟨[4,5,9,48,49,50], [5], []⟩))))))))
  (.seq (.reg false [⟨(some 110), none, .mv (.t 9)⟩, ⟨(some 111), none, .fadr 0 (.t 5)⟩, ⟨(some 112), none, .load false 1 (.t 111)⟩, ⟨(some 113), none, .fadr 1 (.t 5)⟩, ⟨(some 114), none, .load false 1 (.t 113)⟩, ⟨(some 115), none, .mnx true (.t 112) (.t 114)⟩, ⟨(some 116), none, .bin .eql (.t 110) (.t 115)⟩, ⟨(some 117), none, .mv (.t 116)⟩, ⟨(some 118), (some (117, true)), .call (.f 68) []⟩, ⟨(some 119), none, .pick (.t 117) (.t 118) (.v (.bool false))⟩, ⟨(some 2), none, .mv (.t 119)⟩] (some ⟨[2], [], []⟩))
  .ret)))))))))
theorem c_bw : compileCode Try.prog Try.f11.ntmps (Try.f11.body.getD .skip) A_bw = some (C_bw, []) := by kernel_rfl
theorem r_bw : compileRes Try.prog Try.f11.results.toList = some [.t 2] := by kernel_rfl
theorem b_bw : Try.f11.body = some (Try.f11.body.getD .skip) := by kernel_rfl
theorem n_bw : (Try.f11.name == "runtime.NumGoroutine") = false := by kernel_rfl
theorem fc_bw {xt : Option (List Cel)} {args : List Val} {R : List Cel → Val → Prop} (hn : (if xt.isSome then 1 else 0) + args.length ≤ Try.f11.ntmps) (h : ex Try.prog C_bw [] (fpost xt [.t 2] R) (initSt xt args)) : FC Try.prog 11 xt args R :=
  fc_of_awp Try.func11 b_bw n_bw c_bw r_bw (of_decide_eq_true (by kernel_rfl)) hn h


theorem bksGo_len (l : List Smp) (ev to : Int) : ∀ (n : Nat) (a : Int), (bksGo l ev to n a).length ≤ n
  | 0, a => by simp [bksGo]
  | n + 1, a => by
    rw [bksGo]
    split
    · have := bksGo_len l ev to n (a + ev)
      rw [List.length_cons]; omega
    · simp
def bwSt (l : List Smp) (f t : Int) (b : List Bk) (i at_ : Int) : AS := ⟨tabV [(4, smps true l), (5, .one (.bx 5 0)), (9, iv at_), (48, bksV true b), (49, iv b.length), (50, iv i)], tabO [(5, [.g (.int .i64 f), .g (.int .i64 t)])], tabO []⟩
theorem bw_fc (L : List Int) (hL : ∀ x ∈ L, I64 x) (hl : L.length ≤ 9223372036854775807) : FC Try.prog 11 none [ints false L] (fun _ r => r = bv true) := by
  refine fc_bw (by simp +arith) ?_
  unfold C_bw
  simp (maxSteps := 1000000) (disch := omega) only [go_sem, eq_self, decide_true, decide_false, not_true_eq_false, not_false_eq_true, reduceIte, reduceCtorEq, Nat.reduceEqDiff, Nat.reduceAdd, Nat.reduceSub, Nat.reduceLeDiff]
  refine callx_gen (p := 0) (rightCurve_fc 10 (by omega) (by omega)) hL hl (by omega) (by omega) ⟨_, [], rfl, rfl⟩ ?_
  rintro pa r ha1 ha2 ⟨l, hs, rfl⟩
  refine ⟨rfl, ?_⟩
  unfold strm
  simp (maxSteps := 1000000) (disch := omega) only [go_sem, eq_self, decide_true, decide_false, not_true_eq_false, not_false_eq_true, reduceIte, reduceCtorEq, Nat.reduceEqDiff, Nat.reduceAdd, Nat.reduceSub, Nat.reduceLeDiff]
  refine callx_gen aspan_fc hL hl (by omega) (by omega) ⟨_, 0, 0, by simp [I64], by simp [I64], rfl⟩ ?_
  rintro pb r hb1 hb2 ⟨f, t, hf, ht, rfl⟩
  refine ⟨rfl, ?_⟩
  unfold strm
  simp (maxSteps := 1000000) (disch := omega) only [go_sem, eq_self, decide_true, decide_false, not_true_eq_false, not_false_eq_true, reduceIte, reduceCtorEq, Nat.reduceEqDiff, Nat.reduceAdd, Nat.reduceSub, Nat.reduceLeDiff]
  refine callx_gen (range_fc 1 30 (by omega) (by omega) (by omega)) hL hl (by omega) (by omega) ⟨_, 1, by omega, by omega, rfl⟩ ?_
  rintro pc r hc1 hc2 ⟨ev, hev1, hev2, rfl⟩
  refine ⟨rfl, ?_⟩
  unfold strm
  have hg := good_of hs
  have hlen := hg.len
  simp (maxSteps := 1000000) (disch := omega) only [go_sem, eq_self, decide_true, decide_false, not_true_eq_false, not_false_eq_true, reduceIte, reduceCtorEq, Nat.reduceEqDiff, Nat.reduceAdd, Nat.reduceSub, Nat.reduceLeDiff]
  refine CALL_det (windowFault_fc f t) (.inl rfl) ?_
  by_cases h1 : winFault f t = 0
  · have hw := winFault_ok h1
    simp (maxSteps := 1000000) (disch := omega) only [go_sem, eq_self, decide_true, decide_false, not_true_eq_false, not_false_eq_true, reduceIte, reduceCtorEq, Nat.reduceEqDiff, Nat.reduceAdd, Nat.reduceSub, Nat.reduceLeDiff]
    refine CALL_det (everyFault1_fc f t ev h1) (.inl rfl) ?_
    by_cases h2 : evFault f t ev = 0
    · have hpf : ptsFault l f t ev = 0 := by
        have : bothFault l f t = 0 := by unfold bothFault; rw [if_neg (by omega)]; exact h1
        unfold ptsFault; rw [if_neg (by omega)]; exact h2
      have hsp : bksSp l f t ev = (bks l f t ev, 0) := by unfold bksSp; rw [if_neg (by omega)]
      have hbl : (bks l f t ev).length ≤ (t - f).toNat := bksGo_len l ev t _ f
      simp (maxSteps := 1000000) (disch := omega) only [go_sem, eq_self, decide_true, decide_false, not_true_eq_false, not_false_eq_true, reduceIte, reduceCtorEq, Nat.reduceEqDiff, Nat.reduceAdd, Nat.reduceSub, Nat.reduceLeDiff]
      refine CALL_det (buckets_fc l (by omega) f t ev) (.inl rfl) ?_
      rw [hsp]
      have hb0 : (bks l f t ev).drop (Int.toNat 0) = bks l f t ev := rfl
      generalize hbb : bks l f t ev = b at *
      rw [← hbb] at hb0
      simp (maxSteps := 1000000) (disch := omega) only [go_sem, eq_self, decide_true, decide_false, not_true_eq_false, not_false_eq_true, reduceIte, reduceCtorEq, Nat.reduceEqDiff, Nat.reduceAdd, Nat.reduceSub, Nat.reduceLeDiff]
      refine ex_loop2 (bwSt l f t b) (fun i at_ => 0 ≤ i ∧ i ≤ b.length ∧ f ≤ at_ ∧ at_ ≤ t ∧ b.drop i.toNat = bks l at_ t ev) (fun i _ => (b.length - i).toNat) 0 f ⟨by omega, by omega, by omega, by omega, by rw [← hbb]; rfl⟩ rfl ?_
      rintro i at_ ⟨g1, g2, g3, g4, g5⟩
      unfold bwSt
      by_cases hi : i < b.length
      · have e2 : (i + 1).toNat = i.toNat + 1 := by omega
        have em := getD_map_at bkC b i [] g1 hi
        rw [drop_cons b i.toNat (by omega), ← e2] at g5
        have hat : at_ < t := by
          rcases Int.lt_or_le at_ t with h | h
          · exact h
          · rw [bks_end l ev t at_ (by omega)] at g5; cases g5
        rw [bks_step l ev t at_ (by omega) hat] at g5
        injection g5 with g5 g6
        have hnext : b.drop (i + 1).toNat = bks l (min t (at_ + ev)) t ev := by
          rw [g6]
          by_cases h : at_ + ev ≤ t
          · rw [show min t (at_ + ev) = at_ + ev by omega]
          · rw [bks_end l ev t _ (by omega), bks_end l ev t _ (by omega)]
        have hbf : bothFault l at_ (min t (at_ + ev)) = 0 := by
          unfold bothFault; rw [if_neg (by omega)]; unfold winFault; rw [if_neg (by omega)]
        have hc := vals_chain (show at_ ≤ min t (at_ + ev) by omega) hs
        have hav : avgSp l at_ (min t (at_ + ev)) = if intT (vals at_ (min t (at_ + ev)) l) = 0 then ((0, 0), false, 0) else ((lowN (intS (vals at_ (min t (at_ + ev)) l)) (intT (vals at_ (min t (at_ + ev)) l)), lowD (intS (vals at_ (min t (at_ + ev)) l)) (intT (vals at_ (min t (at_ + ev)) l))), true, 0) := by
          unfold avgSp; rw [if_neg (by omega)]
        have hit : itgSp l at_ (min t (at_ + ev)) = (intS (vals at_ (min t (at_ + ev)) l), intT (vals at_ (min t (at_ + ev)) l), 0) := by
          unfold itgSp; rw [if_neg (by omega)]
        have a1 := average_fc l (by omega) at_ (min t (at_ + ev))
        have a2 := integralP_fc l (by omega) at_ (min t (at_ + ev))
        rw [hav] at a1
        rw [hit] at a2
        generalize vals at_ (min t (at_ + ev)) l = m at *
        cases m with
        | nil =>
          simp only [bkOf] at g5
          simp only [intT, intS, if_true] at a1 a2
          simp (maxSteps := 1000000) (disch := omega) only [go_sem, eq_self, decide_true, decide_false, not_true_eq_false, not_false_eq_true, reduceIte, reduceCtorEq, Nat.reduceEqDiff, Nat.reduceAdd, Nat.reduceSub, Nat.reduceLeDiff]
          try simp only [g5]
          refine CALL_det a1 (.inl rfl) ?_
          simp (maxSteps := 1000000) (disch := omega) only [go_sem, eq_self, decide_true, decide_false, not_true_eq_false, not_false_eq_true, reduceIte, reduceCtorEq, Nat.reduceEqDiff, Nat.reduceAdd, Nat.reduceSub, Nat.reduceLeDiff]
          try simp only [g5]
          refine CALL_det a2 (.inl rfl) ?_
          simp (maxSteps := 1000000) (disch := omega) only [go_sem, eq_self, decide_true, decide_false, not_true_eq_false, not_false_eq_true, reduceIte, reduceCtorEq, Nat.reduceEqDiff, Nat.reduceAdd, Nat.reduceSub, Nat.reduceLeDiff]
          try simp only [g5]
          try (simp (maxSteps := 1000000) (disch := omega) only [go_sem, eq_self, decide_true, decide_false, not_true_eq_false, not_false_eq_true, reduceIte, reduceCtorEq, Nat.reduceEqDiff, Nat.reduceAdd, Nat.reduceSub, Nat.reduceLeDiff])
          exact ⟨i + 1, _, rfl, ⟨by omega, by omega, by omega, by omega, hnext⟩, by omega⟩
        | cons p r =>
          have hp := intT_pos hc
          rw [if_neg (by omega)] at a1
          simp only [bkOf] at g5
          simp (maxSteps := 1000000) (disch := omega) only [go_sem, eq_self, decide_true, decide_false, not_true_eq_false, not_false_eq_true, reduceIte, reduceCtorEq, Nat.reduceEqDiff, Nat.reduceAdd, Nat.reduceSub, Nat.reduceLeDiff]
          try simp only [g5]
          refine CALL_det a1 (.inl rfl) ?_
          simp (maxSteps := 1000000) (disch := omega) only [go_sem, eq_self, decide_true, decide_false, not_true_eq_false, not_false_eq_true, reduceIte, reduceCtorEq, Nat.reduceEqDiff, Nat.reduceAdd, Nat.reduceSub, Nat.reduceLeDiff]
          try simp only [g5]
          refine CALL_det a2 (.inl rfl) ?_
          simp (maxSteps := 1000000) (disch := omega) only [go_sem, eq_self, decide_true, decide_false, not_true_eq_false, not_false_eq_true, reduceIte, reduceCtorEq, Nat.reduceEqDiff, Nat.reduceAdd, Nat.reduceSub, Nat.reduceLeDiff]
          try simp only [g5]
          try (simp (maxSteps := 1000000) (disch := omega) only [go_sem, eq_self, decide_true, decide_false, not_true_eq_false, not_false_eq_true, reduceIte, reduceCtorEq, Nat.reduceEqDiff, Nat.reduceAdd, Nat.reduceSub, Nat.reduceLeDiff])
          exact ⟨i + 1, _, rfl, ⟨by omega, by omega, by omega, by omega, hnext⟩, by omega⟩
      · have hat : at_ = t := by
          rw [List.drop_eq_nil_of_le (by omega)] at g5
          rcases Int.lt_or_le at_ t with h | h
          · rw [bks_step l ev t at_ (by omega) h] at g5; cases g5
          · omega
        simp (maxSteps := 1000000) (disch := omega) only [go_sem, eq_self, decide_true, decide_false, not_true_eq_false, not_false_eq_true, reduceIte, reduceCtorEq, Nat.reduceEqDiff, Nat.reduceAdd, Nat.reduceSub, Nat.reduceLeDiff]
        refine CALL_det ready_fc (.inl rfl) ?_
        simp (maxSteps := 1000000) (disch := omega) only [go_sem, eq_self, decide_true, decide_false, not_true_eq_false, not_false_eq_true, reduceIte, reduceCtorEq, Nat.reduceEqDiff, Nat.reduceAdd, Nat.reduceSub, Nat.reduceLeDiff]
    · simp (maxSteps := 1000000) (disch := omega) only [go_sem, eq_self, decide_true, decide_false, not_true_eq_false, not_false_eq_true, reduceIte, reduceCtorEq, Nat.reduceEqDiff, Nat.reduceAdd, Nat.reduceSub, Nat.reduceLeDiff]
      refine CALL_det ready_fc (.inl rfl) ?_
      simp (maxSteps := 1000000) (disch := omega) only [go_sem, eq_self, decide_true, decide_false, not_true_eq_false, not_false_eq_true, reduceIte, reduceCtorEq, Nat.reduceEqDiff, Nat.reduceAdd, Nat.reduceSub, Nat.reduceLeDiff]
  · simp (maxSteps := 1000000) (disch := omega) only [go_sem, eq_self, decide_true, decide_false, not_true_eq_false, not_false_eq_true, reduceIte, reduceCtorEq, Nat.reduceEqDiff, Nat.reduceAdd, Nat.reduceSub, Nat.reduceLeDiff]
    refine CALL_det ready_fc (.inl rfl) ?_
    simp (maxSteps := 1000000) (disch := omega) only [go_sem, eq_self, decide_true, decide_false, not_true_eq_false, not_false_eq_true, reduceIte, reduceCtorEq, Nat.reduceEqDiff, Nat.reduceAdd, Nat.reduceSub, Nat.reduceLeDiff]
end Go.Proofs.Ytkecmbgjhamhiaa

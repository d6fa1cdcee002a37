/-
  StepsHold's function.
-/
import Derived.Test.YtkecmbgjhamhiaaStpb
import Derived.Test.YtkecmbgjhamhiaaRdy
namespace Go.Proofs.Ytkecmbgjhamhiaa
open Go Go.Ai
set_option linter.unusedSimpArgs false
set_option linter.unusedVariables false
set_option maxHeartbeats 4000000
def A_sh : List Ann := [⟨(some ⟨[0], [], []⟩), [], [], [], []⟩, ⟨(some ⟨[3,16], [16], []⟩), [], [], [], []⟩, ⟨(some ⟨[4,5], [], []⟩), [], [], [], []⟩, ⟨(some ⟨[4,5,6,7], [], []⟩), [], [], [], []⟩, ⟨(some ⟨[4,5,6,27], [], []⟩), [], [], [], []⟩, ⟨(some ⟨[2], [], []⟩), [], [], [], []⟩, ⟨(some ⟨[4,5,7,8], [], []⟩), [], [], [], []⟩, ⟨(some ⟨[4,5,8,35], [], []⟩), [], [], [], []⟩, ⟨(some ⟨[2], [], []⟩), [], [], [], []⟩, ⟨(some ⟨[5,7,8,9,10], [9], []⟩), [], [], [], []⟩, ⟨(some ⟨[7,9,10,11,12,13], [9,11], []⟩), [], [], [], []⟩, ⟨(some ⟨[2], [], []⟩), [], [], [], []⟩]
def C_sh : AC := (.seq (.reg false [⟨(some 2), none, .mv (.v (.bool false))⟩] (some ⟨[0], [], []⟩))
  (.seq (.reg false [⟨(some 14), none, .mv (.t 0)⟩, ⟨(some 15), none, .build [(.slice none 0 0), (.int .i64 (0))] [(0, 1, (.t 14))]⟩, ⟨(some 16), none, .box (.t 15)⟩, ⟨(some 3), none, .mv (.t 16)⟩] (some ⟨[3,16], [16], []⟩))
  (.seq (.reg false [⟨(some 17), none, .mv (.t 3)⟩, ⟨(some 18), none, .callx (.f 64) [(.t 17), (.v (.int .i64 (14)))]⟩, ⟨(some 19), none, .mv (.t 3)⟩, ⟨(some 20), none, .callx (.f 65) [(.t 19), (.v (.int .i64 (0))), (.v (.int .i64 (120)))]⟩, ⟨(some 4), none, .mv (.t 18)⟩, ⟨(some 5), none, .mv (.t 20)⟩] (some ⟨[4,5], [], []⟩))
  (.seq (.reg false [⟨(some 22), none, .mv (.t 4)⟩, ⟨(some 23), none, .call (.f 66) [(.t 22)]⟩, ⟨(some 21), none, .mv (.t 23)⟩, ⟨(some 24), none, .extr (.t 21) 0⟩, ⟨(some 25), none, .extr (.t 21) 1⟩, ⟨(some 6), none, .mv (.t 24)⟩, ⟨(some 7), none, .mv (.t 25)⟩] (some ⟨[4,5,6,7], [], []⟩))
  (.seq (.seq (.reg false [⟨(some 26), none, .mv (.t 7)⟩, ⟨(some 27), none, .bin .neq (.t 26) (.v (.int .i64 (0)))⟩] (some ⟨[4,5,6,27], [], []⟩))
  (.cond (.t 27)
  (.seq (.reg false [⟨(some 2), none, .mv (.v (.bool false))⟩] (some ⟨[2], [], []⟩))
  .ret)
  .skip))
  (.seq (.reg false [⟨(some 29), none, .mv (.t 4)⟩, ⟨(some 30), none, .mv (.t 6)⟩, ⟨(some 31), none, .call (.f 67) [(.t 29), (.t 30)]⟩, ⟨(some 28), none, .mv (.t 31)⟩, ⟨(some 32), none, .extr (.t 28) 0⟩, ⟨(some 33), none, .extr (.t 28) 1⟩, ⟨(some 8), none, .mv (.t 32)⟩, ⟨(some 7), none, .mv (.t 33)⟩] (some ⟨[4,5,7,8], [], []⟩))
  (.seq (.seq (.reg false [⟨(some 34), none, .mv (.t 7)⟩, ⟨(some 35), none, .bin .neq (.t 34) (.v (.int .i64 (0)))⟩] (some ⟨[4,5,8,35], [], []⟩))
  (.cond (.t 35)
  (.seq (.reg false [⟨(some 2), none, .mv (.v (.bool false))⟩] (some ⟨[2], [], []⟩))
  .ret)
  .skip))
  (.seq (.reg false [⟨(some 37), none, .mv (.t 4)⟩, ⟨(some 38), none, .mv (.t 5)⟩, ⟨(some 39), none, .call (.f 21) [(.t 37), (.v (.bool true)), (.t 38)]⟩, ⟨(some 36), none, .mv (.t 39)⟩, ⟨(some 40), none, .extr (.t 36) 0⟩, ⟨(some 41), none, .extr (.t 36) 1⟩, ⟨(some 42), none, .extr (.t 36) 2⟩, ⟨(some 9), none, .alloc [(.int .i64 (0)), (.int .i64 (0)), (.int .i64 (0)), (.int .i64 (0))]⟩, ⟨none, none, .store 4 (.t 9) (.t 40)⟩, ⟨(some 10), none, .mv (.t 41)⟩, ⟨(some 7), none, .mv (.t 42)⟩] (some ⟨[5,7,8,9,10], [9], []⟩))
  (.seq (.reg false [⟨(some 44), none, .mv (.t 8)⟩, ⟨(some 45), none, .mv (.t 5)⟩, ⟨(some 46), none, .call (.f 21) [(.t 44), (.v (.bool true)), (.t 45)]⟩, ⟨(some 43), none, .mv (.t 46)⟩, ⟨(some 47), none, .extr (.t 43) 0⟩, ⟨(some 48), none, .extr (.t 43) 1⟩, ⟨(some 49), none, .extr (.t 43) 2⟩, ⟨(some 11), none, .alloc [(.int .i64 (0)), (.int .i64 (0)), (.int .i64 (0)), (.int .i64 (0))]⟩, ⟨none, none, .store 4 (.t 11) (.t 47)⟩, ⟨(some 12), none, .mv (.t 48)⟩, ⟨(some 13), none, .mv (.t 49)⟩] (some ⟨[7,9,10,11,12,13], [9,11], []⟩))
  (.seq (.reg false [⟨(some 50), none, .mv (.t 7)⟩, ⟨(some 51), none, .bin .eql (.t 50) (.v (.int .i64 (0)))⟩, ⟨(some 52), none, .mv (.t 51)⟩, ⟨(some 53), (some (52, true)), .mv (.t 13)⟩, ⟨(some 54), (some (52, true)), .bin .eql (.t 53) (.v (.int .i64 (0)))⟩, ⟨(some 55), none, .pick (.t 52) (.t 54) (.v (.bool false))⟩, ⟨(some 56), none, .mv (.t 55)⟩, ⟨(some 57), (some (56, true)), .mv (.t 10)⟩, ⟨(some 58), (some (56, true)), .mv (.t 12)⟩, ⟨(some 59), (some (56, true)), .eqs false false [.b] (.t 57) (.t 58)⟩, ⟨(some 60), none, .pick (.t 56) (.t 59) (.v (.bool false))⟩, ⟨(some 61), none, .mv (.t 60)⟩, ⟨(some 62), (some (61, true)), .load true 4 (.t 9)⟩, ⟨(some 63), (some (61, true)), .load true 4 (.t 11)⟩, ⟨(some 64), (some (61, true)), .eqs false true [.i .i64, .i .i64, .i .i64, .i .i64] (.t 62) (.t 63)⟩, ⟨(some 65), none, .pick (.t 61) (.t 64) (.v (.bool false))⟩, ⟨(some 66), none, .mv (.t 65)⟩, ⟨(some 67), (some (66, true)), .call (.f 68) []⟩, ⟨(some 68), none, .pick (.t 66) (.t 67) (.v (.bool false))⟩, ⟨(some 2), none, .mv (.t 68)⟩] (some ⟨[2], [], []⟩))
  .ret))))))))))
theorem c_sh : compileCode Try.prog Try.f8.ntmps (Try.f8.body.getD .skip) A_sh = some (C_sh, []) := by kernel_rfl
theorem r_sh : compileRes Try.prog Try.f8.results.toList = some [.t 2] := by kernel_rfl
theorem b_sh : Try.f8.body = some (Try.f8.body.getD .skip) := by kernel_rfl
theorem n_sh : (Try.f8.name == "runtime.NumGoroutine") = false := by kernel_rfl
theorem fc_sh {xt : Option (List Cel)} {args : List Val} {R : List Cel → Val → Prop} (hn : (if xt.isSome then 1 else 0) + args.length ≤ Try.f8.ntmps) (h : ex Try.prog C_sh [] (fpost xt [.t 2] R) (initSt xt args)) : FC Try.prog 8 xt args R :=
  fc_of_awp Try.func8 b_sh n_sh c_sh r_sh (of_decide_eq_true (by kernel_rfl)) hn h


theorem sh_fc (L : List Int) (hL : ∀ x ∈ L, I64 x) (hl : L.length ≤ 9223372036854775807) : FC Try.prog 8 none [ints false L] (fun _ r => r = bv true) := by
  refine fc_sh (by simp +arith) ?_
  unfold C_sh
  simp (maxSteps := 1000000) (disch := omega) only [go_sem, eq_self, decide_true, decide_false, not_true_eq_false, not_false_eq_true, reduceIte, reduceCtorEq, Nat.reduceEqDiff, Nat.reduceAdd, Nat.reduceSub, Nat.reduceLeDiff]
  refine callx_gen (p := 0) (rightCurve_fc 14 (by omega) (by omega)) hL hl (by omega) (by omega) ⟨_, [], rfl, rfl⟩ ?_
  rintro pa r ha1 ha2 ⟨l, hs, rfl⟩
  refine ⟨rfl, ?_⟩
  unfold strm
  simp (maxSteps := 1000000) (disch := omega) only [go_sem, eq_self, decide_true, decide_false, not_true_eq_false, not_false_eq_true, reduceIte, reduceCtorEq, Nat.reduceEqDiff, Nat.reduceAdd, Nat.reduceSub, Nat.reduceLeDiff]
  refine callx_gen (range_fc 0 120 (by omega) (by omega) (by omega)) hL hl (by omega) (by omega) ⟨_, 0, by omega, by omega, rfl⟩ ?_
  rintro pb r hb1 hb2 ⟨at_, hat1, hat2, rfl⟩
  refine ⟨rfl, ?_⟩
  unfold strm
  have hg := good_of hs
  have hlen := hg.len
  have hsl := stpW_len l l.length
  have e1 : stpSp l = (stpW l l.length, 0) := by unfold stpSp; rw [if_neg (by omega)]
  have hk : kptF l (stpW l l.length) = 0 := by unfold kptF; rw [if_neg (by omega), if_neg (by omega)]; exact kfGo_stpW l _ (Nat.le_refl _)
  have e2 : kepSp l (stpW l l.length) = (kep l (stpW l l.length), 0) := by unfold kepSp; rw [if_neg (by omega)]
  have e3 : kep l (stpW l l.length) = sel (stepB l) 0 l := by
    have := kep_stpW l l.length (Nat.le_refl _)
    rw [List.drop_length, sel, List.append_nil] at this
    exact this
  have hs2 : serFault (sel (stepB l) 0 l) = 0 := serFault_sub (sel_sub _ _ _) hs
  have hg2 := good_of hs2
  have hlen2 := hg2.len
  have e4 : valSp l true at_ = valSp (sel (stepB l) 0 l) true at_ := by
    rw [valSp_last l hg, valSp_last _ hg2]
    have := sel_last at_ l hg (stepB l) (fun i h0 h1 hb => by
      unfold stepB at hb
      rw [decide_eq_false_iff_not] at hb
      omega) l 0 none none (by omega) rfl rfl (by omega)
    unfold vq at this
    cases h1 : lastLe at_ none l with
    | none =>
      rw [h1] at this
      cases h2 : lastLe at_ none (sel (stepB l) 0 l) with
      | none => rfl
      | some y => rw [h2] at this; cases this
    | some x =>
      rw [h1] at this
      cases h2 : lastLe at_ none (sel (stepB l) 0 l) with
      | none => rw [h2] at this; cases this
      | some y =>
        rw [h2] at this
        simp only [Option.map_some, Option.some.injEq, Prod.mk.injEq] at this
        simp only [this.1, this.2]
  simp (maxSteps := 1000000) (disch := omega) only [go_sem, eq_self, decide_true, decide_false, not_true_eq_false, not_false_eq_true, reduceIte, reduceCtorEq, Nat.reduceEqDiff, Nat.reduceAdd, Nat.reduceSub, Nat.reduceLeDiff]
  refine CALL_det (steps_fc l (by omega)) (.inl rfl) ?_
  rw [e1]
  simp (maxSteps := 1000000) (disch := omega) only [go_sem, eq_self, decide_true, decide_false, not_true_eq_false, not_false_eq_true, reduceIte, reduceCtorEq, Nat.reduceEqDiff, Nat.reduceAdd, Nat.reduceSub, Nat.reduceLeDiff]
  refine CALL_det (keepP_fc l (by omega) (stpW l l.length) (by omega)) (.inl rfl) ?_
  rw [e2, e3]
  simp (maxSteps := 1000000) (disch := omega) only [go_sem, eq_self, decide_true, decide_false, not_true_eq_false, not_false_eq_true, reduceIte, reduceCtorEq, Nat.reduceEqDiff, Nat.reduceAdd, Nat.reduceSub, Nat.reduceLeDiff]
  refine CALL_det (bvalueAt_fc l (by omega) true at_) (.inl rfl) ?_
  rw [vaSp_good true hs (by omega), e4]
  simp (maxSteps := 1000000) (disch := omega) only [go_sem, eq_self, decide_true, decide_false, not_true_eq_false, not_false_eq_true, reduceIte, reduceCtorEq, Nat.reduceEqDiff, Nat.reduceAdd, Nat.reduceSub, Nat.reduceLeDiff]
  refine CALL_det (bvalueAt_fc (sel (stepB l) 0 l) (by omega) true at_) (.inl rfl) ?_
  rw [vaSp_good true hs2 (by omega)]
  simp (maxSteps := 1000000) (disch := omega) only [go_sem, eq_self, decide_true, decide_false, not_true_eq_false, not_false_eq_true, reduceIte, reduceCtorEq, Nat.reduceEqDiff, Nat.reduceAdd, Nat.reduceSub, Nat.reduceLeDiff]
  refine CALL_det ready_fc (.inl rfl) ?_
  simp (maxSteps := 1000000) (disch := omega) only [go_sem, eq_self, decide_true, decide_false, not_true_eq_false, not_false_eq_true, reduceIte, reduceCtorEq, Nat.reduceEqDiff, Nat.reduceAdd, Nat.reduceSub, Nat.reduceLeDiff]
end Go.Proofs.Ytkecmbgjhamhiaa

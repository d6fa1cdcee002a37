/-
  The reference's extremes, buckets and windows above a limit.
-/
import Derived.Test.YtkecmbgjhamhiaaRefI
import Derived.Test.YtkecmbgjhamhiaaBkt
namespace Go.Proofs.Ytkecmbgjhamhiaa
open Go Go.Ai
set_option linter.unusedSimpArgs false
set_option linter.unusedVariables false
set_option maxHeartbeats 4000000
def A_bucketsOf : List Ann := [⟨(some ⟨[0,2,4], [4], []⟩), [], [], [], []⟩, ⟨(some ⟨[0,2,4,7], [4], []⟩), [(7, 98, 7)], [], [], []⟩, ⟨(some ⟨[0,2,4,7,8], [4], [7]⟩), [], [], [], []⟩, ⟨(some ⟨[0,2,4,7,8,15], [4], [7]⟩), [], [], [], []⟩, ⟨(some ⟨[0,2,4,7,8,9], [4,9], [7]⟩), [], [], [], []⟩, ⟨(some ⟨[0,2,4,7,8,9], [4,9], [7]⟩), [], [], [], []⟩, ⟨(some ⟨[0,2,4,7,8,9], [4,9], [7]⟩), [], [], [], []⟩, ⟨(some ⟨[0,2,4,7,8,9], [4,9], [7]⟩), [], [], [], []⟩, ⟨(some ⟨[0,2,4,7,8], [4], [7]⟩), [], [], [], []⟩, ⟨(some ⟨[0,2,4,7,8], [4], [7]⟩), [], [], [], []⟩, ⟨(some ⟨[6], [], []⟩), [], [], [], []⟩]
def C_bucketsOf : AC := (.seq (.reg false [⟨(some 4), none, .box (.t 1)⟩, ⟨(some 6), none, .mv (.v (.slice none 0 0))⟩] (some ⟨[0,2,4], [4], []⟩))
  (.seq (.seq (.reg false [⟨(some 7), none, .mv (.v (.slice none 0 0))⟩] (some ⟨[0,2,4,7], [4], []⟩))
  (.own 7 98 7))
  (.seq (.seq (.reg false [⟨(some 10), none, .fadr 0 (.t 4)⟩, ⟨(some 11), none, .load false 1 (.t 10)⟩, ⟨(some 8), none, .mv (.t 11)⟩] (some ⟨[0,2,4,7,8], [4], [7]⟩))
  (.block 0 (.loop (.seq (.seq (.reg false [⟨(some 12), none, .mv (.t 8)⟩, ⟨(some 13), none, .fadr 1 (.t 4)⟩, ⟨(some 14), none, .load false 1 (.t 13)⟩, ⟨(some 15), none, .bin .lss (.t 12) (.t 14)⟩] (some ⟨[0,2,4,7,8,15], [4], [7]⟩))
  (.cond (.t 15)
  .skip
  (.exit 0)))
  (.seq (.block 1 (.seq (.reg false [⟨(some 19), none, .mv (.t 8)⟩, ⟨(some 20), none, .mv (.t 8)⟩, ⟨(some 21), none, .mv (.t 2)⟩, ⟨(some 22), none, .bin .add (.t 20) (.t 21)⟩, ⟨(some 23), none, .fadr 1 (.t 4)⟩, ⟨(some 24), none, .load false 1 (.t 23)⟩, ⟨(some 25), none, .mnx false (.t 22) (.t 24)⟩, ⟨(some 26), none, .build [(.int .i64 (0)), (.int .i64 (0))] [(0, 1, (.t 19)), (1, 1, (.t 25))]⟩, ⟨(some 27), none, .build [(.int .i64 (0)), (.int .i64 (0)), (.int .i64 (0)), (.int .i64 (0)), (.int .i64 (0)), (.int .i64 (0)), (.int .i64 (0))] [(0, 2, (.t 26))]⟩, ⟨(some 9), none, .alloc [(.int .i64 (0)), (.int .i64 (0)), (.int .i64 (0)), (.int .i64 (0)), (.int .i64 (0)), (.int .i64 (0)), (.int .i64 (0))]⟩, ⟨none, none, .store 7 (.t 9) (.t 27)⟩] (some ⟨[0,2,4,7,8,9], [4,9], [7]⟩))
  (.seq (.reg false [⟨(some 29), none, .mv (.t 0)⟩, ⟨(some 30), none, .fadr 0 (.t 9)⟩, ⟨(some 31), none, .load true 2 (.t 30)⟩, ⟨(some 32), none, .call (.f 79) [(.t 29), (.t 31)]⟩, ⟨(some 28), none, .mv (.t 32)⟩, ⟨(some 33), none, .extr (.t 28) 0⟩, ⟨(some 34), none, .extr (.t 28) 1⟩, ⟨(some 35), none, .fadr 2 (.t 9)⟩, ⟨none, none, .store 1 (.t 35) (.t 34)⟩] (some ⟨[0,2,4,7,8,9], [4,9], [7]⟩))
  (.seq (.reg false [⟨(some 37), none, .mv (.t 0)⟩, ⟨(some 38), none, .fadr 0 (.t 9)⟩, ⟨(some 39), none, .load true 2 (.t 38)⟩, ⟨(some 40), none, .call (.f 80) [(.t 37), (.t 39)]⟩, ⟨(some 36), none, .mv (.t 40)⟩, ⟨(some 41), none, .extr (.t 36) 0⟩, ⟨(some 42), none, .extr (.t 36) 1⟩, ⟨(some 43), none, .fadr 3 (.t 9)⟩, ⟨none, none, .store 2 (.t 43) (.t 41)⟩] (some ⟨[0,2,4,7,8,9], [4,9], [7]⟩))
  (.seq (.reg false [⟨(some 45), none, .mv (.t 0)⟩, ⟨(some 46), none, .fadr 0 (.t 9)⟩, ⟨(some 47), none, .load true 2 (.t 46)⟩, ⟨(some 48), none, .call (.f 81) [(.t 45), (.t 47)]⟩, ⟨(some 44), none, .mv (.t 48)⟩, ⟨(some 49), none, .extr (.t 44) 0⟩, ⟨(some 50), none, .extr (.t 44) 1⟩, ⟨(some 51), none, .extr (.t 44) 2⟩, ⟨(some 52), none, .fadr 5 (.t 9)⟩, ⟨none, none, .store 1 (.t 52) (.t 49)⟩, ⟨(some 53), none, .fadr 6 (.t 9)⟩, ⟨none, none, .store 1 (.t 53) (.t 50)⟩] (some ⟨[0,2,4,7,8,9], [4,9], [7]⟩))
  (.reg false [⟨(some 54), none, .mv (.t 7)⟩, ⟨(some 55), none, .load true 7 (.t 9)⟩, ⟨(some 56), none, .bslice 7 1 [(.t 55)]⟩, ⟨(some 57), none, .append 98 7 56 (.t 54) (.t 56)⟩, ⟨(some 7), none, .mv (.t 57)⟩] (some ⟨[0,2,4,7,8], [4], [7]⟩)))))))
  (.reg false [⟨(some 16), none, .mv (.t 8)⟩, ⟨(some 17), none, .mv (.t 2)⟩, ⟨(some 18), none, .bin .add (.t 16) (.t 17)⟩, ⟨(some 8), none, .mv (.t 18)⟩] (some ⟨[0,2,4,7,8], [4], [7]⟩)))))))
  (.seq (.reg false [⟨(some 58), none, .mv (.t 7)⟩, ⟨(some 6), none, .mv (.t 58)⟩] (some ⟨[6], [], []⟩))
  .ret))))
theorem c_bucketsOf : compileCode Try.prog Try.f59.ntmps (Try.f59.body.getD .skip) A_bucketsOf = some (C_bucketsOf, []) := by kernel_rfl
theorem r_bucketsOf : compileRes Try.prog Try.f59.results.toList = some [.t 6] := by kernel_rfl
theorem b_bucketsOf : Try.f59.body = some (Try.f59.body.getD .skip) := by kernel_rfl
theorem n_bucketsOf : (Try.f59.name == "runtime.NumGoroutine") = false := by kernel_rfl
theorem fc_bucketsOf {xt : Option (List Cel)} {args : List Val} {R : List Cel → Val → Prop} (hn : (if xt.isSome then 1 else 0) + args.length ≤ Try.f59.ntmps) (h : ex Try.prog C_bucketsOf [] (fpost xt [.t 6] R) (initSt xt args)) : FC Try.prog 59 xt args R :=
  fc_of_awp Try.func59 b_bucketsOf n_bucketsOf c_bucketsOf r_bucketsOf (of_decide_eq_true (by kernel_rfl)) hn h


def mnG (b : Int) (m : List Pc) : Int := m.foldl (fun b p => min b p.v) b
def mxG (b : Int) (m : List Pc) : Int := m.foldl (fun b p => max b p.v) b
theorem minP_v : ∀ (r : List Pc) (b : Pc), (minP b r).v = mnG b.v r
  | [], b => rfl
  | p :: r, b => by
    rw [minP, minP_v r]
    unfold mnG
    rw [List.foldl_cons]
    congr 1
    split <;> omega
theorem maxP_v : ∀ (r : List Pc) (b : Pc), (maxP b r).v = mxG b.v r
  | [], b => rfl
  | p :: r, b => by
    rw [maxP, maxP_v r]
    unfold mxG
    rw [List.foldl_cons]
    congr 1
    split <;> omega
def exSp : List Pc → Int × Int × Bool
  | [] => (0, 0, false)
  | p :: r => ((minP p r).v, (maxP p r).v, true)
def exoSt (m : List Sr) (i lo hi : Int) (b : Bool) : AS := ⟨tabV [(4, iv lo), (5, iv hi), (6, bv b), (11, srsV true m), (12, iv m.length), (13, iv i)], tabO [], tabO []⟩
theorem extremesOf_fc (l : List Smp) (hs : serFault l = 0) (f t : Int) : FC Try.prog 81 none [smps false l, winV f t] (fun _ r => r = .tu [iv (exSp (vals f t l)).1, iv (exSp (vals f t l)).2.1, bv (exSp (vals f t l)).2.2]) := by
  refine fc_extremesOf (by simp +arith) ?_
  have hlen := (good_of hs).len
  have hml := rvals_len f t l
  unfold C_extremesOf
  simp (maxSteps := 1000000) (disch := omega) only [go_sem, eq_self, decide_true, decide_false, not_true_eq_false, not_false_eq_true, reduceIte, reduceCtorEq, Nat.reduceEqDiff, Nat.reduceAdd, Nat.reduceSub, Nat.reduceLeDiff]
  refine CALL_det (rvalued_fc l (by omega) f t) (.inl rfl) ?_
  rw [← rvals_pc]
  generalize rvals f t l = m at *
  simp (maxSteps := 1000000) (disch := omega) only [go_sem, eq_self, decide_true, decide_false, not_true_eq_false, not_false_eq_true, reduceIte, reduceCtorEq, Nat.reduceEqDiff, Nat.reduceAdd, Nat.reduceSub, Nat.reduceLeDiff]
  refine ex_loop4 (exoSt m) (fun i lo hi b => 0 ≤ i ∧ i ≤ m.length ∧ (i = 0 → lo = 0 ∧ hi = 0 ∧ b = false) ∧ (0 < i → b = true ∧ (mnG lo ((m.drop i.toNat).map toPc), mxG hi ((m.drop i.toNat).map toPc), true) = exSp (m.map toPc))) (fun i _ _ _ => (m.length - i).toNat) 0 0 0 false ⟨by omega, by omega, fun _ => ⟨rfl, rfl, rfl⟩, by omega⟩ rfl ?_
  rintro i lo hi b ⟨g1, g2, g3, g4⟩
  unfold exoSt
  by_cases hi' : i < m.length
  · have e2 : (i + 1).toNat = i.toNat + 1 := by omega
    have em := getD_map_at srC m i [] g1 hi'
    by_cases hz : i = 0
    · subst hz
      obtain ⟨rfl, rfl, rfl⟩ := g3 rfl
      have key : (mnG (min (m.getD (Int.toNat 0) default).v (m.getD (Int.toNat 0) default).v) ((m.drop (0 + 1 : Int).toNat).map toPc), mxG (max (m.getD (Int.toNat 0) default).v (m.getD (Int.toNat 0) default).v) ((m.drop (0 + 1 : Int).toNat).map toPc), true) = exSp (m.map toPc) := by
        cases m with
        | nil => simp at hi'
        | cons p r =>
          rw [List.map_cons, exSp, minP_v, maxP_v]
          simp only [Int.min_self, Int.max_self]
          rfl
      simp (maxSteps := 1000000) (disch := omega) only [go_sem, eq_self, decide_true, decide_false, not_true_eq_false, not_false_eq_true, reduceIte, reduceCtorEq, Nat.reduceEqDiff, Nat.reduceAdd, Nat.reduceSub, Nat.reduceLeDiff]
      exact ⟨0 + 1, _, _, _, rfl, ⟨by omega, by omega, by omega, fun _ => ⟨rfl, key⟩⟩, by omega⟩
    · obtain ⟨rfl, g5⟩ := g4 (by omega)
      rw [drop_cons m i.toNat (by omega), ← e2, List.map_cons] at g5
      unfold mnG mxG at g5
      rw [List.foldl_cons, List.foldl_cons] at g5
      simp only [toPc] at g5
      simp (maxSteps := 1000000) (disch := omega) only [go_sem, eq_self, decide_true, decide_false, not_true_eq_false, not_false_eq_true, reduceIte, reduceCtorEq, Nat.reduceEqDiff, Nat.reduceAdd, Nat.reduceSub, Nat.reduceLeDiff]
      exact ⟨_, _, _, _, rfl, ⟨by omega, by omega, by omega, fun _ => ⟨rfl, g5⟩⟩, by omega⟩
  · by_cases hz : i = 0
    · obtain ⟨rfl, rfl, rfl⟩ := g3 hz
      have : m = [] := List.length_eq_zero_iff.1 (by omega)
      subst this
      simp (maxSteps := 1000000) (disch := omega) only [go_sem, eq_self, decide_true, decide_false, not_true_eq_false, not_false_eq_true, reduceIte, reduceCtorEq, Nat.reduceEqDiff, Nat.reduceAdd, Nat.reduceSub, Nat.reduceLeDiff]
      rfl
    · obtain ⟨rfl, g5⟩ := g4 (by omega)
      rw [List.drop_eq_nil_of_le (by omega)] at g5
      rw [← g5]
      simp (maxSteps := 1000000) (disch := omega) only [go_sem, eq_self, decide_true, decide_false, not_true_eq_false, not_false_eq_true, reduceIte, reduceCtorEq, Nat.reduceEqDiff, Nat.reduceAdd, Nat.reduceSub, Nat.reduceLeDiff]
      rfl
def bkoSt (l : List Smp) (f t ev a : Int) (acc : List Bk) : AS := ⟨tabV [(0, smps false l), (2, iv ev), (4, .one (.bx 4 0)), (7, .one (.ow 7 0)), (8, iv a)], tabO [(4, [.g (.int .i64 f), .g (.int .i64 t)])], tabO [(7, ⟨0, 98, 7, acc.map bkC⟩)]⟩
theorem bucketsOf_fc (l : List Smp) (hs : serFault l = 0) (f t ev : Int) (hw : 0 ≤ f ∧ f ≤ t ∧ t ≤ 345686400000) (he : 1 ≤ ev ∧ ev ≤ 86400000) : FC Try.prog 59 none [smps false l, winV f t, iv ev] (fun _ r => r = bksV true (bks l f t ev)) := by
  refine fc_bucketsOf (by simp +arith) ?_
  unfold C_bucketsOf
  simp (maxSteps := 1000000) (disch := omega) only [go_sem, eq_self, decide_true, decide_false, not_true_eq_false, not_false_eq_true, reduceIte, reduceCtorEq, Nat.reduceEqDiff, Nat.reduceAdd, Nat.reduceSub, Nat.reduceLeDiff]
  refine ex_loop2 (bkoSt l f t ev) (fun a acc => f ≤ a ∧ a ≤ 345686400000 + 86400000 ∧ acc.length ≤ a - f ∧ acc ++ bks l a t ev = bks l f t ev) (fun a _ => (t - a).toNat) f [] ⟨by omega, by omega, by simp, by simp⟩ rfl ?_
  rintro a acc ⟨g1, g2, g3, g4⟩
  unfold bkoSt
  by_cases ha : a < t
  · rw [bks_step l ev t a (by omega) ha, Int.min_comm t (a + ev)] at g4
    have hc := vals_chain (show a ≤ min (a + ev) t by omega) hs
    have hb := int_bd hc
    have a1 := integralOf_fc l hs a (min (a + ev) t) (by omega)
    have a2 := averageOf_fc l hs a (min (a + ev) t) (by omega)
    have a3 := extremesOf_fc l hs a (min (a + ev) t)
    generalize vals a (min (a + ev) t) l = m at *
    cases m with
    | nil =>
      simp only [bkOf] at g4
      simp only [intS, intT, if_true, exSp] at a1 a2 a3
      simp (maxSteps := 1000000) (disch := omega) only [go_sem, eq_self, decide_true, decide_false, not_true_eq_false, not_false_eq_true, reduceIte, reduceCtorEq, Nat.reduceEqDiff, Nat.reduceAdd, Nat.reduceSub, Nat.reduceLeDiff]
      refine CALL_det a1 (.inl rfl) ?_
      simp (maxSteps := 1000000) (disch := omega) only [go_sem, eq_self, decide_true, decide_false, not_true_eq_false, not_false_eq_true, reduceIte, reduceCtorEq, Nat.reduceEqDiff, Nat.reduceAdd, Nat.reduceSub, Nat.reduceLeDiff]
      refine CALL_det a2 (.inl rfl) ?_
      simp (maxSteps := 1000000) (disch := omega) only [go_sem, eq_self, decide_true, decide_false, not_true_eq_false, not_false_eq_true, reduceIte, reduceCtorEq, Nat.reduceEqDiff, Nat.reduceAdd, Nat.reduceSub, Nat.reduceLeDiff]
      refine CALL_det a3 (.inl rfl) ?_
      simp (maxSteps := 1000000) (disch := omega) only [go_sem, eq_self, decide_true, decide_false, not_true_eq_false, not_false_eq_true, reduceIte, reduceCtorEq, Nat.reduceEqDiff, Nat.reduceAdd, Nat.reduceSub, Nat.reduceLeDiff]
      exact ⟨a + ev, acc ++ [⟨a, min (a + ev) t, 0, 0, 0, 0, 0⟩], by simp only [bkoSt, List.map_append, List.map_cons, List.map_nil, bkC_eq], ⟨by omega, by omega, by simp; omega, by simpa using g4⟩, by omega⟩
    | cons p r =>
      have hp := intT_pos hc
      rw [if_neg (by omega)] at a2
      simp only [bkOf] at g4
      simp only [exSp] at a3
      simp (maxSteps := 1000000) (disch := omega) only [go_sem, eq_self, decide_true, decide_false, not_true_eq_false, not_false_eq_true, reduceIte, reduceCtorEq, Nat.reduceEqDiff, Nat.reduceAdd, Nat.reduceSub, Nat.reduceLeDiff]
      refine CALL_det a1 (.inl rfl) ?_
      simp (maxSteps := 1000000) (disch := omega) only [go_sem, eq_self, decide_true, decide_false, not_true_eq_false, not_false_eq_true, reduceIte, reduceCtorEq, Nat.reduceEqDiff, Nat.reduceAdd, Nat.reduceSub, Nat.reduceLeDiff]
      refine CALL_det a2 (.inl rfl) ?_
      simp (maxSteps := 1000000) (disch := omega) only [go_sem, eq_self, decide_true, decide_false, not_true_eq_false, not_false_eq_true, reduceIte, reduceCtorEq, Nat.reduceEqDiff, Nat.reduceAdd, Nat.reduceSub, Nat.reduceLeDiff]
      refine CALL_det a3 (.inl rfl) ?_
      simp (maxSteps := 1000000) (disch := omega) only [go_sem, eq_self, decide_true, decide_false, not_true_eq_false, not_false_eq_true, reduceIte, reduceCtorEq, Nat.reduceEqDiff, Nat.reduceAdd, Nat.reduceSub, Nat.reduceLeDiff]
      exact ⟨a + ev, acc ++ [⟨a, min (a + ev) t, intT (p :: r), lowN (intS (p :: r)) (intT (p :: r)), lowD (intS (p :: r)) (intT (p :: r)), (minP p r).v, (maxP p r).v⟩], by simp only [bkoSt, List.map_append, List.map_cons, List.map_nil, bkC_eq], ⟨by omega, by omega, by simp; omega, by simpa using g4⟩, by omega⟩
  · rw [bks_end l ev t a ha, List.append_nil] at g4
    simp (maxSteps := 1000000) (disch := omega) only [go_sem, eq_self, decide_true, decide_false, not_true_eq_false, not_false_eq_true, reduceIte, reduceCtorEq, Nat.reduceEqDiff, Nat.reduceAdd, Nat.reduceSub, Nat.reduceLeDiff]
    rw [g4]
def aboSt (L : Int) (m : List Sr) (i : Int) (out : List (Int × Int)) (n : Int) : AS := ⟨tabV [(2, iv L), (8, .one (.ow 8 0)), (9, iv n), (15, srsV true m), (16, iv m.length), (17, iv i)], tabO [], tabO [(8, winRow out)]⟩
theorem aboveOf_fc (l : List Smp) (hs : serFault l = 0) (f t L : Int) (hw : 0 ≤ f ∧ f ≤ t ∧ t ≤ 345686400000) : FC Try.prog 60 none [smps false l, winV f t, iv L] (fun _ r => r = .tu [frsV true (abW L f t l).1, iv (abW L f t l).2]) := by
  refine fc_aboveOf (by simp +arith) ?_
  have hg := good_of hs
  have hlen := hg.len
  have hml := rvals_len f t l
  have hok := vals_ok f t hg
  unfold C_aboveOf
  simp (maxSteps := 1000000) (disch := omega) only [go_sem, eq_self, decide_true, decide_false, not_true_eq_false, not_false_eq_true, reduceIte, reduceCtorEq, Nat.reduceEqDiff, Nat.reduceAdd, Nat.reduceSub, Nat.reduceLeDiff]
  refine CALL_det (rvalued_fc l (by omega) f t) (.inl rfl) ?_
  unfold abW
  rw [← rvals_pc] at hok ⊢
  generalize rvals f t l = m at *
  simp (maxSteps := 1000000) (disch := omega) only [go_sem, eq_self, decide_true, decide_false, not_true_eq_false, not_false_eq_true, reduceIte, reduceCtorEq, Nat.reduceEqDiff, Nat.reduceAdd, Nat.reduceSub, Nat.reduceLeDiff]
  refine ex_loop3 (aboSt L m) (fun i out n => 0 ≤ i ∧ i ≤ m.length ∧ out.length ≤ i ∧ 0 ≤ n ∧ n ≤ i * 345686400000 ∧ ((m.drop i.toNat).map toPc).foldl (abStep L) (out, n) = (m.map toPc).foldl (abStep L) ([], 0)) (fun i _ _ => (m.length - i).toNat) 0 [] 0 ⟨by omega, by omega, by simp, by omega, by omega, rfl⟩ rfl ?_
  rintro i out n ⟨g1, g2, g3, g4, g4', g5⟩
  unfold aboSt
  by_cases hi : i < m.length
  · have e2 : (i + 1).toNat = i.toNat + 1 := by omega
    have em := getD_map_at srC m i [] g1 hi
    have hmi := hok (toPc (m.getD i.toNat default)) (List.mem_map.2 ⟨_, getD_mem m i.toNat (by omega), rfl⟩)
    unfold okPc toPc at hmi
    rw [drop_cons m i.toNat (by omega), List.map_cons, List.foldl_cons, ← e2] at g5
    simp only [toPc] at hmi
    by_cases c0 : (m.getD i.toNat default).v ≤ L
    · have e : abStep L (out, n) (toPc (m.getD i.toNat default)) = (out, n) := if_pos (show (toPc (m.getD i.toNat default)).v ≤ L from c0)
      rw [e] at g5
      simp (maxSteps := 1000000) (disch := omega) only [go_sem, eq_self, decide_true, decide_false, not_true_eq_false, not_false_eq_true, reduceIte, reduceCtorEq, Nat.reduceEqDiff, Nat.reduceAdd, Nat.reduceSub, Nat.reduceLeDiff]
      exact ⟨_, _, _, rfl, ⟨by omega, by omega, by omega, by omega, by omega, g5⟩, by omega⟩
    simp (maxSteps := 1000000) (disch := omega) only [go_sem, eq_self, decide_true, decide_false, not_true_eq_false, not_false_eq_true, reduceIte, reduceCtorEq, Nat.reduceEqDiff, Nat.reduceAdd, Nat.reduceSub, Nat.reduceLeDiff]
    refine CALL_det (rlong_fc (m.getD i.toNat default).f (m.getD i.toNat default).t (by omega) (by omega)) (.inl rfl) ?_
    by_cases c1 : 1 ≤ out.length
    · have eo := getE_map_in frC out ((out.length : Int) - 1).toNat (by omega)
      by_cases c2 : (out.getD ((out.length : Int) - 1).toNat default).2 = (m.getD i.toNat default).f
      · have e : abStep L (out, n) (toPc (m.getD i.toNat default)) = (setTo out (m.getD i.toNat default).t, n + ((m.getD i.toNat default).t - (m.getD i.toNat default).f)) := (if_neg (show ¬(toPc (m.getD i.toNat default)).v ≤ L from c0)).trans (Prod.ext (if_pos ⟨c1, c2⟩) rfl)
        rw [e] at g5
        simp (maxSteps := 1000000) (disch := omega) only [go_sem, eq_self, decide_true, decide_false, not_true_eq_false, not_false_eq_true, reduceIte, reduceCtorEq, Nat.reduceEqDiff, Nat.reduceAdd, Nat.reduceSub, Nat.reduceLeDiff]
        exact ⟨i + 1, setTo out (m.getD i.toNat default).t, n + ((m.getD i.toNat default).t - (m.getD i.toNat default).f), by simp only [aboSt, winRow, setTo_map], ⟨by omega, by omega, by rw [setTo_len]; omega, by omega, by omega, g5⟩, by omega⟩
      · have e : abStep L (out, n) (toPc (m.getD i.toNat default)) = (out ++ [((m.getD i.toNat default).f, (m.getD i.toNat default).t)], n + ((m.getD i.toNat default).t - (m.getD i.toNat default).f)) := (if_neg (show ¬(toPc (m.getD i.toNat default)).v ≤ L from c0)).trans (Prod.ext (if_neg (fun h => c2 h.2)) rfl)
        rw [e] at g5
        simp (maxSteps := 1000000) (disch := omega) only [go_sem, eq_self, decide_true, decide_false, not_true_eq_false, not_false_eq_true, reduceIte, reduceCtorEq, Nat.reduceEqDiff, Nat.reduceAdd, Nat.reduceSub, Nat.reduceLeDiff]
        exact ⟨i + 1, out ++ [((m.getD i.toNat default).f, (m.getD i.toNat default).t)], n + ((m.getD i.toNat default).t - (m.getD i.toNat default).f), by simp only [aboSt, winRow, List.map_append, List.map_cons, List.map_nil, frC_eq], ⟨by omega, by omega, by simp; omega, by omega, by omega, g5⟩, by omega⟩
    · have e : abStep L (out, n) (toPc (m.getD i.toNat default)) = (out ++ [((m.getD i.toNat default).f, (m.getD i.toNat default).t)], n + ((m.getD i.toNat default).t - (m.getD i.toNat default).f)) := (if_neg (show ¬(toPc (m.getD i.toNat default)).v ≤ L from c0)).trans (Prod.ext (if_neg (fun h => c1 h.1)) rfl)
      rw [e] at g5
      have : out.length = 0 := by omega
      simp (maxSteps := 1000000) (disch := omega) only [go_sem, eq_self, decide_true, decide_false, not_true_eq_false, not_false_eq_true, reduceIte, reduceCtorEq, Nat.reduceEqDiff, Nat.reduceAdd, Nat.reduceSub, Nat.reduceLeDiff]
      exact ⟨i + 1, out ++ [((m.getD i.toNat default).f, (m.getD i.toNat default).t)], n + ((m.getD i.toNat default).t - (m.getD i.toNat default).f), by simp only [aboSt, winRow, List.map_append, List.map_cons, List.map_nil, frC_eq], ⟨by omega, by omega, by simp; omega, by omega, by omega, g5⟩, by omega⟩
  · rw [List.drop_eq_nil_of_le (by omega), List.map_nil, List.foldl_nil] at g5
    rw [← g5]
    simp (maxSteps := 1000000) (disch := omega) only [go_sem, eq_self, decide_true, decide_false, not_true_eq_false, not_false_eq_true, reduceIte, reduceCtorEq, Nat.reduceEqDiff, Nat.reduceAdd, Nat.reduceSub, Nat.reduceLeDiff]
end Go.Proofs.Ytkecmbgjhamhiaa

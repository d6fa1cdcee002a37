/-
  The reference's report, and SamplesReported's function.
-/
import Derived.Test.YtkecmbgjhamhiaaRepb
namespace Go.Proofs.Ytkecmbgjhamhiaa
open Go Go.Ai
set_option linter.unusedSimpArgs false
set_option linter.unusedVariables false
set_option maxHeartbeats 4000000
def A_sr : List Ann := [⟨(some ⟨[0], [], []⟩), [], [], [], []⟩, ⟨(some ⟨[3,12], [12], []⟩), [], [], [], []⟩, ⟨(some ⟨[4,5,6], [4,5], []⟩), [], [], [], []⟩, ⟨(some ⟨[4,6,30], [4], []⟩), [], [], [], []⟩, ⟨(some ⟨[2], [], []⟩), [], [], [], []⟩, ⟨(some ⟨[4,6,7,8], [4], []⟩), [], [], [], []⟩, ⟨(some ⟨[4,6,7,8,9], [4], []⟩), [], [], [], []⟩, ⟨(some ⟨[4,6,7,8,9,44], [4], []⟩), [], [], [], []⟩, ⟨(some ⟨[2], [], []⟩), [], [], [], []⟩, ⟨(some ⟨[2], [], []⟩), [], [], [], []⟩]
def C_sr : AC := (.seq (.reg false [⟨(some 2), none, .mv (.v (.bool false))⟩] (some ⟨[0], [], []⟩))
  (.seq (.reg false [⟨(some 10), none, .mv (.t 0)⟩, ⟨(some 11), none, .build [(.slice none 0 0), (.int .i64 (0))] [(0, 1, (.t 10))]⟩, ⟨(some 12), none, .box (.t 11)⟩, ⟨(some 3), none, .mv (.t 12)⟩] (some ⟨[3,12], [12], []⟩))
  (.seq (.reg false [⟨(some 13), none, .mv (.t 3)⟩, ⟨(some 14), none, .callx (.f 31) [(.t 13)]⟩, ⟨(some 15), none, .mv (.t 3)⟩, ⟨(some 16), none, .callx (.f 32) [(.t 15)]⟩, ⟨(some 17), none, .mv (.t 3)⟩, ⟨(some 18), none, .callx (.f 15) [(.t 17), (.v (.int .i64 (12)))]⟩, ⟨(some 4), none, .alloc [(.int .i64 (0)), (.int .i64 (0))]⟩, ⟨(some 5), none, .alloc [(.int .i64 (0)), (.int .i64 (0))]⟩, ⟨none, none, .store 2 (.t 4) (.t 14)⟩, ⟨none, none, .store 2 (.t 5) (.t 16)⟩, ⟨(some 6), none, .mv (.t 18)⟩] (some ⟨[4,5,6], [4,5], []⟩))
  (.seq (.seq (.reg true [⟨(some 19), none, .load true 2 (.t 4)⟩, ⟨(some 20), none, .call (.f 33) [(.t 19)]⟩, ⟨(some 21), none, .load true 2 (.t 4)⟩, ⟨(some 22), none, .call (.f 34) [(.t 21)]⟩, ⟨(some 23), none, .bin .neq (.t 20) (.t 22)⟩, ⟨(some 24), none, .mv (.t 23)⟩, ⟨(some 25), (some (24, false)), .load true 2 (.t 5)⟩, ⟨(some 26), (some (24, false)), .call (.f 35) [(.t 25)]⟩, ⟨(some 27), (some (24, false)), .load true 2 (.t 5)⟩, ⟨(some 28), (some (24, false)), .call (.f 36) [(.t 27)]⟩, ⟨(some 29), (some (24, false)), .bin .neq (.t 26) (.t 28)⟩, ⟨(some 30), none, .pick (.t 24) (.v (.bool true)) (.t 29)⟩] (some ⟨[4,6,30], [4], []⟩))
  (.cond (.t 30)
  (.seq (.reg false [⟨(some 2), none, .mv (.v (.bool false))⟩] (some ⟨[2], [], []⟩))
  .ret)
  .skip))
  (.seq (.reg false [⟨(some 32), none, .load true 2 (.t 4)⟩, ⟨(some 33), none, .mv (.t 6)⟩, ⟨(some 34), none, .call (.f 37) [(.t 32), (.t 33)]⟩, ⟨(some 31), none, .mv (.t 34)⟩, ⟨(some 35), none, .extr (.t 31) 0⟩, ⟨(some 36), none, .extr (.t 31) 1⟩, ⟨(some 7), none, .mv (.t 35)⟩, ⟨(some 8), none, .mv (.t 36)⟩] (some ⟨[4,6,7,8], [4], []⟩))
  (.seq (.seq (.reg false [⟨(some 37), none, .load true 2 (.t 4)⟩, ⟨(some 38), none, .call (.f 34) [(.t 37)]⟩, ⟨(some 39), none, .mv (.t 6)⟩, ⟨(some 40), none, .call (.f 20) [(.t 39)]⟩, ⟨(some 41), none, .bslice 1 2 [(.t 38), (.t 40)]⟩, ⟨(some 42), none, .call (.f 23) [(.t 41)]⟩, ⟨(some 9), none, .mv (.t 42)⟩] (some ⟨[4,6,7,8,9], [4], []⟩))
  (.seq (.reg false [⟨(some 43), none, .mv (.t 9)⟩, ⟨(some 44), none, .bin .neq (.t 43) (.v (.int .i64 (0)))⟩] (some ⟨[4,6,7,8,9,44], [4], []⟩))
  (.cond (.t 44)
  (.seq (.reg false [⟨(some 45), none, .mv (.t 8)⟩, ⟨(some 46), none, .mv (.t 9)⟩, ⟨(some 47), none, .bin .eql (.t 45) (.t 46)⟩, ⟨(some 48), none, .mv (.t 47)⟩, ⟨(some 49), (some (48, true)), .mv (.t 7)⟩, ⟨(some 50), (some (48, true)), .len (.t 49)⟩, ⟨(some 51), (some (48, true)), .bin .eql (.t 50) (.v (.int .i64 (0)))⟩, ⟨(some 52), none, .pick (.t 48) (.t 51) (.v (.bool false))⟩, ⟨(some 53), none, .mv (.t 52)⟩, ⟨(some 54), (some (53, true)), .call (.f 38) []⟩, ⟨(some 55), none, .pick (.t 53) (.t 54) (.v (.bool false))⟩, ⟨(some 2), none, .mv (.t 55)⟩] (some ⟨[2], [], []⟩))
  .ret)
  .skip)))
  (.seq (.reg false [⟨(some 56), none, .mv (.t 8)⟩, ⟨(some 57), none, .bin .eql (.t 56) (.v (.int .i64 (0)))⟩, ⟨(some 58), none, .mv (.t 57)⟩, ⟨(some 59), (some (58, true)), .mv (.t 7)⟩, ⟨(some 60), (some (58, true)), .load true 2 (.t 4)⟩, ⟨(some 61), (some (58, true)), .mv (.t 6)⟩, ⟨(some 62), (some (58, true)), .call (.f 40) [(.t 60), (.t 61)]⟩, ⟨(some 63), (some (58, true)), .call (.f 39) [(.t 59), (.t 62)]⟩, ⟨(some 64), none, .pick (.t 58) (.t 63) (.v (.bool false))⟩, ⟨(some 65), none, .mv (.t 64)⟩, ⟨(some 66), (some (65, true)), .call (.f 38) []⟩, ⟨(some 67), none, .pick (.t 65) (.t 66) (.v (.bool false))⟩, ⟨(some 2), none, .mv (.t 67)⟩] (some ⟨[2], [], []⟩))
  .ret)))))))
theorem c_sr : compileCode Try.prog Try.f4.ntmps (Try.f4.body.getD .skip) A_sr = some (C_sr, []) := by kernel_rfl
theorem r_sr : compileRes Try.prog Try.f4.results.toList = some [.t 2] := by kernel_rfl
theorem b_sr : Try.f4.body = some (Try.f4.body.getD .skip) := by kernel_rfl
theorem n_sr : (Try.f4.name == "runtime.NumGoroutine") = false := by kernel_rfl
theorem fc_sr {xt : Option (List Cel)} {args : List Val} {R : List Cel → Val → Prop} (hn : (if xt.isSome then 1 else 0) + args.length ≤ Try.f4.ntmps) (h : ex Try.prog C_sr [] (fpost xt [.t 2] R) (initSt xt args)) : FC Try.prog 4 xt args R :=
  fc_of_awp Try.func4 b_sr n_sr c_sr r_sr (of_decide_eq_true (by kernel_rfl)) hn h


def rpoSt (l : List Smp) (db gap i last : Int) (out : List Int) : AS := ⟨tabV [(1, smps false l), (2, .one (.bx 2 0)), (5, .one (.ow 5 0)), (6, iv last), (10, smps false l), (11, iv l.length), (12, iv i)], tabO [(2, [.g (.int .i64 db), .g (.int .i64 gap)])], tabO [(5, ⟨0, 3, 1, out.map intC⟩)]⟩
def rpoI (l : List Smp) (db gap i last : Int) (out : List Int) : Prop :=
  0 ≤ i ∧ i ≤ l.length ∧ out.length ≤ 2 * i ∧ (i = 0 → out = [] ∧ last = 0) ∧ (0 < i → i < l.length → last ∈ out ∧ (∀ x ∈ out, x ≤ last) ∧ 0 ≤ last ∧ last < i ∧ out ++ repGo db gap i (l.getD last.toNat default) last (l.drop i.toNat) = repW db gap l) ∧ (i = l.length → out = repW db gap l)
theorem rpoI_on {l : List Smp} {db gap i last : Int} {out : List Int} (h0 : 0 ≤ i) (h1 : i < l.length) (h2 : out.length ≤ 2 * (i + 1)) (h3 : last ∈ out) (h3' : ∀ x ∈ out, x ≤ last) (h4 : 0 ≤ last) (h5 : last < i + 1) (h6 : out ++ repGo db gap (i + 1) (l.getD last.toNat default) last (l.drop (i + 1).toNat) = repW db gap l) : rpoI l db gap (i + 1) last out :=
  ⟨by omega, by omega, h2, by omega, fun _ _ => ⟨h3, h3', h4, h5, h6⟩, fun h7 => by rw [List.drop_eq_nil_of_le (by omega)] at h6; rw [← h6]; simp [repGo]⟩
theorem reportOf_fc (l : List Smp) (hg : Good l) (db gap : Int) (hdb : 0 ≤ db ∧ db ≤ 2000000 ∧ 1 ≤ gap ∧ gap ≤ 34560000000) : FC Try.prog 40 none [twoV db gap, smps false l] (fun _ r => r = ints true (repW db gap l)) := by
  refine fc_reportOf (by simp +arith) ?_
  have hlen := hg.len
  unfold C_reportOf
  simp (maxSteps := 1000000) (disch := omega) only [go_sem, eq_self, decide_true, decide_false, not_true_eq_false, not_false_eq_true, reduceIte, reduceCtorEq, Nat.reduceEqDiff, Nat.reduceAdd, Nat.reduceSub, Nat.reduceLeDiff]
  refine ⟨by omega, ?_⟩
  refine ex_loop3 (rpoSt l db gap) (rpoI l db gap) (fun i _ _ => (l.length - i).toNat) 0 0 [] ⟨by omega, by omega, by simp, fun _ => ⟨rfl, rfl⟩, by omega, fun h => by unfold repW; rw [if_pos (by omega)]⟩ rfl ?_
  rintro i last out ⟨g1, g2, g3, g4, g5, g6⟩
  unfold rpoSt
  by_cases hi : i < l.length
  · have em := getD_map_at smpC l i [] g1 hi
    by_cases hz : i = 0
    · subst hz
      obtain ⟨rfl, rfl⟩ := g4 rfl
      have ek := getD_map_at smpC l 0 [] (by omega) hi
      simp (maxSteps := 1000000) (disch := omega) only [go_sem, eq_self, decide_true, decide_false, not_true_eq_false, not_false_eq_true, reduceIte, reduceCtorEq, Nat.reduceEqDiff, Nat.reduceAdd, Nat.reduceSub, Nat.reduceLeDiff]
      refine ⟨0 + 1, 0, [0], by simp [rpoSt, intC_eq], rpoI_on (by omega) hi (by simp) (by simp) (by simp) (by simp) (by simp) ?_, by omega⟩
      unfold repW; rw [if_neg (by omega)]; simp
    · obtain ⟨k1, k1', k2, k3, k4⟩ := g5 (by omega) hi
      have ek := getD_map_at smpC l last [] k2 (by omega)
      have hoi := hg.ok i.toNat (by omega)
      have hok := hg.ok last.toNat (by omega)
      have hup := hg.up last.toNat i.toNat (by omega) (by omega)
      have e2 : (i + 1).toNat = i.toNat + 1 := by omega
      rw [drop_cons l i.toNat (by omega), repGo, ← e2] at k4
      unfold okSmp at hoi hok
      by_cases hc : repCh db gap (l.getD i.toNat default) (l.getD last.toNat default)
      · rw [if_pos hc] at k4
        have hmem : (i - 1 ∈ out) ↔ ¬ last < i - 1 := by
          refine ⟨fun h h' => ?_, fun h => ?_⟩
          · have := k1' _ h; omega
          · have h2 : i - 1 = last := by omega
            rw [h2]; exact k1
        have hx : (¬(l.getD i.toNat default).q = (l.getD last.toNat default).q) ∨ ((l.getD i.toNat default).q = (l.getD last.toNat default).q ∧ max ((l.getD i.toNat default).v - (l.getD last.toNat default).v) ((l.getD last.toNat default).v - (l.getD i.toNat default).v) > db) ∨ ((l.getD i.toNat default).q = (l.getD last.toNat default).q ∧ ¬max ((l.getD i.toNat default).v - (l.getD last.toNat default).v) ((l.getD last.toNat default).v - (l.getD i.toNat default).v) > db ∧ (l.getD i.toNat default).a - (l.getD last.toNat default).a ≥ gap) := by unfold repCh at hc; omega
        clear hc
        by_cases hj : last < i - 1
        · rw [if_pos hj] at k4
          have fin : rpoI l db gap (i + 1) i (out ++ [i - 1] ++ [i]) := rpoI_on g1 hi (by simp; omega) (by simp) (fun x hx => by
            simp only [List.append_assoc, List.mem_append, List.mem_cons, List.not_mem_nil, or_false] at hx
            rcases hx with hx | hx | hx
            · have := k1' x hx; omega
            · omega
            · omega) (by omega) (by omega) (by simpa using k4)
          have hnm : ¬ (i - 1 ∈ out) := fun h => hmem.1 h hj
          rcases hx with hx | ⟨hx, hx2⟩ | ⟨hx, hx2, hx3⟩
          · simp (maxSteps := 1000000) (disch := omega) only [go_sem, eq_self, decide_true, decide_false, not_true_eq_false, not_false_eq_true, reduceIte, reduceCtorEq, Nat.reduceEqDiff, Nat.reduceAdd, Nat.reduceSub, Nat.reduceLeDiff]
            refine CALL_det (contInts_fc false out (by omega) (i - 1)) (.inl rfl) ?_
            rw [decide_eq_false hnm]
            simp (maxSteps := 1000000) (disch := omega) only [go_sem, eq_self, decide_true, decide_false, not_true_eq_false, not_false_eq_true, reduceIte, reduceCtorEq, Nat.reduceEqDiff, Nat.reduceAdd, Nat.reduceSub, Nat.reduceLeDiff]
            exact ⟨i + 1, i, out ++ [i - 1] ++ [i], by simp [rpoSt, intC_eq], fin, by omega⟩
          all_goals
            simp (maxSteps := 1000000) (disch := omega) only [go_sem, eq_self, decide_true, decide_false, not_true_eq_false, not_false_eq_true, reduceIte, reduceCtorEq, Nat.reduceEqDiff, Nat.reduceAdd, Nat.reduceSub, Nat.reduceLeDiff]
            refine CALL_det (far_fc _ _ (by omega) (by omega)) (.inl rfl) ?_
            simp (maxSteps := 1000000) (disch := omega) only [go_sem, eq_self, decide_true, decide_false, not_true_eq_false, not_false_eq_true, reduceIte, reduceCtorEq, Nat.reduceEqDiff, Nat.reduceAdd, Nat.reduceSub, Nat.reduceLeDiff]
            refine CALL_det (contInts_fc false out (by omega) (i - 1)) (.inl rfl) ?_
            rw [decide_eq_false hnm]
            simp (maxSteps := 1000000) (disch := omega) only [go_sem, eq_self, decide_true, decide_false, not_true_eq_false, not_false_eq_true, reduceIte, reduceCtorEq, Nat.reduceEqDiff, Nat.reduceAdd, Nat.reduceSub, Nat.reduceLeDiff]
            exact ⟨i + 1, i, out ++ [i - 1] ++ [i], by simp [rpoSt, intC_eq], fin, by omega⟩
        · rw [if_neg hj] at k4
          have fin : rpoI l db gap (i + 1) i (out ++ [i]) := rpoI_on g1 hi (by simp; omega) (by simp) (fun x hx => by
            simp only [List.mem_append, List.mem_cons, List.not_mem_nil, or_false] at hx
            rcases hx with hx | hx
            · have := k1' x hx; omega
            · omega) (by omega) (by omega) (by simpa using k4)
          have hnm : i - 1 ∈ out := hmem.2 hj
          rcases hx with hx | ⟨hx, hx2⟩ | ⟨hx, hx2, hx3⟩
          · simp (maxSteps := 1000000) (disch := omega) only [go_sem, eq_self, decide_true, decide_false, not_true_eq_false, not_false_eq_true, reduceIte, reduceCtorEq, Nat.reduceEqDiff, Nat.reduceAdd, Nat.reduceSub, Nat.reduceLeDiff]
            refine CALL_det (contInts_fc false out (by omega) (i - 1)) (.inl rfl) ?_
            rw [decide_eq_true hnm]
            simp (maxSteps := 1000000) (disch := omega) only [go_sem, eq_self, decide_true, decide_false, not_true_eq_false, not_false_eq_true, reduceIte, reduceCtorEq, Nat.reduceEqDiff, Nat.reduceAdd, Nat.reduceSub, Nat.reduceLeDiff]
            exact ⟨i + 1, i, out ++ [i], by simp [rpoSt, intC_eq], fin, by omega⟩
          all_goals
            simp (maxSteps := 1000000) (disch := omega) only [go_sem, eq_self, decide_true, decide_false, not_true_eq_false, not_false_eq_true, reduceIte, reduceCtorEq, Nat.reduceEqDiff, Nat.reduceAdd, Nat.reduceSub, Nat.reduceLeDiff]
            refine CALL_det (far_fc _ _ (by omega) (by omega)) (.inl rfl) ?_
            simp (maxSteps := 1000000) (disch := omega) only [go_sem, eq_self, decide_true, decide_false, not_true_eq_false, not_false_eq_true, reduceIte, reduceCtorEq, Nat.reduceEqDiff, Nat.reduceAdd, Nat.reduceSub, Nat.reduceLeDiff]
            refine CALL_det (contInts_fc false out (by omega) (i - 1)) (.inl rfl) ?_
            rw [decide_eq_true hnm]
            simp (maxSteps := 1000000) (disch := omega) only [go_sem, eq_self, decide_true, decide_false, not_true_eq_false, not_false_eq_true, reduceIte, reduceCtorEq, Nat.reduceEqDiff, Nat.reduceAdd, Nat.reduceSub, Nat.reduceLeDiff]
            exact ⟨i + 1, i, out ++ [i], by simp [rpoSt, intC_eq], fin, by omega⟩
      · rw [if_neg hc] at k4
        obtain ⟨n1, n2, n3⟩ := repCh_out hc
        clear hc
        simp (maxSteps := 1000000) (disch := omega) only [go_sem, eq_self, decide_true, decide_false, not_true_eq_false, not_false_eq_true, reduceIte, reduceCtorEq, Nat.reduceEqDiff, Nat.reduceAdd, Nat.reduceSub, Nat.reduceLeDiff]
        refine CALL_det (far_fc _ _ (by omega) (by omega)) (.inl rfl) ?_
        by_cases hj : i + 1 = l.length
        · rw [if_pos (by rw [List.length_drop]; omega), List.drop_eq_nil_of_le (by omega), repGo, List.append_nil] at k4
          simp (maxSteps := 1000000) (disch := omega) only [go_sem, eq_self, decide_true, decide_false, not_true_eq_false, not_false_eq_true, reduceIte, reduceCtorEq, Nat.reduceEqDiff, Nat.reduceAdd, Nat.reduceSub, Nat.reduceLeDiff]
          exact ⟨i + 1, last, out ++ [i], by simp [rpoSt, intC_eq], ⟨by omega, by omega, by simp; omega, by omega, by omega, fun _ => k4⟩, by omega⟩
        · rw [if_neg (by rw [List.length_drop]; omega), List.nil_append] at k4
          simp (maxSteps := 1000000) (disch := omega) only [go_sem, eq_self, decide_true, decide_false, not_true_eq_false, not_false_eq_true, reduceIte, reduceCtorEq, Nat.reduceEqDiff, Nat.reduceAdd, Nat.reduceSub, Nat.reduceLeDiff]
          exact ⟨_, _, _, rfl, rpoI_on g1 hi (by omega) k1 k1' k2 (by omega) k4, by omega⟩
  · simp (maxSteps := 1000000) (disch := omega) only [go_sem, eq_self, decide_true, decide_false, not_true_eq_false, not_false_eq_true, reduceIte, reduceCtorEq, Nat.reduceEqDiff, Nat.reduceAdd, Nat.reduceSub, Nat.reduceLeDiff]
    rw [g6 (by omega)]
theorem repGo_len (db gap : Int) : ∀ (l : List Smp) (i k : Int) (p : Smp), (repGo db gap i p k l).length ≤ 2 * l.length
  | [], i, k, p => by simp [repGo]
  | s :: r, i, k, p => by
    rw [repGo]
    split
    · have := repGo_len db gap r (i + 1) i s
      split <;> simp <;> omega
    · have := repGo_len db gap r (i + 1) k p
      split <;> simp <;> omega
theorem repW_len (db gap : Int) (l : List Smp) : (repW db gap l).length ≤ 2 * l.length + 1 := by
  unfold repW
  split
  · simp
  · have := repGo_len db gap (l.drop 1) 1 0 (l.getD 0 default)
    simp only [List.length_cons, List.length_drop] at *; omega
theorem sr_fc (L : List Int) (hL : ∀ x ∈ L, I64 x) (hl : L.length ≤ 9223372036854775807) : FC Try.prog 4 none [ints false L] (fun _ r => r = bv true) := by
  refine fc_sr (by simp +arith) ?_
  unfold C_sr
  simp (maxSteps := 1000000) (disch := omega) only [go_sem, eq_self, decide_true, decide_false, not_true_eq_false, not_false_eq_true, reduceIte, reduceCtorEq, Nat.reduceEqDiff, Nat.reduceAdd, Nat.reduceSub, Nat.reduceLeDiff]
  refine callx_gen (p := 0) exceptionOf_fc hL hl (by omega) (by omega) ⟨_, 0, 0, by simp [I64], by simp [I64], rfl⟩ ?_
  rintro pa r ha1 ha2 ⟨db, gap, hdb, hgap, rfl⟩
  refine ⟨rfl, ?_⟩
  unfold strm
  simp (maxSteps := 1000000) (disch := omega) only [go_sem, eq_self, decide_true, decide_false, not_true_eq_false, not_false_eq_true, reduceIte, reduceCtorEq, Nat.reduceEqDiff, Nat.reduceAdd, Nat.reduceSub, Nat.reduceLeDiff]
  refine callx_gen doorOf_fc hL hl (by omega) (by omega) ⟨_, 0, 0, by simp [I64], by simp [I64], rfl⟩ ?_
  rintro pb r hb1 hb2 ⟨dv, dg, hdv, hdg, rfl⟩
  refine ⟨rfl, ?_⟩
  unfold strm
  simp (maxSteps := 1000000) (disch := omega) only [go_sem, eq_self, decide_true, decide_false, not_true_eq_false, not_false_eq_true, reduceIte, reduceCtorEq, Nat.reduceEqDiff, Nat.reduceAdd, Nat.reduceSub, Nat.reduceLeDiff]
  refine callx_gen (curve_fc 12 (by omega) (by omega)) hL hl (by omega) (by omega) ⟨_, [], by simp, by simp, rfl⟩ ?_
  rintro pc r hc1 hc2 ⟨l, hll, hl64, rfl⟩
  refine ⟨rfl, ?_⟩
  unfold strm
  simp (maxSteps := 1000000) (disch := omega) only [go_sem, eq_self, decide_true, decide_false, not_true_eq_false, not_false_eq_true, reduceIte, reduceCtorEq, Nat.reduceEqDiff, Nat.reduceAdd, Nat.reduceSub, Nat.reduceLeDiff]
  refine CALL_det (checkException_fc db gap) (.inl rfl) ?_
  simp (maxSteps := 1000000) (disch := omega) only [go_sem, eq_self, decide_true, decide_false, not_true_eq_false, not_false_eq_true, reduceIte, reduceCtorEq, Nat.reduceEqDiff, Nat.reduceAdd, Nat.reduceSub, Nat.reduceLeDiff]
  refine CALL_det (exceptionFault_fc db gap) (.inl rfl) ?_
  simp (maxSteps := 1000000) (disch := omega) only [go_sem, eq_self, decide_true, decide_false, not_true_eq_false, not_false_eq_true, reduceIte, reduceCtorEq, Nat.reduceEqDiff, Nat.reduceAdd, Nat.reduceSub, Nat.reduceLeDiff]
  refine CALL_det (checkDoor_fc dv dg) (.inl rfl) ?_
  simp (maxSteps := 1000000) (disch := omega) only [go_sem, eq_self, decide_true, decide_false, not_true_eq_false, not_false_eq_true, reduceIte, reduceCtorEq, Nat.reduceEqDiff, Nat.reduceAdd, Nat.reduceSub, Nat.reduceLeDiff]
  refine CALL_det (doorFault_fc dv dg) (.inl rfl) ?_
  simp (maxSteps := 1000000) (disch := omega) only [go_sem, eq_self, decide_true, decide_false, not_true_eq_false, not_false_eq_true, reduceIte, reduceCtorEq, Nat.reduceEqDiff, Nat.reduceAdd, Nat.reduceSub, Nat.reduceLeDiff]
  refine CALL_det (report_fc l (by omega) db gap) (.inl rfl) ?_
  simp (maxSteps := 1000000) (disch := omega) only [go_sem, eq_self, decide_true, decide_false, not_true_eq_false, not_false_eq_true, reduceIte, reduceCtorEq, Nat.reduceEqDiff, Nat.reduceAdd, Nat.reduceSub, Nat.reduceLeDiff]
  refine CALL_det (exceptionFault_fc db gap) (.inl rfl) ?_
  simp (maxSteps := 1000000) (disch := omega) only [go_sem, eq_self, decide_true, decide_false, not_true_eq_false, not_false_eq_true, reduceIte, reduceCtorEq, Nat.reduceEqDiff, Nat.reduceAdd, Nat.reduceSub, Nat.reduceLeDiff]
  refine CALL_det (seriesFault_fc l (by omega)) (.inl rfl) ?_
  simp (maxSteps := 1000000) (disch := omega) only [go_sem, eq_self, decide_true, decide_false, not_true_eq_false, not_false_eq_true, reduceIte, reduceCtorEq, Nat.reduceEqDiff, Nat.reduceAdd, Nat.reduceSub, Nat.reduceLeDiff]
  refine CALL_det (orE_fc false [excF db gap, serFault l] (by simp)) (.inl rfl) ?_
  unfold rptSp
  by_cases h1 : orSp [excF db gap, serFault l] = 0
  · rw [if_neg (show ¬(orSp [excF db gap, serFault l] ≠ 0) by omega), h1]
    obtain ⟨h2, h3⟩ := or2_z h1
    have hlw := repW_len db gap l
    simp (maxSteps := 1000000) (disch := omega) only [go_sem, eq_self, decide_true, decide_false, not_true_eq_false, not_false_eq_true, reduceIte, reduceCtorEq, Nat.reduceEqDiff, Nat.reduceAdd, Nat.reduceSub, Nat.reduceLeDiff]
    refine CALL_det (reportOf_fc l (good_of h3) db gap (by unfold excF at h2; split at h2 <;> omega)) (.inl rfl) ?_
    simp (maxSteps := 1000000) (disch := omega) only [go_sem, eq_self, decide_true, decide_false, not_true_eq_false, not_false_eq_true, reduceIte, reduceCtorEq, Nat.reduceEqDiff, Nat.reduceAdd, Nat.reduceSub, Nat.reduceLeDiff]
    refine CALL_det (eqInts_fc _ _ (repW db gap l) (by omega)) (.inl rfl) ?_
    simp (maxSteps := 1000000) (disch := omega) only [go_sem, eq_self, decide_true, decide_false, not_true_eq_false, not_false_eq_true, reduceIte, reduceCtorEq, Nat.reduceEqDiff, Nat.reduceAdd, Nat.reduceSub, Nat.reduceLeDiff]
    refine CALL_det pressed_fc (.inl rfl) ?_
    simp (maxSteps := 1000000) (disch := omega) only [go_sem, eq_self, decide_true, decide_false, not_true_eq_false, not_false_eq_true, reduceIte, reduceCtorEq, Nat.reduceEqDiff, Nat.reduceAdd, Nat.reduceSub, Nat.reduceLeDiff]
  · rw [if_pos (show orSp [excF db gap, serFault l] ≠ 0 by omega)]
    simp (maxSteps := 1000000) (disch := omega) only [go_sem, eq_self, decide_true, decide_false, not_true_eq_false, not_false_eq_true, reduceIte, reduceCtorEq, Nat.reduceEqDiff, Nat.reduceAdd, Nat.reduceSub, Nat.reduceLeDiff]
    refine CALL_det pressed_fc (.inl rfl) ?_
    simp (maxSteps := 1000000) (disch := omega) only [go_sem, eq_self, decide_true, decide_false, not_true_eq_false, not_false_eq_true, reduceIte, reduceCtorEq, Nat.reduceEqDiff, Nat.reduceAdd, Nat.reduceSub, Nat.reduceLeDiff]
end Go.Proofs.Ytkecmbgjhamhiaa

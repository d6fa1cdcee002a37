/-
  The generator Counters, and CountersTotalled itself.
-/
import Derived.Test.YtkecmbgjhamhiaaTota
namespace Go.Proofs.Ytkecmbgjhamhiaa
open Go Go.Ai
set_option linter.unusedSimpArgs false
set_option linter.unusedVariables false
set_option maxHeartbeats 4000000
def ctrSt (L : List Int) (n : Int) (x : CurveX) : AS :=
  ⟨tabV [(0, .one (.bx 0 0)), (3, .one (.ow 3 0)), (4, iv x.a), (5, iv x.v), (13, iv n), (14, iv x.i)], tabO [(0, strm L x.p)], tabO [(3, ⟨0, 111, 3, x.l.map smpC⟩)]⟩
theorem counters_fc : Gen Try.prog 41 [] 100 (fun r => ∃ l : List Smp, l.length ≤ 1000 ∧ (∀ x ∈ l, x.in64) ∧ r = smps true l) := by
  intro L p hL hl h0 hp
  refine fc_counters (by simp +arith) ?_
  unfold C_counters strm
  simp (maxSteps := 1000000) (disch := omega) only [go_sem, eq_self, decide_true, decide_false, not_true_eq_false, not_false_eq_true, reduceIte, reduceCtorEq, Nat.reduceEqDiff, Nat.reduceAdd, Nat.reduceSub, Nat.reduceLeDiff]
  refine callx_gen (pick_fc false [0, 5] (by simp) (by simp)) hL hl h0 (by omega) ⟨_, 0, by simp, rfl⟩ ?_
  rintro p1 r h1 h2 ⟨x, hx, rfl⟩
  refine ⟨rfl, ?_⟩
  unfold strm
  simp only [List.mem_cons, List.not_mem_nil, or_false] at hx
  simp (maxSteps := 1000000) (disch := omega) only [go_sem, eq_self, decide_true, decide_false, not_true_eq_false, not_false_eq_true, reduceIte, reduceCtorEq, Nat.reduceEqDiff, Nat.reduceAdd, Nat.reduceSub, Nat.reduceLeDiff]
  refine callx_gen (range_fc 0 9 (by omega) (by omega) (by omega)) hL hl (by omega) (by omega) ⟨_, 0, by omega, by omega, rfl⟩ ?_
  rintro p2 r h3 h4 ⟨y, hy, hy2, rfl⟩
  refine ⟨rfl, ?_⟩
  unfold strm
  simp (maxSteps := 1000000) (disch := omega) only [go_sem, eq_self, decide_true, decide_false, not_true_eq_false, not_false_eq_true, reduceIte, reduceCtorEq, Nat.reduceEqDiff, Nat.reduceAdd, Nat.reduceSub, Nat.reduceLeDiff]
  refine callx_gen (range_fc 0 9 (by omega) (by omega) (by omega)) hL hl (by omega) (by omega) ⟨_, 0, by omega, by omega, rfl⟩ ?_
  rintro p3 r h5 h6 ⟨n, hn, hn2, rfl⟩
  refine ⟨rfl, ?_⟩
  unfold strm
  simp (maxSteps := 1000000) (disch := omega) only [go_sem, eq_self, decide_true, decide_false, not_true_eq_false, not_false_eq_true, reduceIte, reduceCtorEq, Nat.reduceEqDiff, Nat.reduceAdd, Nat.reduceSub, Nat.reduceLeDiff]
  refine ex_loopI (ctrSt L n) (fun x => 0 ≤ x.i ∧ x.i ≤ n ∧ x.l.length = x.i ∧ p ≤ x.p ∧ x.p ≤ p + 3 + 3 * x.i ∧ 0 ≤ x.a ∧ x.a ≤ 100 * x.i + 100 ∧ 0 ≤ x.v ∧ x.v ≤ 9 ∧ ∀ z ∈ x.l, 0 ≤ z.a ∧ z.a ≤ 200000 ∧ 0 ≤ z.v ∧ z.v ≤ 9 ∧ 0 ≤ z.q ∧ z.q ≤ 2) (fun x => (n - x.i).toNat) ⟨0, x, y, p3, []⟩ ⟨by simp, by simp; omega, by simp, by simp; omega, by simp; omega, by simp; omega, by simp; omega, by simp; omega, by simp; omega, by simp⟩ rfl ?_
  rintro ⟨i, a, v, q, l⟩ ⟨g1, g2, g3, g4, g5, g6, g7, g8, g9, g10⟩
  simp only at g1 g2 g3 g4 g5 g6 g7 g8 g9 g10
  unfold ctrSt strm
  by_cases hi : i < n
  · simp (maxSteps := 1000000) (disch := omega) only [go_sem, eq_self, decide_true, decide_false, not_true_eq_false, not_false_eq_true, reduceIte, reduceCtorEq, Nat.reduceEqDiff, Nat.reduceAdd, Nat.reduceSub, Nat.reduceLeDiff]
    refine callx_gen (pick_fc false [0, 0, 0, 1, 2] (by simp) (by simp)) hL hl (by omega) (by omega) ⟨_, 0, by simp, rfl⟩ ?_
    rintro pa r haa hba ⟨za, hza, rfl⟩
    refine ⟨rfl, ?_⟩
    unfold strm
    simp only [List.mem_cons, List.not_mem_nil, or_false] at hza
    simp (maxSteps := 1000000) (disch := omega) only [go_sem, eq_self, decide_true, decide_false, not_true_eq_false, not_false_eq_true, reduceIte, reduceCtorEq, Nat.reduceEqDiff, Nat.reduceAdd, Nat.reduceSub, Nat.reduceLeDiff]
    refine ⟨fun hq => ?_, fun hq => ?_⟩
    ·
      refine callx_gen (pick_fc false [1, 5, 20] (by simp) (by simp)) hL hl (by omega) (by omega) ⟨_, 1, by simp, rfl⟩ ?_
      rintro pb r hab hbb ⟨zb, hzb, rfl⟩
      refine ⟨rfl, ?_⟩
      unfold strm
      simp only [List.mem_cons, List.not_mem_nil, or_false] at hzb
      simp (maxSteps := 1000000) (disch := omega) only [go_sem, eq_self, decide_true, decide_false, not_true_eq_false, not_false_eq_true, reduceIte, reduceCtorEq, Nat.reduceEqDiff, Nat.reduceAdd, Nat.reduceSub, Nat.reduceLeDiff]
      refine callx_gen (pick_fc false [0, 1, 3, 8] (by simp) (by simp)) hL hl (by omega) (by omega) ⟨_, 0, by simp, rfl⟩ ?_
      rintro pc r hac hbc ⟨zc, hzc, rfl⟩
      refine ⟨rfl, ?_⟩
      unfold strm
      simp only [List.mem_cons, List.not_mem_nil, or_false] at hzc
      simp (maxSteps := 1000000) (disch := omega) only [go_sem, eq_self, decide_true, decide_false, not_true_eq_false, not_false_eq_true, reduceIte, reduceCtorEq, Nat.reduceEqDiff, Nat.reduceAdd, Nat.reduceSub, Nat.reduceLeDiff]
      have ht : (v + zc).tmod 10 = (v + zc) % 10 := Int.tmod_eq_emod_of_nonneg (by omega)
      rw [ht]
      refine ⟨⟨i + 1, a + zb, (v + zc) % 10, pc, l ++ [⟨a, 0, za⟩]⟩, ⟨by simp; omega, by simp; omega, by simp; omega, by simp; omega, by simp; omega, by simp; omega, by simp; omega, by simp; omega, by simp; omega, ?_⟩, by simp [ctrSt, strm, smpC_eq], by simp; omega⟩
      intro z hz
      simp only [List.mem_append, List.mem_cons, List.not_mem_nil, or_false] at hz
      rcases hz with hz | rfl
      · exact g10 z hz
      · simp only; omega
    ·
      refine callx_gen (pick_fc false [1, 5, 20] (by simp) (by simp)) hL hl (by omega) (by omega) ⟨_, 1, by simp, rfl⟩ ?_
      rintro pb r hab hbb ⟨zb, hzb, rfl⟩
      refine ⟨rfl, ?_⟩
      unfold strm
      simp only [List.mem_cons, List.not_mem_nil, or_false] at hzb
      simp (maxSteps := 1000000) (disch := omega) only [go_sem, eq_self, decide_true, decide_false, not_true_eq_false, not_false_eq_true, reduceIte, reduceCtorEq, Nat.reduceEqDiff, Nat.reduceAdd, Nat.reduceSub, Nat.reduceLeDiff]
      refine callx_gen (pick_fc false [0, 1, 3, 8] (by simp) (by simp)) hL hl (by omega) (by omega) ⟨_, 0, by simp, rfl⟩ ?_
      rintro pc r hac hbc ⟨zc, hzc, rfl⟩
      refine ⟨rfl, ?_⟩
      unfold strm
      simp only [List.mem_cons, List.not_mem_nil, or_false] at hzc
      simp (maxSteps := 1000000) (disch := omega) only [go_sem, eq_self, decide_true, decide_false, not_true_eq_false, not_false_eq_true, reduceIte, reduceCtorEq, Nat.reduceEqDiff, Nat.reduceAdd, Nat.reduceSub, Nat.reduceLeDiff]
      have ht : (v + zc).tmod 10 = (v + zc) % 10 := Int.tmod_eq_emod_of_nonneg (by omega)
      rw [ht]
      refine ⟨⟨i + 1, a + zb, (v + zc) % 10, pc, l ++ [⟨a, v, za⟩]⟩, ⟨by simp; omega, by simp; omega, by simp; omega, by simp; omega, by simp; omega, by simp; omega, by simp; omega, by simp; omega, by simp; omega, ?_⟩, by simp [ctrSt, strm, smpC_eq], by simp; omega⟩
      intro z hz
      simp only [List.mem_append, List.mem_cons, List.not_mem_nil, or_false] at hz
      rcases hz with hz | rfl
      · exact g10 z hz
      · simp only; omega
  · have g11 : ∀ z ∈ l, z.in64 := fun z hz => by have := g10 z hz; unfold Smp.in64 I64; omega
    simp (maxSteps := 1000000) (disch := omega) only [go_sem, eq_self, decide_true, decide_false, not_true_eq_false, not_false_eq_true, reduceIte, reduceCtorEq, Nat.reduceEqDiff, Nat.reduceAdd, Nat.reduceSub, Nat.reduceLeDiff]
    exact ⟨⟨q, by omega, by omega, rfl⟩, l, by omega, g11, rfl⟩
end Go.Proofs.Ytkecmbgjhamhiaa

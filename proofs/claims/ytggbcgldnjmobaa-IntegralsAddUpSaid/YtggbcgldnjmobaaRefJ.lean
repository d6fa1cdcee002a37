
/-
  The reference's extremes, buckets and windows above a limit.
-/
import Derived.Test.YtggbcgldnjmobaaRefI
import Derived.Test.YtggbcgldnjmobaaBkt
namespace Go.Proofs.Ytggbcgldnjmobaa
open Go Go.Ai
set_option linter.unusedSimpArgs false
set_option linter.unusedVariables false
set_option maxHeartbeats 4000000

def mnG (b : Int) (m : List Pc) : Int := m.foldl (fun b p => min b p.v) b
def mxG (b : Int) (m : List Pc) : Int := m.foldl (fun b p => max b p.v) b
theorem minP_v : ∀ (r : List Pc) (b : Pc), (minP b r).v = mnG b.v r
  | [], b => rfl
  | p :: r, b => by
    rw [minP, minP_v r]
    unfold mnG
    rw [List.foldl_cons]
    congr 1
    split <;> omega
theorem maxP_v : ∀ (r : List Pc) (b : Pc), (maxP b r).v = mxG b.v r
  | [], b => rfl
  | p :: r, b => by
    rw [maxP, maxP_v r]
    unfold mxG
    rw [List.foldl_cons]
    congr 1
    split <;> omega
def exSp : List Pc → Int × Int × Bool
  | [] => (0, 0, false)
  | p :: r => ((minP p r).v, (maxP p r).v, true)
def exoSt (m : List Sr) (i lo hi : Int) (b : Bool) : AS := ⟨tabV [(4, iv lo), (5, iv hi), (6, bv b), (11, srsV true m), (12, iv m.length), (13, iv i)], tabO [], tabO []⟩
theorem extremesOf_fc (l : List Smp) (hs : serFault l = 0) (f t : Int) : FC Try.prog 72 none [smps false l, winV f t] (fun _ r => r = .tu [iv (exSp (vals f t l)).1, iv (exSp (vals f t l)).2.1, bv (exSp (vals f t l)).2.2]) := by
  refine fc_extremesOf (by simp +arith) ?_
  have hlen := (good_of hs).len
  have hml := rvals_len f t l
  unfold C_extremesOf
  simp (maxSteps := 1000000) (disch := omega) only [go_sem, eq_self, decide_true, decide_false, not_true_eq_false, not_false_eq_true, reduceIte, reduceCtorEq, Nat.reduceEqDiff, Nat.reduceAdd, Nat.reduceSub, Nat.reduceLeDiff]
  refine CALL_det (rvalued_fc l (by omega) f t) (.inl rfl) ?_
  rw [← rvals_pc]
  generalize rvals f t l = m at *
  simp (maxSteps := 1000000) (disch := omega) only [go_sem, eq_self, decide_true, decide_false, not_true_eq_false, not_false_eq_true, reduceIte, reduceCtorEq, Nat.reduceEqDiff, Nat.reduceAdd, Nat.reduceSub, Nat.reduceLeDiff]
  refine ex_loop4 (exoSt m) (fun i lo hi b => 0 ≤ i ∧ i ≤ m.length ∧ (i = 0 → lo = 0 ∧ hi = 0 ∧ b = false) ∧ (0 < i → b = true ∧ (mnG lo ((m.drop i.toNat).map toPc), mxG hi ((m.drop i.toNat).map toPc), true) = exSp (m.map toPc))) (fun i _ _ _ => (m.length - i).toNat) 0 0 0 false ⟨by omega, by omega, fun _ => ⟨rfl, rfl, rfl⟩, by omega⟩ rfl ?_
  rintro i lo hi b ⟨g1, g2, g3, g4⟩
  unfold exoSt
  by_cases hi' : i < m.length
  · have e2 : (i + 1).toNat = i.toNat + 1 := by omega
    have em := getD_map_at srC m i [] g1 hi'
    by_cases hz : i = 0
    · subst hz
      obtain ⟨rfl, rfl, rfl⟩ := g3 rfl
      have key : (mnG (min (m.getD (Int.toNat 0) default).v (m.getD (Int.toNat 0) default).v) ((m.drop (0 + 1 : Int).toNat).map toPc), mxG (max (m.getD (Int.toNat 0) default).v (m.getD (Int.toNat 0) default).v) ((m.drop (0 + 1 : Int).toNat).map toPc), true) = exSp (m.map toPc) := by
        cases m with
        | nil => simp at hi'
        | cons p r =>
          rw [List.map_cons, exSp, minP_v, maxP_v]
          simp only [Int.min_self, Int.max_self]
          rfl
      simp (maxSteps := 1000000) (disch := omega) only [go_sem, eq_self, decide_true, decide_false, not_true_eq_false, not_false_eq_true, reduceIte, reduceCtorEq, Nat.reduceEqDiff, Nat.reduceAdd, Nat.reduceSub, Nat.reduceLeDiff]
      exact ⟨0 + 1, _, _, _, rfl, ⟨by omega, by omega, by omega, fun _ => ⟨rfl, key⟩⟩, by omega⟩
    · obtain ⟨rfl, g5⟩ := g4 (by omega)
      rw [drop_cons m i.toNat (by omega), ← e2, List.map_cons] at g5
      unfold mnG mxG at g5
      rw [List.foldl_cons, List.foldl_cons] at g5
      simp only [toPc] at g5
      simp (maxSteps := 1000000) (disch := omega) only [go_sem, eq_self, decide_true, decide_false, not_true_eq_false, not_false_eq_true, reduceIte, reduceCtorEq, Nat.reduceEqDiff, Nat.reduceAdd, Nat.reduceSub, Nat.reduceLeDiff]
      exact ⟨_, _, _, _, rfl, ⟨by omega, by omega, by omega, fun _ => ⟨rfl, g5⟩⟩, by omega⟩
  · by_cases hz : i = 0
    · obtain ⟨rfl, rfl, rfl⟩ := g3 hz
      have : m = [] := List.length_eq_zero_iff.1 (by omega)
      subst this
      simp (maxSteps := 1000000) (disch := omega) only [go_sem, eq_self, decide_true, decide_false, not_true_eq_false, not_false_eq_true, reduceIte, reduceCtorEq, Nat.reduceEqDiff, Nat.reduceAdd, Nat.reduceSub, Nat.reduceLeDiff]
      rfl
    · obtain ⟨rfl, g5⟩ := g4 (by omega)
      rw [List.drop_eq_nil_of_le (by omega)] at g5
      rw [← g5]
      simp (maxSteps := 1000000) (disch := omega) only [go_sem, eq_self, decide_true, decide_false, not_true_eq_false, not_false_eq_true, reduceIte, reduceCtorEq, Nat.reduceEqDiff, Nat.reduceAdd, Nat.reduceSub, Nat.reduceLeDiff]
      rfl
def bkoSt (l : List Smp) (f t ev a : Int) (acc : List Bk) : AS := ⟨tabV [(0, smps false l), (2, iv ev), (4, .one (.bx 4 0)), (7, .one (.ow 7 0)), (8, iv a)], tabO [(4, [.g (.int .i64 f), .g (.int .i64 t)])], tabO [(7, ⟨0, 94, 7, acc.map bkC⟩)]⟩
def aboSt (L : Int) (m : List Sr) (i : Int) (out : List (Int × Int)) (n : Int) : AS := ⟨tabV [(2, iv L), (8, .one (.ow 8 0)), (9, iv n), (15, srsV true m), (16, iv m.length), (17, iv i)], tabO [], tabO [(8, winRow out)]⟩
end Go.Proofs.Ytggbcgldnjmobaa


/-
  Phases of a frame.
-/
import Derived.Test.YtggbcgldnjmobaaPrf
import Derived.Test.YtggbcgldnjmobaaStpb
namespace Go.Proofs.Ytggbcgldnjmobaa
open Go Go.Ai
set_option linter.unusedSimpArgs false
set_option linter.unusedVariables false
set_option maxHeartbeats 4000000
def A_phasesFault : List Ann := [⟨(some ⟨[0], [], []⟩), [], [], [], []⟩, ⟨(some ⟨[0,10], [], []⟩), [], [], [], []⟩, ⟨(some ⟨[2], [], []⟩), [], [], [], []⟩, ⟨(some ⟨[0,11,12,13], [], []⟩), [], [], [], []⟩, ⟨(some ⟨[0,11,12,13,14], [], []⟩), [], [], [], []⟩, ⟨(some ⟨[0,4,11,12,13], [4], []⟩), [], [], [], []⟩, ⟨(some ⟨[0,11,12,13,19], [], []⟩), [], [], [], []⟩, ⟨(some ⟨[2], [], []⟩), [], [], [], []⟩, ⟨(some ⟨[0,11,12,13], [], []⟩), [], [], [], []⟩, ⟨(some ⟨[0,5], [], []⟩), [(5, 66, 2)], [], [], []⟩, ⟨(some ⟨[5,21,22,23], [], [5]⟩), [], [], [], []⟩, ⟨(some ⟨[5,21,22,23,24], [], [5]⟩), [], [], [], []⟩, ⟨(some ⟨[5,7,21,22,23], [7], [5]⟩), [], [], [], []⟩, ⟨(some ⟨[5,21,22,23], [], [5]⟩), [], [], [], []⟩, ⟨(some ⟨[5,21,22,23], [], [5]⟩), [], [], [], []⟩, ⟨(some ⟨[2], [], []⟩), [], [], [], []⟩]
def C_phasesFault : AC := (.seq (.reg false [⟨(some 2), none, .mv (.v (.int .i64 (0)))⟩] (some ⟨[0], [], []⟩))
  (.seq (.seq (.reg false [⟨(some 8), none, .mv (.t 0)⟩, ⟨(some 9), none, .len (.t 8)⟩, ⟨(some 10), none, .bin .gtr (.t 9) (.v (.int .i64 (5000)))⟩] (some ⟨[0,10], [], []⟩))
  (.cond (.t 10)
  (.seq (.reg false [⟨(some 2), none, .mv (.v (.int .i64 (2)))⟩] (some ⟨[2], [], []⟩))
  .ret)
  .skip))
  (.seq (.seq (.reg false [⟨(some 11), none, .mv (.t 0)⟩, ⟨(some 12), none, .len (.t 11)⟩, ⟨(some 13), none, .mv (.v (.int .i64 (0)))⟩] (some ⟨[0,11,12,13], [], []⟩))
  (.block 0 (.loop (.seq (.reg false [⟨(some 14), none, .bin .lss (.t 13) (.t 12)⟩] (some ⟨[0,11,12,13,14], [], []⟩))
  (.seq (.cond (.t 14)
  .skip
  (.exit 0))
  (.seq (.block 1 (.seq (.reg false [⟨(some 15), none, .iadr 3 (.t 11) (.t 13)⟩, ⟨(some 16), none, .load true 3 (.t 15)⟩, ⟨(some 4), none, .alloc [(.int .i64 (0)), (.int .i64 (0)), (.int .i64 (0))]⟩, ⟨none, none, .store 3 (.t 4) (.t 16)⟩] (some ⟨[0,4,11,12,13], [4], []⟩))
  (.seq (.reg false [⟨(some 17), none, .fadr 0 (.t 4)⟩, ⟨(some 18), none, .load false 1 (.t 17)⟩, ⟨(some 19), none, .call (.f 97) [(.t 18), (.v (.int .i64 (0))), (.v (.int .i64 (1000)))]⟩] (some ⟨[0,11,12,13,19], [], []⟩))
  (.cond (.t 19)
  (.seq (.reg false [⟨(some 2), none, .mv (.v (.int .i64 (1)))⟩] (some ⟨[2], [], []⟩))
  .ret)
  .skip))))
  (.reg false [⟨(some 20), none, .bin .add (.t 13) (.v (.int .i64 (1)))⟩, ⟨(some 13), none, .mv (.t 20)⟩] (some ⟨[0,11,12,13], [], []⟩))))))))
  (.seq (.seq (.reg false [⟨(some 5), none, .mv (.v (.slice none 0 0))⟩] (some ⟨[0,5], [], []⟩))
  (.own 5 66 2))
  (.seq (.seq (.reg false [⟨(some 21), none, .mv (.t 0)⟩, ⟨(some 22), none, .len (.t 21)⟩, ⟨(some 23), none, .mv (.v (.int .i64 (0)))⟩] (some ⟨[5,21,22,23], [], [5]⟩))
  (.block 2 (.loop (.seq (.reg false [⟨(some 24), none, .bin .lss (.t 23) (.t 22)⟩] (some ⟨[5,21,22,23,24], [], [5]⟩))
  (.seq (.cond (.t 24)
  .skip
  (.exit 2))
  (.seq (.block 3 (.seq (.reg false [⟨(some 25), none, .iadr 3 (.t 21) (.t 23)⟩, ⟨(some 26), none, .load true 3 (.t 25)⟩, ⟨(some 7), none, .alloc [(.int .i64 (0)), (.int .i64 (0)), (.int .i64 (0))]⟩, ⟨none, none, .store 3 (.t 7) (.t 26)⟩] (some ⟨[5,7,21,22,23], [7], [5]⟩))
  (.reg false [⟨(some 27), none, .mv (.t 5)⟩, ⟨(some 28), none, .fadr 1 (.t 7)⟩, ⟨(some 29), none, .load true 2 (.t 28)⟩, ⟨(some 30), none, .bslice 2 1 [(.t 29)]⟩, ⟨(some 31), none, .append 66 2 16 (.t 27) (.t 30)⟩, ⟨(some 5), none, .mv (.t 31)⟩] (some ⟨[5,21,22,23], [], [5]⟩))))
  (.reg false [⟨(some 32), none, .bin .add (.t 23) (.v (.int .i64 (1)))⟩, ⟨(some 23), none, .mv (.t 32)⟩] (some ⟨[5,21,22,23], [], [5]⟩))))))))
  (.seq (.reg false [⟨(some 33), none, .mv (.t 5)⟩, ⟨(some 34), none, .call (.f 100) [(.t 33)]⟩, ⟨(some 2), none, .mv (.t 34)⟩] (some ⟨[2], [], []⟩))
  .ret))))))
theorem c_phasesFault : compileCode Try.prog Try.f103.ntmps (Try.f103.body.getD .skip) A_phasesFault = some (C_phasesFault, []) := by kernel_rfl
theorem r_phasesFault : compileRes Try.prog Try.f103.results.toList = some [.t 2] := by kernel_rfl
theorem b_phasesFault : Try.f103.body = some (Try.f103.body.getD .skip) := by kernel_rfl
theorem n_phasesFault : (Try.f103.name == "runtime.NumGoroutine") = false := by kernel_rfl
theorem fc_phasesFault {xt : Option (List Cel)} {args : List Val} {R : List Cel → Val → Prop} (hn : (if xt.isSome then 1 else 0) + args.length ≤ Try.f103.ntmps) (h : ex Try.prog C_phasesFault [] (fpost xt [.t 2] R) (initSt xt args)) : FC Try.prog 103 xt args R :=
  fc_of_awp Try.func103 b_phasesFault n_phasesFault c_phasesFault r_phasesFault (of_decide_eq_true (by kernel_rfl)) hn h


/-- A phase: its number and window. -/
structure Ph where
  n : Int
  f : Int
  t : Int
  deriving Inhabited
def phC (x : Ph) : List Cel := [.g (.int .i64 x.n), .g (.int .i64 x.f), .g (.int .i64 x.t)]
theorem phC_eq (x : Ph) : phC x = [.g (.int .i64 x.n), .g (.int .i64 x.f), .g (.int .i64 x.t)] := (rfl)
theorem frE_ph (l : List Ph) : frE (l.map phC) = true := frE_map (fun _ => rfl) l
theorem datE_ph (l : List Ph) : datE (l.map phC) = l.map phC := datE_map (fun _ => rfl) l
theorem tofE_ph (l : List Ph) : tofE (l.map phC) = l.map phC := tofE_map (fun _ => rfl) l
attribute [go_sem] phC_eq frE_ph datE_ph tofE_ph
abbrev phsV (fr : Bool) (l : List Ph) : Val := .one (.sl fr 3 (l.map phC))
abbrev phRow (l : List Ph) : Row := ⟨0, 76, 3, l.map phC⟩
def endTo (out : List Ph) (t : Int) : List Ph := out.set ((out.length : Int) - 1).toNat ⟨(out.getD ((out.length : Int) - 1).toNat default).n, (out.getD ((out.length : Int) - 1).toNat default).f, t⟩
theorem endTo_len (out : List Ph) (t : Int) : (endTo out t).length = out.length := by unfold endTo; rw [List.length_set]
theorem endTo_map (out : List Ph) (t : Int) : (endTo out t).map phC = (out.map phC).set ((out.length : Int) - 1).toNat [.g (.int .i64 (out.getD ((out.length : Int) - 1).toNat default).n), .g (.int .i64 (out.getD ((out.length : Int) - 1).toNat default).f), .g (.int .i64 t)] := by
  unfold endTo; rw [List.map_set]; rfl
def nxT (l : List Smp) (t : Int) (i : Nat) : Int := if i + 1 < l.length then min t (l.getD (i + 1) default).a else t
def phOn (f nx : Int) (x : List Ph × Bool) (s : Smp) : List Ph × Bool :=
  if s.q = 2 ∨ s.v < 0 ∨ s.v > 1000 then (x.1, false) else if max f s.a ≥ nx then (x.1, false) else
  if x.2 = true ∧ (x.1.getD ((x.1.length : Int) - 1).toNat default).n = s.v then (endTo x.1 nx, true) else (x.1 ++ [⟨s.v, max f s.a, nx⟩], true)
def phN (l : List Smp) (f t : Int) : Nat → List Ph × Bool
  | 0 => ([], false)
  | i + 1 => phOn f (nxT l t i) (phN l f t i) (l.getD i default)
theorem phN_len (l : List Smp) (f t : Int) : ∀ i, (phN l f t i).1.length ≤ i ∧ ((phN l f t i).2 = true → 1 ≤ (phN l f t i).1.length)
  | 0 => by simp [phN]
  | i + 1 => by
    obtain ⟨h1, h2⟩ := phN_len l f t i
    rw [phN]
    unfold phOn
    split
    · exact ⟨by simp only; omega, by simp⟩
    · split
      · exact ⟨by simp only; omega, by simp⟩
      · split
        · rename_i h; simp only [endTo_len]; exact ⟨by omega, fun _ => h2 h.1⟩
        · simp; omega
def phsSp (l : List Smp) (f t : Int) : List Ph × Int := if orSp [serFault l, w1F f t] ≠ 0 then ([], orSp [serFault l, w1F f t]) else ((phN l f t l.length).1, 0)
def phsSt (l : List Smp) (f t i : Int) (x : List Ph × Bool) : AS := ⟨tabV [(0, smps false l), (3, .one (.bx 3 0)), (7, .one (.ow 7 0)), (8, bv x.2), (19, smps false l), (20, iv l.length), (21, iv i)], tabO [(3, [.g (.int .i64 f), .g (.int .i64 t)])], tabO [(7, phRow x.1)]⟩
def badN (x : Ph) : Bool := decide (x.n < 0 ∨ x.n > 1000)
def winP (x : Ph) : Int × Int := (x.f, x.t)
def phF (p : List Ph) : Int := if p.length > 5000 then 2 else if p.any badN = true then 1 else fwF (p.map winP)
def pf1St (p : List Ph) (i : Int) : AS := ⟨tabV [(0, phsV false p), (11, phsV false p), (12, iv p.length), (13, iv i)], tabO [], tabO []⟩
def pf2St (p : List Ph) (i : Int) (w : List (Int × Int)) : AS := ⟨tabV [(5, .one (.ow 5 0)), (21, phsV false p), (22, iv p.length), (23, iv i)], tabO [], tabO [(5, winRow w)]⟩
theorem phasesFault_fc (p : List Ph) (hl : p.length ≤ 4611686018427387904) : FC Try.prog 103 none [phsV false p] (fun _ r => r = iv (phF p)) := by
  refine fc_phasesFault (by simp +arith) ?_
  unfold C_phasesFault phF
  by_cases h1 : p.length > 5000
  · rw [if_pos h1]
    simp (maxSteps := 1000000) (disch := omega) only [go_sem, eq_self, decide_true, decide_false, not_true_eq_false, not_false_eq_true, reduceIte, reduceCtorEq, Nat.reduceEqDiff, Nat.reduceAdd, Nat.reduceSub, Nat.reduceLeDiff]
  rw [if_neg h1]
  simp (maxSteps := 1000000) (disch := omega) only [go_sem, eq_self, decide_true, decide_false, not_true_eq_false, not_false_eq_true, reduceIte, reduceCtorEq, Nat.reduceEqDiff, Nat.reduceAdd, Nat.reduceSub, Nat.reduceLeDiff]
  refine ex_loop1 (pf1St p) (fun i => 0 ≤ i ∧ i ≤ p.length ∧ (p.drop i.toNat).any badN = p.any badN) (fun i => (p.length - i).toNat) 0 ⟨by omega, by omega, rfl⟩ rfl ?_
  rintro i ⟨g1, g2, g3⟩
  unfold pf1St
  by_cases hi : i < p.length
  · have e2 : (i + 1).toNat = i.toNat + 1 := by omega
    have em := getD_map_at phC p i [] g1 hi
    rw [drop_cons p i.toNat (by omega), ← e2, List.any_cons] at g3
    have hbn : badN (p.getD i.toNat default) = decide ((p.getD i.toNat default).n < 0 ∨ (p.getD i.toNat default).n > 1000) := rfl
    rw [hbn] at g3
    by_cases c : (p.getD i.toNat default).n < 0 ∨ (p.getD i.toNat default).n > 1000
    · rw [decide_eq_true c, Bool.true_or] at g3
      rw [← g3]
      simp (maxSteps := 1000000) (disch := omega) only [go_sem, eq_self, decide_true, decide_false, not_true_eq_false, not_false_eq_true, reduceIte, reduceCtorEq, Nat.reduceEqDiff, Nat.reduceAdd, Nat.reduceSub, Nat.reduceLeDiff]
      refine CALL_det (out_fc _ _ _) (.inl rfl) ?_
      rw [decide_eq_true c]
      simp (maxSteps := 1000000) (disch := omega) only [go_sem, eq_self, decide_true, decide_false, not_true_eq_false, not_false_eq_true, reduceIte, reduceCtorEq, Nat.reduceEqDiff, Nat.reduceAdd, Nat.reduceSub, Nat.reduceLeDiff]
    · rw [decide_eq_false c, Bool.false_or] at g3
      simp (maxSteps := 1000000) (disch := omega) only [go_sem, eq_self, decide_true, decide_false, not_true_eq_false, not_false_eq_true, reduceIte, reduceCtorEq, Nat.reduceEqDiff, Nat.reduceAdd, Nat.reduceSub, Nat.reduceLeDiff]
      refine CALL_det (out_fc _ _ _) (.inl rfl) ?_
      rw [decide_eq_false c]
      simp (maxSteps := 1000000) (disch := omega) only [go_sem, eq_self, decide_true, decide_false, not_true_eq_false, not_false_eq_true, reduceIte, reduceCtorEq, Nat.reduceEqDiff, Nat.reduceAdd, Nat.reduceSub, Nat.reduceLeDiff]
      exact ⟨i + 1, rfl, ⟨by omega, by omega, g3⟩, by omega⟩
  · rw [List.drop_eq_nil_of_le (by omega), List.any_nil] at g3
    rw [← g3, if_neg (by simp)]
    simp (maxSteps := 1000000) (disch := omega) only [go_sem, eq_self, decide_true, decide_false, not_true_eq_false, not_false_eq_true, reduceIte, reduceCtorEq, Nat.reduceEqDiff, Nat.reduceAdd, Nat.reduceSub, Nat.reduceLeDiff]
    refine ex_loop2 (pf2St p) (fun i w => 0 ≤ i ∧ i ≤ p.length ∧ w.length = i ∧ w ++ (p.drop i.toNat).map winP = p.map winP) (fun i _ => (p.length - i).toNat) 0 [] ⟨by omega, by omega, by simp, rfl⟩ rfl ?_
    rintro j w ⟨k1, k2, k3, k4⟩
    unfold pf2St
    by_cases hj : j < p.length
    · have e2 : (j + 1).toNat = j.toNat + 1 := by omega
      have em := getD_map_at phC p j [] k1 hj
      rw [drop_cons p j.toNat (by omega), ← e2, List.map_cons, List.append_cons] at k4
      simp (maxSteps := 1000000) (disch := omega) only [go_sem, eq_self, decide_true, decide_false, not_true_eq_false, not_false_eq_true, reduceIte, reduceCtorEq, Nat.reduceEqDiff, Nat.reduceAdd, Nat.reduceSub, Nat.reduceLeDiff]
      exact ⟨j + 1, w ++ [winP (p.getD j.toNat default)], by simp only [pf2St, winRow, winP, List.map_append, List.map_cons, List.map_nil, frC_eq], ⟨by omega, by omega, by simp; omega, k4⟩, by omega⟩
    · rw [List.drop_eq_nil_of_le (by omega), List.map_nil, List.append_nil] at k4
      rw [← k4]
      simp (maxSteps := 1000000) (disch := omega) only [go_sem, eq_self, decide_true, decide_false, not_true_eq_false, not_false_eq_true, reduceIte, reduceCtorEq, Nat.reduceEqDiff, Nat.reduceAdd, Nat.reduceSub, Nat.reduceLeDiff]
      refine CALL_det (checkFrames_fc w (by omega)) (.inl rfl) ?_
      simp (maxSteps := 1000000) (disch := omega) only [go_sem, eq_self, decide_true, decide_false, not_true_eq_false, not_false_eq_true, reduceIte, reduceCtorEq, Nat.reduceEqDiff, Nat.reduceAdd, Nat.reduceSub, Nat.reduceLeDiff]
/-- Of the phases so far: where they are, and what the value is where they begin. -/
structure PhI (l : List Smp) (f t T : Int) (out : List Ph) : Prop where
  c : Fch f (out.map winP)
  e : ∀ y ∈ out, y.t ≤ T ∧ y.t ≤ t
  v : ∀ y ∈ out, ∃ q, valSp l true y.f = (⟨y.f, y.n, 1, q⟩, true)
  n : ∀ y ∈ out, 0 ≤ y.n ∧ y.n ≤ 1000
theorem fch_set : ∀ {l : List (Int × Int)} {lo : Int} {w : Int × Int} {t : Int}, Fch lo (l ++ [w]) → w.1 < t → t ≤ 345686400000 → Fch lo (l ++ [(w.1, t)])
  | [], lo, w, t, h, h1, h2 => ⟨h.1, h1, h2, trivial⟩
  | y :: r, lo, w, t, h, h1, h2 => ⟨h.1, h.2.1, h.2.2.1, fch_set h.2.2.2 h1 h2⟩
theorem fch_app : ∀ {l : List (Int × Int)} {lo : Int} {w : Int × Int}, Fch lo l → (∀ x ∈ l, x.2 ≤ w.1) → lo ≤ w.1 → w.1 < w.2 → w.2 ≤ 345686400000 → Fch lo (l ++ [w])
  | [], lo, w, _, _, h1, h2, h3 => ⟨h1, h2, h3, trivial⟩
  | y :: r, lo, w, h, hx, h1, h2, h3 => ⟨h.1, h.2.1, h.2.2.1, fch_app h.2.2.2 (fun x hx2 => hx x (by simp [hx2])) (hx y (by simp)) h2 h3⟩
def lstA (l : List Smp) (i : Nat) : Int := if i < l.length then (l.getD i default).a else 345686400000
theorem ph_inv {l : List Smp} (hg : Good l) {f t : Int} (hw : 0 ≤ f ∧ f < t ∧ t ≤ 345686400000) : ∀ i, i ≤ l.length → PhI l f t (lstA l i) (phN l f t i).1
  | 0, _ => ⟨trivial, by simp [phN], by simp [phN], by simp [phN]⟩
  | i + 1, hi => by
    have ih := ph_inv hg hw i (by omega)
    have ho := hg.ok i (by omega)
    unfold okSmp at ho
    have hT : lstA l i = (l.getD i default).a := by unfold lstA; rw [if_pos (by omega)]
    have hTT : (l.getD i default).a ≤ lstA l (i + 1) ∧ lstA l (i + 1) ≤ 345686400000 := by
      unfold lstA
      split
      · have := hg.up i (i + 1) (by omega) (by omega)
        have := hg.ok (i + 1) (by omega)
        unfold okSmp at this; omega
      · omega
    have hnx : nxT l t i ≤ t ∧ nxT l t i ≤ lstA l (i + 1) := by
      unfold nxT lstA
      split
      · omega
      · omega
    have hmono : PhI l f t (lstA l (i + 1)) (phN l f t i).1 := ⟨ih.c, fun y hy => by have := ih.e y hy; omega, ih.v, ih.n⟩
    rw [phN]
    unfold phOn
    split
    · exact hmono
    · rename_i c1
      split
      · exact hmono
      · rename_i c2
        have hval : valSp l true (max f (l.getD i default).a) = (⟨max f (l.getD i default).a, (l.getD i default).v, 1, (l.getD i default).q⟩, true) := by
          have hh : hold l (max f (l.getD i default).a) = i := hold_eq (by omega) (by omega) (fun j hj hj2 => by
              have := hg.le j i (by omega) (by omega); omega) (fun j hj hj2 => by
              have h3 := hg.le (i + 1) j (by omega) hj2
              have h4 : nxT l t i = min t (l.getD (i + 1) default).a := by unfold nxT; rw [if_pos (by omega)]
              omega)
          unfold valSp
          simp only [hh]
          rw [if_neg (by omega), if_pos (.inr (.inl trivial))]
          have : ((i : Nat) : Int).toNat = i := by omega
          rw [this]
        have hle : ∀ y ∈ (phN l f t i).1, y.t ≤ (l.getD i default).a := fun y hy => by have := ih.e y hy; omega
        split
        · rename_i c3
          have hlen := (phN_len l f t i).2 c3.1
          rcases List.eq_nil_or_concat (phN l f t i).1 with h0 | ⟨a, b, h0⟩
          · rw [h0] at hlen; simp at hlen
          · rw [List.concat_eq_append] at h0
            have el : (a ++ [b]).getD (((a ++ [b]).length : Int) - 1).toNat default = b := by
              have e : (((a ++ [b]).length : Int) - 1).toNat = a.length := by simp
              rw [e, List.getD_eq_getElem?_getD]; simp
            have es : endTo (a ++ [b]) (nxT l t i) = a ++ [⟨b.n, b.f, nxT l t i⟩] := by
              unfold endTo; rw [el]
              have e : (((a ++ [b]).length : Int) - 1).toNat = a.length := by simp
              rw [e]; simp
            rw [h0] at ih hle
            simp only
            rw [h0, es]
            have hc := ih.c
            rw [List.map_append] at hc
            have hb := hc.ge (winP b) (by simp)
            have hb2 := hle b (by simp)
            simp only [winP] at hb
            refine ⟨?_, fun y hy => ?_, fun y hy => ?_, fun y hy => ?_⟩
            · rw [List.map_append]
              exact fch_set hc (by simp only [winP]; omega) (show nxT l t i ≤ 345686400000 by omega)
            · simp only [List.mem_append, List.mem_cons, List.not_mem_nil, or_false] at hy
              rcases hy with hy | rfl
              · have := ih.e y (by simp [hy]); omega
              · simp only; omega
            · simp only [List.mem_append, List.mem_cons, List.not_mem_nil, or_false] at hy
              rcases hy with hy | rfl
              · exact ih.v y (by simp [hy])
              · exact ih.v b (by simp)
            · simp only [List.mem_append, List.mem_cons, List.not_mem_nil, or_false] at hy
              rcases hy with hy | rfl
              · exact ih.n y (by simp [hy])
              · exact ih.n b (by simp)
        · refine ⟨?_, fun y hy => ?_, fun y hy => ?_, fun y hy => ?_⟩
          · rw [List.map_append]
            refine fch_app ih.c (fun x hx => ?_) (by simp only [winP]; omega) (by simp only [winP]; omega) (by simp only [winP]; omega)
            obtain ⟨y, hy, rfl⟩ := List.mem_map.1 hx
            have := hle y hy
            simp only [winP]; omega
          · simp only [List.mem_append, List.mem_cons, List.not_mem_nil, or_false] at hy
            rcases hy with hy | rfl
            · have := ih.e y hy; omega
            · simp only; omega
          · simp only [List.mem_append, List.mem_cons, List.not_mem_nil, or_false] at hy
            rcases hy with hy | rfl
            · exact ih.v y hy
            · exact ⟨_, hval⟩
          · simp only [List.mem_append, List.mem_cons, List.not_mem_nil, or_false] at hy
            rcases hy with hy | rfl
            · exact ih.n y hy
            · simp only; omega
end Go.Proofs.Ytggbcgldnjmobaa

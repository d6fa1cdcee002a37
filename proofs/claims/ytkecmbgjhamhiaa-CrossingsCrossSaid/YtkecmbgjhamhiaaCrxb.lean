/-
  CrossingsCross's function.
-/
import Derived.Test.YtkecmbgjhamhiaaCrx
import Derived.Test.YtkecmbgjhamhiaaGenC
import Derived.Test.YtkecmbgjhamhiaaStpb
import Derived.Test.YtkecmbgjhamhiaaRdy
namespace Go.Proofs.Ytkecmbgjhamhiaa
open Go Go.Ai
set_option linter.unusedSimpArgs false
set_option linter.unusedVariables false
set_option maxHeartbeats 4000000
def A_cc : List Ann := [⟨(some ⟨[0], [], []⟩), [], [], [], []⟩, ⟨(some ⟨[3,15], [15], []⟩), [], [], [], []⟩, ⟨(some ⟨[4,5], [], []⟩), [], [], [], []⟩, ⟨(some ⟨[4,5,6,7], [], []⟩), [], [], [], []⟩, ⟨(some ⟨[4,5,6,28], [], []⟩), [], [], [], []⟩, ⟨(some ⟨[2], [], []⟩), [], [], [], []⟩, ⟨(some ⟨[4,5,6,29,30,31], [], []⟩), [], [], [], []⟩, ⟨(some ⟨[4,5,6,29,30,31,32], [], []⟩), [], [], [], []⟩, ⟨(some ⟨[4,5,6,8,9,29,30,31], [9], []⟩), [], [], [], []⟩, ⟨(some ⟨[4,5,6,9,29,30,31,63], [9], []⟩), [], [], [], []⟩, ⟨(some ⟨[2], [], []⟩), [], [], [], []⟩, ⟨(some ⟨[4,5,6,9,29,30,31,66], [9], []⟩), [], [], [], []⟩, ⟨(some ⟨[4,5,6,10,11,12,29,30,31], [10], []⟩), [], [], [], []⟩, ⟨(some ⟨[4,5,6,29,30,31,92], [], []⟩), [], [], [], []⟩, ⟨(some ⟨[2], [], []⟩), [], [], [], []⟩, ⟨(some ⟨[4,5,6,29,30,31], [], []⟩), [], [], [], []⟩, ⟨(some ⟨[2], [], []⟩), [], [], [], []⟩]
def C_cc : AC := (.seq (.reg false [⟨(some 2), none, .mv (.v (.bool false))⟩] (some ⟨[0], [], []⟩))
  (.seq (.reg false [⟨(some 13), none, .mv (.t 0)⟩, ⟨(some 14), none, .build [(.slice none 0 0), (.int .i64 (0))] [(0, 1, (.t 13))]⟩, ⟨(some 15), none, .box (.t 14)⟩, ⟨(some 3), none, .mv (.t 15)⟩] (some ⟨[3,15], [15], []⟩))
  (.seq (.reg false [⟨(some 16), none, .mv (.t 3)⟩, ⟨(some 17), none, .callx (.f 64) [(.t 16), (.v (.int .i64 (12)))]⟩, ⟨(some 18), none, .mv (.t 3)⟩, ⟨(some 19), none, .callx (.f 65) [(.t 18), (.v (.int .i64 (-3))), (.v (.int .i64 (8)))]⟩, ⟨(some 4), none, .mv (.t 17)⟩, ⟨(some 5), none, .mv (.t 19)⟩] (some ⟨[4,5], [], []⟩))
  (.seq (.reg false [⟨(some 21), none, .mv (.t 4)⟩, ⟨(some 22), none, .build [(.int .i64 (0)), (.int .i64 (0))] [(1, 1, (.v (.int .i64 (300))))]⟩, ⟨(some 23), none, .mv (.t 5)⟩, ⟨(some 24), none, .call (.f 49) [(.t 21), (.t 22), (.t 23)]⟩, ⟨(some 20), none, .mv (.t 24)⟩, ⟨(some 25), none, .extr (.t 20) 0⟩, ⟨(some 26), none, .extr (.t 20) 1⟩, ⟨(some 6), none, .mv (.t 25)⟩, ⟨(some 7), none, .mv (.t 26)⟩] (some ⟨[4,5,6,7], [], []⟩))
  (.seq (.seq (.reg false [⟨(some 27), none, .mv (.t 7)⟩, ⟨(some 28), none, .bin .neq (.t 27) (.v (.int .i64 (0)))⟩] (some ⟨[4,5,6,28], [], []⟩))
  (.cond (.t 28)
  (.seq (.reg false [⟨(some 2), none, .mv (.v (.bool false))⟩] (some ⟨[2], [], []⟩))
  .ret)
  .skip))
  (.seq (.seq (.reg false [⟨(some 29), none, .mv (.t 6)⟩, ⟨(some 30), none, .len (.t 29)⟩, ⟨(some 31), none, .mv (.v (.int .i64 (0)))⟩] (some ⟨[4,5,6,29,30,31], [], []⟩))
  (.block 0 (.loop (.seq (.reg false [⟨(some 32), none, .bin .lss (.t 31) (.t 30)⟩] (some ⟨[4,5,6,29,30,31,32], [], []⟩))
  (.seq (.cond (.t 32)
  .skip
  (.exit 0))
  (.seq (.block 1 (.seq (.reg false [⟨(some 33), none, .mv (.t 31)⟩, ⟨(some 34), none, .iadr 2 (.t 29) (.t 31)⟩, ⟨(some 35), none, .load true 2 (.t 34)⟩, ⟨(some 9), none, .alloc [(.int .i64 (0)), (.int .i64 (0))]⟩, ⟨(some 8), none, .mv (.t 33)⟩, ⟨none, none, .store 2 (.t 9) (.t 35)⟩] (some ⟨[4,5,6,8,9,29,30,31], [9], []⟩))
  (.seq (.seq (.reg true [⟨(some 36), none, .fadr 1 (.t 9)⟩, ⟨(some 37), none, .load false 1 (.t 36)⟩, ⟨(some 38), none, .bin .lss (.t 37) (.v (.int .i64 (1)))⟩, ⟨(some 39), none, .mv (.t 38)⟩, ⟨(some 40), (some (39, false)), .mv (.t 8)⟩, ⟨(some 41), (some (39, false)), .bin .gtr (.t 40) (.v (.int .i64 (0)))⟩, ⟨(some 42), (some (39, false)), .mv (.t 41)⟩, ⟨(some 43), (some (42, true)), .mv (.t 6)⟩, ⟨(some 44), (some (42, true)), .mv (.t 8)⟩, ⟨(some 45), (some (42, true)), .bin .sub (.t 44) (.v (.int .i64 (1)))⟩, ⟨(some 46), (some (42, true)), .iadr 2 (.t 43) (.t 45)⟩, ⟨(some 47), (some (42, true)), .fadr 0 (.t 46)⟩, ⟨(some 48), (some (42, true)), .load false 1 (.t 47)⟩, ⟨(some 49), (some (42, true)), .fadr 1 (.t 9)⟩, ⟨(some 50), (some (42, true)), .load false 1 (.t 49)⟩, ⟨(some 51), (some (42, true)), .bin .mul (.t 48) (.t 50)⟩, ⟨(some 52), (some (42, true)), .fadr 0 (.t 9)⟩, ⟨(some 53), (some (42, true)), .load false 1 (.t 52)⟩, ⟨(some 54), (some (42, true)), .mv (.t 6)⟩, ⟨(some 55), (some (42, true)), .mv (.t 8)⟩, ⟨(some 56), (some (42, true)), .bin .sub (.t 55) (.v (.int .i64 (1)))⟩, ⟨(some 57), (some (42, true)), .iadr 2 (.t 54) (.t 56)⟩, ⟨(some 58), (some (42, true)), .fadr 1 (.t 57)⟩, ⟨(some 59), (some (42, true)), .load false 1 (.t 58)⟩, ⟨(some 60), (some (42, true)), .bin .mul (.t 53) (.t 59)⟩, ⟨(some 61), (some (42, true)), .bin .geq (.t 51) (.t 60)⟩, ⟨(some 62), (some (39, false)), .pick (.t 42) (.t 61) (.v (.bool false))⟩, ⟨(some 63), none, .pick (.t 39) (.v (.bool true)) (.t 62)⟩] (some ⟨[4,5,6,9,29,30,31,63], [9], []⟩))
  (.cond (.t 63)
  (.seq (.reg false [⟨(some 2), none, .mv (.v (.bool false))⟩] (some ⟨[2], [], []⟩))
  .ret)
  .skip))
  (.seq (.seq (.reg false [⟨(some 64), none, .fadr 1 (.t 9)⟩, ⟨(some 65), none, .load false 1 (.t 64)⟩, ⟨(some 66), none, .bin .gtr (.t 65) (.v (.int .i64 (1)))⟩] (some ⟨[4,5,6,9,29,30,31,66], [9], []⟩))
  (.cond (.t 66)
  (.exit 1)
  .skip))
  (.seq (.reg false [⟨(some 68), none, .mv (.t 4)⟩, ⟨(some 69), none, .fadr 0 (.t 9)⟩, ⟨(some 70), none, .load false 1 (.t 69)⟩, ⟨(some 71), none, .call (.f 21) [(.t 68), (.v (.bool false)), (.t 70)]⟩, ⟨(some 67), none, .mv (.t 71)⟩, ⟨(some 72), none, .extr (.t 67) 0⟩, ⟨(some 73), none, .extr (.t 67) 1⟩, ⟨(some 74), none, .extr (.t 67) 2⟩, ⟨(some 10), none, .alloc [(.int .i64 (0)), (.int .i64 (0)), (.int .i64 (0)), (.int .i64 (0))]⟩, ⟨none, none, .store 4 (.t 10) (.t 72)⟩, ⟨(some 11), none, .mv (.t 73)⟩, ⟨(some 12), none, .mv (.t 74)⟩] (some ⟨[4,5,6,10,11,12,29,30,31], [10], []⟩))
  (.seq (.reg false [⟨(some 75), none, .mv (.t 12)⟩, ⟨(some 76), none, .bin .neq (.t 75) (.v (.int .i64 (0)))⟩, ⟨(some 77), none, .mv (.t 76)⟩, ⟨(some 78), (some (77, false)), .mv (.t 11)⟩, ⟨(some 79), (some (77, false)), .un .not (.t 78)⟩, ⟨(some 80), none, .pick (.t 77) (.v (.bool true)) (.t 79)⟩, ⟨(some 81), none, .mv (.t 80)⟩, ⟨(some 82), (some (81, false)), .fadr 3 (.t 10)⟩, ⟨(some 83), (some (81, false)), .load false 1 (.t 82)⟩, ⟨(some 84), (some (81, false)), .bin .eql (.t 83) (.v (.int .i64 (2)))⟩, ⟨(some 85), none, .pick (.t 81) (.v (.bool true)) (.t 84)⟩, ⟨(some 86), none, .mv (.t 85)⟩, ⟨(some 87), (some (86, false)), .fadr 1 (.t 10)⟩, ⟨(some 88), (some (86, false)), .load true 2 (.t 87)⟩, ⟨(some 89), (some (86, false)), .mv (.t 5)⟩, ⟨(some 90), (some (86, false)), .build [(.int .i64 (0)), (.int .i64 (0))] [(0, 1, (.t 89)), (1, 1, (.v (.int .i64 (1))))]⟩, ⟨(some 91), (some (86, false)), .eqs true true [.i .i64, .i .i64] (.t 88) (.t 90)⟩, ⟨(some 92), none, .pick (.t 86) (.v (.bool true)) (.t 91)⟩] (some ⟨[4,5,6,29,30,31,92], [], []⟩))
  (.cond (.t 92)
  (.seq (.reg false [⟨(some 2), none, .mv (.v (.bool false))⟩] (some ⟨[2], [], []⟩))
  .ret)
  .skip)))))))
  (.reg false [⟨(some 93), none, .bin .add (.t 31) (.v (.int .i64 (1)))⟩, ⟨(some 31), none, .mv (.t 93)⟩] (some ⟨[4,5,6,29,30,31], [], []⟩))))))))
  (.seq (.reg false [⟨(some 94), none, .call (.f 68) []⟩, ⟨(some 2), none, .mv (.t 94)⟩] (some ⟨[2], [], []⟩))
  .ret)))))))
theorem c_cc : compileCode Try.prog Try.f10.ntmps (Try.f10.body.getD .skip) A_cc = some (C_cc, []) := by kernel_rfl
theorem r_cc : compileRes Try.prog Try.f10.results.toList = some [.t 2] := by kernel_rfl
theorem b_cc : Try.f10.body = some (Try.f10.body.getD .skip) := by kernel_rfl
theorem n_cc : (Try.f10.name == "runtime.NumGoroutine") = false := by kernel_rfl
theorem fc_cc {xt : Option (List Cel)} {args : List Val} {R : List Cel → Val → Prop} (hn : (if xt.isSome then 1 else 0) + args.length ≤ Try.f10.ntmps) (h : ex Try.prog C_cc [] (fpost xt [.t 2] R) (initSt xt args)) : FC Try.prog 10 xt args R :=
  fc_of_awp Try.func10 b_cc n_cc c_cc r_cc (of_decide_eq_true (by kernel_rfl)) hn h


theorem Inc_adj : ∀ (xs : List (Int × Int)) (lb : Int), Inc lb xs → (∀ x ∈ xs, 1 ≤ x.2) → ∀ j : Nat, j + 1 < xs.length → (xs.getD j default).1 * (xs.getD (j + 1) default).2 < (xs.getD (j + 1) default).1 * (xs.getD j default).2
  | [], _, _, _, j, hj => by simp at hj
  | [x], _, _, _, j, hj => by simp at hj
  | x :: y :: r, lb, h, hd, j, hj => by
    cases j with
    | zero =>
      obtain ⟨h1, m, h2, h3, _⟩ := h
      have dx := hd x (by simp)
      have dy := hd y (by simp)
      have e1 := Int.mul_lt_mul_of_pos_right h2 (show 0 < y.2 by omega)
      have e2 := Int.mul_lt_mul_of_pos_right h3 (show 0 < x.2 by omega)
      rw [Int.mul_right_comm] at e1
      simp only [List.getD_cons_zero, List.getD_cons_succ]
      omega
    | succ j =>
      obtain ⟨h1, m, h2, h3⟩ := h
      have := Inc_adj (y :: r) m h3 (fun z hz => hd z (by simp [hz])) j (by simpa using hj)
      simpa only [List.getD_cons_succ] using this
theorem stOf_pass (l : List Smp) (from_ i : Int) (h : from_ < i) : (stOf l from_ i).map (fun p => (p.1, some (p.2.getD (l.getD i.toNat default).a))) = stOf l from_ (i + 1) := by
  unfold stOf
  by_cases h2 : from_ < 0
  · rw [if_pos h2, if_pos h2]; rfl
  · rw [if_neg h2, if_neg h2]
    simp only [Option.map_some, Option.some.injEq, Prod.mk.injEq, true_and, nxt]
    rw [if_pos (show i + 1 > from_ + 1 by omega)]
    by_cases h6 : i > from_ + 1
    · rw [if_pos h6]; rfl
    · rw [if_neg h6]
      have : from_ + 1 = i := by omega
      rw [this]; rfl
theorem cr_props {l : List Smp} (hg : Good l) {L f t : Int} (hL : -1000000 ≤ L ∧ L ≤ 1000000) : ∀ (n : Nat) (i from_ lb : Int), (l.length - i).toNat = n → 0 ≤ i → i ≤ l.length → -1 ≤ from_ → from_ < i → (0 ≤ from_ → (l.getD from_.toNat default).q ≠ 2 ∧ sd L (l.getD from_.toNat default).v ≠ 0) →
    (0 ≤ from_ → ∀ j : Int, from_ < j → j < i → (l.getD j.toNat default).q ≠ 2 ∧ (l.getD j.toNat default).v = L) → (0 ≤ from_ → lb ≤ (l.getD from_.toNat default).a) → (∀ j : Int, i ≤ j → j < l.length → lb ≤ (l.getD j.toNat default).a) →
    Inc lb (crGo L f t (stOf l from_ i) (l.drop i.toNat)) ∧ ∀ x ∈ crGo L f t (stOf l from_ i) (l.drop i.toNat), crOk l L f t x := by
  intro n
  induction n with
  | zero =>
    intro i from_ lb hn h0 h1 _ _ _ _ _ _
    rw [List.drop_eq_nil_of_le (by omega), crGo]
    exact ⟨trivial, fun x hx => by cases hx⟩
  | succ n ih =>
    intro i from_ lb hn h0 h1 h2 h3 h4 h5 h6 h7
    have hi : i < l.length := by omega
    have e2 : (i + 1).toNat = i.toNat + 1 := by omega
    rw [drop_cons l i.toNat (by omega), crGo, ← e2]
    by_cases c1 : (l.getD i.toNat default).q = 2
    · rw [if_pos c1]
      have := ih (i + 1) (-1) lb (by omega) (by omega) (by omega) (by omega) (by omega) (by omega) (by omega) (by omega) (fun j hj hj2 => h7 j (by omega) hj2)
      rw [show stOf l (-1) (i + 1) = none from rfl] at this
      exact this
    rw [if_neg c1]
    by_cases c2 : sd L (l.getD i.toNat default).v = 0
    · rw [if_neg (by omega), stOf_pass l from_ i h3]
      have hv : (l.getD i.toNat default).v = L := by rcases sd_cases L (l.getD i.toNat default).v with h | h | h <;> omega
      refine ih (i + 1) from_ lb (by omega) (by omega) (by omega) h2 (by omega) h4 (fun h j hj hj2 => ?_) h6 (fun j hj hj2 => h7 j (by omega) hj2)
      by_cases e : j = i
      · subst e; exact ⟨c1, hv⟩
      · exact h5 h j hj (by omega)
    rw [if_pos c2]
    have e4 : some (l.getD i.toNat default, (none : Option Int)) = stOf l i (i + 1) := by
      unfold stOf nxt; rw [if_neg (by omega), if_neg (by omega)]
    rw [e4]
    have rest := fun lb' (h8 : lb' ≤ (l.getD i.toNat default).a) => ih (i + 1) i lb' (by omega) (by omega) (by omega) (by omega) (by omega) (fun _ => ⟨c1, c2⟩) (fun _ j hj hj2 => by omega) (fun _ => h8) (fun j hj hj2 => by have := hg.le i.toNat j.toNat (by omega) (by omega); omega)
    by_cases c3 : from_ < 0
    · have e5 : stOf l from_ i = none := by unfold stOf; rw [if_pos c3]
      rw [e5]
      simp only [emitO, List.nil_append]
      exact rest lb (h7 i (by omega) hi)
    · have e5 : stOf l from_ i = some (l.getD from_.toNat default, nxt l from_ i) := by unfold stOf; rw [if_neg c3]
      rw [e5]
      simp only [emitO]
      have h6' := h6 (by omega)
      have hlt := hg.up from_.toNat i.toNat (by omega) (by omega)
      obtain ⟨h8, h9⟩ := h4 (by omega)
      unfold emit
      by_cases c4 : (l.getD from_.toNat default).q ≠ 2 ∧ (l.getD i.toNat default).q ≠ 2 ∧ sd L (l.getD from_.toNat default).v * sd L (l.getD i.toNat default).v < 0
      · rw [if_pos c4]
        split
        · rename_i c5
          obtain ⟨k1, k2, k3⟩ := emit_ok hg hL (by omega) h3 hi h8 c1 (opp_of c4.2.2) (h5 (by omega)) c5 _ rfl
          obtain ⟨r1, r2⟩ := rest (l.getD i.toNat default).a (by omega)
          have h10 := Int.mul_le_mul_of_nonneg_right h6' (show (0 : Int) ≤ (lowD (crP L (l.getD from_.toNat default) (nxt l from_ i) (l.getD i.toNat default)).1 (crP L (l.getD from_.toNat default) (nxt l from_ i) (l.getD i.toNat default)).2) by have := k1.1.1; simp only at this; omega)
          rw [List.singleton_append]
          refine ⟨⟨by simp only at k2 ⊢; omega, _, k3, r1⟩, fun x hx => ?_⟩
          simp only [List.mem_cons] at hx
          rcases hx with rfl | hx
          · exact k1
          · exact r2 x hx
        · rw [List.nil_append]; exact rest lb (by omega)
      · rw [if_neg c4, List.nil_append]; exact rest lb (by omega)
theorem crGo_props {l : List Smp} (hg : Good l) {L f t : Int} (hL : -1000000 ≤ L ∧ L ≤ 1000000) : Inc (-1) (crGo L f t none l) ∧ ∀ x ∈ crGo L f t none l, crOk l L f t x := by
  have := cr_props (f := f) (t := t) hg hL l.length 0 (-1) (-1) (by omega) (by omega) (by omega) (by omega) (by omega) (by omega) (by omega) (by omega) (fun j hj hj2 => by have := hg.ok j.toNat (by omega); unfold okSmp at this; omega)
  exact this
def ccSt (l : List Smp) (lim : Int) (xs : List (Int × Int)) (i : Int) : AS := ⟨tabV [(4, smps true l), (5, iv lim), (6, frsV true xs), (29, frsV true xs), (30, iv xs.length), (31, iv i)], tabO [], tabO []⟩
theorem cc_fc (L : List Int) (hL : ∀ x ∈ L, I64 x) (hl : L.length ≤ 9223372036854775807) : FC Try.prog 10 none [ints false L] (fun _ r => r = bv true) := by
  refine fc_cc (by simp +arith) ?_
  unfold C_cc
  simp (maxSteps := 1000000) (disch := omega) only [go_sem, eq_self, decide_true, decide_false, not_true_eq_false, not_false_eq_true, reduceIte, reduceCtorEq, Nat.reduceEqDiff, Nat.reduceAdd, Nat.reduceSub, Nat.reduceLeDiff]
  refine callx_gen (p := 0) (rightCurve_fc 12 (by omega) (by omega)) hL hl (by omega) (by omega) ⟨_, [], rfl, rfl⟩ ?_
  rintro pa r ha1 ha2 ⟨l, hs, rfl⟩
  refine ⟨rfl, ?_⟩
  unfold strm
  simp (maxSteps := 1000000) (disch := omega) only [go_sem, eq_self, decide_true, decide_false, not_true_eq_false, not_false_eq_true, reduceIte, reduceCtorEq, Nat.reduceEqDiff, Nat.reduceAdd, Nat.reduceSub, Nat.reduceLeDiff]
  refine callx_gen (range_fc (-3) 8 (by omega) (by omega) (by omega)) hL hl (by omega) (by omega) ⟨_, 0, by omega, by omega, rfl⟩ ?_
  rintro pb r hb1 hb2 ⟨lim, hlim1, hlim2, rfl⟩
  refine ⟨rfl, ?_⟩
  unfold strm
  have hg := good_of hs
  have hlen := hg.len
  have hbf : bothFault l 0 300 = 0 := by unfold bothFault; rw [if_neg (by omega)]; rfl
  have hl1 : limF lim = 0 := by unfold limF; rw [if_pos (by omega)]
  have hsp : crsSp l 0 300 lim = (crGo lim 0 300 none l, 0) := by unfold crsSp; rw [if_neg (by omega), if_neg (by omega)]
  have hxl : (crGo lim 0 300 none l).length ≤ l.length := by rw [cr_ref]; exact refGo_len lim 0 300 l
  obtain ⟨hinc, hall⟩ := crGo_props (f := 0) (t := 300) hg (L := lim) (by omega)
  have hadj := Inc_adj _ _ hinc (fun x hx => (hall x hx).1.1)
  simp (maxSteps := 1000000) (disch := omega) only [go_sem, eq_self, decide_true, decide_false, not_true_eq_false, not_false_eq_true, reduceIte, reduceCtorEq, Nat.reduceEqDiff, Nat.reduceAdd, Nat.reduceSub, Nat.reduceLeDiff]
  refine CALL_det (crossings_fc l (by omega) 0 300 lim) (.inl rfl) ?_
  rw [hsp]
  generalize crGo lim 0 300 none l = xs at *
  simp (maxSteps := 1000000) (disch := omega) only [go_sem, eq_self, decide_true, decide_false, not_true_eq_false, not_false_eq_true, reduceIte, reduceCtorEq, Nat.reduceEqDiff, Nat.reduceAdd, Nat.reduceSub, Nat.reduceLeDiff]
  refine ex_loop1 (ccSt l lim xs) (fun i => 0 ≤ i ∧ i ≤ xs.length) (fun i => (xs.length - i).toNat) 0 ⟨by omega, by omega⟩ rfl ?_
  rintro i ⟨g1, g2⟩
  unfold ccSt
  by_cases hi : i < xs.length
  · have em := getD_map_at frC xs i [] g1 hi
    obtain ⟨⟨k1, k2⟩, ⟨k3, k4⟩, k5⟩ := hall _ (getD_mem xs i.toNat (by omega))
    have hone : (xs.getD i.toNat default).2 = 1 → vaSp l false (xs.getD i.toNat default).1 = ((valSp l false (xs.getD i.toNat default).1).1, (valSp l false (xs.getD i.toNat default).1).2, 0) := fun h => vaSp_good false hs (by rw [h] at k3 k4; omega)
    by_cases hz : i = 0
    · by_cases hd : (xs.getD i.toNat default).2 = 1
      · obtain ⟨q, hq, hv⟩ := k5 hd
        simp (maxSteps := 1000000) (disch := omega) only [go_sem, eq_self, decide_true, decide_false, not_true_eq_false, not_false_eq_true, reduceIte, reduceCtorEq, Nat.reduceEqDiff, Nat.reduceAdd, Nat.reduceSub, Nat.reduceLeDiff]
        refine CALL_det (bvalueAt_fc l (by omega) false (xs.getD i.toNat default).1) (.inl rfl) ?_
        rw [hone hd, hv]
        simp (maxSteps := 1000000) (disch := omega) only [go_sem, eq_self, decide_true, decide_false, not_true_eq_false, not_false_eq_true, reduceIte, reduceCtorEq, Nat.reduceEqDiff, Nat.reduceAdd, Nat.reduceSub, Nat.reduceLeDiff]
        exact ⟨_, rfl, ⟨by omega, by omega⟩, by omega⟩
      · simp (maxSteps := 1000000) (disch := omega) only [go_sem, eq_self, decide_true, decide_false, not_true_eq_false, not_false_eq_true, reduceIte, reduceCtorEq, Nat.reduceEqDiff, Nat.reduceAdd, Nat.reduceSub, Nat.reduceLeDiff]
        exact ⟨_, rfl, ⟨by omega, by omega⟩, by omega⟩
    · have ep := getD_map_at frC xs (i - 1) [] (by omega) (by omega)
      obtain ⟨⟨j1, j2⟩, ⟨j3, j4⟩, _⟩ := hall _ (getD_mem xs (i - 1).toNat (by omega))
      have ha := hadj (i - 1).toNat (by omega)
      have ei : (i - 1).toNat + 1 = i.toNat := by omega
      rw [ei] at ha
      have m1 := mul_bd (a := (xs.getD (i - 1).toNat default).1) (b := (xs.getD i.toNat default).2) (A := 600000000) (B := 2000000) ⟨by omega, by omega⟩ ⟨by omega, by omega⟩
      have m2 := mul_bd (a := (xs.getD i.toNat default).1) (b := (xs.getD (i - 1).toNat default).2) (A := 600000000) (B := 2000000) ⟨by omega, by omega⟩ ⟨by omega, by omega⟩
      by_cases hd : (xs.getD i.toNat default).2 = 1
      · obtain ⟨q, hq, hv⟩ := k5 hd
        simp (maxSteps := 1000000) (disch := omega) only [go_sem, eq_self, decide_true, decide_false, not_true_eq_false, not_false_eq_true, reduceIte, reduceCtorEq, Nat.reduceEqDiff, Nat.reduceAdd, Nat.reduceSub, Nat.reduceLeDiff]
        refine CALL_det (bvalueAt_fc l (by omega) false (xs.getD i.toNat default).1) (.inl rfl) ?_
        rw [hone hd, hv]
        simp (maxSteps := 1000000) (disch := omega) only [go_sem, eq_self, decide_true, decide_false, not_true_eq_false, not_false_eq_true, reduceIte, reduceCtorEq, Nat.reduceEqDiff, Nat.reduceAdd, Nat.reduceSub, Nat.reduceLeDiff]
        exact ⟨_, rfl, ⟨by omega, by omega⟩, by omega⟩
      · simp (maxSteps := 1000000) (disch := omega) only [go_sem, eq_self, decide_true, decide_false, not_true_eq_false, not_false_eq_true, reduceIte, reduceCtorEq, Nat.reduceEqDiff, Nat.reduceAdd, Nat.reduceSub, Nat.reduceLeDiff]
        exact ⟨_, rfl, ⟨by omega, by omega⟩, by omega⟩
  · simp (maxSteps := 1000000) (disch := omega) only [go_sem, eq_self, decide_true, decide_false, not_true_eq_false, not_false_eq_true, reduceIte, reduceCtorEq, Nat.reduceEqDiff, Nat.reduceAdd, Nat.reduceSub, Nat.reduceLeDiff]
    refine CALL_det ready_fc (.inl rfl) ?_
    simp (maxSteps := 1000000) (disch := omega) only [go_sem, eq_self, decide_true, decide_false, not_true_eq_false, not_false_eq_true, reduceIte, reduceCtorEq, Nat.reduceEqDiff, Nat.reduceAdd, Nat.reduceSub, Nat.reduceLeDiff]
end Go.Proofs.Ytkecmbgjhamhiaa

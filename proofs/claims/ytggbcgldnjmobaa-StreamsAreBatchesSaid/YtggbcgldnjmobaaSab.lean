
/-
  A compressor archives what Compress archives: the walk.
-/
import Derived.Test.YtggbcgldnjmobaaCmp
import Derived.Test.YtggbcgldnjmobaaStp
import Derived.Test.YtggbcgldnjmobaaGenC
import Derived.Test.YtggbcgldnjmobaaRdy
namespace Go.Proofs.Ytggbcgldnjmobaa
open Go Go.Ai
set_option linter.unusedSimpArgs false
set_option linter.unusedVariables false
set_option maxHeartbeats 4000000
def A_sab : List Ann := [⟨(some ⟨[0,500], [], []⟩), [], [], [], []⟩, ⟨(some ⟨[3,17,500], [17], []⟩), [], [], [], []⟩, ⟨(some ⟨[4,5,500], [4], []⟩), [], [], [], []⟩, ⟨(some ⟨[4,5,24,500], [4], []⟩), [], [], [], []⟩, ⟨(some ⟨[2], [], []⟩), [], [], [], []⟩, ⟨(some ⟨[4,5,6,7,500], [4,500], []⟩), [], [], [], [(28, ⟨[], [], [500], [], []⟩)]⟩, ⟨(some ⟨[4,5,6,36,500], [4,500], []⟩), [], [], [], []⟩, ⟨(some ⟨[2], [], []⟩), [], [], [], []⟩, ⟨(some ⟨[4,5,6,8,500], [4,500], []⟩), [(8, 38, 3)], [], [], []⟩, ⟨(some ⟨[4,5,6,8,37,38,39,500], [4,500], [8]⟩), [], [], [], []⟩, ⟨(some ⟨[4,5,6,8,37,38,39,40,500], [4,500], [8]⟩), [], [], [], []⟩, ⟨(some ⟨[4,5,6,8,10,37,38,39,500], [4,10,500], [8]⟩), [], [], [], []⟩, ⟨(some ⟨[4,5,6,8,11,12,37,38,39,500], [4,500], [8]⟩), [], [], [], []⟩, ⟨(some ⟨[4,5,6,8,11,37,38,39,50,500], [4,500], [8]⟩), [], [], [], []⟩, ⟨(some ⟨[2], [], []⟩), [], [], [], []⟩, ⟨(some ⟨[4,5,6,8,37,38,39,500], [4,500], [8]⟩), [], [], [], []⟩, ⟨(some ⟨[4,5,6,8,37,38,39,500], [4,500], [8]⟩), [], [], [], []⟩, ⟨(some ⟨[4,5,8,500], [4], []⟩), [], [], [], []⟩, ⟨(some ⟨[5,7,8,13,500], [500], []⟩), [], [], [], []⟩, ⟨(some ⟨[5,8,13,66,500], [], []⟩), [], [], [], []⟩, ⟨(some ⟨[2], [], []⟩), [], [], [], []⟩, ⟨(some ⟨[7,8,14,500], [500], []⟩), [], [], [], []⟩, ⟨(some ⟨[2], [], []⟩), [], [], [], []⟩]
def C_sab : AC := (.seq (.reg false [⟨(some 2), none, .mv (.v (.bool false))⟩] (some ⟨[0,500], [], []⟩))
  (.seq (.reg false [⟨(some 15), none, .mv (.t 0)⟩, ⟨(some 16), none, .build [(.slice none 0 0), (.int .i64 (0))] [(0, 1, (.t 15))]⟩, ⟨(some 17), none, .box (.t 16)⟩, ⟨(some 3), none, .mv (.t 17)⟩] (some ⟨[3,17,500], [17], []⟩))
  (.seq (.reg false [⟨(some 18), none, .mv (.t 3)⟩, ⟨(some 19), none, .callx (.f 14) [(.t 18)]⟩, ⟨(some 20), none, .mv (.t 3)⟩, ⟨(some 21), none, .callx (.f 38) [(.t 20), (.v (.int .i64 (16)))]⟩, ⟨(some 4), none, .alloc [(.int .i64 (0)), (.int .i64 (0))]⟩, ⟨none, none, .store 2 (.t 4) (.t 19)⟩, ⟨(some 5), none, .mv (.t 21)⟩] (some ⟨[4,5,500], [4], []⟩))
  (.seq (.seq (.reg false [⟨(some 22), none, .load true 2 (.t 4)⟩, ⟨(some 23), none, .call (.f 17) [(.t 22)]⟩, ⟨(some 24), none, .bin .neq (.t 23) (.v (.int .i64 (0)))⟩] (some ⟨[4,5,24,500], [4], []⟩))
  (.cond (.t 24)
  (.seq (.reg false [⟨(some 25), none, .call (.f 42) []⟩, ⟨(some 2), none, .mv (.t 25)⟩] (some ⟨[2], [], []⟩))
  .ret)
  .skip))
  (.seq (.reg false [⟨(some 27), none, .load true 2 (.t 4)⟩, ⟨(some 28), none, .callm (.f 16) [(.t 27)] ⟨[], [], [500], [], []⟩⟩, ⟨(some 26), none, .mv (.t 28)⟩, ⟨(some 29), none, .extr (.t 26) 0⟩, ⟨(some 30), none, .extr (.t 26) 1⟩, ⟨(some 6), none, .mv (.t 29)⟩, ⟨(some 7), none, .mv (.t 30)⟩] (some ⟨[4,5,6,7,500], [4,500], []⟩))
  (.seq (.seq (.reg false [⟨(some 31), none, .mv (.t 7)⟩, ⟨(some 32), none, .bin .neq (.t 31) (.v (.int .i64 (0)))⟩, ⟨(some 33), none, .mv (.t 32)⟩, ⟨(some 34), (some (33, false)), .mv (.t 6)⟩, ⟨(some 35), (some (33, false)), .eqs false false [.np] (.t 34) (.v (.pointer none))⟩, ⟨(some 36), none, .pick (.t 33) (.v (.bool true)) (.t 35)⟩] (some ⟨[4,5,6,36,500], [4,500], []⟩))
  (.cond (.t 36)
  (.seq (.reg false [⟨(some 2), none, .mv (.v (.bool false))⟩] (some ⟨[2], [], []⟩))
  .ret)
  .skip))
  (.seq (.seq (.reg false [⟨(some 8), none, .mv (.v (.slice none 0 0))⟩] (some ⟨[4,5,6,8,500], [4,500], []⟩))
  (.own 8 38 3))
  (.seq (.seq (.reg false [⟨(some 37), none, .mv (.t 5)⟩, ⟨(some 38), none, .len (.t 37)⟩, ⟨(some 39), none, .mv (.v (.int .i64 (0)))⟩] (some ⟨[4,5,6,8,37,38,39,500], [4,500], [8]⟩))
  (.block 0 (.loop (.seq (.reg false [⟨(some 40), none, .bin .lss (.t 39) (.t 38)⟩] (some ⟨[4,5,6,8,37,38,39,40,500], [4,500], [8]⟩))
  (.seq (.cond (.t 40)
  .skip
  (.exit 0))
  (.seq (.block 1 (.seq (.reg false [⟨(some 41), none, .iadr 3 (.t 37) (.t 39)⟩, ⟨(some 42), none, .load true 3 (.t 41)⟩, ⟨(some 10), none, .alloc [(.int .i64 (0)), (.int .i64 (0)), (.int .i64 (0))]⟩, ⟨none, none, .store 3 (.t 10) (.t 42)⟩] (some ⟨[4,5,6,8,10,37,38,39,500], [4,10,500], [8]⟩))
  (.seq (.reg false [⟨(some 44), none, .mv (.t 6)⟩, ⟨(some 45), none, .load true 3 (.t 10)⟩, ⟨(some 46), none, .callx (.f 19) [(.t 44), (.t 45)]⟩, ⟨(some 43), none, .mv (.t 46)⟩, ⟨(some 47), none, .extr (.t 43) 0⟩, ⟨(some 48), none, .extr (.t 43) 1⟩, ⟨(some 11), none, .mv (.t 47)⟩, ⟨(some 12), none, .mv (.t 48)⟩] (some ⟨[4,5,6,8,11,12,37,38,39,500], [4,500], [8]⟩))
  (.seq (.seq (.reg false [⟨(some 49), none, .mv (.t 12)⟩, ⟨(some 50), none, .bin .neq (.t 49) (.v (.int .i64 (0)))⟩] (some ⟨[4,5,6,8,11,37,38,39,50,500], [4,500], [8]⟩))
  (.cond (.t 50)
  (.seq (.reg false [⟨(some 2), none, .mv (.v (.bool false))⟩] (some ⟨[2], [], []⟩))
  .ret)
  .skip))
  (.reg false [⟨(some 51), none, .mv (.t 8)⟩, ⟨(some 52), none, .mv (.t 11)⟩, ⟨(some 53), none, .append 38 3 24 (.t 51) (.t 52)⟩, ⟨(some 8), none, .mv (.t 53)⟩] (some ⟨[4,5,6,8,37,38,39,500], [4,500], [8]⟩))))))
  (.reg false [⟨(some 54), none, .bin .add (.t 39) (.v (.int .i64 (1)))⟩, ⟨(some 39), none, .mv (.t 54)⟩] (some ⟨[4,5,6,8,37,38,39,500], [4,500], [8]⟩))))))))
  (.seq (.reg false [⟨(some 55), none, .mv (.t 8)⟩, ⟨(some 56), none, .mv (.t 6)⟩, ⟨(some 57), none, .callx (.f 22) [(.t 56)]⟩, ⟨(some 58), none, .append 38 3 24 (.t 55) (.t 57)⟩, ⟨(some 8), none, .mv (.t 58)⟩] (some ⟨[4,5,8,500], [4], []⟩))
  (.seq (.reg false [⟨(some 60), none, .load true 2 (.t 4)⟩, ⟨(some 61), none, .mv (.t 5)⟩, ⟨(some 62), none, .call (.f 29) [(.t 60), (.t 61)]⟩, ⟨(some 59), none, .mv (.t 62)⟩, ⟨(some 63), none, .extr (.t 59) 0⟩, ⟨(some 64), none, .extr (.t 59) 1⟩, ⟨(some 13), none, .mv (.t 63)⟩, ⟨(some 7), none, .mv (.t 64)⟩] (some ⟨[5,7,8,13,500], [500], []⟩))
  (.seq (.seq (.reg false [⟨(some 65), none, .mv (.t 7)⟩, ⟨(some 66), none, .bin .neq (.t 65) (.v (.int .i64 (0)))⟩] (some ⟨[5,8,13,66,500], [], []⟩))
  (.cond (.t 66)
  (.seq (.reg false [⟨(some 2), none, .mv (.v (.bool false))⟩] (some ⟨[2], [], []⟩))
  .ret)
  .skip))
  (.seq (.reg false [⟨(some 68), none, .mv (.t 5)⟩, ⟨(some 69), none, .mv (.t 13)⟩, ⟨(some 70), none, .call (.f 50) [(.t 68), (.t 69)]⟩, ⟨(some 67), none, .mv (.t 70)⟩, ⟨(some 71), none, .extr (.t 67) 0⟩, ⟨(some 72), none, .extr (.t 67) 1⟩, ⟨(some 14), none, .mv (.t 71)⟩, ⟨(some 7), none, .mv (.t 72)⟩] (some ⟨[7,8,14,500], [500], []⟩))
  (.seq (.reg false [⟨(some 73), none, .mv (.t 7)⟩, ⟨(some 74), none, .bin .eql (.t 73) (.v (.int .i64 (0)))⟩, ⟨(some 75), none, .mv (.t 74)⟩, ⟨(some 76), (some (75, true)), .mv (.t 8)⟩, ⟨(some 77), (some (75, true)), .mv (.t 14)⟩, ⟨(some 78), (some (75, true)), .call (.f 23) [(.t 76), (.t 77)]⟩, ⟨(some 79), none, .pick (.t 75) (.t 78) (.v (.bool false))⟩, ⟨(some 80), none, .mv (.t 79)⟩, ⟨(some 81), (some (80, true)), .call (.f 42) []⟩, ⟨(some 82), none, .pick (.t 80) (.t 81) (.v (.bool false))⟩, ⟨(some 2), none, .mv (.t 82)⟩] (some ⟨[2], [], []⟩))
  .ret)))))))))))))
theorem c_sab : compileCode Try.prog Try.f8.ntmps (Try.f8.body.getD .skip) A_sab = some (C_sab, []) := by kernel_rfl
theorem r_sab : compileRes Try.prog Try.f8.results.toList = some [.t 2] := by kernel_rfl
theorem b_sab : Try.f8.body = some (Try.f8.body.getD .skip) := by kernel_rfl
theorem n_sab : (Try.f8.name == "runtime.NumGoroutine") = false := by kernel_rfl
theorem fc_sab {xt : Option (List Cel)} {args : List Val} {R : List Cel → Val → Prop} (hn : (if xt.isSome then 1 else 0) + args.length ≤ Try.f8.ntmps) (h : ex Try.prog C_sab [] (fpost xt [.t 2] R) (initSt xt args)) : FC Try.prog 8 xt args R :=
  fc_of_awp Try.func8 b_sab n_sab c_sab r_sab (of_decide_eq_true (by kernel_rfl)) hn h
theorem fcm_sab {H : Hp} {K : Keep} {args : List Val} {R : Hp → Val → Prop} (hn : args.length ≤ Try.f8.ntmps) (hkb : ∀ p ∈ H.bs, p.1 = 0 ∨ XK ≤ p.1) (hkr : ∀ p ∈ H.rs, XK ≤ p.1) (h : ex Try.prog C_sab [] (mpost H K [.t 2] R) (initM H args)) : FCM Try.prog 8 H args R :=
  fcm_of_awp Try.func8 b_sab n_sab c_sab r_sab (of_decide_eq_true (by kernel_rfl)) hn hkb hkr h
theorem fcms_sab {S : List Nat} {H : Hp} {K : Keep} {args : List Val} {R : Hp → Val → Prop} (hn : args.length ≤ Try.f8.ntmps) (hkb : ∀ p ∈ H.bs, p.1 = 0 ∨ XK ≤ p.1) (hkr : ∀ p ∈ H.rs, XK ≤ p.1) (h : ex Try.prog C_sab [] (mpostS S H K [.t 2] R) (initM H args))   : FCMS Try.prog 8 S H args R :=
  fcms_of_awp Try.func8 b_sab n_sab c_sab r_sab (of_decide_eq_true (by kernel_rfl)) hn hkb hkr h


theorem ser_all {l : List Smp} (h : serFault l = 0) : ∀ x ∈ l, smpFault x = 0 := by
  have go : ∀ (l : List Smp) (p : Option Smp), serGo p l = 0 → ∀ x ∈ l, smpFault x = 0 := by
    intro l
    induction l with
    | nil => intro p _ x hx; cases hx
    | cons y r ih =>
      intro p h x hx
      have k1 : smpFault y = 0 ∧ serGo (some y) r = 0 := by
        rw [serGo.eq_def] at h
        simp only [] at h
        by_cases h1 : smpFault y ≠ 0
        · rw [if_pos h1] at h; omega
        · rw [if_neg h1] at h
          cases p with
          | none =>
            simp only [Bool.false_eq_true, if_false] at h
            exact ⟨by omega, h⟩
          | some z =>
            simp only [decide_eq_true_eq] at h
            by_cases h2 : y.a ≤ z.a
            · rw [if_pos h2] at h; omega
            · rw [if_neg h2] at h
              exact ⟨by omega, h⟩
      obtain ⟨k1, k3⟩ := k1
      rcases List.mem_cons.1 hx with rfl | hx
      · exact k1
      · exact ih _ k3 x hx
  exact go l none (serFault_ok h).2
theorem kpI_asc {o : List Int} {i : Int} (h : o.Pairwise (· < ·)) (hi : ∀ k ∈ o, k ≤ i) : (kpI o i).Pairwise (· < ·) ∧ ∀ k ∈ kpI o i, k ≤ i := by
  unfold kpI
  split
  · rename_i hc
    refine ⟨List.pairwise_append.2 ⟨h, by simp, fun a ha b hb => ?_⟩, fun k hk => ?_⟩
    · simp only [List.mem_singleton] at hb; subst hb
      obtain ⟨j, hj, rfl⟩ := List.mem_iff_getElem.1 ha
      have e : o.getD ((o.length : Int) - 1).toNat default = o[o.length - 1]'(by omega) := by
        rw [show ((o.length : Int) - 1).toNat = o.length - 1 by omega]
        simp [List.getD_eq_getElem?_getD, show o.length - 1 < o.length by omega]
      have h1 := hi (o[o.length - 1]'(by omega)) (List.getElem_mem _)
      have h2 : o[j] ≤ o[o.length - 1]'(by omega) := by
        by_cases e2 : j = o.length - 1
        · subst e2; exact Int.le_refl _
        · have := List.pairwise_iff_getElem.1 h j (o.length - 1) hj (by omega) (by omega); omega
      rcases hc with h3 | h3
      · omega
      · rw [e] at h3; omega
    · rcases List.mem_append.1 hk with hk | hk
      · exact hi k hk
      · simp only [List.mem_singleton] at hk; omega
  · exact ⟨h, hi⟩
theorem rs_asc (dv mg : Int) (l : List Smp) : ∀ i : Nat, i ≤ l.length → (rsRun dv mg l i).o.Pairwise (· < ·) ∧ ∀ k ∈ (rsRun dv mg l i).o, k ≤ (rsRun dv mg l i).p
  | 0, _ => ⟨by simp [rsRun], by simp [rsRun]⟩
  | i + 1, hi => by
    obtain ⟨h1, h2, h3, h4, h5, h6⟩ := rs_in dv mg l i (by omega)
    obtain ⟨a1, a2⟩ := rs_asc dv mg l i (by omega)
    have e0 : i = 0 → (rsRun dv mg l i).o = [] := fun e => by subst e; rfl
    rw [rsRun]
    generalize rsRun dv mg l i = x at *
    obtain ⟨b1, b2⟩ := kpI_asc a1 (i := x.h) (fun k hk => by have := a2 k hk; omega)
    unfold rsStep
    simp only
    split
    · rename_i hz
      simp only [rsK]
      rw [e0 hz]
      exact kpI_asc (o := []) (by simp) (by simp)
    · rename_i hz
      split
      · simp only [rsK]
        exact kpI_asc b1 (fun k hk => by have := b2 k hk; have := h6 (by omega); omega)
      · split
        · simp only [rsK]; exact ⟨b1, b2⟩
        · exact ⟨a1, a2⟩
theorem kf_asc (n : Int) : ∀ (l : List Int) (p : Option Int), l.Pairwise (· < ·) → (∀ k ∈ l, 0 ≤ k ∧ k < n) → (∀ y, p = some y → ∀ k ∈ l, y < k) → kfGo n p l = 0
  | [], _, _, _, _ => rfl
  | x :: r, p, h, hr, hp => by
    obtain ⟨h1, h2⟩ := List.pairwise_cons.1 h
    have hx := hr x (by simp)
    rw [kfGo, if_neg (by omega), if_neg]
    · exact kf_asc n r (some x) h2 (fun k hk => hr k (by simp [hk])) (fun y hy k hk => by cases hy; exact h1 k hk)
    · cases p with
      | none => simp [leO]
      | some y => have := hp y rfl x (by simp); simp [leO]; omega
theorem cof_asc {dv mg : Int} {l : List Smp} : (cofSp dv mg l).Pairwise (· < ·) := by
  obtain ⟨a1, a2⟩ := rs_asc dv mg l l.length (Nat.le_refl _)
  obtain ⟨h1, h2, h3, h4, h5, h6⟩ := rs_in dv mg l l.length (Nat.le_refl _)
  unfold cofSp
  split
  · exact (kpI_asc a1 (fun k hk => by have := a2 k hk; omega)).1
  · exact a1
theorem cof_kpt {dv mg : Int} {l : List Smp} (hs : serFault l = 0) (hd : 0 ≤ dv ∧ dv ≤ 2000000) : kptF l (cofSp dv mg l) = 0 := by
  obtain ⟨s1, s2, s3, s4⟩ := stream_is (mg := mg) (good_of hs) hd
  unfold kptF
  rw [if_neg (by omega), if_neg (by omega)]
  exact kf_asc _ _ none cof_asc s2 (fun y hy => by cases hy)
def sabSt (dv mg : Int) (c : List Smp) (i n : Int) : AS :=
  ⟨tabV [(4, .one (.bx 4 0)), (5, smps true c), (6, .one (.bx 500 0)), (8, .one (.ow 8 0)), (37, smps true c), (38, iv c.length), (39, iv i), (500, .any)],
   tabO [(4, [.g (.int .i64 dv), .g (.int .i64 mg)]), (500, scC (runN dv mg c i.toNat).1 (some n))], tabO [(8, smpRow (runN dv mg c i.toNat).2)]⟩
set_option maxHeartbeats 12000000 in
set_option maxRecDepth 8000 in
theorem sab_fc (L : List Int) (hL : ∀ x ∈ L, I64 x) (hl : L.length ≤ 9223372036854775807) : FC Try.prog 8 none [ints false L] (fun _ r => r = bv true) := by
  refine fc_sab (by simp +arith) ?_
  unfold C_sab
  simp (maxSteps := 1000000) (disch := omega) only [go_sem, eq_self, decide_true, decide_false, not_true_eq_false, not_false_eq_true, reduceIte, reduceCtorEq, Nat.reduceEqDiff, Nat.reduceAdd, Nat.reduceSub, Nat.reduceLeDiff]
  refine callx_gen (p := 0) doorOf_fc hL hl (by omega) (by omega) ⟨_, 0, 0, by simp [I64], by simp [I64], rfl⟩ ?_
  rintro pa r ha1 ha2 ⟨dv, mg, hdv, hmg, rfl⟩
  refine ⟨rfl, ?_⟩
  unfold strm
  simp (maxSteps := 1000000) (disch := omega) only [go_sem, eq_self, decide_true, decide_false, not_true_eq_false, not_false_eq_true, reduceIte, reduceCtorEq, Nat.reduceEqDiff, Nat.reduceAdd, Nat.reduceSub, Nat.reduceLeDiff]
  refine callx_gen (rightCurve_fc 16 (by omega) (by omega)) hL hl (by omega) (by omega) ⟨_, [], rfl, by simp, rfl⟩ ?_
  rintro pb r hb1 hb2 ⟨c, hcs, hcl, rfl⟩
  refine ⟨rfl, ?_⟩
  unfold strm
  simp (maxSteps := 1000000) (disch := omega) only [go_sem, eq_self, decide_true, decide_false, not_true_eq_false, not_false_eq_true, reduceIte, reduceCtorEq, Nat.reduceEqDiff, Nat.reduceAdd, Nat.reduceSub, Nat.reduceLeDiff]
  refine CALL_det (doorFault_fc dv mg) (.inl rfl) ?_
  by_cases h1 : excF dv mg = 0
  · rw [h1]
    have hg := good_of hcs
    have hcm := compress_ok dv mg h1 c hcs
    have hdd : 0 ≤ dv ∧ dv ≤ 2000000 := by unfold excF at h1; split at h1 <;> omega
    have hdm : 1 ≤ mg ∧ mg ≤ 345686400000 := by unfold excF at h1; split at h1 <;> omega
    obtain ⟨s1, s2, s3, s4⟩ := stream_is (mg := mg) hg hdd
    have hkp := keepP_fc c (by omega) (cofSp dv mg c) (by omega)
    have hkf := cof_kpt (dv := dv) (mg := mg) hcs hdd
    have hks : kepSp c (cofSp dv mg c) = (kep c (cofSp dv mg c), 0) := by unfold kepSp; rw [if_neg (by omega)]
    rw [hks] at hkp
    have hkl : (kep c (cofSp dv mg c)).length ≤ 5000 := by unfold kep; rw [List.length_map]; omega
    have heq := eqSmp_fc false false (kep c (cofSp dv mg c)) (by omega)
    simp (maxSteps := 1000000) (disch := omega) only [go_sem, eq_self, decide_true, decide_false, not_true_eq_false, not_false_eq_true, reduceIte, reduceCtorEq, Nat.reduceEqDiff, Nat.reduceAdd, Nat.reduceSub, Nat.reduceLeDiff]
    refine ⟨rfl, CALLM_rn (swp 13 500) (fun k => k) (swp_swp 13 500) (fun _ => rfl) (new_ok dv mg h1) (by simp) rfl rfl ⟨rfl, rfl⟩ ?_⟩
    rw [show (⟨[(13, scC (ini dv mg) (some 0))], []⟩ : Hp).rn (swp 13 500) (fun k => k) = ⟨[(500, scC (ini dv mg) (some 0))], []⟩ from rfl, show rnV (swp 13 500) (fun k => k) (.tu [.one (.bx 13 0), iv 0]) = .tu [.one (.bx 500 0), iv 0] from rfl]
    simp (maxSteps := 1000000) (disch := omega) only [go_sem, eq_self, decide_true, decide_false, not_true_eq_false, not_false_eq_true, reduceIte, reduceCtorEq, Nat.reduceEqDiff, Nat.reduceAdd, Nat.reduceSub, Nat.reduceLeDiff]
    refine ex_loop2 (sabSt dv mg c) (fun i n => 0 ≤ i ∧ i ≤ c.length ∧ (0 < i → n = (c.getD (i - 1).toNat default).a)) (fun i _ => (c.length - i).toNat) 0 0 ⟨by omega, by omega, by omega⟩ rfl ?_
    rintro i n ⟨g1, g2, g3⟩
    unfold sabSt
    by_cases hi : i < c.length
    · have e2 : (i + 1).toNat = i.toNat + 1 := by omega
      have em := getD_map_at smpC c i [] g1 hi
      have ho := run_out (mg := mg) hg hdd i.toNat (by omega)
      have hst : runN dv mg c (i + 1).toNat = ((addS (runN dv mg c i.toNat).1 (c.getD i.toNat default)).1, (runN dv mg c i.toNat).2 ++ (addS (runN dv mg c i.toNat).1 (c.getD i.toNat default)).2) := by rw [e2]; rfl
      have ho2 := run_out (mg := mg) hg hdd (i + 1).toNat (by omega)
      rw [hst] at ho2
      simp only [List.length_append] at ho2
      have hrb : (runN dv mg c i.toNat).1.b = true → 0 < i ∧ OkX (runN dv mg c i.toNat).1 (c.getD i.toNat default) := fun hb => by
        cases hn : i.toNat with
        | zero => rw [hn] at hb; cases hb
        | succ n =>
          obtain ⟨p, H⟩ := sim_run (mg := mg) hg hdd n (by omega)
          exact ⟨by omega, H.okx hg hdd hdm (by omega)⟩
      have hsm := ser_all hcs _ (getD_mem c i.toNat (by omega))
      have ha := cAdd_ok (runN dv mg c i.toNat).1 n (c.getD i.toNat default) hsm (fun hb => by
        have h3 := (hrb hb).1
        have := hg.up (i - 1).toNat i.toNat (by omega) (by omega)
        rw [g3 h3]; omega) (fun hb => (hrb hb).2)
      have hdt := sc_data (addS (runN dv mg c i.toNat).1 (c.getD i.toNat default)).1 (some (c.getD i.toNat default).a)
      unfold smpRow
      generalize (addS (runN dv mg c i.toNat).1 (c.getD i.toNat default)) = y at *
      simp (maxSteps := 1000000) (disch := omega) only [go_sem, eq_self, decide_true, decide_false, not_true_eq_false, not_false_eq_true, reduceIte, reduceCtorEq, Nat.reduceEqDiff, Nat.reduceAdd, Nat.reduceSub, Nat.reduceLeDiff]
      refine CALLX_det ha rfl hdt ?_
      simp (maxSteps := 1000000) (disch := omega) only [go_sem, eq_self, decide_true, decide_false, not_true_eq_false, not_false_eq_true, reduceIte, reduceCtorEq, Nat.reduceEqDiff, Nat.reduceAdd, Nat.reduceSub, Nat.reduceLeDiff]
      refine ⟨i + 1, (c.getD i.toNat default).a, ?_, ⟨by omega, by omega, fun _ => by rw [show (i + 1 - 1).toNat = i.toNat by omega]⟩, by omega⟩
      simp only [sabSt, hst, smpRow, List.map_append]
    · have hil : i.toNat = c.length := by omega
      rw [hil]
      have hfl := cFlush_fc (runN dv mg c c.length).1 n
      have hdt := sc_data (fluS (runN dv mg c c.length).1).1 (some n)
      have ho := run_out (mg := mg) hg hdd c.length (by omega)
      have hal : (runN dv mg c c.length).2.length + (fluS (runN dv mg c c.length).1).2.length ≤ 5000 := by
        rw [← s1] at hkl
        simp only [List.length_append] at hkl
        omega
      have s1' : List.map smpC (runN dv mg c c.length).2 ++ List.map smpC (fluS (runN dv mg c c.length).1).2 = List.map smpC (kep c (cofSp dv mg c)) := by rw [← s1]; simp only [List.map_append]
      unfold smpRow
      generalize (fluS (runN dv mg c c.length).1) = y at *
      simp (maxSteps := 1000000) (disch := omega) only [go_sem, eq_self, decide_true, decide_false, not_true_eq_false, not_false_eq_true, reduceIte, reduceCtorEq, Nat.reduceEqDiff, Nat.reduceAdd, Nat.reduceSub, Nat.reduceLeDiff]
      refine CALLX_det hfl rfl hdt ?_
      simp (maxSteps := 1000000) (disch := omega) only [go_sem, eq_self, decide_true, decide_false, not_true_eq_false, not_false_eq_true, reduceIte, reduceCtorEq, Nat.reduceEqDiff, Nat.reduceAdd, Nat.reduceSub, Nat.reduceLeDiff]
      rw [s1']
      refine CALL_det hcm (.inl rfl) ?_
      simp (maxSteps := 1000000) (disch := omega) only [go_sem, eq_self, decide_true, decide_false, not_true_eq_false, not_false_eq_true, reduceIte, reduceCtorEq, Nat.reduceEqDiff, Nat.reduceAdd, Nat.reduceSub, Nat.reduceLeDiff]
      refine CALL_det hkp (.inl rfl) ?_
      simp (maxSteps := 1000000) (disch := omega) only [go_sem, eq_self, decide_true, decide_false, not_true_eq_false, not_false_eq_true, reduceIte, reduceCtorEq, Nat.reduceEqDiff, Nat.reduceAdd, Nat.reduceSub, Nat.reduceLeDiff]
      refine CALL_det heq (.inl rfl) ?_
      simp (maxSteps := 1000000) (disch := omega) only [go_sem, eq_self, decide_true, decide_false, not_true_eq_false, not_false_eq_true, reduceIte, reduceCtorEq, Nat.reduceEqDiff, Nat.reduceAdd, Nat.reduceSub, Nat.reduceLeDiff]
      refine CALL_det ready_fc (.inl rfl) ?_
      simp (maxSteps := 1000000) (disch := omega) only [go_sem, eq_self, decide_true, decide_false, not_true_eq_false, not_false_eq_true, reduceIte, reduceCtorEq, Nat.reduceEqDiff, Nat.reduceAdd, Nat.reduceSub, Nat.reduceLeDiff]
  · simp (maxSteps := 1000000) (disch := omega) only [go_sem, eq_self, decide_true, decide_false, not_true_eq_false, not_false_eq_true, reduceIte, reduceCtorEq, Nat.reduceEqDiff, Nat.reduceAdd, Nat.reduceSub, Nat.reduceLeDiff]
    refine CALL_det ready_fc (.inl rfl) ?_
    simp (maxSteps := 1000000) (disch := omega) only [go_sem, eq_self, decide_true, decide_false, not_true_eq_false, not_false_eq_true, reduceIte, reduceCtorEq, Nat.reduceEqDiff, Nat.reduceAdd, Nat.reduceSub, Nat.reduceLeDiff]
end Go.Proofs.Ytggbcgldnjmobaa

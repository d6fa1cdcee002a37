
/-
  What Compress archives fits, and what is the minimum, too: the walk.
-/
import Derived.Test.YtggbcgldnjmobaaCmp
import Derived.Test.YtggbcgldnjmobaaMin
import Derived.Test.YtggbcgldnjmobaaFis
import Derived.Test.YtggbcgldnjmobaaGenC
import Derived.Test.YtggbcgldnjmobaaRdy
namespace Go.Proofs.Ytggbcgldnjmobaa
open Go Go.Ai
set_option linter.unusedSimpArgs false
set_option linter.unusedVariables false
set_option maxHeartbeats 4000000
def A_cfits : List Ann := [⟨(some ⟨[0], [], []⟩), [], [], [], []⟩, ⟨(some ⟨[3,19], [19], []⟩), [], [], [], []⟩, ⟨(some ⟨[4,5], [4], []⟩), [], [], [], []⟩, ⟨(some ⟨[4,5,26], [4], []⟩), [], [], [], []⟩, ⟨(some ⟨[2], [], []⟩), [], [], [], []⟩, ⟨(some ⟨[4,5,6,7], [4], []⟩), [], [], [], []⟩, ⟨(some ⟨[4,5,6,7,8,9], [4], []⟩), [], [], [], []⟩, ⟨(some ⟨[4,5,6,8,52], [4], []⟩), [], [], [], []⟩, ⟨(some ⟨[2], [], []⟩), [], [], [], []⟩, ⟨(some ⟨[4,5,55,56,57], [4], []⟩), [], [], [], []⟩, ⟨(some ⟨[4,5,55,56,57,58], [4], []⟩), [], [], [], []⟩, ⟨(some ⟨[4,5,11,55,56,57], [4], []⟩), [], [], [], []⟩, ⟨(some ⟨[4,5,11,12,13,55,56,57], [4], []⟩), [], [], [], []⟩, ⟨(some ⟨[4,5,11,55,56,57,73], [4], []⟩), [], [], [], []⟩, ⟨(some ⟨[2], [], []⟩), [], [], [], []⟩, ⟨(some ⟨[4,5,14,16,55,56,57], [4,14], []⟩), [], [], [], []⟩, ⟨(some ⟨[4,5,55,56,57,92], [4], []⟩), [], [], [], []⟩, ⟨(some ⟨[2], [], []⟩), [], [], [], []⟩, ⟨(some ⟨[4,5,55,56,57], [4], []⟩), [], [], [], []⟩, ⟨(some ⟨[2], [], []⟩), [], [], [], []⟩]
def C_cfits : AC := (.seq (.reg false [⟨(some 2), none, .mv (.v (.bool false))⟩] (some ⟨[0], [], []⟩))
  (.seq (.reg false [⟨(some 17), none, .mv (.t 0)⟩, ⟨(some 18), none, .build [(.slice none 0 0), (.int .i64 (0))] [(0, 1, (.t 17))]⟩, ⟨(some 19), none, .box (.t 18)⟩, ⟨(some 3), none, .mv (.t 19)⟩] (some ⟨[3,19], [19], []⟩))
  (.seq (.reg false [⟨(some 20), none, .mv (.t 3)⟩, ⟨(some 21), none, .callx (.f 14) [(.t 20)]⟩, ⟨(some 22), none, .mv (.t 3)⟩, ⟨(some 23), none, .callx (.f 38) [(.t 22), (.v (.int .i64 (14)))]⟩, ⟨(some 4), none, .alloc [(.int .i64 (0)), (.int .i64 (0))]⟩, ⟨none, none, .store 2 (.t 4) (.t 21)⟩, ⟨(some 5), none, .mv (.t 23)⟩] (some ⟨[4,5], [4], []⟩))
  (.seq (.seq (.reg false [⟨(some 24), none, .load true 2 (.t 4)⟩, ⟨(some 25), none, .call (.f 17) [(.t 24)]⟩, ⟨(some 26), none, .bin .neq (.t 25) (.v (.int .i64 (0)))⟩] (some ⟨[4,5,26], [4], []⟩))
  (.cond (.t 26)
  (.seq (.reg false [⟨(some 27), none, .call (.f 42) []⟩, ⟨(some 2), none, .mv (.t 27)⟩] (some ⟨[2], [], []⟩))
  .ret)
  .skip))
  (.seq (.reg false [⟨(some 29), none, .load true 2 (.t 4)⟩, ⟨(some 30), none, .mv (.t 5)⟩, ⟨(some 31), none, .call (.f 29) [(.t 29), (.t 30)]⟩, ⟨(some 28), none, .mv (.t 31)⟩, ⟨(some 32), none, .extr (.t 28) 0⟩, ⟨(some 33), none, .extr (.t 28) 1⟩, ⟨(some 6), none, .mv (.t 32)⟩, ⟨(some 7), none, .mv (.t 33)⟩] (some ⟨[4,5,6,7], [4], []⟩))
  (.seq (.reg false [⟨(some 35), none, .load true 2 (.t 4)⟩, ⟨(some 36), none, .mv (.t 5)⟩, ⟨(some 37), none, .call (.f 31) [(.t 35), (.t 36)]⟩, ⟨(some 34), none, .mv (.t 37)⟩, ⟨(some 38), none, .extr (.t 34) 0⟩, ⟨(some 39), none, .extr (.t 34) 1⟩, ⟨(some 8), none, .mv (.t 38)⟩, ⟨(some 9), none, .mv (.t 39)⟩] (some ⟨[4,5,6,7,8,9], [4], []⟩))
  (.seq (.seq (.reg false [⟨(some 40), none, .mv (.t 7)⟩, ⟨(some 41), none, .bin .neq (.t 40) (.v (.int .i64 (0)))⟩, ⟨(some 42), none, .mv (.t 41)⟩, ⟨(some 43), (some (42, false)), .mv (.t 9)⟩, ⟨(some 44), (some (42, false)), .bin .neq (.t 43) (.v (.int .i64 (0)))⟩, ⟨(some 45), none, .pick (.t 42) (.v (.bool true)) (.t 44)⟩, ⟨(some 46), none, .mv (.t 45)⟩, ⟨(some 47), (some (46, false)), .mv (.t 8)⟩, ⟨(some 48), (some (46, false)), .len (.t 47)⟩, ⟨(some 49), (some (46, false)), .mv (.t 6)⟩, ⟨(some 50), (some (46, false)), .len (.t 49)⟩, ⟨(some 51), (some (46, false)), .bin .gtr (.t 48) (.t 50)⟩, ⟨(some 52), none, .pick (.t 46) (.v (.bool true)) (.t 51)⟩] (some ⟨[4,5,6,8,52], [4], []⟩))
  (.cond (.t 52)
  (.seq (.reg false [⟨(some 2), none, .mv (.v (.bool false))⟩] (some ⟨[2], [], []⟩))
  .ret)
  .skip))
  (.seq (.seq (.reg false [⟨(some 53), none, .mv (.t 6)⟩, ⟨(some 54), none, .mv (.t 8)⟩, ⟨(some 55), none, .bslice 1 2 [(.t 53), (.t 54)]⟩, ⟨(some 56), none, .len (.t 55)⟩, ⟨(some 57), none, .mv (.v (.int .i64 (0)))⟩] (some ⟨[4,5,55,56,57], [4], []⟩))
  (.block 0 (.loop (.seq (.reg false [⟨(some 58), none, .bin .lss (.t 57) (.t 56)⟩] (some ⟨[4,5,55,56,57,58], [4], []⟩))
  (.seq (.cond (.t 58)
  .skip
  (.exit 0))
  (.seq (.block 1 (.seq (.reg false [⟨(some 59), none, .iadr 1 (.t 55) (.t 57)⟩, ⟨(some 60), none, .load false 1 (.t 59)⟩, ⟨(some 11), none, .mv (.t 60)⟩] (some ⟨[4,5,11,55,56,57], [4], []⟩))
  (.seq (.reg false [⟨(some 62), none, .load true 2 (.t 4)⟩, ⟨(some 63), none, .mv (.t 5)⟩, ⟨(some 64), none, .mv (.t 11)⟩, ⟨(some 65), none, .call (.f 30) [(.t 62), (.t 63), (.t 64)]⟩, ⟨(some 61), none, .mv (.t 65)⟩, ⟨(some 66), none, .extr (.t 61) 0⟩, ⟨(some 67), none, .extr (.t 61) 1⟩, ⟨(some 12), none, .mv (.t 66)⟩, ⟨(some 13), none, .mv (.t 67)⟩] (some ⟨[4,5,11,12,13,55,56,57], [4], []⟩))
  (.seq (.seq (.reg false [⟨(some 68), none, .mv (.t 13)⟩, ⟨(some 69), none, .bin .neq (.t 68) (.v (.int .i64 (0)))⟩, ⟨(some 70), none, .mv (.t 69)⟩, ⟨(some 71), (some (70, false)), .mv (.t 12)⟩, ⟨(some 72), (some (70, false)), .un .not (.t 71)⟩, ⟨(some 73), none, .pick (.t 70) (.v (.bool true)) (.t 72)⟩] (some ⟨[4,5,11,55,56,57,73], [4], []⟩))
  (.cond (.t 73)
  (.seq (.reg false [⟨(some 2), none, .mv (.v (.bool false))⟩] (some ⟨[2], [], []⟩))
  .ret)
  .skip))
  (.seq (.reg false [⟨(some 75), none, .mv (.t 5)⟩, ⟨(some 76), none, .mv (.t 11)⟩, ⟨(some 77), none, .call (.f 56) [(.t 75), (.t 76)]⟩, ⟨(some 74), none, .mv (.t 77)⟩, ⟨(some 78), none, .extr (.t 74) 0⟩, ⟨(some 79), none, .extr (.t 74) 1⟩, ⟨(some 80), none, .extr (.t 74) 2⟩, ⟨(some 14), none, .alloc [(.int .i64 (0)), (.int .i64 (0))]⟩, ⟨none, none, .store 2 (.t 14) (.t 78)⟩, ⟨(some 15), none, .mv (.t 79)⟩, ⟨(some 16), none, .mv (.t 80)⟩] (some ⟨[4,5,14,16,55,56,57], [4,14], []⟩))
  (.seq (.reg false [⟨(some 81), none, .mv (.t 16)⟩, ⟨(some 82), none, .bin .eql (.t 81) (.v (.int .i64 (0)))⟩, ⟨(some 83), none, .mv (.t 82)⟩, ⟨(some 84), (some (83, true)), .fadr 0 (.t 14)⟩, ⟨(some 85), (some (83, true)), .load false 1 (.t 84)⟩, ⟨(some 86), (some (83, true)), .fadr 0 (.t 4)⟩, ⟨(some 87), (some (83, true)), .load false 1 (.t 86)⟩, ⟨(some 88), (some (83, true)), .fadr 1 (.t 14)⟩, ⟨(some 89), (some (83, true)), .load false 1 (.t 88)⟩, ⟨(some 90), (some (83, true)), .bin .mul (.t 87) (.t 89)⟩, ⟨(some 91), (some (83, true)), .bin .gtr (.t 85) (.t 90)⟩, ⟨(some 92), none, .pick (.t 83) (.t 91) (.v (.bool false))⟩] (some ⟨[4,5,55,56,57,92], [4], []⟩))
  (.cond (.t 92)
  (.seq (.reg false [⟨(some 2), none, .mv (.v (.bool false))⟩] (some ⟨[2], [], []⟩))
  .ret)
  .skip)))))))
  (.reg false [⟨(some 93), none, .bin .add (.t 57) (.v (.int .i64 (1)))⟩, ⟨(some 57), none, .mv (.t 93)⟩] (some ⟨[4,5,55,56,57], [4], []⟩))))))))
  (.seq (.reg false [⟨(some 94), none, .call (.f 42) []⟩, ⟨(some 2), none, .mv (.t 94)⟩] (some ⟨[2], [], []⟩))
  .ret)))))))))
theorem c_cfits : compileCode Try.prog Try.f10.ntmps (Try.f10.body.getD .skip) A_cfits = some (C_cfits, []) := by kernel_rfl
theorem r_cfits : compileRes Try.prog Try.f10.results.toList = some [.t 2] := by kernel_rfl
theorem b_cfits : Try.f10.body = some (Try.f10.body.getD .skip) := by kernel_rfl
theorem n_cfits : (Try.f10.name == "runtime.NumGoroutine") = false := by kernel_rfl
theorem fc_cfits {xt : Option (List Cel)} {args : List Val} {R : List Cel → Val → Prop} (hn : (if xt.isSome then 1 else 0) + args.length ≤ Try.f10.ntmps) (h : ex Try.prog C_cfits [] (fpost xt [.t 2] R) (initSt xt args)) : FC Try.prog 10 xt args R :=
  fc_of_awp Try.func10 b_cfits n_cfits c_cfits r_cfits (of_decide_eq_true (by kernel_rfl)) hn h


section
variable {dv mg : Int} {l : List Smp}
/-- Nothing of nothing, or a chain. -/
def okK (dv mg : Int) (l : List Smp) (m : List Int) : Prop := if l.length = 0 then m = [] else ∃ s, m = 0 :: s ∧ chn l.length (jnB dv mg l) 0 s
structure Fk (dv mg : Int) (l : List Smp) (m : List Int) : Prop where
  len : m.length ≤ l.length
  fit : fitSp dv mg l m = (true, 0)
  kgd : kptF l m = 0 → Good (kep l m)
  err : (errSp l m).2.2 = 0 → (errSp l m).1.1 ≤ dv * (errSp l m).1.2 ∧ 1 ≤ (errSp l m).1.2 ∧ (errSp l m).1.2 ≤ 345686400000
theorem okK_fk (hs : serFault l = 0) (hx : excF dv mg = 0) {m : List Int} (h : okK dv mg l m) : Fk dv mg l m := by
  have hg := good_of hs
  have hdd : 0 ≤ dv ∧ dv ≤ 2000000 := by unfold excF at hx; split at hx <;> omega
  unfold okK at h
  by_cases h0 : l.length = 0
  · rw [if_pos h0] at h
    subst h
    have e : l = [] := List.length_eq_zero_iff.1 h0
    subst e
    refine ⟨Nat.le_refl _, ?_, fun _ => hg, fun he => ?_⟩
    · unfold fitSp
      rw [if_neg (by omega), if_neg (by decide)]
      rfl
    · exact absurd he (by decide)
  · rw [if_neg h0] at h
    obtain ⟨s, rfl, h⟩ := h
    obtain ⟨k1, k2⟩ := chn_fit (dv := dv) (mg := mg) hs h0 h
    have hl := chn_len s 0 h
    refine ⟨by simp only [List.length_cons]; omega, ?_, fun _ => kep_good hg h0 h, fun he => err_le hg hdd.1 h0 h he⟩
    unfold fitSp
    rw [if_neg (by omega), if_neg (by omega), k2]
theorem cof_okK (hs : serFault l = 0) (hx : excF dv mg = 0) : okK dv mg l (cofSp dv mg l) := by
  have hg := good_of hs
  have hdd : 0 ≤ dv ∧ dv ≤ 2000000 := by unfold excF at hx; split at hx <;> omega
  unfold okK
  by_cases h0 : l.length = 0
  · rw [if_pos h0]
    have e : l = [] := List.length_eq_zero_iff.1 h0
    subst e
    rfl
  · rw [if_neg h0]; exact cof_chn hg hdd h0
theorem min_okK {m : List Int} (h : MinP dv mg l m) : okK dv mg l m := by
  unfold MinP at h
  unfold okK
  by_cases h0 : l.length = 0
  · rw [if_pos h0] at h ⊢; exact h
  · rw [if_neg h0] at h ⊢
    obtain ⟨nf, ff, r, rfl, h1, h2⟩ := h
    exact ⟨r, rfl, (h1.path r 0 (by omega) (by omega) h2).1⟩
theorem min_least {m k : List Int} (h : MinP dv mg l m) (hk : okK dv mg l k) : m.length ≤ k.length := by
  unfold MinP at h
  unfold okK at hk
  by_cases h0 : l.length = 0
  · rw [if_pos h0] at h hk; rw [h, hk]; exact Nat.le_refl _
  · rw [if_neg h0] at h hk
    obtain ⟨nf, ff, r, rfl, h1, h2⟩ := h
    obtain ⟨s, rfl, h3⟩ := hk
    have e1 := (h1.path r 0 (by omega) (by omega) h2).2
    have e2 := h1.least s 0 (by omega) (by omega) h3
    simp only [List.length_cons]; omega
end
def kC (m : List Int) : List Cel := [.sl true 1 (m.map intC)]
theorem kC_eq (m : List Int) : kC m = [.sl true 1 (m.map intC)] := rfl
attribute [go_sem] kC_eq
def cfSt (dv mg : Int) (c : List Smp) (ks : List (List Int)) (i : Int) : AS := ⟨tabV [(4, .one (.bx 4 0)), (5, smps true c), (55, .one (.sl true 1 (ks.map kC))), (56, iv ks.length), (57, iv i)], tabO [(4, [.g (.int .i64 dv), .g (.int .i64 mg)])], tabO []⟩
set_option maxHeartbeats 12000000 in
set_option maxRecDepth 8000 in
theorem cfits_fc (L : List Int) (hL : ∀ x ∈ L, I64 x) (hl : L.length ≤ 9223372036854775807) : FC Try.prog 10 none [ints false L] (fun _ r => r = bv true) := by
  refine fc_cfits (by simp +arith) ?_
  unfold C_cfits
  simp (maxSteps := 1000000) (disch := omega) only [go_sem, eq_self, decide_true, decide_false, not_true_eq_false, not_false_eq_true, reduceIte, reduceCtorEq, Nat.reduceEqDiff, Nat.reduceAdd, Nat.reduceSub, Nat.reduceLeDiff]
  refine callx_gen (p := 0) doorOf_fc hL hl (by omega) (by omega) ⟨_, 0, 0, by simp [I64], by simp [I64], rfl⟩ ?_
  rintro pa r ha1 ha2 ⟨dv, mg, hdv, hmg, rfl⟩
  refine ⟨rfl, ?_⟩
  unfold strm
  simp (maxSteps := 1000000) (disch := omega) only [go_sem, eq_self, decide_true, decide_false, not_true_eq_false, not_false_eq_true, reduceIte, reduceCtorEq, Nat.reduceEqDiff, Nat.reduceAdd, Nat.reduceSub, Nat.reduceLeDiff]
  refine callx_gen (rightCurve_fc 14 (by omega) (by omega)) hL hl (by omega) (by omega) ⟨_, [], rfl, by simp, rfl⟩ ?_
  rintro pb r hb1 hb2 ⟨c, hcs, hcl, rfl⟩
  refine ⟨rfl, ?_⟩
  unfold strm
  simp (maxSteps := 1000000) (disch := omega) only [go_sem, eq_self, decide_true, decide_false, not_true_eq_false, not_false_eq_true, reduceIte, reduceCtorEq, Nat.reduceEqDiff, Nat.reduceAdd, Nat.reduceSub, Nat.reduceLeDiff]
  refine CALL_det (doorFault_fc dv mg) (.inl rfl) ?_
  by_cases h1 : excF dv mg = 0
  · rw [h1]
    have hg := good_of hcs
    have hcm := compress_ok dv mg h1 c hcs
    have hmn := min_ok dv mg h1 c hcs (by omega)
    have hdd : 0 ≤ dv ∧ dv ≤ 2000000 := by unfold excF at h1; split at h1 <;> omega
    have hx := cof_okK (dv := dv) (mg := mg) hcs h1
    have fx := okK_fk hcs h1 hx
    have lx := fx.len
    simp (maxSteps := 1000000) (disch := omega) only [go_sem, eq_self, decide_true, decide_false, not_true_eq_false, not_false_eq_true, reduceIte, reduceCtorEq, Nat.reduceEqDiff, Nat.reduceAdd, Nat.reduceSub, Nat.reduceLeDiff]
    refine CALL_det hcm (.inl rfl) ?_
    simp (maxSteps := 1000000) (disch := omega) only [go_sem, eq_self, decide_true, decide_false, not_true_eq_false, not_false_eq_true, reduceIte, reduceCtorEq, Nat.reduceEqDiff, Nat.reduceAdd, Nat.reduceSub, Nat.reduceLeDiff]
    refine ⟨_, hmn, (min_ex dv mg c).imp' (fun _ => ([] : List Cel)) (fun m hm => ⟨_, m, hm, rfl⟩), ?_⟩
    rintro _ _ ⟨m, hm, rfl⟩
    refine ⟨.inl rfl, ?_⟩
    have fm := okK_fk hcs h1 (min_okK hm)
    have lm := fm.len
    have lmx := min_least hm hx
    simp (maxSteps := 1000000) (disch := omega) only [go_sem, eq_self, decide_true, decide_false, not_true_eq_false, not_false_eq_true, reduceIte, reduceCtorEq, Nat.reduceEqDiff, Nat.reduceAdd, Nat.reduceSub, Nat.reduceLeDiff]
    have hks : ∀ k ∈ [cofSp dv mg c, m], Fk dv mg c k := fun k hk => by
      simp only [List.mem_cons, List.mem_nil_iff, or_false] at hk
      rcases hk with rfl | rfl
      · exact fx
      · exact fm
    refine ex_loop1 (cfSt dv mg c [cofSp dv mg c, m]) (fun i => 0 ≤ i ∧ i ≤ ([cofSp dv mg c, m] : List (List Int)).length) (fun i => (([cofSp dv mg c, m] : List (List Int)).length - i).toNat) 0 ⟨by omega, by simp⟩ rfl ?_
    have hk2 : ([cofSp dv mg c, m] : List (List Int)).length = 2 := rfl
    generalize [cofSp dv mg c, m] = ks at *
    rintro i ⟨g1, g2⟩
    unfold cfSt
    by_cases hi : i < ks.length
    · have F := hks _ (getD_mem ks i.toNat (by omega))
      have hlk := F.len
      have hft := fits_fc dv mg c (by omega) (ks.getD i.toNat default) (by omega)
      rw [F.fit] at hft
      have her := error_fc c (by omega) (ks.getD i.toNat default) (by omega) F.kgd
      have hle := F.err
      generalize errSp c (ks.getD i.toNat default) = y at *
      obtain ⟨⟨yn, yd⟩, ya, ye⟩ := y
      simp only at hle
      simp (maxSteps := 1000000) (disch := omega) only [go_sem, eq_self, decide_true, decide_false, not_true_eq_false, not_false_eq_true, reduceIte, reduceCtorEq, Nat.reduceEqDiff, Nat.reduceAdd, Nat.reduceSub, Nat.reduceLeDiff]
      refine CALL_det hft (.inl rfl) ?_
      simp (maxSteps := 1000000) (disch := omega) only [go_sem, eq_self, decide_true, decide_false, not_true_eq_false, not_false_eq_true, reduceIte, reduceCtorEq, Nat.reduceEqDiff, Nat.reduceAdd, Nat.reduceSub, Nat.reduceLeDiff]
      refine CALL_det her (.inl rfl) ?_
      by_cases c1 : ye = 0
      · obtain ⟨h5, h6, h7⟩ := hle c1
        have h8 := fit_bd hdd ⟨show 0 ≤ yd by omega, h7⟩
        generalize hz : dv * yd = z at *
        simp (maxSteps := 1000000) (disch := omega) only [go_sem, eq_self, decide_true, decide_false, not_true_eq_false, not_false_eq_true, reduceIte, reduceCtorEq, Nat.reduceEqDiff, Nat.reduceAdd, Nat.reduceSub, Nat.reduceLeDiff]
        exact ⟨i + 1, rfl, ⟨by omega, by omega⟩, by omega⟩
      · simp (maxSteps := 1000000) (disch := omega) only [go_sem, eq_self, decide_true, decide_false, not_true_eq_false, not_false_eq_true, reduceIte, reduceCtorEq, Nat.reduceEqDiff, Nat.reduceAdd, Nat.reduceSub, Nat.reduceLeDiff]
        exact ⟨i + 1, rfl, ⟨by omega, by omega⟩, by omega⟩
    · simp (maxSteps := 1000000) (disch := omega) only [go_sem, eq_self, decide_true, decide_false, not_true_eq_false, not_false_eq_true, reduceIte, reduceCtorEq, Nat.reduceEqDiff, Nat.reduceAdd, Nat.reduceSub, Nat.reduceLeDiff]
      refine CALL_det ready_fc (.inl rfl) ?_
      simp (maxSteps := 1000000) (disch := omega) only [go_sem, eq_self, decide_true, decide_false, not_true_eq_false, not_false_eq_true, reduceIte, reduceCtorEq, Nat.reduceEqDiff, Nat.reduceAdd, Nat.reduceSub, Nat.reduceLeDiff]
  · simp (maxSteps := 1000000) (disch := omega) only [go_sem, eq_self, decide_true, decide_false, not_true_eq_false, not_false_eq_true, reduceIte, reduceCtorEq, Nat.reduceEqDiff, Nat.reduceAdd, Nat.reduceSub, Nat.reduceLeDiff]
    refine CALL_det ready_fc (.inl rfl) ?_
    simp (maxSteps := 1000000) (disch := omega) only [go_sem, eq_self, decide_true, decide_false, not_true_eq_false, not_false_eq_true, reduceIte, reduceCtorEq, Nat.reduceEqDiff, Nat.reduceAdd, Nat.reduceSub, Nat.reduceLeDiff]
end Go.Proofs.Ytggbcgldnjmobaa

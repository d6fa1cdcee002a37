/-
 What is wrong with alarms: the program's answer, for any alarms.
-/
import Derived.Test.YtfgkpbkphmeigaaGreatDoorAlx
import Derived.Test.YtfgkpbkphmeigaaGreatDoorTxt
namespace Go.Proofs.YtfgkpbkphmeigaaGreatDoor
open Go Go.Ai
set_option linter.unusedSimpArgs false
set_option linter.unusedVariables false
set_option maxHeartbeats 4000000
theorem parentsG_fc (l : List Alm) (hl : l.length ≤ 200) (hup : AscG Alm.k l) (hpar : ∀ x ∈ l, x.p ≠ emp → 0 ≤ idxA l x.p ∧ idxA l x.p < l.length) (x : Alm) (hx : x ∈ l) : FC Tryz.prog 81 none [alms false l, .ag (almS x)] (fun _ r => r = ints true (parA l (l.length + 1) x)) := by
 refine fc_parents (by simp +arith) ?_
 unfold C_parents
 simp only [almS_eq]
 simp (maxSteps := 1000000) (disch := omega) only [go_sem]
 refine ex_loop2 (fun (y : Alm) (out : List Int) => parSt l y out) (fun y out => y ∈ l ∧ out.length ≤ l.length + 1 ∧ out ++ parA l (l.length + 1 - out.length) y = parA l (l.length + 1) x) (fun _ out => l.length + 1 - out.length) x [] ⟨hx, by simp, by simp⟩ ?_ ?_
 ·unfold parSt
  simp only [almS_eq, List.map_nil, AS.mk.injEq]
  refine ⟨?_, trivial, ?_⟩
  ·funext n
   simp only [upd_apply, tabV_cons, tabV_nil]
   by_cases h5 : n = 5
   ·subst h5; rfl
   ·simp only [h5, if_false]
  ·funext n; rfl
 rintro y out ⟨h1, h2, h3⟩
 unfold parSt
 by_cases c1 : y.p = emp
 ·have e : parA l (l.length + 1 - out.length) y = [] := by
   cases hn : l.length + 1 - out.length with
   | zero => rfl
   | succ n => rw [parA, if_pos c1]
  rw [e, List.append_nil] at h3
  rw [← h3]
  have c1' : ¬¬y.p = emp := fun h => h c1
  simp (maxSteps := 1000000) (disch := (first | omega | assumption)) only [go_sem]
 ·by_cases c2 : out.length ≤ l.length
  ·have hix := hpar y h1 c1
   have hc := find_fc y.p l (by omega) hup
   have ey := getD_map_at almS l (idxA l y.p) [] hix.1 hix.2
   have hpm : parO l y ∈ l := getD_mem l _ (by omega)
   rw [show l.length + 1 - out.length = (l.length + 1 - (out ++ [idxA l y.p]).length) + 1 by simp; omega, parA, if_neg c1] at h3
   have epo : parO l y = l.getD (idxA l y.p).toNat default := rfl
   rw [epo] at h3 hpm
   simp (maxSteps := 1000000) (disch := (first | omega | assumption)) only [go_sem]
   refine CALL_det hc (.inl rfl) ?_
   simp (maxSteps := 1000000) (disch := (first | omega | assumption)) only [go_sem]
   refine ⟨l.getD (idxA l y.p).toNat default, out ++ [idxA l y.p], ?_, ⟨hpm, by simp; omega, ?_⟩, by simp; omega⟩
   ·simp only [almS_eq, List.map_append, List.map_cons, List.map_nil, intC_eq]
   ·rw [List.append_assoc, List.singleton_append]; exact h3
  ·rw [show l.length + 1 - out.length = 0 by omega, parA, List.append_nil] at h3
   rw [← h3]
   simp (maxSteps := 1000000) (disch := (first | omega | assumption)) only [go_sem]
set_option maxHeartbeats 12000000 in
theorem checkAlarmsG_fc (l : List Alm) (hl0 : l.length ≤ 1000000) (hsm : ∀ x ∈ l, x.k.size ≤ 1000000 ∧ x.t.size ≤ 1000000) : FC Tryz.prog 14 none [alms false l] (fun _ r => r = iv (caF l)) := by
 refine fc_checkAlarms (by simp +arith) ?_
 unfold C_checkAlarms caF
 by_cases hl : l.length > 200
 ·rw [if_pos hl]
  simp (maxSteps := 1000000) (disch := (first | omega | assumption)) only [go_sem]
 rw [if_neg hl]
 simp (maxSteps := 1000000) (disch := (first | omega | assumption)) only [go_sem]
 refine ex_loop1 (ca1St l) (fun i => 0 ≤ i ∧ i ≤ l.length ∧ afGo (prvA l i.toNat) (l.drop i.toNat) = afGo none l) (fun i => (l.length - i).toNat) 0 ⟨by omega, by omega, rfl⟩ rfl ?_
 rintro i ⟨g1, g2, g3⟩
 unfold ca1St
 by_cases hi : i < l.length
 ·have e2 : (i + 1).toNat = i.toNat + 1 := by omega
  have em := getD_map_at almS l i [] g1 hi
  have hm := hsm _ (getD_mem l i.toNat (by omega))
  rw [drop_cons l i.toNat (by omega), afGo, ← e2] at g3
  have hc := alarmFault_fc (l.getD i.toNat default).k (l.getD i.toNat default).t (l.getD i.toNat default).p (l.getD i.toNat default).lt (by omega) (by omega) (l.getD i.toNat default).kd (l.getD i.toNat default).lim (l.getD i.toNat default).db (l.getD i.toNat default).on (l.getD i.toNat default).off (l.getD i.toNat default).pr
  rw [show almG (keyOk (l.getD i.toNat default).k && keyOk (l.getD i.toNat default).t) (l.getD i.toNat default).kd (l.getD i.toNat default).lim (l.getD i.toNat default).db (l.getD i.toNat default).on (l.getD i.toNat default).off (l.getD i.toNat default).pr = (l.getD i.toNat default).flt from rfl] at hc
  by_cases c1 : (l.getD i.toNat default).flt ≠ 0
  ·rw [if_pos c1] at g3
   rw [← g3, if_pos c1]
   simp (maxSteps := 1000000) (disch := (first | omega | assumption)) only [go_sem]
   refine CALL_det hc (.inl rfl) ?_
   simp (maxSteps := 1000000) (disch := (first | omega | assumption)) only [go_sem]
  ·rw [if_neg c1] at g3
   by_cases hi0 : 0 < i
   ·have ep := getD_map_at almS l (i - 1) [] (by omega) (by omega)
    have e4 : prvA l i.toNat = some (l.getD (i - 1).toNat default).k := by
     unfold prvA; rw [if_neg (by omega)]
     rw [show i.toNat - 1 = (i - 1).toNat by omega]
    rw [e4] at g3
    have ho := ord_or (a := (l.getD i.toNat default).k) (b := (l.getD (i - 1).toNat default).k)
    by_cases c2 : ltS (l.getD (i - 1).toNat default).k (l.getD i.toNat default).k
    ·rw [if_neg (show ¬(ordBad (some (l.getD (i - 1).toNat default).k) (l.getD i.toNat default).k = true) from fun h => (of_decide_eq_true h) c2)] at g3
     have h5 : ¬(ltS (l.getD i.toNat default).k (l.getD (i - 1).toNat default).k ∨ (l.getD i.toNat default).k = (l.getD (i - 1).toNat default).k) := fun h => (ho.1 h) c2
     have hd := decide_eq_false h5
     simp (maxSteps := 1000000) (disch := (first | omega | assumption)) only [go_sem]
     refine CALL_det hc (.inl rfl) ?_
     simp (maxSteps := 1000000) (disch := (first | omega | assumption)) only [go_sem]
     exact ⟨i + 1, rfl, ⟨by omega, by omega, by rw [e2, prvA_succ, ← e2]; exact g3⟩, by omega⟩
    ·rw [if_pos (show ordBad (some (l.getD (i - 1).toNat default).k) (l.getD i.toNat default).k = true from decide_eq_true c2)] at g3
     have h5 := ho.2 c2
     rw [← g3, if_pos (by omega)]
     simp (maxSteps := 1000000) (disch := (first | omega | assumption)) only [go_sem]
     refine CALL_det hc (.inl rfl) ?_
     simp (maxSteps := 1000000) (disch := (first | omega | assumption)) only [go_sem]
   ·have e0 : i = 0 := by omega
    subst e0
    rw [show prvA l (Int.toNat 0) = none from rfl, if_neg (by simp [ordBad])] at g3
    simp (maxSteps := 1000000) (disch := (first | omega | assumption)) only [go_sem]
    refine CALL_det hc (.inl rfl) ?_
    simp (maxSteps := 1000000) (disch := (first | omega | assumption)) only [go_sem]
    exact ⟨1, rfl, ⟨by omega, by omega, g3⟩, by omega⟩
 ·rw [List.drop_eq_nil_of_le (by omega), afGo] at g3
  rw [if_neg (show ¬(afGo none l ≠ 0) by omega)]
  obtain ⟨hflt, hadj, _⟩ := afGo_ok l none g3.symm
  have hup := asc_of_adj hadj
  simp (maxSteps := 1000000) (disch := (first | omega | assumption)) only [go_sem]
  refine ex_loop1 (ca2St l) (fun i => 0 ≤ i ∧ i ≤ l.length ∧ (l.drop i.toNat).any (noPar l) = l.any (noPar l)) (fun i => (l.length - i).toNat) 0 ⟨by omega, by omega, rfl⟩ rfl ?_
  rintro i ⟨g1, g2, g3⟩
  unfold ca2St
  by_cases hi : i < l.length
  ·have e2 : (i + 1).toNat = i.toNat + 1 := by omega
   have em := getD_map_at almS l i [] g1 hi
   rw [drop_cons l i.toNat (by omega), List.any_cons, ← e2] at g3
   have hc := find_fc (l.getD i.toNat default).p l (by omega) hup
   by_cases c1 : (l.getD i.toNat default).p = emp
   ·rw [show noPar l (l.getD i.toNat default) = false from decide_eq_false (fun h => h.1 c1), Bool.false_or] at g3
    have c1' : ¬¬(l.getD i.toNat default).p = emp := fun h => h c1
    simp (maxSteps := 1000000) (disch := (first | omega | assumption)) only [go_sem]
    exact ⟨i + 1, rfl, ⟨by omega, by omega, g3⟩, by omega⟩
   ·by_cases c2 : idxA l (l.getD i.toNat default).p < 0
    ·rw [show noPar l (l.getD i.toNat default) = true from decide_eq_true ⟨c1, c2⟩, Bool.true_or] at g3
     rw [if_pos g3.symm]
     simp (maxSteps := 1000000) (disch := (first | omega | assumption)) only [go_sem]
     refine CALL_det hc (.inl rfl) ?_
     simp (maxSteps := 1000000) (disch := (first | omega | assumption)) only [go_sem]
    ·rw [show noPar l (l.getD i.toNat default) = false from decide_eq_false (fun h => c2 h.2), Bool.false_or] at g3
     simp (maxSteps := 1000000) (disch := (first | omega | assumption)) only [go_sem]
     refine CALL_det hc (.inl rfl) ?_
     simp (maxSteps := 1000000) (disch := (first | omega | assumption)) only [go_sem]
     exact ⟨i + 1, rfl, ⟨by omega, by omega, g3⟩, by omega⟩
  ·rw [List.drop_eq_nil_of_le (by omega), List.any_nil] at g3
   have hno : ∀ x ∈ l, x.p ≠ emp → 0 ≤ idxA l x.p ∧ idxA l x.p < l.length := fun x hx hp => by
    rcases idxA_rng l x.p with h | h
    ·have : l.any (noPar l) = true := List.any_eq_true.2 ⟨x, hx, decide_eq_true (p := x.p ≠ emp ∧ idxA l x.p < 0) ⟨hp, by omega⟩⟩
     rw [← g3] at this
     cases this
    ·exact h
   rw [if_neg (by rw [← g3]; simp)]
   clear g3
   simp (maxSteps := 1000000) (disch := (first | omega | assumption)) only [go_sem]
   refine ex_loop1 (ca3St l) (fun i => 0 ≤ i ∧ i ≤ l.length ∧ ((l.drop i.toNat).any fun x => decide ((parA l (l.length + 1) x).length > l.length)) = (l.any fun x => decide ((parA l (l.length + 1) x).length > l.length))) (fun i => (l.length - i).toNat) 0 ⟨by omega, by omega, rfl⟩ rfl ?_
   rintro i ⟨g1, g2, g3⟩
   unfold ca3St
   by_cases hi : i < l.length
   ·have e2 : (i + 1).toNat = i.toNat + 1 := by omega
    have em := getD_map_at almS l i [] g1 hi
    have hxm := getD_mem l i.toNat (by omega)
    rw [drop_cons l i.toNat (by omega), List.any_cons, ← e2] at g3
    have hc := parentsG_fc l (by omega) hup hno _ hxm
    have hpl := parA_len l (l.length + 1) (l.getD i.toNat default)
    rw [almS_eq] at hc
    generalize parA l (l.length + 1) (l.getD i.toNat default) = A at hc g3 hpl
    by_cases c3 : A.length > l.length
    ·rw [decide_eq_true c3, Bool.true_or] at g3
     rw [if_pos g3.symm]
     simp (maxSteps := 1000000) (disch := (first | omega | assumption)) only [go_sem]
     refine CALL_det hc (.inl rfl) ?_
     simp (maxSteps := 1000000) (disch := (first | omega | assumption)) only [go_sem]
    ·rw [decide_eq_false c3, Bool.false_or] at g3
     simp (maxSteps := 1000000) (disch := (first | omega | assumption)) only [go_sem]
     refine CALL_det hc (.inl rfl) ?_
     simp (maxSteps := 1000000) (disch := (first | omega | assumption)) only [go_sem]
     exact ⟨i + 1, rfl, ⟨by omega, by omega, g3⟩, by omega⟩
   ·rw [List.drop_eq_nil_of_le (by omega), List.any_nil] at g3
    rw [if_neg (by rw [← g3]; simp)]
    simp (maxSteps := 1000000) (disch := (first | omega | assumption)) only [go_sem]
end Go.Proofs.YtfgkpbkphmeigaaGreatDoor

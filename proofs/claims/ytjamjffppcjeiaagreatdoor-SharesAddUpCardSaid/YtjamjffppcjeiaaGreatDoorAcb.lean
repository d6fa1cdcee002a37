
/-
 When an alarm is active; that the packages do something.
 That the packages do something: ready.
-/
import Derived.Test.YtjamjffppcjeiaaGreatDoorAct
namespace Go.Proofs.YtjamjffppcjeiaaGreatDoor
open Go Go.Ai
set_option linter.unusedSimpArgs false
set_option linter.unusedVariables false
set_option maxHeartbeats 4000000
theorem hld_one {kd lim db : Int} (s : Smp) (h : 0 ≤ db) : ¬((hldSp kd lim db s).1 = true ∧ (hldSp kd lim db s).2 = true) := by
 unfold hldSp
 split
 ·simp only [decide_eq_true_eq]; omega
 ·split
  ·simp only [decide_eq_true_eq]; omega
  ·simp only [decide_eq_true_eq]; omega
theorem actOn_x (on off un nx a : Int) (out : List (Int × Int)) (act : Bool) (t1 t2 : Int) (h1 h2 : Bool) : actOn on off un nx a true false ⟨out, act, t1, t2, h1, h2⟩ = if act = false ∧ max a ((if h1 = false then a else t1) + on) < nx ∧ max a ((if h1 = false then a else t1) + on) < un then ⟨out ++ [(max a ((if h1 = false then a else t1) + on), un)], true, if h1 = false then a else t1, t2, true, false⟩ else ⟨out, act, if h1 = false then a else t1, t2, true, false⟩ := by
 unfold actOn
 simp only [true_and, Bool.false_eq_true, false_and, if_false]
 generalize (if h1 = false then a else t1) = T
 by_cases h : act = false ∧ max a (T + on) < nx ∧ max a (T + on) < un
 ·simp only [if_pos h]
 ·simp only [if_neg h]
theorem actOn_y (on off un nx a : Int) (out : List (Int × Int)) (act : Bool) (t1 t2 : Int) (h1 h2 : Bool) : actOn on off un nx a false true ⟨out, act, t1, t2, h1, h2⟩ = if act = true ∧ max a ((if h2 = false then a else t2) + off) < nx ∧ max a ((if h2 = false then a else t2) + off) < un then ⟨setTo out (max a ((if h2 = false then a else t2) + off)), false, t1, if h2 = false then a else t2, false, true⟩ else ⟨out, act, t1, if h2 = false then a else t2, false, true⟩ := by
 unfold actOn
 simp only [true_and, Bool.false_eq_true, false_and, if_false]
 generalize (if h2 = false then a else t2) = T
 by_cases h : act = true ∧ max a (T + off) < nx ∧ max a (T + off) < un
 ·simp only [if_pos h]
 ·simp only [if_neg h]
theorem actOn_n (on off un nx a : Int) (out : List (Int × Int)) (act : Bool) (t1 t2 : Int) (h1 h2 : Bool) : actOn on off un nx a false false ⟨out, act, t1, t2, h1, h2⟩ = ⟨out, act, t1, t2, false, false⟩ := by
 unfold actOn
 simp only [Bool.false_eq_true, false_and, if_false]
set_option maxHeartbeats 20000000 in
set_option maxRecDepth 4000 in
theorem active_fc (kb tb pb : ByteArray) (lt : Bool) (kd lim db on off pr un : Int) (l : List Smp) (hg : Good l) (hlim : -1000000 ≤ lim ∧ lim ≤ 1000000) (hdb : 0 ≤ db ∧ db ≤ 2000000) (hon : 0 ≤ on ∧ on ≤ 86400000) (hoff : 0 ≤ off ∧ off ≤ 86400000) : FC Tryz.prog 65 none [almK kb tb pb lt kd lim db on off pr, smps false l, iv un] (fun _ r => r = frsV true (actW kd lim db on off un l)) := by
 refine fc_active (by simp +arith) ?_
 have hl := hg.len
 unfold C_active
 simp (maxSteps := 1000000) (disch := omega) only [go_sem]
 refine ex_loop2 (actSt kb tb pb lt kd lim db on off pr un l) (ActI kd lim db on off un l) (fun i _ => (l.length - i).toNat) 0 ⟨[], false, 0, 0, false, false⟩ ⟨by omega, by omega, by simp, by simp, by simp, by simp, rfl⟩ rfl ?_
 rintro i ⟨out, act, t1, t2, h1, h2⟩ hI
 have i1 := hI.a
 have i2 := hI.c
 have i3 := hI.d
 have i4 := hI.e
 have i5 := hI.f
 simp only at i2 i3 i4 i5
 unfold actSt
 by_cases hi : i < l.length
 ·have em := getD_map_at smpC l i [] i1 hi
  have hok := hg.ok i.toNat (by omega)
  have hok' := hok
  unfold okSmp at hok'
  have ex1 := hld_one (kd := kd) (lim := lim) (l.getD i.toNat default) hdb.1
  have hfin := fun y hy => hI.next (y := y) hi (by omega) hy
  by_cases hn : i + 1 < l.length
  ·have enx : nxA l i.toNat = (l.getD (i + 1).toNat default).a := by
    unfold nxA; rw [if_pos (by omega)]; rw [show (i + 1).toNat = i.toNat + 1 by omega]
   have en := getD_map_at smpC l (i + 1) [] (by omega) hn
   rw [enx] at hfin
   simp (maxSteps := 1000000) (disch := omega) only [go_sem]
   refine CALL_det (hold_fc kb tb pb lt kd lim db on off pr _ hok hlim hdb) (.inl rfl) ?_
   generalize hldSp kd lim db (l.getD i.toNat default) = xy at *
   obtain ⟨x, y⟩ := xy
   have hxy : (x = true ∧ y = false) ∨ (x = false ∧ y = true) ∨ (x = false ∧ y = false) := by
    cases x <;> cases y <;> simp_all
   rcases hxy with ⟨rfl, rfl⟩ | ⟨rfl, rfl⟩ | ⟨rfl, rfl⟩
   ·cases h1 with
    | false =>
     have hf := hfin _ rfl
     rw [actOn_x] at hf
     simp only [if_true] at hf
     cases act with
     | false =>
      simp only [true_and] at hf
      by_cases c1 : max (l.getD i.toNat default).a ((l.getD i.toNat default).a + on) < (l.getD (i + 1).toNat default).a
      ·by_cases c2 : max (l.getD i.toNat default).a ((l.getD i.toNat default).a + on) < un
       ·rw [if_pos ⟨c1, c2⟩] at hf
        simp (maxSteps := 1000000) (disch := omega) only [go_sem]
        refine ⟨i + 1, _, ?_, hf, by omega⟩
        simp only [actSt, winRow, List.map_append, List.map_cons, List.map_nil, frC_eq]
       ·rw [if_neg (fun h => c2 h.2)] at hf
        simp (maxSteps := 1000000) (disch := omega) only [go_sem]
        exact ⟨i + 1, _, rfl, hf, by omega⟩
      ·rw [if_neg (fun h => c1 h.1)] at hf
       simp (maxSteps := 1000000) (disch := omega) only [go_sem]
       exact ⟨i + 1, _, rfl, hf, by omega⟩
     | true =>
      simp only [Bool.false_eq_true, Bool.true_eq_false, false_and, if_false] at hf
      simp (maxSteps := 1000000) (disch := omega) only [go_sem]
      exact ⟨i + 1, _, rfl, hf, by omega⟩
    | true =>
     have hf := hfin _ rfl
     rw [actOn_x] at hf
     simp only [Bool.true_eq_false, if_false] at hf
     cases act with
     | false =>
      simp only [true_and] at hf
      by_cases c1 : max (l.getD i.toNat default).a (t1 + on) < (l.getD (i + 1).toNat default).a
      ·by_cases c2 : max (l.getD i.toNat default).a (t1 + on) < un
       ·rw [if_pos ⟨c1, c2⟩] at hf
        simp (maxSteps := 1000000) (disch := omega) only [go_sem]
        refine ⟨i + 1, _, ?_, hf, by omega⟩
        simp only [actSt, winRow, List.map_append, List.map_cons, List.map_nil, frC_eq]
       ·rw [if_neg (fun h => c2 h.2)] at hf
        simp (maxSteps := 1000000) (disch := omega) only [go_sem]
        exact ⟨i + 1, _, rfl, hf, by omega⟩
      ·rw [if_neg (fun h => c1 h.1)] at hf
       simp (maxSteps := 1000000) (disch := omega) only [go_sem]
       exact ⟨i + 1, _, rfl, hf, by omega⟩
     | true =>
      simp only [Bool.false_eq_true, Bool.true_eq_false, false_and, if_false] at hf
      simp (maxSteps := 1000000) (disch := omega) only [go_sem]
      exact ⟨i + 1, _, rfl, hf, by omega⟩
   ·cases h2 with
    | false =>
     have hf := hfin _ rfl
     rw [actOn_y] at hf
     simp only [if_true] at hf
     cases act with
     | false =>
      simp only [Bool.false_eq_true, Bool.true_eq_false, false_and, if_false] at hf
      simp (maxSteps := 1000000) (disch := omega) only [go_sem]
      exact ⟨i + 1, _, rfl, hf, by omega⟩
     | true =>
      have i3 := i3 rfl
      have eo := getE_map_in frC out ((out.length : Int) - 1).toNat (by omega)
      simp only [true_and] at hf
      by_cases c1 : max (l.getD i.toNat default).a ((l.getD i.toNat default).a + off) < (l.getD (i + 1).toNat default).a
      ·by_cases c2 : max (l.getD i.toNat default).a ((l.getD i.toNat default).a + off) < un
       ·rw [if_pos ⟨c1, c2⟩] at hf
        simp (maxSteps := 1000000) (disch := omega) only [go_sem]
        refine ⟨i + 1, _, ?_, hf, by omega⟩
        simp only [actSt, winRow, setTo_map]
       ·rw [if_neg (fun h => c2 h.2)] at hf
        simp (maxSteps := 1000000) (disch := omega) only [go_sem]
        exact ⟨i + 1, _, rfl, hf, by omega⟩
      ·rw [if_neg (fun h => c1 h.1)] at hf
       simp (maxSteps := 1000000) (disch := omega) only [go_sem]
       exact ⟨i + 1, _, rfl, hf, by omega⟩
    | true =>
     have hf := hfin _ rfl
     rw [actOn_y] at hf
     simp only [Bool.true_eq_false, if_false] at hf
     cases act with
     | false =>
      simp only [Bool.false_eq_true, Bool.true_eq_false, false_and, if_false] at hf
      simp (maxSteps := 1000000) (disch := omega) only [go_sem]
      exact ⟨i + 1, _, rfl, hf, by omega⟩
     | true =>
      have i3 := i3 rfl
      have eo := getE_map_in frC out ((out.length : Int) - 1).toNat (by omega)
      simp only [true_and] at hf
      by_cases c1 : max (l.getD i.toNat default).a (t2 + off) < (l.getD (i + 1).toNat default).a
      ·by_cases c2 : max (l.getD i.toNat default).a (t2 + off) < un
       ·rw [if_pos ⟨c1, c2⟩] at hf
        simp (maxSteps := 1000000) (disch := omega) only [go_sem]
        refine ⟨i + 1, _, ?_, hf, by omega⟩
        simp only [actSt, winRow, setTo_map]
       ·rw [if_neg (fun h => c2 h.2)] at hf
        simp (maxSteps := 1000000) (disch := omega) only [go_sem]
        exact ⟨i + 1, _, rfl, hf, by omega⟩
      ·rw [if_neg (fun h => c1 h.1)] at hf
       simp (maxSteps := 1000000) (disch := omega) only [go_sem]
       exact ⟨i + 1, _, rfl, hf, by omega⟩
   ·have hf := hfin _ rfl
    rw [actOn_n] at hf
    simp (maxSteps := 1000000) (disch := omega) only [go_sem]
    exact ⟨i + 1, _, rfl, hf, by omega⟩
  ·have enx : nxA l i.toNat = 345686400000 := by unfold nxA; rw [if_neg (by omega)]
   rw [enx] at hfin
   simp (maxSteps := 1000000) (disch := omega) only [go_sem]
   refine CALL_det (hold_fc kb tb pb lt kd lim db on off pr _ hok hlim hdb) (.inl rfl) ?_
   generalize hldSp kd lim db (l.getD i.toNat default) = xy at *
   obtain ⟨x, y⟩ := xy
   have hxy : (x = true ∧ y = false) ∨ (x = false ∧ y = true) ∨ (x = false ∧ y = false) := by
    cases x <;> cases y <;> simp_all
   rcases hxy with ⟨rfl, rfl⟩ | ⟨rfl, rfl⟩ | ⟨rfl, rfl⟩
   ·cases h1 with
    | false =>
     have hf := hfin _ rfl
     rw [actOn_x] at hf
     simp only [if_true] at hf
     cases act with
     | false =>
      simp only [true_and] at hf
      by_cases c1 : max (l.getD i.toNat default).a ((l.getD i.toNat default).a + on) < 345686400000
      ·by_cases c2 : max (l.getD i.toNat default).a ((l.getD i.toNat default).a + on) < un
       ·rw [if_pos ⟨c1, c2⟩] at hf
        simp (maxSteps := 1000000) (disch := omega) only [go_sem]
        refine ⟨i + 1, _, ?_, hf, by omega⟩
        simp only [actSt, winRow, List.map_append, List.map_cons, List.map_nil, frC_eq]
       ·rw [if_neg (fun h => c2 h.2)] at hf
        simp (maxSteps := 1000000) (disch := omega) only [go_sem]
        exact ⟨i + 1, _, rfl, hf, by omega⟩
      ·rw [if_neg (fun h => c1 h.1)] at hf
       simp (maxSteps := 1000000) (disch := omega) only [go_sem]
       exact ⟨i + 1, _, rfl, hf, by omega⟩
     | true =>
      simp only [Bool.false_eq_true, Bool.true_eq_false, false_and, if_false] at hf
      simp (maxSteps := 1000000) (disch := omega) only [go_sem]
      exact ⟨i + 1, _, rfl, hf, by omega⟩
    | true =>
     have hf := hfin _ rfl
     rw [actOn_x] at hf
     simp only [Bool.true_eq_false, if_false] at hf
     cases act with
     | false =>
      simp only [true_and] at hf
      by_cases c1 : max (l.getD i.toNat default).a (t1 + on) < 345686400000
      ·by_cases c2 : max (l.getD i.toNat default).a (t1 + on) < un
       ·rw [if_pos ⟨c1, c2⟩] at hf
        simp (maxSteps := 1000000) (disch := omega) only [go_sem]
        refine ⟨i + 1, _, ?_, hf, by omega⟩
        simp only [actSt, winRow, List.map_append, List.map_cons, List.map_nil, frC_eq]
       ·rw [if_neg (fun h => c2 h.2)] at hf
        simp (maxSteps := 1000000) (disch := omega) only [go_sem]
        exact ⟨i + 1, _, rfl, hf, by omega⟩
      ·rw [if_neg (fun h => c1 h.1)] at hf
       simp (maxSteps := 1000000) (disch := omega) only [go_sem]
       exact ⟨i + 1, _, rfl, hf, by omega⟩
     | true =>
      simp only [Bool.false_eq_true, Bool.true_eq_false, false_and, if_false] at hf
      simp (maxSteps := 1000000) (disch := omega) only [go_sem]
      exact ⟨i + 1, _, rfl, hf, by omega⟩
   ·cases h2 with
    | false =>
     have hf := hfin _ rfl
     rw [actOn_y] at hf
     simp only [if_true] at hf
     cases act with
     | false =>
      simp only [Bool.false_eq_true, Bool.true_eq_false, false_and, if_false] at hf
      simp (maxSteps := 1000000) (disch := omega) only [go_sem]
      exact ⟨i + 1, _, rfl, hf, by omega⟩
     | true =>
      have i3 := i3 rfl
      have eo := getE_map_in frC out ((out.length : Int) - 1).toNat (by omega)
      simp only [true_and] at hf
      by_cases c1 : max (l.getD i.toNat default).a ((l.getD i.toNat default).a + off) < 345686400000
      ·by_cases c2 : max (l.getD i.toNat default).a ((l.getD i.toNat default).a + off) < un
       ·rw [if_pos ⟨c1, c2⟩] at hf
        simp (maxSteps := 1000000) (disch := omega) only [go_sem]
        refine ⟨i + 1, _, ?_, hf, by omega⟩
        simp only [actSt, winRow, setTo_map]
       ·rw [if_neg (fun h => c2 h.2)] at hf
        simp (maxSteps := 1000000) (disch := omega) only [go_sem]
        exact ⟨i + 1, _, rfl, hf, by omega⟩
      ·rw [if_neg (fun h => c1 h.1)] at hf
       simp (maxSteps := 1000000) (disch := omega) only [go_sem]
       exact ⟨i + 1, _, rfl, hf, by omega⟩
    | true =>
     have hf := hfin _ rfl
     rw [actOn_y] at hf
     simp only [Bool.true_eq_false, if_false] at hf
     cases act with
     | false =>
      simp only [Bool.false_eq_true, Bool.true_eq_false, false_and, if_false] at hf
      simp (maxSteps := 1000000) (disch := omega) only [go_sem]
      exact ⟨i + 1, _, rfl, hf, by omega⟩
     | true =>
      have i3 := i3 rfl
      have eo := getE_map_in frC out ((out.length : Int) - 1).toNat (by omega)
      simp only [true_and] at hf
      by_cases c1 : max (l.getD i.toNat default).a (t2 + off) < 345686400000
      ·by_cases c2 : max (l.getD i.toNat default).a (t2 + off) < un
       ·rw [if_pos ⟨c1, c2⟩] at hf
        simp (maxSteps := 1000000) (disch := omega) only [go_sem]
        refine ⟨i + 1, _, ?_, hf, by omega⟩
        simp only [actSt, winRow, setTo_map]
       ·rw [if_neg (fun h => c2 h.2)] at hf
        simp (maxSteps := 1000000) (disch := omega) only [go_sem]
        exact ⟨i + 1, _, rfl, hf, by omega⟩
      ·rw [if_neg (fun h => c1 h.1)] at hf
       simp (maxSteps := 1000000) (disch := omega) only [go_sem]
       exact ⟨i + 1, _, rfl, hf, by omega⟩
   ·have hf := hfin _ rfl
    rw [actOn_n] at hf
    simp (maxSteps := 1000000) (disch := omega) only [go_sem]
    exact ⟨i + 1, _, rfl, hf, by omega⟩
 ·have i6 := hI.g
  rw [List.drop_eq_nil_of_le (by omega), actGo] at i6
  simp (maxSteps := 1000000) (disch := omega) only [go_sem]
  unfold actW
  rw [← i6]
def actSp (kk : Bool) (kd lim db on off pr : Int) (l : List Smp) (un : Int) : List (Int × Int) × Int := if unF kk kd lim db on off pr l un ≠ 0 then ([], unF kk kd lim db on off pr l un) else (actW kd lim db on off un l, 0)
theorem almG_ok {kk : Bool} {kd lim db on off pr : Int} (h : almG kk kd lim db on off pr = 0) : kk = true ∧ almF kd lim db on off pr = 0 := by
 unfold almG at h
 split at h
 ·omega
 ·rename_i h2; exact ⟨by simpa using h2, h⟩
theorem unF_ok {kk : Bool} {kd lim db on off pr : Int} {l : List Smp} {un : Int} (h : unF kk kd lim db on off pr l un = 0) : almG kk kd lim db on off pr = 0 ∧ serFault l = 0 ∧ 0 ≤ un ∧ un ≤ 345686400000 := by
 unfold unF at h
 split at h
 ·omega
 ·rename_i h2
  obtain ⟨h3, h4⟩ := or2_z' h
  exact ⟨h3, h4, by omega⟩
theorem almF_ok {kd lim db on off pr : Int} (h : almF kd lim db on off pr = 0) : (1 ≤ kd ∧ kd ≤ 3) ∧ (-1000000 ≤ lim ∧ lim ≤ 1000000) ∧ (0 ≤ db ∧ db ≤ 2000000) ∧ (0 ≤ on ∧ on ≤ 86400000) ∧ (0 ≤ off ∧ off ≤ 86400000) ∧ (1 ≤ pr ∧ pr ≤ 1000) := by
 unfold almF at h
 split at h
 ·omega
 ·split at h <;> omega
theorem activeP_fc (kb tb pb : ByteArray) (lt : Bool) (hkb : kb.size ≤ 9223372036854775807) (htb : tb.size ≤ 9223372036854775807) (kd lim db on off pr un : Int) (l : List Smp) (hl : l.length ≤ 4611686018427387904) : FC Tryz.prog 37 none [almK kb tb pb lt kd lim db on off pr, smps false l, iv un] (fun _ r => r = .tu [frsV true (actSp (keyOk kb && keyOk tb) kd lim db on off pr l un).1, iv (actSp (keyOk kb && keyOk tb) kd lim db on off pr l un).2]) := by
 refine fc_activeP (by simp +arith) ?_
 have hcu := untilFault_fc kb tb pb lt hkb htb kd lim db on off pr l hl un
 generalize (keyOk kb && keyOk tb) = kk at *
 unfold C_activeP
 simp (maxSteps := 1000000) (disch := omega) only [go_sem]
 refine CALL_det hcu (.inl rfl) ?_
 unfold actSp
 by_cases h1 : unF kk kd lim db on off pr l un = 0
 ·rw [if_neg (show ¬(unF kk kd lim db on off pr l un ≠ 0) by omega), h1]
  obtain ⟨h2, h3, h4⟩ := unF_ok h1
  obtain ⟨_, h2⟩ := almG_ok h2
  obtain ⟨k1, k2, k3, k4, k5, k6⟩ := almF_ok h2
  simp (maxSteps := 1000000) (disch := omega) only [go_sem]
  refine CALL_det (active_fc kb tb pb lt kd lim db on off pr un l (good_of h3) k2 k3 k4 k5) (.inl rfl) ?_
  simp (maxSteps := 1000000) (disch := omega) only [go_sem]
 ·rw [if_pos (show unF kk kd lim db on off pr l un ≠ 0 by omega)]
  simp (maxSteps := 1000000) (disch := omega) only [go_sem]
  rfl
end Go.Proofs.YtjamjffppcjeiaaGreatDoor
namespace Go.Proofs.YtjamjffppcjeiaaGreatDoor
open Go Go.Ai
set_option linter.unusedSimpArgs false
set_option linter.unusedVariables false
set_option maxHeartbeats 4000000
def C_ready : AC := (.seq (.reg false [gI 0 (.mv (.v (.bool false)))] (kP [] [] []))
 (.seq (.reg false [gI 9 (.build [(.int .i64 (0)),(.int .i64 (0)),(.int .i64 (0))] [(0,1,(oI 0)),(1,1,(oI 0))]),gI 10 (.build [(.int .i64 (0)),(.int .i64 (0)),(.int .i64 (0))] [(0,1,(oI 4)),(1,1,(oI 2))]),gI 11 (.bslice 3 2 [(.t 9),(.t 10)]),gI 12 (.call (.f 36) [(.t 11),(oI 1)]),gM 8 12,gI 13 (.extr (.t 8) 0),gI 14 (.extr (.t 8) 1),gI 15 (.extr (.t 8) 2),gI 1 (.alloc [(.int .i64 (0)),(.int .i64 (0))]),gN (.store 2 (.t 1) (.t 13)),gM 2 14,gM 3 15] (kP [1,2,3] [1] []))
 (.seq (.reg false [gI 17 (.build [(.string (ByteArray.mk #[])),(.string (ByteArray.mk #[])),(.int .i64 (0)),(.int .i64 (0)),(.int .i64 (0)),(.int .i64 (0)),(.int .i64 (0)),(.int .i64 (0)),(.bool false),(.string (ByteArray.mk #[]))] [(0,1,(.v (.string (ByteArray.mk #[97])))),(1,1,(.v (.string (ByteArray.mk #[116])))),(2,1,(oI 1)),(3,1,(oI 5)),(7,1,(oI 1))]),gI 18 (.build [(.int .i64 (0)),(.int .i64 (0)),(.int .i64 (0))] [(0,1,(oI 3)),(1,1,(oI 6))]),gI 19 (.bslice 3 1 [(.t 18)]),gI 20 (.call (.f 37) [(.t 17),(.t 19),(oI 9)]),gM 16 20,gI 21 (.extr (.t 16) 0),gI 22 (.extr (.t 16) 1),gM 4 21,gM 5 22] (kP [1,2,3,4,5] [1] []))
 (.seq (.reg false [gI 24 (.build [(.int .i64 (0)),(.int .i64 (0)),(.int .i64 (0)),(.int .i64 (0))] [(0,1,(oI 5)),(1,1,(oI 5))]),gI 25 (.build [(.int .i64 (0)),(.int .i64 (0)),(.int .i64 (0))] [(0,1,(oI 3)),(1,1,(oI 6))]),gI 26 (.bslice 3 1 [(.t 25)]),gI 27 (.call (.f 38) [(.t 24),(.t 26),(oI 9)]),gM 23 27,gI 28 (.extr (.t 23) 0),gI 29 (.extr (.t 23) 1),gM 6 28,gM 7 29] (kP [1,2,3,4,5,6,7] [1] []))
 (.seq (.reg false [gM 30 3,gI 31 (.bin .eql (.t 30) (oI 0)),gM 32 31,gG 33 32 true (.mv (.t 2)),gI 34 (.pick (.t 32) (.t 33) (.v (.bool false))),gM 35 34,gG 36 35 true (.load true 2 (.t 1)),gG 37 35 true (.build [(.int .i64 (0)),(.int .i64 (0))] [(0,1,(oI 1)),(1,1,(oI 2))]),gG 38 35 true (.eqs false true [.i .i64,.i .i64] (.t 36) (.t 37)),gI 39 (.pick (.t 35) (.t 38) (.v (.bool false))),gM 40 39,gG 41 40 true (.mv (.t 5)),gG 42 40 true (.bin .eql (.t 41) (oI 0)),gI 43 (.pick (.t 40) (.t 42) (.v (.bool false))),gM 44 43,gG 45 44 true (.mv (.t 4)),gG 46 44 true (.len (.t 45)),gG 47 44 true (.bin .eql (.t 46) (oI 1)),gI 48 (.pick (.t 44) (.t 47) (.v (.bool false))),gM 49 48,gG 50 49 true (.mv (.t 7)),gG 51 49 true (.bin .eql (.t 50) (oI 0)),gI 52 (.pick (.t 49) (.t 51) (.v (.bool false))),gM 53 52,gG 54 53 true (.mv (.t 6)),gG 55 53 true (.len (.t 54)),gG 56 53 true (.bin .eql (.t 55) (oI 1)),gI 57 (.pick (.t 53) (.t 56) (.v (.bool false))),gM 0 57] (kP [0] [] []))
 .ret)))))
theorem fc_ready : FcT Tryz.prog 12 Tryz.f12 C_ready [.t 0] := fc_mk [aN [] [] [],aN [1,2,3] [1] [],aN [1,2,3,4,5] [1] [],aN [1,2,3,4,5,6,7] [1] [],aN [0] [] []] Tryz.func12 (by kernel_rfl)
theorem ready_fc : FC Tryz.prog 12 none [] (fun _ r => r = bv true) := by
 refine fc_ready (by simp +arith) ?_
 unfold C_ready
 simp (maxSteps := 1000000) (disch := omega) only [go_sem]
 refine CALL_det (reconstruct_fc [⟨0, 0, 0⟩, ⟨4, 2, 0⟩] (by simp) 1) (.inl rfl) ?_
 have e : recoSp [⟨0, 0, 0⟩, ⟨4, 2, 0⟩] 1 = ((1, 2), true, 0) := by kernel_rfl
 rw [e]
 simp (maxSteps := 1000000) (disch := omega) only [go_sem]
 refine CALL_det (activeP_fc (ByteArray.mk #[97]) (ByteArray.mk #[116]) (ByteArray.mk #[]) false (of_decide_eq_true (by kernel_rfl)) (of_decide_eq_true (by kernel_rfl)) 1 5 0 0 0 1 9 [⟨3, 6, 0⟩] (by simp)) (.inl rfl) ?_
 have e2 : actSp (keyOk (ByteArray.mk #[97]) && keyOk (ByteArray.mk #[116])) 1 5 0 0 0 1 [⟨3, 6, 0⟩] 9 = ([(3, 9)], 0) := by kernel_rfl
 rw [e2]
 simp (maxSteps := 1000000) (disch := omega) only [go_sem]
 refine CALL_det (frames_fc [⟨3, 6, 0⟩] (by simp) 5 5 0 0 9) (.inl rfl) ?_
 have e3 : frmSp [⟨3, 6, 0⟩] 5 5 0 0 9 = ([(3, 9)], 0) := by kernel_rfl
 rw [e3]
 simp (maxSteps := 1000000) (disch := omega) only [go_sem]
 rfl
end Go.Proofs.YtjamjffppcjeiaaGreatDoor

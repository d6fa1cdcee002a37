/- When an alarm is active; that the packages do something. That the packages do something: ready. -/
import Derived.Test.YtbhgndiboeppeaaGreatDoorEvs
set_option linter.all false
set_option maxHeartbeats 4000000
set_option maxRecDepth 100000
namespace Go.Proofs.YtbhgndiboeppeaaGreatDoor
open Go Go.Ai
set_option maxHeartbeats 20000000 in
set_option maxRecDepth 4000 in
theorem b0T (kb tb pb : ByteArray) (lt : Bool) (kd lim db on off pr un : Int) (l : List Smp) (hg : Good l) (hlim : -1000000 ≤ lim ∧ lim ≤ 1000000) (hdb : 0 ≤ db ∧ db ≤ 2000000) (hon : 0 ≤ on ∧ on ≤ 86400000) (hoff : 0 ≤ off ∧ off ≤ 86400000) : FC Tryz.prog 84 none [b5z kb tb pb lt kd lim db on off pr, a0Z false l, iv un] (fun _ r => r = b0q true (a9P kd lim db on off un l)) := by
 refine fcE Tryz.func84 a1z ?_
 have hl := hg.len
 refine qv ?_
 refine n8 (a2n kb tb pb lt kd lim db on off pr un l) (ActI kd lim db on off un l) (fun i _ => (l.length - i).toNat) 0 ⟨[], false, 0, 0, false, false⟩ ⟨by omega, by omega, by simp, by simp, by simp, by simp, rfl⟩ rfl ?_
 rintro i ⟨out, act, t1, t2, h1, h2⟩ hI
 have i1 := hI.a
 have i2 := hI.c
 have i3 := hI.d
 have i4 := hI.e
 have i5 := hI.f
 simp only at i2 i3 i4 i5
 unfold a2n
 by_cases hi : i < l.length
 ·have em := e8 a4l l i [] i1 hi
  have hok := hg.ok i.toNat (by omega)
  have hok' := hok
  unfold U0 at hok'
  have ex1 := a5G (kd := kd) (lim := lim) (l.getD i.toNat default) hdb.1
  have hfin := fun y hy => hI.next (y := y) hi (by omega) hy
  by_cases hn : i + 1 < l.length
  ·have enx : nxA l i.toNat = (l.getD (i + 1).toNat default).a := by
    unfold nxA; rw [if_pos (by omega)]; rw [show (i + 1).toNat = i.toNat + 1 by omega]
   have en := e8 a4l l (i + 1) [] (by omega) hn
   rw [enx] at hfin
   refine qc (a5I kb tb pb lt kd lim db on off pr _ hok hlim hdb) ?_
   generalize s6 kd lim db (l.getD i.toNat default) = xy at *
   obtain ⟨x, y⟩ := xy
   have hxy : (x = true ∧ y = false) ∨ (x = false ∧ y = true) ∨ (x = false ∧ y = false) := by
    cases x <;> cases y <;> simp_all
   rcases hxy with ⟨rfl, rfl⟩ | ⟨rfl, rfl⟩ | ⟨rfl, rfl⟩
   ·cases h1 with
    | false =>
     have hf := hfin _ rfl
     rw [W1] at hf
     simp only [if_true] at hf
     cases act with
     | false =>
      simp only [true_and] at hf
      by_cases c1 : max (l.getD i.toNat default).a ((l.getD i.toNat default).a + on) < (l.getD (i + 1).toNat default).a
      ·by_cases c2 : max (l.getD i.toNat default).a ((l.getD i.toNat default).a + on) < un
       ·rw [if_pos ⟨c1, c2⟩] at hf
        refine qv ?_
        refine ⟨i + 1, _, ?_, hf, by omega⟩
        simp only [a2n, P4, List.map_append, List.map_cons, List.map_nil, a1x]
       ·rw [if_neg (fun h => c2 h.2)] at hf
        refine qv ?_
        exact ⟨i + 1, _, rfl, hf, by omega⟩
      ·rw [if_neg (fun h => c1 h.1)] at hf
       refine qv ?_
       exact ⟨i + 1, _, rfl, hf, by omega⟩
     | true =>
      simp only [Bool.false_eq_true, Bool.true_eq_false, false_and, if_false] at hf
      refine qv ?_
      exact ⟨i + 1, _, rfl, hf, by omega⟩
    | true =>
     have hf := hfin _ rfl
     rw [W1] at hf
     simp only [Bool.true_eq_false, if_false] at hf
     cases act with
     | false =>
      simp only [true_and] at hf
      by_cases c1 : max (l.getD i.toNat default).a (t1 + on) < (l.getD (i + 1).toNat default).a
      ·by_cases c2 : max (l.getD i.toNat default).a (t1 + on) < un
       ·rw [if_pos ⟨c1, c2⟩] at hf
        refine qv ?_
        refine ⟨i + 1, _, ?_, hf, by omega⟩
        simp only [a2n, P4, List.map_append, List.map_cons, List.map_nil, a1x]
       ·rw [if_neg (fun h => c2 h.2)] at hf
        refine qv ?_
        exact ⟨i + 1, _, rfl, hf, by omega⟩
      ·rw [if_neg (fun h => c1 h.1)] at hf
       refine qv ?_
       exact ⟨i + 1, _, rfl, hf, by omega⟩
     | true =>
      simp only [Bool.false_eq_true, Bool.true_eq_false, false_and, if_false] at hf
      refine qv ?_
      exact ⟨i + 1, _, rfl, hf, by omega⟩
   ·cases h2 with
    | false =>
     have hf := hfin _ rfl
     rw [V5] at hf
     simp only [if_true] at hf
     cases act with
     | false =>
      simp only [Bool.false_eq_true, Bool.true_eq_false, false_and, if_false] at hf
      refine qv ?_
      exact ⟨i + 1, _, rfl, hf, by omega⟩
     | true =>
      have i3 := i3 rfl
      have eo := l0 frC out ((out.length : Int) - 1).toNat (by omega)
      simp only [true_and] at hf
      by_cases c1 : max (l.getD i.toNat default).a ((l.getD i.toNat default).a + off) < (l.getD (i + 1).toNat default).a
      ·by_cases c2 : max (l.getD i.toNat default).a ((l.getD i.toNat default).a + off) < un
       ·rw [if_pos ⟨c1, c2⟩] at hf
        refine qv ?_
        refine ⟨i + 1, _, ?_, hf, by omega⟩
        simp only [a2n, P4, S1]
       ·rw [if_neg (fun h => c2 h.2)] at hf
        refine qv ?_
        exact ⟨i + 1, _, rfl, hf, by omega⟩
      ·rw [if_neg (fun h => c1 h.1)] at hf
       refine qv ?_
       exact ⟨i + 1, _, rfl, hf, by omega⟩
    | true =>
     have hf := hfin _ rfl
     rw [V5] at hf
     simp only [Bool.true_eq_false, if_false] at hf
     cases act with
     | false =>
      simp only [Bool.false_eq_true, Bool.true_eq_false, false_and, if_false] at hf
      refine qv ?_
      exact ⟨i + 1, _, rfl, hf, by omega⟩
     | true =>
      have i3 := i3 rfl
      have eo := l0 frC out ((out.length : Int) - 1).toNat (by omega)
      simp only [true_and] at hf
      by_cases c1 : max (l.getD i.toNat default).a (t2 + off) < (l.getD (i + 1).toNat default).a
      ·by_cases c2 : max (l.getD i.toNat default).a (t2 + off) < un
       ·rw [if_pos ⟨c1, c2⟩] at hf
        refine qv ?_
        refine ⟨i + 1, _, ?_, hf, by omega⟩
        simp only [a2n, P4, S1]
       ·rw [if_neg (fun h => c2 h.2)] at hf
        refine qv ?_
        exact ⟨i + 1, _, rfl, hf, by omega⟩
      ·rw [if_neg (fun h => c1 h.1)] at hf
       refine qv ?_
       exact ⟨i + 1, _, rfl, hf, by omega⟩
   ·have hf := hfin _ rfl
    rw [a1T] at hf
    refine qv ?_
    exact ⟨i + 1, _, rfl, hf, by omega⟩
  ·have enx : nxA l i.toNat = 345686400000 := by unfold nxA; rw [if_neg (by omega)]
   rw [enx] at hfin
   refine qc (a5I kb tb pb lt kd lim db on off pr _ hok hlim hdb) ?_
   generalize s6 kd lim db (l.getD i.toNat default) = xy at *
   obtain ⟨x, y⟩ := xy
   have hxy : (x = true ∧ y = false) ∨ (x = false ∧ y = true) ∨ (x = false ∧ y = false) := by
    cases x <;> cases y <;> simp_all
   rcases hxy with ⟨rfl, rfl⟩ | ⟨rfl, rfl⟩ | ⟨rfl, rfl⟩
   ·cases h1 with
    | false =>
     have hf := hfin _ rfl
     rw [W1] at hf
     simp only [if_true] at hf
     cases act with
     | false =>
      simp only [true_and] at hf
      by_cases c1 : max (l.getD i.toNat default).a ((l.getD i.toNat default).a + on) < 345686400000
      ·by_cases c2 : max (l.getD i.toNat default).a ((l.getD i.toNat default).a + on) < un
       ·rw [if_pos ⟨c1, c2⟩] at hf
        refine qv ?_
        refine ⟨i + 1, _, ?_, hf, by omega⟩
        simp only [a2n, P4, List.map_append, List.map_cons, List.map_nil, a1x]
       ·rw [if_neg (fun h => c2 h.2)] at hf
        refine qv ?_
        exact ⟨i + 1, _, rfl, hf, by omega⟩
      ·rw [if_neg (fun h => c1 h.1)] at hf
       refine qv ?_
       exact ⟨i + 1, _, rfl, hf, by omega⟩
     | true =>
      simp only [Bool.false_eq_true, Bool.true_eq_false, false_and, if_false] at hf
      refine qv ?_
      exact ⟨i + 1, _, rfl, hf, by omega⟩
    | true =>
     have hf := hfin _ rfl
     rw [W1] at hf
     simp only [Bool.true_eq_false, if_false] at hf
     cases act with
     | false =>
      simp only [true_and] at hf
      by_cases c1 : max (l.getD i.toNat default).a (t1 + on) < 345686400000
      ·by_cases c2 : max (l.getD i.toNat default).a (t1 + on) < un
       ·rw [if_pos ⟨c1, c2⟩] at hf
        refine qv ?_
        refine ⟨i + 1, _, ?_, hf, by omega⟩
        simp only [a2n, P4, List.map_append, List.map_cons, List.map_nil, a1x]
       ·rw [if_neg (fun h => c2 h.2)] at hf
        refine qv ?_
        exact ⟨i + 1, _, rfl, hf, by omega⟩
      ·rw [if_neg (fun h => c1 h.1)] at hf
       refine qv ?_
       exact ⟨i + 1, _, rfl, hf, by omega⟩
     | true =>
      simp only [Bool.false_eq_true, Bool.true_eq_false, false_and, if_false] at hf
      refine qv ?_
      exact ⟨i + 1, _, rfl, hf, by omega⟩
   ·cases h2 with
    | false =>
     have hf := hfin _ rfl
     rw [V5] at hf
     simp only [if_true] at hf
     cases act with
     | false =>
      simp only [Bool.false_eq_true, Bool.true_eq_false, false_and, if_false] at hf
      refine qv ?_
      exact ⟨i + 1, _, rfl, hf, by omega⟩
     | true =>
      have i3 := i3 rfl
      have eo := l0 frC out ((out.length : Int) - 1).toNat (by omega)
      simp only [true_and] at hf
      by_cases c1 : max (l.getD i.toNat default).a ((l.getD i.toNat default).a + off) < 345686400000
      ·by_cases c2 : max (l.getD i.toNat default).a ((l.getD i.toNat default).a + off) < un
       ·rw [if_pos ⟨c1, c2⟩] at hf
        refine qv ?_
        refine ⟨i + 1, _, ?_, hf, by omega⟩
        simp only [a2n, P4, S1]
       ·rw [if_neg (fun h => c2 h.2)] at hf
        refine qv ?_
        exact ⟨i + 1, _, rfl, hf, by omega⟩
      ·rw [if_neg (fun h => c1 h.1)] at hf
       refine qv ?_
       exact ⟨i + 1, _, rfl, hf, by omega⟩
    | true =>
     have hf := hfin _ rfl
     rw [V5] at hf
     simp only [Bool.true_eq_false, if_false] at hf
     cases act with
     | false =>
      simp only [Bool.false_eq_true, Bool.true_eq_false, false_and, if_false] at hf
      refine qv ?_
      exact ⟨i + 1, _, rfl, hf, by omega⟩
     | true =>
      have i3 := i3 rfl
      have eo := l0 frC out ((out.length : Int) - 1).toNat (by omega)
      simp only [true_and] at hf
      by_cases c1 : max (l.getD i.toNat default).a (t2 + off) < 345686400000
      ·by_cases c2 : max (l.getD i.toNat default).a (t2 + off) < un
       ·rw [if_pos ⟨c1, c2⟩] at hf
        refine qv ?_
        refine ⟨i + 1, _, ?_, hf, by omega⟩
        simp only [a2n, P4, S1]
       ·rw [if_neg (fun h => c2 h.2)] at hf
        refine qv ?_
        exact ⟨i + 1, _, rfl, hf, by omega⟩
      ·rw [if_neg (fun h => c1 h.1)] at hf
       refine qv ?_
       exact ⟨i + 1, _, rfl, hf, by omega⟩
   ·have hf := hfin _ rfl
    rw [a1T] at hf
    refine qv ?_
    exact ⟨i + 1, _, rfl, hf, by omega⟩
 ·have i6 := hI.g
  rw [List.drop_eq_nil_of_le (by omega), M0] at i6
  refine qv ?_
  unfold a9P
  rw [← i6]
theorem a5M {kk : Bool} {kd lim db on off pr : Int} (h : a3p kk kd lim db on off pr = 0) : kk = true ∧ a2c kd lim db on off pr = 0 := by
 unfold a3p at h
 split at h
 ·omega
 ·rename_i h2; exact ⟨by simpa using h2, h⟩
theorem a5N {kd lim db on off pr : Int} (h : a2c kd lim db on off pr = 0) : (1 ≤ kd ∧ kd ≤ 3) ∧ (-1000000 ≤ lim ∧ lim ≤ 1000000) ∧ (0 ≤ db ∧ db ≤ 2000000) ∧ (0 ≤ on ∧ on ≤ 86400000) ∧ (0 ≤ off ∧ off ≤ 86400000) ∧ (1 ≤ pr ∧ pr ≤ 1000) := by
 unfold a2c at h
 split at h
 ·omega
 ·split at h <;> omega
end Go.Proofs.YtbhgndiboeppeaaGreatDoor

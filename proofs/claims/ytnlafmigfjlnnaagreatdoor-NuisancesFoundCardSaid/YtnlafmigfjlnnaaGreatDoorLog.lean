/- The log of alarms. -/
import Derived.Test.YtnlafmigfjlnnaaGreatDoorSew
import Derived.Test.YtnlafmigfjlnnaaGreatDoorWtd
set_option linter.all false
set_option maxHeartbeats 0
set_option maxRecDepth 100000
namespace Go.Proofs.YtnlafmigfjlnnaaGreatDoor
open Go Go.Ai
theorem a5L (kb tb pb : ByteArray) (lt : Bool) (kd lim db on off pr un : Int) (l : List Smp) (hg : Good l) (hlim : -1000000 <= lim ∧ lim <= 1000000) (hdb : 0 <= db ∧ db <= 2000000) (hon : 0 <= on ∧ on <= 86400000) (hoff : 0 <= off ∧ off <= 86400000) : FC Tryz.prog 51 none [b6K kb tb pb lt kd lim db on off pr, Z4 false l, iv un] (fun _ r => r = a0C true (b0z kd lim db on off un l)) := by
 refine fcE Tryz.func51 a1G ?_
 have hl := hg.len
 refine qv ?_
 refine j7 (a2m kb tb pb lt kd lim db on off pr un l) (ActI kd lim db on off un l) (fun i _ => (l.length - i).toNat) 0 ⟨[], false, 0, 0, false, false⟩ ⟨by omega, by omega, by simp, by simp, by simp, by simp, rfl⟩ rfl ?_
 rintro i ⟨out, act, t1, t2, h1, h2⟩ hI
 have i1 := hI.a
 have i2 := hI.c
 have i3 := hI.d
 have i4 := hI.e
 have i5 := hI.f
 simp only at i2 i3 i4 i5
 unfold a2m
 by_cases hi : i < l.length
 ·have em := e8 a6r l i [] i1 hi
  have hok := hg.ok i.toNat (by omega)
  have hok' := hok
  unfold S8 at hok'
  have ex1 := a7g (kd := kd) (lim := lim) (l.getD i.toNat default) hdb.1
  have hfin := fun y hy => hI.next (y := y) hi (by omega) hy
  by_cases hn : i + 1 < l.length
  ·have enx : nxA l i.toNat = (l.getD (i + 1).toNat default).a := by
    unfold nxA; rw [if_pos (by omega)]; rw [show (i + 1).toNat = i.toNat + 1 by omega]
   have en := e8 a6r l (i + 1) [] (by omega) hn
   rw [enx] at hfin
   refine qc (a6f kb tb pb lt kd lim db on off pr _ hok hlim hdb) ?_
   generalize q7 kd lim db (l.getD i.toNat default) = xy at *
   obtain ⟨x, y⟩ := xy
   have hxy : (x = true ∧ y = false) ∨ (x = false ∧ y = true) ∨ (x = false ∧ y = false) := by
    cases x <;> cases y <;> simp_all
   rcases hxy with ⟨rfl, rfl⟩ | ⟨rfl, rfl⟩ | ⟨rfl, rfl⟩
   ·cases h1 with
    | false =>
     have hf := hfin _ rfl
     rw [U9] at hf
     simp only [if_true] at hf
     cases act with
     | false =>
      simp only [true_and] at hf
      by_cases c1 : max (l.getD i.toNat default).a ((l.getD i.toNat default).a + on) < (l.getD (i + 1).toNat default).a
      ·by_cases c2 : max (l.getD i.toNat default).a ((l.getD i.toNat default).a + on) < un
       ·rw [if_pos ⟨c1, c2⟩] at hf
        refine qv ?_
        refine ⟨i + 1, _, ?_, hf, by omega⟩
        simp only [a2m, B4, List.map_append, List.map_cons, List.map_nil, T0]
       ·rw [if_neg (fun h => c2 h.2)] at hf
        refine qv ?_
        exact ⟨i + 1, _, rfl, hf, by omega⟩
      ·rw [if_neg (fun h => c1 h.1)] at hf
       refine qv ?_
       exact ⟨i + 1, _, rfl, hf, by omega⟩
     | true =>
      simp only [Bool.false_eq_true, Bool.true_eq_false, false_and, if_false] at hf
      refine qv ?_
      exact ⟨i + 1, _, rfl, hf, by omega⟩
    | true =>
     have hf := hfin _ rfl
     rw [U9] at hf
     simp only [Bool.true_eq_false, if_false] at hf
     cases act with
     | false =>
      simp only [true_and] at hf
      by_cases c1 : max (l.getD i.toNat default).a (t1 + on) < (l.getD (i + 1).toNat default).a
      ·by_cases c2 : max (l.getD i.toNat default).a (t1 + on) < un
       ·rw [if_pos ⟨c1, c2⟩] at hf
        refine qv ?_
        refine ⟨i + 1, _, ?_, hf, by omega⟩
        simp only [a2m, B4, List.map_append, List.map_cons, List.map_nil, T0]
       ·rw [if_neg (fun h => c2 h.2)] at hf
        refine qv ?_
        exact ⟨i + 1, _, rfl, hf, by omega⟩
      ·rw [if_neg (fun h => c1 h.1)] at hf
       refine qv ?_
       exact ⟨i + 1, _, rfl, hf, by omega⟩
     | true =>
      simp only [Bool.false_eq_true, Bool.true_eq_false, false_and, if_false] at hf
      refine qv ?_
      exact ⟨i + 1, _, rfl, hf, by omega⟩
   ·cases h2 with
    | false =>
     have hf := hfin _ rfl
     rw [V0] at hf
     simp only [if_true] at hf
     cases act with
     | false =>
      simp only [Bool.false_eq_true, Bool.true_eq_false, false_and, if_false] at hf
      refine qv ?_
      exact ⟨i + 1, _, rfl, hf, by omega⟩
     | true =>
      have i3 := i3 rfl
      have eo := o8 frC out ((out.length : Int) - 1).toNat (by omega)
      simp only [true_and] at hf
      by_cases c1 : max (l.getD i.toNat default).a ((l.getD i.toNat default).a + off) < (l.getD (i + 1).toNat default).a
      ·by_cases c2 : max (l.getD i.toNat default).a ((l.getD i.toNat default).a + off) < un
       ·rw [if_pos ⟨c1, c2⟩] at hf
        refine qv ?_
        refine ⟨i + 1, _, ?_, hf, by omega⟩
        simp only [a2m, B4, I0]
       ·rw [if_neg (fun h => c2 h.2)] at hf
        refine qv ?_
        exact ⟨i + 1, _, rfl, hf, by omega⟩
      ·rw [if_neg (fun h => c1 h.1)] at hf
       refine qv ?_
       exact ⟨i + 1, _, rfl, hf, by omega⟩
    | true =>
     have hf := hfin _ rfl
     rw [V0] at hf
     simp only [Bool.true_eq_false, if_false] at hf
     cases act with
     | false =>
      simp only [Bool.false_eq_true, Bool.true_eq_false, false_and, if_false] at hf
      refine qv ?_
      exact ⟨i + 1, _, rfl, hf, by omega⟩
     | true =>
      have i3 := i3 rfl
      have eo := o8 frC out ((out.length : Int) - 1).toNat (by omega)
      simp only [true_and] at hf
      by_cases c1 : max (l.getD i.toNat default).a (t2 + off) < (l.getD (i + 1).toNat default).a
      ·by_cases c2 : max (l.getD i.toNat default).a (t2 + off) < un
       ·rw [if_pos ⟨c1, c2⟩] at hf
        refine qv ?_
        refine ⟨i + 1, _, ?_, hf, by omega⟩
        simp only [a2m, B4, I0]
       ·rw [if_neg (fun h => c2 h.2)] at hf
        refine qv ?_
        exact ⟨i + 1, _, rfl, hf, by omega⟩
      ·rw [if_neg (fun h => c1 h.1)] at hf
       refine qv ?_
       exact ⟨i + 1, _, rfl, hf, by omega⟩
   ·have hf := hfin _ rfl
    rw [a1j] at hf
    refine qv ?_
    exact ⟨i + 1, _, rfl, hf, by omega⟩
  ·have enx : nxA l i.toNat = 345686400000 := by unfold nxA; rw [if_neg (by omega)]
   rw [enx] at hfin
   refine qc (a6f kb tb pb lt kd lim db on off pr _ hok hlim hdb) ?_
   generalize q7 kd lim db (l.getD i.toNat default) = xy at *
   obtain ⟨x, y⟩ := xy
   have hxy : (x = true ∧ y = false) ∨ (x = false ∧ y = true) ∨ (x = false ∧ y = false) := by
    cases x <;> cases y <;> simp_all
   rcases hxy with ⟨rfl, rfl⟩ | ⟨rfl, rfl⟩ | ⟨rfl, rfl⟩
   ·cases h1 with
    | false =>
     have hf := hfin _ rfl
     rw [U9] at hf
     simp only [if_true] at hf
     cases act with
     | false =>
      simp only [true_and] at hf
      by_cases c1 : max (l.getD i.toNat default).a ((l.getD i.toNat default).a + on) < 345686400000
      ·by_cases c2 : max (l.getD i.toNat default).a ((l.getD i.toNat default).a + on) < un
       ·rw [if_pos ⟨c1, c2⟩] at hf
        refine qv ?_
        refine ⟨i + 1, _, ?_, hf, by omega⟩
        simp only [a2m, B4, List.map_append, List.map_cons, List.map_nil, T0]
       ·rw [if_neg (fun h => c2 h.2)] at hf
        refine qv ?_
        exact ⟨i + 1, _, rfl, hf, by omega⟩
      ·rw [if_neg (fun h => c1 h.1)] at hf
       refine qv ?_
       exact ⟨i + 1, _, rfl, hf, by omega⟩
     | true =>
      simp only [Bool.false_eq_true, Bool.true_eq_false, false_and, if_false] at hf
      refine qv ?_
      exact ⟨i + 1, _, rfl, hf, by omega⟩
    | true =>
     have hf := hfin _ rfl
     rw [U9] at hf
     simp only [Bool.true_eq_false, if_false] at hf
     cases act with
     | false =>
      simp only [true_and] at hf
      by_cases c1 : max (l.getD i.toNat default).a (t1 + on) < 345686400000
      ·by_cases c2 : max (l.getD i.toNat default).a (t1 + on) < un
       ·rw [if_pos ⟨c1, c2⟩] at hf
        refine qv ?_
        refine ⟨i + 1, _, ?_, hf, by omega⟩
        simp only [a2m, B4, List.map_append, List.map_cons, List.map_nil, T0]
       ·rw [if_neg (fun h => c2 h.2)] at hf
        refine qv ?_
        exact ⟨i + 1, _, rfl, hf, by omega⟩
      ·rw [if_neg (fun h => c1 h.1)] at hf
       refine qv ?_
       exact ⟨i + 1, _, rfl, hf, by omega⟩
     | true =>
      simp only [Bool.false_eq_true, Bool.true_eq_false, false_and, if_false] at hf
      refine qv ?_
      exact ⟨i + 1, _, rfl, hf, by omega⟩
   ·cases h2 with
    | false =>
     have hf := hfin _ rfl
     rw [V0] at hf
     simp only [if_true] at hf
     cases act with
     | false =>
      simp only [Bool.false_eq_true, Bool.true_eq_false, false_and, if_false] at hf
      refine qv ?_
      exact ⟨i + 1, _, rfl, hf, by omega⟩
     | true =>
      have i3 := i3 rfl
      have eo := o8 frC out ((out.length : Int) - 1).toNat (by omega)
      simp only [true_and] at hf
      by_cases c1 : max (l.getD i.toNat default).a ((l.getD i.toNat default).a + off) < 345686400000
      ·by_cases c2 : max (l.getD i.toNat default).a ((l.getD i.toNat default).a + off) < un
       ·rw [if_pos ⟨c1, c2⟩] at hf
        refine qv ?_
        refine ⟨i + 1, _, ?_, hf, by omega⟩
        simp only [a2m, B4, I0]
       ·rw [if_neg (fun h => c2 h.2)] at hf
        refine qv ?_
        exact ⟨i + 1, _, rfl, hf, by omega⟩
      ·rw [if_neg (fun h => c1 h.1)] at hf
       refine qv ?_
       exact ⟨i + 1, _, rfl, hf, by omega⟩
    | true =>
     have hf := hfin _ rfl
     rw [V0] at hf
     simp only [Bool.true_eq_false, if_false] at hf
     cases act with
     | false =>
      simp only [Bool.false_eq_true, Bool.true_eq_false, false_and, if_false] at hf
      refine qv ?_
      exact ⟨i + 1, _, rfl, hf, by omega⟩
     | true =>
      have i3 := i3 rfl
      have eo := o8 frC out ((out.length : Int) - 1).toNat (by omega)
      simp only [true_and] at hf
      by_cases c1 : max (l.getD i.toNat default).a (t2 + off) < 345686400000
      ·by_cases c2 : max (l.getD i.toNat default).a (t2 + off) < un
       ·rw [if_pos ⟨c1, c2⟩] at hf
        refine qv ?_
        refine ⟨i + 1, _, ?_, hf, by omega⟩
        simp only [a2m, B4, I0]
       ·rw [if_neg (fun h => c2 h.2)] at hf
        refine qv ?_
        exact ⟨i + 1, _, rfl, hf, by omega⟩
      ·rw [if_neg (fun h => c1 h.1)] at hf
       refine qv ?_
       exact ⟨i + 1, _, rfl, hf, by omega⟩
   ·have hf := hfin _ rfl
    rw [a1j] at hf
    refine qv ?_
    exact ⟨i + 1, _, rfl, hf, by omega⟩
 ·have i6 := hI.g
  rw [List.drop_eq_nil_of_le (by omega), L1] at i6
  refine qv ?_
  unfold b0z
  rw [<- i6]
theorem a4i {kk : Bool} {kd lim db on off pr : Int} (h : a4l kk kd lim db on off pr = 0) : kk = true ∧ a1W kd lim db on off pr = 0 := by
 unfold a4l at h
 split at h
 ·omega
 ·rename_i h2; exact ⟨by simpa using h2, h⟩
theorem a3w {kd lim db on off pr : Int} (h : a1W kd lim db on off pr = 0) : (1 <= kd ∧ kd <= 3) ∧ (-1000000 <= lim ∧ lim <= 1000000) ∧ (0 <= db ∧ db <= 2000000) ∧ (0 <= on ∧ on <= 86400000) ∧ (0 <= off ∧ off <= 86400000) ∧ (1 <= pr ∧ pr <= 1000) := by
 unfold a1W at h
 split at h
 ·omega
 ·split at h <;> omega
theorem d0G (a : List Opr) (x y : Ev) (ha : a.length <= 1000000) (hx : x.k = 2 -> 0 <= x.ac ∧ x.ac < a.length) (hy : y.k = 2 -> 0 <= y.ac ∧ y.ac < a.length) : FC Tryz.prog 87 none [.ag (evS x), .ag (evS y), .one (.ep [.sl false 6 (a.map O4)])] (fun _ r => r = iv (b5w a x y)) := by
 refine fcE Tryz.func87 (aM [3,4] [] [[2,3,4],[2,3,4,6],[2,3,4,6,25]] ++ aL [[5],[5]]) ?_
 have ho := a4y [sd y.a x.a, sd y.k x.k] (by simp)
 have ho2 := a4y [C3 [sd y.a x.a, sd y.k x.k], sd y.al x.al] (by simp)
 have hcm : b5w a x y = if C3 [sd y.a x.a, sd y.k x.k] ≠ 0 ∨ x.k ≠ 2 then C3 [C3 [sd y.a x.a, sd y.k x.k], sd y.al x.al] else a2e (a.getD x.ac.toNat default) (a.getD y.ac.toNat default) := rfl
 have hk : C3 [sd y.a x.a, sd y.k x.k] = 0 -> x.k = y.k := fun h => by
  rw [c5t] at h
  by_cases h1 : sd y.a x.a ≠ 0
  ·rw [if_pos h1] at h; omega
  ·rw [if_neg h1] at h
   rcases X9 y.k x.k with ⟨h2, h3⟩ | ⟨h2, h3⟩ | ⟨h2, h3⟩ <;> omega
 generalize C3 [sd y.a x.a, sd y.k x.k] = c at *
 by_cases h : c ≠ 0 ∨ x.k ≠ 2
 ·rw [if_pos h] at hcm
  rw [hcm]
  generalize C3 [c, sd y.al x.al] = d at *
  by_cases hc : c = 0
  ·have h2 : x.k ≠ 2 := by omega
   refine qc (s6 _ _) ?_
   refine qc (s6 _ _) ?_
   refine qc ho ?_
   refine qc (s6 _ _) ?_
   refine qc ho2 ?_
   exact qt
  ·refine qc (s6 _ _) ?_
   refine qc (s6 _ _) ?_
   refine qc ho ?_
   refine qc (s6 _ _) ?_
   refine qc ho2 ?_
   exact qt
 ·rw [if_neg h] at hcm
  rw [hcm]
  have hc : c = 0 := by omega
  have hxk : x.k = 2 := by omega
  have h1 := hx hxk
  have h2 := hy (by rw [<- hk hc]; exact hxk)
  have hb := b3l (a.getD x.ac.toNat default) (a.getD y.ac.toNat default)
  rw [s9, s9] at hb
  refine qc (s6 _ _) ?_
  refine qc (s6 _ _) ?_
  refine qc ho ?_
  refine qc hb ?_
  exact qt
abbrev b2Z (l : List (List Int)) : Row := ⟨0, 22, 1, l.map upC⟩
theorem c7v (l : List (List Int)) : frE (l.map upC) = true := a0o (fun _ => rfl) l
theorem c2t (l : List (List Int)) : a0k (l.map upC) = l.map upC := V7 (fun _ => rfl) l
attribute [go_sem] c7v c2t
theorem a4W (s : List Ser) : ∀ (l : List Alm) (j : Int) (x : Alm), O8 s j (l ++ [x]) = O8 s j l ++ evA s (j + l.length) x
 | [], j, x => by simp [O8]
 | y :: l, j, x => by
  rw [List.cons_append, O8, O8, a4W s l, List.append_assoc, List.length_cons]
  congr 3
  omega
theorem a5A (q : List Alm) : ∀ (l : List Opr) (j : Int) (x : Opr), V4 q j (l ++ [x]) = V4 q j l ++ evB q (j + l.length) x
 | [], j, x => by simp [V4]
 | y :: l, j, x => by
  rw [List.cons_append, V4, V4, a5A q l, List.append_assoc, List.length_cons]
  congr 3
  omega
theorem n4 {α : Type} [Inhabited α] (l : List α) (i : Int) (h0 : 0 <= i) (h : i < l.length) : l.take (i + 1).toNat = l.take i.toNat ++ [l.getD i.toNat default] := by
 rw [show (i + 1).toNat = i.toNat + 1 by omega, List.take_add_one, List.getD_eq_getElem?_getD, List.getElem?_eq_getElem (by omega)]; rfl
def b0q (n i : Nat) : List Sta := List.replicate i b2b ++ List.replicate (n - i) default
theorem b8F {n i : Nat} (h : i <= n) : (b0q n i).length = n := by simp [b0q]; omega
theorem c2h {n i : Nat} (h : i < n) : (b0q n i).getD i default = default := by
 unfold b0q
 rw [List.getD_eq_getElem?_getD, List.getElem?_append_right (by simp)]
 rw [List.getElem?_replicate]
 split <;> rfl
theorem b5Z {n i : Nat} (h : i < n) : (b0q n i).set i b2b = b0q n (i + 1) := by
 unfold b0q
 rw [List.set_append_right _ _ (by simp), List.length_replicate, Nat.sub_self, show n - i = (n - (i + 1)) + 1 by omega, List.replicate_succ, List.set_cons_zero]
 rw [List.replicate_succ', List.append_assoc]; rfl
abbrev nsB (l : List Alm) (a : List Opr) : List Cel := [.sl false 10 (l.map D0), .sl false 6 (a.map O4), .ow 200021 0, .ow 300021 0, .ow 19 0, .ow 500021 0, .ow 600021 0]
abbrev evV (i : Int) (v : Int × Int) : List Ev := [⟨v.1, 0, i, true, 0⟩, ⟨v.2, 0, i, false, 0⟩]
theorem a6S (i : Int) (w : List (Int × Int)) : (w.flatMap (evV i)).length = 2 * w.length := by
 induction w with
 | nil => rfl
 | cons v w ih => rw [List.flatMap_cons, List.length_append, ih]; simp; omega
structure NsX where
 i : Int
 ev : List Ev
 up : List (List Int)
 st : List Sta
 td : List Std
def c6c (l : List Alm) (s : List Ser) (a : List Opr) (x : NsX) : AS := ⟨m7 [(0, r6 false l), (1, B1 false s), (5, .one (.bx 5 0)), (7, .one (.bx 21 0)), (21, .one (.bx 21 0)), (22, r6 false l), (23, iv l.length), (24, iv x.i)], f7 [(5, [.sl false 6 (a.map O4)]), (21, nsB l a)], f7 [(19, G6 x.st), (200021, y6 x.ev), (300021, b2Z x.up), (500021, x9 x.td), (600021, n8 [])]⟩
def c2n (l : List Alm) (s : List Ser) (a : List Opr) (i : Int) (up : List (List Int)) (st : List Sta) (td : List Std) (w : List (Int × Int)) (j : Int) (ev : List Ev) : AS := ⟨m7 [(0, r6 false l), (1, B1 false s), (5, .one (.bx 5 0)), (7, .one (.bx 21 0)), (8, iv i), (21, .one (.bx 21 0)), (22, r6 false l), (23, iv l.length), (24, iv i), (65, a0C true w), (66, iv w.length), (67, iv j)], f7 [(5, [.sl false 6 (a.map O4)]), (21, nsB l a)], f7 [(19, G6 st), (200021, y6 ev), (300021, b2Z up), (500021, x9 td), (600021, n8 [])]⟩
def d1n (l : List Alm) (a : List Opr) (up : List (List Int)) (st : List Sta) (td : List Std) (k : Int) (ev : List Ev) : AS := ⟨m7 [(0, r6 false l), (5, .one (.bx 5 0)), (7, .one (.bx 21 0)), (21, .one (.bx 21 0)), (90, F7 false a), (91, iv a.length), (92, iv k)], f7 [(5, [.sl false 6 (a.map O4)]), (21, nsB l a)], f7 [(19, G6 st), (200021, y6 ev), (300021, b2Z up), (500021, x9 td), (600021, n8 [])]⟩
structure NsI (l : List Alm) (s : List Ser) (x : NsX) : Prop where
 i0 : 0 <= x.i
 i1 : x.i <= l.length
 ev : x.ev = O8 s 0 (l.take x.i.toNat)
 up : x.up = (l.take x.i.toNat).map fun y => G9 l (l.length + 1) y
 st : x.st = b0q l.length x.i.toNat
 td : x.td = (l.take x.i.toNat).map fun y => ⟨y.k, 1, 0⟩
theorem c5o (s : List Ser) (l : List Alm) (i : Nat) (j : Int) : (O8 s j (l.take i)).length <= (O8 s j l).length := by
 induction l generalizing i j with
 | nil => simp
 | cons x l ih =>
  cases i with
  | zero => simp [O8]
  | succ i =>
   rw [List.take_succ_cons, O8, O8, List.length_append, List.length_append]
   have := ih i (j + 1)
   omega
theorem c5p (q : List Alm) (l : List Opr) (i : Nat) (j : Int) : (V4 q j (l.take i)).length <= (V4 q j l).length := by
 induction l generalizing i j with
 | nil => simp
 | cons x l ih =>
  cases i with
  | zero => simp [V4]
  | succ i =>
   rw [List.take_succ_cons, V4, V4, List.length_append, List.length_append]
   have := ih i (j + 1)
   omega
theorem b2f {l : List Alm} {s : List Ser} {a : List Opr} (h1 : J4 l) (e : Ev) (he : e ∈ Z5 l s a) : d4b l.length a.length e := by
 unfold Z5 at he
 rcases List.mem_append.1 he with he | he
 ·obtain ⟨i, hi, hm⟩ := a0W he
  unfold evA at hm
  obtain ⟨v, hv, hm⟩ := List.mem_flatMap.1 hm
  simp only [List.mem_cons, List.not_mem_nil, or_false] at hm
  rcases hm with rfl | rfl
  ·exact ⟨by simp only; omega, fun _ => by simp only; omega, fun h => by simp at h⟩
  ·exact ⟨by simp only; omega, fun _ => by simp only; omega, fun h => by simp at h⟩
 ·obtain ⟨i, hi, hm⟩ := N7 he
  unfold evB at hm
  have hr := S3 l (a.getD i default).al
  rcases List.mem_cons.1 hm with rfl | hm
  ·exact ⟨by simp only; omega, fun h => by simp at h, fun _ => ⟨by simp only; omega, by simp only; omega⟩⟩
  ·split at hm
   ·rename_i hc
    simp only [List.mem_cons, List.not_mem_nil, or_false] at hm
    subst hm
    exact ⟨by simp only; omega, fun _ => hc.2, fun h => by simp at h⟩
   ·simp at hm
theorem c0u : Good [] := b2s (by rfl)
theorem P1 {s : List Ser} (h : a2o s) (t : ByteArray) : Good (a1J s t) := by
 unfold a1J
 split
 ·rename_i h0
  have hr := N2 (fun x : Ser => decide (x.t = t)) s 0
  exact b2s (h.ser _ (by omega))
 ·exact c0u
theorem a7m (l : List Alm) (s : List Ser) (a : List Opr) (h1 : J4 l) (h2 : a2o s) (h3 : b1X a) (hev : (Z5 l s a).length <= 1000000) :
  FCM Tryz.prog 48 ⟨[], []⟩ [r6 false l, B1 false s, F7 false a]
   (fun H r => H = ⟨[(21, [.sl false 10 (l.map D0), .sl false 6 (a.map O4), .sl true 5 ((evs l s a).map evS), .sl true 1 ((upA l).map upC), .ow 19 0, .ow 500021 0, .ow 600021 0])], [(19, G6 (a0K l).st), (500021, x9 (a0K l).td), (600021, n8 [])]⟩ ∧ r = .one (.bx 21 0)) := by
 refine fmE Tryz.func48 ([aN [0,1,5] [5,21] [19,500021,600021],⟨(kP [0,1,5,7,21] [5,21] [19]),[(1200021,143,5),(1300021,22,1),(1500021,96,3),(1600021,3,1)],[(1,(some 5))],[],[]⟩] ++ aM [5,21] [19,200021,300021,500021,600021] [[0,1,5,7,21,22,23,24],[0,1,5,7,21,22,23,24,25]] ++ aM [5,9,21] [19,200021,300021,500021,600021] [[0,1,5,7,8,9,21,22,23,24],[0,1,5,7,8,9,21,22,23,24],[0,1,5,7,8,9,21,22,23,24],[0,1,5,7,8,9,21,22,23,24]] ++ aM [5,21] [19,200021,300021,500021,600021] [[0,1,5,7,8,21,22,23,24,65,66,67],[0,1,5,7,8,21,22,23,24,65,66,67,68]] ++ [aN [0,1,5,7,8,11,21,22,23,24,65,66,67] [5,11,21] [19,200021,300021,500021,600021]] ++ aM [5,21] [19,200021,300021,500021,600021] [[0,1,5,7,8,21,22,23,24,65,66,67],[0,1,5,7,8,21,22,23,24,65,66,67],[0,1,5,7,21,22,23,24],[0,5,7,21,90,91,92],[0,5,7,21,90,91,92,93]] ++ aM [5,13,21] [19,200021,300021,500021,600021] [[0,5,7,12,13,21,90,91,92],[0,5,7,12,13,14,21,90,91,92],[0,5,7,13,14,21,90,91,92],[0,5,7,13,14,21,90,91,92,121]] ++ aM [5,21] [19,200021,300021,500021,600021] [[0,5,7,21,90,91,92],[0,5,7,21,90,91,92]] ++ [⟨(kP [7,21] [21] [19,500021,600021]),[],[],[],[(141,⟨[5],[200021],[5],[200021],[200021]⟩)]⟩,aN [6,21] [21] [19,500021,600021]]) ⟨[], [21], [19, 500021, 600021]⟩ ?_
 have hl := h1.len
 have hs := h2.len
 have ha := h3.len
 refine qv ?_
 have est : List.replicate l.length [Cel.g (.int .i64 0), Cel.g (.bool false), Cel.g (.int .i64 0), Cel.g (.bool false)] = (b0q l.length 0).map c7m := by
  unfold b0q
  simp only [List.replicate_zero, List.nil_append, Nat.sub_zero, List.map_replicate]; rfl
 refine l0 (c6c l s a) (NsI l s) (fun x => (l.length - x.i).toNat) ⟨0, [], [], b0q l.length 0, []⟩ ⟨by simp, by simp, by simp [O8], by simp, by simp, by simp⟩ (by simp only [c6c, G6]; rw [<- est]; rfl) ?_
 rintro ⟨i, ev, up, st, td⟩ ⟨i0, i1, hxe, hxu, hxs, hxt⟩
 simp only at i0 i1 hxe hxu hxs hxt
 unfold c6c
 by_cases hi : i < l.length
 ·have em := e8 D0 l i [] i0 hi
  have hm := f8 l i.toNat (by omega)
  have hf := h1.flt i.toNat (by omega)
  have hpa := a9M l h1 _ hm
  have hsl : st.length = l.length := by rw [hxs, b8F (by omega)]
  have hul : up.length = i := by rw [hxu, List.length_map, List.length_take]; omega
  have htl : td.length = i := by rw [hxt, List.length_map, List.length_take]; omega
  have hst1 : st.set i.toNat b2b = b0q l.length (i + 1).toNat := by rw [hxs, b5Z (by omega), show i.toNat + 1 = (i + 1).toNat by omega]
  have hsz : st.getD i.toNat default = default := by rw [hxs, c2h (by omega)]
  obtain ⟨kk, hff⟩ := a4i hf
  obtain ⟨f1, f2, f3, f4, f5, f6⟩ := a3w hff
  have hac := a5L (l.getD i.toNat default).k (l.getD i.toNat default).t (l.getD i.toNat default).p (l.getD i.toNat default).lt (l.getD i.toNat default).kd (l.getD i.toNat default).lim (l.getD i.toNat default).db (l.getD i.toNat default).on (l.getD i.toNat default).off (l.getD i.toNat default).pr 345686400000 (a1J s (l.getD i.toNat default).t) (P1 h2 _) f2 f3 f4 f5
  rw [show b0z (l.getD i.toNat default).kd (l.getD i.toNat default).lim (l.getD i.toNat default).db (l.getD i.toNat default).on (l.getD i.toNat default).off 345686400000 (a1J s (l.getD i.toNat default).t) = m8 s (l.getD i.toNat default) from rfl] at hac
  have hsa := a2H (l.getD i.toNat default).t s (by omega) h2.up
  rw [j9] at hpa
  obtain ⟨fr, hfr⟩ : ∃ fr, c7l s (l.getD i.toNat default).t = Z4 fr (a1J s (l.getD i.toNat default).t) := by
   unfold c7l a1J
   split
   ·exact ⟨false, rfl⟩
   ·exact ⟨true, rfl⟩
  rw [hfr] at hsa
  refine qc hpa ?_
  refine qv ?_
  refine m9 hsa (.inr ⟨rfl, rfl⟩) ?_
  refine qc hac ?_
  refine qv ?_
  have hsn := a4W s (l.take i.toNat) 0 (l.getD i.toNat default)
  rw [<- n4 l i i0 hi, <- hxe, List.length_take, show (0 : Int) + (min i.toNat l.length : Nat) = i by omega, show evA s i (l.getD i.toNat default) = (m8 s (l.getD i.toNat default)).flatMap (evV i) from rfl] at hsn
  have hle := c5o s l (i + 1).toNat 0
  have hle2 : (Z5 l s a).length = (O8 s 0 l).length + (V4 l 0 a).length := by unfold Z5; rw [List.length_append]
  rw [hsn, List.length_append, a6S] at hle
  clear hac hpa hsa
  generalize hw : m8 s (l.getD i.toNat default) = w at *
  refine j7 (c2n l s a i (up ++ [G9 l (l.length + 1) (l.getD i.toNat default)]) (st.set i.toNat b2b) (td ++ [⟨(l.getD i.toNat default).k, 1, 0⟩]) w) (fun j ev' => 0 <= j ∧ j <= w.length ∧ ev' = ev ++ (w.take j.toNat).flatMap (evV i)) (fun j _ => (w.length - j).toNat) 0 ev ⟨by omega, by omega, by simp⟩ (by
   rw [hsz]
   simp only [c2n, G6, b2Z, x9, y6, List.map_append, List.map_cons, List.map_nil, List.map_set, J0, c0U, a3M]; rfl) ?_
  rintro j ev' ⟨j0, j1, j2⟩
  unfold c2n
  by_cases hj : j < w.length
  ·have ej := e8 frC w j [] j0 hj
   have hl2 : ev'.length = ev.length + 2 * j.toNat := by rw [j2, List.length_append, a6S, List.length_take]; omega
   refine qv ?_
   refine ⟨j + 1, ev' ++ evV i (w.getD j.toNat default), ?_, ⟨by omega, by omega, ?_⟩, by omega⟩
   ·simp only [y6, G6, b2Z, x9, List.map_append, List.map_cons, List.map_nil, A0]; rfl
   ·rw [j2, n4 w j j0 hj, List.flatMap_append, List.append_assoc]; simp
  ·rw [List.take_of_length_le (by omega)] at j2
   refine qv ?_
   refine ⟨⟨i + 1, ev', _, _, _⟩, rfl, ⟨by simp only; omega, by simp only; omega, ?_, ?_, ?_, ?_⟩, by simp only; omega⟩
   ·simp only; rw [hsn, j2]
   ·simp only; rw [n4 l i i0 hi, List.map_append, hxu]; rfl
   ·simp only; rw [hst1]
   ·simp only; rw [n4 l i i0 hi, List.map_append, hxt]; rfl
 ·rw [List.take_of_length_le (by omega)] at hxe hxu hxt
  have hie : i.toNat = l.length := by omega
  rw [hie] at hxs
  have hxs : st = l.map fun _ => b2b := by rw [hxs]; simp [b0q, List.map_const']
  refine qv ?_
  refine j7 (d1n l a up st td) (fun k ev' => 0 <= k ∧ k <= a.length ∧ ev' = ev ++ V4 l 0 (a.take k.toNat)) (fun k _ => (a.length - k).toNat) 0 ev ⟨by omega, by omega, by simp [V4]⟩ rfl ?_
  rintro k ev' ⟨k0, k1, k2⟩
  unfold d1n
  have hle2 : (Z5 l s a).length = ev.length + (V4 l 0 a).length := by unfold Z5; rw [List.length_append, hxe]
  by_cases hk : k < a.length
  ·have em := e8 O4 a k [] k0 hk
   have hfi := a3o (a.getD k.toNat default).al l (by omega) h1.up
   have hle3 := c5p l a (k + 1).toNat 0
   have hsn := a5A l (a.take k.toNat) 0 (a.getD k.toNat default)
   rw [<- n4 a k k0 hk, List.length_take, show (0 : Int) + (min k.toNat a.length : Nat) = k by omega] at hsn
   rw [hsn, List.length_append] at hle3
   have hk3 : ev ++ V4 l 0 (a.take (k + 1).toNat) = ev' ++ evB l k (a.getD k.toNat default) := by rw [hsn, k2, List.append_assoc]
   have hl2 : ev'.length + (evB l k (a.getD k.toNat default)).length <= 1000000 := by rw [k2, List.length_append]; omega
   unfold evB at hk3 hl2
   by_cases q1 : (a.getD k.toNat default).kd = 2
   ·by_cases q2 : 0 <= v7 l (a.getD k.toNat default).al
    ·rw [if_pos ⟨q1, q2⟩] at hk3 hl2
     simp only [List.length_cons, List.length_nil] at hl2
     refine qc hfi ?_
     refine qv ?_
     refine ⟨⟨by simp only [List.length_append, List.length_map, List.length_cons, List.length_nil]; omega, by simp only [List.length_append, List.length_map, List.length_cons, List.length_nil]; omega⟩, k + 1, ev ++ V4 l 0 (a.take (k + 1).toNat), ?_, ⟨by omega, by omega, rfl⟩, by omega⟩
     rw [hk3]
     simp only [y6, List.map_append, List.map_cons, List.map_nil, A0, List.append_assoc, List.cons_append, List.nil_append]; rfl
    ·rw [if_neg (fun h => q2 h.2)] at hk3 hl2
     simp only [List.length_cons, List.length_nil] at hl2
     refine qc hfi ?_
     refine qv ?_
     refine ⟨k + 1, ev ++ V4 l 0 (a.take (k + 1).toNat), ?_, ⟨by omega, by omega, rfl⟩, by omega⟩
     rw [hk3]
     simp only [y6, List.map_append, List.map_cons, List.map_nil, A0, List.append_assoc, List.cons_append, List.nil_append]; rfl
   ·rw [if_neg (fun h => q1 h.1)] at hk3 hl2
    simp only [List.length_cons, List.length_nil] at hl2
    refine qc hfi ?_
    refine qv ?_
    refine ⟨k + 1, ev ++ V4 l 0 (a.take (k + 1).toNat), ?_, ⟨by omega, by omega, rfl⟩, by omega⟩
    rw [hk3]
    simp only [y6, List.map_append, List.map_cons, List.map_nil, A0, List.append_assoc, List.cons_append, List.nil_append]; rfl
  ·rw [List.take_of_length_le (by omega)] at k2
   have hev0 : ev' = Z5 l s a := by rw [k2, hxe]; rfl
   have hso := c0o 87 (p := fun e : Ev => e.k = 2 -> 0 <= e.ac ∧ e.ac < a.length) ⟨fun x _ => (evSwo a).irr x trivial, fun x y z _ _ _ => (evSwo a).tr x y z trivial trivial trivial, fun x y z _ _ _ => (evSwo a).ntr x y z trivial trivial trivial⟩ 6 (a.map O4) (fun x y hx hy => d0G a x y (by omega) hx hy) ev' (fun e he => by rw [hev0] at he; exact (b2f h1 e he).ac) (by rw [hev0]; exact hev)
   rw [hev0, show n5 (b5w a) (Z5 l s a) = evs l s a from rfl] at hso
   rw [hev0]
   refine qv ?_
   refine ⟨rfl, C5 ⟨[(5, [.sl false 6 (a.map O4)])], [(200021, y6 (evs l s a))]⟩ (.tu []) (swp 5 1000001) (swp 200021 1000000) (s8 5 1000001) (s8 200021 1000000) hso (by simp) rfl rfl rfl rfl rfl ⟨rfl, rfl⟩ ?_⟩
   refine qv ?_
   rw [hxu, hxs, hxt]; rfl
structure AllOk (l : List Alm) (s : List Ser) (a : List Opr) : Prop where
 al : J4 l
 se : a2o s
 ac : b1X a
 sm1 : ∀ x ∈ l, x.sm
 sm2 : ∀ x ∈ s, x.t.size <= 1000 ∧ x.l.length <= 1000000
 sm3 : ∀ x ∈ a, x.sm
 ev : (Z5 l s a).length <= 500000
 fl : alF l s a = 0
theorem AllOk.fault {l : List Alm} {s : List Ser} {a : List Opr} (h : AllOk l s a) : FC Tryz.prog 45 none [r6 false l, B1 false s, F7 false a] (fun _ r => r = iv 0) := by
 have h1 := a2D l s a (by have := h.al.len; omega) (by have := h.se.len; omega) (by have := h.ac.len; omega) h.sm1 h.sm2 h.sm3
 rw [h.fl] at h1; exact h1
theorem b4y (l : List Alm) (s : List Ser) (a : List Opr) : (evs l s a).length = (Z5 l s a).length := e6 _ _
theorem AllOk.run {l : List Alm} {s : List Ser} {a : List Opr} (h : AllOk l s a) : RuI l a (evs l s a) (a0K l) 0 where
 n1 := by simp [a0K]
 n2 := by simp [a0K]
 ok e he := b2f h.al e (ssort_mem.1 he)
 ig := by rw [b4y]; have := h.ev; simp [a0K]; omega
 v1 := by omega
def p21 (k : Nat) : Nat := if k = 21 then 9021 else if k = 9021 then 21 else k
def q19 (k : Nat) : Nat := if k = 19 then 9019 else if k = 9019 then 19 else k
theorem d3P (k : Nat) : p21 (p21 k) = k := by unfold p21; (repeat' split) <;> omega
theorem d3F (k : Nat) : q19 (q19 k) = k := by unfold q19; (repeat' split) <;> omega
abbrev siN (v : Nat) (l : List Alm) (a : List Opr) (ev : List Ev) (up : List (List Int)) (fr : Bool) : List Cel := [.sl false 10 (l.map D0), .sl false 6 (a.map O4), .sl fr 5 (ev.map evS), .sl fr 1 (up.map upC), .ow 9019 0, .ow 500021 0, .ow 600021 v]
abbrev siR (s : Sit) : List (Nat × Row) := [(9019, G6 s.st), (500021, x9 s.td), (600021, n8 s.ig)]
theorem c6C (x y z : Int) : C3 [x, y, z] = if x ≠ 0 then x else if y ≠ 0 then y else z := by
 unfold C3 C3 C3 C3
 split
 ·rfl
 ·split
  ·rfl
  ·split <;> omega
def a4H : List Ann := (aM [7] [] [[0,1,2,7],[7,9]] ++ aL [[9,20],[9],[8]])
theorem a3P (l : List Alm) (a : List Opr) (e : Ev) (s : Sit) : (C6 l a e s).out = s.out := by
 unfold C6
 split
 ·split <;> rfl
 ·rfl
theorem d6m (v : Nat) (h : v <= 1) : kv 1000007 v = v := by
 unfold kv; rw [if_neg (by simp [XK])]; omega
theorem d6G (v : Nat) : kv 1000007 (v + 1) = 1 := by
 unfold kv; rw [if_neg (by simp [XK])]; omega
attribute [go_sem] d6m d6G
theorem c8I (f t a : Int) : FC Tryz.prog 78 none [.ag [.g (.int .i64 f), .g (.int .i64 t)], iv a] (fun _ r => r = bv (decide (f <= a ∧ a < t))) := by
 refine fcE Tryz.func78 [aN [1,2] [2] [],aN [4] [] []] ?_
 by_cases h : f <= a
 ·refine qv ?_
  exact Y9 (by first | (simp; done) | (simp; omega))
 ·refine qv ?_
  exact Y9 (by first | (simp; done) | (simp; omega))
theorem b0k (f t : Int) : FC Tryz.prog 77 none [.ag [.g (.int .i64 f), .g (.int .i64 t)]] (fun _ r => r = bv (decide (0 <= f ∧ f <= t ∧ t <= 345686400000))) := by
 refine fcE Tryz.func77 [aN [1] [1] [],aN [2] [] []] ?_
 by_cases h : f < 0 ∨ f > t
 ·have ho := D4 f 0 t
  rw [decide_eq_true h] at ho
  refine qc ho ?_
  refine qv ?_
  exact Y9 (by rw [decide_eq_false (p := 0 <= f ∧ f <= t ∧ t <= 345686400000) (by omega)])
 ·have ho := D4 f 0 t
  rw [decide_eq_false h] at ho
  refine qc ho ?_
  refine qv ?_
  exact Y9 (by first | (simp; done) | (simp; omega))
end Go.Proofs.YtnlafmigfjlnnaaGreatDoor

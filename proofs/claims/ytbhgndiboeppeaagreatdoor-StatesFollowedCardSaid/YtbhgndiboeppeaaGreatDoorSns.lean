/- The site of alarms is made: all events, in order. The state of an alarm. -/
import Derived.Test.YtbhgndiboeppeaaGreatDoorSew
import Derived.Test.YtbhgndiboeppeaaGreatDoorSit
import Derived.Test.YtbhgndiboeppeaaGreatDoorAc2
import Derived.Test.YtbhgndiboeppeaaGreatDoorAft
import Derived.Test.YtbhgndiboeppeaaGreatDoorAcb
import Derived.Test.YtbhgndiboeppeaaGreatDoorRlt
set_option linter.all false
set_option maxHeartbeats 4000000
set_option maxRecDepth 100000
namespace Go.Proofs.YtbhgndiboeppeaaGreatDoor
open Go Go.Ai
theorem d0N (a : List Opr) (x y : Ev) (ha : a.length ≤ 1000000) (hx : x.k = 2 → 0 ≤ x.ac ∧ x.ac < a.length) (hy : y.k = 2 → 0 ≤ y.ac ∧ y.ac < a.length) : FC Tryz.prog 87 none [.ag (evS x), .ag (evS y), .one (.ep [.sl false 6 (a.map N7)])] (fun _ r => r = iv (b4C a x y)) := by
 refine fcE Tryz.func87 (aM [3,4] [] [[2,3,4],[2,3,4,6],[2,3,4,6,25]] ++ aL [[5],[5]]) ?_
 have ho := a1v [sd y.a x.a, sd y.k x.k] (by simp)
 have ho2 := a1v [C2 [sd y.a x.a, sd y.k x.k], sd y.al x.al] (by simp)
 have hcm : b4C a x y = if C2 [sd y.a x.a, sd y.k x.k] ≠ 0 ∨ x.k ≠ 2 then C2 [C2 [sd y.a x.a, sd y.k x.k], sd y.al x.al] else a2t (a.getD x.ac.toNat default) (a.getD y.ac.toNat default) := rfl
 have hk : C2 [sd y.a x.a, sd y.k x.k] = 0 → x.k = y.k := fun h => by
  rw [c2s] at h
  by_cases h1 : sd y.a x.a ≠ 0
  ·rw [if_pos h1] at h; omega
  ·rw [if_neg h1] at h
   rcases O5 y.k x.k with ⟨h2, h3⟩ | ⟨h2, h3⟩ | ⟨h2, h3⟩ <;> omega
 generalize C2 [sd y.a x.a, sd y.k x.k] = c at *
 by_cases h : c ≠ 0 ∨ x.k ≠ 2
 ·rw [if_pos h] at hcm
  rw [hcm]
  generalize C2 [c, sd y.al x.al] = d at *
  by_cases hc : c = 0
  ·have h2 : x.k ≠ 2 := by omega
   refine qc (r9 _ _) ?_
   refine qc (r9 _ _) ?_
   refine qc ho ?_
   refine qc (r9 _ _) ?_
   refine qc ho2 ?_
   exact qt
  ·refine qc (r9 _ _) ?_
   refine qc (r9 _ _) ?_
   refine qc ho ?_
   refine qc (r9 _ _) ?_
   refine qc ho2 ?_
   exact qt
 ·rw [if_neg h] at hcm
  rw [hcm]
  have hc : c = 0 := by omega
  have hxk : x.k = 2 := by omega
  have h1 := hx hxk
  have h2 := hy (by rw [← hk hc]; exact hxk)
  have hb := b1B (a.getD x.ac.toNat default) (a.getD y.ac.toNat default)
  rw [u3, u3] at hb
  refine qc (r9 _ _) ?_
  refine qc (r9 _ _) ?_
  refine qc ho ?_
  refine qc hb ?_
  exact qt
abbrev b2n (l : List (List Int)) : Row := ⟨0, 22, 1, l.map upC⟩
theorem c9f (l : List (List Int)) : frE (l.map upC) = true := a7a (fun _ => rfl) l
theorem c3J (l : List (List Int)) : a1A (l.map upC) = l.map upC := a6f (fun _ => rfl) l
attribute [go_sem] c9f c3J
theorem a4L (s : List Ser) : ∀ (l : List Alm) (j : Int) (x : Alm), P9 s j (l ++ [x]) = P9 s j l ++ evA s (j + l.length) x
 | [], j, x => by simp [P9]
 | y :: l, j, x => by
  rw [List.cons_append, P9, P9, a4L s l, List.append_assoc, List.length_cons]
  congr 3
  omega
theorem a5r (q : List Alm) : ∀ (l : List Opr) (j : Int) (x : Opr), V8 q j (l ++ [x]) = V8 q j l ++ evB q (j + l.length) x
 | [], j, x => by simp [V8]
 | y :: l, j, x => by
  rw [List.cons_append, V8, V8, a5r q l, List.append_assoc, List.length_cons]
  congr 3
  omega
theorem C7 {α : Type} [Inhabited α] (l : List α) (i : Int) (h0 : 0 ≤ i) (h : i < l.length) : l.take (i + 1).toNat = l.take i.toNat ++ [l.getD i.toNat default] := by
 rw [show (i + 1).toNat = i.toNat + 1 by omega, List.take_add_one, List.getD_eq_getElem?_getD, List.getElem?_eq_getElem (by omega)]; rfl
def a9O (n i : Nat) : List Sta := List.replicate i b1a ++ List.replicate (n - i) default
theorem b4R {n i : Nat} (h : i ≤ n) : (a9O n i).length = n := by simp [a9O]; omega
theorem c1k {n i : Nat} (h : i < n) : (a9O n i).getD i default = default := by
 unfold a9O
 rw [List.getD_eq_getElem?_getD, List.getElem?_append_right (by simp)]
 rw [List.getElem?_replicate]
 split <;> rfl
theorem b4F {n i : Nat} (h : i < n) : (a9O n i).set i b1a = a9O n (i + 1) := by
 unfold a9O
 rw [List.set_append_right _ _ (by simp), List.length_replicate, Nat.sub_self, show n - i = (n - (i + 1)) + 1 by omega, List.replicate_succ, List.set_cons_zero]
 rw [List.replicate_succ', List.append_assoc]; rfl
abbrev nsB (l : List Alm) (a : List Opr) : List Cel := [.sl false 10 (l.map z7), .sl false 6 (a.map N7), .ow 200021 0, .ow 300021 0, .ow 19 0, .ow 500021 0, .ow 600021 0]
abbrev evV (i : Int) (v : Int × Int) : List Ev := [⟨v.1, 0, i, true, 0⟩, ⟨v.2, 0, i, false, 0⟩]
theorem a6U (i : Int) (w : List (Int × Int)) : (w.flatMap (evV i)).length = 2 * w.length := by
 induction w with
 | nil => rfl
 | cons v w ih => rw [List.flatMap_cons, List.length_append, ih]; simp; omega
structure NsX where
 i : Int
 ev : List Ev
 up : List (List Int)
 st : List Sta
 td : List Std
def c2o (l : List Alm) (s : List Ser) (a : List Opr) (x : NsX) : AS := ⟨m9 [(0, r6 false l), (1, B3 false s), (5, .one (.bx 5 0)), (7, .one (.bx 21 0)), (21, .one (.bx 21 0)), (22, r6 false l), (23, iv l.length), (24, iv x.i)], f9 [(5, [.sl false 6 (a.map N7)]), (21, nsB l a)], f9 [(19, D1 x.st), (200021, z6 x.ev), (300021, b2n x.up), (500021, l9 x.td), (600021, n9 [])]⟩
def c2A (l : List Alm) (s : List Ser) (a : List Opr) (i : Int) (up : List (List Int)) (st : List Sta) (td : List Std) (w : List (Int × Int)) (j : Int) (ev : List Ev) : AS := ⟨m9 [(0, r6 false l), (1, B3 false s), (5, .one (.bx 5 0)), (7, .one (.bx 21 0)), (8, iv i), (21, .one (.bx 21 0)), (22, r6 false l), (23, iv l.length), (24, iv i), (65, b0q true w), (66, iv w.length), (67, iv j)], f9 [(5, [.sl false 6 (a.map N7)]), (21, nsB l a)], f9 [(19, D1 st), (200021, z6 ev), (300021, b2n up), (500021, l9 td), (600021, n9 [])]⟩
def d1g (l : List Alm) (a : List Opr) (up : List (List Int)) (st : List Sta) (td : List Std) (k : Int) (ev : List Ev) : AS := ⟨m9 [(0, r6 false l), (5, .one (.bx 5 0)), (7, .one (.bx 21 0)), (21, .one (.bx 21 0)), (90, u9 false a), (91, iv a.length), (92, iv k)], f9 [(5, [.sl false 6 (a.map N7)]), (21, nsB l a)], f9 [(19, D1 st), (200021, z6 ev), (300021, b2n up), (500021, l9 td), (600021, n9 [])]⟩
structure NsI (l : List Alm) (s : List Ser) (x : NsX) : Prop where
 i0 : 0 ≤ x.i
 i1 : x.i ≤ l.length
 ev : x.ev = P9 s 0 (l.take x.i.toNat)
 up : x.up = (l.take x.i.toNat).map fun y => G0 l (l.length + 1) y
 st : x.st = a9O l.length x.i.toNat
 td : x.td = (l.take x.i.toNat).map fun y => ⟨y.k, 1, 0⟩
theorem c2L (s : List Ser) (l : List Alm) (i : Nat) (j : Int) : (P9 s j (l.take i)).length ≤ (P9 s j l).length := by
 induction l generalizing i j with
 | nil => simp
 | cons x l ih =>
  cases i with
  | zero => simp [P9]
  | succ i =>
   rw [List.take_succ_cons, P9, P9, List.length_append, List.length_append]
   have := ih i (j + 1)
   omega
theorem c4K (q : List Alm) (l : List Opr) (i : Nat) (j : Int) : (V8 q j (l.take i)).length ≤ (V8 q j l).length := by
 induction l generalizing i j with
 | nil => simp
 | cons x l ih =>
  cases i with
  | zero => simp [V8]
  | succ i =>
   rw [List.take_succ_cons, V8, V8, List.length_append, List.length_append]
   have := ih i (j + 1)
   omega
theorem b3Z {l : List Alm} {s : List Ser} {a : List Opr} (h1 : J8 l) (e : Ev) (he : e ∈ Z9 l s a) : d3K l.length a.length e := by
 unfold Z9 at he
 rcases List.mem_append.1 he with he | he
 ·obtain ⟨i, hi, hm⟩ := a1c he
  unfold evA at hm
  obtain ⟨v, hv, hm⟩ := List.mem_flatMap.1 hm
  simp only [List.mem_cons, List.not_mem_nil, or_false] at hm
  rcases hm with rfl | rfl
  ·exact ⟨by simp only; omega, fun _ => by simp only; omega, fun h => by simp at h⟩
  ·exact ⟨by simp only; omega, fun _ => by simp only; omega, fun h => by simp at h⟩
 ·obtain ⟨i, hi, hm⟩ := O0 he
  unfold evB at hm
  have hr := D5 l (a.getD i default).al
  rcases List.mem_cons.1 hm with rfl | hm
  ·exact ⟨by simp only; omega, fun h => by simp at h, fun _ => ⟨by simp only; omega, by simp only; omega⟩⟩
  ·split at hm
   ·rename_i hc
    simp only [List.mem_cons, List.not_mem_nil, or_false] at hm
    subst hm
    exact ⟨by simp only; omega, fun _ => hc.2, fun h => by simp at h⟩
   ·simp at hm
theorem b7x : Good [] := b1F (by rfl)
theorem a1e {s : List Ser} (h : a3j s) (t : ByteArray) : Good (a5D s t) := by
 unfold a5D
 split
 ·rename_i h0
  have hr := O4 (fun x : Ser => decide (x.t = t)) s 0
  exact b1F (h.ser _ (by omega))
 ·exact b7x
set_option maxHeartbeats 16000000 in
set_option maxRecDepth 8000 in
theorem P2 (l : List Alm) (s : List Ser) (a : List Opr) (h1 : J8 l) (h2 : a3j s) (h3 : b1d a) (hev : (Z9 l s a).length ≤ 1000000) :
  FCM Tryz.prog 45 ⟨[], []⟩ [r6 false l, B3 false s, u9 false a]
   (fun H r => H = ⟨[(21, [.sl false 10 (l.map z7), .sl false 6 (a.map N7), .sl true 5 ((evs l s a).map evS), .sl true 1 ((upA l).map upC), .ow 19 0, .ow 500021 0, .ow 600021 0])], [(19, D1 (O6 l).st), (500021, l9 (O6 l).td), (600021, n9 [])]⟩ ∧ r = .one (.bx 21 0)) := by
 refine fmE Tryz.func45 ([aN [0,1,5] [5,21] [19,500021,600021],⟨(kP [0,1,5,7,21] [5,21] [19]),[(1200021,129,5),(1300021,22,1),(1500021,43,3),(1600021,3,1)],[(1,(some 5))],[],[]⟩] ++ aM [5,21] [19,200021,300021,500021,600021] [[0,1,5,7,21,22,23,24],[0,1,5,7,21,22,23,24,25]] ++ aM [5,9,21] [19,200021,300021,500021,600021] [[0,1,5,7,8,9,21,22,23,24],[0,1,5,7,8,9,21,22,23,24],[0,1,5,7,8,9,21,22,23,24],[0,1,5,7,8,9,21,22,23,24]] ++ aM [5,21] [19,200021,300021,500021,600021] [[0,1,5,7,8,21,22,23,24,65,66,67],[0,1,5,7,8,21,22,23,24,65,66,67,68]] ++ [aN [0,1,5,7,8,11,21,22,23,24,65,66,67] [5,11,21] [19,200021,300021,500021,600021]] ++ aM [5,21] [19,200021,300021,500021,600021] [[0,1,5,7,8,21,22,23,24,65,66,67],[0,1,5,7,8,21,22,23,24,65,66,67],[0,1,5,7,21,22,23,24],[0,5,7,21,90,91,92],[0,5,7,21,90,91,92,93]] ++ aM [5,13,21] [19,200021,300021,500021,600021] [[0,5,7,12,13,21,90,91,92],[0,5,7,12,13,14,21,90,91,92],[0,5,7,13,14,21,90,91,92],[0,5,7,13,14,21,90,91,92,121]] ++ aM [5,21] [19,200021,300021,500021,600021] [[0,5,7,21,90,91,92],[0,5,7,21,90,91,92]] ++ [⟨(kP [7,21] [21] [19,500021,600021]),[],[],[],[(141,⟨[5],[200021],[5],[200021],[200021]⟩)]⟩,aN [6,21] [21] [19,500021,600021]]) ⟨[], [21], [19, 500021, 600021]⟩ ?_
 have hl := h1.len
 have hs := h2.len
 have ha := h3.len
 refine qv ?_
 have est : List.replicate l.length [Cel.g (.int .i64 0), Cel.g (.bool false), Cel.g (.int .i64 0), Cel.g (.bool false)] = (a9O l.length 0).map b3o := by
  unfold a9O
  simp only [List.replicate_zero, List.nil_append, Nat.sub_zero, List.map_replicate]; rfl
 refine j9 (c2o l s a) (NsI l s) (fun x => (l.length - x.i).toNat) ⟨0, [], [], a9O l.length 0, []⟩ ⟨by simp, by simp, by simp [P9], by simp, by simp, by simp⟩ (by simp only [c2o, D1]; rw [← est]; rfl) ?_
 rintro ⟨i, ev, up, st, td⟩ ⟨i0, i1, hxe, hxu, hxs, hxt⟩
 simp only at i0 i1 hxe hxu hxs hxt
 unfold c2o
 by_cases hi : i < l.length
 ·have em := e8 z7 l i [] i0 hi
  have hm := j5 l i.toNat (by omega)
  have hf := h1.flt i.toNat (by omega)
  have hpa := a9M l h1 _ hm
  have hsl : st.length = l.length := by rw [hxs, b4R (by omega)]
  have hul : up.length = i := by rw [hxu, List.length_map, List.length_take]; omega
  have htl : td.length = i := by rw [hxt, List.length_map, List.length_take]; omega
  have eg := l0 b3o st i.toNat (by omega)
  have hst1 : st.set i.toNat b1a = a9O l.length (i + 1).toNat := by rw [hxs, b4F (by omega), show i.toNat + 1 = (i + 1).toNat by omega]
  have hsz : st.getD i.toNat default = default := by rw [hxs, c1k (by omega)]
  obtain ⟨kk, hff⟩ := a5M hf
  obtain ⟨f1, f2, f3, f4, f5, f6⟩ := a5N hff
  have hac := b0T (l.getD i.toNat default).k (l.getD i.toNat default).t (l.getD i.toNat default).p (l.getD i.toNat default).lt (l.getD i.toNat default).kd (l.getD i.toNat default).lim (l.getD i.toNat default).db (l.getD i.toNat default).on (l.getD i.toNat default).off (l.getD i.toNat default).pr 345686400000 (a5D s (l.getD i.toNat default).t) (a1e h2 _) f2 f3 f4 f5
  rw [show a9P (l.getD i.toNat default).kd (l.getD i.toNat default).lim (l.getD i.toNat default).db (l.getD i.toNat default).on (l.getD i.toNat default).off 345686400000 (a5D s (l.getD i.toNat default).t) = v7 s (l.getD i.toNat default) from rfl] at hac
  have hsa := b0a (l.getD i.toNat default).t s (by omega) h2.up
  rw [o6] at hpa
  obtain ⟨fr, hfr⟩ : ∃ fr, d1w s (l.getD i.toNat default).t = a0Z fr (a5D s (l.getD i.toNat default).t) := by
   unfold d1w a5D
   split
   ·exact ⟨false, rfl⟩
   ·exact ⟨true, rfl⟩
  rw [hfr] at hsa
  refine qc hpa ?_
  refine qv ?_
  refine n6 hsa (.inr ⟨rfl, rfl⟩) ?_
  refine qc hac ?_
  refine qv ?_
  have hsn := a4L s (l.take i.toNat) 0 (l.getD i.toNat default)
  rw [← C7 l i i0 hi, ← hxe, List.length_take, show (0 : Int) + (min i.toNat l.length : Nat) = i by omega, show evA s i (l.getD i.toNat default) = (v7 s (l.getD i.toNat default)).flatMap (evV i) from rfl] at hsn
  have hle := c2L s l (i + 1).toNat 0
  have hle2 : (Z9 l s a).length = (P9 s 0 l).length + (V8 l 0 a).length := by unfold Z9; rw [List.length_append]
  rw [hsn, List.length_append, a6U] at hle
  clear hac hpa hsa
  generalize hw : v7 s (l.getD i.toNat default) = w at *
  refine n8 (c2A l s a i (up ++ [G0 l (l.length + 1) (l.getD i.toNat default)]) (st.set i.toNat b1a) (td ++ [⟨(l.getD i.toNat default).k, 1, 0⟩]) w) (fun j ev' => 0 ≤ j ∧ j ≤ w.length ∧ ev' = ev ++ (w.take j.toNat).flatMap (evV i)) (fun j _ => (w.length - j).toNat) 0 ev ⟨by omega, by omega, by simp⟩ (by
   rw [hsz]
   simp only [c2A, D1, b2n, l9, z6, List.map_append, List.map_cons, List.map_nil, List.map_set, H9, b9U, F4]; rfl) ?_
  rintro j ev' ⟨j0, j1, j2⟩
  unfold c2A
  by_cases hj : j < w.length
  ·have ej := e8 frC w j [] j0 hj
   have hl2 : ev'.length = ev.length + 2 * j.toNat := by rw [j2, List.length_append, a6U, List.length_take]; omega
   refine qv ?_
   refine ⟨j + 1, ev' ++ evV i (w.getD j.toNat default), ?_, ⟨by omega, by omega, ?_⟩, by omega⟩
   ·simp only [z6, D1, b2n, l9, List.map_append, List.map_cons, List.map_nil, B2]; rfl
   ·rw [j2, C7 w j j0 hj, List.flatMap_append, List.append_assoc]; simp
  ·rw [List.take_of_length_le (by omega)] at j2
   refine qv ?_
   refine ⟨⟨i + 1, ev', _, _, _⟩, rfl, ⟨by simp only; omega, by simp only; omega, ?_, ?_, ?_, ?_⟩, by simp only; omega⟩
   ·simp only; rw [hsn, j2]
   ·simp only; rw [C7 l i i0 hi, List.map_append, hxu]; rfl
   ·simp only; rw [hst1]
   ·simp only; rw [C7 l i i0 hi, List.map_append, hxt]; rfl
 ·rw [List.take_of_length_le (by omega)] at hxe hxu hxt
  have hie : i.toNat = l.length := by omega
  rw [hie] at hxs
  have hxs : st = l.map fun _ => b1a := by rw [hxs]; simp [a9O, List.map_const']
  refine qv ?_
  refine n8 (d1g l a up st td) (fun k ev' => 0 ≤ k ∧ k ≤ a.length ∧ ev' = ev ++ V8 l 0 (a.take k.toNat)) (fun k _ => (a.length - k).toNat) 0 ev ⟨by omega, by omega, by simp [V8]⟩ rfl ?_
  rintro k ev' ⟨k0, k1, k2⟩
  unfold d1g
  have hle2 : (Z9 l s a).length = ev.length + (V8 l 0 a).length := by unfold Z9; rw [List.length_append, hxe]
  by_cases hk : k < a.length
  ·have em := e8 N7 a k [] k0 hk
   have hfi := O8 (a.getD k.toNat default).al l (by omega) h1.up
   have hle3 := c4K l a (k + 1).toNat 0
   have hsn := a5r l (a.take k.toNat) 0 (a.getD k.toNat default)
   rw [← C7 a k k0 hk, List.length_take, show (0 : Int) + (min k.toNat a.length : Nat) = k by omega] at hsn
   rw [hsn, List.length_append] at hle3
   have hk3 : ev ++ V8 l 0 (a.take (k + 1).toNat) = ev' ++ evB l k (a.getD k.toNat default) := by rw [hsn, k2, List.append_assoc]
   have hl2 : ev'.length + (evB l k (a.getD k.toNat default)).length ≤ 1000000 := by rw [k2, List.length_append]; omega
   unfold evB at hk3 hl2
   by_cases q1 : (a.getD k.toNat default).kd = 2
   ·by_cases q2 : 0 ≤ q8 l (a.getD k.toNat default).al
    ·rw [if_pos ⟨q1, q2⟩] at hk3 hl2
     simp only [List.length_cons, List.length_nil] at hl2
     refine qc hfi ?_
     refine qv ?_
     refine ⟨⟨by simp only [List.length_append, List.length_map, List.length_cons, List.length_nil]; omega, by simp only [List.length_append, List.length_map, List.length_cons, List.length_nil]; omega⟩, k + 1, ev ++ V8 l 0 (a.take (k + 1).toNat), ?_, ⟨by omega, by omega, rfl⟩, by omega⟩
     rw [hk3]
     simp only [z6, List.map_append, List.map_cons, List.map_nil, B2, List.append_assoc, List.cons_append, List.nil_append]; rfl
    ·rw [if_neg (fun h => q2 h.2)] at hk3 hl2
     simp only [List.length_cons, List.length_nil] at hl2
     refine qc hfi ?_
     refine qv ?_
     refine ⟨k + 1, ev ++ V8 l 0 (a.take (k + 1).toNat), ?_, ⟨by omega, by omega, rfl⟩, by omega⟩
     rw [hk3]
     simp only [z6, List.map_append, List.map_cons, List.map_nil, B2, List.append_assoc, List.cons_append, List.nil_append]; rfl
   ·rw [if_neg (fun h => q1 h.1)] at hk3 hl2
    simp only [List.length_cons, List.length_nil] at hl2
    refine qc hfi ?_
    refine qv ?_
    refine ⟨k + 1, ev ++ V8 l 0 (a.take (k + 1).toNat), ?_, ⟨by omega, by omega, rfl⟩, by omega⟩
    rw [hk3]
    simp only [z6, List.map_append, List.map_cons, List.map_nil, B2, List.append_assoc, List.cons_append, List.nil_append]; rfl
  ·rw [List.take_of_length_le (by omega)] at k2
   have hev0 : ev' = Z9 l s a := by rw [k2, hxe]; rfl
   have hso := b7I 87 (p := fun e : Ev => e.k = 2 → 0 ≤ e.ac ∧ e.ac < a.length) ⟨fun x _ => (evSwo a).irr x trivial, fun x y z _ _ _ => (evSwo a).tr x y z trivial trivial trivial, fun x y z _ _ _ => (evSwo a).ntr x y z trivial trivial trivial⟩ 6 (a.map N7) (fun x y hx hy => d0N a x y (by omega) hx hy) ev' (fun e he => by rw [hev0] at he; exact (b3Z h1 e he).ac) (by rw [hev0]; exact hev)
   rw [hev0, show l7 (b4C a) (Z9 l s a) = evs l s a from rfl] at hso
   rw [hev0]
   refine qv ?_
   refine ⟨rfl, y6 ⟨[(5, [.sl false 6 (a.map N7)])], [(200021, z6 (evs l s a))]⟩ (.tu []) (swp 5 1000001) (swp 200021 1000000) (s8 5 1000001) (s8 200021 1000000) hso (by simp) rfl rfl rfl rfl rfl ⟨rfl, rfl⟩ ?_⟩
   refine qv ?_
   rw [hxu, hxs, hxt]; rfl
def K0 : List Ann := (aM [10] [9019,500021,600021] [[0,1,2,3,4,10,9021],[0,1,2,3,4,10,12,9021],[0,1,2,3,4,10,12,20,9021]] ++ [aN [10,11] [10] []] ++ aM [10] [9019,500021,600021] [[0,1,2,4,10,13,9021],[0,1,2,4,10,13,26,9021]] ++ [aN [10,11] [10] [],aN [0,1,2,4,10,13,30,9021] [10] [9019,500021,600021],aN [10,11] [10] [],⟨(kP [4,10,13,14,9021] [10,9021] [9019,500021,600021]),[],[],[],[(38,⟨[],[],[9021],[9019,500021,600021],[]⟩)]⟩,⟨(kP [10,13,14,9021] [10,9021] []),[],[],[],[(41,⟨[9021],[9019,500021,600021],[9021],[9019,500021,600021],[9019,500021]⟩)]⟩,aN [10,11] [10] []])
structure AllOk (l : List Alm) (s : List Ser) (a : List Opr) : Prop where
 al : J8 l
 se : a3j s
 ac : b1d a
 sm1 : ∀ x ∈ l, x.sm
 sm2 : ∀ x ∈ s, x.t.size ≤ 1000 ∧ x.l.length ≤ 1000000
 sm3 : ∀ x ∈ a, x.sm
 ev : (Z9 l s a).length ≤ 500000
 fl : alF l s a = 0
theorem AllOk.fault {l : List Alm} {s : List Ser} {a : List Opr} (h : AllOk l s a) : FC Tryz.prog 42 none [r6 false l, B3 false s, u9 false a] (fun _ r => r = iv 0) := by
 have h1 := a2H l s a (by have := h.al.len; omega) (by have := h.se.len; omega) (by have := h.ac.len; omega) h.sm1 h.sm2 h.sm3
 rw [h.fl] at h1; exact h1
theorem a3k (l : List Alm) (s : List Ser) (a : List Opr) : (evs l s a).length = (Z9 l s a).length := f0 _ _
theorem AllOk.run {l : List Alm} {s : List Ser} {a : List Opr} (h : AllOk l s a) : RuI l a (evs l s a) (O6 l) 0 where
 n1 := by simp [O6]
 n2 := by simp [O6]
 ok e he := b3Z h.al e (ssort_mem.1 he)
 ig := by rw [a3k]; have := h.ev; simp [O6]; omega
 v1 := by omega
theorem a7q (up : List (List Int)) (at_ : Int) : ∀ (n i : Nat) (s : Sit), (U3 up at_ n i s).td.length = s.td.length
 | 0, i, s => rfl
 | n + 1, i, s => by rw [M6, a7q up at_ n, (a0P up at_ i s).2.1]
theorem a5J (l : List Alm) (a : List Opr) (to : Int) : ∀ (ev : List Ev) (s : Sit), (U9 l a to ev s).td.length = s.td.length
 | [], s => rfl
 | e :: r, s => by
  rw [U9]
  split
  ·rfl
  ·rw [a5J l a to r]
   split
   ·rw [(Y4 l a e s).2.1]
   ·rw [a7q, (Y4 l a e s).2.1]
theorem d1i (x : Std) : FC Tryz.prog 47 none [.ag (u7 x)] (fun _ r => r = .tu []) := by
 refine fcE Tryz.func47 (aL [[]]) ?_
 exact qt
def p21 (k : Nat) : Nat := if k = 21 then 9021 else if k = 9021 then 21 else k
def q19 (k : Nat) : Nat := if k = 19 then 9019 else if k = 9019 then 19 else k
def c5X (k : Nat) : Nat := if k = 9021 then 1000001 else if k = 1000001 then 9021 else k
def c5Q (k : Nat) : Nat := if k = 9019 then 1000002 else if k = 1000002 then 9019 else if k = 500021 then 1000003 else if k = 1000003 then 500021 else if k = 600021 then 1000004 else if k = 1000004 then 600021 else k
theorem b8n (k : Nat) : p21 (p21 k) = k := by unfold p21; (repeat' split) <;> omega
theorem b9q (k : Nat) : q19 (q19 k) = k := by unfold q19; (repeat' split) <;> omega
theorem b1c (k : Nat) : c5X (c5X k) = k := by unfold c5X; (repeat' split) <;> omega
theorem b3e (k : Nat) : c5Q (c5Q k) = k := by unfold c5Q; (repeat' split) <;> omega
abbrev siN (v : Nat) (l : List Alm) (a : List Opr) (ev : List Ev) (up : List (List Int)) (fr : Bool) : List Cel := [.sl false 10 (l.map z7), .sl false 6 (a.map N7), .sl fr 5 (ev.map evS), .sl fr 1 (up.map upC), .ow 9019 0, .ow 500021 0, .ow 600021 v]
abbrev siR (s : Sit) : List (Nat × Row) := [(9019, D1 s.st), (500021, l9 s.td), (600021, n9 s.ig)]
theorem b0k (l : List Alm) (s : List Ser) (a : List Opr) (h : AllOk l s a) (key : ByteArray) (at_ : Int) (hk : 0 ≤ q8 l key) (hat : 0 ≤ at_ ∧ at_ ≤ 345686399999) :
  FC Tryz.prog 14 none [r6 false l, B3 false s, u9 false a, sv key, iv at_] (fun _ r => r = .tu [.ag (u7 ((J7 l s a at_).td.getD (q8 l key).toNat default)), iv 0]) := by
 refine fcE Tryz.func14 K0 ?_
 have hl := h.al.len
 have hfi := O8 key l (by omega) h.al.up
 have hr := D5 l key
 have hf := h.fault
 have hm := N5 at_
 rw [decide_eq_true hat] at hm
 have hns := P2 l s a h.al h.se h.ac (by have := h.ev; omega)
 have hrun := a5K 47 d1i l a (evs l s a) at_ (O6 l) (by omega) (by have := h.ac.len; omega) (fun x hx => a1t h.al _ x hx) h.run
 rw [show U9 l a at_ (evs l s a) (O6 l) = J7 l s a at_ from rfl] at hrun
 have htl : (J7 l s a at_).td.length = l.length := by unfold J7; rw [a5J]; simp [O6]
 generalize J7 l s a at_ = T at *
 refine qc hf ?_
 refine qc hfi ?_
 refine qc hm ?_
 refine qv ?_
 refine ⟨rfl, N4 ⟨[(9021, siN 0 l a (evs l s a) (upA l) true)], siR (O6 l)⟩ (.one (.bx 9021 0)) p21 q19 b8n b9q hns (by simp) rfl rfl rfl rfl ⟨rfl, rfl⟩ ?_⟩
 refine qv ?_
 refine ⟨rfl, y6 ⟨[(9021, siN 0 l a (U7 at_ (evs l s a)) (upA l) false)], siR T⟩ (.tu []) c5X c5Q b1c b3e hrun (by simp) rfl rfl rfl rfl rfl ⟨rfl, rfl⟩ ?_⟩
 have em := e8 u7 T.td (q8 l key) [] hk (by omega)
 exact qt
end Go.Proofs.YtbhgndiboeppeaaGreatDoor

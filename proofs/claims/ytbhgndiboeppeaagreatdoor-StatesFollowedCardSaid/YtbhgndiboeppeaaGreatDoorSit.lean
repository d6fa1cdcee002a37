/- The site of alarms: an act, an event, what is reported. The site of alarms: what is reported; all events up to a moment. -/
import Derived.Test.YtbhgndiboeppeaaGreatDoorEvs
set_option linter.all false
set_option maxHeartbeats 4000000
set_option maxRecDepth 100000
namespace Go.Proofs.YtbhgndiboeppeaaGreatDoor
open Go Go.Ai
abbrev D1 (l : List Sta) : Row := ⟨0, 125, 4, l.map b3o⟩
abbrev l9 (l : List Std) : Row := ⟨0, 43, 3, l.map u7⟩
abbrev n9 (l : List Int) : Row := ⟨0, 3, 1, l.map U5⟩
def upC (x : List Int) : List Cel := [.sl true 1 (x.map U5)]
theorem b9U (x : List Int) : upC x = [.sl true 1 (x.map U5)] := (rfl)
attribute [go_sem] b9U
theorem a7a {α : Type} {f : α → List Cel} (h : ∀ x, (f x).all p9 = true) (l : List α) : frE (l.map f) = true := by
 unfold frE
 rw [List.all_eq_true]
 intro e he
 obtain ⟨x, _, rfl⟩ := List.mem_map.1 he
 exact h x
theorem a5S {α : Type} {f : α → List Cel} (h : ∀ x, (f x).map Cel.dat = f x) (l : List α) : H4 (l.map f) = l.map f := by
 unfold H4
 rw [List.map_map]
 exact List.map_congr_left fun x _ => h x
theorem a6f {α : Type} {f : α → List Cel} (h : ∀ x, (f x).map Cel.tof = f x) (l : List α) : a1A (l.map f) = l.map f := by
 unfold a1A
 rw [List.map_map]
 exact List.map_congr_left fun x _ => h x
theorem c2B (l : List Sta) : frE (l.map b3o) = true := a7a (fun _ => rfl) l
theorem c5L (l : List Std) : frE (l.map u7) = true := a7a (fun _ => rfl) l
theorem b6F (l : List Sta) : H4 (l.map b3o) = l.map b3o := a5S (fun _ => rfl) l
theorem b9w (l : List Std) : H4 (l.map u7) = l.map u7 := a5S (fun _ => rfl) l
theorem b9k (l : List Std) : a1A (l.map u7) = l.map u7 := a6f (fun _ => rfl) l
attribute [go_sem] c2B c5L b6F b9w b9k
theorem a3T {α β : Type} (f : α → β) (l : List α) (i : Nat) (x : β) (h : i < l.length) : ((l.map f).set i x)[i]? = some x := by
 rw [List.getElem?_set_self (by simpa using h)]
theorem a4f {α β : Type} (f : α → β) (l : List α) (i : Nat) (x y : β) : ((l.map f).set i x).set i y = (l.map f).set i y := by simp
attribute [go_sem] a3T a4f List.length_set
theorem a8i {α : Type} [Inhabited α] (l : List α) (i : Nat) (h : i < l.length) : l.set i (l.getD i default) = l := by
 rw [List.getD_eq_getElem?_getD, List.getElem?_eq_getElem h]; exact List.set_getElem_self h
theorem c1i (st : List Sta) (i : Int) (h0 : 0 ≤ i) (h : i < st.length) (a : Opr) : G9 Tryz.prog 121 [1000002] ⟨[], [(1000002, D1 st)]⟩ [.one (.op 1000002 0 i.toNat 0), .ag (N7 a)]
  (fun H r => H = ⟨[], [(1000002, D1 (st.set i.toNat (c1l (st.getD i.toNat default) a).1))]⟩ ∧ r = bv (c1l (st.getD i.toNat default) a).2) := by
 refine fsE Tryz.func121 (aM [3] [1000002] [[0,3],[0,3,7],[0,3,7,8]] ++ aM [] [1000002] [[],[4],[0,15],[0,5],[5],[4],[0,29],[0,29,30],[],[4],[0,38],[],[4],[4]]) ⟨[], [], [1000002]⟩ ?_
 have eg := l0 b3o st i.toNat (by omega)
 unfold c1l
 by_cases k2 : a.kd = 2
 ·rw [if_pos k2]
  refine qv ?_
  simp [List.map_set, H9]
 rw [if_neg k2]
 by_cases k3 : a.kd = 3
 ·rw [if_pos k3]
  refine qv ?_
  simp [List.map_set, H9]
 rw [if_neg k3]
 by_cases b2 : (st.getD i.toNat default).bl = 2
 ·rw [if_pos b2]
  refine qv ?_
  simp [List.map_set, H9]
 rw [if_neg b2]
 by_cases b4 : (st.getD i.toNat default).bl = 4
 ·rw [if_pos b4]
  refine qv ?_
  simp [List.map_set, H9]
 rw [if_neg b4]
 simp only [a8i st i.toNat (by omega)]
 exact qt
abbrev siC (l : List Alm) (a : List Opr) (ev : List Ev) (up : List (List Int)) : List Cel := [.sl false 10 (l.map z7), .sl false 6 (a.map N7), .sl false 5 (ev.map evS), .sl false 1 (up.map upC), .ow 1000002 0, .ow 1000003 0, .ow 1000004 0]
abbrev siH (l : List Alm) (a : List Opr) (ev : List Ev) (up : List (List Int)) (s : Sit) : Hp := ⟨[(1000001, siC l a ev up)], [(1000002, D1 s.st), (1000003, l9 s.td), (1000004, n9 s.ig)]⟩
set_option maxHeartbeats 4000000 in
theorem a5x (l : List Alm) (a : List Opr) (ev : List Ev) (up : List (List Int)) (s : Sit) (e : Ev) (h1 : s.st.length = l.length) (h2 : l.length ≤ 1000000) (h3 : a.length ≤ 1000000) (h4 : s.ig.length ≤ 1000000) (he : d3K l.length a.length e) :
  G9 Tryz.prog 89 [1000002, 1000003] (siH l a ev up s) [.one (.bx 1000001 0), .ag (evS e)] (fun H r => H = siH l a ev up (C4 l a e s) ∧ r = .tu []) := by
 refine fsE Tryz.func89 (aM [3,1000001] [1000002,1000003,1000004] [[0,3,1000001],[0,3,7,1000001]] ++ [⟨(kP [0,3,29,1000001] [3,1000001] [1000002,1000003,1000004]),[],[],[],[(27,⟨[],[1000002],[],[1000002],[1000002]⟩)]⟩,aN [] [1000001] [1000002,1000003,1000004]] ++ aM [3,1000001] [1000002,1000003,1000004] [[0,3,4,1000001],[0,3,4,73,1000001]] ++ aM [1000001] [1000002,1000003,1000004] [[4,83],[]] ++ [aN [0,3,4,87,1000001] [3,1000001] [1000002,1000003,1000004],aN [] [1000001] [1000002,1000003,1000004],aN [0,3,4,1000001] [3,1000001] [1000002,1000003,1000004]] ++ aM [1000001] [1000002,1000003,1000004] [[4,69],[]]) ⟨[], [1000001], [1000002, 1000003, 1000004]⟩ ?_
 obtain ⟨e1, e2, e3⟩ := he
 unfold C4
 by_cases k2 : e.k = 2
 ·rw [if_pos k2]
  by_cases a0 : e.al < 0
  ·rw [if_pos a0]
   refine qv ?_
   simp [a0i]
  ·rw [if_neg a0]
   have e3 := e3 k2
   have ha := c1i s.st e.al (by omega) (by omega) (a.getD e.ac.toNat default)
   generalize c1l (s.st.getD e.al.toNat default) (a.getD e.ac.toNat default) = y at *
   obtain ⟨y1, y2⟩ := y
   simp only at ha
   cases y2 with
   | true =>
    refine qv ?_
    refine ⟨rfl, f7 ha ⟨rfl, rfl⟩ ?_⟩
    exact qt
   | false =>
    refine qv ?_
    refine ⟨rfl, f7 ha ⟨rfl, rfl⟩ ?_⟩
    refine qv ?_
    simp [a0i]
 rw [if_neg k2]
 have e2 := e2 k2
 have eg := l0 b3o s.st e.al.toNat (by omega)
 unfold a3b
 by_cases k1 : e.k = 1
 ·rw [if_pos k1]
  by_cases u1 : (s.st.getD e.al.toNat default).un = e.a
  ·rw [if_pos u1]
   refine qv ?_
   simp [List.map_set, H9]
  ·rw [if_neg u1, a8i s.st e.al.toNat (by omega)]
   exact qt
 rw [if_neg k1]
 cases hon : e.on with
 | true =>
  rw [if_pos rfl]
  refine qv ?_
  simp only [hon]
  simp [List.map_set, H9]
 | false =>
  rw [if_neg (by simp)]
  cases hlt : (l.getD e.al.toNat default).lt with
  | true =>
   cases hak : (s.st.getD e.al.toNat default).ak with
   | true =>
    rw [if_neg (by simp)]
    refine qv ?_
    simp only [hon, hlt, hak]
    simp [List.map_set, H9]
   | false =>
    rw [if_pos (by simp)]
    refine qv ?_
    simp only [hon, hlt, hak]
    simp [List.map_set, H9]
  | false =>
   rw [if_neg (by simp)]
   refine qv ?_
   simp only [hon, hlt]
   simp [List.map_set, H9]
def c8f (l : List Alm) (a : List Opr) (ev : List Ev) (up : List (List Int)) (s : Sit) (i : Int) (x : List Int) (j : Int) : AS := ⟨m9 [(0, .one (.bx 1000001 0)), (1, iv i), (13, a1p false x), (14, iv x.length), (15, iv j), (1000001, .any)], f9 [(1000001, siC l a ev up)], f9 [(1000002, D1 s.st), (1000003, l9 s.td), (1000004, n9 s.ig)]⟩
set_option maxHeartbeats 4000000 in
theorem b2N (l : List Alm) (a : List Opr) (ev : List Ev) (up : List (List Int)) (s : Sit) (i : Int) (h0 : 0 ≤ i) (h1 : i < s.st.length) (h2 : up.length = s.st.length) (h3 : ∀ k ∈ up.getD i.toNat default, 0 ≤ k ∧ k < s.st.length) (h4 : s.st.length ≤ 1000000) (h5 : (up.getD i.toNat default).length ≤ 1000000) :
  G9 Tryz.prog 90 [1000002, 1000003, 1000004] (siH l a ev up s) [.one (.bx 1000001 0), iv i] (fun H r => H = siH l a ev up s ∧ r = iv (S5 up s.st i.toNat)) := by
 refine fsE Tryz.func90 (aM [1000001] [1000002,1000003,1000004] [[0,1,1000001],[0,1,13,14,15,1000001],[0,1,13,14,15,16,1000001],[0,1,6,13,14,15,1000001],[0,1,13,14,15,26,1000001],[4],[0,1,13,14,15,1000001],[0,1,36,1000001],[4],[4]]) ⟨[], [1000001], [1000002, 1000003, 1000004]⟩ ?_
 have eu : (up.getD i.toNat ([] : List Int)) = up.getD i.toNat default := rfl
 have em := e8 upC up i [] h0 (by omega)
 unfold S5
 rw [eu]
 generalize hx : up.getD i.toNat default = x at *
 have es := e8 b3o s.st i [] h0 (by omega)
 refine qv ?_
 simp only [hx]
 refine j9 (c8f l a ev up s i x) (fun j => 0 ≤ j ∧ j ≤ x.length ∧ (x.drop j.toNat).any (fun k => (s.st.getD k.toNat default).ac) = x.any (fun k => (s.st.getD k.toNat default).ac)) (fun j => (x.length - j).toNat) 0 ⟨by omega, by omega, rfl⟩ rfl ?_
 rintro j ⟨g1, g2, g3⟩
 unfold c8f
 by_cases hj : j < x.length
 ·have e2 : (j + 1).toNat = j.toNat + 1 := by omega
  rw [m7 x j.toNat (by omega), List.any_cons] at g3
  have hk := h3 _ (j5 x j.toNat (by omega))
  have ej := e8 U5 x j [] g1 hj
  have ek := e8 b3o s.st (x.getD j.toNat default) [] hk.1 hk.2
  cases hb : (s.st.getD (x.getD j.toNat default).toNat default).ac with
  | true =>
   rw [hb, Bool.true_or] at g3
   rw [← g3, if_pos rfl]
   refine qv ?_
   exact fun h => by rw [hb] at h; simp at h
  | false =>
   rw [hb, Bool.false_or] at g3
   refine qv ?_
   refine ⟨fun h => by rw [hb] at h; simp at h, fun _ => ⟨j + 1, rfl, ⟨by omega, by omega, by rw [e2]; exact g3⟩, by omega⟩⟩
 ·rw [List.drop_eq_nil_of_le (by omega), List.any_nil] at g3
  rw [← g3, if_neg (by simp)]
  by_cases hu : (s.st.getD i.toNat default).un > 0
  ·rw [if_pos hu]
   exact qt
  ·rw [if_neg hu]
   exact qt
def U7 (to : Int) : List Ev → List Ev
 | [] => []
 | e :: r => if to < e.a then e :: r else U7 to r
abbrev c0l (v : Nat) (l : List Alm) (a : List Opr) (ev : List Ev) (up : List (List Int)) : List Cel := [.sl false 10 (l.map z7), .sl false 6 (a.map N7), .sl false 5 (ev.map evS), .sl false 1 (up.map upC), .ow 1000002 0, .ow 1000003 0, .ow 1000004 v]
abbrev c5T (v : Nat) (l : List Int) : Row := ⟨v, 3, 1, l.map U5⟩
def c5j (cl : FuncId) (l : List Alm) (a : List Opr) (up : List (List Int)) (to : Int) (ev : List Ev) (s : Sit) (v : Nat) (w : Val × Val × Val × Val) : AS := ⟨m9 [(0, .one (.bx 1000001 0)), (1, iv to), (2, .one (.fn cl [])), (6, w.1), (70, w.2.1), (71, w.2.2.1), (72, w.2.2.2), (1000001, .any)], f9 [(1000001, c0l v l a ev up)], f9 [(1000002, D1 s.st), (1000003, l9 s.td), (1000004, c5T v s.ig)]⟩
def c7v (cl : FuncId) (l : List Alm) (a : List Opr) (up : List (List Int)) (to at_ : Int) (ev : List Ev) (s : Sit) (v : Nat) : AS := ⟨m9 [(0, .one (.bx 1000001 0)), (1, iv to), (2, .one (.fn cl [])), (6, iv at_), (1000001, .any)], f9 [(1000001, c0l v l a ev up)], f9 [(1000002, D1 s.st), (1000003, l9 s.td), (1000004, c5T v s.ig)]⟩
def d1k (cl : FuncId) (l : List Alm) (a : List Opr) (up : List (List Int)) (to at_ : Int) (ev : List Ev) (n i : Int) (s : Sit) (v : Nat) : AS := ⟨m9 [(0, .one (.bx 1000001 0)), (1, iv to), (2, .one (.fn cl [])), (6, iv at_), (70, iv n), (71, iv i), (1000001, .any)], f9 [(1000001, c0l v l a ev up)], f9 [(1000002, D1 s.st), (1000003, l9 s.td), (1000004, c5T v s.ig)]⟩
theorem Y4 (l : List Alm) (a : List Opr) (e : Ev) (s : Sit) : (C4 l a e s).st.length = s.st.length ∧ (C4 l a e s).td = s.td ∧ (C4 l a e s).ig.length ≤ s.ig.length + 1 := by
 unfold C4
 split
 ·split
  ·exact ⟨rfl, rfl, by simp⟩
  ·refine ⟨by simp, rfl, ?_⟩
   dsimp only
   split
   ·omega
   ·simp
 ·exact ⟨by simp, rfl, by simp⟩
def a7s (up : List (List Int)) (at_ : Int) (i : Nat) (s : Sit) : Sit := if S5 up s.st i ≠ (s.td.getD i default).st then { s with td := s.td.set i ⟨(s.td.getD i default).al, S5 up s.st i, at_⟩, out := s.out ++ [⟨(s.td.getD i default).al, S5 up s.st i, at_⟩] } else s
theorem M6 (up : List (List Int)) (at_ : Int) (n i : Nat) (s : Sit) : U3 up at_ (n + 1) i s = U3 up at_ n (i + 1) (a7s up at_ i s) := rfl
theorem a0P (up : List (List Int)) (at_ : Int) (i : Nat) (s : Sit) : (a7s up at_ i s).st = s.st ∧ (a7s up at_ i s).td.length = s.td.length ∧ (a7s up at_ i s).ig = s.ig := by
 unfold a7s
 split
 ·exact ⟨rfl, by simp, rfl⟩
 ·exact ⟨rfl, rfl, rfl⟩
theorem kvR (v : Nat) (h : v ≤ 1) : kv 1000004 v = v := by
 unfold kv; rw [if_neg (by simp [XK])]; omega
theorem kvS (v : Nat) : kv 1000004 (v + 1) = 1 := by
 unfold kv; rw [if_neg (by simp [XK])]; omega
attribute [go_sem] kvR kvS
theorem a7l {l : List Alm} {a : List Opr} {to : Int} {ev : List Ev} {s : Sit} (h : ev.length = 0) : U9 l a to ev s = s ∧ U7 to ev = ev := by
 have := List.length_eq_zero_iff.1 h
 subst this; exact ⟨rfl, rfl⟩
theorem a0c {ev : List Ev} (t : Int) : b9f ev t = decide (0 < ev.length ∧ (ev.getD (Int.toNat 0) default).a = t) := by
 cases ev with
 | nil => rfl
 | cons e r => simp [b9f]
theorem a0U {l : List Alm} {a : List Opr} {to : Int} {ev : List Ev} {s : Sit} (h : 0 < ev.length) : U9 l a to ev s = (if to < (ev.getD (Int.toNat 0) default).a then s else U9 l a to (ev.drop (Int.toNat 1)) (if b9f (ev.drop (Int.toNat 1)) (ev.getD (Int.toNat 0) default).a = true then C4 l a (ev.getD (Int.toNat 0) default) s else U3 (upA l) (ev.getD (Int.toNat 0) default).a l.length 0 (C4 l a (ev.getD (Int.toNat 0) default) s))) ∧ U7 to ev = if to < (ev.getD (Int.toNat 0) default).a then ev else U7 to (ev.drop (Int.toNat 1)) := by
 cases ev with
 | nil => simp at h
 | cons e r => exact ⟨rfl, rfl⟩
structure RuI (l : List Alm) (a : List Opr) (ev : List Ev) (s : Sit) (v : Nat) : Prop where
 n1 : s.st.length = l.length
 n2 : s.td.length = l.length
 ok : ∀ e ∈ ev, d3K l.length a.length e
 ig : s.ig.length + ev.length ≤ 1000000
 v1 : v ≤ 1
theorem RuI.next {l : List Alm} {a : List Opr} {ev : List Ev} {s : Sit} {v : Nat} (h : RuI l a ev s v) (h0 : 0 < ev.length) : RuI l a (ev.drop (Int.toNat 1)) (C4 l a (ev.getD (Int.toNat 0) default) s) 1 := by
 obtain ⟨n1, n2, ok, hig, hv⟩ := h
 obtain ⟨a1, a2, a3⟩ := Y4 l a (ev.getD (Int.toNat 0) default) s
 refine ⟨by omega, by rw [a2]; exact n2, fun e he => ok e (List.mem_of_mem_drop he), ?_, by omega⟩
 rw [List.length_drop]; omega
set_option maxHeartbeats 8000000 in
theorem a5K (cl : FuncId) (hcl : ∀ x : Std, FC Tryz.prog cl none [.ag (u7 x)] (fun _ r => r = .tu [])) (l : List Alm) (a : List Opr) (ev0 : List Ev) (to : Int) (s0 : Sit) (hl : l.length ≤ 200) (ha : a.length ≤ 1000000)
  (hup : ∀ x ∈ l, ∀ k ∈ G0 l (l.length + 1) x, 0 ≤ k ∧ k < l.length) (h0 : RuI l a ev0 s0 0) :
  G9 Tryz.prog 46 [1000002, 1000003] (siH l a ev0 (upA l) s0) [.one (.bx 1000001 0), iv to, .one (.fn cl [])] (fun H r => H = siH l a (U7 to ev0) (upA l) (U9 l a to ev0 s0) ∧ r = .tu []) := by
 refine fsE Tryz.func46 (aM [1000001] [1000002,1000003,1000004] [[0,1,2,25,1000001],[0,1,2,6,1000001],[0,1,2,6,49,1000001]] ++ [⟨(kP [0,1,2,6,1000001] [1000001] [1000002,1000003,1000004]),[],[],[],[(57,⟨[1000001],[1000002,1000003,1000004],[1000001],[1000002,1000003,1000004],[1000002,1000003]⟩)]⟩] ++ aM [1000001] [1000002,1000003,1000004] [[0,1,2,6,1000001],[0,1,2,6,70,71,1000001],[0,1,2,6,70,71,72,1000001],[0,1,2,6,7,70,71,1000001]] ++ [⟨(kP [0,1,2,6,7,8,70,71,1000001] [1000001] [1000002,1000003,1000004]),[],[],[],[(76,⟨[1000001],[1000002,1000003,1000004],[1000001],[1000002,1000003,1000004],[1000002,1000003,1000004]⟩)]⟩] ++ aM [1000001] [1000002,1000003,1000004] [[0,1,2,6,7,8,70,71,86,1000001],[0,1,2,6,7,70,71,1000001],[0,1,2,6,70,71,1000001],[0,1,2,6,70,71,1000001]]) ⟨[], [1000001], [1000002, 1000003, 1000004]⟩ ?_
 generalize hT0 : U9 l a to ev0 s0 = T
 generalize hR0 : U7 to ev0 = R
 have hup2 : (upA l).length = l.length := by simp [upA]
 have hup3 : ∀ i : Int, 0 ≤ i → i < l.length → (∀ k ∈ (upA l).getD i.toNat default, 0 ≤ k ∧ k < l.length) ∧ ((upA l).getD i.toNat default).length ≤ 1000000 := fun i h1 h2 => by
  have e : (upA l).getD i.toNat default = G0 l (l.length + 1) (l.getD i.toNat default) := t7 (fun x => G0 l (l.length + 1) x) l i.toNat default (by omega)
  rw [e]
  exact ⟨hup _ (j5 l _ (by omega)), Nat.le_trans (W8 l _ _) (by omega)⟩
 have hua : ∀ n i s at_, U3 (upA l) at_ n i s = U3 (upA l) at_ n i s := fun _ _ _ _ => rfl
 refine qv ?_
 refine a8v (fun ev s v w => c5j cl l a (upA l) to ev s v w) (fun ev s v _ => RuI l a ev s v ∧ U9 l a to ev s = T ∧ U7 to ev = R) (fun ev _ _ _ => ev.length) ev0 s0 0 (.any, .any, .any, .any) ⟨h0, hT0, hR0⟩ (by
  have : ∀ u0 u1 u2 : Val, m9 [(0, u0), (1, u1), (2, u2)] = m9 [(0, u0), (1, u1), (2, u2), (6, .any), (70, .any), (71, .any), (72, .any), (1000001, .any)] := fun u0 u1 u2 => by funext n; simp only [m9, ite_self]
  unfold c5j
  rw [← this]) ?_
 rintro ev s v ⟨w1, w2, w3, w4⟩ ⟨hI, hT, hR⟩
 obtain ⟨n1, n2, ok, hig, hv⟩ := id hI
 unfold c5j
 by_cases h0 : ev.length = 0
 ·obtain ⟨r1, r2⟩ := a7l (l := l) (a := a) (to := to) (s := s) h0
  rw [hT] at r1
  rw [hR] at r2
  rw [r1, r2]
  exact qt
 ·obtain ⟨r1, r2⟩ := a0U (l := l) (a := a) (to := to) (s := s) (show 0 < ev.length by omega)
  rw [hT] at r1
  rw [hR] at r2
  by_cases hto : to < (ev.getD (Int.toNat 0) default).a
  ·rw [if_pos hto] at r1 r2
   rw [r1, r2]
   exact qt
  ·rw [if_neg hto] at r1 r2
   have ez : Int.toNat 0 = 0 := rfl
   refine qv ?_
   clear r1 r2
   refine D8 (fun ev' s' v' => c7v cl l a (upA l) to (ev.getD (Int.toNat 0) default).a ev' s' v') (fun ev' s' v' => RuI l a ev' s' v' ∧ ev'.length ≤ ev.length ∧ (ev'.length = ev.length → ev' = ev) ∧ U7 to ev' = R ∧ (b9f ev' (ev.getD (Int.toNat 0) default).a = true → U9 l a to ev' s' = T) ∧ (b9f ev' (ev.getD (Int.toNat 0) default).a = false → ev'.length < ev.length ∧ U9 l a to ev' (U3 (upA l) (ev.getD (Int.toNat 0) default).a l.length 0 s') = T)) (fun ev' _ _ => ev'.length) ev s v ⟨hI, Nat.le_refl _, fun _ => rfl, hR, fun _ => hT, fun h => by rw [a0c, decide_eq_false_iff_not] at h; exact absurd ⟨by omega, rfl⟩ h⟩ rfl ?_
   generalize hat : (ev.getD (Int.toNat 0) default).a = at_ at *
   rintro ev' s' v' ⟨hI', l1, l2, hR', c1, c2⟩
   obtain ⟨n1', n2', ok', hig', hv'⟩ := id hI'
   unfold c7v
   by_cases hh : 0 < ev'.length ∧ (ev'.getD (Int.toNat 0) default).a = at_
   ·have c1 := c1 (by rw [a0c, decide_eq_true hh])
    obtain ⟨p1, p2⟩ := a0U (l := l) (a := a) (to := to) (s := s') hh.1
    rw [c1, if_neg (by omega)] at p1
    rw [hR', if_neg (by omega)] at p2
    have hap := a5x l a ev' (upA l) s' (ev'.getD (Int.toNat 0) default) n1' (by omega) (by omega) (by omega) (ok' _ (j5 _ _ (by omega)))
    obtain ⟨hh1, hh2⟩ := hh
    rw [B2] at hap
    refine qv ?_
    refine ⟨rfl, f7 hap ⟨rfl, rfl⟩ ?_⟩
    refine qv ?_
    rw [hh2] at p1
    refine ⟨ev'.drop (Int.toNat 1), C4 l a (ev'.getD (Int.toNat 0) default) s', 1, by simp only [c0l, List.map_drop], ⟨hI'.next hh1, by rw [List.length_drop]; omega, fun h => by rw [List.length_drop] at h; have : Int.toNat 1 = 1 := rfl; omega, p2.symm, fun h => ?_, fun h => ⟨by rw [List.length_drop]; have : Int.toNat 1 = 1 := rfl; omega, ?_⟩⟩, by rw [List.length_drop]; have : Int.toNat 1 = 1 := rfl; omega⟩
    ·rw [p1, if_pos h]
    ·rw [p1, if_neg (by rw [h]; simp)]
   ·obtain ⟨c3, c4⟩ := c2 (by rw [a0c, decide_eq_false hh])
    clear c1 c2 hI
    have hst : s'.st.length = l.length := n1'
    have hz : ev'.length = 0 ∨ (0 < ev'.length ∧ (ev'.getD (Int.toNat 0) default).a ≠ at_) := by
     by_cases hz : ev'.length = 0
     ·exact .inl hz
     ·exact .inr ⟨by omega, fun h => hh ⟨by omega, h⟩⟩
    rcases hz with hz | ⟨hz, hne⟩
    all_goals
     refine qv ?_
     refine n8 (fun i s'' => d1k cl l a (upA l) to at_ ev' l.length i s'' v') (fun i s'' => 0 ≤ i ∧ i ≤ l.length ∧ s''.st = s'.st ∧ s''.td.length = s'.td.length ∧ s''.ig = s'.ig ∧ U3 (upA l) at_ (l.length - i).toNat i.toNat s'' = U3 (upA l) at_ l.length 0 s') (fun i _ => (l.length - i).toNat) 0 s' ⟨by omega, by omega, rfl, rfl, rfl, rfl⟩ rfl ?_
     rintro i s2 ⟨i1, i2, i3, i4, i5, i6⟩
     unfold d1k
     by_cases hi : i < l.length
     ·have hu := hup3 i i1 hi
      have hrp := b2N l a ev' (upA l) s2 i i1 (by rw [i3]; omega) (by rw [i3]; omega) (by rw [i3, n1']; exact hu.1) (by rw [i3]; omega) hu.2
      have et := e8 u7 s2.td i [] i1 (by omega)
      have et2 := l0 u7 s2.td i.toNat (by omega)
      obtain ⟨x1, x2, x3⟩ := a0P (upA l) at_ i.toNat s2
      rw [show (l.length - i).toNat = (l.length - (i + 1)).toNat + 1 by omega, M6, show i.toNat + 1 = (i + 1).toNat by omega] at i6
      have hxr : a7s (upA l) at_ i.toNat s2 = if S5 (upA l) s2.st i.toNat ≠ (s2.td.getD i.toNat default).st then { s2 with td := s2.td.set i.toNat ⟨(s2.td.getD i.toNat default).al, S5 (upA l) s2.st i.toNat, at_⟩, out := s2.out ++ [⟨(s2.td.getD i.toNat default).al, S5 (upA l) s2.st i.toNat, at_⟩] } else s2 := rfl
      generalize hrx : S5 (upA l) s2.st i.toNat = rx at *
      generalize hry : a7s (upA l) at_ i.toNat s2 = ry at *
      by_cases hc : rx = (s2.td.getD i.toNat default).st
      ·rw [if_neg (by simpa using hc)] at hxr
       refine qv ?_
       refine ⟨rfl, f7 hrp ⟨rfl, rfl⟩ ?_⟩
       refine qv ?_
       subst hxr
       exact ⟨i + 1, ry, rfl, ⟨by omega, by omega, by omega, by omega, by omega, i6⟩, by omega⟩
      ·rw [if_pos hc] at hxr
       have hcx := hcl ⟨(s2.td.getD i.toNat default).al, rx, at_⟩
       refine qv ?_
       refine ⟨rfl, f7 hrp ⟨rfl, rfl⟩ ?_⟩
       refine qc hcx ?_
       refine qv ?_
       refine ⟨i + 1, ry, ?_, ⟨by omega, by omega, by rw [x1, i3], by omega, by rw [x3, i5], i6⟩, by omega⟩
       rw [hxr]
       simp only [l9, List.map_set, F4]
     ·rw [show (l.length - i).toNat = 0 by omega, U3] at i6
      rw [← i6] at c4
      refine qv ?_
      exact ⟨ev', s2, v', (_, _, _, _), rfl, ⟨⟨by rw [i3]; omega, by omega, ok', by rw [i5]; omega, hv'⟩, c4, hR'⟩, by omega⟩
end Go.Proofs.YtbhgndiboeppeaaGreatDoor

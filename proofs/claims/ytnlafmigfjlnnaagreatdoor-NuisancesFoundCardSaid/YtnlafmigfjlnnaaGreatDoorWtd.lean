/- The reference's watch of alarms. -/
import Derived.MapKept
import Derived.Test.YtnlafmigfjlnnaaGreatDoorRlt
set_option linter.all false
set_option maxHeartbeats 0
set_option maxRecDepth 100000
namespace Go.Proofs.YtnlafmigfjlnnaaGreatDoor
open Go Go.Ai
abbrev G6 (l : List Sta) : Row := ⟨0, 141, 4, l.map c7m⟩
abbrev x9 (l : List Std) : Row := ⟨0, 96, 3, l.map a8S⟩
abbrev n8 (l : List Int) : Row := ⟨0, 3, 1, l.map N3⟩
def upC (x : List Int) : List Cel := [.sl true 1 (x.map N3)]
theorem c0U (x : List Int) : upC x = [.sl true 1 (x.map N3)] := (rfl)
attribute [go_sem] c0U
theorem a0o {α : Type} {f : α -> List Cel} (h : ∀ x, (f x).all o6 = true) (l : List α) : frE (l.map f) = true := by
 unfold frE
 rw [List.all_eq_true]
 intro e he
 obtain ⟨x, _, rfl⟩ := List.mem_map.1 he
 exact h x
theorem U7 {α : Type} {f : α -> List Cel} (h : ∀ x, (f x).map Cel.dat = f x) (l : List α) : F8 (l.map f) = l.map f := by
 unfold F8
 rw [List.map_map]
 exact List.map_congr_left fun x _ => h x
theorem V7 {α : Type} {f : α -> List Cel} (h : ∀ x, (f x).map Cel.tof = f x) (l : List α) : a0k (l.map f) = l.map f := by
 unfold a0k
 rw [List.map_map]
 exact List.map_congr_left fun x _ => h x
theorem c6X (l : List Sta) : frE (l.map c7m) = true := a0o (fun _ => rfl) l
theorem c6U (l : List Std) : frE (l.map a8S) = true := a0o (fun _ => rfl) l
theorem b8U (l : List Sta) : F8 (l.map c7m) = l.map c7m := U7 (fun _ => rfl) l
theorem b8q (l : List Std) : F8 (l.map a8S) = l.map a8S := U7 (fun _ => rfl) l
theorem b8t (l : List Std) : a0k (l.map a8S) = l.map a8S := V7 (fun _ => rfl) l
attribute [go_sem] c6X c6U b8U b8q b8t
theorem a4g {α β : Type} (f : α -> β) (l : List α) (i : Nat) (x : β) (h : i < l.length) : ((l.map f).set i x)[i]? = some x := by
 rw [List.getElem?_set_self (by simpa using h)]
theorem a5s {α β : Type} (f : α -> β) (l : List α) (i : Nat) (x y : β) : ((l.map f).set i x).set i y = (l.map f).set i y := by simp
attribute [go_sem] a4g a5s List.length_set
theorem a7Z {α : Type} [Inhabited α] (l : List α) (i : Nat) (h : i < l.length) : l.set i (l.getD i default) = l := by
 rw [List.getD_eq_getElem?_getD, List.getElem?_eq_getElem h]; exact List.set_getElem_self h
theorem c4K (st : List Sta) (i : Int) (h0 : 0 <= i) (h : i < st.length) (a : Opr) : F9 Tryz.prog 136 [1000002] ⟨[], [(1000002, G6 st)]⟩ [.one (.op 1000002 0 i.toNat 0), .ag (O4 a)]
  (fun H r => H = ⟨[], [(1000002, G6 (st.set i.toNat (c3O (st.getD i.toNat default) a).1))]⟩ ∧ r = bv (c3O (st.getD i.toNat default) a).2) := by
 refine fsE Tryz.func136 (aM [3] [1000002] [[0,3],[0,3,7],[0,3,7,8]] ++ aM [] [1000002] [[],[4],[0,15],[0,5],[5],[4],[0,29],[0,29,30],[],[4],[0,38],[],[4],[4]]) ⟨[], [], [1000002]⟩ ?_
 unfold c3O
 by_cases k2 : a.kd = 2
 ·rw [if_pos k2]
  refine qv ?_
  simp [List.map_set, J0]
 rw [if_neg k2]
 by_cases k3 : a.kd = 3
 ·rw [if_pos k3]
  refine qv ?_
  simp [List.map_set, J0]
 rw [if_neg k3]
 by_cases b2 : (st.getD i.toNat default).bl = 2
 ·rw [if_pos b2]
  refine qv ?_
  simp [List.map_set, J0]
 rw [if_neg b2]
 by_cases b4 : (st.getD i.toNat default).bl = 4
 ·rw [if_pos b4]
  refine qv ?_
  simp [List.map_set, J0]
 rw [if_neg b4]
 simp only [a7Z st i.toNat (by omega)]
 exact qt
abbrev siC (l : List Alm) (a : List Opr) (ev : List Ev) (up : List (List Int)) : List Cel := [.sl false 10 (l.map D0), .sl false 6 (a.map O4), .sl false 5 (ev.map evS), .sl false 1 (up.map upC), .ow 1000002 0, .ow 1000003 0, .ow 1000004 0]
abbrev siH (l : List Alm) (a : List Opr) (ev : List Ev) (up : List (List Int)) (s : Sit) : Hp := ⟨[(1000001, siC l a ev up)], [(1000002, G6 s.st), (1000003, x9 s.td), (1000004, n8 s.ig)]⟩
theorem b2E (l : List Alm) (a : List Opr) (ev : List Ev) (up : List (List Int)) (s : Sit) (e : Ev) (h1 : s.st.length = l.length) (h2 : l.length <= 1000000) (h3 : a.length <= 1000000) (h4 : s.ig.length <= 1000000) (he : d4b l.length a.length e) :
  F9 Tryz.prog 90 [1000002, 1000003] (siH l a ev up s) [.one (.bx 1000001 0), .ag (evS e)] (fun H r => H = siH l a ev up (C6 l a e s) ∧ r = .tu []) := by
 refine fsE Tryz.func90 (aM [3,1000001] [1000002,1000003,1000004] [[0,3,1000001],[0,3,7,1000001]] ++ [⟨(kP [0,3,29,1000001] [3,1000001] [1000002,1000003,1000004]),[],[],[],[(27,⟨[],[1000002],[],[1000002],[1000002]⟩)]⟩,aN [] [1000001] [1000002,1000003,1000004]] ++ aM [3,1000001] [1000002,1000003,1000004] [[0,3,4,1000001],[0,3,4,73,1000001]] ++ aM [1000001] [1000002,1000003,1000004] [[4,83],[]] ++ [aN [0,3,4,87,1000001] [3,1000001] [1000002,1000003,1000004],aN [] [1000001] [1000002,1000003,1000004],aN [0,3,4,1000001] [3,1000001] [1000002,1000003,1000004]] ++ aM [1000001] [1000002,1000003,1000004] [[4,69],[]]) ⟨[], [1000001], [1000002, 1000003, 1000004]⟩ ?_
 obtain ⟨e1, e2, e3⟩ := he
 unfold C6
 by_cases k2 : e.k = 2
 ·rw [if_pos k2]
  by_cases a0 : e.al < 0
  ·rw [if_pos a0]
   refine qv ?_
   simp [a0i]
  ·rw [if_neg a0]
   have e3 := e3 k2
   have ha := c4K s.st e.al (by omega) (by omega) (a.getD e.ac.toNat default)
   generalize c3O (s.st.getD e.al.toNat default) (a.getD e.ac.toNat default) = y at *
   obtain ⟨y1, y2⟩ := y
   simp only at ha
   cases y2 with
   | true =>
    refine qv ?_
    refine ⟨rfl, e7 ha ⟨rfl, rfl⟩ ?_⟩
    exact qt
   | false =>
    refine qv ?_
    refine ⟨rfl, e7 ha ⟨rfl, rfl⟩ ?_⟩
    refine qv ?_
    simp [a0i]
 rw [if_neg k2]
 have e2 := e2 k2
 unfold a3q
 by_cases k1 : e.k = 1
 ·rw [if_pos k1]
  by_cases u1 : (s.st.getD e.al.toNat default).un = e.a
  ·rw [if_pos u1]
   refine qv ?_
   simp [List.map_set, J0]
  ·rw [if_neg u1, a7Z s.st e.al.toNat (by omega)]
   exact qt
 rw [if_neg k1]
 cases hon : e.on with
 | true =>
  rw [if_pos rfl]
  refine qv ?_
  simp only [hon]
  simp [List.map_set, J0]
 | false =>
  rw [if_neg (by simp)]
  cases hlt : (l.getD e.al.toNat default).lt with
  | true =>
   cases hak : (s.st.getD e.al.toNat default).ak with
   | true =>
    rw [if_neg (by simp)]
    refine qv ?_
    simp only [hon, hlt, hak]
    simp [List.map_set, J0]
   | false =>
    rw [if_pos (by simp)]
    refine qv ?_
    simp only [hon, hlt, hak]
    simp [List.map_set, J0]
  | false =>
   rw [if_neg (by simp)]
   refine qv ?_
   simp only [hon, hlt]
   simp [List.map_set, J0]
def d1o (l : List Alm) (a : List Opr) (ev : List Ev) (up : List (List Int)) (s : Sit) (i : Int) (x : List Int) (j : Int) : AS := ⟨m7 [(0, .one (.bx 1000001 0)), (1, iv i), (13, W0 false x), (14, iv x.length), (15, iv j), (1000001, .any)], f7 [(1000001, siC l a ev up)], f7 [(1000002, G6 s.st), (1000003, x9 s.td), (1000004, n8 s.ig)]⟩
theorem c3w (l : List Alm) (a : List Opr) (ev : List Ev) (up : List (List Int)) (s : Sit) (i : Int) (h0 : 0 <= i) (h1 : i < s.st.length) (h2 : up.length = s.st.length) (h3 : ∀ k ∈ up.getD i.toNat default, 0 <= k ∧ k < s.st.length) (h4 : s.st.length <= 1000000) (h5 : (up.getD i.toNat default).length <= 1000000) :
  F9 Tryz.prog 91 [1000002, 1000003, 1000004] (siH l a ev up s) [.one (.bx 1000001 0), iv i] (fun H r => H = siH l a ev up s ∧ r = iv (V3 up s.st i.toNat)) := by
 refine fsE Tryz.func91 (aM [1000001] [1000002,1000003,1000004] [[0,1,1000001],[0,1,13,14,15,1000001],[0,1,13,14,15,16,1000001],[0,1,6,13,14,15,1000001],[0,1,13,14,15,26,1000001],[4],[0,1,13,14,15,1000001],[0,1,36,1000001],[4],[4]]) ⟨[], [1000001], [1000002, 1000003, 1000004]⟩ ?_
 have eu : (up.getD i.toNat ([] : List Int)) = up.getD i.toNat default := rfl
 unfold V3
 rw [eu]
 generalize hx : up.getD i.toNat default = x at *
 refine qv ?_
 simp only [hx]
 refine l0 (d1o l a ev up s i x) (fun j => 0 <= j ∧ j <= x.length ∧ (x.drop j.toNat).any (fun k => (s.st.getD k.toNat default).ac) = x.any (fun k => (s.st.getD k.toNat default).ac)) (fun j => (x.length - j).toNat) 0 ⟨by omega, by omega, rfl⟩ rfl ?_
 rintro j ⟨g1, g2, g3⟩
 unfold d1o
 by_cases hj : j < x.length
 ·have e2 : (j + 1).toNat = j.toNat + 1 := by omega
  rw [m5 x j.toNat (by omega), List.any_cons] at g3
  have hk := h3 _ (f8 x j.toNat (by omega))
  cases hb : (s.st.getD (x.getD j.toNat default).toNat default).ac with
  | true =>
   rw [hb, Bool.true_or] at g3
   rw [<- g3, if_pos rfl]
   refine qv ?_
   exact fun h => by rw [hb] at h; simp at h
  | false =>
   rw [hb, Bool.false_or] at g3
   refine qv ?_
   refine ⟨fun h => by rw [hb] at h; simp at h, fun _ => ⟨j + 1, rfl, ⟨by omega, by omega, by rw [e2]; exact g3⟩, by omega⟩⟩
 ·rw [List.drop_eq_nil_of_le (by omega), List.any_nil] at g3
  rw [<- g3, if_neg (by simp)]
  by_cases hu : (s.st.getD i.toNat default).un > 0
  ·rw [if_pos hu]
   exact qt
  ·rw [if_neg hu]
   exact qt
def a3r (to : Int) : List Ev -> List Ev
 | [] => []
 | e :: r => if to < e.a then e :: r else a3r to r
abbrev d2I (v : Nat) (l : List Alm) (a : List Opr) (ev : List Ev) (up : List (List Int)) : List Cel := [.sl false 10 (l.map D0), .sl false 6 (a.map O4), .sl false 5 (ev.map evS), .sl false 1 (up.map upC), .ow 1000002 0, .ow 1000003 0, .ow 1000004 v]
abbrev d4P (v : Nat) (l : List Int) : Row := ⟨v, 3, 1, l.map N3⟩
theorem a8F (l : List Alm) (a : List Opr) (e : Ev) (s : Sit) : (C6 l a e s).st.length = s.st.length ∧ (C6 l a e s).td = s.td ∧ (C6 l a e s).ig.length <= s.ig.length + 1 := by
 unfold C6
 split
 ·split
  ·exact ⟨rfl, rfl, by simp⟩
  ·refine ⟨by simp, rfl, ?_⟩
   dsimp only
   split
   ·omega
   ·simp
 ·exact ⟨by simp, rfl, by simp⟩
def b0W (up : List (List Int)) (at_ : Int) (i : Nat) (s : Sit) : Sit := if V3 up s.st i ≠ (s.td.getD i default).st then { s with td := s.td.set i ⟨(s.td.getD i default).al, V3 up s.st i, at_⟩, out := s.out ++ [⟨(s.td.getD i default).al, V3 up s.st i, at_⟩] } else s
theorem a1Q (up : List (List Int)) (at_ : Int) (n i : Nat) (s : Sit) : a0D up at_ (n + 1) i s = a0D up at_ n (i + 1) (b0W up at_ i s) := rfl
theorem b5z (up : List (List Int)) (at_ : Int) (i : Nat) (s : Sit) : (b0W up at_ i s).st = s.st ∧ (b0W up at_ i s).td.length = s.td.length ∧ (b0W up at_ i s).ig = s.ig := by
 unfold b0W
 split
 ·exact ⟨rfl, by simp, rfl⟩
 ·exact ⟨rfl, rfl, rfl⟩
theorem kvR (v : Nat) (h : v <= 1) : kv 1000004 v = v := by
 unfold kv; rw [if_neg (by simp [XK])]; omega
theorem kvS (v : Nat) : kv 1000004 (v + 1) = 1 := by
 unfold kv; rw [if_neg (by simp [XK])]; omega
attribute [go_sem] kvR kvS
theorem b9S {l : List Alm} {a : List Opr} {to : Int} {ev : List Ev} {s : Sit} (h : ev.length = 0) : a4s l a to ev s = s ∧ a3r to ev = ev := by
 have := List.length_eq_zero_iff.1 h
 subst this; exact ⟨rfl, rfl⟩
theorem a6j {ev : List Ev} (t : Int) : c3s ev t = decide (0 < ev.length ∧ (ev.getD (Int.toNat 0) default).a = t) := by
 cases ev with
 | nil => rfl
 | cons e r => simp [c3s]
theorem a7x {l : List Alm} {a : List Opr} {to : Int} {ev : List Ev} {s : Sit} (h : 0 < ev.length) : a4s l a to ev s = (if to < (ev.getD (Int.toNat 0) default).a then s else a4s l a to (ev.drop (Int.toNat 1)) (if c3s (ev.drop (Int.toNat 1)) (ev.getD (Int.toNat 0) default).a = true then C6 l a (ev.getD (Int.toNat 0) default) s else a0D (upA l) (ev.getD (Int.toNat 0) default).a l.length 0 (C6 l a (ev.getD (Int.toNat 0) default) s))) ∧ a3r to ev = if to < (ev.getD (Int.toNat 0) default).a then ev else a3r to (ev.drop (Int.toNat 1)) := by
 cases ev with
 | nil => simp at h
 | cons e r => exact ⟨rfl, rfl⟩
structure RuI (l : List Alm) (a : List Opr) (ev : List Ev) (s : Sit) (v : Nat) : Prop where
 n1 : s.st.length = l.length
 n2 : s.td.length = l.length
 ok : ∀ e ∈ ev, d4b l.length a.length e
 ig : s.ig.length + ev.length <= 1000000
 v1 : v <= 1
theorem RuI.next {l : List Alm} {a : List Opr} {ev : List Ev} {s : Sit} {v : Nat} (h : RuI l a ev s v) (h0 : 0 < ev.length) : RuI l a (ev.drop (Int.toNat 1)) (C6 l a (ev.getD (Int.toNat 0) default) s) 1 := by
 obtain ⟨n1, n2, ok, hig, hv⟩ := h
 obtain ⟨a1, a2, a3⟩ := a8F l a (ev.getD (Int.toNat 0) default) s
 refine ⟨by omega, by rw [a2]; exact n2, fun e he => ok e (List.mem_of_mem_drop he), ?_, by omega⟩
 rw [List.length_drop]; omega
/-! ### maps as they lie -/
instance : LawfulBEq ByteArray where
 eq_of_beq h := (MapKept.bytes_beq _ _).1 h
 rfl := (MapKept.bytes_beq _ _).2 rfl
def mST (m : List (ByteArray × Int)) : List (List Cel) := m.map fun p => [.g (.string p.1), .g (.int .i64 p.2)]
theorem a0a (k j : ByteArray) (c : Cel) : a2U (.string k) [.g (.string j), c] = decide (j = k) := by
 have e : a2U (.string k) [.g (.string j), c] = (k == j) := rfl
 rw [e]
 by_cases h : j = k
 ·subst h; simp
 ·rw [decide_eq_false h]
  exact Bool.eq_false_iff.2 fun c => h (beq_iff_eq.1 c).symm
theorem b3u (k : ByteArray) : ∀ m : List (ByteArray × Int), (Z3 (.string k) (mST m)).getD (.g (.int .i64 0)) = .g (.int .i64 (mgt k m))
 | [] => rfl
 | p :: m => by
  have ih := b3u k m
  rw [show mST (p :: m) = [.g (.string p.1), .g (.int .i64 p.2)] :: mST m from rfl, Z3, a0a, mgt]
  by_cases h : p.1 = k
  ·rw [if_pos (decide_eq_true h), if_pos h]; rfl
  ·rw [if_neg (by simp [h]), if_neg h, ih]
theorem b4Y (k : ByteArray) (v : Int) : ∀ m : List (ByteArray × Int), a4u (.string k) (.g (.int .i64 v)) (mST m) = mST (mpt k v m)
 | [] => rfl
 | p :: m => by
  have ih := b4Y k v m
  rw [show mST (p :: m) = [.g (.string p.1), .g (.int .i64 p.2)] :: mST m from rfl, a4u, a0a, mpt]
  by_cases h : p.1 = k
  ·rw [if_pos (decide_eq_true h), if_pos h]; rfl
  ·rw [if_neg (by simp [h]), if_neg h, ih]; rfl
theorem d2s (m : List (ByteArray × Int)) : frE (mST m) = true := a0o (fun _ => rfl) m
theorem c4Z (m : List (ByteArray × Int)) : F8 (mST m) = mST m := U7 (fun _ => rfl) m
theorem c4r (m : List (ByteArray × Int)) : a0k (mST m) = mST m := V7 (fun _ => rfl) m
attribute [go_sem] b3u b4Y d2s c4Z c4r
abbrev mpR (m : List (ByteArray × Int)) : Row := ⟨0, 0, 0, mST m⟩
def waC (l : List Alm) (ac : List (List Cel)) : List Cel := [.sl false 10 (l.map D0), .fm 0 ac, .mp 1000002, .mp 1000003, .ow 1000004 0]
abbrev waH (l : List Alm) (ac : List (List Cel)) (r : Rst) : Hp := ⟨[(1000001, waC l ac)], [(1000002, mpR r.st), (1000003, mpR r.sh), (1000004, n8 r.ig)]⟩
theorem b0c (l : List Alm) (ac : List (List Cel)) (r : Rst) (x : Alm) : F9 Tryz.prog 143 [1000002, 1000003, 1000004] (waH l ac r) [.one (.bx 1000001 0), .ag (D0 x)]
  (fun H y => H = waH l ac { r with st := mpt x.k (if x.lt = true ∧ mgt x.k r.st = 2 then 4 else 1) r.st } ∧ y = .tu []) := by
 refine fsE Tryz.func143 (aM [3,1000001] [1000002,1000003,1000004] [[0,3,1000001],[0,3,15,1000001]] ++ aM [1000001] [1000002,1000003,1000004] [[],[]]) ⟨[], [1000001], [1000002, 1000003, 1000004]⟩ ?_
 unfold waH waC
 by_cases hc : x.lt = true ∧ mgt x.k r.st = 2
 ·rw [if_pos hc]
  obtain ⟨h1, h2⟩ := hc
  refine qvs ?_
  exact fun h => by rw [h1] at h; cases h
 ·rw [if_neg hc]
  refine qvs ?_
  exact fun h1 h2 => absurd ⟨h1, h2⟩ hc
theorem c0b (l : List Alm) (hl : l.length <= 1000000) (ac : List (List Cel)) (r : Rst) (x : Opr) : F9 Tryz.prog 145 [1000002, 1000003, 1000004] (waH l ac r) [.one (.bx 1000001 0), .ag (O4 x)]
  (fun H y => H = waH l ac (actR l x r).1 ∧ y = bv (actR l x r).2) := by
 refine fsE Tryz.func145 (aM [3,1000001] [1000002,1000003,1000004] [[0,3,1000001],[0,3,13,1000001]] ++ [aN [4] [1000001] [1000002,1000003,1000004]] ++ aM [3,1000001] [1000002,1000003,1000004] [[0,3,15,1000001],[0,3,15,16,1000001]] ++ aM [1000001] [1000002,1000003,1000004] [[],[4]] ++ aM [3,1000001] [1000002,1000003,1000004] [[0,3,26,1000001],[0,3,5,1000001]] ++ aM [1000001] [1000002,1000003,1000004] [[5],[4]] ++ aM [3,1000001] [1000002,1000003,1000004] [[0,3,51,1000001],[0,3,51,52,1000001]] ++ [aN [] [1000001] [1000002,1000003,1000004],aN [0,3,60,1000001] [3,1000001] [1000002,1000003,1000004]] ++ aM [1000001] [1000002,1000003,1000004] [[],[4],[4]]) ⟨[], [1000001], [1000002, 1000003, 1000004]⟩ ?_
 have hf := R3 x.al l hl
 unfold waH waC actR
 by_cases h0 : v7 l x.al < 0
 ·rw [if_pos h0]
  refine qcs hf ?_
  exact qts
 rw [if_neg h0]
 by_cases k2 : x.kd = 2
 ·rw [if_pos k2]
  refine qcs hf ?_
  exact qts
 rw [if_neg k2]
 by_cases k3 : x.kd = 3
 ·rw [if_pos k3]
  refine qcs hf ?_
  exact qts
 rw [if_neg k3]
 by_cases b2 : mgt x.al r.st = 2
 ·rw [if_pos b2]
  refine qcs hf ?_
  exact qts
 rw [if_neg b2]
 by_cases b4 : mgt x.al r.st = 4
 ·rw [if_pos b4]
  refine qcs hf ?_
  exact qts
 rw [if_neg b4]
 refine qcs hf ?_
 exact qts
/-! ### what is active -/
def wnK (s : List Ser) (k : ByteArray) : List Alm -> List (Int × Int)
 | [] => []
 | x :: l => if x.k = k then m8 s x else wnK s k l
theorem b3w (s : List Ser) (k : ByteArray) : ∀ (l : List Alm) (j : Int), 0 <= j -> wnK s k l = if 0 <= D3 (fun x : Alm => decide (x.k = k)) j l then m8 s (l.getD (D3 (fun x : Alm => decide (x.k = k)) j l - j).toNat default) else []
 | [], j, _ => by rw [wnK, D3, if_neg (by omega)]
 | x :: l, j, hj => by
  have ih := b3w s k l (j + 1) (by omega)
  rw [wnK]
  by_cases h : x.k = k
  ·have e : D3 (fun x : Alm => decide (x.k = k)) j (x :: l) = j := by rw [D3, if_pos (decide_eq_true h)]
   rw [e, if_pos h, if_pos hj, Int.sub_self]; rfl
  ·have e : D3 (fun x : Alm => decide (x.k = k)) j (x :: l) = D3 (fun x : Alm => decide (x.k = k)) (j + 1) l := by rw [D3, if_neg (by simp [h])]
   rw [e, if_neg h, ih]
   have hr := N2 (fun x : Alm => decide (x.k = k)) l (j + 1)
   by_cases c : 0 <= D3 (fun x : Alm => decide (x.k = k)) (j + 1) l
   ·rw [if_pos c, if_pos c, show (D3 (fun x : Alm => decide (x.k = k)) (j + 1) l - j).toNat = (D3 (fun x : Alm => decide (x.k = k)) (j + 1) l - (j + 1)).toNat + 1 by omega]
    rfl
   ·rw [if_neg c, if_neg c]
def acM (s : List Ser) (l : List Alm) : List (List Cel) := l.map fun x => [.g (.string x.k), .sl false 2 ((m8 s x).map frC)]
theorem a3C (W : List (Int × Int)) : Cel.dat (.sl false 2 (W.map frC)) = .sl false 2 (W.map frC) := by
 have h := b4M W
 unfold F8 at h
 simp only [Cel.dat]
theorem b1c (s : List Ser) (k : ByteArray) : ∀ l : List Alm, (O7 (.string k) (acM s l)).getD (.sl false 2 []) = .sl false 2 ((wnK s k l).map frC)
 | [] => rfl
 | x :: l => by
  have ih := b1c s k l
  rw [show acM s (x :: l) = [.g (.string x.k), .sl false 2 ((m8 s x).map frC)] :: acM s l from rfl, O7, a0a, wnK]
  by_cases h : x.k = k
  ·rw [if_pos (decide_eq_true h), if_pos h]
   show Option.getD (some (Cel.dat _)) _ = _
   rw [a3C]; rfl
  ·rw [if_neg (by simp [h]), if_neg h, ih]
attribute [go_sem] b1c
theorem c2L (w : Int × Int) (t : Int) : FC Tryz.prog 173 none [.ag (frC w), .one (.ep [.g (.int .i64 t)])] (fun _ r => r = bv (decide (w.1 <= t ∧ t < w.2))) := by
 refine fcE Tryz.func173 [aN [1,2] [2] [],aN [3] [] []] ?_
 by_cases h1 : w.1 <= t
 ·rw [show decide (w.1 <= t ∧ t < w.2) = decide (t < w.2) by simp [h1]]
  exact qts
 ·rw [decide_eq_false (fun h => h1 h.1)]
  exact qts
theorem b2K {α : Type} (p : α -> Bool) : ∀ (l : List α) (i : Int), 0 <= i -> decide (0 <= D3 p i l) = l.any p
 | [], i, _ => rfl
 | x :: l, i, hi => by
  rw [D3, List.any_cons, <- b2K p l (i + 1) (by omega)]
  cases hx : p x with
  | true => rw [if_pos rfl, decide_eq_true hi]; rfl
  | false => rw [if_neg (by simp)]; rfl
theorem b9m (W : List (Int × Int)) (hW : W.length <= 1000000) (t : Int) : FC Tryz.prog 172 none [a0C false W, .one (.fn 173 [.ep [.g (.int .i64 t)]])] (fun _ r => r = bv (W.any fun w => decide (w.1 <= t ∧ t < w.2))) := by
 refine fcE Tryz.func172 (aL [[0,1],[4]]) ?_
 have hi := c2l 173 [.g (.int .i64 t)] (fun w => decide (w.1 <= t ∧ t < w.2)) W hW (fun x _ => c2L x t)
 rw [<- b2K (fun w : Int × Int => decide (w.1 <= t ∧ t < w.2)) W 0 (by omega)]
 refine qcs hi ?_
 exact qts
theorem b6d (l : List Alm) (s : List Ser) (r : Rst) (k : ByteArray) (t : Int) (hW : (wnK s k l).length <= 1000000) : F9 Tryz.prog 149 [1000002, 1000003, 1000004] (waH l (acM s l) r) [.one (.bx 1000001 0), sv k, iv t]
  (fun H y => H = waH l (acM s l) r ∧ y = bv ((wnK s k l).any fun w => decide (w.1 <= t ∧ t < w.2))) := by
 refine fsE Tryz.func149 [aN [0,1,5,1000001] [5,1000001] [1000002,1000003,1000004],aN [6] [1000001] [1000002,1000003,1000004]] ⟨[], [1000001], [1000002, 1000003, 1000004]⟩ ?_
 have hc := b9m (wnK s k l) hW t
 unfold waH waC
 refine qcs hc ?_
 exact qts
/-! ### what is reported -/
def d3e (l : List Alm) (s : List Ser) (r : Rst) (x : Alm) (t : Int) (p : ByteArray) : AS := ⟨m7 [(0, .one (.bx 1000001 0)), (2, iv t), (4, .one (.bx 4 0)), (7, sv p), (1000001, .any)], f7 [(4, D0 x), (1000001, waC l (acM s l))], f7 [(1000002, mpR r.st), (1000003, mpR r.sh), (1000004, n8 r.ig)]⟩
theorem b9h (l : List Alm) (hA : J4 l) (s : List Ser) (hW : ∀ k, (wnK s k l).length <= 1000000) (r : Rst) (x : Alm) (hx : x ∈ l) (t : Int) : F9 Tryz.prog 101 [1000002, 1000003, 1000004] (waH l (acM s l) r) [.one (.bx 1000001 0), .ag (D0 x), iv t]
  (fun H y => H = waH l (acM s l) r ∧ y = iv (c0J l s r x t)) := by
 refine fsE Tryz.func101 (aM [4,1000001] [1000002,1000003,1000004] [[0,2,4,1000001],[0,2,4,7,1000001],[0,2,4,7,11,1000001]] ++ [⟨(kP [0,2,4,7,28,1000001] [4,1000001] [1000002,1000003,1000004]),[],[],[],[(28,⟨[1000001],[1000002,1000003,1000004],[1000001],[1000002,1000003,1000004],[1000002,1000003,1000004]⟩)]⟩,aN [6] [1000001] [1000002,1000003,1000004]] ++ aM [4,1000001] [1000002,1000003,1000004] [[0,2,4,7,1000001],[0,4,37,1000001]] ++ aM [1000001] [1000002,1000003,1000004] [[6],[6]]) ⟨[], [1000001], [1000002, 1000003, 1000004]⟩ ?_
 have hl := hA.len
 have hch := hA.chn x hx
 unfold c0J
 generalize hT : (G9 l (l.length + 1) x).any (fun j => a0y s (l.getD j.toNat default) t) = T
 unfold waH waC
 refine qvs ?_
 refine j7 (fun (y : Alm) (n : Nat) => d3e l s r x t y.p) (fun y n => y ∈ l ∧ (G9 l n y).length < n ∧ (G9 l n y).any (fun j => a0y s (l.getD j.toNat default) t) = T) (fun _ n => n) x (l.length + 1) ⟨hx, by omega, hT⟩ ?_ ?_
 ·unfold d3e waC
  simp only [j9]
 rintro y n ⟨h1, h2, h3⟩
 unfold d3e waC
 by_cases c1 : y.p = emp
 ·have e : G9 l n y = [] := by
   cases n with
   | zero => rfl
   | succ n => rw [G9, if_pos c1]
  rw [e, List.any_nil] at h3
  subst h3
  have c1' : ¬¬y.p = emp := fun h => h c1
  rw [if_neg (by simp)]
  by_cases c2 : mgt x.k r.sh > t
  ·rw [if_pos c2]
   exact qts
  ·rw [if_neg c2]
   exact qts
 ·have hix := hA.par y h1 c1
  obtain ⟨n, rfl⟩ : ∃ m, n = m + 1 := ⟨n - 1, by omega⟩
  have hc := R3 y.p l (by omega)
  have hpm : a3l l y ∈ l := f8 l _ (by omega)
  have hi := b6d l s r y.p t (hW _)
  have hwk : (wnK s y.p l).any (fun w => decide (w.1 <= t ∧ t < w.2)) = a0y s (l.getD (v7 l y.p).toNat default) t := by
   have := b3w s y.p l 0 (by omega)
   rw [Int.sub_zero] at this
   rw [this, if_pos (show 0 <= D3 (fun x : Alm => decide (x.k = y.p)) 0 l from hix.1)]; rfl
  rw [hwk] at hi
  rw [G9, if_neg c1] at h2 h3
  rw [List.any_cons] at h3
  rw [List.length_cons] at h2
  have epo : a3l l y = l.getD (v7 l y.p).toNat default := rfl
  rw [epo] at h2 h3 hpm
  unfold waH waC at hi
  cases hb : a0y s (l.getD (v7 l y.p).toNat default) t with
  | true =>
   rw [hb] at h3 hi
   rw [Bool.true_or] at h3
   subst h3
   rw [if_pos rfl]
   refine qvs ?_
   refine ⟨rfl, e7 hi ⟨rfl, rfl⟩ ?_⟩
   exact qts
  | false =>
   rw [hb] at h3 hi
   rw [Bool.false_or] at h3
   refine qvs ?_
   refine ⟨rfl, e7 hi ⟨rfl, rfl⟩ ?_⟩
   refine qcs hc ?_
   refine qvs ?_
   exact ⟨_, n, rfl, ⟨hpm, by omega, h3⟩, by omega⟩
abbrev wbH (l : List Alm) (ac : List (List Cel)) (r : Rst) : Hp := ⟨[(1000001, waC l ac), (1000005, [.bx 1000001 0])], [(1000002, mpR r.st), (1000003, mpR r.sh), (1000004, n8 r.ig)]⟩
theorem c5a (l : List Alm) (ac : List (List Cel)) (r : Rst) (x : Alm) : F9 Tryz.prog 141 [1000002, 1000003] (wbH l ac r) [.one (.bx 1000005 0), .one (.ep (D0 x))]
  (fun H y => H = wbH l ac { r with st := mpt x.k 2 r.st } ∧ y = .tu []) := by
 refine fsE Tryz.func141 [aN [] [1000001,1000005] [1000001,1000002,1000003,1000004]] ⟨[], [1000001, 1000005], [1000002, 1000003, 1000004]⟩ ?_
 unfold wbH waC
 exact qts
theorem c2S (l : List Alm) (ac : List (List Cel)) (r : Rst) (x : Alm) : F9 Tryz.prog 142 [1000002, 1000003] (wbH l ac r) [.one (.bx 1000005 0), .one (.ep (D0 x))]
  (fun H y => H = wbH l ac { r with st := mpt x.k (if x.lt = true ∧ mgt x.k r.st = 2 then 4 else 1) r.st } ∧ y = .tu []) := by
 refine fsE Tryz.func142 [⟨(kP [] [1000001,1000005] [1000001,1000002,1000003,1000004]),[],[],[],[(4,⟨[1000001],[1000002,1000003,1000004],[1000001],[1000002,1000003,1000004],[1000002,1000003,1000004]⟩)]⟩] ⟨[], [1000001, 1000005], [1000002, 1000003, 1000004]⟩ ?_
 have ht := b0c l ac r x
 unfold wbH waC
 unfold waH waC at ht
 refine qvs ?_
 refine ⟨rfl, e7 ht ⟨rfl, rfl⟩ ?_⟩
 exact qts
theorem c2T (l : List Alm) (hl : l.length <= 1000000) (ac : List (List Cel)) (r : Rst) (hr : r.ig.length <= 1000000) (x : Opr) (k : Nat) : F9 Tryz.prog 144 [1000002, 1000003] (wbH l ac r) [.one (.bx 1000005 0), .one (.ep (O4 x)), .one (.ep [.g (.int .i64 k)])]
  (fun H y => H = wbH l ac (if (actR l x r).2 = true then (actR l x r).1 else { (actR l x r).1 with ig := (actR l x r).1.ig ++ [(k : Int)] }) ∧ y = .tu []) := by
 refine fsE Tryz.func144 [⟨(kP [0,2,6,1000005] [1000001,1000005] [1000001,1000002,1000003,1000004]),[],[],[],[(5,⟨[1000001],[1000002,1000003,1000004],[1000001],[1000002,1000003,1000004],[1000002,1000003,1000004]⟩)]⟩,⟨(kP [] [1000001,1000005] [1000001,1000002,1000003,1000004]),[],[(0,(some 1000005))],[],[]⟩] ⟨[], [1000001, 1000005], [1000002, 1000003, 1000004]⟩ ?_
 have ht := c0b l hl ac r x
 have hig : (actR l x r).1.ig = r.ig := by
  unfold actR
  (repeat' split) <;> rfl
 unfold wbH waC
 unfold waH waC at ht
 refine qvs ?_
 refine ⟨rfl, e7 ht ⟨rfl, rfl⟩ ?_⟩
 generalize actR l x r = q at hig ⊢
 cases hq : q.2 with
 | true => exact qts
 | false =>
  have hq' : q.1.ig.length <= 1000000 := by rw [hig]; exact hr
  refine qvs ?_
  rw [n8, List.map_append]; rfl
theorem c7G : FC Tryz.prog 146 none [] (fun _ y => y = .tu []) := by
 refine fcE Tryz.func146 [] ?_
 exact qts
end Go.Proofs.YtnlafmigfjlnnaaGreatDoor

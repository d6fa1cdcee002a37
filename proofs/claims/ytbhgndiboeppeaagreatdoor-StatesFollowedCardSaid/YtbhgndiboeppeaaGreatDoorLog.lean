/- The log of alarms: all changes within a window. -/
import Derived.Test.YtbhgndiboeppeaaGreatDoorSns
set_option linter.all false
set_option maxHeartbeats 4000000
set_option maxRecDepth 100000
namespace Go.Proofs.YtbhgndiboeppeaaGreatDoor
open Go Go.Ai
def a0u : List Ann := (aM [7] [] [[0,1,2,7],[7,9]] ++ aL [[9,20],[9],[8]])
def a7F : List Ann := (aM [7] [9019,500021,600021] [[0,1,2,7],[0,1,2,7,10],[0,1,2,7,10,18]] ++ [⟨(kP [8,9] [] []),[],[],[(8,3)],[]⟩,⟨(kP [0,1,2,7,11] [7,11] [9019,500021,600021]),[(1000011,43,3)],[],[],[]⟩,⟨(kP [11] [11] []),[],[(4,(some 7)),(5,(some 7))],[],[(23,⟨[],[],[9021],[9019,500021,600021],[]⟩),(28,⟨[9021,7,11],[9019,500021,600021,11],[9021,7,11],[9019,500021,600021,11],[9019,500021]⟩)]⟩] ++ aL [[8,9]])
def inW (f t : Int) (z : Std) : Bool := decide (f ≤ z.si ∧ z.si < t)
def lgF (f t : Int) (o : List Std) : List Std := o.filter (inW f t)
def c7R (f t : Int) (o : List Std) (x : Std) : List Std := if inW f t x = true then o ++ [x] else o
theorem b6b (f t : Int) (o : List Std) (x : Std) : lgF f t (o ++ [x]) = c7R f t (lgF f t o) x := by
 unfold lgF c7R
 rw [List.filter_append]
 by_cases h : inW f t x = true
 ·rw [if_pos h]; simp [h]
 ·rw [if_neg h]; simp [h]
theorem c0c (f t : Int) (o : List Std) : (lgF f t o).length ≤ o.length := List.length_filter_le _ _
theorem a0X (l : List Alm) (a : List Opr) (e : Ev) (s : Sit) : (C4 l a e s).out = s.out := by
 unfold C4
 split
 ·split <;> rfl
 ·rfl
theorem d6x (v : Nat) (h : v ≤ 1) : kv 1000007 v = v := by
 unfold kv; rw [if_neg (by simp [XK])]; omega
theorem d5p (v : Nat) : kv 1000007 (v + 1) = 1 := by
 unfold kv; rw [if_neg (by simp [XK])]; omega
attribute [go_sem] d6x d5p
abbrev d1I (v : Nat) (l : List Std) : Row := ⟨v, 43, 3, l.map u7⟩
abbrev lwH (f t : Int) (o : List Std) : Hp := ⟨[(1000005, [.g (.int .i64 f), .g (.int .i64 t)]), (1000006, [.ow 1000007 0])], [(1000007, l9 o)]⟩
abbrev slH (f t : Int) (l : List Alm) (a : List Opr) (ev : List Ev) (up : List (List Int)) (s : Sit) : Hp := ⟨[(1000001, siC l a ev up), (1000005, [.g (.int .i64 f), .g (.int .i64 t)]), (1000006, [.ow 1000007 0])], [(1000002, D1 s.st), (1000003, l9 s.td), (1000004, n9 s.ig), (1000007, l9 (lgF f t s.out))]⟩
theorem d1m (f t a : Int) : FC Tryz.prog 59 none [.ag [.g (.int .i64 f), .g (.int .i64 t)], iv a] (fun _ r => r = bv (decide (f ≤ a ∧ a < t))) := by
 refine fcE Tryz.func59 [aN [1,2] [2] [],aN [4] [] []] ?_
 by_cases h : f ≤ a
 ·refine qv ?_
  exact X1 (by first | (simp; done) | (simp; omega))
 ·refine qv ?_
  exact X1 (by first | (simp; done) | (simp; omega))
theorem b6I (f t : Int) (x : Std) (o : List Std) (ho : o.length ≤ 200000000) : FCM Tryz.prog 58 (lwH f t o) [.ag (u7 x), .one (.bx 1000005 0), .one (.bx 1000006 0)] (fun H r => H = lwH f t (c7R f t o x) ∧ r = .tu []) := by
 refine fmE Tryz.func58 (aM [3,1000005,1000006] [1000007] [[1,2,3,1000005,1000006],[2,3,7,1000006]] ++ aM [1000005,1000006] [1000007] [[]]) ⟨[], [1000005, 1000006], [1000007]⟩ ?_
 have hi := d1m f t x.si
 unfold c7R
 by_cases h : inW f t x = true
 ·rw [if_pos h]
  rw [show decide (f ≤ x.si ∧ x.si < t) = inW f t x from rfl, h] at hi
  refine qc hi ?_
  refine qv ?_
  simp [F4]
 ·rw [if_neg h]
  rw [show decide (f ≤ x.si ∧ x.si < t) = inW f t x from rfl, Bool.eq_false_iff.2 h] at hi
  refine qc hi ?_
  exact qt
def c1X (cl : FuncId) (f t : Int) (l : List Alm) (a : List Opr) (up : List (List Int)) (to : Int) (ev : List Ev) (s : Sit) (v : Nat × Nat) (w : Val × Val × Val × Val) : AS := ⟨m9 [(0, .one (.bx 1000001 0)), (1, iv to), (2, .one (.fn cl [.bx 1000005 0, .bx 1000006 0])), (6, w.1), (70, w.2.1), (71, w.2.2.1), (72, w.2.2.2), (1000001, .any), (1000005, .any)], f9 [(1000001, c0l v.1 l a ev up), (1000005, [.g (.int .i64 f), .g (.int .i64 t)]), (1000006, [.ow 1000007 v.2])], f9 [(1000002, D1 s.st), (1000003, l9 s.td), (1000004, c5T v.1 s.ig), (1000007, d1I v.2 (lgF f t s.out))]⟩
def c7q (cl : FuncId) (f t : Int) (l : List Alm) (a : List Opr) (up : List (List Int)) (to at_ : Int) (ev : List Ev) (s : Sit) (v : Nat × Nat) : AS := ⟨m9 [(0, .one (.bx 1000001 0)), (1, iv to), (2, .one (.fn cl [.bx 1000005 0, .bx 1000006 0])), (6, iv at_), (1000001, .any), (1000005, .any)], f9 [(1000001, c0l v.1 l a ev up), (1000005, [.g (.int .i64 f), .g (.int .i64 t)]), (1000006, [.ow 1000007 v.2])], f9 [(1000002, D1 s.st), (1000003, l9 s.td), (1000004, c5T v.1 s.ig), (1000007, d1I v.2 (lgF f t s.out))]⟩
def c6r (cl : FuncId) (f t : Int) (l : List Alm) (a : List Opr) (up : List (List Int)) (to at_ : Int) (ev : List Ev) (n i : Int) (s : Sit) (v : Nat × Nat) : AS := ⟨m9 [(0, .one (.bx 1000001 0)), (1, iv to), (2, .one (.fn cl [.bx 1000005 0, .bx 1000006 0])), (6, iv at_), (70, iv n), (71, iv i), (1000001, .any), (1000005, .any)], f9 [(1000001, c0l v.1 l a ev up), (1000005, [.g (.int .i64 f), .g (.int .i64 t)]), (1000006, [.ow 1000007 v.2])], f9 [(1000002, D1 s.st), (1000003, l9 s.td), (1000004, c5T v.1 s.ig), (1000007, d1I v.2 (lgF f t s.out))]⟩
set_option maxHeartbeats 8000000 in
theorem b5J (cl : FuncId) (f t : Int) (hcl : ∀ (x : Std) (o : List Std), o.length ≤ 200000000 → FCM Tryz.prog cl (lwH f t o) [.ag (u7 x), .one (.bx 1000005 0), .one (.bx 1000006 0)] (fun H r => H = lwH f t (c7R f t o x) ∧ r = .tu [])) (l : List Alm) (a : List Opr) (ev0 : List Ev) (to : Int) (s0 : Sit) (hl : l.length ≤ 200) (ha : a.length ≤ 1000000)
  (hup : ∀ x ∈ l, ∀ k ∈ G0 l (l.length + 1) x, 0 ≤ k ∧ k < l.length) (h0 : RuI l a ev0 s0 0) (ho0 : s0.out.length + 200 * ev0.length ≤ 200000000) :
  G9 Tryz.prog 46 [1000002, 1000003] (slH f t l a ev0 (upA l) s0) [.one (.bx 1000001 0), iv to, .one (.fn cl [.bx 1000005 0, .bx 1000006 0])] (fun H r => H = slH f t l a (U7 to ev0) (upA l) (U9 l a to ev0 s0) ∧ r = .tu []) := by
 refine fsE Tryz.func46 (aM [1000001,1000005,1000006] [1000002,1000003,1000004,1000007] [[0,1,2,25,1000001,1000005],[0,1,2,6,1000001,1000005],[0,1,2,6,49,1000001,1000005]] ++ [⟨(kP [0,1,2,6,1000001,1000005] [1000001,1000005,1000006] [1000002,1000003,1000004,1000007]),[],[],[],[(57,⟨[1000001],[1000002,1000003,1000004],[1000001],[1000002,1000003,1000004],[1000002,1000003]⟩)]⟩] ++ aM [1000001,1000005,1000006] [1000002,1000003,1000004,1000007] [[0,1,2,6,1000001,1000005],[0,1,2,6,70,71,1000001,1000005],[0,1,2,6,70,71,72,1000001,1000005],[0,1,2,6,7,70,71,1000001,1000005]] ++ [⟨(kP [0,1,2,6,7,8,70,71,1000001,1000005] [1000001,1000005,1000006] [1000002,1000003,1000004,1000007]),[],[],[],[(76,⟨[1000001],[1000002,1000003,1000004],[1000001],[1000002,1000003,1000004],[1000002,1000003,1000004]⟩)]⟩] ++ aM [1000001,1000005,1000006] [1000002,1000003,1000004,1000007] [[0,1,2,6,7,8,70,71,86,1000001,1000005],[0,1,2,6,7,70,71,1000001,1000005]] ++ [⟨(kP [0,1,2,6,70,71,1000001,1000005] [1000001,1000005,1000006] [1000002,1000003,1000004,1000007]),[],[],[],[(111,⟨[1000005,1000006],[1000007],[1000005,1000006],[1000007],[]⟩)]⟩,aN [0,1,2,6,70,71,1000001,1000005] [1000001,1000005,1000006] [1000002,1000003,1000004,1000007]]) ⟨[], [1000001, 1000005, 1000006], [1000002, 1000003, 1000004, 1000007]⟩ ?_
 generalize hT0 : U9 l a to ev0 s0 = T
 generalize hR0 : U7 to ev0 = R
 have hup2 : (upA l).length = l.length := by simp [upA]
 have hup3 : ∀ i : Int, 0 ≤ i → i < l.length → (∀ k ∈ (upA l).getD i.toNat default, 0 ≤ k ∧ k < l.length) ∧ ((upA l).getD i.toNat default).length ≤ 1000000 := fun i h1 h2 => by
  have e : (upA l).getD i.toNat default = G0 l (l.length + 1) (l.getD i.toNat default) := t7 (fun x => G0 l (l.length + 1) x) l i.toNat default (by omega)
  rw [e]
  exact ⟨hup _ (j5 l _ (by omega)), Nat.le_trans (W8 l _ _) (by omega)⟩
 have hua : ∀ n i s at_, U3 (upA l) at_ n i s = U3 (upA l) at_ n i s := fun _ _ _ _ => rfl
 refine qv ?_
 refine a8v (fun ev s v w => c1X cl f t l a (upA l) to ev s v w) (fun ev s v _ => RuI l a ev s v.1 ∧ (v.2 ≤ 1 ∧ s.out.length + 200 * ev.length ≤ 200000000) ∧ U9 l a to ev s = T ∧ U7 to ev = R) (fun ev _ _ _ => ev.length) ev0 s0 (0, 0) (.any, .any, .any, .any) ⟨h0, ⟨by simp, ho0⟩, hT0, hR0⟩ (by
  have : ∀ u0 u1 u2 : Val, m9 [(0, u0), (1, u1), (2, u2)] = m9 [(0, u0), (1, u1), (2, u2), (6, .any), (70, .any), (71, .any), (72, .any), (1000001, .any), (1000005, .any)] := fun u0 u1 u2 => by funext n; simp only [m9, ite_self]
  unfold c1X
  rw [← this]) ?_
 rintro ev s ⟨v, vv⟩ ⟨w1, w2, w3, w4⟩ ⟨hI, ⟨hvv, hou⟩, hT, hR⟩
 simp only at hI hvv
 obtain ⟨n1, n2, ok, hig, hv⟩ := id hI
 unfold c1X
 by_cases h0 : ev.length = 0
 ·obtain ⟨r1, r2⟩ := a7l (l := l) (a := a) (to := to) (s := s) h0
  rw [hT] at r1
  rw [hR] at r2
  rw [r1, r2]
  exact qt
 ·obtain ⟨r1, r2⟩ := a0U (l := l) (a := a) (to := to) (s := s) (show 0 < ev.length by omega)
  rw [hT] at r1
  rw [hR] at r2
  by_cases hto : to < (ev.getD (Int.toNat 0) default).a
  ·rw [if_pos hto] at r1 r2
   rw [r1, r2]
   exact qt
  ·rw [if_neg hto] at r1 r2
   have ez : Int.toNat 0 = 0 := rfl
   refine qv ?_
   clear r1 r2
   refine D8 (fun ev' s' v' => c7q cl f t l a (upA l) to (ev.getD (Int.toNat 0) default).a ev' s' v') (fun ev' s' v' => RuI l a ev' s' v'.1 ∧ (v'.2 ≤ 1 ∧ s'.out = s.out) ∧ ev'.length ≤ ev.length ∧ (ev'.length = ev.length → ev' = ev) ∧ U7 to ev' = R ∧ (b9f ev' (ev.getD (Int.toNat 0) default).a = true → U9 l a to ev' s' = T) ∧ (b9f ev' (ev.getD (Int.toNat 0) default).a = false → ev'.length < ev.length ∧ U9 l a to ev' (U3 (upA l) (ev.getD (Int.toNat 0) default).a l.length 0 s') = T)) (fun ev' _ _ => ev'.length) ev s (v, vv) ⟨hI, ⟨hvv, rfl⟩, Nat.le_refl _, fun _ => rfl, hR, fun _ => hT, fun h => by rw [a0c, decide_eq_false_iff_not] at h; exact absurd ⟨by omega, rfl⟩ h⟩ rfl ?_
   generalize hat : (ev.getD (Int.toNat 0) default).a = at_ at *
   rintro ev' s' ⟨v', vw⟩ ⟨hI', ⟨hvw, hou'⟩, l1, l2, hR', c1, c2⟩
   simp only at hI' hvw
   obtain ⟨n1', n2', ok', hig', hv'⟩ := id hI'
   unfold c7q
   by_cases hh : 0 < ev'.length ∧ (ev'.getD (Int.toNat 0) default).a = at_
   ·have c1 := c1 (by rw [a0c, decide_eq_true hh])
    obtain ⟨p1, p2⟩ := a0U (l := l) (a := a) (to := to) (s := s') hh.1
    rw [c1, if_neg (by omega)] at p1
    rw [hR', if_neg (by omega)] at p2
    have hap := a5x l a ev' (upA l) s' (ev'.getD (Int.toNat 0) default) n1' (by omega) (by omega) (by omega) (ok' _ (j5 _ _ (by omega)))
    obtain ⟨hh1, hh2⟩ := hh
    rw [B2] at hap
    refine qv ?_
    refine ⟨rfl, f7 hap ⟨rfl, rfl⟩ ?_⟩
    refine qv ?_
    rw [hh2] at p1
    refine ⟨ev'.drop (Int.toNat 1), C4 l a (ev'.getD (Int.toNat 0) default) s', (1, vw), by simp only [c0l, List.map_drop, a0X], ⟨hI'.next hh1, ⟨hvw, by rw [a0X]; exact hou'⟩, by rw [List.length_drop]; omega, fun h => by rw [List.length_drop] at h; have : Int.toNat 1 = 1 := rfl; omega, p2.symm, fun h => ?_, fun h => ⟨by rw [List.length_drop]; have : Int.toNat 1 = 1 := rfl; omega, ?_⟩⟩, by rw [List.length_drop]; have : Int.toNat 1 = 1 := rfl; omega⟩
    ·rw [p1, if_pos h]
    ·rw [p1, if_neg (by rw [h]; simp)]
   ·obtain ⟨c3, c4⟩ := c2 (by rw [a0c, decide_eq_false hh])
    clear c1 c2 hI
    have hst : s'.st.length = l.length := n1'
    have hz : ev'.length = 0 ∨ (0 < ev'.length ∧ (ev'.getD (Int.toNat 0) default).a ≠ at_) := by
     by_cases hz : ev'.length = 0
     ·exact .inl hz
     ·exact .inr ⟨by omega, fun h => hh ⟨by omega, h⟩⟩
    rcases hz with hz | ⟨hz, hne⟩
    all_goals
     refine qv ?_
     refine D8 (fun i s'' vx => c6r cl f t l a (upA l) to at_ ev' l.length i s'' (v', vx)) (fun i s'' vx => 0 ≤ i ∧ i ≤ l.length ∧ (vx ≤ 1 ∧ s''.out.length ≤ s'.out.length + i) ∧ s''.st = s'.st ∧ s''.td.length = s'.td.length ∧ s''.ig = s'.ig ∧ U3 (upA l) at_ (l.length - i).toNat i.toNat s'' = U3 (upA l) at_ l.length 0 s') (fun i _ _ => (l.length - i).toNat) 0 s' vw ⟨by omega, by omega, ⟨hvw, by omega⟩, rfl, rfl, rfl, rfl⟩ rfl ?_
     rintro i s2 vx ⟨i1, i2, ⟨hvx, hou2⟩, i3, i4, i5, i6⟩
     unfold c6r
     by_cases hi : i < l.length
     ·have hu := hup3 i i1 hi
      have hrp := b2N l a ev' (upA l) s2 i i1 (by rw [i3]; omega) (by rw [i3]; omega) (by rw [i3, n1']; exact hu.1) (by rw [i3]; omega) hu.2
      have et := e8 u7 s2.td i [] i1 (by omega)
      have et2 := l0 u7 s2.td i.toNat (by omega)
      obtain ⟨x1, x2, x3⟩ := a0P (upA l) at_ i.toNat s2
      rw [show (l.length - i).toNat = (l.length - (i + 1)).toNat + 1 by omega, M6, show i.toNat + 1 = (i + 1).toNat by omega] at i6
      have hxr : a7s (upA l) at_ i.toNat s2 = if S5 (upA l) s2.st i.toNat ≠ (s2.td.getD i.toNat default).st then { s2 with td := s2.td.set i.toNat ⟨(s2.td.getD i.toNat default).al, S5 (upA l) s2.st i.toNat, at_⟩, out := s2.out ++ [⟨(s2.td.getD i.toNat default).al, S5 (upA l) s2.st i.toNat, at_⟩] } else s2 := rfl
      generalize hrx : S5 (upA l) s2.st i.toNat = rx at *
      generalize hry : a7s (upA l) at_ i.toNat s2 = ry at *
      by_cases hc : rx = (s2.td.getD i.toNat default).st
      ·rw [if_neg (by simpa using hc)] at hxr
       refine qv ?_
       refine ⟨rfl, f7 hrp ⟨rfl, rfl⟩ ?_⟩
       refine qv ?_
       subst hxr
       exact ⟨i + 1, ry, vx, rfl, ⟨by omega, by omega, ⟨hvx, by omega⟩, by omega, by omega, by omega, i6⟩, by omega⟩
      ·rw [if_pos hc] at hxr
       have hol : s'.out.length = s.out.length := by rw [hou']
       have hcx := hcl ⟨(s2.td.getD i.toNat default).al, rx, at_⟩ (lgF f t s2.out) (Nat.le_trans (c0c f t s2.out) (by omega))
       rw [F4] at hcx
       refine qv ?_
       refine ⟨rfl, f7 hrp ⟨rfl, rfl⟩ ?_⟩
       refine qv ?_
       refine ⟨rfl, f7 hcx ⟨rfl, rfl⟩ ?_⟩
       refine qv ?_
       have hry2 : ry.out.length ≤ s2.out.length + 1 := by rw [hxr]; simp
       refine ⟨i + 1, ry, 1, ?_, ⟨by omega, by omega, ⟨by omega, by omega⟩, by rw [x1, i3], by omega, by rw [x3, i5], i6⟩, by omega⟩
       rw [hxr]
       simp only [l9, d1I, List.map_set, F4, b6b]
     ·rw [show (l.length - i).toNat = 0 by omega, U3] at i6
      rw [← i6] at c4
      refine qv ?_
      exact ⟨ev', s2, (v', vx), (_, _, _, _), rfl, ⟨⟨by rw [i3]; omega, by omega, ok', by rw [i5]; omega, hv'⟩, ⟨hvx, by rw [hou'] at hou2; omega⟩, c4, hR'⟩, by omega⟩
def d1x (k : Nat) : Nat := if k = 9021 then 1000001 else if k = 1000001 then 9021 else if k = 7 then 1000005 else if k = 1000005 then 7 else if k = 11 then 1000006 else if k = 1000006 then 11 else k
def d0s (k : Nat) : Nat := if k = 9019 then 1000002 else if k = 1000002 then 9019 else if k = 500021 then 1000003 else if k = 1000003 then 500021 else if k = 600021 then 1000004 else if k = 1000004 then 600021 else if k = 11 then 1000007 else if k = 1000007 then 11 else k
theorem d1l (k : Nat) : d1x (d1x k) = k := by unfold d1x; (repeat' split) <;> omega
theorem c8T (k : Nat) : d0s (d0s k) = k := by
 by_cases h0 : k = 9019
 ·subst h0; rfl
 by_cases h1 : k = 1000002
 ·subst h1; rfl
 by_cases h2 : k = 500021
 ·subst h2; rfl
 by_cases h3 : k = 1000003
 ·subst h3; rfl
 by_cases h4 : k = 600021
 ·subst h4; rfl
 by_cases h5 : k = 1000004
 ·subst h5; rfl
 by_cases h6 : k = 11
 ·subst h6; rfl
 by_cases h7 : k = 1000007
 ·subst h7; rfl
 have : d0s k = k := by unfold d0s; rw [if_neg h0, if_neg h1, if_neg h2, if_neg h3, if_neg h4, if_neg h5, if_neg h6, if_neg h7]
 rw [this, this]
theorem a2P (f t : Int) : FC Tryz.prog 96 none [.ag [.g (.int .i64 f), .g (.int .i64 t)]] (fun _ r => r = bv (decide (0 ≤ f ∧ f ≤ t ∧ t ≤ 345686400000))) := by
 refine fcE Tryz.func96 [aN [1] [1] [],aN [2] [] []] ?_
 by_cases h : f < 0 ∨ f > t
 ·have ho := J2 f 0 t
  rw [decide_eq_true h] at ho
  refine qc ho ?_
  refine qv ?_
  exact X1 (by rw [decide_eq_false (p := 0 ≤ f ∧ f ≤ t ∧ t ≤ 345686400000) (by omega)])
 ·have ho := J2 f 0 t
  rw [decide_eq_false h] at ho
  refine qc ho ?_
  refine qv ?_
  exact X1 (by first | (simp; done) | (simp; omega))
theorem a9c (l : List Alm) (s : List Ser) (a : List Opr) (h : AllOk l s a) (f t : Int) (hw : 0 ≤ f ∧ f ≤ t ∧ t ≤ 345686400000) :
  FC Tryz.prog 57 none [r6 false l, B3 false s, u9 false a, .ag [.g (.int .i64 f), .g (.int .i64 t)]] (fun _ r => r = iv 0) := by
 refine fcE Tryz.func57 a0u ?_
 have hf := h.fault
 have hwf := a2P f t
 rw [decide_eq_true hw] at hwf
 refine qc hf ?_
 refine qc hwf ?_
 exact qt
theorem c7V (l : List Alm) (s : List Ser) (a : List Opr) (h : AllOk l s a) (f t : Int) (hw : 0 ≤ f ∧ f ≤ t ∧ t ≤ 345686400000) :
  FC Tryz.prog 17 none [r6 false l, B3 false s, u9 false a, .ag [.g (.int .i64 f), .g (.int .i64 t)]] (fun _ r => r = .tu [.one (.sl true 3 ((lgF f t (J7 l s a (t - 1)).out).map u7)), iv 0]) := by
 refine fcE Tryz.func17 a7F ?_
 have hl := h.al.len
 have hf := a9c l s a h f t hw
 have hns := P2 l s a h.al h.se h.ac (by have := h.ev; omega)
 have hrun := b5J 58 f t (b6I f t) l a (evs l s a) (t - 1) (O6 l) (by omega) (by have := h.ac.len; omega) (fun x hx => a1t h.al _ x hx) h.run (by have := h.ev; rw [a3k]; simp [O6]; omega)
 rw [show U9 l a (t - 1) (evs l s a) (O6 l) = J7 l s a (t - 1) from rfl] at hrun
 generalize J7 l s a (t - 1) = T at *
 refine qc hf ?_
 refine qv ?_
 refine ⟨rfl, N4 ⟨[(9021, siN 0 l a (evs l s a) (upA l) true)], siR (O6 l)⟩ (.one (.bx 9021 0)) p21 q19 b8n b9q hns (by simp) rfl rfl rfl rfl ⟨rfl, rfl⟩ ?_⟩
 refine qv ?_
 refine ⟨rfl, y6 ⟨[(9021, siN 0 l a (U7 (t - 1) (evs l s a)) (upA l) false), (7, [.g (.int .i64 f), .g (.int .i64 t)]), (11, [.ow 11 0])], siR T ++ [(11, l9 (lgF f t T.out))]⟩ (.tu []) d1x d0s d1l c8T hrun (by simp) rfl rfl rfl rfl rfl ⟨rfl, rfl⟩ ?_⟩
 exact qt
end Go.Proofs.YtbhgndiboeppeaaGreatDoor

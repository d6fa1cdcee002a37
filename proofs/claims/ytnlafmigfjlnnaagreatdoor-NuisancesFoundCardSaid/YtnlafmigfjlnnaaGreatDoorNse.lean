/- Stale. -/
import Derived.Test.YtnlafmigfjlnnaaGreatDoorNsb
set_option linter.all false
set_option maxHeartbeats 0
set_option maxRecDepth 100000
namespace Go.Proofs.YtnlafmigfjlnnaaGreatDoor
open Go Go.Ai
def S2 : List Ann := (aL [[0,1,2,3,4],[0,1,2,3,4,12],[0,1,2,3,4,12,24]] ++ [⟨(kP [10,11] [] []),[],[],[(10,1)],[]⟩] ++ aL [[0,1,2,3,4,32]] ++ [⟨(kP [10,11] [] []),[],[],[(10,1)],[]⟩] ++ aM [13] [33,9019,500021,600021] [[0,1,2,3,4,13]] ++ [⟨(kP [0,3,4,13] [13] [33]),[],[],[],[(37,⟨[],[],[9021],[9019,500021,600021],[]⟩),(40,⟨[9021,13],[9019,500021,600021,33],[9021,13],[9019,500021,600021,33],[9019,500021,33]⟩)]⟩,⟨(kP [0,3,4,13,14] [13] [33]),[(14,9,1)],[],[],[]⟩] ++ aM [13] [14,33] [[3,4,13,14,41,42,43],[3,4,13,14,41,42,43,44]] ++ aM [13,16] [14,33] [[3,4,13,14,16,41,42,43],[3,4,13,14,16,17,18,41,42,43],[3,4,13,14,16,41,42,43,61]] ++ aM [13] [14,33] [[3,4,13,14,41,42,43],[3,4,13,14,41,42,43]] ++ aL [[10,11]])
/-! ### the map of those that stand -/
def a0g (k : ByteArray) (m : List (ByteArray × Int)) : Prop := ∃ p ∈ m, p.1 = k
instance (k : ByteArray) (m : List (ByteArray × Int)) : Decidable (a0g k m) := inferInstanceAs (Decidable (∃ p ∈ m, p.1 = k))
def mdl (k : ByteArray) : List (ByteArray × Int) -> List (ByteArray × Int)
 | [] => []
 | p :: m => if p.1 = k then m else p :: mdl k m
theorem b4d (k : ByteArray) : ∀ m : List (ByteArray × Int), (Z3 (.string k) (mST m)).isSome = decide (a0g k m)
 | [] => by simp [a0g, mST, Z3]
 | p :: m => by
  have ih := b4d k m
  rw [show mST (p :: m) = [.g (.string p.1), .g (.int .i64 p.2)] :: mST m from rfl, Z3, a0a]
  by_cases h : p.1 = k
  ·rw [if_pos (decide_eq_true h), decide_eq_true (show a0g k (p :: m) from ⟨p, by simp, h⟩)]; rfl
  ·rw [if_neg (by simp [h]), ih, decide_eq_decide]
   exact ⟨fun ⟨q, h1, h2⟩ => ⟨q, by simp [h1], h2⟩, fun ⟨q, h1, h2⟩ => by
    rcases List.mem_cons.1 h1 with rfl | h1
    ·exact absurd h2 h
    ·exact ⟨q, h1, h2⟩⟩
theorem b1O (k : ByteArray) : ∀ m : List (ByteArray × Int), a9E (.string k) (mST m) = mST (mdl k m)
 | [] => rfl
 | p :: m => by
  have ih := b1O k m
  rw [show mST (p :: m) = [.g (.string p.1), .g (.int .i64 p.2)] :: mST m from rfl, a9E, a0a, mdl]
  by_cases h : p.1 = k
  ·rw [if_pos (decide_eq_true h), if_pos h]
  ·rw [if_neg (by simp [h]), if_neg h, ih]; rfl
attribute [go_sem] b4d b1O
def tlS (m : List (ByteArray × Int)) (x : Std) : List (ByteArray × Int) := if 2 <= x.st ∧ x.st <= 3 then (if a0g x.al m then m else mpt x.al x.si m) else mdl x.al m
def tlM (o : List Std) : List (ByteArray × Int) := o.foldl tlS []
theorem a3G (o : List Std) (x : Std) : tlM (o ++ [x]) = tlS (tlM o) x := by simp [tlM, List.foldl_append]
abbrev tlH (o : List Std) : Hp := ⟨[(1000005, [.mp 1000007])], [(1000007, mpR (tlM o))]⟩
abbrev stH (l : List Alm) (a : List Opr) (ev : List Ev) (up : List (List Int)) (s : Sit) : Hp := ⟨[(1000001, siC l a ev up), (1000005, [.mp 1000007])], [(1000002, G6 s.st), (1000003, x9 s.td), (1000004, n8 s.ig), (1000007, mpR (tlM s.out))]⟩
theorem c6r (x : Std) (o : List Std) : F9 Tryz.prog 50 [1000007] (tlH o) [.ag (a8S x), .one (.bx 1000005 0)] (fun H r => H = tlH (o ++ [x]) ∧ r = .tu []) := by
 refine fsE Tryz.func50 (aM [2,1000005] [1000007] [[1,2,1000005],[1,2,4,1000005],[1,2,4,12,1000005]] ++ [aN [] [1000005] [1000007],aN [1,2,19,1000005] [2,1000005] [1000007],aN [] [1000005] [1000007]]) ⟨[], [1000005], [1000007]⟩ ?_
 have ho := D4 x.st 2 3
 unfold tlH
 rw [a3G]
 unfold tlS
 generalize tlM o = m
 by_cases h : 2 <= x.st ∧ x.st <= 3
 ·rw [decide_eq_false (by omega)] at ho
  rw [if_pos h]
  by_cases hb : a0g x.al m
  ·rw [if_pos hb]
   refine qcs ho ?_
   refine qvs ?_
   exact fun c => absurd hb c
  ·rw [if_neg hb]
   refine qcs ho ?_
   exact qts
 ·rw [decide_eq_true (by omega)] at ho
  rw [if_neg h]
  by_cases hb : a0g x.al m
  ·refine qcs ho ?_
   exact qts
  ·refine qcs ho ?_
   exact qts
def c3z (cl : FuncId) (l : List Alm) (a : List Opr) (up : List (List Int)) (to : Int) (ev : List Ev) (s : Sit) (v : Nat) (w : Val × Val × Val × Val) : AS := ⟨m7 [(0, .one (.bx 1000001 0)), (1, iv to), (2, .one (.fn cl [.bx 1000005 0])), (6, w.1), (70, w.2.1), (71, w.2.2.1), (72, w.2.2.2), (1000001, .any), (1000005, .any)], f7 [(1000001, d2I v l a ev up), (1000005, [.mp 1000007])], f7 [(1000002, G6 s.st), (1000003, x9 s.td), (1000004, d4P v s.ig), (1000007, mpR (tlM s.out))]⟩
def d2r (cl : FuncId) (l : List Alm) (a : List Opr) (up : List (List Int)) (to at_ : Int) (ev : List Ev) (s : Sit) (v : Nat) : AS := ⟨m7 [(0, .one (.bx 1000001 0)), (1, iv to), (2, .one (.fn cl [.bx 1000005 0])), (6, iv at_), (1000001, .any), (1000005, .any)], f7 [(1000001, d2I v l a ev up), (1000005, [.mp 1000007])], f7 [(1000002, G6 s.st), (1000003, x9 s.td), (1000004, d4P v s.ig), (1000007, mpR (tlM s.out))]⟩
def c8E (cl : FuncId) (l : List Alm) (a : List Opr) (up : List (List Int)) (to at_ : Int) (ev : List Ev) (n i : Int) (s : Sit) (v : Nat) : AS := ⟨m7 [(0, .one (.bx 1000001 0)), (1, iv to), (2, .one (.fn cl [.bx 1000005 0])), (6, iv at_), (70, iv n), (71, iv i), (1000001, .any), (1000005, .any)], f7 [(1000001, d2I v l a ev up), (1000005, [.mp 1000007])], f7 [(1000002, G6 s.st), (1000003, x9 s.td), (1000004, d4P v s.ig), (1000007, mpR (tlM s.out))]⟩
theorem b8o (cl : FuncId) (hcl : ∀ (x : Std) (o : List Std), F9 Tryz.prog cl [1000007] (tlH o) [.ag (a8S x), .one (.bx 1000005 0)] (fun H r => H = tlH (o ++ [x]) ∧ r = .tu [])) (l : List Alm) (a : List Opr) (ev0 : List Ev) (to : Int) (s0 : Sit) (hl : l.length <= 200) (ha : a.length <= 1000000)
  (hup : ∀ x ∈ l, ∀ k ∈ G9 l (l.length + 1) x, 0 <= k ∧ k < l.length) (h0 : RuI l a ev0 s0 0) :
  F9 Tryz.prog 49 [1000002, 1000003, 1000007] (stH l a ev0 (upA l) s0) [.one (.bx 1000001 0), iv to, .one (.fn cl [.bx 1000005 0])] (fun H r => H = stH l a (a3r to ev0) (upA l) (a4s l a to ev0 s0) ∧ r = .tu []) := by
 refine fsE Tryz.func49 (aM [1000001,1000005] [1000002,1000003,1000004,1000007] [[0,1,2,25,1000001,1000005],[0,1,2,6,1000001,1000005],[0,1,2,6,49,1000001,1000005]] ++ [⟨(kP [0,1,2,6,1000001,1000005] [1000001,1000005] [1000002,1000003,1000004,1000007]),[],[],[],[(57,⟨[1000001],[1000002,1000003,1000004],[1000001],[1000002,1000003,1000004],[1000002,1000003]⟩)]⟩] ++ aM [1000001,1000005] [1000002,1000003,1000004,1000007] [[0,1,2,6,1000001,1000005],[0,1,2,6,70,71,1000001,1000005],[0,1,2,6,70,71,72,1000001,1000005],[0,1,2,6,7,70,71,1000001,1000005]] ++ [⟨(kP [0,1,2,6,7,8,70,71,1000001,1000005] [1000001,1000005] [1000002,1000003,1000004,1000007]),[],[],[],[(76,⟨[1000001],[1000002,1000003,1000004],[1000001],[1000002,1000003,1000004],[1000002,1000003,1000004]⟩)]⟩] ++ aM [1000001,1000005] [1000002,1000003,1000004,1000007] [[0,1,2,6,7,8,70,71,86,1000001,1000005],[0,1,2,6,7,70,71,1000001,1000005]] ++ [⟨(kP [0,1,2,6,70,71,1000001,1000005] [1000001,1000005] [1000002,1000003,1000004,1000007]),[],[],[],[(111,⟨[1000005],[1000007],[1000005],[1000007],[1000007]⟩)]⟩,aN [0,1,2,6,70,71,1000001,1000005] [1000001,1000005] [1000002,1000003,1000004,1000007]]) ⟨[], [1000001, 1000005], [1000002, 1000003, 1000004, 1000007]⟩ ?_
 generalize hT0 : a4s l a to ev0 s0 = T
 generalize hR0 : a3r to ev0 = R
 have hup2 : (upA l).length = l.length := by simp [upA]
 have hup3 : ∀ i : Int, 0 <= i -> i < l.length -> (∀ k ∈ (upA l).getD i.toNat default, 0 <= k ∧ k < l.length) ∧ ((upA l).getD i.toNat default).length <= 1000000 := fun i h1 h2 => by
  have e : (upA l).getD i.toNat default = G9 l (l.length + 1) (l.getD i.toNat default) := t7 (fun x => G9 l (l.length + 1) x) l i.toNat default (by omega)
  rw [e]
  exact ⟨hup _ (f8 l _ (by omega)), Nat.le_trans (a0U l _ _) (by omega)⟩
 have hua : ∀ n i s at_, a0D (upA l) at_ n i s = a0D (upA l) at_ n i s := fun _ _ _ _ => rfl
 refine qv ?_
 refine b9i (fun ev s v w => c3z cl l a (upA l) to ev s v w) (fun ev s v _ => RuI l a ev s v ∧ a4s l a to ev s = T ∧ a3r to ev = R) (fun ev _ _ _ => ev.length) ev0 s0 0 (.any, .any, .any, .any) ⟨h0, hT0, hR0⟩ (by
  have : ∀ u0 u1 u2 : Val, m7 [(0, u0), (1, u1), (2, u2)] = m7 [(0, u0), (1, u1), (2, u2), (6, .any), (70, .any), (71, .any), (72, .any), (1000001, .any), (1000005, .any)] := fun u0 u1 u2 => by funext n; simp only [m7, ite_self]
  unfold c3z
  rw [<- this]) ?_
 rintro ev s v ⟨w1, w2, w3, w4⟩ ⟨hI, hT, hR⟩
 obtain ⟨n1, n2, ok, hig, hv⟩ := id hI
 unfold c3z
 by_cases h0 : ev.length = 0
 ·obtain ⟨r1, r2⟩ := b9S (l := l) (a := a) (to := to) (s := s) h0
  rw [hT] at r1
  rw [hR] at r2
  rw [r1, r2]
  exact qt
 ·obtain ⟨r1, r2⟩ := a7x (l := l) (a := a) (to := to) (s := s) (show 0 < ev.length by omega)
  rw [hT] at r1
  rw [hR] at r2
  by_cases hto : to < (ev.getD (Int.toNat 0) default).a
  ·rw [if_pos hto] at r1 r2
   rw [r1, r2]
   exact qt
  ·rw [if_neg hto] at r1 r2
   have ez : Int.toNat 0 = 0 := rfl
   refine qv ?_
   clear r1 r2
   refine F4 (fun ev' s' v' => d2r cl l a (upA l) to (ev.getD (Int.toNat 0) default).a ev' s' v') (fun ev' s' v' => RuI l a ev' s' v' ∧ ev'.length <= ev.length ∧ (ev'.length = ev.length -> ev' = ev) ∧ a3r to ev' = R ∧ (c3s ev' (ev.getD (Int.toNat 0) default).a = true -> a4s l a to ev' s' = T) ∧ (c3s ev' (ev.getD (Int.toNat 0) default).a = false -> ev'.length < ev.length ∧ a4s l a to ev' (a0D (upA l) (ev.getD (Int.toNat 0) default).a l.length 0 s') = T)) (fun ev' _ _ => ev'.length) ev s v ⟨hI, Nat.le_refl _, fun _ => rfl, hR, fun _ => hT, fun h => by rw [a6j, decide_eq_false_iff_not] at h; exact absurd ⟨by omega, rfl⟩ h⟩ rfl ?_
   generalize hat : (ev.getD (Int.toNat 0) default).a = at_ at *
   rintro ev' s' v' ⟨hI', l1, l2, hR', c1, c2⟩
   obtain ⟨n1', n2', ok', hig', hv'⟩ := id hI'
   unfold d2r
   by_cases hh : 0 < ev'.length ∧ (ev'.getD (Int.toNat 0) default).a = at_
   ·have c1 := c1 (by rw [a6j, decide_eq_true hh])
    obtain ⟨p1, p2⟩ := a7x (l := l) (a := a) (to := to) (s := s') hh.1
    rw [c1, if_neg (by omega)] at p1
    rw [hR', if_neg (by omega)] at p2
    have hap := b2E l a ev' (upA l) s' (ev'.getD (Int.toNat 0) default) n1' (by omega) (by omega) (by omega) (ok' _ (f8 _ _ (by omega)))
    obtain ⟨hh1, hh2⟩ := hh
    rw [A0] at hap
    refine qv ?_
    refine ⟨rfl, e7 hap ⟨rfl, rfl⟩ ?_⟩
    refine qv ?_
    rw [hh2] at p1
    refine ⟨ev'.drop (Int.toNat 1), C6 l a (ev'.getD (Int.toNat 0) default) s', 1, by simp only [d2I, List.map_drop, a3P], ⟨hI'.next hh1, by rw [List.length_drop]; omega, fun h => by rw [List.length_drop] at h; have : Int.toNat 1 = 1 := rfl; omega, p2.symm, fun h => ?_, fun h => ⟨by rw [List.length_drop]; have : Int.toNat 1 = 1 := rfl; omega, ?_⟩⟩, by rw [List.length_drop]; have : Int.toNat 1 = 1 := rfl; omega⟩
    ·rw [p1, if_pos h]
    ·rw [p1, if_neg (by rw [h]; simp)]
   ·obtain ⟨c3, c4⟩ := c2 (by rw [a6j, decide_eq_false hh])
    clear c1 c2 hI
    have hst : s'.st.length = l.length := n1'
    have hz : ev'.length = 0 ∨ (0 < ev'.length ∧ (ev'.getD (Int.toNat 0) default).a ≠ at_) := by
     by_cases hz : ev'.length = 0
     ·exact .inl hz
     ·exact .inr ⟨by omega, fun h => hh ⟨by omega, h⟩⟩
    rcases hz with hz | ⟨hz, hne⟩
    all_goals
     refine qv ?_
     refine j7 (fun i s'' => c8E cl l a (upA l) to at_ ev' l.length i s'' v') (fun i s'' => 0 <= i ∧ i <= l.length ∧ s''.st = s'.st ∧ s''.td.length = s'.td.length ∧ s''.ig = s'.ig ∧ a0D (upA l) at_ (l.length - i).toNat i.toNat s'' = a0D (upA l) at_ l.length 0 s') (fun i _ => (l.length - i).toNat) 0 s' ⟨by omega, by omega, rfl, rfl, rfl, rfl⟩ rfl ?_
     rintro i s2 ⟨i1, i2, i3, i4, i5, i6⟩
     unfold c8E
     by_cases hi : i < l.length
     ·have hu := hup3 i i1 hi
      have hrp := c3w l a ev' (upA l) s2 i i1 (by rw [i3]; omega) (by rw [i3]; omega) (by rw [i3, n1']; exact hu.1) (by rw [i3]; omega) hu.2
      obtain ⟨x1, x2, x3⟩ := b5z (upA l) at_ i.toNat s2
      rw [show (l.length - i).toNat = (l.length - (i + 1)).toNat + 1 by omega, a1Q, show i.toNat + 1 = (i + 1).toNat by omega] at i6
      have hxr : b0W (upA l) at_ i.toNat s2 = if V3 (upA l) s2.st i.toNat ≠ (s2.td.getD i.toNat default).st then { s2 with td := s2.td.set i.toNat ⟨(s2.td.getD i.toNat default).al, V3 (upA l) s2.st i.toNat, at_⟩, out := s2.out ++ [⟨(s2.td.getD i.toNat default).al, V3 (upA l) s2.st i.toNat, at_⟩] } else s2 := rfl
      generalize hrx : V3 (upA l) s2.st i.toNat = rx at *
      generalize hry : b0W (upA l) at_ i.toNat s2 = ry at *
      by_cases hc : rx = (s2.td.getD i.toNat default).st
      ·rw [if_neg (by simpa using hc)] at hxr
       refine qv ?_
       refine ⟨rfl, e7 hrp ⟨rfl, rfl⟩ ?_⟩
       refine qv ?_
       subst hxr
       exact ⟨i + 1, ry, rfl, ⟨by omega, by omega, by omega, by omega, by omega, i6⟩, by omega⟩
      ·rw [if_pos hc] at hxr
       have hcx := hcl ⟨(s2.td.getD i.toNat default).al, rx, at_⟩ s2.out
       rw [a3M] at hcx
       refine qv ?_
       refine ⟨rfl, e7 hrp ⟨rfl, rfl⟩ ?_⟩
       refine qv ?_
       refine ⟨rfl, e7 hcx ⟨rfl, rfl⟩ ?_⟩
       refine qv ?_
       refine ⟨i + 1, ry, ?_, ⟨by omega, by omega, by rw [x1, i3], by omega, by rw [x3, i5], i6⟩, by omega⟩
       rw [hxr]
       simp only [x9, List.map_set, a3M]
     ·rw [show (l.length - i).toNat = 0 by omega, a0D] at i6
      rw [<- i6] at c4
      refine qv ?_
      exact ⟨ev', s2, v', (_, _, _, _), rfl, ⟨⟨by rw [i3]; omega, by omega, ok', by rw [i5]; omega, hv'⟩, c4, hR'⟩, by omega⟩
def pTl (k : Nat) : Nat := if k = 9021 then 1000001 else if k = 1000001 then 9021 else if k = 13 then 1000005 else if k = 1000005 then 13 else k
def qTl (k : Nat) : Nat := if k = 9019 then 1000002 else if k = 1000002 then 9019 else if k = 500021 then 1000003 else if k = 1000003 then 500021 else if k = 600021 then 1000004 else if k = 1000004 then 600021 else if k = 33 then 1000007 else if k = 1000007 then 33 else k
theorem d4m (k : Nat) : pTl (pTl k) = k := by unfold pTl; (repeat' split) <;> omega
theorem d3E (k : Nat) : qTl (qTl k) = k := by
 by_cases h0 : k = 9019
 ·subst h0; rfl
 by_cases h1 : k = 1000002
 ·subst h1; rfl
 by_cases h2 : k = 500021
 ·subst h2; rfl
 by_cases h3 : k = 1000003
 ·subst h3; rfl
 by_cases h4 : k = 600021
 ·subst h4; rfl
 by_cases h5 : k = 1000004
 ·subst h5; rfl
 by_cases h6 : k = 33
 ·subst h6; rfl
 by_cases h7 : k = 1000007
 ·subst h7; rfl
 have : qTl k = k := by unfold qTl; rw [if_neg h0, if_neg h1, if_neg h2, if_neg h3, if_neg h4, if_neg h5, if_neg h6, if_neg h7]
 rw [this, this]
def tlL (m : List (ByteArray × Int)) (at_ n : Int) : List Alm -> List ByteArray
 | [] => []
 | x :: r => (if a0g x.k m ∧ at_ - mgt x.k m > n then [x.k] else []) ++ tlL m at_ n r
theorem a8Y (m : List (ByteArray × Int)) (at_ n : Int) (x : Alm) : ∀ l : List Alm, tlL m at_ n (l ++ [x]) = tlL m at_ n l ++ (if a0g x.k m ∧ at_ - mgt x.k m > n then [x.k] else [])
 | [] => by simp [tlL]
 | y :: l => by rw [List.cons_append, tlL, a8Y m at_ n x l, tlL, List.append_assoc]
theorem a6t (m : List (ByteArray × Int)) (at_ n : Int) : ∀ l : List Alm, (tlL m at_ n l).length <= l.length
 | [] => by simp [tlL]
 | y :: l => by
  rw [tlL, List.length_append, List.length_cons]
  have := a6t m at_ n l
  split <;> simp <;> omega
def c2O (l : List Alm) (m : List (ByteArray × Int)) (at_ n i : Int) (o : List ByteArray) : AS := ⟨m7 [(3, iv at_), (4, iv n), (13, .one (.bx 13 0)), (14, .one (.ow 14 0)), (41, r6 false l), (42, iv l.length), (43, iv i)], f7 [(13, [.mp 33])], f7 [(14, T7 o), (33, mpR m)]⟩
theorem c6Y {m : List (ByteArray × Int)} {b : Int} (hb : 0 <= b) (h : ∀ p ∈ m, 0 <= p.2 ∧ p.2 <= b) (k : ByteArray) : 0 <= mgt k m ∧ mgt k m <= b := by
 induction m with
 | nil => exact ⟨Int.le_refl _, hb⟩
 | cons p m ih =>
  rw [mgt]
  split
  ·exact h p (by simp)
  ·exact ih fun q hq => h q (by simp [hq])
theorem b8r (l : List Alm) (s : List Ser) (a : List Opr) (h : AllOk l s a) (at_ n : Int) (hm : 0 <= at_ ∧ at_ <= 345686399999) (hn : 1 <= n ∧ n <= 604800000) (hr : ∀ p ∈ tlM (a6L l s a at_).out, 0 <= p.2 ∧ p.2 <= 345686400000) :
  FC Tryz.prog 15 none [r6 false l, B1 false s, F7 false a, iv at_, iv n] (fun _ r => r = .tu [c0O (tlL (tlM (a6L l s a at_).out) at_ n l), iv 0]) := by
 refine fcE Tryz.func15 S2 ?_
 have hl := h.al.len
 have hf := h.fault
 have hmo := P0 at_
 rw [decide_eq_true hm] at hmo
 have hou := D4 n 1 604800000
 rw [decide_eq_false (by omega)] at hou
 have hns := a7m l s a h.al h.se h.ac (by have := h.ev; omega)
 have hrun := b8o 50 c6r l a (evs l s a) at_ (a0K l) (by omega) (by have := h.ac.len; omega) (fun x hx => a8W h.al _ x hx) h.run
 rw [show a4s l a at_ (evs l s a) (a0K l) = a6L l s a at_ from rfl] at hrun
 generalize a6L l s a at_ = T at *
 refine qc hf ?_
 refine qc hmo ?_
 refine qc hou ?_
 refine qv ?_
 refine ⟨rfl, a4z ⟨[(9021, siN 0 l a (evs l s a) (upA l) true)], siR (a0K l)⟩ (.one (.bx 9021 0)) p21 q19 d3P d3F hns (by simp) rfl rfl rfl rfl ⟨rfl, rfl⟩ ?_⟩
 refine qv ?_
 refine ⟨rfl, C5 ⟨[(9021, siN 0 l a (a3r at_ (evs l s a)) (upA l) false), (13, [.mp 33])], siR T ++ [(33, mpR (tlM T.out))]⟩ (.tu []) pTl qTl d4m d3E hrun (by simp) rfl rfl rfl rfl rfl ⟨rfl, rfl⟩ ?_⟩
 refine qv ?_
 generalize tlM T.out = m at *
 refine j7 (c2O l m at_ n) (fun i o => 0 <= i ∧ i <= l.length ∧ o = tlL m at_ n (l.take i.toNat)) (fun i _ => (l.length - i).toNat) 0 [] ⟨by omega, by omega, by simp [tlL]⟩ rfl ?_
 rintro i o ⟨i0, i1, i2⟩
 unfold c2O
 by_cases hi : i < l.length
 ·have ei := e8 D0 l i [] i0 hi
  have hl2 : o.length <= l.length := by rw [i2]; refine Nat.le_trans (a6t _ _ _ _) ?_; rw [List.length_take]; omega
  have hsn := a8Y m at_ n (l.getD i.toNat default) (l.take i.toNat)
  rw [<- n4 l i i0 hi, <- i2] at hsn
  have hg := c6Y (by omega) hr (l.getD i.toNat default).k
  by_cases hh : a0g (l.getD i.toNat default).k m
  ·by_cases hd : at_ - mgt (l.getD i.toNat default).k m > n
   ·rw [if_pos ⟨hh, hd⟩] at hsn
    refine qvs ?_
    exact ⟨i + 1, o ++ [(l.getD i.toNat default).k], by simp [c2O, T7, a2K], ⟨by omega, by omega, hsn.symm⟩, by omega⟩
   ·rw [if_neg (fun c => hd c.2), List.append_nil] at hsn
    refine qvs ?_
    exact ⟨i + 1, o, rfl, ⟨by omega, by omega, hsn.symm⟩, by omega⟩
  ·rw [if_neg (fun c => hh c.1), List.append_nil] at hsn
   refine qvs ?_
   exact ⟨i + 1, o, rfl, ⟨by omega, by omega, hsn.symm⟩, by omega⟩
 ·refine qv ?_
  rw [i2, show i.toNat = l.length by omega, List.take_length]
def tlG (k : ByteArray) : List Std -> Int -> Int
 | [], f => f
 | y :: o, f => tlG k o (if y.al ≠ k then f else if 2 <= y.st ∧ y.st <= 3 then (if f < 0 then y.si else f) else -1)
theorem a8G (k : ByteArray) (y : Std) : ∀ (o : List Std) (f : Int), tlG k (o ++ [y]) f = if y.al ≠ k then tlG k o f else if 2 <= y.st ∧ y.st <= 3 then (if tlG k o f < 0 then y.si else tlG k o f) else -1
 | [], f => rfl
 | z :: o, f => by rw [List.cons_append, tlG, a8G k y o, tlG]
def kNd : List (ByteArray × Int) -> Prop
 | [] => True
 | p :: m => ¬a0g p.1 m ∧ kNd m
theorem d7q {j : ByteArray} {p : ByteArray × Int} {m : List (ByteArray × Int)} : a0g j (p :: m) ↔ p.1 = j ∨ a0g j m := by
 unfold a0g
 simp only [List.mem_cons, exists_eq_or_imp]
theorem R5 (k j : ByteArray) (v : Int) : ∀ m, a0g j (mpt k v m) ↔ k = j ∨ a0g j m
 | [] => by rw [mpt, d7q]
 | p :: m => by grind [R5 k j v m, mpt, d7q]
theorem b4u {k j : ByteArray} : ∀ {m : List (ByteArray × Int)}, a0g j (mdl k m) -> a0g j m
 | [], h => h
 | p :: m, h => by grind [@b4u k j m, mdl, d7q]
theorem Z1 {k j : ByteArray} : ∀ {m : List (ByteArray × Int)}, kNd m -> (a0g j (mdl k m) ↔ j ≠ k ∧ a0g j m)
 | [], _ => by simp [mdl, a0g]
 | p :: m, hn => by grind [@Z1 k j m hn.2, mdl, d7q, kNd]
theorem a7b {k j : ByteArray} (hj : j ≠ k) : ∀ m : List (ByteArray × Int), mgt j (mdl k m) = mgt j m
 | [] => rfl
 | p :: m => by grind [a7b hj m, mdl, mgt]
theorem b5k (k : ByteArray) : ∀ {m : List (ByteArray × Int)}, kNd m -> kNd (mdl k m)
 | [], h => h
 | p :: m, h => by grind [@b5k k m, mdl, kNd, @b4u k p.1 m]
theorem b2a (k : ByteArray) (v : Int) : ∀ {m : List (ByteArray × Int)}, kNd m -> kNd (mpt k v m)
 | [], _ => ⟨fun ⟨_, h, _⟩ => by simp at h, trivial⟩
 | p :: m, h => by grind [@b2a k v m, mpt, kNd, R5]
theorem c7J (k : ByteArray) : ∀ o : List Std, (∀ z ∈ o, 0 <= z.si) -> kNd (tlM o) ∧ (a0g k (tlM o) -> 0 <= mgt k (tlM o)) ∧ tlG k o (-1) = if a0g k (tlM o) then mgt k (tlM o) else -1 := fun o => by
 induction o using a6K with
 | h0 => intro _; exact ⟨trivial, fun ⟨_, h, _⟩ => by simp [tlM] at h, by rw [if_neg (fun ⟨_, h, _⟩ => by simp [tlM] at h)]; rfl⟩
 | h1 o y ih =>
  intro h
  obtain ⟨i1, i2, i3⟩ := ih fun z hz => h z (by simp [hz])
  have hy := h y (by simp)
  rw [a3G, a8G, i3]
  generalize tlM o = m at *
  unfold tlS
  have := @b2a y.al y.si m
  have := @b5k y.al m
  have := @Z1 y.al k m
  have := @a7b y.al k
  grind [R5, G3]
theorem c6a {b : Int} : ∀ o : List Std, (∀ z ∈ o, 0 <= z.si ∧ z.si <= b) -> ∀ p ∈ tlM o, 0 <= p.2 ∧ p.2 <= b := fun o => by
 have hmp : ∀ (k : ByteArray) (v : Int) (m : List (ByteArray × Int)), (0 <= v ∧ v <= b) -> (∀ p ∈ m, 0 <= p.2 ∧ p.2 <= b) -> ∀ p ∈ mpt k v m, 0 <= p.2 ∧ p.2 <= b := fun k v m hv => by
  induction m with
  | nil => grind [mpt]
  | cons q m ih =>
   intro hm p hp
   have := ih fun x hx => hm x (by simp [hx])
   have := hm q (by simp)
   grind [mpt]
 have hmd : ∀ (k : ByteArray) (m : List (ByteArray × Int)), ∀ p ∈ mdl k m, p ∈ m := fun k m => by induction m <;> grind [mdl]
 induction o using a6K with
 | h0 => intro _ p hp; simp [tlM] at hp
 | h1 o y ih =>
  intro h p hp
  have i1 := ih fun z hz => h z (by simp [hz])
  rw [a3G] at hp
  unfold tlS at hp
  split at hp
  ·split at hp
   ·exact i1 p hp
   ·exact hmp _ _ _ (h y (by simp)) i1 p hp
  ·exact i1 p (hmd _ _ p hp)
def tlR (o : List Std) (at_ n : Int) : List Alm -> List ByteArray
 | [] => []
 | x :: r => (if 0 <= tlG x.k o (-1) ∧ at_ - tlG x.k o (-1) > n then [x.k] else []) ++ tlR o at_ n r
theorem a9e (o : List Std) (at_ n : Int) (x : Alm) : ∀ l : List Alm, tlR o at_ n (l ++ [x]) = tlR o at_ n l ++ (if 0 <= tlG x.k o (-1) ∧ at_ - tlG x.k o (-1) > n then [x.k] else [])
 | [] => by simp [tlR]
 | y :: l => by rw [List.cons_append, tlR, a9e o at_ n x l, tlR, List.append_assoc]
theorem c1K {o : List Std} (ho : ∀ z ∈ o, 0 <= z.si) (at_ n : Int) : ∀ l : List Alm, tlR o at_ n l = tlL (tlM o) at_ n l
 | [] => rfl
 | x :: l => by
  obtain ⟨h1, h2, h3⟩ := c7J x.k o ho
  rw [tlR, tlL, c1K ho at_ n l, h3]
  congr 1
  grind
theorem b3h (o : List Std) (at_ n : Int) : ∀ l : List Alm, (tlR o at_ n l).length <= l.length
 | [] => by simp [tlR]
 | y :: l => by
  rw [tlR, List.length_append, List.length_cons]
  have := b3h o at_ n l
  split <;> simp <;> omega
theorem c3a {o : List Std} {b : Int} (hb : 0 <= b) (ho : ∀ z ∈ o, 0 <= z.si ∧ z.si <= b) (k : ByteArray) : ∀ f : Int, -1 <= f ∧ f <= b -> -1 <= tlG k o f ∧ tlG k o f <= b := by
 induction o with
 | nil => intro f hf; exact hf
 | cons y o ih =>
  intro f hf
  have := ho y (by simp)
  refine ih (fun z hz => ho z (by simp [hz])) _ ?_
  (repeat' split) <;> omega
def c6s (l : List Alm) (o : List Std) (at_ n i : Int) (out : List ByteArray) : AS := ⟨m7 [(3, iv at_), (4, iv n), (11, .one (.sl true 3 (o.map a8S))), (13, .one (.ow 13 0)), (28, r6 false l), (29, iv l.length), (30, iv i)], f7 [], f7 [(13, T7 out)]⟩
def a5w (l : List Alm) (o : List Std) (at_ n i : Int) (out : List ByteArray) (x : Alm) (j f : Int) : AS := ⟨m7 [(3, iv at_), (4, iv n), (11, .one (.sl true 3 (o.map a8S))), (13, .one (.ow 13 0)), (15, .one (.bx 15 0)), (16, iv f), (28, r6 false l), (29, iv l.length), (30, iv i), (34, .one (.sl true 3 (o.map a8S))), (35, iv o.length), (36, iv j)], f7 [(15, D0 x)], f7 [(13, T7 out)]⟩
theorem a9u {l : List Alm} {s : List Ser} {a : List Opr} (h : RlOk l s a) (at_ n : Int) (hm : 0 <= at_ ∧ at_ <= 345686399999) (hr : ∀ z ∈ (rlA l s a at_).out, 0 <= z.si ∧ z.si <= at_) :
  FC Tryz.prog 24 none [r6 false l, B1 false s, F7 false a, iv at_, iv n] (fun _ r => r = c0O (tlR (rlA l s a at_).out at_ n l)) := by
 refine fcE Tryz.func24 (aL [[0,1,2,3,4]] ++ [⟨(kP [0,3,4,11] [] []),[],[],[],[(25,⟨[],[],[],[500023,600023],[]⟩)]⟩,⟨(kP [0,3,4,11,13] [] []),[(13,9,1)],[],[],[]⟩] ++ aM [] [13] [[3,4,11,13,28,29,30],[3,4,11,13,28,29,30,31]] ++ aM [15] [13] [[3,4,11,13,15,28,29,30],[3,4,11,13,15,16,28,29,30],[3,4,11,13,15,16,28,29,30,34,35,36],[3,4,11,13,15,16,28,29,30,34,35,36,37]] ++ aM [15,18] [13] [[3,4,11,13,15,16,18,28,29,30,34,35,36],[3,4,11,13,15,16,18,19,28,29,30,34,35,36],[3,4,11,13,15,16,18,19,28,29,30,34,35,36,43],[3,4,11,13,15,16,18,28,29,30,34,35,36,49]] ++ aM [15] [13] [[3,4,11,13,15,16,28,29,30,34,35,36]] ++ aM [15,18] [13] [[3,4,11,13,15,16,18,28,29,30,34,35,36,52]] ++ aM [15] [13] [[3,4,11,13,15,16,28,29,30,34,35,36],[3,4,11,13,15,16,28,29,30,34,35,36],[3,4,11,13,15,28,29,30,66]] ++ aM [] [13] [[3,4,11,13,28,29,30],[3,4,11,13,28,29,30]] ++ aL [[10]]) ?_
 have hl := h.al.len
 have hlg := h.log at_
 have ho := h.out at_
 generalize (rlA l s a at_).out = o at *
 refine qv ?_
 refine ⟨rfl, e7 hlg ⟨rfl, rfl⟩ ?_⟩
 refine qv ?_
 refine j7 (c6s l o at_ n) (fun i out => 0 <= i ∧ i <= l.length ∧ out = tlR o at_ n (l.take i.toNat)) (fun i _ => (l.length - i).toNat) 0 [] ⟨by omega, by omega, by simp [tlR]⟩ rfl ?_
 rintro i out ⟨i0, i1, i2⟩
 unfold c6s
 by_cases hi : i < l.length
 ·have ei := e8 D0 l i [] i0 hi
  have hl2 : out.length <= l.length := by rw [i2]; refine Nat.le_trans (b3h _ _ _ _) ?_; rw [List.length_take]; omega
  have hsn := a9e o at_ n (l.getD i.toNat default) (l.take i.toNat)
  rw [<- n4 l i i0 hi, <- i2] at hsn
  have hg := c3a (by omega) hr (l.getD i.toNat default).k (-1) (by omega)
  generalize hG : tlG (l.getD i.toNat default).k o (-1) = G at *
  refine qv ?_
  refine j7 (a5w l o at_ n i out (l.getD i.toNat default)) (fun j f => 0 <= j ∧ j <= o.length ∧ tlG (l.getD i.toNat default).k (o.drop j.toNat) f = G) (fun j _ => (o.length - j).toNat) 0 (-1) ⟨by omega, by omega, hG⟩ (by simp only [a5w, j9]) ?_
  rintro j f ⟨j0, j1, j2⟩
  unfold a5w
  simp only [j9]
  by_cases hj : j < o.length
  ·have ej := e8 a8S o j [] j0 hj
   have hin := G0 (o.getD j.toNat default).st 2 3
   rw [m5 o j.toNat (by omega), tlG, show j.toNat + 1 = (j + 1).toNat by omega] at j2
   by_cases hs : 2 <= (o.getD j.toNat default).st ∧ (o.getD j.toNat default).st <= 3
   ·rw [decide_eq_true hs] at hin
    rw [if_pos hs] at j2
    by_cases hk : (o.getD j.toNat default).al = (l.getD i.toNat default).k
    ·rw [if_neg (fun c => c hk)] at j2
     by_cases hf : f < 0
     ·rw [if_pos hf] at j2
      refine qcs hin ?_
      refine qvs ?_
      exact ⟨fun c => absurd hk c, fun _ => ⟨j + 1, (o.getD j.toNat default).si, by simp only [a5w, j9], ⟨by omega, by omega, j2⟩, by omega⟩⟩
     ·rw [if_neg hf] at j2
      refine qcs hin ?_
      refine qvs ?_
      exact ⟨fun c => absurd hk c, fun _ => ⟨j + 1, f, by simp only [a5w, j9], ⟨by omega, by omega, j2⟩, by omega⟩⟩
    ·rw [if_pos hk] at j2
     refine qcs hin ?_
     refine qvs ?_
     exact ⟨j + 1, f, by simp only [a5w, j9], ⟨by omega, by omega, j2⟩, by omega⟩
   ·rw [decide_eq_false hs] at hin
    rw [if_neg hs] at j2
    by_cases hk : (o.getD j.toNat default).al = (l.getD i.toNat default).k
    ·rw [if_neg (fun c => c hk)] at j2
     refine qcs hin ?_
     refine qvs ?_
     exact ⟨fun c => absurd hk c, fun _ => ⟨j + 1, -1, by simp only [a5w, j9], ⟨by omega, by omega, j2⟩, by omega⟩⟩
    ·rw [if_pos hk] at j2
     refine qcs hin ?_
     refine qvs ?_
     exact ⟨j + 1, f, by simp only [a5w, j9], ⟨by omega, by omega, j2⟩, by omega⟩
  ·rw [List.drop_eq_nil_of_le (by omega), tlG] at j2
   subst j2
   by_cases hd : 0 <= f
   ·by_cases hd2 : at_ - f > n
    ·rw [if_pos ⟨hd, hd2⟩] at hsn
     refine qv ?_
     exact ⟨i + 1, out ++ [(l.getD i.toNat default).k], by simp [c6s, T7, a2K], ⟨by omega, by omega, hsn.symm⟩, by omega⟩
    ·rw [if_neg (fun c => hd2 c.2), List.append_nil] at hsn
     refine qv ?_
     exact ⟨i + 1, out, rfl, ⟨by omega, by omega, hsn.symm⟩, by omega⟩
   ·rw [if_neg (fun c => hd c.1), List.append_nil] at hsn
    refine qv ?_
    exact ⟨i + 1, out, rfl, ⟨by omega, by omega, hsn.symm⟩, by omega⟩
 ·refine qv ?_
  rw [i2, show i.toNat = l.length by omega, List.take_length]
end Go.Proofs.YtnlafmigfjlnnaaGreatDoor

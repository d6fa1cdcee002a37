/- The reference's fault of an alarm. What is wrong with alarms: the reference's and the program's. -/
import Derived.Test.YtbhgndiboeppeaaGreatDoorAct
import Derived.Test.YtbhgndiboeppeaaGreatDoorFrm
import Derived.Test.YtbhgndiboeppeaaGreatDoorAlp
set_option linter.all false
set_option maxHeartbeats 4000000
set_option maxRecDepth 100000
namespace Go.Proofs.YtbhgndiboeppeaaGreatDoor
open Go Go.Ai
theorem c3o (kb tb pb : ByteArray) (lt : Bool) (hkb : kb.size ≤ 9223372036854775807) (htb : tb.size ≤ 9223372036854775807) (kd lim db on off pr : Int) : FC Tryz.prog 36 none [b5z kb tb pb lt kd lim db on off pr] (fun _ r => r = iv (a3p (m5 kb && m5 tb) kd lim db on off pr)) := by
 refine fcE Tryz.func36 (aM [1] [] [[1],[1,3]] ++ aL [[2]] ++ aM [1] [] [[1,14]] ++ aL [[2]] ++ aM [1] [] [[1,19]] ++ aL [[2],[48],[2],[2]]) ?_
 refine qc (a1y kb hkb) ?_
 cases hk1 : m5 kb with
 | false =>
  rw [Bool.false_and]
  refine qv ?_
  exact j8 (by unfold a3p; rw [if_pos rfl])
 | true =>
 rw [Bool.true_and]
 refine qc (a1y tb htb) ?_
 cases hk2 : m5 tb with
 | false =>
  refine qv ?_
  exact j8 (by unfold a3p; rw [if_pos rfl])
 | true =>
 have eg : a3p true kd lim db on off pr = a2c kd lim db on off pr := by unfold a3p; rw [if_neg (by simp)]
 rw [eg]
 refine qc (J5 _ _ _) ?_
 by_cases h0 : kd < 1 ∨ kd > 3
 ·rw [decide_eq_false (show ¬(1 ≤ kd ∧ kd ≤ 3) by omega)]
  refine qv ?_
  exact j8 (by unfold a2c; rw [if_pos h0])
 rw [decide_eq_true (show 1 ≤ kd ∧ kd ≤ 3 by omega)]
 refine qc (a3O _) ?_
 unfold c4l
 by_cases h1 : lim < -1000000 ∨ lim > 1000000
 ·rw [if_neg (show ¬(-1000000 ≤ lim ∧ lim ≤ 1000000) by omega)]
  refine qv ?_
  exact j8 (by unfold a2c; rw [if_neg h0, if_pos (by omega)])
 rw [if_pos (show -1000000 ≤ lim ∧ lim ≤ 1000000 by omega)]
 refine qc (J5 _ _ _) ?_
 by_cases h2 : db < 0 ∨ db > 2000000
 ·rw [decide_eq_false (show ¬(0 ≤ db ∧ db ≤ 2000000) by omega)]
  refine qv ?_
  exact j8 (by unfold a2c; rw [if_neg h0, if_pos (by omega)])
 rw [decide_eq_true (show 0 ≤ db ∧ db ≤ 2000000 by omega)]
 refine qc (J5 _ _ _) ?_
 by_cases h3 : on < 0 ∨ on > 86400000
 ·rw [decide_eq_false (show ¬(0 ≤ on ∧ on ≤ 86400000) by omega)]
  refine qv ?_
  exact j8 (by unfold a2c; rw [if_neg h0, if_pos (by omega)])
 rw [decide_eq_true (show 0 ≤ on ∧ on ≤ 86400000 by omega)]
 refine qc (J5 _ _ _) ?_
 by_cases h4 : off < 0 ∨ off > 86400000
 ·rw [decide_eq_false (show ¬(0 ≤ off ∧ off ≤ 86400000) by omega)]
  refine qv ?_
  exact j8 (by unfold a2c; rw [if_neg h0, if_pos (by omega)])
 rw [decide_eq_true (show 0 ≤ off ∧ off ≤ 86400000 by omega)]
 refine qc (J5 _ _ _) ?_
 by_cases h5 : pr < 1 ∨ pr > 1000
 ·rw [decide_eq_false (show ¬(1 ≤ pr ∧ pr ≤ 1000) by omega)]
  refine qv ?_
  exact j8 (by unfold a2c; rw [if_neg h0, if_pos (by omega)])
 rw [decide_eq_true (show 1 ≤ pr ∧ pr ≤ 1000 by omega)]
 have e : a2c kd lim db on off pr = if kd = 3 ∧ (lim ≠ 0 ∨ db ≠ 0) then 3 else 0 := by unfold a2c; rw [if_neg h0, if_neg (by omega)]
 rw [e]
 by_cases h6 : kd = 3
 ·by_cases h7 : lim = 0
  ·by_cases h8 : db = 0
   ·rw [if_neg (by omega)]
    exact qt
   ·rw [if_pos (by omega)]
    exact qt
  ·rw [if_pos (by omega)]
   exact qt
 ·rw [if_neg (by omega)]
  exact qt
def a2O : List Ann := (aL [[0,1],[0,1,7,8],[0,1,7,8,9],[0,1,5,7,8],[0,1,5,7,8,16],[4],[0,1,7,8],[4]])
def c6q (key : ByteArray) (l : List Alm) (i : Int) : AS := ⟨m9 [(0, r6 false l), (1, .one (.fn 73 [.ep [.g (.string key)]])), (7, iv l.length), (8, iv i)], f9 [], f9 []⟩
theorem c5z (key : ByteArray) (x : Alm) : FC Tryz.prog 73 none [.ag (z7 x), .one (.ep [.g (.string key)])] (fun _ r => r = bv (decide (x.k = key))) := by
 refine fcE Tryz.func73 [aN [1,2] [2] [],aN [3] [] []] ?_
 exact qts
theorem b6V (key : ByteArray) (l : List Alm) (hl : l.length ≤ 1000000) : FC Tryz.prog 60 none [r6 false l, .one (.fn 73 [.ep [.g (.string key)]])] (fun _ r => r = iv (q8 l key)) := by
 refine fcE Tryz.func60 a2O ?_
 refine qvs ?_
 refine j9 (c6q key l) (fun i => 0 ≤ i ∧ i ≤ l.length ∧ D0 (fun x : Alm => decide (x.k = key)) i (l.drop i.toNat) = q8 l key) (fun i => (l.length - i).toNat) 0 ⟨by omega, by omega, rfl⟩ rfl ?_
 rintro i ⟨g1, g2, g3⟩
 unfold c6q
 by_cases hi : i < l.length
 ·rw [m7 l i.toNat (by omega), D0] at g3
  have e2 : (i + 1).toNat = i.toNat + 1 := by omega
  have em := e8 z7 l i [] g1 hi
  have hc := c5z key (l.getD i.toNat default)
  rw [o6] at hc
  refine qcs hc ?_
  by_cases h : (l.getD i.toNat default).k = key
  ·rw [if_pos (decide_eq_true h)] at g3
   rw [decide_eq_true h]
   refine qvs ?_
   rw [← g3]
  ·rw [if_neg (by simpa using h)] at g3
   rw [decide_eq_false h]
   refine qvs ?_
   exact ⟨_, rfl, ⟨by omega, by omega, by rw [e2]; exact g3⟩, by omega⟩
 ·rw [List.drop_eq_nil_of_le (by omega), D0] at g3
  refine qvs ?_
  rw [← g3]
theorem H5 (key : ByteArray) (l : List Alm) (hl : l.length ≤ 1000000) : FC Tryz.prog 37 none [r6 false l, sv key] (fun _ r => r = iv (q8 l key)) := by
 refine fcE Tryz.func37 [aN [0,3] [3] [],aN [4] [] []] ?_
 refine qcs (b6V key l hl) ?_
 exact qts
def b8m (l : List Alm) (i : Nat) : Option ByteArray := if i = 0 then none else some (l.getD (i - 1) default).k
theorem a4h (l : List Alm) (i : Nat) : b8m l (i + 1) = some (l.getD i default).k := rfl
theorem a7h {a b : ByteArray} : (ltS a b ∨ a = b) ↔ ¬ltS b a := by
 constructor
 ·rintro (h | h)
  ·exact F9 h
  ·subst h; exact r8 _
 ·intro h
  rcases b3K a b with h1 | h1 | h1
  ·exact .inl h1
  ·exact .inr h1
  ·exact absurd h1 h
def c9N (l : List Alm) (i : Int) : AS := ⟨m9 [(0, r6 false l), (14, r6 false l), (15, iv l.length), (16, iv i)], f9 [], f9 []⟩
def d0l (l : List Alm) (i : Int) : AS := ⟨m9 [(0, r6 false l), (40, r6 false l), (41, iv l.length), (42, iv i)], f9 [], f9 []⟩
def c8U (l : List Alm) (i : Int) : AS := ⟨m9 [(0, r6 false l), (57, r6 false l), (58, iv l.length), (59, iv i)], f9 [], f9 []⟩
def c3w (l : List Alm) (i : Int) (x y : Alm) (j : Int) : AS := ⟨m9 [(0, r6 false l), (9, .one (.bx 9 0)), (10, .one (.bx 10 0)), (57, r6 false l), (58, iv l.length), (59, iv i), (65, iv l.length), (66, iv j)], f9 [(9, z7 x), (10, z7 y)], f9 []⟩
set_option maxHeartbeats 12000000 in
set_option maxRecDepth 8000 in
theorem a1M (l : List Alm) (hl : l.length ≤ 1000000) (hsm : ∀ x ∈ l, x.k.size ≤ 1000000 ∧ x.t.size ≤ 1000000) : FC Tryz.prog 11 none [r6 false l] (fun _ r => r = iv (afF l)) := by
 refine fcE Tryz.func11 (aL [[0],[0,13],[2],[0,14,15,16],[0,14,15,16,17]] ++ aM [4] [] [[0,3,4,14,15,16],[0,3,4,5,14,15,16],[0,3,4,5,14,15,16,24]] ++ aL [[2],[0,14,15,16,38],[2],[0,14,15,16],[0,40,41,42],[0,40,41,42,43]] ++ aM [7] [] [[0,7,40,41,42]] ++ aL [[0,40,41,42,55],[2],[0,40,41,42],[0,57,58,59],[0,57,58,59,60]] ++ aM [9] [] [[0,9,57,58,59]] ++ aM [9,10] [] [[0,9,10,57,58,59],[0,9,10,57,58,59,65,66],[0,9,10,57,58,59,65,66,67],[0,9,10,57,58,59,65,66,70],[0,9,10,57,58,59,65,66],[0,9,10,57,58,59,65,66,82]] ++ aL [[2]] ++ aM [9,10] [] [[0,9,10,57,58,59,65,66]] ++ aL [[0,57,58,59],[2]]) ?_
 unfold afF
 by_cases c0 : l.length > 200
 ·rw [if_pos c0]
  exact qts
 rw [if_neg c0]
 refine qvs ?_
 refine j9 (c9N l) (fun i => 0 ≤ i ∧ i ≤ l.length ∧ a2M (b8m l i.toNat) (l.drop i.toNat) = a2M none l) (fun i => (l.length - i).toNat) 0 ⟨by omega, by omega, rfl⟩ rfl ?_
 rintro i ⟨g1, g2, g3⟩
 unfold c9N
 by_cases hi : i < l.length
 ·have e2 : (i + 1).toNat = i.toNat + 1 := by omega
  have em := e8 z7 l i [] g1 hi
  have hm := hsm _ (j5 l i.toNat (by omega))
  rw [m7 l i.toNat (by omega), a2M, ← e2] at g3
  have hc := c3o (l.getD i.toNat default).k (l.getD i.toNat default).t (l.getD i.toNat default).p (l.getD i.toNat default).lt (by omega) (by omega) (l.getD i.toNat default).kd (l.getD i.toNat default).lim (l.getD i.toNat default).db (l.getD i.toNat default).on (l.getD i.toNat default).off (l.getD i.toNat default).pr
  rw [show a3p (m5 (l.getD i.toNat default).k && m5 (l.getD i.toNat default).t) (l.getD i.toNat default).kd (l.getD i.toNat default).lim (l.getD i.toNat default).db (l.getD i.toNat default).on (l.getD i.toNat default).off (l.getD i.toNat default).pr = (l.getD i.toNat default).flt from rfl] at hc
  by_cases c1 : (l.getD i.toNat default).flt ≠ 0
  ·rw [if_pos c1] at g3
   rw [← g3, if_pos c1]
   refine qcs hc ?_
   exact qts
  ·rw [if_neg c1] at g3
   by_cases hi0 : 0 < i
   ·have ep := e8 z7 l (i - 1) [] (by omega) (by omega)
    have e4 : b8m l i.toNat = some (l.getD (i - 1).toNat default).k := by
     unfold b8m; rw [if_neg (by omega)]
     rw [show i.toNat - 1 = (i - 1).toNat by omega]
    rw [e4] at g3
    have ho := a7h (a := (l.getD i.toNat default).k) (b := (l.getD (i - 1).toNat default).k)
    by_cases c2 : ltS (l.getD (i - 1).toNat default).k (l.getD i.toNat default).k
    ·rw [if_neg (show ¬(D9 (some (l.getD (i - 1).toNat default).k) (l.getD i.toNat default).k = true) from fun h => (of_decide_eq_true h) c2)] at g3
     have h5 : ¬(ltS (l.getD i.toNat default).k (l.getD (i - 1).toNat default).k ∨ (l.getD i.toNat default).k = (l.getD (i - 1).toNat default).k) := fun h => (ho.1 h) c2
     have hd := decide_eq_false h5
     refine qcs hc ?_
     refine qvs ?_
     exact ⟨i + 1, rfl, ⟨by omega, by omega, by rw [e2, a4h, ← e2]; exact g3⟩, by omega⟩
    ·rw [if_pos (show D9 (some (l.getD (i - 1).toNat default).k) (l.getD i.toNat default).k = true from decide_eq_true c2)] at g3
     have h5 := ho.2 c2
     rw [← g3, if_pos (by omega)]
     refine qcs hc ?_
     exact qts
   ·have e0 : i = 0 := by omega
    subst e0
    rw [show b8m l (Int.toNat 0) = none from rfl, if_neg (by simp [D9])] at g3
    refine qcs hc ?_
    refine qvs ?_
    exact ⟨1, rfl, ⟨by omega, by omega, g3⟩, by omega⟩
 ·rw [List.drop_eq_nil_of_le (by omega), a2M] at g3
  rw [if_neg (show ¬(a2M none l ≠ 0) by omega)]
  refine qvs ?_
  refine j9 (d0l l) (fun i => 0 ≤ i ∧ i ≤ l.length ∧ (l.drop i.toNat).any (Q9 l) = l.any (Q9 l)) (fun i => (l.length - i).toNat) 0 ⟨by omega, by omega, rfl⟩ rfl ?_
  rintro i ⟨g1, g2, g3⟩
  unfold d0l
  by_cases hi : i < l.length
  ·have e2 : (i + 1).toNat = i.toNat + 1 := by omega
   have em := e8 z7 l i [] g1 hi
   rw [m7 l i.toNat (by omega), List.any_cons, ← e2] at g3
   have hc := H5 (l.getD i.toNat default).p l hl
   by_cases c1 : (l.getD i.toNat default).p = emp
   ·rw [show Q9 l (l.getD i.toNat default) = false from decide_eq_false (fun h => h.1 c1), Bool.false_or] at g3
    have c1' : ¬¬(l.getD i.toNat default).p = emp := fun h => h c1
    refine qvs ?_
    exact ⟨i + 1, rfl, ⟨by omega, by omega, g3⟩, by omega⟩
   ·by_cases c2 : q8 l (l.getD i.toNat default).p < 0
    ·rw [show Q9 l (l.getD i.toNat default) = true from decide_eq_true ⟨c1, c2⟩, Bool.true_or] at g3
     rw [if_pos g3.symm]
     refine qcs hc ?_
     exact qts
    ·rw [show Q9 l (l.getD i.toNat default) = false from decide_eq_false (fun h => c2 h.2), Bool.false_or] at g3
     refine qcs hc ?_
     refine qvs ?_
     exact ⟨i + 1, rfl, ⟨by omega, by omega, g3⟩, by omega⟩
  ·rw [List.drop_eq_nil_of_le (by omega), List.any_nil] at g3
   have hno : ∀ x ∈ l, x.p ≠ emp → 0 ≤ q8 l x.p ∧ q8 l x.p < l.length := fun x hx hp => by
    rcases D5 l x.p with h | h
    ·have : l.any (Q9 l) = true := List.any_eq_true.2 ⟨x, hx, decide_eq_true (p := x.p ≠ emp ∧ q8 l x.p < 0) ⟨hp, by omega⟩⟩
     rw [← g3] at this
     cases this
    ·exact h
   rw [if_neg (by rw [← g3]; simp)]
   clear g3
   refine qvs ?_
   refine j9 (c8U l) (fun i => 0 ≤ i ∧ i ≤ l.length ∧ ((l.drop i.toNat).any fun x => lpR l x.k l.length x) = (l.any fun x => lpR l x.k l.length x)) (fun i => (l.length - i).toNat) 0 ⟨by omega, by omega, rfl⟩ rfl ?_
   rintro i ⟨g1, g2, g3⟩
   unfold c8U
   by_cases hi : i < l.length
   ·have e2 : (i + 1).toNat = i.toNat + 1 := by omega
    have em := e8 z7 l i [] g1 hi
    have hxm := j5 l i.toNat (by omega)
    rw [m7 l i.toNat (by omega), List.any_cons, ← e2] at g3
    refine qvs ?_
    refine n8 (fun j y => c3w l i (l.getD i.toNat default) y j) (fun j y => 0 ≤ j ∧ j ≤ l.length ∧ y ∈ l ∧ lpR l (l.getD i.toNat default).k (l.length - j.toNat) y = lpR l (l.getD i.toNat default).k l.length (l.getD i.toNat default)) (fun j _ => (l.length - j).toNat) 0 (l.getD i.toNat default) ⟨by omega, by omega, hxm, by simp⟩ ?_ ?_
    ·unfold c3w; simp only [o6]
    rintro j y ⟨h1, h2, h3, h4⟩
    generalize l.getD i.toNat default = x at *
    unfold c3w
    by_cases hj : j < l.length
    ·rw [show l.length - j.toNat = (l.length - (j + 1).toNat) + 1 by omega, lpR] at h4
     by_cases c1 : y.p = emp
     ·rw [if_pos c1] at h4
      rw [← h4, Bool.false_or] at g3
      refine qvs ?_
      exact ⟨i + 1, rfl, ⟨by omega, by omega, g3⟩, by omega⟩
     ·rw [if_neg c1] at h4
      have hix := hno y h3 c1
      have hc := H5 y.p l hl
      have ey := e8 z7 l (q8 l y.p) [] hix.1 hix.2
      have hpm : a3h l y ∈ l := j5 l _ (by omega)
      have epo : l.getD (q8 l y.p).toNat default = a3h l y := rfl
      rw [← epo] at h4 hpm
      by_cases c2 : (l.getD (q8 l y.p).toNat default).k = x.k
      ·rw [if_pos c2] at h4
       rw [← h4, Bool.true_or] at g3
       rw [if_pos g3.symm]
       refine qcs hc ?_
       exact qts
      ·rw [if_neg c2] at h4
       refine qcs hc ?_
       refine qvs ?_
       exact ⟨j + 1, l.getD (q8 l y.p).toNat default, by simp only [o6], ⟨by omega, by omega, hpm, h4⟩, by omega⟩
    ·rw [show l.length - j.toNat = 0 by omega, lpR] at h4
     rw [← h4, Bool.false_or] at g3
     refine qvs ?_
     exact ⟨i + 1, rfl, ⟨by omega, by omega, g3⟩, by omega⟩
   ·rw [List.drop_eq_nil_of_le (by omega), List.any_nil] at g3
    rw [if_neg (by rw [← g3]; simp)]
    exact qts
theorem a2s (l : List Alm) (hl : l.length ≤ 1000000) (hsm : ∀ x ∈ l, x.sm) : FC Tryz.prog 11 none [r6 false l] (fun _ r => r = iv (afF l)) :=
 a1M l hl fun x hx => by have h := hsm x hx; unfold Alm.sm at h; omega
end Go.Proofs.YtbhgndiboeppeaaGreatDoor

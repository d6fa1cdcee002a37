/- Alarms: what is wrong with one, whether its condition holds, and when it is active. -/
import Derived.Test.YtbhgndiboeppeaaGreatDoorFrm
import Derived.Test.YtbhgndiboeppeaaGreatDoorKey
set_option linter.all false
set_option maxHeartbeats 4000000
set_option maxRecDepth 100000
namespace Go.Proofs.YtbhgndiboeppeaaGreatDoor
open Go Go.Ai
def a1z : List Ann := (aM [3] [] [[1,2,3]] ++ [⟨(kP [1,2,3,7] [3] []),[(7,35,2)],[],[],[]⟩] ++ aM [3] [7] [[1,2,3,7,8],[1,2,3,7,8,9,10],[1,2,3,7,8,9,10,11,12],[1,2,3,7,8,9,10,11,12,20,21,22],[1,2,3,7,8,9,10,11,12,20,21,22,23]] ++ aM [3,14] [7] [[1,2,3,7,8,9,10,11,12,13,14,20,21,22],[1,2,3,7,8,9,10,11,12,13,14,15,20,21,22],[1,2,3,7,8,9,10,11,12,13,14,15,20,21,22,31],[1,2,3,7,8,9,10,11,12,14,15,20,21,22],[1,2,3,7,8,9,10,11,12,14,15,16,17,20,21,22],[1,2,3,7,8,9,10,12,14,15,16,17,20,21,22,48],[1,2,3,7,8,9,10,12,14,15,16,17,20,21,22],[1,2,3,7,8,9,10,14,15,16,17,20,21,22,55],[1,2,3,7,8,9,10,14,15,16,17,20,21,22],[1,2,3,7,8,9,10,11,12,14,15,16,17,20,21,22],[1,2,3,7,8,9,10,11,12,14,15,16,17,18,20,21,22],[1,2,3,7,8,9,10,11,12,14,15,17,18,20,21,22,81],[1,2,3,7,8,9,10,11,12,14,15,17,18,20,21,22],[1,2,3,7,8,9,10,11,12,14,15,17,20,21,22]] ++ aM [3] [7] [[1,2,3,7,8,9,10,11,12,15,17,19,20,21,22],[1,2,3,7,8,9,10,11,12,19,20,21,22,108],[1,2,3,7,8,9,10,11,12,19,20,21,22],[1,2,3,7,8,9,10,11,12,20,21,22],[1,2,3,7,8,9,10,11,12,20,21,22]] ++ aL [[6]])
def a4G : List Ann := (aM [3] [] [[1,2,3],[1,2,3,8],[1,2,3,8,14]] ++ [⟨(kP [6,7] [] []),[],[],[(6,2)],[]⟩] ++ aL [[6,7]])
abbrev b0r (kb tb pb : ByteArray) (lt : Bool) (kd lim db on off pr : Int) : List Cel := [.g (.string kb), .g (.string tb), .g (.int .i64 kd), .g (.int .i64 lim), .g (.int .i64 db), .g (.int .i64 on), .g (.int .i64 off), .g (.int .i64 pr), .g (.bool lt), .g (.string pb)]
abbrev b5z (kb tb pb : ByteArray) (lt : Bool) (kd lim db on off pr : Int) : Val := .ag [.g (.string kb), .g (.string tb), .g (.int .i64 kd), .g (.int .i64 lim), .g (.int .i64 db), .g (.int .i64 on), .g (.int .i64 off), .g (.int .i64 pr), .g (.bool lt), .g (.string pb)]
def a2c (kd lim db on off pr : Int) : Int := if kd < 1 ∨ kd > 3 then 4 else if ¬((-1000000 ≤ lim ∧ lim ≤ 1000000) ∧ (0 ≤ db ∧ db ≤ 2000000) ∧ (0 ≤ on ∧ on ≤ 86400000) ∧ (0 ≤ off ∧ off ≤ 86400000) ∧ (1 ≤ pr ∧ pr ≤ 1000)) then 1 else if kd = 3 ∧ (lim ≠ 0 ∨ db ≠ 0) then 3 else 0
def a3p (kk : Bool) (kd lim db on off pr : Int) : Int := if kk = false then 5 else a2c kd lim db on off pr
theorem Y2 (kb tb pb : ByteArray) (lt : Bool) (hkb : kb.size ≤ 9223372036854775807) (htb : tb.size ≤ 9223372036854775807) (kd lim db on off pr : Int) : FC Tryz.prog 113 none [b5z kb tb pb lt kd lim db on off pr] (fun _ r => r = iv (a3p (m5 kb && m5 tb) kd lim db on off pr)) := by
 refine fcE Tryz.func113 (aM [1] [] [[1],[1,3]] ++ aL [[2]] ++ aM [1] [] [[1,14]] ++ aL [[2]] ++ aM [1] [] [[1,18]] ++ aL [[2],[42],[2],[2]]) ?_
 refine qc (a5u kb hkb) ?_
 cases hk1 : m5 kb with
 | false =>
  rw [Bool.false_and]
  refine qv ?_
  exact j8 (by unfold a3p; rw [if_pos rfl])
 | true =>
 rw [Bool.true_and]
 refine qc (a5u tb htb) ?_
 cases hk2 : m5 tb with
 | false =>
  refine qv ?_
  exact j8 (by unfold a3p; rw [if_pos rfl])
 | true =>
 have eg : a3p true kd lim db on off pr = a2c kd lim db on off pr := by unfold a3p; rw [if_neg (by simp)]
 rw [eg]
 refine qc (J2 _ _ _) ?_
 by_cases h0 : kd < 1 ∨ kd > 3
 ·rw [decide_eq_true h0]
  refine qv ?_
  exact j8 (by unfold a2c; rw [if_pos h0])
 rw [decide_eq_false h0]
 refine qc (J2 _ _ _) ?_
 by_cases h1 : lim < -1000000 ∨ lim > 1000000
 ·rw [decide_eq_true h1]
  refine qv ?_
  exact j8 (by unfold a2c; rw [if_neg h0, if_pos (by omega)])
 rw [decide_eq_false h1]
 refine qc (J2 _ _ _) ?_
 by_cases h2 : db < 0 ∨ db > 2000000
 ·rw [decide_eq_true h2]
  refine qv ?_
  exact j8 (by unfold a2c; rw [if_neg h0, if_pos (by omega)])
 rw [decide_eq_false h2]
 refine qc (J2 _ _ _) ?_
 by_cases h3 : on < 0 ∨ on > 86400000
 ·rw [decide_eq_true h3]
  refine qv ?_
  exact j8 (by unfold a2c; rw [if_neg h0, if_pos (by omega)])
 rw [decide_eq_false h3]
 refine qc (J2 _ _ _) ?_
 by_cases h4 : off < 0 ∨ off > 86400000
 ·rw [decide_eq_true h4]
  refine qv ?_
  exact j8 (by unfold a2c; rw [if_neg h0, if_pos (by omega)])
 rw [decide_eq_false h4]
 refine qc (J2 _ _ _) ?_
 by_cases h5 : pr < 1 ∨ pr > 1000
 ·rw [decide_eq_true h5]
  refine qv ?_
  exact j8 (by unfold a2c; rw [if_neg h0, if_pos (by omega)])
 rw [decide_eq_false h5]
 have e : a2c kd lim db on off pr = if kd = 3 ∧ (lim ≠ 0 ∨ db ≠ 0) then 3 else 0 := by unfold a2c; rw [if_neg h0, if_neg (by omega)]
 rw [e]
 by_cases h6 : kd = 3
 ·by_cases h7 : lim = 0
  ·by_cases h8 : db = 0
   ·rw [if_neg (by omega)]
    exact qt
   ·rw [if_pos (by omega)]
    exact qt
  ·rw [if_pos (by omega)]
   exact qt
 ·rw [if_neg (by omega)]
  exact qt
def unF (kk : Bool) (kd lim db on off pr : Int) (l : List Smp) (un : Int) : Int := if C2 [a3p kk kd lim db on off pr, n7 l] = 0 ∧ (un < 0 ∨ un > 345686400000) then 1 else C2 [a3p kk kd lim db on off pr, n7 l]
theorem a2X (kb tb pb : ByteArray) (lt : Bool) (hkb : kb.size ≤ 9223372036854775807) (htb : tb.size ≤ 9223372036854775807) (kd lim db on off pr : Int) (l : List Smp) (hl : l.length ≤ 4611686018427387904) (un : Int) : FC Tryz.prog 103 none [b5z kb tb pb lt kd lim db on off pr, a0Z false l, iv un] (fun _ r => r = iv (unF (m5 kb && m5 tb) kd lim db on off pr l un)) := by
 refine fcE Tryz.func103 (aM [3] [] [[1,2,3]] ++ aL [[2,7],[7,19],[7],[6]]) ?_
 have hca := Y2 kb tb pb lt hkb htb kd lim db on off pr
 generalize (m5 kb && m5 tb) = kk at *
 refine qc hca ?_
 refine qc (V0 l hl) ?_
 refine qv ?_
 refine n6 (a7N false [a3p kk kd lim db on off pr, n7 l] (by simp)) (.inl rfl) ?_
 unfold unF
 generalize C2 [a3p kk kd lim db on off pr, n7 l] = e
 by_cases h1 : e = 0
 ·refine qc (J2 _ _ _) ?_
  by_cases h2 : un < 0 ∨ un > 345686400000
  ·rw [decide_eq_true h2, if_pos ⟨h1, h2⟩]
   exact qt
  ·rw [decide_eq_false h2, if_neg (fun h => h2 h.2)]
   exact qt
 ·rw [if_neg (fun h => h1 h.1)]
  exact qt
def s6 (kd lim db : Int) (s : Smp) : Bool × Bool :=
 if kd = 1 then (decide (¬s.q = 2 ∧ s.v > lim), decide (¬s.q = 2 ∧ s.v ≤ lim - db)) else if kd = 2 then (decide (¬s.q = 2 ∧ s.v < lim), decide (¬s.q = 2 ∧ s.v ≥ lim + db)) else (decide (s.q = 2), decide (¬s.q = 2))
theorem a5I (kb tb pb : ByteArray) (lt : Bool) (kd lim db on off pr : Int) (s : Smp) (hs : U0 s) (h1 : -1000000 ≤ lim ∧ lim ≤ 1000000) (h2 : 0 ≤ db ∧ db ≤ 2000000) : FC Tryz.prog 117 none [b5z kb tb pb lt kd lim db on off pr, c4Q s] (fun _ r => r = .tu [bv (s6 kd lim db s).1, bv (s6 kd lim db s).2]) := by
 refine fcE Tryz.func117 (aM [2,3] [] [[2,3],[2,3,6],[2,3,6,11],[2,3,6,11,12]] ++ aL [[4,5]] ++ aM [2,3] [] [[2,3,6,35]] ++ aL [[4,5],[4,5]]) ?_
 unfold s6
 by_cases c1 : kd = 1
 ·rw [if_pos c1]
  by_cases c2 : s.q = 2
  ·rw [decide_eq_false (fun h => h.1 c2), decide_eq_false (fun h => h.1 c2)]
   exact qt
  ·refine qv ?_
   exact Z3 (J9 (by simp [c2])) (J9 (by simp [c2]))
 rw [if_neg c1]
 by_cases c3 : kd = 2
 ·rw [if_pos c3]
  by_cases c2 : s.q = 2
  ·rw [decide_eq_false (fun h => h.1 c2), decide_eq_false (fun h => h.1 c2)]
   exact qt
  ·refine qv ?_
   exact Z3 (J9 (by simp [c2])) (J9 (by simp [c2]))
 rw [if_neg c3]
 exact qt
structure N8 where
 out : List (Int × Int)
 act : Bool
 t1 : Int
 t2 : Int
 h1 : Bool
 h2 : Bool
def y8 (on off un nx : Int) (a : Int) (x y : Bool) (s : N8) : N8 :=
 let t1 := if x = true ∧ s.h1 = false then a else s.t1
 let t2 := if y = true ∧ s.h2 = false then a else s.t2
 let up := x = true ∧ s.act = false ∧ max a (t1 + on) < nx ∧ max a (t1 + on) < un
 let act1 := if up then true else s.act
 let out1 := if up then s.out ++ [(max a (t1 + on), un)] else s.out
 let dn := y = true ∧ act1 = true ∧ max a (t2 + off) < nx ∧ max a (t2 + off) < un
 ⟨if dn then X9 out1 (max a (t2 + off)) else out1, if dn then false else act1, t1, t2, x, y⟩
def M0 (kd lim db on off un : Int) : List Smp → N8 → N8
 | [], s => s
 | [x], s => y8 on off un 345686400000 x.a (s6 kd lim db x).1 (s6 kd lim db x).2 s
 | x :: y :: r, s => M0 kd lim db on off un (y :: r) (y8 on off un y.a x.a (s6 kd lim db x).1 (s6 kd lim db x).2 s)
def nxA (l : List Smp) (i : Nat) : Int := if i + 1 < l.length then (l.getD (i + 1) default).a else 345686400000
theorem a9f (kd lim db on off un : Int) (l : List Smp) (i : Nat) (h : i < l.length) (s : N8) : M0 kd lim db on off un (l.drop i) s = M0 kd lim db on off un (l.drop (i + 1)) (y8 on off un (nxA l i) (l.getD i default).a (s6 kd lim db (l.getD i default)).1 (s6 kd lim db (l.getD i default)).2 s) := by
 unfold nxA
 rw [m7 l i h]
 by_cases h2 : i + 1 < l.length
 ·rw [m7 l (i + 1) h2, M0, if_pos h2]
 ·rw [List.drop_eq_nil_of_le (by omega), M0, if_neg h2, M0]
def a9P (kd lim db on off un : Int) (l : List Smp) : List (Int × Int) := (M0 kd lim db on off un l ⟨[], false, 0, 0, false, false⟩).out
def a2n (kb tb pb : ByteArray) (lt : Bool) (kd lim db on off pr un : Int) (l : List Smp) (i : Int) (x : N8) : AS := ⟨m9 [(1, a0Z false l), (2, iv un), (3, .one (.bx 3 0)), (7, .one (.ow 7 0)), (8, bv x.act), (9, iv x.t1), (10, iv x.t2), (11, bv x.h1), (12, bv x.h2), (20, a0Z false l), (21, iv l.length), (22, iv i)], f9 [(3, [.g (.string kb), .g (.string tb), .g (.int .i64 kd), .g (.int .i64 lim), .g (.int .i64 db), .g (.int .i64 on), .g (.int .i64 off), .g (.int .i64 pr), .g (.bool lt), .g (.string pb)])], f9 [(7, P4 x.out)]⟩
structure ActI (kd lim db on off un : Int) (l : List Smp) (i : Int) (x : N8) : Prop where
 a : 0 ≤ i
 b : i ≤ l.length
 c : x.out.length ≤ i
 d : x.act = true → 1 ≤ x.out.length
 e : 0 ≤ x.t1 ∧ x.t1 ≤ 345686400000
 f : 0 ≤ x.t2 ∧ x.t2 ≤ 345686400000
 g : M0 kd lim db on off un (l.drop i.toNat) x = M0 kd lim db on off un l ⟨[], false, 0, 0, false, false⟩
theorem ActI.next {kd lim db on off un : Int} {l : List Smp} {i : Int} {x y : N8} (h : ActI kd lim db on off un l i x) (hi : i < l.length) (ha : 0 ≤ (l.getD i.toNat default).a ∧ (l.getD i.toNat default).a ≤ 345686400000) (hy : y = y8 on off un (nxA l i.toNat) (l.getD i.toNat default).a (s6 kd lim db (l.getD i.toNat default)).1 (s6 kd lim db (l.getD i.toNat default)).2 x) : ActI kd lim db on off un l (i + 1) y := by
 have h1 := h.a
 have h2 := h.c
 have h3 := h.d
 have h4 := h.e
 have h5 := h.f
 have h6 := h.g
 have e2 : (i + 1).toNat = i.toNat + 1 := by omega
 rw [a9f kd lim db on off un l i.toNat (by omega), ← hy, ← e2] at h6
 refine ⟨by omega, by omega, ?_, ?_, ?_, ?_, h6⟩
 ·rw [hy]; unfold y8; simp only []
  (repeat' split) <;> (first | omega | (simp only [R4, List.length_append, List.length_singleton]; omega))
 ·rw [hy]; unfold y8; simp only []
  (repeat' split) <;> intro h <;> (first | (cases h; done) | (simp only [R4, List.length_append, List.length_singleton]; omega) | (have := h3 h; omega) | (have := h3 h; simp only [R4, List.length_append, List.length_singleton]; omega))
 ·rw [hy]; unfold y8; simp only []; split
  ·exact ha
  ·exact h4
 ·rw [hy]; unfold y8; simp only []; split
  ·exact ha
  ·exact h5
end Go.Proofs.YtbhgndiboeppeaaGreatDoor

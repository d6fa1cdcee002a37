/- The reference: when an alarm is active, asked at each moment at which something can change: the walk. -/
import Derived.Test.YtbhgndiboeppeaaGreatDoorAct
import Derived.Test.YtbhgndiboeppeaaGreatDoorAoq
set_option linter.all false
set_option maxHeartbeats 4000000
set_option maxRecDepth 100000
namespace Go.Proofs.YtbhgndiboeppeaaGreatDoor
open Go Go.Ai
theorem b6Q : FCM Tryz.prog 145 ⟨[], [(1000000, a4S)]⟩ [.one (.ow 1000000 0)] (fun H r => H = ⟨[], [(1000000, a4S)]⟩ ∧ r = .one (.ow 1000000 0)) := by
 refine fmE Tryz.func145 (aM [] [1000000] [[0],[0,8],[2],[0,3],[0,3,13],[0,3,25],[0,3,4],[0,3,4,5],[0,3,4,5,32],[0,3,4,5,44],[0,3,4,5],[0,3,4,5],[0,3,4,5],[0,3],[2],[0,3],[2]]) ⟨[], [], [1000000]⟩ ?_
 exact qt
theorem a4v (l : List Int) (hsz : l.length ≤ 9223372036854775807) : FCM Tryz.prog 145 ⟨[], [(1000000, b0t l)]⟩ [.one (.ow 1000000 0)] (fun H r => H = ⟨[], [(1000000, b0t (Lib.compact l))]⟩ ∧ r = .one (.ow 1000000 0)) := by
 by_cases h : l = []
 ·subst h; exact b6Q
 ·exact a5l l h hsz
theorem a7I (kb tb pb : ByteArray) (lt : Bool) (kd lim db on off pr : Int) (s : Smp) (hs : U0 s) (h1 : -1000000 ≤ lim ∧ lim ≤ 1000000) (h2 : 0 ≤ db ∧ db ≤ 2000000) : FC Tryz.prog 143 none [b5z kb tb pb lt kd lim db on off pr, c4Q s] (fun _ r => r = .tu [bv (s6 kd lim db s).1, bv (s6 kd lim db s).2]) := by
 refine fcE Tryz.func143 (aM [2,3] [] [[2,3],[2,3,6],[2,3,6,11],[2,3,6,11,12]] ++ aL [[4,5]] ++ aM [2,3] [] [[2,3,6,33]] ++ aL [[4,5],[4,5]]) ?_
 unfold s6
 by_cases c1 : kd = 1
 ·rw [if_pos c1]
  by_cases c2 : s.q = 2
  ·rw [decide_eq_false (fun h => h.1 c2), decide_eq_false (fun h => h.1 c2)]
   exact qt
  ·refine qv ?_
   exact Z3 (J9 (by simp [c2])) (J9 (by simp [c2]))
 rw [if_neg c1]
 by_cases c3 : kd = 2
 ·rw [if_pos c3]
  by_cases c2 : s.q = 2
  ·rw [decide_eq_false (fun h => h.1 c2), decide_eq_false (fun h => h.1 c2)]
   exact qt
  ·refine qv ?_
   exact Z3 (J9 (by simp [c2])) (J9 (by simp [c2]))
 rw [if_neg c3]
 by_cases c2 : s.q = 2
 ·rw [decide_eq_true c2, decide_eq_false (fun h => h c2)]
  refine qv ?_
  simp [c2]
 ·rw [decide_eq_false c2, decide_eq_true c2]
  refine qv ?_
  simp [c2]
theorem c8K (kb tb pb : ByteArray) (lt : Bool) (kd lim db on off pr : Int) (s : Smp) (hs : U0 s) (h1 : -1000000 ≤ lim ∧ lim ≤ 1000000) (h2 : 0 ≤ db ∧ db ≤ 2000000) : FC Tryz.prog 142 none [c4Q s, .one (.ep (b0r kb tb pb lt kd lim db on off pr))] (fun _ r => r = bv (s6 kd lim db s).1) := by
 refine fcE Tryz.func142 (aM [2] [] [[1,2]] ++ aL [[4],[3]]) ?_
 have hc := a7I kb tb pb lt kd lim db on off pr s hs h1 h2
 generalize s6 kd lim db s = p at *
 unfold b0r
 refine qc hc ?_
 exact qt
theorem c7l (kb tb pb : ByteArray) (lt : Bool) (kd lim db on off pr : Int) (s : Smp) (hs : U0 s) (h1 : -1000000 ≤ lim ∧ lim ≤ 1000000) (h2 : 0 ≤ db ∧ db ≤ 2000000) : FC Tryz.prog 144 none [c4Q s, .one (.ep (b0r kb tb pb lt kd lim db on off pr))] (fun _ r => r = bv (s6 kd lim db s).2) := by
 refine fcE Tryz.func144 (aM [2] [] [[1,2]] ++ aL [[5],[3]]) ?_
 have hc := a7I kb tb pb lt kd lim db on off pr s hs h1 h2
 generalize s6 kd lim db s = p at *
 unfold b0r
 refine qc hc ?_
 exact qt
def c9R (cl : FuncId) (cs : List Cel) (l : List Smp) (at_ : Int) (i o : Int) : AS := ⟨m9 [(1, iv at_), (2, .one (.fn cl [.ep cs])), (7, iv o), (10, a0Z false l), (11, iv l.length), (12, iv i)], f9 [], f9 []⟩
theorem a7r (cl : FuncId) (cs : List Cel) (p : Smp → Bool) (l : List Smp) (hg : Good l) (at_ : Int) (hcl : ∀ x ∈ l, FC Tryz.prog cl none [c4Q x, .one (.ep cs)] (fun _ r => r = bv (p x))) : FC Tryz.prog 146 none [a0Z false l, iv at_, .one (.fn cl [.ep cs])] (fun _ r => r = iv (J4 p at_ (-1) l)) := by
 refine fcE Tryz.func146 (aL [[0,1,2],[0,1,2,7],[1,2,7,10,11,12],[1,2,7,10,11,12,13]] ++ aM [9] [] [[1,2,7,9,10,11,12],[1,2,7,9,10,11,12,16],[1,2,7,9,10,11,12,21]] ++ aL [[1,2,7,10,11,12]] ++ aM [9] [] [[1,2,7,9,10,11,12,26]] ++ aL [[1,2,7,10,11,12],[1,2,7,10,11,12],[6]]) ?_
 have hl := hg.len
 refine qv ?_
 refine n8 (c9R cl cs l at_) (fun i o => 0 ≤ i ∧ i ≤ l.length ∧ J4 p at_ o (l.drop i.toNat) = J4 p at_ (-1) l) (fun i _ => (l.length - i).toNat) 0 (-1) ⟨by omega, by omega, rfl⟩ rfl ?_
 rintro i o ⟨g1, g2, g3⟩
 unfold c9R
 by_cases hi : i < l.length
 ·rw [m7 l i.toNat (by omega), a0m] at g3
  have e2 : (i + 1).toNat = i.toNat + 1 := by omega
  rw [← e2] at g3
  have em := e8 a4l l i [] g1 hi
  have hc := hcl _ (j5 l i.toNat (by omega))
  by_cases c1 : (l.getD i.toNat default).a > at_
  ·rw [if_pos c1] at g3
   refine qv ?_
   exact ⟨i + 1, o, rfl, ⟨by omega, by omega, g3⟩, by omega⟩
  ·rw [if_neg c1] at g3
   refine qc hc ?_
   cases hp : p (l.getD i.toNat default) with
   | false =>
    rw [hp, if_pos rfl] at g3
    refine qv ?_
    exact ⟨i + 1, -1, rfl, ⟨by omega, by omega, g3⟩, by omega⟩
   | true =>
    rw [hp, if_neg (by simp)] at g3
    by_cases c2 : o < 0
    ·rw [if_pos c2] at g3
     refine qv ?_
     exact ⟨i + 1, _, rfl, ⟨by omega, by omega, g3⟩, by omega⟩
    ·rw [if_neg c2] at g3
     refine qv ?_
     exact ⟨i + 1, o, rfl, ⟨by omega, by omega, g3⟩, by omega⟩
 ·rw [List.drop_eq_nil_of_le (by omega), J4] at g3
  rw [← g3]
  exact qt
theorem a1G {p : Smp → Bool} {T : Int} : ∀ (l : List Smp) (o : Int), (∀ s ∈ l, 0 ≤ s.a ∧ s.a ≤ 345686400000) → (-1 ≤ o ∧ o ≤ 345686400000) → -1 ≤ J4 p T o l ∧ J4 p T o l ≤ 345686400000
 | [], o, _, h => h
 | s :: r, o, h1, h2 => by
  have hs := h1 s (by simp)
  rw [a0m]
  refine a1G r _ (fun x hx => h1 x (by simp [hx])) ?_
  split
  ·exact h2
  ·split
   ·omega
   ·split <;> omega
theorem b5G {l : List Smp} (hg : Good l) : ∀ x ∈ l, U0 x := fun x hx => by
 obtain ⟨i, hi, rfl⟩ := List.mem_iff_getElem.1 hx
 have := hg.ok i hi
 rwa [show l.getD i default = l[i] by simp [List.getD_eq_getElem?_getD, hi]] at this
theorem c4w {l : List Smp} (hg : Good l) : l.Pairwise (fun x y => x.a < y.a) := by
 refine List.pairwise_iff_getElem.2 fun i j hi hj hij => ?_
 have := hg.up i j hij hj
 rwa [show l.getD i default = l[i] by simp [List.getD_eq_getElem?_getD, hi], show l.getD j default = l[j] by simp [List.getD_eq_getElem?_getD, hj]] at this
def c7n (kb tb pb : ByteArray) (lt : Bool) (kd lim db on off pr un : Int) (l : List Smp) (i : Int) (T : List Int) : AS := ⟨m9 [(1, a0Z false l), (2, iv un), (3, .one (.bx 3 0)), (7, .one (.ow 7 0)), (18, a0Z false l), (19, iv l.length), (20, iv i)], f9 [(3, b0r kb tb pb lt kd lim db on off pr)], f9 [(7, b0t T)]⟩
def c8w (kb tb pb : ByteArray) (lt : Bool) (kd lim db on off pr un : Int) (l : List Smp) (C : List Int) (j : Int) (out : List (Int × Int)) (act : Bool) : AS := ⟨m9 [(1, a0Z false l), (2, iv un), (3, .one (.bx 3 0)), (10, .one (.fn 142 [.bx 3 0])), (11, .one (.fn 144 [.bx 3 0])), (12, .one (.ow 12 0)), (13, bv act), (45, a1p true C), (46, iv C.length), (47, iv j)], f9 [(3, b0r kb tb pb lt kd lim db on off pr)], f9 [(12, P4 out)]⟩
set_option maxHeartbeats 12000000 in
set_option maxRecDepth 8000 in
theorem a6L (kb tb pb : ByteArray) (lt : Bool) (kd lim db on off pr un : Int) (l : List Smp) (hg : Good l) (hlim : -1000000 ≤ lim ∧ lim ≤ 1000000) (hdb : 0 ≤ db ∧ db ≤ 2000000) (hon : 0 ≤ on ∧ on ≤ 86400000) (hoff : 0 ≤ off ∧ off ≤ 86400000) (hun : 0 ≤ un ∧ un ≤ 345686400000) :
  FC Tryz.prog 97 none [b5z kb tb pb lt kd lim db on off pr, a0Z false l, iv un] (fun _ r => r = b0q true (a9P kd lim db on off un l)) := by
 refine fcE Tryz.func97 ([aN [1,2,3] [3] [],⟨(kP [1,2,3,7] [3] []),[(7,3,1)],[],[],[]⟩,aN [1,2,3,7,18,19,20] [3] [7],aN [1,2,3,7,18,19,20,21] [3] [7],aN [1,2,3,7,9,18,19,20] [3,9] [7],aN [1,2,3,7,18,19,20] [3] [7],aN [1,2,3,7,18,19,20] [3] [7],⟨(kP [1,2,3,7] [3] [7]),[],[],[],[(41,⟨[],[7],[],[7],[7]⟩)]⟩,aN [1,2,3,7,10] [3] [7],aN [1,2,3,7,10,11] [3] [7],⟨(kP [1,2,3,7,10,11,12] [3] [7]),[(12,35,2)],[],[],[]⟩,aN [1,2,3,7,10,11,12,13] [3] [7,12],⟨(kP [1,2,3,10,11,12,13,45,46,47] [3] [12]),[],[],[],[(45,⟨[],[7],[],[7],[]⟩)]⟩] ++ aM [3] [12] [[1,2,3,10,11,12,13,45,46,47,48],[1,2,3,10,11,12,13,15,45,46,47],[1,2,3,10,11,12,13,15,45,46,47,53],[1,2,3,10,11,12,13,15,16,17,45,46,47],[1,2,3,10,11,12,13,15,17,45,46,47,62],[1,2,3,10,11,12,45,46,47],[1,2,3,10,11,12,13,45,46,47],[1,2,3,10,11,12,13,15,45,46,47,83],[1,2,3,10,11,12,45,46,47],[1,2,3,10,11,12,13,45,46,47],[1,2,3,10,11,12,13,45,46,47]] ++ [aN [6] [] []]) ?_
 have hlen := hg.len
 have hok := b5G hg
 have hsr : ∀ x ∈ l, 0 ≤ x.a ∧ x.a ≤ 345686400000 := fun x hx => by have := hok x hx; unfold U0 at this; omega
 have hrw := b7O (kd := kd) (lim := lim) (db := db) (un := un) hsr (c4w hg) hdb.1 hon.1 hoff.1 hun.2
 unfold d1M at hrw
 refine qv ?_
 refine j9 (fun i => c7n kb tb pb lt kd lim db on off pr un l i (a4a on off l i.toNat)) (fun i => 0 ≤ i ∧ i ≤ l.length) (fun i => (l.length - i).toNat) 0 ⟨by omega, by omega⟩ rfl ?_
 rintro i ⟨g1, g2⟩
 have tl := a7t on off l i.toNat
 unfold c7n b0r
 by_cases hi : i < l.length
 ·have e2 : (i + 1).toNat = i.toNat + 1 := by omega
  have em := e8 a4l l i [] g1 hi
  have ho := hsr _ (j5 l i.toNat (by omega))
  have e3 : a4a on off l (i + 1).toNat = a4a on off l i.toNat ++ [(l.getD i.toNat default).a, (l.getD i.toNat default).a + on, (l.getD i.toNat default).a + off] := by rw [e2, a4a]
  refine qv ?_
  exact ⟨i + 1, by simp only [e3, b0t, List.map_append, List.map_cons, List.map_nil, a0i], ⟨by omega, by omega⟩, by omega⟩
 ·have hil : i.toNat = l.length := by omega
  rw [hil] at tl ⊢
  have hso := a1H (a4a on off l l.length) (by omega)
  have hsl : (a0q (a4a on off l l.length)).length = (a4a on off l l.length).length := List.length_mergeSort _
  have hco := a4v (a0q (a4a on off l l.length)) (by omega)
  have hCr : ∀ d ∈ c0I on off l, 0 ≤ d ∧ d ≤ 345772800000 := fun d hd => by
   unfold c0I at hd
   rw [b1b, a7C] at hd
   obtain ⟨i, hi, h⟩ := (a0N on off l d _).1 hd
   have := hsr _ (j5 l i hi)
   omega
  have hCl : (c0I on off l).length ≤ 15000 := by
   have := Lib.compact_length_le (a0q (a4a on off l l.length))
   unfold c0I; omega
  have hCd : Lib.compact (a0q (a4a on off l l.length)) = c0I on off l := rfl
  rw [hCd] at hco
  generalize c0I on off l = C at *
  refine qv ?_
  refine ⟨rfl, y6 ⟨[], [(7, b0t (a0q (a4a on off l l.length)))]⟩ (.tu []) (fun k => k) (swp 7 1000000) (fun _ => rfl) (s8 7 1000000) hso (by simp) rfl rfl rfl rfl rfl ⟨rfl, rfl⟩ ?_⟩
  refine qv ?_
  refine ⟨rfl, N4 ⟨[], [(7, b0t C)]⟩ (.one (.ow 7 0)) (fun k => k) (swp 7 1000000) (fun _ => rfl) (s8 7 1000000) hco (by simp) rfl rfl rfl rfl ⟨rfl, rfl⟩ ?_⟩
  refine qv ?_
  refine D8 (c8w kb tb pb lt kd lim db on off pr un l C) (fun j out act => 0 ≤ j ∧ j ≤ C.length ∧ out.length ≤ j ∧ (act = true → 1 ≤ out.length) ∧ b9G on off un (fun s => (s6 kd lim db s).1) (fun s => (s6 kd lim db s).2) l (C.drop j.toNat) (out, act) = a9P kd lim db on off un l) (fun j _ _ => (C.length - j).toNat) 0 [] false ⟨by omega, by omega, by simp, by simp, hrw⟩ rfl ?_
  rintro j out act ⟨h1, h2, h3, h4, h5⟩
  unfold c8w b0r
  by_cases hj : j < C.length
  ·have e2 : (j + 1).toNat = j.toNat + 1 := by omega
   have em := e8 U5 C j [] h1 hj
   have hcr := hCr _ (j5 C j.toNat (by omega))
   rw [m7 C j.toNat (by omega), ← e2, b9G] at h5
   by_cases cu : (C.getD j.toNat default) ≥ un
   ·rw [if_pos cu] at h5
    rw [← h5]
    exact qt
   ·rw [if_neg cu] at h5
    have hX := a7r 142 (b0r kb tb pb lt kd lim db on off pr) (fun s => (s6 kd lim db s).1) l hg (C.getD j.toNat default) (fun x hx => c8K kb tb pb lt kd lim db on off pr x (hok x hx) hlim hdb)
    have hY := a7r 144 (b0r kb tb pb lt kd lim db on off pr) (fun s => (s6 kd lim db s).2) l hg (C.getD j.toNat default) (fun x hx => c7l kb tb pb lt kd lim db on off pr x (hok x hx) hlim hdb)
    have rX := a1G (p := fun s => (s6 kd lim db s).1) (T := (C.getD j.toNat default)) l (-1) hsr (by omega)
    have rY := a1G (p := fun s => (s6 kd lim db s).2) (T := (C.getD j.toNat default)) l (-1) hsr (by omega)
    generalize J4 (fun s => (s6 kd lim db s).1) (C.getD j.toNat default) (-1) l = o1 at *
    generalize J4 (fun s => (s6 kd lim db s).2) (C.getD j.toNat default) (-1) l = o2 at *
    unfold b0r at hX hY
    unfold Q4 at h5
    refine qc hX ?_
    refine qc hY ?_
    cases act with
    | false =>
     by_cases c1 : 0 ≤ o1 ∧ (C.getD j.toNat default) - o1 ≥ on
     ·rw [if_pos ⟨rfl, c1⟩] at h5
      refine qv ?_
      refine ⟨j + 1, out ++ [((C.getD j.toNat default), un)], true, ?_, ⟨by omega, by omega, by simp; omega, fun _ => by simp, h5⟩, by omega⟩
      simp only [P4, List.map_append, List.map_cons, List.map_nil, a1x]
     ·rw [if_neg (show ¬((out, false).2 = false ∧ 0 ≤ o1 ∧ (C.getD j.toNat default) - o1 ≥ on) from fun h => c1 h.2), if_neg (show ¬((out, false).2 = true ∧ 0 ≤ o2 ∧ (C.getD j.toNat default) - o2 ≥ off) from fun h => by cases h.1)] at h5
      by_cases c2 : 0 ≤ o1
      ·refine qv ?_
       exact ⟨j + 1, out, false, rfl, ⟨by omega, by omega, by omega, by simp, h5⟩, by omega⟩
      ·refine qv ?_
       exact ⟨j + 1, out, false, rfl, ⟨by omega, by omega, by omega, by simp, h5⟩, by omega⟩
    | true =>
     have h4 := h4 rfl
     have eo := l0 frC out ((out.length : Int) - 1).toNat (by omega)
     rw [if_neg (show ¬((out, true).2 = false ∧ 0 ≤ o1 ∧ (C.getD j.toNat default) - o1 ≥ on) from fun h => by cases h.1)] at h5
     by_cases c1 : 0 ≤ o2 ∧ (C.getD j.toNat default) - o2 ≥ off
     ·rw [if_pos ⟨rfl, c1⟩] at h5
      refine qv ?_
      refine ⟨j + 1, X9 out (C.getD j.toNat default), false, ?_, ⟨by omega, by omega, by rw [R4]; omega, by simp, h5⟩, by omega⟩
      simp only [P4, S1]
     ·rw [if_neg (show ¬((out, true).2 = true ∧ 0 ≤ o2 ∧ (C.getD j.toNat default) - o2 ≥ off) from fun h => c1 h.2)] at h5
      by_cases c2 : 0 ≤ o2
      ·refine qv ?_
       exact ⟨j + 1, out, true, rfl, ⟨by omega, by omega, by omega, fun _ => h4, h5⟩, by omega⟩
      ·refine qv ?_
       exact ⟨j + 1, out, true, rfl, ⟨by omega, by omega, by omega, fun _ => h4, h5⟩, by omega⟩
  ·rw [List.drop_eq_nil_of_le (by omega), b9G] at h5
   rw [← h5]
   exact qt
end Go.Proofs.YtbhgndiboeppeaaGreatDoor

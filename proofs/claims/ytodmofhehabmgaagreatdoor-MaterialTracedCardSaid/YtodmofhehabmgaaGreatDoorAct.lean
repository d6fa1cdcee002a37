/-
 Alarms: what is wrong with one, whether its condition holds, and when it is active.
-/
import Derived.Test.YtodmofhehabmgaaGreatDoorFrm
import Derived.Test.YtodmofhehabmgaaGreatDoorKey
namespace Go.Proofs.YtodmofhehabmgaaGreatDoor
open Go Go.Ai
set_option linter.unusedSimpArgs false
set_option linter.unusedVariables false
set_option maxHeartbeats 4000000
abbrev almC (kb tb pb : ByteArray) (lt : Bool) (kd lim db on off pr : Int) : List Cel := [.g (.string kb), .g (.string tb), .g (.int .i64 kd), .g (.int .i64 lim), .g (.int .i64 db), .g (.int .i64 on), .g (.int .i64 off), .g (.int .i64 pr), .g (.bool lt), .g (.string pb)]
/-- Whether the condition of an alarm holds for a sample, and whether it holds no more. -/
def hldSp (kd lim db : Int) (s : Smp) : Bool × Bool :=
 if kd = 1 then (decide (¬s.q = 2 ∧ s.v > lim), decide (¬s.q = 2 ∧ s.v ≤ lim - db)) else if kd = 2 then (decide (¬s.q = 2 ∧ s.v < lim), decide (¬s.q = 2 ∧ s.v ≥ lim + db)) else (decide (s.q = 2), decide (¬s.q = 2))
/-- Where the search for active windows is. -/
structure ActX where
 out : List (Int × Int)
 act : Bool
 t1 : Int
 t2 : Int
 h1 : Bool
 h2 : Bool
def actOn (on off un nx : Int) (a : Int) (x y : Bool) (s : ActX) : ActX :=
 let t1 := if x = true ∧ s.h1 = false then a else s.t1
 let t2 := if y = true ∧ s.h2 = false then a else s.t2
 let up := x = true ∧ s.act = false ∧ max a (t1 + on) < nx ∧ max a (t1 + on) < un
 let act1 := if up then true else s.act
 let out1 := if up then s.out ++ [(max a (t1 + on), un)] else s.out
 let dn := y = true ∧ act1 = true ∧ max a (t2 + off) < nx ∧ max a (t2 + off) < un
 ⟨if dn then setTo out1 (max a (t2 + off)) else out1, if dn then false else act1, t1, t2, x, y⟩
def actGo (kd lim db on off un : Int) : List Smp → ActX → ActX
 | [], s => s
 | [x], s => actOn on off un 345686400000 x.a (hldSp kd lim db x).1 (hldSp kd lim db x).2 s
 | x :: y :: r, s => actGo kd lim db on off un (y :: r) (actOn on off un y.a x.a (hldSp kd lim db x).1 (hldSp kd lim db x).2 s)
def nxA (l : List Smp) (i : Nat) : Int := if i + 1 < l.length then (l.getD (i + 1) default).a else 345686400000
theorem actGo_step (kd lim db on off un : Int) (l : List Smp) (i : Nat) (h : i < l.length) (s : ActX) : actGo kd lim db on off un (l.drop i) s = actGo kd lim db on off un (l.drop (i + 1)) (actOn on off un (nxA l i) (l.getD i default).a (hldSp kd lim db (l.getD i default)).1 (hldSp kd lim db (l.getD i default)).2 s) := by
 unfold nxA
 rw [drop_cons l i h]
 by_cases h2 : i + 1 < l.length
 ·rw [drop_cons l (i + 1) h2, actGo, if_pos h2]
 ·rw [List.drop_eq_nil_of_le (by omega), actGo, if_neg h2, actGo]
structure ActI (kd lim db on off un : Int) (l : List Smp) (i : Int) (x : ActX) : Prop where
 a : 0 ≤ i
 b : i ≤ l.length
 c : x.out.length ≤ i
 d : x.act = true → 1 ≤ x.out.length
 e : 0 ≤ x.t1 ∧ x.t1 ≤ 345686400000
 f : 0 ≤ x.t2 ∧ x.t2 ≤ 345686400000
 g : actGo kd lim db on off un (l.drop i.toNat) x = actGo kd lim db on off un l ⟨[], false, 0, 0, false, false⟩
theorem ActI.next {kd lim db on off un : Int} {l : List Smp} {i : Int} {x y : ActX} (h : ActI kd lim db on off un l i x) (hi : i < l.length) (ha : 0 ≤ (l.getD i.toNat default).a ∧ (l.getD i.toNat default).a ≤ 345686400000) (hy : y = actOn on off un (nxA l i.toNat) (l.getD i.toNat default).a (hldSp kd lim db (l.getD i.toNat default)).1 (hldSp kd lim db (l.getD i.toNat default)).2 x) : ActI kd lim db on off un l (i + 1) y := by
 have h1 := h.a
 have h2 := h.c
 have h3 := h.d
 have h4 := h.e
 have h5 := h.f
 have h6 := h.g
 have e2 : (i + 1).toNat = i.toNat + 1 := by omega
 rw [actGo_step kd lim db on off un l i.toNat (by omega), ← hy, ← e2] at h6
 refine ⟨by omega, by omega, ?_, ?_, ?_, ?_, h6⟩
 ·rw [hy]; unfold actOn; simp only []
  (repeat' split) <;> (first | omega | (simp only [setTo_len, List.length_append, List.length_singleton]; omega))
 ·rw [hy]; unfold actOn; simp only []
  (repeat' split) <;> intro h <;> (first | (cases h; done) | (simp only [setTo_len, List.length_append, List.length_singleton]; omega) | (have := h3 h; omega) | (have := h3 h; simp only [setTo_len, List.length_append, List.length_singleton]; omega))
 ·rw [hy]; unfold actOn; simp only []; split
  ·exact ha
  ·exact h4
 ·rw [hy]; unfold actOn; simp only []; split
  ·exact ha
  ·exact h5
end Go.Proofs.YtodmofhehabmgaaGreatDoor

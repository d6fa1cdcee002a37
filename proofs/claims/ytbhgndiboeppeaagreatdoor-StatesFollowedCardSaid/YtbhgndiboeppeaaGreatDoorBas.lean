/- What is common to the functions that draw numbers from a stream: how their contracts read, and how a call of one is met. What is wrong with samples, series, moments, windows: the program's answer and the reference's are one. The value of a series at a moment: the program's way (binary search) and the reference's (a walk over all samples) come to one answer. The streams of numbers: Below, Next, Range, Flip, Pick, Odd: what they draw and hand back. The curves that streams draw: AMoment, ASpan, Curve. -/
import Derived.Test.YtbhgndiboeppeaaGreatDoorAiE
import Derived.Test.YtbhgndiboeppeaaGreatDoorProg
set_option linter.all false
set_option maxHeartbeats 4000000
set_option maxRecDepth 100000
namespace Go.Ai
open Go
def U5 (n : Int) : List Cel := [.g (.int .i64 n)]
abbrev a1p (fr : Bool) (l : List Int) : Val := .one (.sl fr 1 (l.map U5))
def I64 (n : Int) : Prop := -9223372036854775808 ≤ n ∧ n ≤ 9223372036854775807
def m6 (L : List Int) (at_ : Int) : List Cel := [.sl false 1 (L.map U5), .g (.int .i64 at_)]
def Gen (P : Program) (f : FuncId) (args : List Val) (n : Nat) (R : Val → Prop) : Prop :=
 ∀ (L : List Int) (p : Int), (∀ x ∈ L, I64 x) → L.length ≤ 9223372036854775807 → 0 ≤ p → p + n ≤ 4611686018427387904 →
  FC P f (some (m6 L p)) args fun cs r => (∃ p', p ≤ p' ∧ p' ≤ p + n ∧ cs = m6 L p') ∧ R r
theorem a0d (n : Int) : I64 (IntKind.i64.wrap n) := by
 unfold I64
 rw [IntKind.wrap_i64]
 omega
theorem a7H {p q : Prop} (hp : p) (hq : p → q) : p ∧ q := ⟨hp, hq hp⟩
theorem t7 {α β : Type} [Inhabited α] (f : α → β) (l : List α) (i : Nat) (d : β) (h : i < l.length) : (l.map f).getD i d = f (l.getD i default) := by
 simp [List.getD_eq_getElem?_getD, h]
theorem j5 {α : Type} [Inhabited α] (l : List α) (i : Nat) (h : i < l.length) : l.getD i default ∈ l := by
 simp [List.getD_eq_getElem?_getD, h]
theorem a0i (n : Int) : U5 n = [.g (.int .i64 n)] := (rfl)
attribute [go_sem] t7 List.length_map a0i
variable {P : Program} {Q : AX → AS → Prop} {s : AS} {k : List KI} {kp : Option Keep} {l : List GI}
theorem A0 {f : FuncId} {args : List Val} {n : Nat} {R : Val → Prop} {L : List Int} {p : Int} {key : Nat} {d : Option Nat} (h : Gen P f args n R) (hL : ∀ x ∈ L, I64 x) (hl : L.length ≤ 9223372036854775807) (h0 : 0 ≤ p) (hn : p + n ≤ 4611686018427387904)
  (hne : ∃ r, R r) (hk : ∀ p' r, p ≤ p' → p' ≤ p + n → R r → N2 r = true ∧ rg P l kp k Q ({ s with bx := upd s.bx key (some (m6 L p')) }.put d r)) :
  b4l P f key (m6 L p) args d l kp k Q s := by
 obtain ⟨r0, hr0⟩ := hne
 refine ⟨_, h L p hL hl h0 hn, ⟨_, r0, ⟨p, Int.le_refl _, by omega, rfl⟩, hr0⟩, ?_⟩
 rintro cs r ⟨⟨p', h1, h2, rfl⟩, hr⟩
 obtain ⟨h3, h4⟩ := hk p' r h1 h2 hr
 exact ⟨h3, rfl, h4⟩
theorem l0 {α β : Type} [Inhabited α] (f : α → β) (l : List α) (i : Nat) (h : i < l.length) : (l.map f)[i]? = some (f (l.getD i default)) := by
 simp [List.getD_eq_getElem?_getD, h]
attribute [go_sem] l0 Bool.not_eq_true' Bool.not_eq_false'
theorem j8 {a b : Int} (h : a = b) : Val.one (.g (.int .i64 a)) = iv b := by rw [h]
theorem X1 {a b : Bool} (h : a = true ↔ b = true) : Val.one (.g (.bool a)) = bv b := by
 have : a = b := by cases a <;> cases b <;> simp_all
 rw [this]
theorem J9 {p q : Prop} [Decidable p] [Decidable q] (h : p ↔ q) : Val.one (.g (.bool (decide p))) = bv (decide q) := by simp [h]
theorem a0r {p q : Prop} [Decidable p] [Decidable q] (h : ¬p ↔ q) : Val.one (.g (.bool (!decide p))) = bv (decide q) := by simp [← h]
theorem c6c {q : Prop} [Decidable q] (h : ¬q) : Val.one (.g (.bool false)) = bv (decide q) := by simp [h]
theorem c5V {q : Prop} [Decidable q] (h : q) : Val.one (.g (.bool true)) = bv (decide q) := by simp [h]
structure Smp where
 a : Int
 v : Int
 q : Int
 deriving Inhabited
def a4l (x : Smp) : List Cel := [.g (.int .i64 x.a), .g (.int .i64 x.v), .g (.int .i64 x.q)]
theorem a0k (x : Smp) : a4l x = [.g (.int .i64 x.a), .g (.int .i64 x.v), .g (.int .i64 x.q)] := (rfl)
attribute [go_sem] a0k
def Smp.in64 (x : Smp) : Prop := I64 x.a ∧ I64 x.v ∧ I64 x.q
abbrev a0Z (fr : Bool) (l : List Smp) : Val := .one (.sl fr 3 (l.map a4l))
theorem a1Y {α : Type} {f : α → List Cel} (h : ∀ x, (f x).all p9 = true) (l : List α) : frE (l.map f) = true := by
 simp only [frE, List.all_eq_true, List.mem_map]
 rintro e ⟨x, _, rfl⟩
 exact List.all_eq_true.1 (h x)
theorem W6 {α : Type} {f : α → List Cel} (h : ∀ x, (f x).map Cel.dat = f x) (l : List α) : H4 (l.map f) = l.map f := by simp [H4, Function.comp_def, h]
theorem Y5 {α : Type} {f : α → List Cel} (h : ∀ x, (f x).map Cel.tof = f x) (l : List α) : a1A (l.map f) = l.map f := by simp [a1A, Function.comp_def, h]
theorem H8 {es : List (List Cel)} {e : List Cel} {i : Nat} (h : frE es = true) (he : e.all p9 = true) : frE (es.set i e) = true := by
 simp only [frE, List.all_eq_true] at *
 intro x hx
 rcases List.mem_or_eq_of_mem_set hx with h1 | rfl
 ·exact h x h1
 ·exact he
theorem c2V (l : List Int) : frE (l.map U5) = true := a1Y (fun _ => rfl) l
theorem b4J (l : List Int) : H4 (l.map U5) = l.map U5 := W6 (fun _ => rfl) l
theorem b6K (l : List Int) : a1A (l.map U5) = l.map U5 := Y5 (fun _ => rfl) l
theorem a3H (l : List Smp) : frE (l.map a4l) = true := a1Y (fun _ => rfl) l
theorem b6H (l : List Smp) : H4 (l.map a4l) = l.map a4l := W6 (fun _ => rfl) l
theorem b7r (l : List Smp) : a1A (l.map a4l) = l.map a4l := Y5 (fun _ => rfl) l
attribute [go_sem] c2V b4J b6K a3H b6H b7r
end Go.Ai
namespace Go.Proofs.YtbhgndiboeppeaaGreatDoor
open Go Go.Ai
abbrev c4Q (x : Smp) : Val := .ag (a4l x)
abbrev d4V (f t : Int) : Val := .ag [.g (.int .i64 f), .g (.int .i64 t)]
def q7 (x : Smp) : Int := if x.a < 0 ∨ x.a > 345686399999 then 1 else if x.q < 0 ∨ x.q > 2 then 4 else if x.v < -1000000 ∨ x.v > 1000000 then 1 else if x.q = 2 ∧ x.v ≠ 0 then 3 else 0
def serGo : Option Smp → List Smp → Int
 | _, [] => 0
 | p, x :: t => if q7 x ≠ 0 then q7 x else if (match p with | none => false | some y => decide (x.a ≤ y.a)) then 7 else serGo (some x) t
def n7 (l : List Smp) : Int := if 5000 < l.length then 2 else serGo none l
def F6 (f t : Int) : Int := if f < 0 ∨ f > t ∨ t > 345686400000 then 1 else 0
theorem J2 (n lo hi : Int) : FC Tryz.prog 49 none [iv n, iv lo, iv hi] (fun _ r => r = bv (decide (n < lo ∨ n > hi))) := by
 refine fcE Tryz.func49 (aL [[0,1,2],[6]]) ?_
 refine qv ?_
 by_cases h : n < lo <;> simp [h]
theorem N5 (n : Int) : FC Tryz.prog 44 none [iv n] (fun _ r => r = bv (decide (0 ≤ n ∧ n ≤ 345686399999))) := by
 refine fcE Tryz.func44 (aL [[0],[2]]) ?_
 refine qc (J2 _ _ _) ?_
 refine qv ?_
 exact (X1 (by first | (simp; done) | (simp; omega)))
theorem a2f (x : Smp) : FC Tryz.prog 162 none [c4Q x] (fun _ r => r = iv (q7 x)) := by
 refine fcE Tryz.func162 (aM [1] [] [[1],[1,3]] ++ aL [[2]] ++ aM [1] [] [[1,8]] ++ aL [[2]] ++ aM [1] [] [[1,12]] ++ aL [[2],[16],[2],[2]]) ?_
 refine qc (N5 _) ?_
 refine qv ?_
 refine ⟨fun h1 => (j8 (by simp only [q7]; (repeat' split) <;> (first | omega | simp_all <;> omega))), fun h1 => ?_⟩
 refine n6 (J2 _ _ _) (.inl rfl) ?_
 refine qv ?_
 refine ⟨fun h2 => (j8 (by simp only [q7]; (repeat' split) <;> (first | omega | simp_all <;> omega))), fun h2 => ?_⟩
 refine n6 (J2 _ _ _) (.inl rfl) ?_
 refine qv ?_
 refine ⟨fun h3 => (j8 (by simp only [q7]; (repeat' split) <;> (first | omega | simp_all <;> omega))), fun h3 => ⟨fun h4 => ⟨fun h5 => (j8 (by simp only [q7]; (repeat' split) <;> (first | omega | simp_all <;> omega))), fun h5 => (j8 (by simp only [q7]; (repeat' split) <;> (first | omega | simp_all <;> omega)))⟩, fun h4 => (j8 (by simp only [q7]; (repeat' split) <;> (first | omega | simp_all <;> omega)))⟩⟩
theorem a1X {l : List Smp} (h : n7 l = 0) : l.length ≤ 5000 ∧ serGo none l = 0 := by
 unfold n7 at h; split at h
 ·omega
 ·exact ⟨by omega, h⟩
def prv (l : List Smp) (i : Nat) : Option Smp := if i = 0 then none else some (l.getD (i - 1) default)
theorem T3 (l : List Smp) (i : Nat) (h : i < l.length) : serGo (prv l i) (l.drop i) = if q7 (l.getD i default) ≠ 0 then q7 (l.getD i default) else if (0 < i ∧ (l.getD i default).a ≤ (l.getD (i - 1) default).a) then 7 else serGo (prv l (i + 1)) (l.drop (i + 1)) := by
 have e : l.drop i = l.getD i default :: l.drop (i + 1) := by
  rw [List.drop_eq_getElem_cons h]; simp [List.getD_eq_getElem?_getD, h]
 rw [e, serGo.eq_def]
 simp only []
 by_cases hi : i = 0
 ·subst hi; simp [prv]
 ·have : 0 < i := by omega
  simp [prv, hi, this]
def d1H (l : List Smp) (i : Int) : AS := ⟨m9 [(0, a0Z false l), (9, a0Z false l), (10, iv l.length), (11, iv i)], f9 [], f9 []⟩
theorem V0 (l : List Smp) (hl : l.length ≤ 4611686018427387904) : FC Tryz.prog 115 none [a0Z false l] (fun _ r => r = iv (n7 l)) := by
 refine fcE Tryz.func115 (aL [[0],[0,8],[2],[0,9,10,11],[0,9,10,11,12]] ++ aM [4] [] [[0,3,4,9,10,11],[0,3,4,5,9,10,11],[0,3,4,5,9,10,11,19]] ++ aL [[2],[0,9,10,11,33],[2],[0,9,10,11],[2]]) ?_
 refine qv ?_
 refine ⟨fun h => j8 (by unfold n7; rw [if_pos (by omega)]), fun h => ?_⟩
 refine a1d (d1H l) (fun i => 0 ≤ i ∧ i ≤ l.length ∧ serGo (prv l i.toNat) (l.drop i.toNat) = n7 l) (fun i => (l.length - i).toNat) 0 ⟨by omega, by omega, by unfold n7; rw [if_neg (by omega)]; rfl⟩ rfl ?_
 rintro i ⟨g1, g2, g3⟩
 unfold d1H
 refine qv ?_
 refine ⟨fun hi => a7H ⟨by omega, by omega⟩ fun _ => ?_, fun hi => ?_⟩
 ·have g4 := T3 l i.toNat (by omega)
  rw [g3] at g4
  rw [t7 a4l l i.toNat [] (by omega)]
  refine qc (a2f _) ?_
  refine qv ?_
  have e1 : (i - 1).toNat = i.toNat - 1 := by omega
  have e2 : (i + 1).toNat = i.toNat + 1 := by omega
  rw [e1]
  refine ⟨fun h1 => j8 (by rw [g4, if_pos h1]), fun h1 => ⟨fun h2 => ⟨⟨by omega, by omega⟩, fun h3 => j8 (by rw [g4, if_neg h1, if_pos ⟨by omega, h3⟩]), fun h3 => ⟨i + 1, ⟨by omega, by omega, ?_⟩, rfl, by omega⟩⟩, fun h2 => ⟨i + 1, ⟨by omega, by omega, ?_⟩, rfl, by omega⟩⟩⟩
  ·rw [g4, if_neg h1, if_neg (fun h => h3 h.2), e2]
  ·rw [g4, if_neg h1, if_neg (fun h => h2 (by omega)), e2]
 ·refine j8 ?_
  rw [← g3, List.drop_eq_nil_of_le (by omega)]
  simp [serGo]
theorem b5O (n lo hi : Int) : FC Tryz.prog 62 none [iv n, iv lo, iv hi] (fun _ r => r = bv (decide (lo ≤ n ∧ n ≤ hi))) := by
 refine fcE Tryz.func62 (aL [[0,1,2],[6]]) ?_
 refine qv ?_
 (repeat' (first | apply And.intro | intro _)) <;> first | rfl | omega | exact j8 (by first | omega | ((try simp only []); (repeat' split) <;> (first | omega | (simp_all; done) | (simp_all; omega)))) | exact J9 (by first | omega | ((try simp only []); (repeat' split) <;> omega)) | exact a0r (by first | omega | ((try simp only []); (repeat' split) <;> omega)) | exact c6c (by first | omega | ((try simp only []); (repeat' split) <;> omega)) | exact c5V (by first | omega | ((try simp only []); (repeat' split) <;> omega))
theorem a6m (n : Int) : FC Tryz.prog 112 none [iv n] (fun _ r => r = bv (decide (0 ≤ n ∧ n ≤ 345686399999))) := by
 refine fcE Tryz.func112 (aL [[0],[2]]) ?_
 refine qc (b5O _ _ _) ?_
 exact qt
theorem a2l (x : Smp) : FC Tryz.prog 76 none [c4Q x] (fun _ r => r = iv (q7 x)) := by
 refine fcE Tryz.func76 (aM [1] [] [[1],[1,3]] ++ aL [[2]] ++ aM [1] [] [[1,8]] ++ aL [[2]] ++ aM [1] [] [[1,13]] ++ aL [[2],[18],[2],[2]]) ?_
 refine qc (a6m _) ?_
 refine qv ?_
 refine ⟨fun h1 => (j8 (by simp only [q7]; (repeat' split) <;> (first | omega | simp_all <;> omega))), fun h1 => ?_⟩
 refine n6 (b5O _ _ _) (.inl rfl) ?_
 refine qv ?_
 refine ⟨fun h2 => (j8 (by simp only [q7]; (repeat' split) <;> (first | omega | simp_all <;> omega))), fun h2 => ?_⟩
 refine n6 (b5O _ _ _) (.inl rfl) ?_
 refine qv ?_
 refine ⟨fun h3 => (j8 (by simp only [q7]; (repeat' split) <;> (first | omega | simp_all <;> omega))), fun h3 => ⟨fun h4 => ⟨fun h5 => (j8 (by simp only [q7]; (repeat' split) <;> (first | omega | simp_all <;> omega))), fun h5 => (j8 (by simp only [q7]; (repeat' split) <;> (first | omega | simp_all <;> omega)))⟩, fun h4 => (j8 (by simp only [q7]; (repeat' split) <;> (first | omega | simp_all <;> omega)))⟩⟩
theorem a2k (l : List Smp) (hl : l.length ≤ 4611686018427387904) : FC Tryz.prog 39 none [a0Z false l] (fun _ r => r = iv (n7 l)) := by
 refine fcE Tryz.func39 (aL [[0],[0,8],[2],[0,9,10,11],[0,9,10,11,12]] ++ aM [4] [] [[0,3,4,9,10,11],[0,3,4,5,9,10,11],[0,3,4,5,9,10,11,19]] ++ aL [[2],[0,9,10,11,33],[2],[0,9,10,11],[2]]) ?_
 refine qv ?_
 refine ⟨fun h => j8 (by unfold n7; rw [if_pos (by omega)]), fun h => ?_⟩
 refine a1d (d1H l) (fun i => 0 ≤ i ∧ i ≤ l.length ∧ serGo (prv l i.toNat) (l.drop i.toNat) = n7 l) (fun i => (l.length - i).toNat) 0 ⟨by omega, by omega, by unfold n7; rw [if_neg (by omega)]; rfl⟩ rfl ?_
 rintro i ⟨g1, g2, g3⟩
 unfold d1H
 refine qv ?_
 refine ⟨fun hi => a7H ⟨by omega, by omega⟩ fun _ => ?_, fun hi => ?_⟩
 ·have g4 := T3 l i.toNat (by omega)
  rw [g3] at g4
  rw [t7 a4l l i.toNat [] (by omega)]
  refine qc (a2l _) ?_
  refine qv ?_
  have e1 : (i - 1).toNat = i.toNat - 1 := by omega
  have e2 : (i + 1).toNat = i.toNat + 1 := by omega
  rw [e1]
  refine ⟨fun h1 => j8 (by rw [g4, if_pos h1]), fun h1 => ⟨fun h2 => ⟨⟨by omega, by omega⟩, fun h3 => j8 (by rw [g4, if_neg h1, if_pos ⟨by omega, h3⟩]), fun h3 => ⟨i + 1, ⟨by omega, by omega, ?_⟩, rfl, by omega⟩⟩, fun h2 => ⟨i + 1, ⟨by omega, by omega, ?_⟩, rfl, by omega⟩⟩⟩
  ·rw [g4, if_neg h1, if_neg (fun h => h3 h.2), e2]
  ·rw [g4, if_neg h1, if_neg (fun h => h2 (by omega)), e2]
 ·refine j8 ?_
  rw [← g3, List.drop_eq_nil_of_le (by omega)]
  simp [serGo]
theorem a2j (f t : Int) : FC Tryz.prog 22 none [d4V f t] (fun _ r => r = iv (F6 f t)) := by
 refine fcE Tryz.func22 (aM [1] [] [[1]] ++ aL [[13],[2],[2]]) ?_
 refine qc (b5O _ _ _) ?_
 refine qv ?_
 (repeat' (first | apply And.intro | intro _)) <;> first | rfl | omega | exact j8 (by first | omega | ((try simp only [F6]); (repeat' split) <;> (first | omega | (simp_all; done) | (simp_all; omega)))) | exact J9 (by first | omega | ((try simp only [F6]); (repeat' split) <;> omega)) | exact a0r (by first | omega | ((try simp only [F6]); (repeat' split) <;> omega)) | exact c6c (by first | omega | ((try simp only [F6]); (repeat' split) <;> omega)) | exact c5V (by first | omega | ((try simp only [F6]); (repeat' split) <;> omega))
theorem J5 (n lo hi : Int) : FC Tryz.prog 64 none [iv n, iv lo, iv hi] (fun _ r => r = bv (decide (lo ≤ n ∧ n ≤ hi))) := by
 refine fcE Tryz.func64 (aL [[0,1,2],[6]]) ?_
 refine qv ?_
 (repeat' (first | apply And.intro | intro _)) <;> first | rfl | omega | exact j8 (by first | omega | ((try simp only []); (repeat' split) <;> (first | omega | (simp_all; done) | (simp_all; omega)))) | exact J9 (by first | omega | ((try simp only []); (repeat' split) <;> omega)) | exact a0r (by first | omega | ((try simp only []); (repeat' split) <;> omega)) | exact c6c (by first | omega | ((try simp only []); (repeat' split) <;> omega)) | exact c5V (by first | omega | ((try simp only []); (repeat' split) <;> omega))
theorem X4 (n lo hi : Int) : FC Tryz.prog 61 none [iv n, iv lo, iv hi] (fun _ r => r = iv (if lo ≤ n ∧ n ≤ hi then 0 else 1)) := by
 refine fcE Tryz.func61 (aL [[0,1,2],[11],[6],[6]]) ?_
 refine qc (J5 _ _ _) ?_
 refine qv ?_
 (repeat' (first | apply And.intro | intro _)) <;> first | rfl | omega | exact j8 (by first | omega | ((try simp only []); (repeat' split) <;> (first | omega | (simp_all; done) | (simp_all; omega)))) | exact J9 (by first | omega | ((try simp only []); (repeat' split) <;> omega)) | exact a0r (by first | omega | ((try simp only []); (repeat' split) <;> omega)) | exact c6c (by first | omega | ((try simp only []); (repeat' split) <;> omega)) | exact c5V (by first | omega | ((try simp only []); (repeat' split) <;> omega))
end Go.Proofs.YtbhgndiboeppeaaGreatDoor
namespace Go.Proofs.YtbhgndiboeppeaaGreatDoor
open Go Go.Ai
theorem Z3 {a b c d : Val} (h1 : a = c) (h2 : b = d) : Val.tu [a, b] = .tu [c, d] := by rw [h1, h2]
def U0 (x : Smp) : Prop := 0 ≤ x.a ∧ x.a ≤ 345686399999 ∧ -1000000 ≤ x.v ∧ x.v ≤ 1000000 ∧ 0 ≤ x.q ∧ x.q ≤ 2
theorem a3n {x : Smp} (h : q7 x = 0) : U0 x ∧ (x.q = 2 → x.v = 0) := by
 unfold q7 at h; unfold U0
 (repeat' split at h) <;> (first | omega | (refine ⟨by omega, fun h' => by simp_all⟩))
def c0n (at_ : Int) : List Smp → Int → Int → Int
 | [], _, k => k
 | x :: t, i, k => c0n at_ t (i + 1) (if x.a ≤ at_ then i else k)
def d5q (l : List Smp) (at_ : Int) : Int := c0n at_ l 0 (-1)
theorem m7 {α : Type} [Inhabited α] (l : List α) (i : Nat) (h : i < l.length) : l.drop i = l.getD i default :: l.drop (i + 1) := by
 rw [List.drop_eq_getElem_cons h]; simp [List.getD_eq_getElem?_getD, h]
structure Good (l : List Smp) : Prop where
 len : l.length ≤ 5000
 ok : ∀ i, i < l.length → U0 (l.getD i default)
 bad : ∀ i, i < l.length → (l.getD i default).q = 2 → (l.getD i default).v = 0
 up : ∀ i j, i < j → j < l.length → (l.getD i default).a < (l.getD j default).a
theorem b1F {l : List Smp} (h : n7 l = 0) : Good l := by
 obtain ⟨h1, h2⟩ := a1X h
 have h3 : ∀ i, i ≤ l.length → serGo (prv l i) (l.drop i) = 0 := by
  intro i
  induction i with
  | zero => intro _; simpa [prv] using h2
  | succ i ih =>
   intro hi
   have := ih (by omega)
   rw [T3 l i (by omega)] at this
   split at this
   ·contradiction
   ·split at this
    ·omega
    ·exact this
 have h4 : ∀ i, i < l.length → q7 (l.getD i default) = 0 ∧ (0 < i → (l.getD (i - 1) default).a < (l.getD i default).a) := by
  intro i hi
  have := h3 i (by omega)
  rw [T3 l i hi] at this
  split at this
  ·contradiction
  ·rename_i h5
   split at this
   ·omega
   ·rename_i h6
    exact ⟨by omega, fun h7 => by
     have := fun h8 => h6 ⟨h7, h8⟩
     omega⟩
 refine ⟨h1, fun i hi => (a3n (h4 i hi).1).1, fun i hi => (a3n (h4 i hi).1).2, fun i j hij => ?_⟩
 induction j with
 | zero => omega
 | succ j ih =>
  intro hj
  have h5 := (h4 (j + 1) hj).2 (by omega)
  by_cases e : i = j
  ·subst e; exact h5
  ·have h6 := ih (by omega) (by omega)
   simp only [Nat.add_sub_cancel] at h5
   omega
theorem Good.le {l : List Smp} (h : Good l) (i j : Nat) (hij : i ≤ j) (hj : j < l.length) : (l.getD i default).a ≤ (l.getD j default).a := by
 by_cases e : i = j
 ·subst e; omega
 ·have := h.up i j (by omega) hj; omega
structure Pt where
 a : Int
 n : Int
 d : Int
 q : Int
 deriving Inhabited
def ptC (x : Pt) : List Cel := [.g (.int .i64 x.a), .g (.int .i64 x.n), .g (.int .i64 x.d), .g (.int .i64 x.q)]
theorem c7O (x : Pt) : ptC x = [.g (.int .i64 x.a), .g (.int .i64 x.n), .g (.int .i64 x.d), .g (.int .i64 x.q)] := (rfl)
theorem c9A (l : List Pt) : frE (l.map ptC) = true := a1Y (fun _ => rfl) l
theorem c2a (l : List Pt) : H4 (l.map ptC) = l.map ptC := W6 (fun _ => rfl) l
theorem c4P (l : List Pt) : a1A (l.map ptC) = l.map ptC := Y5 (fun _ => rfl) l
attribute [go_sem] c7O c9A c2a c4P
def ptZ : Pt := ⟨0, 0, 0, 0⟩
theorem d3k : ptZ.a = 0 := (rfl)
theorem d2T : ptZ.n = 0 := (rfl)
theorem d2E : ptZ.d = 0 := (rfl)
theorem d3L : ptZ.q = 0 := (rfl)
attribute [go_sem] d3k d2T d2E d3L
end Go.Proofs.YtbhgndiboeppeaaGreatDoor
namespace Go.Proofs.YtbhgndiboeppeaaGreatDoor
open Go Go.Ai
def a5e : List Ann := (aM [0] [] [[0,1],[0,1],[0,1,19],[4],[0,1,5],[0,1,5,6],[4]])
def a8X : List Ann := (aM [0] [] [[0,1,2],[0,1,2,9],[6],[6]])
def a4n : List Ann := (aM [0] [] [[0,1],[4]])
def a4J : List Ann := (aM [0] [] [[0,1],[4]])
def b4G : List Ann := (aM [0] [] [[0,1,2],[0,1,2,8],[6],[6]])
theorem T8 (x n : Int) (h1 : 1 ≤ n) (hn : n ≤ 9223372036854775807) (hx : I64 x) : FC Tryz.prog 71 none [iv x, iv n] (fun _ r => r = iv (x % n)) := by
 refine fcE Tryz.func71 (aL [[0,1],[0,1,6],[4],[0,1],[0,1,11],[0],[4]]) ?_
 obtain ⟨hx1, hx2⟩ := hx
 refine qv ?_
 have e1 : x.tmod n = if 0 ≤ x then x % n else if n ∣ x then 0 else x % n - n := by
  rw [Int.tmod_eq_emod]
  by_cases h3 : 0 ≤ x
  ·simp [h3]
  ·by_cases h4 : n ∣ x
   ·simp [h4, Int.emod_eq_zero_of_dvd h4]
   ·simp only [h3, h4, or_self, if_false]; omega
 have e2 := Int.emod_nonneg x (show n ≠ 0 by omega)
 have e3 := Int.emod_lt_of_pos x (show 0 < n by omega)
 have e4 : n ∣ x → x % n = 0 := fun h => Int.emod_eq_zero_of_dvd h
 refine ⟨fun h => ?_, fun h => ?_⟩
 ·rw [e1] at h ⊢
  split at h
  ·omega
  ·rename_i h3
   rw [if_neg h3]
   split at h
   ·omega
   ·rename_i h4
    rw [if_neg h4, wrap_i64 _ (by omega) (by omega)]
    show iv _ = iv _
    congr 4
    omega
 ·rw [e1] at h ⊢
  split at h
  ·rename_i h3; rw [if_pos h3]
  ·rename_i h3
   rw [if_neg h3]
   split at h
   ·rename_i h4; rw [if_pos h4, e4 h4]
   ·omega
theorem b1U (n : Int) (h1 : 1 ≤ n) (hn : n ≤ 9223372036854775807) : Gen Tryz.prog 33 [iv n] 1 (fun r => ∃ x, 0 ≤ x ∧ x < n ∧ r = iv x) := by
 intro L p hL hl h0 hp
 refine fcE Tryz.func33 a5e ?_
 have e0 : ∀ x, 0 ≤ x % n ∧ x % n < n := fun x => ⟨Int.emod_nonneg x (by omega), Int.emod_lt_of_pos x (by omega)⟩
 unfold m6
 refine qv ?_
 refine ⟨fun h => ?_, fun h => ?_⟩
 ·refine n6 (T8 _ n h1 hn (a0d _)) (.inl rfl) ?_
  refine qv ?_
  exact ⟨⟨p + 1, by omega, by omega, rfl⟩, _, (e0 _).1, (e0 _).2, rfl⟩
 ·have h3 : 0 < (L.length : Int) := by omega
  have h4 : (p + 1 - 1).tmod (L.length : Int) = (p + 1 - 1) % (L.length : Int) := Int.tmod_eq_emod_of_nonneg (by omega)
  have h5 := Int.emod_nonneg (p + 1 - 1) (show (L.length : Int) ≠ 0 by omega)
  have h6 := Int.emod_lt_of_pos (p + 1 - 1) h3
  rw [h4]
  refine ⟨h, h, ⟨by omega, by omega⟩, ?_⟩
  refine qv ?_
  refine n6 (T8 _ 1073741824 (by omega) (by omega) (hL _ (j5 _ _ (by omega)))) (.inl rfl) ?_
  refine qc (T8 _ n h1 hn (a0d _)) ?_
  refine qv ?_
  exact ⟨⟨p + 1, by omega, by omega, rfl⟩, _, (e0 _).1, (e0 _).2, rfl⟩
theorem c4b (n : Int) (h1 : 1 ≤ n) (hn : n ≤ 9223372036854775807) : Gen Tryz.prog 32 [iv n] 1 (fun r => ∃ b, r = bv b) := by
 intro L p hL hl h0 hp
 refine fcE Tryz.func32 a4n ?_
 unfold m6
 refine qv ?_
 refine A0 (b1U n h1 hn) hL hl h0 hp ⟨_, 0, by omega, by omega, rfl⟩ ?_
 rintro p' r h4 h5 ⟨x, h6, h7, rfl⟩
 refine ⟨rfl, ?_⟩
 unfold m6
 refine qv ?_
 exact ⟨⟨p', by omega, by omega, rfl⟩, _, rfl⟩
theorem a0o (fr : Bool) (l : List Int) (h1 : 0 < l.length) (h2 : l.length ≤ 9223372036854775807) : Gen Tryz.prog 31 [a1p fr l] 1 (fun r => ∃ x ∈ l, r = iv x) := by
 intro L p hL hl h0 hp
 refine fcE Tryz.func31 a4J ?_
 unfold m6
 refine qv ?_
 refine A0 (b1U l.length (by omega) (by omega)) hL hl h0 hp ⟨_, 0, by omega, by omega, rfl⟩ ?_
 rintro p' r h4 h5 ⟨x, h6, h7, rfl⟩
 refine ⟨rfl, ?_⟩
 unfold m6
 refine qv ?_
 exact ⟨⟨p', by omega, by omega, rfl⟩, _, j5 _ _ (by omega), rfl⟩
end Go.Proofs.YtbhgndiboeppeaaGreatDoor
namespace Go.Proofs.YtbhgndiboeppeaaGreatDoor
open Go Go.Ai
def a9W : List Ann := ([aN [0,1] [0] [],⟨(kP [0,1,5] [0] []),[(5,114,3)],[],[],[]⟩] ++ aM [0] [5] [[0,1,5,6,7],[0,5,6,7,18,19],[0,5,6,7,18,19,20]] ++ aM [0,8] [5] [[0,5,6,7,8,18,19],[0,5,6,7,8,18,19,29],[0,5,6,7,8,18,19]] ++ aM [0] [5] [[0,5,6,7,18,19],[0,5,6,7,18,19],[0,5,6,7,18,19],[0,5,6,7,18,19],[0,5,52],[0,5,9],[0,5,9,60],[0,5,9,60,66]] ++ [aN [5] [0] [],aN [0,5,9,84] [0] [5]] ++ aM [0] [] [[5],[5],[4]])
theorem b0c : Gen Tryz.prog 8 [] 2 (fun r => ∃ x, I64 x ∧ r = iv x) := by
 intro L p hL hl h0 hp
 refine fcE Tryz.func8 (aM [0] [] [[0],[2]]) ?_
 unfold m6
 refine qv ?_
 refine A0 (a0o false [-1, 345686400000] (by simp) (by simp)) hL hl h0 (by omega) ⟨_, -1, by simp, rfl⟩ ?_
 rintro p' r h4 h5 ⟨x, hx, rfl⟩
 refine ⟨rfl, ?_⟩
 unfold m6
 refine qv ?_
 refine A0 (a0o false [0, 1, 5, 12, 40, 41, 60, 100, 200, x] (by simp) (by simp)) hL hl (by omega) (by omega) ⟨_, 0, by simp, rfl⟩ ?_
 rintro p'' r h6 h7 ⟨y, hy, rfl⟩
 refine ⟨rfl, ?_⟩
 unfold m6
 refine qv ?_
 refine ⟨⟨p'', by omega, by omega, rfl⟩, _, ?_, rfl⟩
 simp only [List.mem_cons, List.not_mem_nil, or_false] at hx hy
 unfold I64; omega
theorem b9t : Gen Tryz.prog 9 [] 5 (fun r => ∃ x y, I64 x ∧ I64 y ∧ r = .ag [.g (.int .i64 x), .g (.int .i64 y)]) := by
 intro L p hL hl h0 hp
 refine fcE Tryz.func9 (aM [0,2] [] [[0,2],[0,2,3]] ++ aM [0,2,4] [] [[0,2,4],[0,2,4,16]] ++ [⟨(kP [2,4] [0,2,4] []),[],[(4,(some 0)),(6,(some 4)),(7,(some 4)),(9,(some 0)),(10,(some 4))],[],[]⟩] ++ aM [0,2] [] [[2]]) ?_
 unfold m6
 refine qv ?_
 refine A0 (a0o false [0, 1, 5, 12, 40, 60] (by simp) (by simp)) hL hl h0 (by omega) ⟨_, 0, by simp, rfl⟩ ?_
 rintro p1 r h1 h2 ⟨x, hx, rfl⟩
 refine ⟨rfl, ?_⟩
 unfold m6
 simp only [List.mem_cons, List.not_mem_nil, or_false] at hx
 refine qv ?_
 refine A0 (a0o false [0, 1, 7, 20, 50, 200] (by simp) (by simp)) hL hl (by omega) (by omega) ⟨_, 0, by simp, rfl⟩ ?_
 rintro p2 r h3 h4 ⟨y, hy, rfl⟩
 refine ⟨rfl, ?_⟩
 unfold m6
 simp only [List.mem_cons, List.not_mem_nil, or_false] at hy
 refine qv ?_
 refine A0 (c4b 12 (by omega) (by omega)) hL hl (by omega) (by omega) ⟨_, true, rfl⟩ ?_
 rintro p3 r h5 h6 ⟨b, rfl⟩
 refine ⟨rfl, ?_⟩
 unfold m6
 refine qv ?_
 refine ⟨fun _ => ?_, fun _ => ?_⟩
 ·refine A0 (a0o false [x, -1, 90] (by simp) (by simp)) hL hl (by omega) (by omega) ⟨_, x, by simp, rfl⟩ ?_
  rintro p4 r h7 h8 ⟨z, hz, rfl⟩
  refine ⟨rfl, ?_⟩
  unfold m6
  simp only [List.mem_cons, List.not_mem_nil, or_false] at hz
  refine qv ?_
  refine A0 (a0o false [x + y, 345686400000, 345686400001] (by simp) (by simp)) hL hl (by omega) (by omega) ⟨_, x + y, by simp, rfl⟩ ?_
  rintro p5 r h9 h10 ⟨u, hu, rfl⟩
  refine ⟨rfl, ?_⟩
  unfold m6
  simp only [List.mem_cons, List.not_mem_nil, or_false] at hu
  refine qv ?_
  exact ⟨⟨p5, by omega, by omega, rfl⟩, _, _, by unfold I64; omega, by unfold I64; omega, rfl⟩
 ·exact ⟨⟨p3, by omega, by omega, rfl⟩, _, _, by unfold I64; omega, by unfold I64; omega, rfl⟩
structure c7N where
 i : Int
 a : Int
 v : Int
 p : Int
 l : List Smp
def a2S (L : List Int) (n : Int) (x : c7N) : AS :=
 ⟨m9 [(0, .one (.bx 0 0)), (5, .one (.ow 5 0)), (6, iv x.a), (7, iv x.v), (18, iv n), (19, iv x.i)], f9 [(0, m6 L x.p)], f9 [(5, ⟨0, 114, 3, x.l.map a4l⟩)]⟩
end Go.Proofs.YtbhgndiboeppeaaGreatDoor

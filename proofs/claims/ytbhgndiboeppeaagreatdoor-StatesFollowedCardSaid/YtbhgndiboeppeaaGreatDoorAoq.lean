/- When an alarm is active, asked at each moment at which something can change. Plain Lean. -/
import Derived.Test.YtbhgndiboeppeaaGreatDoorEvs
import Derived.Lib.SlicesCompact
import Derived.Test.YtbhgndiboeppeaaGreatDoorSrk
set_option linter.all false
set_option maxHeartbeats 4000000
namespace Go.Proofs.YtbhgndiboeppeaaGreatDoor
open Go Go.Ai
def J4 (p : Smp → Bool) (at_ : Int) : Int → List Smp → Int
 | o, [] => o
 | o, s :: r => J4 p at_ (if s.a > at_ then o else if p s = false then -1 else if o < 0 then s.a else o) r
def Q4 (on off un : Int) (T o1 o2 : Int) (z : List (Int × Int) × Bool) : List (Int × Int) × Bool :=
 if z.2 = false ∧ 0 ≤ o1 ∧ T - o1 ≥ on then (z.1 ++ [(T, un)], true) else if z.2 = true ∧ 0 ≤ o2 ∧ T - o2 ≥ off then (X9 z.1 T, false) else z
def b9G (on off un : Int) (X Y : Smp → Bool) (l : List Smp) : List Int → List (Int × Int) × Bool → List (Int × Int)
 | [], z => z.1
 | T :: r, z => if T ≥ un then z.1 else b9G on off un X Y l r (Q4 on off un T (J4 X T (-1) l) (J4 Y T (-1) l) z)
section
variable {on off un : Int} {X Y : Smp → Bool}
def nxL : List Smp → Int
 | [] => 345686400000
 | y :: _ => y.a
def S3 (on off un : Int) (X Y : Smp → Bool) (T : Int) : List Smp → N8 → N8
 | [], s => s
 | x :: r, s => if x.a < T then S3 on off un X Y T r (y8 on off un (min (nxL r) T) x.a (X x) (Y x) s) else s
theorem N1 {p : Smp → Bool} {T : Int} : ∀ (l : List Smp) (o : Int), (∀ s ∈ l, T < s.a) → J4 p T o l = o
 | [], o, _ => rfl
 | s :: r, o, h => by
  have hs := h s (by simp)
  rw [J4, if_pos (by omega)]
  exact N1 r o fun x hx => h x (by simp [hx])
theorem R6 {T : Int} : ∀ (l : List Smp) (s : N8), (∀ x ∈ l, T ≤ x.a) → S3 on off un X Y T l s = s
 | [], _, _ => rfl
 | x :: r, s, h => by
  have := h x (by simp)
  rw [S3, if_neg (by omega)]
structure Lnk (s : N8) (o1 o2 : Int) (A : Int → Prop) : Prop where
 l1 : o1 = if s.h1 = true then s.t1 else -1
 l2 : o2 = if s.h2 = true then s.t2 else -1
 p1 : s.h1 = true → 0 ≤ s.t1 ∧ A s.t1
 p2 : s.h2 = true → 0 ≤ s.t2 ∧ A s.t2
theorem b8d {s : N8} {o1 o2 nx : Int} {A : Int → Prop} (h : Lnk s o1 o2 A) (x : Smp) (h0 : 0 ≤ x.a) (hA : A x.a) : Lnk (y8 on off un nx x.a (X x) (Y x) s) (if X x = false then -1 else if o1 < 0 then x.a else o1) (if Y x = false then -1 else if o2 < 0 then x.a else o2) A := by
 obtain ⟨l1, l2, p1, p2⟩ := h
 obtain ⟨out, act, t1, t2, h1, h2⟩ := s
 simp only at l1 l2 p1 p2
 unfold y8
 refine ⟨?_, ?_, ?_, ?_⟩
 ·grind
 ·grind
 ·grind
 ·grind
def oa (s : N8) : List (Int × Int) × Bool := (s.out, s.act)
def zT (on off un T a : Int) (x y : Bool) (s : N8) : N8 := if a < T then y8 on off un T a x y s else s
theorem d4q {a T : Int} {out : List (Int × Int)} {act : Bool} {t1 t2 : Int} {h1 h2 : Bool} (ha : a ≤ T) (h0 : 0 ≤ (if h1 = false then a else t1)) :
  oa (y8 on off un (T + 1) a true false ⟨out, act, t1, t2, h1, h2⟩) = (if T < un then Q4 on off un T (if h1 = false then a else t1) (-1) (oa (zT on off un T a true false ⟨out, act, t1, t2, h1, h2⟩)) else oa (zT on off un T a true false ⟨out, act, t1, t2, h1, h2⟩)) ∧
  (a ≠ T → T ≠ (if h1 = false then a else t1) + on → oa (y8 on off un (T + 1) a true false ⟨out, act, t1, t2, h1, h2⟩) = oa (zT on off un T a true false ⟨out, act, t1, t2, h1, h2⟩)) := by
 unfold zT
 rw [W1, W1]
 generalize (if h1 = false then a else t1) = t at *
 unfold Q4
 cases act with
 | true =>
  simp only [Bool.true_eq_false, false_and, if_false]
  have ez : oa (if a < T then (⟨out, true, t, t2, true, false⟩ : N8) else ⟨out, true, t1, t2, h1, h2⟩) = (out, true) := by split <;> rfl
  rw [ez]
  simp only [Bool.true_eq_false, false_and, if_false]
  rw [if_neg (show ¬(True ∧ (0 : Int) ≤ -1 ∧ T - -1 ≥ off) by omega)]
  exact ⟨by split <;> rfl, fun _ _ => rfl⟩
 | false =>
  simp only [true_and]
  by_cases c1 : a < T ∧ max a (t + on) < T ∧ max a (t + on) < un
  ·rw [if_pos c1.1, if_pos c1.2, if_pos (show max a (t + on) < T + 1 ∧ max a (t + on) < un by omega)]
   simp [oa]
  ·have ez : oa (if a < T then (if max a (t + on) < T ∧ max a (t + on) < un then (⟨out ++ [(max a (t + on), un)], true, t, t2, true, false⟩ : N8) else ⟨out, false, t, t2, true, false⟩) else ⟨out, false, t1, t2, h1, h2⟩) = (out, false) := by
    by_cases c2 : a < T
    ·rw [if_pos c2, if_neg (fun h => c1 ⟨c2, h⟩)]; rfl
    ·rw [if_neg c2]; rfl
   rw [ez]
   by_cases c3 : max a (t + on) < T + 1 ∧ max a (t + on) < un
   ·have e : max a (t + on) = T := by omega
    rw [if_pos c3, if_pos (show T < un by omega), if_pos (show (out, false).2 = false ∧ 0 ≤ t ∧ T - t ≥ on from ⟨rfl, h0, by omega⟩), e]
    refine ⟨rfl, fun n1 n2 => ?_⟩
    omega
   ·rw [if_neg c3]
    refine ⟨?_, fun _ _ => rfl⟩
    by_cases c4 : T < un
    ·rw [if_pos c4, if_neg (by rintro ⟨_, _, h⟩; omega), if_neg (by rintro ⟨h, _⟩; cases h)]; rfl
    ·rw [if_neg c4]; rfl
theorem d4d {a T : Int} {out : List (Int × Int)} {act : Bool} {t1 t2 : Int} {h1 h2 : Bool} (ha : a ≤ T) (h0 : 0 ≤ (if h2 = false then a else t2)) :
  oa (y8 on off un (T + 1) a false true ⟨out, act, t1, t2, h1, h2⟩) = (if T < un then Q4 on off un T (-1) (if h2 = false then a else t2) (oa (zT on off un T a false true ⟨out, act, t1, t2, h1, h2⟩)) else oa (zT on off un T a false true ⟨out, act, t1, t2, h1, h2⟩)) ∧
  (a ≠ T → T ≠ (if h2 = false then a else t2) + off → oa (y8 on off un (T + 1) a false true ⟨out, act, t1, t2, h1, h2⟩) = oa (zT on off un T a false true ⟨out, act, t1, t2, h1, h2⟩)) := by
 unfold zT
 rw [V5, V5]
 generalize (if h2 = false then a else t2) = t at *
 unfold Q4
 cases act with
 | false =>
  simp only [Bool.false_eq_true, false_and, if_false]
  have ez : oa (if a < T then (⟨out, false, t1, t, false, true⟩ : N8) else ⟨out, false, t1, t2, h1, h2⟩) = (out, false) := by split <;> rfl
  rw [ez]
  simp only [Bool.false_eq_true, false_and, if_false]
  rw [if_neg (show ¬(True ∧ (0 : Int) ≤ -1 ∧ T - -1 ≥ on) by omega)]
  exact ⟨by split <;> rfl, fun _ _ => rfl⟩
 | true =>
  simp only [true_and]
  by_cases c1 : a < T ∧ max a (t + off) < T ∧ max a (t + off) < un
  ·rw [if_pos c1.1, if_pos c1.2, if_pos (show max a (t + off) < T + 1 ∧ max a (t + off) < un by omega)]
   simp [oa]
  ·have ez : oa (if a < T then (if max a (t + off) < T ∧ max a (t + off) < un then (⟨X9 out (max a (t + off)), false, t1, t, false, true⟩ : N8) else ⟨out, true, t1, t, false, true⟩) else ⟨out, true, t1, t2, h1, h2⟩) = (out, true) := by
    by_cases c2 : a < T
    ·rw [if_pos c2, if_neg (fun h => c1 ⟨c2, h⟩)]; rfl
    ·rw [if_neg c2]; rfl
   rw [ez]
   by_cases c3 : max a (t + off) < T + 1 ∧ max a (t + off) < un
   ·have e : max a (t + off) = T := by omega
    rw [if_pos c3, if_pos (show T < un by omega), if_neg (by rintro ⟨h, _⟩; cases h), if_pos (show (out, true).2 = true ∧ 0 ≤ t ∧ T - t ≥ off from ⟨rfl, h0, by omega⟩), e]
    refine ⟨rfl, fun n1 n2 => ?_⟩
    omega
   ·rw [if_neg c3]
    refine ⟨?_, fun _ _ => rfl⟩
    by_cases c4 : T < un
    ·rw [if_pos c4, if_neg (by rintro ⟨h, _⟩; cases h), if_neg (by rintro ⟨_, _, h⟩; omega)]; rfl
    ·rw [if_neg c4]; rfl
theorem d2c {a T : Int} {s : N8} : oa (y8 on off un (T + 1) a false false s) = oa (zT on off un T a false false s) ∧ Q4 on off un T (-1) (-1) (oa (zT on off un T a false false s)) = oa (zT on off un T a false false s) := by
 obtain ⟨out, act, t1, t2, h1, h2⟩ := s
 unfold zT
 rw [a1T, a1T]
 constructor
 ·split <;> rfl
 ·unfold Q4
  grind
def Mom (on off : Int) (A : Int → Prop) (T : Int) : Prop := A T ∨ ∃ a, A a ∧ (T = a + on ∨ T = a + off)
theorem a0m {p : Smp → Bool} {T o : Int} {s : Smp} {r : List Smp} : J4 p T o (s :: r) = J4 p T (if s.a > T then o else if p s = false then -1 else if o < 0 then s.a else o) r := rfl
theorem a0O {p : Smp → Bool} {T o : Int} {s : Smp} {r : List Smp} (h : s.a ≤ T) : J4 p T o (s :: r) = J4 p T (if p s = false then -1 else if o < 0 then s.a else o) r := by
 rw [a0m, if_neg (show ¬s.a > T by omega)]
theorem a8t {T : Int} {A : Int → Prop} (hT : T < 345686400000) (hXY : ∀ s, ¬(X s = true ∧ Y s = true)) : ∀ (l : List Smp) (s : N8) (o1 o2 : Int), Lnk s o1 o2 A → (∀ x ∈ l, 0 ≤ x.a ∧ A x.a) → l.Pairwise (fun x y => x.a < y.a) → (∃ x r, l = x :: r ∧ x.a ≤ T) →
  oa (S3 on off un X Y (T + 1) l s) = (if T < un then Q4 on off un T (J4 X T o1 l) (J4 Y T o2 l) (oa (S3 on off un X Y T l s)) else oa (S3 on off un X Y T l s)) ∧
  (¬Mom on off A T → oa (S3 on off un X Y (T + 1) l s) = oa (S3 on off un X Y T l s))
 | [], _, _, _, _, _, _, h => by obtain ⟨x, r, h, _⟩ := h; cases h
 | x :: r, s, o1, o2, L, hA, hp, h => by
  obtain ⟨x', r', he, hxT⟩ := h
  injection he with he1 he2
  subst he1; subst he2
  obtain ⟨hp1, hp2⟩ := List.pairwise_cons.1 hp
  have hx := hA x (by simp)
  by_cases hr : ∃ y r', r = y :: r' ∧ y.a ≤ T
  ·obtain ⟨y, r', rfl, hy⟩ := hr
   have hxy := hp1 y (by simp)
   have L' := b8d (on := on) (off := off) (un := un) (X := X) (Y := Y) (nx := y.a) L x hx.1 hx.2
   have ih := a8t hT hXY (y :: r') (y8 on off un y.a x.a (X x) (Y x) s) _ _ L' (fun z hz => hA z (List.mem_cons_of_mem _ hz)) hp2 ⟨y, r', rfl, hy⟩
   have e1 : S3 on off un X Y (T + 1) (x :: y :: r') s = S3 on off un X Y (T + 1) (y :: r') (y8 on off un y.a x.a (X x) (Y x) s) := by
    rw [S3, if_pos (by omega)]
    have : min (nxL (y :: r')) (T + 1) = y.a := by simp only [nxL]; omega
    rw [this]
   have e2 : S3 on off un X Y T (x :: y :: r') s = S3 on off un X Y T (y :: r') (y8 on off un y.a x.a (X x) (Y x) s) := by
    rw [S3, if_pos (by omega)]
    have : min (nxL (y :: r')) T = y.a := by simp only [nxL]; omega
    rw [this]
   rw [e1, e2, a0O (show x.a ≤ T by omega), a0O (show x.a ≤ T by omega)]
   exact ih
  ·have hl : ∀ y ∈ r, T + 1 ≤ y.a := fun y hy => by
    cases r with
    | nil => cases hy
    | cons z r' =>
     have hz : ¬z.a ≤ T := fun h => hr ⟨z, r', rfl, h⟩
     rcases List.mem_cons.1 hy with rfl | hy
     ·omega
     ·have := (List.pairwise_cons.1 hp2).1 y hy; omega
   have hn : T + 1 ≤ nxL r := by
    cases r with
    | nil => simp only [nxL]; omega
    | cons z r' => exact hl z (by simp)
   have e1 : S3 on off un X Y (T + 1) (x :: r) s = y8 on off un (T + 1) x.a (X x) (Y x) s := by
    rw [S3, if_pos (by omega), R6 r _ hl, show min (nxL r) (T + 1) = T + 1 by omega]
   have e2 : S3 on off un X Y T (x :: r) s = zT on off un T x.a (X x) (Y x) s := by
    unfold zT
    rw [S3]
    by_cases hc : x.a < T
    ·rw [if_pos hc, if_pos hc, R6 r _ (fun y hy => by have := hl y hy; omega), show min (nxL r) T = T by omega]
    ·rw [if_neg hc, if_neg hc]
   rw [e1, e2, a0O hxT, a0O hxT, N1 r _ (fun y hy => by have := hl y hy; omega), N1 r _ (fun y hy => by have := hl y hy; omega)]
   obtain ⟨l1, l2, p1, p2⟩ := L
   obtain ⟨out, act, t1, t2, h1, h2⟩ := s
   simp only at l1 l2 p1 p2
   have hxy := hXY x
   have ho1 : (if o1 < 0 then x.a else o1) = (if h1 = false then x.a else t1) := by
    grind
   have ho2 : (if o2 < 0 then x.a else o2) = (if h2 = false then x.a else t2) := by
    grind
   rw [ho1, ho2]
   have hmx : ¬Mom on off A T → x.a ≠ T := fun h e => h (.inl (e ▸ hx.2))
   cases hX : X x with
   | true =>
    have hY : Y x = false := by cases hY : Y x with | false => rfl | true => exact absurd ⟨hX, hY⟩ hxy
    rw [hY]
    simp only [Bool.true_eq_false, if_false, if_true]
    have hh : 0 ≤ (if h1 = false then x.a else t1) ∧ A (if h1 = false then x.a else t1) := by
     grind
    have := d4q (on := on) (off := off) (un := un) (a := x.a) (T := T) (out := out) (act := act) (t1 := t1) (t2 := t2) (h1 := h1) (h2 := h2) hxT hh.1
    exact ⟨this.1, fun h => this.2 (hmx h) fun e => h (.inr ⟨_, hh.2, .inl e⟩)⟩
   | false =>
    cases hY : Y x with
    | true =>
     simp only [Bool.true_eq_false, if_false, if_true]
     have hh : 0 ≤ (if h2 = false then x.a else t2) ∧ A (if h2 = false then x.a else t2) := by
      grind
     have := d4d (on := on) (off := off) (un := un) (a := x.a) (T := T) (out := out) (act := act) (t1 := t1) (t2 := t2) (h1 := h1) (h2 := h2) hxT hh.1
     exact ⟨this.1, fun h => this.2 (hmx h) fun e => h (.inr ⟨_, hh.2, .inr e⟩)⟩
    | false =>
     simp only [if_true]
     have := d2c (on := on) (off := off) (un := un) (a := x.a) (T := T) (s := ⟨out, act, t1, t2, h1, h2⟩)
     grind
theorem b3S {T : Int} (l : List Smp) (hl : ∀ x ∈ l, T < x.a) :
  oa (S3 on off un X Y (T + 1) l ⟨[], false, 0, 0, false, false⟩) = ([], false) ∧ oa (S3 on off un X Y T l ⟨[], false, 0, 0, false, false⟩) = ([], false) ∧ Q4 on off un T (J4 X T (-1) l) (J4 Y T (-1) l) ([], false) = ([], false) := by
 rw [R6 l _ (fun x hx => by have := hl x hx; omega), R6 l _ (fun x hx => by have := hl x hx; omega), N1 l _ hl, N1 l _ hl]
 exact ⟨rfl, rfl, rfl⟩
def s00 : N8 := ⟨[], false, 0, 0, false, false⟩
theorem b2D {T : Int} {A : Int → Prop} (hT : T < 345686400000) (hXY : ∀ s, ¬(X s = true ∧ Y s = true)) (l : List Smp) (hA : ∀ x ∈ l, 0 ≤ x.a ∧ A x.a) (hp : l.Pairwise (fun x y => x.a < y.a)) :
  oa (S3 on off un X Y (T + 1) l s00) = (if T < un then Q4 on off un T (J4 X T (-1) l) (J4 Y T (-1) l) (oa (S3 on off un X Y T l s00)) else oa (S3 on off un X Y T l s00)) ∧
  (¬Mom on off A T → oa (S3 on off un X Y (T + 1) l s00) = oa (S3 on off un X Y T l s00)) := by
 by_cases h : ∃ x r, l = x :: r ∧ x.a ≤ T
 ·exact a8t hT hXY l s00 (-1) (-1) ⟨rfl, rfl, fun h => (by cases h), fun h => (by cases h)⟩ hA hp h
 ·have hl : ∀ x ∈ l, T < x.a := by
   cases l with
   | nil => intro x hx; cases hx
   | cons y r =>
    have hy : ¬y.a ≤ T := fun h' => h ⟨y, r, rfl, h'⟩
    intro x hx
    rcases List.mem_cons.1 hx with rfl | hx
    ·omega
    ·have := (List.pairwise_cons.1 hp).1 x hx; omega
  obtain ⟨h1, h2, h3⟩ := b3S (on := on) (off := off) (un := un) (X := X) (Y := Y) l hl
  have e0 : s00 = ⟨[], false, 0, 0, false, false⟩ := rfl
  grind
theorem a0S {A : Int → Prop} (hXY : ∀ s, ¬(X s = true ∧ Y s = true)) (l : List Smp) (hA : ∀ x ∈ l, 0 ≤ x.a ∧ A x.a) (hp : l.Pairwise (fun x y => x.a < y.a)) : ∀ (n : Nat) (T : Int), T + n ≤ 345686400000 → (∀ t, T ≤ t → t < T + n → un ≤ t ∨ ¬Mom on off A t) → oa (S3 on off un X Y (T + n) l s00) = oa (S3 on off un X Y T l s00)
 | 0, T, _, _ => by rw [show T + (0 : Nat) = T by omega]
 | n + 1, T, h1, h2 => by
  have e : oa (S3 on off un X Y (T + n + 1) l s00) = oa (S3 on off un X Y (T + n) l s00) := by
   have h := b2D (on := on) (off := off) (un := un) (X := X) (Y := Y) (T := T + n) (A := A) (by omega) hXY l hA hp
   all_goals grind
  rw [show T + (n + 1 : Nat) = T + n + 1 by omega, e]
  exact a0S hXY l hA hp n T (by omega) (fun t a b => h2 t a (by omega))
theorem b2d {A : Int → Prop} (hXY : ∀ s, ¬(X s = true ∧ Y s = true)) (l : List Smp) (hA : ∀ x ∈ l, 0 ≤ x.a ∧ A x.a) (hp : l.Pairwise (fun x y => x.a < y.a)) (hun : un ≤ 345686400000) : ∀ (ms : List Int) (T : Int), (∀ t ∈ ms, T ≤ t) → ms.Pairwise (· < ·) → T ≤ 345686400000 → (∀ t, T ≤ t → Mom on off A t → t ∈ ms) → b9G on off un X Y l ms (oa (S3 on off un X Y T l s00)) = (S3 on off un X Y 345686400000 l s00).out
 | [], T, _, _, hT, hm => by
  rw [b9G]
  have := a0S (on := on) (off := off) (un := un) (X := X) (Y := Y) hXY l hA hp (345686400000 - T).toNat T (by omega) (fun t h1 h2 => .inr fun h => by have := hm t h1 h; cases this)
  rw [show T + ((345686400000 - T).toNat : Int) = 345686400000 by omega] at this
  rw [← this]; rfl
 | m :: ms, T, h1, h2, hT, hm => by
  have hm0 := h1 m (by simp)
  obtain ⟨h3, h4⟩ := List.pairwise_cons.1 h2
  rw [b9G]
  have hno : ∀ t, T ≤ t → t < m → ¬Mom on off A t := fun t a b c => by
   all_goals grind
  by_cases hu : m ≥ un
  ·rw [if_pos hu]
   have := a0S (on := on) (off := off) (un := un) (X := X) (Y := Y) hXY l hA hp (345686400000 - T).toNat T (by omega) (fun t a b => by
    by_cases hc : un ≤ t
    ·exact .inl hc
    ·exact .inr (hno t a (by omega)))
   rw [show T + ((345686400000 - T).toNat : Int) = 345686400000 by omega] at this
   rw [← this]; rfl
  ·rw [if_neg hu]
   have e1 := a0S (on := on) (off := off) (un := un) (X := X) (Y := Y) hXY l hA hp (m - T).toNat T (by omega) (fun t a b => .inr (hno t a (by omega)))
   rw [show T + ((m - T).toNat : Int) = m by omega] at e1
   have e2 := (b2D (on := on) (off := off) (un := un) (X := X) (Y := Y) (T := m) (A := A) (by omega) hXY l hA hp).1
   rw [if_pos (by omega)] at e2
   rw [← e1, ← e2]
   exact b2d hXY l hA hp hun ms (m + 1) (fun t ht => by have := h3 t ht; omega) h4 (by omega) (fun t a c => by
    rcases List.mem_cons.1 (hm t (by omega) c) with rfl | hc
    ·omega
    ·exact hc)
theorem a9p {nx a : Int} {x y : Bool} {s : N8} (h : nx ≤ a) : (y8 on off un nx a x y s).out = s.out := by
 unfold y8
 grind
end
theorem a8q {kd lim db on off un : Int} : ∀ (l : List Smp) (s : N8), (∀ x ∈ l, x.a ≤ 345686400000) → l.Pairwise (fun x y => x.a < y.a) → (S3 on off un (fun s => (s6 kd lim db s).1) (fun s => (s6 kd lim db s).2) 345686400000 l s).out = (M0 kd lim db on off un l s).out
 | [], s, _, _ => rfl
 | [x], s, h, _ => by
  rw [S3, M0]
  have := h x (by simp)
  by_cases c : x.a < 345686400000
  ·rw [if_pos c, S3]; rfl
  ·rw [if_neg c, a9p (by omega)]
 | x :: y :: r, s, h, hp => by
  rw [S3, M0]
  obtain ⟨hp1, hp2⟩ := List.pairwise_cons.1 hp
  have h1 := hp1 y (by simp)
  have h2 := h y (by simp)
  rw [if_pos (by omega), show min (nxL (y :: r)) 345686400000 = y.a by simp only [nxL]; omega]
  exact a8q (y :: r) _ (fun z hz => h z (List.mem_cons_of_mem _ hz)) hp2
def a4a (on off : Int) (l : List Smp) : Nat → List Int
 | 0 => []
 | n + 1 => a4a on off l n ++ [(l.getD n default).a, (l.getD n default).a + on, (l.getD n default).a + off]
theorem a7t (on off : Int) (l : List Smp) : ∀ n, (a4a on off l n).length = 3 * n
 | 0 => rfl
 | n + 1 => by rw [a4a, List.length_append, a7t on off l n]; simp; omega
theorem a0N (on off : Int) (l : List Smp) (t : Int) : ∀ n, t ∈ a4a on off l n ↔ ∃ i, i < n ∧ (t = (l.getD i default).a ∨ t = (l.getD i default).a + on ∨ t = (l.getD i default).a + off)
 | 0 => by simp [a4a]
 | n + 1 => by
  rw [a4a, List.mem_append, a0N on off l t n]
  all_goals grind
def d1M (kd lim db on off un : Int) (l : List Smp) (ms : List Int) : List (Int × Int) := b9G on off un (fun s => (s6 kd lim db s).1) (fun s => (s6 kd lim db s).2) l ms ([], false)
theorem c2m {kd lim db on off un : Int} {l : List Smp} (hs : ∀ x ∈ l, 0 ≤ x.a ∧ x.a ≤ 345686400000) (hp : l.Pairwise (fun x y => x.a < y.a)) (hdb : 0 ≤ db) (hon : 0 ≤ on) (hoff : 0 ≤ off) (hun : un ≤ 345686400000) {ms : List Int} (hm : ∀ t, t ∈ ms ↔ t ∈ a4a on off l l.length) (hms : ms.Pairwise (· < ·)) : d1M kd lim db on off un l ms = a9P kd lim db on off un l := by
 unfold d1M a9P
 rw [← a8q l _ (fun x hx => (hs x hx).2) hp]
 have hgt : ∀ i, i < l.length → l.getD i default ∈ l := fun i hi => by
  grind
 have := b2d (on := on) (off := off) (un := un) (X := fun s => (s6 kd lim db s).1) (Y := fun s => (s6 kd lim db s).2) (A := fun a => ∃ x ∈ l, x.a = a) (fun s => a5G s hdb) l (fun x hx => ⟨(hs x hx).1, x, hx, rfl⟩) hp hun ms 0 (fun t ht => by
   obtain ⟨i, hi, h⟩ := (a0N on off l t _).1 ((hm t).1 ht)
   have := hs _ (hgt i hi)
   omega) hms (by omega) (fun t _ h => by
   refine (hm t).2 ((a0N on off l t _).2 ?_)
   have key : ∀ x ∈ l, ∃ i, i < l.length ∧ l.getD i default = x := fun x hx => by
    obtain ⟨i, hi, rfl⟩ := List.mem_iff_getElem.1 hx
    grind
   rcases h with ⟨x, hx, rfl⟩ | ⟨a, ⟨x, hx, rfl⟩, h⟩
   ·grind
   ·obtain ⟨i, hi, rfl⟩ := key x hx; exact ⟨i, hi, .inr h⟩)
 rw [R6 l s00 (fun x hx => (hs x hx).1)] at this
 exact this
theorem K8 (l : List Int) (j : Nat) (h : j < l.length) : l.toArray[j]! = l[j] := by
 rw [getElem!_pos _ j (by simpa using h)]; simp
theorem b1b {l : List Int} {x : Int} : x ∈ Lib.compact l ↔ x ∈ l := by
 unfold Lib.compact Lib.compactUpTo
 simp only [List.mem_map, List.mem_filter, List.mem_range]
 constructor
 ·rintro ⟨j, ⟨hj, _⟩, rfl⟩
  rw [K8 l j hj]; exact List.getElem_mem _
 ·intro h
  have hex : ∃ j : Nat, ∃ h : j < l.length, l[j] = x := List.mem_iff_getElem.1 h
  have key : ∀ n : Nat, (∃ j : Nat, j < n ∧ ∃ h : j < l.length, l[j] = x) → ∃ j : Nat, (∃ h : j < l.length, l[j] = x) ∧ ∀ i, i < j → ∀ h : i < l.length, l[i] ≠ x := by
   intro n
   induction n with
   | zero => rintro ⟨j, hj, _⟩; omega
   | succ n ih =>
    rintro ⟨j, hj, hx⟩
    by_cases h2 : ∃ j : Nat, j < n ∧ ∃ h : j < l.length, l[j] = x
    ·exact ih h2
    ·obtain rfl : j = n := by
      rcases Nat.lt_or_ge j n with c | c
      ·exact absurd ⟨j, c, hx⟩ h2
      ·omega
     exact ⟨j, hx, fun i hi h3 e => h2 ⟨i, hi, h3, e⟩⟩
  obtain ⟨j0, h0⟩ := hex
  obtain ⟨j, ⟨hj, hjx⟩, hmin⟩ := key (j0 + 1) ⟨j0, by omega, h0⟩
  refine ⟨j, ⟨hj, ?_⟩, by rw [K8 l j hj]; exact hjx⟩
  unfold Lib.keeps
  by_cases e : j = 0
  ·simp [e]
  ·have h1 := K8 l j hj
   have h2 := K8 l (j - 1) (by omega)
   have h3 := hmin (j - 1) (by omega) (by omega)
   rw [h1, h2, hjx]
   simp only [bne_iff_ne, ne_eq, Bool.or_eq_true, decide_eq_true_eq]
   exact .inr (fun e => h3 e.symm)
theorem b8y (l : List Int) : (a0q l).Pairwise (· ≤ ·) := by
 have h := List.pairwise_mergeSort (le := fun x y : Int => decide (x ≤ y)) (fun a b c h1 h2 => decide_eq_true (Int.le_trans (of_decide_eq_true h1) (of_decide_eq_true h2))) (fun a b => by
  rcases Int.le_total a b with h | h
  ·simp [h]
  ·simp [h]) l
 exact h.imp fun h => of_decide_eq_true h
theorem a7C {l : List Int} {x : Int} : x ∈ a0q l ↔ x ∈ l := List.mem_mergeSort
theorem b0f {l : List Int} (h : l.Pairwise (· ≤ ·)) : (Lib.compact l).Pairwise (· < ·) := by
 unfold Lib.compact Lib.compactUpTo
 refine List.pairwise_map.2 ?_
 have h1 : ((List.range l.length).filter (Lib.keeps l.toArray)).Pairwise fun i j => i < j ∧ j < l.length ∧ Lib.keeps l.toArray j = true := by
  refine List.pairwise_filter.2 ?_
  refine List.pairwise_iff_getElem.2 fun i j hi hj hij _ hk => ?_
  simp only [List.getElem_range, List.length_range] at hi hj hk ⊢
  exact ⟨hij, hj, hk⟩
 refine h1.imp fun {i j} hij => ?_
 obtain ⟨h2, h3, h4⟩ := hij
 rw [K8 l i (by omega), K8 l j h3]
 have h5 := List.pairwise_iff_getElem.1 h
 have h6 : l[j - 1] ≤ l[j] := h5 (j - 1) j (by omega) h3 (by omega)
 have h7 : l[i] ≤ l[j - 1] := by
  by_cases e : i = j - 1
  ·subst e; exact Int.le_refl _
  ·exact h5 i (j - 1) (by omega) (by omega) (by omega)
 have h8 : l[j] ≠ l[j - 1] := by
  unfold Lib.keeps at h4
  have := of_decide_eq_true h4
  rw [K8 l j h3, K8 l (j - 1) (by omega)] at this
  rcases this with h | h
  ·omega
  ·exact h
 omega
def c0I (on off : Int) (l : List Smp) : List Int := Lib.compact (a0q (a4a on off l l.length))
theorem b7O {kd lim db on off un : Int} {l : List Smp} (hs : ∀ x ∈ l, 0 ≤ x.a ∧ x.a ≤ 345686400000) (hp : l.Pairwise (fun x y => x.a < y.a)) (hdb : 0 ≤ db) (hon : 0 ≤ on) (hoff : 0 ≤ off) (hun : un ≤ 345686400000) : d1M kd lim db on off un l (c0I on off l) = a9P kd lim db on off un l :=
 c2m hs hp hdb hon hoff hun (fun t => by unfold c0I; rw [b1b, a7C]) (b0f (b8y _))
end Go.Proofs.YtbhgndiboeppeaaGreatDoor

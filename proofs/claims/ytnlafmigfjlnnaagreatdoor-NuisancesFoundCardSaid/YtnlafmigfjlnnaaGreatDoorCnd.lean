/- The reference. -/
import Derived.Lib.SlicesCompact
import Derived.Test.YtnlafmigfjlnnaaGreatDoorEvs
import Derived.Test.YtnlafmigfjlnnaaGreatDoorSrk
set_option linter.all false
set_option maxHeartbeats 0
set_option maxRecDepth 100000
namespace Go.Proofs.YtnlafmigfjlnnaaGreatDoor
open Go Go.Ai
def H8 (p : Smp -> Bool) (at_ : Int) : Int -> List Smp -> Int
 | o, [] => o
 | o, s :: r => H8 p at_ (if s.a > at_ then o else if p s = false then -1 else if o < 0 then s.a else o) r
def Q5 (on off un : Int) (T o1 o2 : Int) (z : List (Int × Int) × Bool) : List (Int × Int) × Bool :=
 if z.2 = false ∧ 0 <= o1 ∧ T - o1 >= on then (z.1 ++ [(T, un)], true) else if z.2 = true ∧ 0 <= o2 ∧ T - o2 >= off then (O0 z.1 T, false) else z
def c0M (on off un : Int) (X Y : Smp -> Bool) (l : List Smp) : List Int -> List (Int × Int) × Bool -> List (Int × Int)
 | [], z => z.1
 | T :: r, z => if T >= un then z.1 else c0M on off un X Y l r (Q5 on off un T (H8 X T (-1) l) (H8 Y T (-1) l) z)
section
variable {on off un : Int} {X Y : Smp -> Bool}
def nxL : List Smp -> Int
 | [] => 345686400000
 | y :: _ => y.a
def Q2 (on off un : Int) (X Y : Smp -> Bool) (T : Int) : List Smp -> N1 -> N1
 | [], s => s
 | x :: r, s => if x.a < T then Q2 on off un X Y T r (x8 on off un (min (nxL r) T) x.a (X x) (Y x) s) else s
theorem M9 {p : Smp -> Bool} {T : Int} : ∀ (l : List Smp) (o : Int), (∀ s ∈ l, T < s.a) -> H8 p T o l = o
 | [], o, _ => rfl
 | s :: r, o, h => by
  have hs := h s (by simp)
  rw [H8, if_pos (by omega)]
  exact M9 r o fun x hx => h x (by simp [hx])
theorem O9 {T : Int} : ∀ (l : List Smp) (s : N1), (∀ x ∈ l, T <= x.a) -> Q2 on off un X Y T l s = s
 | [], _, _ => rfl
 | x :: r, s, h => by
  have := h x (by simp)
  rw [Q2, if_neg (by omega)]
structure Lnk (s : N1) (o1 o2 : Int) (A : Int -> Prop) : Prop where
 l1 : o1 = if s.h1 = true then s.t1 else -1
 l2 : o2 = if s.h2 = true then s.t2 else -1
 p1 : s.h1 = true -> 0 <= s.t1 ∧ A s.t1
 p2 : s.h2 = true -> 0 <= s.t2 ∧ A s.t2
theorem b8j {s : N1} {o1 o2 nx : Int} {A : Int -> Prop} (h : Lnk s o1 o2 A) (x : Smp) (h0 : 0 <= x.a) (hA : A x.a) : Lnk (x8 on off un nx x.a (X x) (Y x) s) (if X x = false then -1 else if o1 < 0 then x.a else o1) (if Y x = false then -1 else if o2 < 0 then x.a else o2) A := by
 obtain ⟨l1, l2, p1, p2⟩ := h
 obtain ⟨out, act, t1, t2, h1, h2⟩ := s
 simp only at l1 l2 p1 p2
 unfold x8
 refine ⟨?_, ?_, ?_, ?_⟩
 ·grind
 ·grind
 ·grind
 ·grind
def oa (s : N1) : List (Int × Int) × Bool := (s.out, s.act)
def zT (on off un T a : Int) (x y : Bool) (s : N1) : N1 := if a < T then x8 on off un T a x y s else s
theorem d3y {a T : Int} {out : List (Int × Int)} {act : Bool} {t1 t2 : Int} {h1 h2 : Bool} (ha : a <= T) (h0 : 0 <= (if h1 = false then a else t1)) :
  oa (x8 on off un (T + 1) a true false ⟨out, act, t1, t2, h1, h2⟩) = (if T < un then Q5 on off un T (if h1 = false then a else t1) (-1) (oa (zT on off un T a true false ⟨out, act, t1, t2, h1, h2⟩)) else oa (zT on off un T a true false ⟨out, act, t1, t2, h1, h2⟩)) ∧
  (a ≠ T -> T ≠ (if h1 = false then a else t1) + on -> oa (x8 on off un (T + 1) a true false ⟨out, act, t1, t2, h1, h2⟩) = oa (zT on off un T a true false ⟨out, act, t1, t2, h1, h2⟩)) := by
 unfold zT
 rw [U9, U9]
 generalize (if h1 = false then a else t1) = t at *
 unfold Q5
 cases act with
 | true =>
  simp only [Bool.true_eq_false, false_and, if_false]
  have ez : oa (if a < T then (⟨out, true, t, t2, true, false⟩ : N1) else ⟨out, true, t1, t2, h1, h2⟩) = (out, true) := by split <;> rfl
  rw [ez]
  simp only [Bool.true_eq_false, false_and, if_false]
  rw [if_neg (show ¬(True ∧ (0 : Int) <= -1 ∧ T - -1 >= off) by omega)]
  exact ⟨by split <;> rfl, fun _ _ => rfl⟩
 | false =>
  simp only [true_and]
  by_cases c1 : a < T ∧ max a (t + on) < T ∧ max a (t + on) < un
  ·rw [if_pos c1.1, if_pos c1.2, if_pos (show max a (t + on) < T + 1 ∧ max a (t + on) < un by omega)]
   simp [oa]
  ·have ez : oa (if a < T then (if max a (t + on) < T ∧ max a (t + on) < un then (⟨out ++ [(max a (t + on), un)], true, t, t2, true, false⟩ : N1) else ⟨out, false, t, t2, true, false⟩) else ⟨out, false, t1, t2, h1, h2⟩) = (out, false) := by
    by_cases c2 : a < T
    ·rw [if_pos c2, if_neg (fun h => c1 ⟨c2, h⟩)]; rfl
    ·rw [if_neg c2]; rfl
   rw [ez]
   by_cases c3 : max a (t + on) < T + 1 ∧ max a (t + on) < un
   ·have e : max a (t + on) = T := by omega
    rw [if_pos c3, if_pos (show T < un by omega), if_pos (show (out, false).2 = false ∧ 0 <= t ∧ T - t >= on from ⟨rfl, h0, by omega⟩), e]
    refine ⟨rfl, fun n1 n2 => ?_⟩
    omega
   ·rw [if_neg c3]
    refine ⟨?_, fun _ _ => rfl⟩
    by_cases c4 : T < un
    ·rw [if_pos c4, if_neg (by rintro ⟨_, _, h⟩; omega), if_neg (by rintro ⟨h, _⟩; cases h)]; rfl
    ·rw [if_neg c4]; rfl
theorem d4l {a T : Int} {out : List (Int × Int)} {act : Bool} {t1 t2 : Int} {h1 h2 : Bool} (ha : a <= T) (h0 : 0 <= (if h2 = false then a else t2)) :
  oa (x8 on off un (T + 1) a false true ⟨out, act, t1, t2, h1, h2⟩) = (if T < un then Q5 on off un T (-1) (if h2 = false then a else t2) (oa (zT on off un T a false true ⟨out, act, t1, t2, h1, h2⟩)) else oa (zT on off un T a false true ⟨out, act, t1, t2, h1, h2⟩)) ∧
  (a ≠ T -> T ≠ (if h2 = false then a else t2) + off -> oa (x8 on off un (T + 1) a false true ⟨out, act, t1, t2, h1, h2⟩) = oa (zT on off un T a false true ⟨out, act, t1, t2, h1, h2⟩)) := by
 unfold zT
 rw [V0, V0]
 generalize (if h2 = false then a else t2) = t at *
 unfold Q5
 cases act with
 | false =>
  simp only [Bool.false_eq_true, false_and, if_false]
  have ez : oa (if a < T then (⟨out, false, t1, t, false, true⟩ : N1) else ⟨out, false, t1, t2, h1, h2⟩) = (out, false) := by split <;> rfl
  rw [ez]
  simp only [Bool.false_eq_true, false_and, if_false]
  rw [if_neg (show ¬(True ∧ (0 : Int) <= -1 ∧ T - -1 >= on) by omega)]
  exact ⟨by split <;> rfl, fun _ _ => rfl⟩
 | true =>
  simp only [true_and]
  by_cases c1 : a < T ∧ max a (t + off) < T ∧ max a (t + off) < un
  ·rw [if_pos c1.1, if_pos c1.2, if_pos (show max a (t + off) < T + 1 ∧ max a (t + off) < un by omega)]
   simp [oa]
  ·have ez : oa (if a < T then (if max a (t + off) < T ∧ max a (t + off) < un then (⟨O0 out (max a (t + off)), false, t1, t, false, true⟩ : N1) else ⟨out, true, t1, t, false, true⟩) else ⟨out, true, t1, t2, h1, h2⟩) = (out, true) := by
    by_cases c2 : a < T
    ·rw [if_pos c2, if_neg (fun h => c1 ⟨c2, h⟩)]; rfl
    ·rw [if_neg c2]; rfl
   rw [ez]
   by_cases c3 : max a (t + off) < T + 1 ∧ max a (t + off) < un
   ·have e : max a (t + off) = T := by omega
    rw [if_pos c3, if_pos (show T < un by omega), if_neg (by rintro ⟨h, _⟩; cases h), if_pos (show (out, true).2 = true ∧ 0 <= t ∧ T - t >= off from ⟨rfl, h0, by omega⟩), e]
    refine ⟨rfl, fun n1 n2 => ?_⟩
    omega
   ·rw [if_neg c3]
    refine ⟨?_, fun _ _ => rfl⟩
    by_cases c4 : T < un
    ·rw [if_pos c4, if_neg (by rintro ⟨h, _⟩; cases h), if_neg (by rintro ⟨_, _, h⟩; omega)]; rfl
    ·rw [if_neg c4]; rfl
theorem d4v {a T : Int} {s : N1} : oa (x8 on off un (T + 1) a false false s) = oa (zT on off un T a false false s) ∧ Q5 on off un T (-1) (-1) (oa (zT on off un T a false false s)) = oa (zT on off un T a false false s) := by
 obtain ⟨out, act, t1, t2, h1, h2⟩ := s
 unfold zT
 rw [a1j, a1j]
 constructor
 ·split <;> rfl
 ·unfold Q5
  grind
def Mom (on off : Int) (A : Int -> Prop) (T : Int) : Prop := A T ∨ ∃ a, A a ∧ (T = a + on ∨ T = a + off)
theorem Z9 {p : Smp -> Bool} {T o : Int} {s : Smp} {r : List Smp} : H8 p T o (s :: r) = H8 p T (if s.a > T then o else if p s = false then -1 else if o < 0 then s.a else o) r := rfl
theorem a0O {p : Smp -> Bool} {T o : Int} {s : Smp} {r : List Smp} (h : s.a <= T) : H8 p T o (s :: r) = H8 p T (if p s = false then -1 else if o < 0 then s.a else o) r := by
 rw [Z9, if_neg (show ¬s.a > T by omega)]
theorem a7X {T : Int} {A : Int -> Prop} (hT : T < 345686400000) (hXY : ∀ s, ¬(X s = true ∧ Y s = true)) : ∀ (l : List Smp) (s : N1) (o1 o2 : Int), Lnk s o1 o2 A -> (∀ x ∈ l, 0 <= x.a ∧ A x.a) -> l.Pairwise (fun x y => x.a < y.a) -> (∃ x r, l = x :: r ∧ x.a <= T) ->
  oa (Q2 on off un X Y (T + 1) l s) = (if T < un then Q5 on off un T (H8 X T o1 l) (H8 Y T o2 l) (oa (Q2 on off un X Y T l s)) else oa (Q2 on off un X Y T l s)) ∧
  (¬Mom on off A T -> oa (Q2 on off un X Y (T + 1) l s) = oa (Q2 on off un X Y T l s))
 | [], _, _, _, _, _, _, h => by obtain ⟨x, r, h, _⟩ := h; cases h
 | x :: r, s, o1, o2, L, hA, hp, h => by
  obtain ⟨x', r', he, hxT⟩ := h
  injection he with he1 he2
  subst he1; subst he2
  obtain ⟨hp1, hp2⟩ := List.pairwise_cons.1 hp
  have hx := hA x (by simp)
  by_cases hr : ∃ y r', r = y :: r' ∧ y.a <= T
  ·obtain ⟨y, r', rfl, hy⟩ := hr
   have hxy := hp1 y (by simp)
   have L' := b8j (on := on) (off := off) (un := un) (X := X) (Y := Y) (nx := y.a) L x hx.1 hx.2
   have ih := a7X hT hXY (y :: r') (x8 on off un y.a x.a (X x) (Y x) s) _ _ L' (fun z hz => hA z (List.mem_cons_of_mem _ hz)) hp2 ⟨y, r', rfl, hy⟩
   have e1 : Q2 on off un X Y (T + 1) (x :: y :: r') s = Q2 on off un X Y (T + 1) (y :: r') (x8 on off un y.a x.a (X x) (Y x) s) := by
    rw [Q2, if_pos (by omega)]
    have : min (nxL (y :: r')) (T + 1) = y.a := by simp only [nxL]; omega
    rw [this]
   have e2 : Q2 on off un X Y T (x :: y :: r') s = Q2 on off un X Y T (y :: r') (x8 on off un y.a x.a (X x) (Y x) s) := by
    rw [Q2, if_pos (by omega)]
    have : min (nxL (y :: r')) T = y.a := by simp only [nxL]; omega
    rw [this]
   rw [e1, e2, a0O (show x.a <= T by omega), a0O (show x.a <= T by omega)]
   exact ih
  ·have hl : ∀ y ∈ r, T + 1 <= y.a := fun y hy => by
    cases r with
    | nil => cases hy
    | cons z r' =>
     have hz : ¬z.a <= T := fun h => hr ⟨z, r', rfl, h⟩
     rcases List.mem_cons.1 hy with rfl | hy
     ·omega
     ·have := (List.pairwise_cons.1 hp2).1 y hy; omega
   have hn : T + 1 <= nxL r := by
    cases r with
    | nil => simp only [nxL]; omega
    | cons z r' => exact hl z (by simp)
   have e1 : Q2 on off un X Y (T + 1) (x :: r) s = x8 on off un (T + 1) x.a (X x) (Y x) s := by
    rw [Q2, if_pos (by omega), O9 r _ hl, show min (nxL r) (T + 1) = T + 1 by omega]
   have e2 : Q2 on off un X Y T (x :: r) s = zT on off un T x.a (X x) (Y x) s := by
    unfold zT
    rw [Q2]
    by_cases hc : x.a < T
    ·rw [if_pos hc, if_pos hc, O9 r _ (fun y hy => by have := hl y hy; omega), show min (nxL r) T = T by omega]
    ·rw [if_neg hc, if_neg hc]
   rw [e1, e2, a0O hxT, a0O hxT, M9 r _ (fun y hy => by have := hl y hy; omega), M9 r _ (fun y hy => by have := hl y hy; omega)]
   obtain ⟨l1, l2, p1, p2⟩ := L
   obtain ⟨out, act, t1, t2, h1, h2⟩ := s
   simp only at l1 l2 p1 p2
   have hxy := hXY x
   have ho1 : (if o1 < 0 then x.a else o1) = (if h1 = false then x.a else t1) := by
    grind
   have ho2 : (if o2 < 0 then x.a else o2) = (if h2 = false then x.a else t2) := by
    grind
   rw [ho1, ho2]
   have hmx : ¬Mom on off A T -> x.a ≠ T := fun h e => h (.inl (e ▸ hx.2))
   cases hX : X x with
   | true =>
    have hY : Y x = false := by cases hY : Y x with | false => rfl | true => exact absurd ⟨hX, hY⟩ hxy
    rw [hY]
    simp only [Bool.true_eq_false, if_false, if_true]
    have hh : 0 <= (if h1 = false then x.a else t1) ∧ A (if h1 = false then x.a else t1) := by
     grind
    have := d3y (on := on) (off := off) (un := un) (a := x.a) (T := T) (out := out) (act := act) (t1 := t1) (t2 := t2) (h1 := h1) (h2 := h2) hxT hh.1
    exact ⟨this.1, fun h => this.2 (hmx h) fun e => h (.inr ⟨_, hh.2, .inl e⟩)⟩
   | false =>
    cases hY : Y x with
    | true =>
     simp only [Bool.true_eq_false, if_false, if_true]
     have hh : 0 <= (if h2 = false then x.a else t2) ∧ A (if h2 = false then x.a else t2) := by
      grind
     have := d4l (on := on) (off := off) (un := un) (a := x.a) (T := T) (out := out) (act := act) (t1 := t1) (t2 := t2) (h1 := h1) (h2 := h2) hxT hh.1
     exact ⟨this.1, fun h => this.2 (hmx h) fun e => h (.inr ⟨_, hh.2, .inr e⟩)⟩
    | false =>
     simp only [if_true]
     have := d4v (on := on) (off := off) (un := un) (a := x.a) (T := T) (s := ⟨out, act, t1, t2, h1, h2⟩)
     grind
theorem b1H {T : Int} (l : List Smp) (hl : ∀ x ∈ l, T < x.a) :
  oa (Q2 on off un X Y (T + 1) l ⟨[], false, 0, 0, false, false⟩) = ([], false) ∧ oa (Q2 on off un X Y T l ⟨[], false, 0, 0, false, false⟩) = ([], false) ∧ Q5 on off un T (H8 X T (-1) l) (H8 Y T (-1) l) ([], false) = ([], false) := by
 rw [O9 l _ (fun x hx => by have := hl x hx; omega), O9 l _ (fun x hx => by have := hl x hx; omega), M9 l _ hl, M9 l _ hl]
 exact ⟨rfl, rfl, rfl⟩
def s00 : N1 := ⟨[], false, 0, 0, false, false⟩
theorem b3x {T : Int} {A : Int -> Prop} (hT : T < 345686400000) (hXY : ∀ s, ¬(X s = true ∧ Y s = true)) (l : List Smp) (hA : ∀ x ∈ l, 0 <= x.a ∧ A x.a) (hp : l.Pairwise (fun x y => x.a < y.a)) :
  oa (Q2 on off un X Y (T + 1) l s00) = (if T < un then Q5 on off un T (H8 X T (-1) l) (H8 Y T (-1) l) (oa (Q2 on off un X Y T l s00)) else oa (Q2 on off un X Y T l s00)) ∧
  (¬Mom on off A T -> oa (Q2 on off un X Y (T + 1) l s00) = oa (Q2 on off un X Y T l s00)) := by
 by_cases h : ∃ x r, l = x :: r ∧ x.a <= T
 ·exact a7X hT hXY l s00 (-1) (-1) ⟨rfl, rfl, fun h => (by cases h), fun h => (by cases h)⟩ hA hp h
 ·have hl : ∀ x ∈ l, T < x.a := by
   cases l with
   | nil => intro x hx; cases hx
   | cons y r =>
    have hy : ¬y.a <= T := fun h' => h ⟨y, r, rfl, h'⟩
    intro x hx
    rcases List.mem_cons.1 hx with rfl | hx
    ·omega
    ·have := (List.pairwise_cons.1 hp).1 x hx; omega
  obtain ⟨h1, h2, h3⟩ := b1H (on := on) (off := off) (un := un) (X := X) (Y := Y) l hl
  have e0 : s00 = ⟨[], false, 0, 0, false, false⟩ := rfl
  grind
theorem a0V {A : Int -> Prop} (hXY : ∀ s, ¬(X s = true ∧ Y s = true)) (l : List Smp) (hA : ∀ x ∈ l, 0 <= x.a ∧ A x.a) (hp : l.Pairwise (fun x y => x.a < y.a)) : ∀ (n : Nat) (T : Int), T + n <= 345686400000 -> (∀ t, T <= t -> t < T + n -> un <= t ∨ ¬Mom on off A t) -> oa (Q2 on off un X Y (T + n) l s00) = oa (Q2 on off un X Y T l s00)
 | 0, T, _, _ => by rw [show T + (0 : Nat) = T by omega]
 | n + 1, T, h1, h2 => by
  have e : oa (Q2 on off un X Y (T + n + 1) l s00) = oa (Q2 on off un X Y (T + n) l s00) := by
   have h := b3x (on := on) (off := off) (un := un) (X := X) (Y := Y) (T := T + n) (A := A) (by omega) hXY l hA hp
   all_goals grind
  rw [show T + (n + 1 : Nat) = T + n + 1 by omega, e]
  exact a0V hXY l hA hp n T (by omega) (fun t a b => h2 t a (by omega))
theorem b3z {A : Int -> Prop} (hXY : ∀ s, ¬(X s = true ∧ Y s = true)) (l : List Smp) (hA : ∀ x ∈ l, 0 <= x.a ∧ A x.a) (hp : l.Pairwise (fun x y => x.a < y.a)) (hun : un <= 345686400000) : ∀ (ms : List Int) (T : Int), (∀ t ∈ ms, T <= t) -> ms.Pairwise (· < ·) -> T <= 345686400000 -> (∀ t, T <= t -> Mom on off A t -> t ∈ ms) -> c0M on off un X Y l ms (oa (Q2 on off un X Y T l s00)) = (Q2 on off un X Y 345686400000 l s00).out
 | [], T, _, _, hT, hm => by
  rw [c0M]
  have := a0V (on := on) (off := off) (un := un) (X := X) (Y := Y) hXY l hA hp (345686400000 - T).toNat T (by omega) (fun t h1 h2 => .inr fun h => by have := hm t h1 h; cases this)
  rw [show T + ((345686400000 - T).toNat : Int) = 345686400000 by omega] at this
  rw [<- this]; rfl
 | m :: ms, T, h1, h2, hT, hm => by
  have hm0 := h1 m (by simp)
  obtain ⟨h3, h4⟩ := List.pairwise_cons.1 h2
  rw [c0M]
  have hno : ∀ t, T <= t -> t < m -> ¬Mom on off A t := fun t a b c => by
   all_goals grind
  by_cases hu : m >= un
  ·rw [if_pos hu]
   have := a0V (on := on) (off := off) (un := un) (X := X) (Y := Y) hXY l hA hp (345686400000 - T).toNat T (by omega) (fun t a b => by
    by_cases hc : un <= t
    ·exact .inl hc
    ·exact .inr (hno t a (by omega)))
   rw [show T + ((345686400000 - T).toNat : Int) = 345686400000 by omega] at this
   rw [<- this]; rfl
  ·rw [if_neg hu]
   have e1 := a0V (on := on) (off := off) (un := un) (X := X) (Y := Y) hXY l hA hp (m - T).toNat T (by omega) (fun t a b => .inr (hno t a (by omega)))
   rw [show T + ((m - T).toNat : Int) = m by omega] at e1
   have e2 := (b3x (on := on) (off := off) (un := un) (X := X) (Y := Y) (T := m) (A := A) (by omega) hXY l hA hp).1
   rw [if_pos (by omega)] at e2
   rw [<- e1, <- e2]
   exact b3z hXY l hA hp hun ms (m + 1) (fun t ht => by have := h3 t ht; omega) h4 (by omega) (fun t a c => by
    rcases List.mem_cons.1 (hm t (by omega) c) with rfl | hc
    ·omega
    ·exact hc)
theorem b0P {nx a : Int} {x y : Bool} {s : N1} (h : nx <= a) : (x8 on off un nx a x y s).out = s.out := by
 unfold x8
 grind
end
theorem a8f {kd lim db on off un : Int} : ∀ (l : List Smp) (s : N1), (∀ x ∈ l, x.a <= 345686400000) -> l.Pairwise (fun x y => x.a < y.a) -> (Q2 on off un (fun s => (q7 kd lim db s).1) (fun s => (q7 kd lim db s).2) 345686400000 l s).out = (L1 kd lim db on off un l s).out
 | [], s, _, _ => rfl
 | [x], s, h, _ => by
  rw [Q2, L1]
  have := h x (by simp)
  by_cases c : x.a < 345686400000
  ·rw [if_pos c, Q2]; rfl
  ·rw [if_neg c, b0P (by omega)]
 | x :: y :: r, s, h, hp => by
  rw [Q2, L1]
  obtain ⟨hp1, hp2⟩ := List.pairwise_cons.1 hp
  have h1 := hp1 y (by simp)
  have h2 := h y (by simp)
  rw [if_pos (by omega), show min (nxL (y :: r)) 345686400000 = y.a by simp only [nxL]; omega]
  exact a8f (y :: r) _ (fun z hz => h z (List.mem_cons_of_mem _ hz)) hp2
def a2S (on off : Int) (l : List Smp) : Nat -> List Int
 | 0 => []
 | n + 1 => a2S on off l n ++ [(l.getD n default).a, (l.getD n default).a + on, (l.getD n default).a + off]
theorem a9b (on off : Int) (l : List Smp) : ∀ n, (a2S on off l n).length = 3 * n
 | 0 => rfl
 | n + 1 => by rw [a2S, List.length_append, a9b on off l n]; simp; omega
theorem a0N (on off : Int) (l : List Smp) (t : Int) : ∀ n, t ∈ a2S on off l n ↔ ∃ i, i < n ∧ (t = (l.getD i default).a ∨ t = (l.getD i default).a + on ∨ t = (l.getD i default).a + off)
 | 0 => by simp [a2S]
 | n + 1 => by
  rw [a2S, List.mem_append, a0N on off l t n]
  all_goals grind
def d2C (kd lim db on off un : Int) (l : List Smp) (ms : List Int) : List (Int × Int) := c0M on off un (fun s => (q7 kd lim db s).1) (fun s => (q7 kd lim db s).2) l ms ([], false)
theorem c5g {kd lim db on off un : Int} {l : List Smp} (hs : ∀ x ∈ l, 0 <= x.a ∧ x.a <= 345686400000) (hp : l.Pairwise (fun x y => x.a < y.a)) (hdb : 0 <= db) (hon : 0 <= on) (hoff : 0 <= off) (hun : un <= 345686400000) {ms : List Int} (hm : ∀ t, t ∈ ms ↔ t ∈ a2S on off l l.length) (hms : ms.Pairwise (· < ·)) : d2C kd lim db on off un l ms = b0z kd lim db on off un l := by
 unfold d2C b0z
 rw [<- a8f l _ (fun x hx => (hs x hx).2) hp]
 have hgt : ∀ i, i < l.length -> l.getD i default ∈ l := fun i hi => by
  grind
 have := b3z (on := on) (off := off) (un := un) (X := fun s => (q7 kd lim db s).1) (Y := fun s => (q7 kd lim db s).2) (A := fun a => ∃ x ∈ l, x.a = a) (fun s => a7g s hdb) l (fun x hx => ⟨(hs x hx).1, x, hx, rfl⟩) hp hun ms 0 (fun t ht => by
   obtain ⟨i, hi, h⟩ := (a0N on off l t _).1 ((hm t).1 ht)
   have := hs _ (hgt i hi)
   omega) hms (by omega) (fun t _ h => by
   refine (hm t).2 ((a0N on off l t _).2 ?_)
   have key : ∀ x ∈ l, ∃ i, i < l.length ∧ l.getD i default = x := fun x hx => by
    obtain ⟨i, hi, rfl⟩ := List.mem_iff_getElem.1 hx
    grind
   rcases h with ⟨x, hx, rfl⟩ | ⟨a, ⟨x, hx, rfl⟩, h⟩
   ·grind
   ·obtain ⟨i, hi, rfl⟩ := key x hx; exact ⟨i, hi, .inr h⟩)
 rw [O9 l s00 (fun x hx => (hs x hx).1)] at this
 exact this
theorem J6 (l : List Int) (j : Nat) (h : j < l.length) : l.toArray[j]! = l[j] := by
 rw [getElem!_pos _ j (by simpa using h)]; simp
theorem b1P {l : List Int} {x : Int} : x ∈ Lib.compact l ↔ x ∈ l := by
 unfold Lib.compact Lib.compactUpTo
 simp only [List.mem_map, List.mem_filter, List.mem_range]
 constructor
 ·rintro ⟨j, ⟨hj, _⟩, rfl⟩
  rw [J6 l j hj]; exact List.getElem_mem _
 ·intro h
  have hex : ∃ j : Nat, ∃ h : j < l.length, l[j] = x := List.mem_iff_getElem.1 h
  have key : ∀ n : Nat, (∃ j : Nat, j < n ∧ ∃ h : j < l.length, l[j] = x) -> ∃ j : Nat, (∃ h : j < l.length, l[j] = x) ∧ ∀ i, i < j -> ∀ h : i < l.length, l[i] ≠ x := by
   intro n
   induction n with
   | zero => rintro ⟨j, hj, _⟩; omega
   | succ n ih =>
    rintro ⟨j, hj, hx⟩
    by_cases h2 : ∃ j : Nat, j < n ∧ ∃ h : j < l.length, l[j] = x
    ·exact ih h2
    ·obtain rfl : j = n := by
      rcases Nat.lt_or_ge j n with c | c
      ·exact absurd ⟨j, c, hx⟩ h2
      ·omega
     exact ⟨j, hx, fun i hi h3 e => h2 ⟨i, hi, h3, e⟩⟩
  obtain ⟨j0, h0⟩ := hex
  obtain ⟨j, ⟨hj, hjx⟩, hmin⟩ := key (j0 + 1) ⟨j0, by omega, h0⟩
  refine ⟨j, ⟨hj, ?_⟩, by rw [J6 l j hj]; exact hjx⟩
  unfold Lib.keeps
  by_cases e : j = 0
  ·simp [e]
  ·have h1 := J6 l j hj
   have h2 := J6 l (j - 1) (by omega)
   have h3 := hmin (j - 1) (by omega) (by omega)
   rw [h1, h2, hjx]
   simp only [bne_iff_ne, ne_eq, Bool.or_eq_true, decide_eq_true_eq]
   exact .inr (fun e => h3 e.symm)
theorem b9d (l : List Int) : (T5 l).Pairwise (· <= ·) := by
 have h := List.pairwise_mergeSort (le := fun x y : Int => decide (x <= y)) (fun a b c h1 h2 => decide_eq_true (Int.le_trans (of_decide_eq_true h1) (of_decide_eq_true h2))) (fun a b => by
  rcases Int.le_total a b with h | h
  ·simp [h]
  ·simp [h]) l
 exact h.imp fun h => of_decide_eq_true h
theorem a2W {l : List Int} {x : Int} : x ∈ T5 l ↔ x ∈ l := List.mem_mergeSort
theorem b0a {l : List Int} (h : l.Pairwise (· <= ·)) : (Lib.compact l).Pairwise (· < ·) := by
 unfold Lib.compact Lib.compactUpTo
 refine List.pairwise_map.2 ?_
 have h1 : ((List.range l.length).filter (Lib.keeps l.toArray)).Pairwise fun i j => i < j ∧ j < l.length ∧ Lib.keeps l.toArray j = true := by
  refine List.pairwise_filter.2 ?_
  refine List.pairwise_iff_getElem.2 fun i j hi hj hij _ hk => ?_
  simp only [List.getElem_range, List.length_range] at hi hj hk ⊢
  exact ⟨hij, hj, hk⟩
 refine h1.imp fun {i j} hij => ?_
 obtain ⟨h2, h3, h4⟩ := hij
 rw [J6 l i (by omega), J6 l j h3]
 have h5 := List.pairwise_iff_getElem.1 h
 have h6 : l[j - 1] <= l[j] := h5 (j - 1) j (by omega) h3 (by omega)
 have h7 : l[i] <= l[j - 1] := by
  by_cases e : i = j - 1
  ·subst e; exact Int.le_refl _
  ·exact h5 i (j - 1) (by omega) (by omega) (by omega)
 have h8 : l[j] ≠ l[j - 1] := by
  unfold Lib.keeps at h4
  have := of_decide_eq_true h4
  rw [J6 l j h3, J6 l (j - 1) (by omega)] at this
  rcases this with h | h
  ·omega
  ·exact h
 omega
def c1I (on off : Int) (l : List Smp) : List Int := Lib.compact (T5 (a2S on off l l.length))
theorem b8H {kd lim db on off un : Int} {l : List Smp} (hs : ∀ x ∈ l, 0 <= x.a ∧ x.a <= 345686400000) (hp : l.Pairwise (fun x y => x.a < y.a)) (hdb : 0 <= db) (hon : 0 <= on) (hoff : 0 <= off) (hun : un <= 345686400000) : d2C kd lim db on off un l (c1I on off l) = b0z kd lim db on off un l :=
 c5g hs hp hdb hon hoff hun (fun t => by unfold c1I; rw [b1P, a2W]) (b0a (b9d _))
theorem b5N : FCM Tryz.prog 105 ⟨[], [(1000000, a4X)]⟩ [.one (.ow 1000000 0)] (fun H r => H = ⟨[], [(1000000, a4X)]⟩ ∧ r = .one (.ow 1000000 0)) := by
 refine fmE Tryz.func105 (aM [] [1000000] [[0],[0,8],[2],[0,3],[0,3,13],[0,3,25],[0,3,4],[0,3,4,5],[0,3,4,5,32],[0,3,4,5,44],[0,3,4,5],[0,3,4,5],[0,3,4,5],[0,3],[2],[0,3],[2]]) ⟨[], [], [1000000]⟩ ?_
 exact qt
theorem a5Q (l : List Int) (hsz : l.length <= 9223372036854775807) : FCM Tryz.prog 105 ⟨[], [(1000000, a2j l)]⟩ [.one (.ow 1000000 0)] (fun H r => H = ⟨[], [(1000000, a2j (Lib.compact l))]⟩ ∧ r = .one (.ow 1000000 0)) := by
 by_cases h : l = []
 ·subst h; exact b5N
 ·exact a4A l h hsz
theorem a8X (kb tb pb : ByteArray) (lt : Bool) (kd lim db on off pr : Int) (s : Smp) (hs : S8 s) (h1 : -1000000 <= lim ∧ lim <= 1000000) (h2 : 0 <= db ∧ db <= 2000000) : FC Tryz.prog 103 none [b6K kb tb pb lt kd lim db on off pr, c6W s] (fun _ r => r = .tu [bv (q7 kd lim db s).1, bv (q7 kd lim db s).2]) := by
 refine fcE Tryz.func103 (aM [2,3] [] [[2,3],[2,3,6],[2,3,6,11],[2,3,6,11,12]] ++ aL [[4,5]] ++ aM [2,3] [] [[2,3,6,33]] ++ aL [[4,5],[4,5]]) ?_
 unfold q7
 by_cases c1 : kd = 1
 ·rw [if_pos c1]
  by_cases c2 : s.q = 2
  ·rw [decide_eq_false (fun h => h.1 c2), decide_eq_false (fun h => h.1 c2)]
   exact qt
  ·refine qv ?_
   exact X5 (J7 (by simp [c2])) (J7 (by simp [c2]))
 rw [if_neg c1]
 by_cases c3 : kd = 2
 ·rw [if_pos c3]
  by_cases c2 : s.q = 2
  ·rw [decide_eq_false (fun h => h.1 c2), decide_eq_false (fun h => h.1 c2)]
   exact qt
  ·refine qv ?_
   exact X5 (J7 (by simp [c2])) (J7 (by simp [c2]))
 rw [if_neg c3]
 by_cases c2 : s.q = 2
 ·rw [decide_eq_true c2, decide_eq_false (fun h => h c2)]
  refine qv ?_
  simp [c2]
 ·rw [decide_eq_false c2, decide_eq_true c2]
  refine qv ?_
  simp [c2]
theorem c7B (kb tb pb : ByteArray) (lt : Bool) (kd lim db on off pr : Int) (s : Smp) (hs : S8 s) (h1 : -1000000 <= lim ∧ lim <= 1000000) (h2 : 0 <= db ∧ db <= 2000000) : FC Tryz.prog 102 none [c6W s, .one (.ep (b0R kb tb pb lt kd lim db on off pr))] (fun _ r => r = bv (q7 kd lim db s).1) := by
 refine fcE Tryz.func102 (aM [2] [] [[1,2]] ++ aL [[4],[3]]) ?_
 have hc := a8X kb tb pb lt kd lim db on off pr s hs h1 h2
 generalize q7 kd lim db s = p at *
 unfold b0R
 refine qc hc ?_
 exact qt
theorem c7P (kb tb pb : ByteArray) (lt : Bool) (kd lim db on off pr : Int) (s : Smp) (hs : S8 s) (h1 : -1000000 <= lim ∧ lim <= 1000000) (h2 : 0 <= db ∧ db <= 2000000) : FC Tryz.prog 104 none [c6W s, .one (.ep (b0R kb tb pb lt kd lim db on off pr))] (fun _ r => r = bv (q7 kd lim db s).2) := by
 refine fcE Tryz.func104 (aM [2] [] [[1,2]] ++ aL [[5],[3]]) ?_
 have hc := a8X kb tb pb lt kd lim db on off pr s hs h1 h2
 generalize q7 kd lim db s = p at *
 unfold b0R
 refine qc hc ?_
 exact qt
def d1E (cl : FuncId) (cs : List Cel) (l : List Smp) (at_ : Int) (i o : Int) : AS := ⟨m7 [(1, iv at_), (2, .one (.fn cl [.ep cs])), (7, iv o), (10, Z4 false l), (11, iv l.length), (12, iv i)], f7 [], f7 []⟩
theorem a9l (cl : FuncId) (cs : List Cel) (p : Smp -> Bool) (l : List Smp) (hg : Good l) (at_ : Int) (hcl : ∀ x ∈ l, FC Tryz.prog cl none [c6W x, .one (.ep cs)] (fun _ r => r = bv (p x))) : FC Tryz.prog 106 none [Z4 false l, iv at_, .one (.fn cl [.ep cs])] (fun _ r => r = iv (H8 p at_ (-1) l)) := by
 refine fcE Tryz.func106 (aL [[0,1,2],[0,1,2,7],[1,2,7,10,11,12],[1,2,7,10,11,12,13]] ++ aM [9] [] [[1,2,7,9,10,11,12],[1,2,7,9,10,11,12,16],[1,2,7,9,10,11,12,21]] ++ aL [[1,2,7,10,11,12]] ++ aM [9] [] [[1,2,7,9,10,11,12,26]] ++ aL [[1,2,7,10,11,12],[1,2,7,10,11,12],[6]]) ?_
 have hl := hg.len
 refine qv ?_
 refine j7 (d1E cl cs l at_) (fun i o => 0 <= i ∧ i <= l.length ∧ H8 p at_ o (l.drop i.toNat) = H8 p at_ (-1) l) (fun i _ => (l.length - i).toNat) 0 (-1) ⟨by omega, by omega, rfl⟩ rfl ?_
 rintro i o ⟨g1, g2, g3⟩
 unfold d1E
 by_cases hi : i < l.length
 ·rw [m5 l i.toNat (by omega), Z9] at g3
  have e2 : (i + 1).toNat = i.toNat + 1 := by omega
  rw [<- e2] at g3
  have hc := hcl _ (f8 l i.toNat (by omega))
  by_cases c1 : (l.getD i.toNat default).a > at_
  ·rw [if_pos c1] at g3
   refine qv ?_
   exact ⟨i + 1, o, rfl, ⟨by omega, by omega, g3⟩, by omega⟩
  ·rw [if_neg c1] at g3
   refine qc hc ?_
   cases hp : p (l.getD i.toNat default) with
   | false =>
    rw [hp, if_pos rfl] at g3
    refine qv ?_
    exact ⟨i + 1, -1, rfl, ⟨by omega, by omega, g3⟩, by omega⟩
   | true =>
    rw [hp, if_neg (by simp)] at g3
    by_cases c2 : o < 0
    ·rw [if_pos c2] at g3
     refine qv ?_
     exact ⟨i + 1, _, rfl, ⟨by omega, by omega, g3⟩, by omega⟩
    ·rw [if_neg c2] at g3
     refine qv ?_
     exact ⟨i + 1, o, rfl, ⟨by omega, by omega, g3⟩, by omega⟩
 ·rw [List.drop_eq_nil_of_le (by omega), H8] at g3
  rw [<- g3]
  exact qt
theorem a1U {p : Smp -> Bool} {T : Int} : ∀ (l : List Smp) (o : Int), (∀ s ∈ l, 0 <= s.a ∧ s.a <= 345686400000) -> (-1 <= o ∧ o <= 345686400000) -> -1 <= H8 p T o l ∧ H8 p T o l <= 345686400000
 | [], o, _, h => h
 | s :: r, o, h1, h2 => by
  have hs := h1 s (by simp)
  rw [Z9]
  refine a1U r _ (fun x hx => h1 x (by simp [hx])) ?_
  split
  ·exact h2
  ·split
   ·omega
   ·split <;> omega
theorem b8C {l : List Smp} (hg : Good l) : ∀ x ∈ l, S8 x := fun x hx => by
 obtain ⟨i, hi, rfl⟩ := List.mem_iff_getElem.1 hx
 have := hg.ok i hi
 rwa [show l.getD i default = l[i] by simp [List.getD_eq_getElem?_getD, hi]] at this
theorem c5S {l : List Smp} (hg : Good l) : l.Pairwise (fun x y => x.a < y.a) := by
 refine List.pairwise_iff_getElem.2 fun i j hi hj hij => ?_
 have := hg.up i j hij hj
 rwa [show l.getD i default = l[i] by simp [List.getD_eq_getElem?_getD, hi], show l.getD j default = l[j] by simp [List.getD_eq_getElem?_getD, hj]] at this
def d0s (kb tb pb : ByteArray) (lt : Bool) (kd lim db on off pr un : Int) (l : List Smp) (i : Int) (T : List Int) : AS := ⟨m7 [(1, Z4 false l), (2, iv un), (3, .one (.bx 3 0)), (7, .one (.ow 7 0)), (18, Z4 false l), (19, iv l.length), (20, iv i)], f7 [(3, b0R kb tb pb lt kd lim db on off pr)], f7 [(7, a2j T)]⟩
def c8a (kb tb pb : ByteArray) (lt : Bool) (kd lim db on off pr un : Int) (l : List Smp) (C : List Int) (j : Int) (out : List (Int × Int)) (act : Bool) : AS := ⟨m7 [(1, Z4 false l), (2, iv un), (3, .one (.bx 3 0)), (10, .one (.fn 102 [.bx 3 0])), (11, .one (.fn 104 [.bx 3 0])), (12, .one (.ow 12 0)), (13, bv act), (45, W0 true C), (46, iv C.length), (47, iv j)], f7 [(3, b0R kb tb pb lt kd lim db on off pr)], f7 [(12, B4 out)]⟩
theorem a1f (kb tb pb : ByteArray) (lt : Bool) (kd lim db on off pr un : Int) (l : List Smp) (hg : Good l) (hlim : -1000000 <= lim ∧ lim <= 1000000) (hdb : 0 <= db ∧ db <= 2000000) (hon : 0 <= on ∧ on <= 86400000) (hoff : 0 <= off ∧ off <= 86400000) (hun : 0 <= un ∧ un <= 345686400000) :
  FC Tryz.prog 65 none [b6K kb tb pb lt kd lim db on off pr, Z4 false l, iv un] (fun _ r => r = a0C true (b0z kd lim db on off un l)) := by
 refine fcE Tryz.func65 ([aN [1,2,3] [3] [],⟨(kP [1,2,3,7] [3] []),[(7,3,1)],[],[],[]⟩,aN [1,2,3,7,18,19,20] [3] [7],aN [1,2,3,7,18,19,20,21] [3] [7],aN [1,2,3,7,9,18,19,20] [3,9] [7],aN [1,2,3,7,18,19,20] [3] [7],aN [1,2,3,7,18,19,20] [3] [7],⟨(kP [1,2,3,7] [3] [7]),[],[],[],[(41,⟨[],[7],[],[7],[7]⟩)]⟩,aN [1,2,3,7,10] [3] [7],aN [1,2,3,7,10,11] [3] [7],⟨(kP [1,2,3,7,10,11,12] [3] [7]),[(12,34,2)],[],[],[]⟩,aN [1,2,3,7,10,11,12,13] [3] [7,12],⟨(kP [1,2,3,10,11,12,13,45,46,47] [3] [12]),[],[],[],[(45,⟨[],[7],[],[7],[]⟩)]⟩] ++ aM [3] [12] [[1,2,3,10,11,12,13,45,46,47,48],[1,2,3,10,11,12,13,15,45,46,47],[1,2,3,10,11,12,13,15,45,46,47,53],[1,2,3,10,11,12,13,15,16,17,45,46,47],[1,2,3,10,11,12,13,15,17,45,46,47,62],[1,2,3,10,11,12,45,46,47],[1,2,3,10,11,12,13,45,46,47],[1,2,3,10,11,12,13,15,45,46,47,83],[1,2,3,10,11,12,45,46,47],[1,2,3,10,11,12,13,45,46,47],[1,2,3,10,11,12,13,45,46,47]] ++ [aN [6] [] []]) ?_
 have hlen := hg.len
 have hok := b8C hg
 have hsr : ∀ x ∈ l, 0 <= x.a ∧ x.a <= 345686400000 := fun x hx => by have := hok x hx; unfold S8 at this; omega
 have hrw := b8H (kd := kd) (lim := lim) (db := db) (un := un) hsr (c5S hg) hdb.1 hon.1 hoff.1 hun.2
 unfold d2C at hrw
 refine qv ?_
 refine l0 (fun i => d0s kb tb pb lt kd lim db on off pr un l i (a2S on off l i.toNat)) (fun i => 0 <= i ∧ i <= l.length) (fun i => (l.length - i).toNat) 0 ⟨by omega, by omega⟩ rfl ?_
 rintro i ⟨g1, g2⟩
 have tl := a9b on off l i.toNat
 unfold d0s b0R
 by_cases hi : i < l.length
 ·have e2 : (i + 1).toNat = i.toNat + 1 := by omega
  have ho := hsr _ (f8 l i.toNat (by omega))
  have e3 : a2S on off l (i + 1).toNat = a2S on off l i.toNat ++ [(l.getD i.toNat default).a, (l.getD i.toNat default).a + on, (l.getD i.toNat default).a + off] := by rw [e2, a2S]
  refine qv ?_
  exact ⟨i + 1, by simp only [e3, a2j, List.map_append, List.map_cons, List.map_nil, a0i], ⟨by omega, by omega⟩, by omega⟩
 ·have hil : i.toNat = l.length := by omega
  rw [hil] at tl ⊢
  have hso := Z0 (a2S on off l l.length) (by omega)
  have hsl : (T5 (a2S on off l l.length)).length = (a2S on off l l.length).length := List.length_mergeSort _
  have hco := a5Q (T5 (a2S on off l l.length)) (by omega)
  have hCr : ∀ d ∈ c1I on off l, 0 <= d ∧ d <= 345772800000 := fun d hd => by
   unfold c1I at hd
   rw [b1P, a2W] at hd
   obtain ⟨i, hi, h⟩ := (a0N on off l d _).1 hd
   have := hsr _ (f8 l i hi)
   omega
  have hCl : (c1I on off l).length <= 15000 := by
   have := Lib.compact_length_le (T5 (a2S on off l l.length))
   unfold c1I; omega
  have hCd : Lib.compact (T5 (a2S on off l l.length)) = c1I on off l := rfl
  rw [hCd] at hco
  generalize c1I on off l = C at *
  refine qv ?_
  refine ⟨rfl, C5 ⟨[], [(7, a2j (T5 (a2S on off l l.length)))]⟩ (.tu []) (fun k => k) (swp 7 1000000) (fun _ => rfl) (s8 7 1000000) hso (by simp) rfl rfl rfl rfl rfl ⟨rfl, rfl⟩ ?_⟩
  refine qv ?_
  refine ⟨rfl, a4z ⟨[], [(7, a2j C)]⟩ (.one (.ow 7 0)) (fun k => k) (swp 7 1000000) (fun _ => rfl) (s8 7 1000000) hco (by simp) rfl rfl rfl rfl ⟨rfl, rfl⟩ ?_⟩
  refine qv ?_
  refine F4 (c8a kb tb pb lt kd lim db on off pr un l C) (fun j out act => 0 <= j ∧ j <= C.length ∧ out.length <= j ∧ (act = true -> 1 <= out.length) ∧ c0M on off un (fun s => (q7 kd lim db s).1) (fun s => (q7 kd lim db s).2) l (C.drop j.toNat) (out, act) = b0z kd lim db on off un l) (fun j _ _ => (C.length - j).toNat) 0 [] false ⟨by omega, by omega, by simp, by simp, hrw⟩ rfl ?_
  rintro j out act ⟨h1, h2, h3, h4, h5⟩
  unfold c8a b0R
  by_cases hj : j < C.length
  ·have e2 : (j + 1).toNat = j.toNat + 1 := by omega
   have hcr := hCr _ (f8 C j.toNat (by omega))
   rw [m5 C j.toNat (by omega), <- e2, c0M] at h5
   by_cases cu : (C.getD j.toNat default) >= un
   ·rw [if_pos cu] at h5
    rw [<- h5]
    exact qt
   ·rw [if_neg cu] at h5
    have hX := a9l 102 (b0R kb tb pb lt kd lim db on off pr) (fun s => (q7 kd lim db s).1) l hg (C.getD j.toNat default) (fun x hx => c7B kb tb pb lt kd lim db on off pr x (hok x hx) hlim hdb)
    have hY := a9l 104 (b0R kb tb pb lt kd lim db on off pr) (fun s => (q7 kd lim db s).2) l hg (C.getD j.toNat default) (fun x hx => c7P kb tb pb lt kd lim db on off pr x (hok x hx) hlim hdb)
    have rX := a1U (p := fun s => (q7 kd lim db s).1) (T := (C.getD j.toNat default)) l (-1) hsr (by omega)
    have rY := a1U (p := fun s => (q7 kd lim db s).2) (T := (C.getD j.toNat default)) l (-1) hsr (by omega)
    generalize H8 (fun s => (q7 kd lim db s).1) (C.getD j.toNat default) (-1) l = o1 at *
    generalize H8 (fun s => (q7 kd lim db s).2) (C.getD j.toNat default) (-1) l = o2 at *
    unfold b0R at hX hY
    unfold Q5 at h5
    refine qc hX ?_
    refine qc hY ?_
    cases act with
    | false =>
     by_cases c1 : 0 <= o1 ∧ (C.getD j.toNat default) - o1 >= on
     ·rw [if_pos ⟨rfl, c1⟩] at h5
      refine qv ?_
      refine ⟨j + 1, out ++ [((C.getD j.toNat default), un)], true, ?_, ⟨by omega, by omega, by simp; omega, fun _ => by simp, h5⟩, by omega⟩
      simp only [B4, List.map_append, List.map_cons, List.map_nil, T0]
     ·rw [if_neg (show ¬((out, false).2 = false ∧ 0 <= o1 ∧ (C.getD j.toNat default) - o1 >= on) from fun h => c1 h.2), if_neg (show ¬((out, false).2 = true ∧ 0 <= o2 ∧ (C.getD j.toNat default) - o2 >= off) from fun h => by cases h.1)] at h5
      by_cases c2 : 0 <= o1
      ·refine qv ?_
       exact ⟨j + 1, out, false, rfl, ⟨by omega, by omega, by omega, by simp, h5⟩, by omega⟩
      ·refine qv ?_
       exact ⟨j + 1, out, false, rfl, ⟨by omega, by omega, by omega, by simp, h5⟩, by omega⟩
    | true =>
     have h4 := h4 rfl
     rw [if_neg (show ¬((out, true).2 = false ∧ 0 <= o1 ∧ (C.getD j.toNat default) - o1 >= on) from fun h => by cases h.1)] at h5
     by_cases c1 : 0 <= o2 ∧ (C.getD j.toNat default) - o2 >= off
     ·rw [if_pos ⟨rfl, c1⟩] at h5
      refine qv ?_
      refine ⟨j + 1, O0 out (C.getD j.toNat default), false, ?_, ⟨by omega, by omega, by rw [B2]; omega, by simp, h5⟩, by omega⟩
      simp only [B4, I0]
     ·rw [if_neg (show ¬((out, true).2 = true ∧ 0 <= o2 ∧ (C.getD j.toNat default) - o2 >= off) from fun h => c1 h.2)] at h5
      by_cases c2 : 0 <= o2
      ·refine qv ?_
       exact ⟨j + 1, out, true, rfl, ⟨by omega, by omega, by omega, fun _ => h4, h5⟩, by omega⟩
      ·refine qv ?_
       exact ⟨j + 1, out, true, rfl, ⟨by omega, by omega, by omega, fun _ => h4, h5⟩, by omega⟩
  ·rw [List.drop_eq_nil_of_le (by omega), c0M] at h5
   rw [<- h5]
   exact qt
end Go.Proofs.YtnlafmigfjlnnaaGreatDoor

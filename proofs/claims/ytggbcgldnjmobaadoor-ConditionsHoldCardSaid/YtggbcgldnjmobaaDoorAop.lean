
/-
  When an alarm is active, asked at each moment at which something can change. Plain Lean.
-/
import Derived.Test.YtggbcgldnjmobaaDoorActb
import Derived.Lib.SlicesCompact
namespace Go.Proofs.YtggbcgldnjmobaaDoor
open Go Go.Ai
set_option linter.unusedSimpArgs false
set_option linter.unusedVariables false
set_option maxHeartbeats 4000000
/-- Since when something is so, of the samples up to a moment; -1: it is not. -/
def sinGo (p : Smp → Bool) (at_ : Int) : Int → List Smp → Int
  | o, [] => o
  | o, s :: r => sinGo p at_ (if s.a > at_ then o else if p s = false then -1 else if o < 0 then s.a else o) r
def rfStep (on off un : Int) (T o1 o2 : Int) (z : List (Int × Int) × Bool) : List (Int × Int) × Bool :=
  if z.2 = false ∧ 0 ≤ o1 ∧ T - o1 ≥ on then (z.1 ++ [(T, un)], true) else if z.2 = true ∧ 0 ≤ o2 ∧ T - o2 ≥ off then (setTo z.1 T, false) else z
/-- The reference: moment by moment. -/
def rfGo (on off un : Int) (X Y : Smp → Bool) (l : List Smp) : List Int → List (Int × Int) × Bool → List (Int × Int)
  | [], z => z.1
  | T :: r, z => if T ≥ un then z.1 else rfGo on off un X Y l r (rfStep on off un T (sinGo X T (-1) l) (sinGo Y T (-1) l) z)
section
variable {on off un : Int} {X Y : Smp → Bool}
def nxL : List Smp → Int
  | [] => 345686400000
  | y :: _ => y.a
/-- What has happened before T. -/
def actT (on off un : Int) (X Y : Smp → Bool) (T : Int) : List Smp → ActX → ActX
  | [], s => s
  | x :: r, s => if x.a < T then actT on off un X Y T r (actOn on off un (min (nxL r) T) x.a (X x) (Y x) s) else s
theorem sinGo_late {p : Smp → Bool} {T : Int} : ∀ (l : List Smp) (o : Int), (∀ s ∈ l, T < s.a) → sinGo p T o l = o
  | [], o, _ => rfl
  | s :: r, o, h => by
    have hs := h s (by simp)
    rw [sinGo, if_pos (by omega)]
    exact sinGo_late r o fun x hx => h x (by simp [hx])
theorem actT_late {T : Int} : ∀ (l : List Smp) (s : ActX), (∀ x ∈ l, T ≤ x.a) → actT on off un X Y T l s = s
  | [], _, _ => rfl
  | x :: r, s, h => by
    have := h x (by simp)
    rw [actT, if_neg (by omega)]
/-- What runs on: since when, if it does. -/
structure Lnk (s : ActX) (o1 o2 : Int) (A : Int → Prop) : Prop where
  l1 : o1 = if s.h1 = true then s.t1 else -1
  l2 : o2 = if s.h2 = true then s.t2 else -1
  p1 : s.h1 = true → 0 ≤ s.t1 ∧ A s.t1
  p2 : s.h2 = true → 0 ≤ s.t2 ∧ A s.t2
theorem lnk_step {s : ActX} {o1 o2 nx : Int} {A : Int → Prop} (h : Lnk s o1 o2 A) (x : Smp) (h0 : 0 ≤ x.a) (hA : A x.a) : Lnk (actOn on off un nx x.a (X x) (Y x) s) (if X x = false then -1 else if o1 < 0 then x.a else o1) (if Y x = false then -1 else if o2 < 0 then x.a else o2) A := by
  obtain ⟨l1, l2, p1, p2⟩ := h
  obtain ⟨out, act, t1, t2, h1, h2⟩ := s
  simp only at l1 l2 p1 p2
  unfold actOn
  refine ⟨?_, ?_, ?_, ?_⟩
  · cases X x <;> cases h1 <;> simp_all <;> omega
  · cases Y x <;> cases h2 <;> simp_all <;> omega
  · simp only
    cases X x <;> cases h1 <;> simp_all
  · simp only
    cases Y x <;> cases h2 <;> simp_all
def oa (s : ActX) : List (Int × Int) × Bool := (s.out, s.act)
def zT (on off un T a : Int) (x y : Bool) (s : ActX) : ActX := if a < T then actOn on off un T a x y s else s
theorem oa_if {p : Prop} [Decidable p] {s t : ActX} : oa (if p then s else t) = if p then oa s else oa t := by split <;> rfl
theorem one_x {a T : Int} {out : List (Int × Int)} {act : Bool} {t1 t2 : Int} {h1 h2 : Bool} (ha : a ≤ T) (h0 : 0 ≤ (if h1 = false then a else t1)) :
    oa (actOn on off un (T + 1) a true false ⟨out, act, t1, t2, h1, h2⟩) = (if T < un then rfStep on off un T (if h1 = false then a else t1) (-1) (oa (zT on off un T a true false ⟨out, act, t1, t2, h1, h2⟩)) else oa (zT on off un T a true false ⟨out, act, t1, t2, h1, h2⟩)) ∧
    (a ≠ T → T ≠ (if h1 = false then a else t1) + on → oa (actOn on off un (T + 1) a true false ⟨out, act, t1, t2, h1, h2⟩) = oa (zT on off un T a true false ⟨out, act, t1, t2, h1, h2⟩)) := by
  unfold zT
  rw [actOn_x, actOn_x]
  generalize (if h1 = false then a else t1) = t at *
  unfold rfStep
  cases act with
  | true =>
    simp only [Bool.true_eq_false, false_and, if_false]
    have ez : oa (if a < T then (⟨out, true, t, t2, true, false⟩ : ActX) else ⟨out, true, t1, t2, h1, h2⟩) = (out, true) := by split <;> rfl
    rw [ez]
    simp only [Bool.true_eq_false, false_and, if_false]
    rw [if_neg (show ¬(True ∧ (0 : Int) ≤ -1 ∧ T - -1 ≥ off) by omega)]
    exact ⟨by split <;> rfl, fun _ _ => rfl⟩
  | false =>
    simp only [true_and]
    by_cases c1 : a < T ∧ max a (t + on) < T ∧ max a (t + on) < un
    · rw [if_pos c1.1, if_pos c1.2, if_pos (show max a (t + on) < T + 1 ∧ max a (t + on) < un by omega)]
      simp [oa]
    · have ez : oa (if a < T then (if max a (t + on) < T ∧ max a (t + on) < un then (⟨out ++ [(max a (t + on), un)], true, t, t2, true, false⟩ : ActX) else ⟨out, false, t, t2, true, false⟩) else ⟨out, false, t1, t2, h1, h2⟩) = (out, false) := by
        by_cases c2 : a < T
        · rw [if_pos c2, if_neg (fun h => c1 ⟨c2, h⟩)]; rfl
        · rw [if_neg c2]; rfl
      rw [ez]
      by_cases c3 : max a (t + on) < T + 1 ∧ max a (t + on) < un
      · have e : max a (t + on) = T := by omega
        rw [if_pos c3, if_pos (show T < un by omega), if_pos (show (out, false).2 = false ∧ 0 ≤ t ∧ T - t ≥ on from ⟨rfl, h0, by omega⟩), e]
        refine ⟨rfl, fun n1 n2 => ?_⟩
        omega
      · rw [if_neg c3]
        refine ⟨?_, fun _ _ => rfl⟩
        by_cases c4 : T < un
        · rw [if_pos c4, if_neg (by rintro ⟨_, _, h⟩; omega), if_neg (by rintro ⟨h, _⟩; cases h)]; rfl
        · rw [if_neg c4]; rfl
theorem one_y {a T : Int} {out : List (Int × Int)} {act : Bool} {t1 t2 : Int} {h1 h2 : Bool} (ha : a ≤ T) (h0 : 0 ≤ (if h2 = false then a else t2)) :
    oa (actOn on off un (T + 1) a false true ⟨out, act, t1, t2, h1, h2⟩) = (if T < un then rfStep on off un T (-1) (if h2 = false then a else t2) (oa (zT on off un T a false true ⟨out, act, t1, t2, h1, h2⟩)) else oa (zT on off un T a false true ⟨out, act, t1, t2, h1, h2⟩)) ∧
    (a ≠ T → T ≠ (if h2 = false then a else t2) + off → oa (actOn on off un (T + 1) a false true ⟨out, act, t1, t2, h1, h2⟩) = oa (zT on off un T a false true ⟨out, act, t1, t2, h1, h2⟩)) := by
  unfold zT
  rw [actOn_y, actOn_y]
  generalize (if h2 = false then a else t2) = t at *
  unfold rfStep
  cases act with
  | false =>
    simp only [Bool.false_eq_true, false_and, if_false]
    have ez : oa (if a < T then (⟨out, false, t1, t, false, true⟩ : ActX) else ⟨out, false, t1, t2, h1, h2⟩) = (out, false) := by split <;> rfl
    rw [ez]
    simp only [Bool.false_eq_true, false_and, if_false]
    rw [if_neg (show ¬(True ∧ (0 : Int) ≤ -1 ∧ T - -1 ≥ on) by omega)]
    exact ⟨by split <;> rfl, fun _ _ => rfl⟩
  | true =>
    simp only [true_and]
    by_cases c1 : a < T ∧ max a (t + off) < T ∧ max a (t + off) < un
    · rw [if_pos c1.1, if_pos c1.2, if_pos (show max a (t + off) < T + 1 ∧ max a (t + off) < un by omega)]
      simp [oa]
    · have ez : oa (if a < T then (if max a (t + off) < T ∧ max a (t + off) < un then (⟨setTo out (max a (t + off)), false, t1, t, false, true⟩ : ActX) else ⟨out, true, t1, t, false, true⟩) else ⟨out, true, t1, t2, h1, h2⟩) = (out, true) := by
        by_cases c2 : a < T
        · rw [if_pos c2, if_neg (fun h => c1 ⟨c2, h⟩)]; rfl
        · rw [if_neg c2]; rfl
      rw [ez]
      by_cases c3 : max a (t + off) < T + 1 ∧ max a (t + off) < un
      · have e : max a (t + off) = T := by omega
        rw [if_pos c3, if_pos (show T < un by omega), if_neg (by rintro ⟨h, _⟩; cases h), if_pos (show (out, true).2 = true ∧ 0 ≤ t ∧ T - t ≥ off from ⟨rfl, h0, by omega⟩), e]
        refine ⟨rfl, fun n1 n2 => ?_⟩
        omega
      · rw [if_neg c3]
        refine ⟨?_, fun _ _ => rfl⟩
        by_cases c4 : T < un
        · rw [if_pos c4, if_neg (by rintro ⟨h, _⟩; cases h), if_neg (by rintro ⟨_, _, h⟩; omega)]; rfl
        · rw [if_neg c4]; rfl
theorem one_n {a T : Int} {s : ActX} : oa (actOn on off un (T + 1) a false false s) = oa (zT on off un T a false false s) ∧ rfStep on off un T (-1) (-1) (oa (zT on off un T a false false s)) = oa (zT on off un T a false false s) := by
  obtain ⟨out, act, t1, t2, h1, h2⟩ := s
  unfold zT
  rw [actOn_n, actOn_n]
  constructor
  · split <;> rfl
  · unfold rfStep
    rw [if_neg (by rintro ⟨_, h, _⟩; omega), if_neg (by rintro ⟨_, h, _⟩; omega)]
/-- One moment further. -/
def Mom (on off : Int) (A : Int → Prop) (T : Int) : Prop := A T ∨ ∃ a, A a ∧ (T = a + on ∨ T = a + off)
theorem sinGo_cons {p : Smp → Bool} {T o : Int} {s : Smp} {r : List Smp} : sinGo p T o (s :: r) = sinGo p T (if s.a > T then o else if p s = false then -1 else if o < 0 then s.a else o) r := rfl
theorem sinGo_on {p : Smp → Bool} {T o : Int} {s : Smp} {r : List Smp} (h : s.a ≤ T) : sinGo p T o (s :: r) = sinGo p T (if p s = false then -1 else if o < 0 then s.a else o) r := by
  rw [sinGo_cons, if_neg (show ¬s.a > T by omega)]
theorem act_step {T : Int} {A : Int → Prop} (hT : T < 345686400000) (hXY : ∀ s, ¬(X s = true ∧ Y s = true)) : ∀ (l : List Smp) (s : ActX) (o1 o2 : Int), Lnk s o1 o2 A → (∀ x ∈ l, 0 ≤ x.a ∧ A x.a) → l.Pairwise (fun x y => x.a < y.a) → (∃ x r, l = x :: r ∧ x.a ≤ T) →
    oa (actT on off un X Y (T + 1) l s) = (if T < un then rfStep on off un T (sinGo X T o1 l) (sinGo Y T o2 l) (oa (actT on off un X Y T l s)) else oa (actT on off un X Y T l s)) ∧
    (¬Mom on off A T → oa (actT on off un X Y (T + 1) l s) = oa (actT on off un X Y T l s))
  | [], _, _, _, _, _, _, h => by obtain ⟨x, r, h, _⟩ := h; cases h
  | x :: r, s, o1, o2, L, hA, hp, h => by
    obtain ⟨x', r', he, hxT⟩ := h
    injection he with he1 he2
    subst he1; subst he2
    obtain ⟨hp1, hp2⟩ := List.pairwise_cons.1 hp
    have hx := hA x (by simp)
    by_cases hr : ∃ y r', r = y :: r' ∧ y.a ≤ T
    · obtain ⟨y, r', rfl, hy⟩ := hr
      have hxy := hp1 y (by simp)
      have L' := lnk_step (on := on) (off := off) (un := un) (X := X) (Y := Y) (nx := y.a) L x hx.1 hx.2
      have ih := act_step hT hXY (y :: r') (actOn on off un y.a x.a (X x) (Y x) s) _ _ L' (fun z hz => hA z (List.mem_cons_of_mem _ hz)) hp2 ⟨y, r', rfl, hy⟩
      have e1 : actT on off un X Y (T + 1) (x :: y :: r') s = actT on off un X Y (T + 1) (y :: r') (actOn on off un y.a x.a (X x) (Y x) s) := by
        rw [actT, if_pos (by omega)]
        have : min (nxL (y :: r')) (T + 1) = y.a := by simp only [nxL]; omega
        rw [this]
      have e2 : actT on off un X Y T (x :: y :: r') s = actT on off un X Y T (y :: r') (actOn on off un y.a x.a (X x) (Y x) s) := by
        rw [actT, if_pos (by omega)]
        have : min (nxL (y :: r')) T = y.a := by simp only [nxL]; omega
        rw [this]
      rw [e1, e2, sinGo_on (show x.a ≤ T by omega), sinGo_on (show x.a ≤ T by omega)]
      exact ih
    · have hl : ∀ y ∈ r, T + 1 ≤ y.a := fun y hy => by
        cases r with
        | nil => cases hy
        | cons z r' =>
          have hz : ¬z.a ≤ T := fun h => hr ⟨z, r', rfl, h⟩
          rcases List.mem_cons.1 hy with rfl | hy
          · omega
          · have := (List.pairwise_cons.1 hp2).1 y hy; omega
      have hn : T + 1 ≤ nxL r := by
        cases r with
        | nil => simp only [nxL]; omega
        | cons z r' => exact hl z (by simp)
      have e1 : actT on off un X Y (T + 1) (x :: r) s = actOn on off un (T + 1) x.a (X x) (Y x) s := by
        rw [actT, if_pos (by omega), actT_late r _ hl, show min (nxL r) (T + 1) = T + 1 by omega]
      have e2 : actT on off un X Y T (x :: r) s = zT on off un T x.a (X x) (Y x) s := by
        unfold zT
        rw [actT]
        by_cases hc : x.a < T
        · rw [if_pos hc, if_pos hc, actT_late r _ (fun y hy => by have := hl y hy; omega), show min (nxL r) T = T by omega]
        · rw [if_neg hc, if_neg hc]
      rw [e1, e2, sinGo_on hxT, sinGo_on hxT, sinGo_late r _ (fun y hy => by have := hl y hy; omega), sinGo_late r _ (fun y hy => by have := hl y hy; omega)]
      obtain ⟨l1, l2, p1, p2⟩ := L
      obtain ⟨out, act, t1, t2, h1, h2⟩ := s
      simp only at l1 l2 p1 p2
      have hxy := hXY x
      have ho1 : (if o1 < 0 then x.a else o1) = (if h1 = false then x.a else t1) := by
        cases h1 with
        | false => simp only [l1, Bool.false_eq_true, if_false, if_true]; rw [if_pos (by omega)]
        | true => have := (p1 rfl).1; simp only [l1, if_true, Bool.true_eq_false, if_false]; rw [if_neg (by omega)]
      have ho2 : (if o2 < 0 then x.a else o2) = (if h2 = false then x.a else t2) := by
        cases h2 with
        | false => simp only [l2, Bool.false_eq_true, if_false, if_true]; rw [if_pos (by omega)]
        | true => have := (p2 rfl).1; simp only [l2, if_true, Bool.true_eq_false, if_false]; rw [if_neg (by omega)]
      rw [ho1, ho2]
      have hmx : ¬Mom on off A T → x.a ≠ T := fun h e => h (.inl (e ▸ hx.2))
      cases hX : X x with
      | true =>
        have hY : Y x = false := by cases hY : Y x with | false => rfl | true => exact absurd ⟨hX, hY⟩ hxy
        rw [hY]
        simp only [Bool.true_eq_false, if_false, if_true]
        have hh : 0 ≤ (if h1 = false then x.a else t1) ∧ A (if h1 = false then x.a else t1) := by
          cases h1 with
          | false => exact hx
          | true => exact p1 rfl
        have := one_x (on := on) (off := off) (un := un) (a := x.a) (T := T) (out := out) (act := act) (t1 := t1) (t2 := t2) (h1 := h1) (h2 := h2) hxT hh.1
        exact ⟨this.1, fun h => this.2 (hmx h) fun e => h (.inr ⟨_, hh.2, .inl e⟩)⟩
      | false =>
        cases hY : Y x with
        | true =>
          simp only [Bool.true_eq_false, if_false, if_true]
          have hh : 0 ≤ (if h2 = false then x.a else t2) ∧ A (if h2 = false then x.a else t2) := by
            cases h2 with
            | false => exact hx
            | true => exact p2 rfl
          have := one_y (on := on) (off := off) (un := un) (a := x.a) (T := T) (out := out) (act := act) (t1 := t1) (t2 := t2) (h1 := h1) (h2 := h2) hxT hh.1
          exact ⟨this.1, fun h => this.2 (hmx h) fun e => h (.inr ⟨_, hh.2, .inr e⟩)⟩
        | false =>
          simp only [if_true]
          have := one_n (on := on) (off := off) (un := un) (a := x.a) (T := T) (s := ⟨out, act, t1, t2, h1, h2⟩)
          rw [this.2, this.1]
          exact ⟨by split <;> rfl, fun _ => rfl⟩
/-- Before the first sample nothing happens. -/
theorem act_step0 {T : Int} (l : List Smp) (hl : ∀ x ∈ l, T < x.a) :
    oa (actT on off un X Y (T + 1) l ⟨[], false, 0, 0, false, false⟩) = ([], false) ∧ oa (actT on off un X Y T l ⟨[], false, 0, 0, false, false⟩) = ([], false) ∧ rfStep on off un T (sinGo X T (-1) l) (sinGo Y T (-1) l) ([], false) = ([], false) := by
  rw [actT_late l _ (fun x hx => by have := hl x hx; omega), actT_late l _ (fun x hx => by have := hl x hx; omega), sinGo_late l _ hl, sinGo_late l _ hl]
  exact ⟨rfl, rfl, rfl⟩
def s00 : ActX := ⟨[], false, 0, 0, false, false⟩
theorem act_one {T : Int} {A : Int → Prop} (hT : T < 345686400000) (hXY : ∀ s, ¬(X s = true ∧ Y s = true)) (l : List Smp) (hA : ∀ x ∈ l, 0 ≤ x.a ∧ A x.a) (hp : l.Pairwise (fun x y => x.a < y.a)) :
    oa (actT on off un X Y (T + 1) l s00) = (if T < un then rfStep on off un T (sinGo X T (-1) l) (sinGo Y T (-1) l) (oa (actT on off un X Y T l s00)) else oa (actT on off un X Y T l s00)) ∧
    (¬Mom on off A T → oa (actT on off un X Y (T + 1) l s00) = oa (actT on off un X Y T l s00)) := by
  by_cases h : ∃ x r, l = x :: r ∧ x.a ≤ T
  · exact act_step hT hXY l s00 (-1) (-1) ⟨rfl, rfl, fun h => (by cases h), fun h => (by cases h)⟩ hA hp h
  · have hl : ∀ x ∈ l, T < x.a := by
      cases l with
      | nil => intro x hx; cases hx
      | cons y r =>
        have hy : ¬y.a ≤ T := fun h' => h ⟨y, r, rfl, h'⟩
        intro x hx
        rcases List.mem_cons.1 hx with rfl | hx
        · omega
        · have := (List.pairwise_cons.1 hp).1 x hx; omega
    obtain ⟨h1, h2, h3⟩ := act_step0 (on := on) (off := off) (un := un) (X := X) (Y := Y) l hl
    have e0 : s00 = ⟨[], false, 0, 0, false, false⟩ := rfl
    rw [← e0] at h1 h2
    rw [h1, h2, h3]
    exact ⟨by split <;> rfl, fun _ => rfl⟩
/-- From moment to moment: nothing happens between. -/
theorem act_flat {A : Int → Prop} (hXY : ∀ s, ¬(X s = true ∧ Y s = true)) (l : List Smp) (hA : ∀ x ∈ l, 0 ≤ x.a ∧ A x.a) (hp : l.Pairwise (fun x y => x.a < y.a)) : ∀ (n : Nat) (T : Int), T + n ≤ 345686400000 → (∀ t, T ≤ t → t < T + n → un ≤ t ∨ ¬Mom on off A t) → oa (actT on off un X Y (T + n) l s00) = oa (actT on off un X Y T l s00)
  | 0, T, _, _ => by rw [show T + (0 : Nat) = T by omega]
  | n + 1, T, h1, h2 => by
    have e : oa (actT on off un X Y (T + n + 1) l s00) = oa (actT on off un X Y (T + n) l s00) := by
      have h := act_one (on := on) (off := off) (un := un) (X := X) (Y := Y) (T := T + n) (A := A) (by omega) hXY l hA hp
      rcases h2 (T + n) (by omega) (by omega) with c | c
      · rw [h.1, if_neg (by omega)]
      · exact h.2 c
    rw [show T + (n + 1 : Nat) = T + n + 1 by omega, e]
    exact act_flat hXY l hA hp n T (by omega) (fun t a b => h2 t a (by omega))
/-- The reference over its moments. -/
theorem rfGo_is {A : Int → Prop} (hXY : ∀ s, ¬(X s = true ∧ Y s = true)) (l : List Smp) (hA : ∀ x ∈ l, 0 ≤ x.a ∧ A x.a) (hp : l.Pairwise (fun x y => x.a < y.a)) (hun : un ≤ 345686400000) : ∀ (ms : List Int) (T : Int), (∀ t ∈ ms, T ≤ t) → ms.Pairwise (· < ·) → T ≤ 345686400000 → (∀ t, T ≤ t → Mom on off A t → t ∈ ms) → rfGo on off un X Y l ms (oa (actT on off un X Y T l s00)) = (actT on off un X Y 345686400000 l s00).out
  | [], T, _, _, hT, hm => by
    rw [rfGo]
    have := act_flat (on := on) (off := off) (un := un) (X := X) (Y := Y) hXY l hA hp (345686400000 - T).toNat T (by omega) (fun t h1 h2 => .inr fun h => by have := hm t h1 h; cases this)
    rw [show T + ((345686400000 - T).toNat : Int) = 345686400000 by omega] at this
    rw [← this]; rfl
  | m :: ms, T, h1, h2, hT, hm => by
    have hm0 := h1 m (by simp)
    obtain ⟨h3, h4⟩ := List.pairwise_cons.1 h2
    rw [rfGo]
    have hno : ∀ t, T ≤ t → t < m → ¬Mom on off A t := fun t a b c => by
      rcases List.mem_cons.1 (hm t a c) with rfl | hc
      · omega
      · have := h3 t hc; omega
    by_cases hu : m ≥ un
    · rw [if_pos hu]
      have := act_flat (on := on) (off := off) (un := un) (X := X) (Y := Y) hXY l hA hp (345686400000 - T).toNat T (by omega) (fun t a b => by
        by_cases hc : un ≤ t
        · exact .inl hc
        · exact .inr (hno t a (by omega)))
      rw [show T + ((345686400000 - T).toNat : Int) = 345686400000 by omega] at this
      rw [← this]; rfl
    · rw [if_neg hu]
      have e1 := act_flat (on := on) (off := off) (un := un) (X := X) (Y := Y) hXY l hA hp (m - T).toNat T (by omega) (fun t a b => .inr (hno t a (by omega)))
      rw [show T + ((m - T).toNat : Int) = m by omega] at e1
      have e2 := (act_one (on := on) (off := off) (un := un) (X := X) (Y := Y) (T := m) (A := A) (by omega) hXY l hA hp).1
      rw [if_pos (by omega)] at e2
      rw [← e1, ← e2]
      exact rfGo_is hXY l hA hp hun ms (m + 1) (fun t ht => by have := h3 t ht; omega) h4 (by omega) (fun t a c => by
        rcases List.mem_cons.1 (hm t (by omega) c) with rfl | hc
        · omega
        · exact hc)
theorem actOn_late {nx a : Int} {x y : Bool} {s : ActX} (h : nx ≤ a) : (actOn on off un nx a x y s).out = s.out := by
  unfold actOn
  simp only []
  rw [if_neg (show ¬(x = true ∧ s.act = false ∧ max a ((if x = true ∧ s.h1 = false then a else s.t1) + on) < nx ∧ max a ((if x = true ∧ s.h1 = false then a else s.t1) + on) < un) by rintro ⟨_, _, h1, _⟩; omega), if_neg (show ¬(x = true ∧ s.act = false ∧ max a ((if x = true ∧ s.h1 = false then a else s.t1) + on) < nx ∧ max a ((if x = true ∧ s.h1 = false then a else s.t1) + on) < un) by rintro ⟨_, _, h1, _⟩; omega)]
  rw [if_neg (show ¬(y = true ∧ s.act = true ∧ max a ((if y = true ∧ s.h2 = false then a else s.t2) + off) < nx ∧ max a ((if y = true ∧ s.h2 = false then a else s.t2) + off) < un) by rintro ⟨_, _, h1, _⟩; omega)]
end
theorem actT_all {kd lim db on off un : Int} : ∀ (l : List Smp) (s : ActX), (∀ x ∈ l, x.a ≤ 345686400000) → l.Pairwise (fun x y => x.a < y.a) → (actT on off un (fun s => (hldSp kd lim db s).1) (fun s => (hldSp kd lim db s).2) 345686400000 l s).out = (actGo kd lim db on off un l s).out
  | [], s, _, _ => rfl
  | [x], s, h, _ => by
    rw [actT, actGo]
    have := h x (by simp)
    by_cases c : x.a < 345686400000
    · rw [if_pos c, actT]; rfl
    · rw [if_neg c, actOn_late (by omega)]
  | x :: y :: r, s, h, hp => by
    rw [actT, actGo]
    obtain ⟨hp1, hp2⟩ := List.pairwise_cons.1 hp
    have h1 := hp1 y (by simp)
    have h2 := h y (by simp)
    rw [if_pos (by omega), show min (nxL (y :: r)) 345686400000 = y.a by simp only [nxL]; omega]
    exact actT_all (y :: r) _ (fun z hz => h z (List.mem_cons_of_mem _ hz)) hp2
/-- The moments at which something can change. -/
def momN (on off : Int) (l : List Smp) : Nat → List Int
  | 0 => []
  | n + 1 => momN on off l n ++ [(l.getD n default).a, (l.getD n default).a + on, (l.getD n default).a + off]
theorem momN_len (on off : Int) (l : List Smp) : ∀ n, (momN on off l n).length = 3 * n
  | 0 => rfl
  | n + 1 => by rw [momN, List.length_append, momN_len on off l n]; simp; omega
theorem momN_mem (on off : Int) (l : List Smp) (t : Int) : ∀ n, t ∈ momN on off l n ↔ ∃ i, i < n ∧ (t = (l.getD i default).a ∨ t = (l.getD i default).a + on ∨ t = (l.getD i default).a + off)
  | 0 => by simp [momN]
  | n + 1 => by
    rw [momN, List.mem_append, momN_mem on off l t n]
    simp only [List.mem_cons, List.not_mem_nil, or_false]
    constructor
    · rintro (⟨i, h1, h2⟩ | h)
      · exact ⟨i, by omega, h2⟩
      · exact ⟨n, by omega, h⟩
    · rintro ⟨i, h1, h2⟩
      by_cases e : i = n
      · subst e; exact .inr h2
      · exact .inl ⟨i, by omega, h2⟩
/-- Each moment at which something can change is asked. -/
def refW (kd lim db on off un : Int) (l : List Smp) (ms : List Int) : List (Int × Int) := rfGo on off un (fun s => (hldSp kd lim db s).1) (fun s => (hldSp kd lim db s).2) l ms ([], false)
theorem refW_is {kd lim db on off un : Int} {l : List Smp} (hs : ∀ x ∈ l, 0 ≤ x.a ∧ x.a ≤ 345686400000) (hp : l.Pairwise (fun x y => x.a < y.a)) (hdb : 0 ≤ db) (hon : 0 ≤ on) (hoff : 0 ≤ off) (hun : un ≤ 345686400000) {ms : List Int} (hm : ∀ t, t ∈ ms ↔ t ∈ momN on off l l.length) (hms : ms.Pairwise (· < ·)) : refW kd lim db on off un l ms = actW kd lim db on off un l := by
  unfold refW actW
  rw [← actT_all l _ (fun x hx => (hs x hx).2) hp]
  have hgt : ∀ i, i < l.length → l.getD i default ∈ l := fun i hi => by
    rw [List.getD_eq_getElem?_getD, List.getElem?_eq_getElem hi]; exact List.getElem_mem _
  have := rfGo_is (on := on) (off := off) (un := un) (X := fun s => (hldSp kd lim db s).1) (Y := fun s => (hldSp kd lim db s).2) (A := fun a => ∃ x ∈ l, x.a = a) (fun s => hld_one s hdb) l (fun x hx => ⟨(hs x hx).1, x, hx, rfl⟩) hp hun ms 0 (fun t ht => by
      obtain ⟨i, hi, h⟩ := (momN_mem on off l t _).1 ((hm t).1 ht)
      have := hs _ (hgt i hi)
      omega) hms (by omega) (fun t _ h => by
      refine (hm t).2 ((momN_mem on off l t _).2 ?_)
      have key : ∀ x ∈ l, ∃ i, i < l.length ∧ l.getD i default = x := fun x hx => by
        obtain ⟨i, hi, rfl⟩ := List.mem_iff_getElem.1 hx
        exact ⟨i, hi, by simp [List.getD_eq_getElem?_getD, hi]⟩
      rcases h with ⟨x, hx, rfl⟩ | ⟨a, ⟨x, hx, rfl⟩, h⟩
      · obtain ⟨i, hi, rfl⟩ := key x hx; exact ⟨i, hi, .inl rfl⟩
      · obtain ⟨i, hi, rfl⟩ := key x hx; exact ⟨i, hi, .inr h⟩)
  rw [actT_late l s00 (fun x hx => (hs x hx).1)] at this
  exact this
/-- The least that is enough, of more that are tried. -/
theorem find_more {p : Int → Bool} {M : Int} : ∀ {C D : List Int}, C.Pairwise (· ≤ ·) → D.Pairwise (· ≤ ·) → (∀ x ∈ C, x ∈ D ∧ x ≤ M) → (∀ e ∈ D, e ≤ M → p e = true → ∃ m ∈ C, m ≤ e ∧ p m = true) → D.find? (fun e => decide (e ≤ M) && p e) = C.find? p := by
  intro C D hC hD h1 h2
  cases hc : C.find? p with
  | none =>
    rw [List.find?_eq_none] at hc ⊢
    intro e he hp
    simp only [Bool.and_eq_true, decide_eq_true_eq] at hp
    obtain ⟨m, hm, _, hpm⟩ := h2 e he hp.1 hp.2
    exact hc m hm hpm
  | some c =>
    obtain ⟨hpc, as1, bs1, rfl, has⟩ := List.find?_eq_some_iff_append.1 hc
    have hcD := h1 c (by simp)
    cases hd : D.find? (fun e => decide (e ≤ M) && p e) with
    | none =>
      exfalso
      rw [List.find?_eq_none] at hd
      exact hd c hcD.1 (by simp [hcD.2, hpc])
    | some d =>
      obtain ⟨hpd, as2, bs2, rfl, has2⟩ := List.find?_eq_some_iff_append.1 hd
      simp only [Bool.and_eq_true, decide_eq_true_eq] at hpd
      obtain ⟨m, hm, hme, hpm⟩ := h2 d (by simp) hpd.1 hpd.2
      have hcm : c ≤ m := by
        rcases List.mem_append.1 hm with h | h
        · have := has m h; simp [hpm] at this
        · rcases List.mem_cons.1 h with rfl | h
          · exact Int.le_refl _
          · exact (List.pairwise_cons.1 (List.pairwise_append.1 hC).2.1).1 m h
      have hdc : d ≤ c := by
        rcases List.mem_append.1 hcD.1 with h | h
        · have := has2 c h; simp [hpc, hcD.2] at this
        · rcases List.mem_cons.1 h with rfl | h
          · exact Int.le_refl _
          · exact (List.pairwise_cons.1 (List.pairwise_append.1 hD).2.1).1 c h
      rw [show d = c by omega]
end Go.Proofs.YtggbcgldnjmobaaDoor

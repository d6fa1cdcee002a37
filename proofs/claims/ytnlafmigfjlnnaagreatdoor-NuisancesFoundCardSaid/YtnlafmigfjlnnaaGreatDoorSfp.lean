/- What the reference tells of its log. -/
import Derived.Test.YtnlafmigfjlnnaaGreatDoorLgn
import Derived.Test.YtnlafmigfjlnnaaGreatDoorAcl
set_option linter.all false
set_option maxHeartbeats 0
set_option maxRecDepth 100000
namespace Go.Proofs.YtnlafmigfjlnnaaGreatDoor
open Go Go.Ai
/-! ### DeleteFunc of changes -/
structure RlOk (l : List Alm) (s : List Ser) (a : List Opr) : Prop where
 al : J4 l
 se : a2o s
 ss : s.length <= 1000000
 aa : a.length <= 1000000
 T : (H7 l s a).length + 1 <= 1000000
 W : ∀ k, (wnK s k l).length <= 1000000
 L : ((Y6 l s a).length + 1) * l.length <= 1000000
theorem RlOk.log {l : List Alm} {s : List Ser} {a : List Opr} (h : RlOk l s a) (to : Int) : FCM Tryz.prog 64 ⟨[], []⟩ [r6 false l, B1 false s, F7 false a, iv to] (fun H r => H = ⟨[], [(500023, x9 (rlA l s a to).out), (600023, n8 (T5 (rlA l s a to).r.ig))]⟩ ∧ r = .tu [.one (.ow 500023 0), .one (.ow 600023 0)]) :=
 b3V h.al h.se h.ss (by have := h.al.len; omega) h.aa h.T h.W h.L
theorem a7W (l : List Alm) (s : List Ser) (a : List Opr) (to : Int) : ∀ (E : List Rev) (g : Rlg), (rnR l s a to E g).out.length <= g.out.length + l.length * E.length
 | [], g => by simp [rnR, a4t]
 | e :: r, g => by
  rw [rnR, a4t, List.length_cons, Nat.mul_add, Nat.mul_one]
  have h1 : (apR l a e g).out = g.out := rfl
  split
  ·omega
  ·refine Nat.le_trans (a7W l s a to r _) ?_
   split
   ·rw [h1]; omega
   ·have := (b3X l s e.a (apR l a e g)).1
    rw [h1] at this; omega
theorem RlOk.out {l : List Alm} {s : List Ser} {a : List Opr} (h : RlOk l s a) (to : Int) : (rlA l s a to).out.length <= 1000000 := by
 have h1 := a7W l s a to (Y6 l s a) (rl0 l)
 have h2 := h.L
 rw [Nat.add_mul, Nat.mul_comm] at h2
 unfold rlA
 simp only [rl0, List.length_nil] at h1 ⊢
 omega
theorem RlOk.ig {l : List Alm} {s : List Ser} {a : List Opr} (h : RlOk l s a) (to : Int) : (rlA l s a to).r.ig.length <= 1000000 := by
 have h1 := a7n l s a to (Y6 l s a) (rl0 l)
 have h2 := h.T
 have h3 : (Y6 l s a).length = (H7 l s a).length := e6 _ _
 unfold rlA
 simp only [rl0, List.length_nil] at h1 ⊢
 omega
/-! ### the state of an alarm -/
/-! ### the standing alarms -/
theorem a2b (x y : Int) : C3 [x, y] = if x ≠ 0 then x else y := by
 unfold C3 C3 C3
 (repeat' split) <;> omega
/-! ### what is ignored -/
/-! ### the changes within a window -/
/-! ### windows and events are not before 0 -/
def nnW (l : List (Int × Int)) : Prop := ∀ w ∈ l, 0 <= w.1 ∧ 0 <= w.2
theorem a9p {l : List (Int × Int)} {t : Int} (h : nnW l) (ht : 0 <= t) : nnW (O0 l t) := fun w hw => by
 unfold O0 at hw
 by_cases h0 : l.length = 0
 ·have : l = [] := List.length_eq_zero_iff.1 h0
  subst this; simp at hw
 ·rcases List.mem_or_eq_of_mem_set hw with hw | rfl
  ·exact h w hw
  ·exact ⟨(h _ (f8 l _ (by omega))).1, ht⟩
theorem a9k {on off un nx a : Int} {x y : Bool} {s : N1} (h : nnW s.out) (ha : 0 <= a) (hu : 0 <= un) : nnW (x8 on off un nx a x y s).out := by
 unfold x8
 simp only []
 have h1 : ∀ t, 0 <= max a t := fun t => by omega
 have h2 : ∀ t, nnW (s.out ++ [(max a t, un)]) := fun t w hw => by
  rcases List.mem_append.1 hw with hw | hw
  ·exact h w hw
  ·simp at hw; subst hw; exact ⟨h1 t, hu⟩
 (repeat' split) <;> first | exact a9p (h2 _) (h1 _) | exact a9p h (h1 _) | exact h2 _ | exact h
theorem a8B (kd lim db on off : Int) {un : Int} (hu : 0 <= un) : ∀ (l : List Smp) (s : N1), (∀ x ∈ l, 0 <= x.a) -> nnW s.out -> nnW (L1 kd lim db on off un l s).out
 | [], s, _, h => h
 | [x], s, hl, h => a9k h (hl x (by simp)) hu
 | x :: y :: r, s, hl, h => a8B kd lim db on off hu (y :: r) _ (fun z hz => hl z (by simp [hz])) (a9k h (hl x (by simp)) hu)
theorem b6G {s : List Ser} (hs : a2o s) (x : Alm) : nnW (m8 s x) := by
 unfold m8 b0z
 exact a8B _ _ _ _ _ (by omega) _ _ (fun z hz => ((P1 hs x.t).all z hz).1) (fun w hw => by simp at hw)
theorem c1q {x : Opr} (h : opF x = 0) : l8 x.b = true ∧ (1 <= x.no ∧ x.no <= 2000) ∧ (0 <= x.at_ ∧ x.at_ < 345686400000) ∧ (1 <= x.kd ∧ x.kd <= 3) ∧ l8 x.al = true ∧ (x.kd = 2 -> x.at_ < x.un ∧ x.un <= 345686400000) ∧ (x.kd ≠ 2 -> x.un = 0) := by
 unfold opF at h
 split at h
 ·omega
 split at h
 ·omega
 split at h
 ·omega
 split at h
 ·omega
 split at h
 ·omega
 split at h
 ·omega
 ·rename_i h1 h2 h3 h4 h5 h6
  exact ⟨by simpa using h1, by omega, by omega, by omega, by simpa using h4, by omega, by omega⟩
theorem c5d {l : List Alm} {s : List Ser} {a : List Opr} (hs : a2o s) (ha : b1X a) (e : Ev) (he : e ∈ Z5 l s a) : 0 <= e.a := by
 unfold Z5 at he
 rcases List.mem_append.1 he with he | he
 ·obtain ⟨i, hi, hm⟩ := a0W he
  unfold evA at hm
  obtain ⟨v, hv, hm⟩ := List.mem_flatMap.1 hm
  have := b6G hs _ v hv
  simp only [List.mem_cons, List.not_mem_nil, or_false] at hm
  rcases hm with rfl | rfl
  ·exact this.1
  ·exact this.2
 ·obtain ⟨i, hi, hm⟩ := N7 he
  have ho := c1q (ha.flt i hi)
  unfold evB at hm
  rcases List.mem_cons.1 hm with rfl | hm
  ·exact ho.2.2.1.1
  ·split at hm
   ·rename_i hc
    simp only [List.mem_cons, List.not_mem_nil, or_false] at hm
    subst hm
    have := ho.2.2.2.2.2.1 hc.1
    simp only; omega
   ·simp at hm
/-! ### what has been told last -/
def a1C (key : ByteArray) : List Std -> Std -> Std
 | [], d => d
 | z :: r, d => a1C key r (if z.al = key then z else d)
theorem a5l (key : ByteArray) : ∀ (o p : List Std) (d : Std), a1C key (o ++ p) d = a1C key p (a1C key o d)
 | [], p, d => rfl
 | z :: r, p, d => by rw [List.cons_append, a1C, a1C, a5l key r]
structure LgI (l : List Alm) (to : Int) (s : Sit) : Prop where
 n : s.td.length = l.length
 k : ∀ i, i < l.length -> (s.td.getD i default).al = (l.getD i default).k
 t : ∀ i, i < l.length -> a1C (l.getD i default).k s.out ⟨(l.getD i default).k, 1, 0⟩ = s.td.getD i default
 b : ∀ z ∈ s.out, 0 <= z.si ∧ z.si <= to
theorem LgI.app {l : List Alm} {to : Int} {s : Sit} (h : LgI l to s) (a : List Opr) (e : Ev) : LgI l to (C6 l a e s) := by
 obtain ⟨h1, h2, h3, h4⟩ := h
 have e1 := (a8F l a e s).2.1
 have e2 : (C6 l a e s).out = s.out := by
  unfold C6
  split
  ·split <;> rfl
  ·rfl
 exact ⟨by rw [e1]; exact h1, by rw [e1]; exact h2, by rw [e1, e2]; exact h3, by rw [e2]; exact h4⟩
theorem LgI.rpt {l : List Alm} {to : Int} {s : Sit} (hk : a0w Alm.k l) (h : LgI l to s) (up : List (List Int)) {at_ : Int} (ha : 0 <= at_ ∧ at_ <= to) {j : Nat} (hj : j < l.length) : LgI l to (b0W up at_ j s) := by
 unfold b0W
 split
 ·obtain ⟨h1, h2, h3, h4⟩ := h
  refine ⟨by simpa using h1, fun i hi => ?_, fun i hi => ?_, fun z hz => ?_⟩
  ·simp only
   by_cases e : j = i
   ·subst e
    rw [List.getD_eq_getElem?_getD, List.getElem?_set_self (by omega)]
    exact h2 j hi
   ·rw [List.getD_eq_getElem?_getD, List.getElem?_set_ne e, <- List.getD_eq_getElem?_getD]
    exact h2 i hi
  ·simp only
   rw [a5l, h3 i hi]
   by_cases e : j = i
   ·subst e
    rw [List.getD_eq_getElem?_getD (l := s.td.set _ _), List.getElem?_set_self (by omega), a1C, a1C, if_pos (h2 j hi)]; rfl
   ·rw [List.getD_eq_getElem?_getD (l := s.td.set _ _), List.getElem?_set_ne e, <- List.getD_eq_getElem?_getD, a1C, a1C, if_neg]
    rw [h2 j hj]
    exact fun he => e (N8 hk hj hi he)
  ·simp only at hz
   rcases List.mem_append.1 hz with hz | hz
   ·exact h4 z hz
   ·simp at hz; subst hz; exact ha
 ·exact h
theorem LgI.rpts {l : List Alm} {to : Int} (hk : a0w Alm.k l) (up : List (List Int)) {at_ : Int} (ha : 0 <= at_ ∧ at_ <= to) : ∀ (n j : Nat) (s : Sit), n + j <= l.length -> LgI l to s -> LgI l to (a0D up at_ n j s)
 | 0, j, s, _, h => h
 | n + 1, j, s, hn, h => by
  rw [a1Q]
  exact LgI.rpts hk up ha n (j + 1) _ (by omega) (h.rpt hk up ha (by omega))
theorem LgI.run {l : List Alm} {to : Int} (hk : a0w Alm.k l) (a : List Opr) : ∀ (ev : List Ev) (s : Sit), (∀ e ∈ ev, 0 <= e.a) -> LgI l to s -> LgI l to (a4s l a to ev s)
 | [], s, _, h => h
 | e :: r, s, he, h => by
  rw [a4s]
  split
  ·exact h
  ·have h0 := he e (by simp)
   refine LgI.run hk a r _ (fun x hx => he x (by simp [hx])) ?_
   split
   ·exact h.app a e
   ·exact LgI.rpts hk _ ⟨h0, by omega⟩ _ 0 _ (by omega) (h.app a e)
theorem a0r {α β : Type} [Inhabited α] [Inhabited β] (f : α -> β) (l : List α) (i : Nat) (h : i < l.length) : (l.map f).getD i default = f (l.getD i default) := t7 f l i default h
theorem AllOk.lg {l : List Alm} {s : List Ser} {a : List Opr} (h : AllOk l s a) (to : Int) : LgI l to (a6L l s a to) := by
 refine LgI.run h.al.up a _ _ (fun e he => c5d h.se h.ac e (ssort_mem.1 he)) ⟨by simp [a0K], fun i hi => ?_, fun i hi => ?_, fun z hz => by simp [a0K] at hz⟩
 ·simp only [a0K]; rw [a0r _ _ _ hi]
 ·simp only [a0K]; rw [a0r _ _ _ hi]; rfl
section
variable {P : Program} {s : AS} {k : List KI} {kp : Option Keep} {l : List GI} {Q : AX -> AS -> Prop}
theorem a1B {f : FuncId} {key : Nat} {cs0 cs : List Cel} {vargs : List Val} {d : Option Nat} {r : Val} (hf : FC P f (some cs0) vargs (fun cs' x => cs' = cs ∧ x = r)) (hr : M8 r = true) (hc : cs.all C7 = true)
  (h : rg P l kp k Q ({ s with bx := upd s.bx key (some cs) }.put d r)) : b1j P f key cs0 vargs d l kp k Q s :=
 ⟨_, hf, ⟨cs, r, rfl, rfl⟩, fun _ _ hx => by obtain ⟨rfl, rfl⟩ := hx; exact ⟨hr, hc, h⟩⟩
end
theorem b5i (kd lim db on off un : Int) : ∀ (l : List Smp) (s : N1), (L1 kd lim db on off un l s).out.length <= s.out.length + l.length := by
 have h1 : ∀ (nx a : Int) (x y : Bool) (s : N1), (x8 on off un nx a x y s).out.length <= s.out.length + 1 := fun nx a x y s => by
  unfold x8
  simp only []
  (repeat' split) <;> (first | omega | (simp only [B2, List.length_append, List.length_singleton]; omega))
 intro l
 induction l with
 | nil => intro s; exact Nat.le_refl _
 | cons x r ih =>
  intro s
  cases r with
  | nil => rw [L1]; exact h1 _ _ _ _ _
  | cons y r =>
   rw [L1]
   have h2 := h1 y.a x.a (q7 kd lim db x).1 (q7 kd lim db x).2 s
   have h3 := ih (x8 on off un y.a x.a (q7 kd lim db x).1 (q7 kd lim db x).2 s)
   simp only [List.length_cons] at h3 ⊢
   omega
theorem a1I {s : List Ser} {m : Nat} (h : ∀ x ∈ s, x.l.length <= m) (x : Alm) : (m8 s x).length <= m := by
 unfold m8 b0z
 refine Nat.le_trans (b5i _ _ _ _ _ _ _ _) ?_
 unfold a1J
 split
 ·rename_i h0
  have hr := N2 (fun y : Ser => decide (y.t = x.t)) s 0
  have := h _ (f8 s (D3 (fun y : Ser => decide (y.t = x.t)) 0 s).toNat (by omega))
  simp only [List.length_nil]; omega
 ·simp
theorem a8Q {s : List Ser} {m : Nat} (h : ∀ x ∈ s, x.l.length <= m) : ∀ (l : List Alm) (j : Int), (O8 s j l).length <= 2 * m * l.length
 | [], j => by simp [O8]
 | x :: l, j => by
  have h1 := a8Q h l (j + 1)
  have h2 := a1I h x
  rw [O8, List.length_append, show evA s j x = (m8 s x).flatMap (evV j) from rfl, a6S, List.length_cons]
  have h3 : 2 * m * (l.length + 1) = 2 * m * l.length + 2 * m := by rw [Nat.mul_add, Nat.mul_one]
  omega
theorem a9g (q : List Alm) : ∀ (l : List Opr) (j : Int), (V4 q j l).length <= 2 * l.length
 | [], j => by simp [V4]
 | x :: l, j => by
  have h1 := a9g q l (j + 1)
  rw [V4, List.length_append, List.length_cons]
  have : (evB q j x).length <= 2 := by unfold evB; split <;> simp
  omega
theorem b7C {l : List Alm} {s : List Ser} {a : List Opr} (h1 : afF l = 0) (h2 : asF s = 0) (h3 : ofF a = 0) (s1 : ∀ x ∈ l, x.sm) (s2 : ∀ x ∈ s, x.sm 10) (s3 : ∀ x ∈ a, x.sm) : AllOk l s a := by
 have a1 := c0t h1
 have a3 := b6J h3
 refine ⟨a1, b8k h2, a3, s1, fun x hx => ⟨(s2 x hx).1, by have := (s2 x hx).2; omega⟩, s3, ?_, alF_zero.2 ⟨h1, h2, h3⟩⟩
 have h5 := a8Q (m := 10) (fun x hx => by have := (s2 x hx).2; omega) l 0
 have h6 := a9g l a 0
 have := a1.len
 have := a3.len
 unfold Z5
 rw [List.length_append]; omega
theorem AllOk.td {l : List Alm} {s : List Ser} {a : List Opr} (h : AllOk l s a) (to : Int) {z : Std} (hz : z ∈ (a6L l s a to).td) : ∃ i : Nat, i < l.length ∧ z = (a6L l s a to).td.getD i default ∧ z.al = (l.getD i default).k ∧ v7 l z.al = i := by
 have hg := h.lg to
 obtain ⟨i, hi, rfl⟩ := G8 hz
 rw [hg.n] at hi
 exact ⟨i, hi, rfl, hg.k i hi, by rw [hg.k i hi]; exact a4Q h.al.up hi⟩
theorem a9i (up : List (List Int)) (at_ : Int) : ∀ (n i : Nat) (s : Sit), (a0D up at_ n i s).out.length <= s.out.length + n
 | 0, i, s => Nat.le_refl _
 | n + 1, i, s => by
  have h1 := a9i up at_ n (i + 1) (b0W up at_ i s)
  have h2 : (b0W up at_ i s).out.length <= s.out.length + 1 := by
   unfold b0W
   split
   ·simp
   ·omega
  rw [a1Q]; omega
theorem a9h (l : List Alm) (a : List Opr) (to : Int) : ∀ (ev : List Ev) (s : Sit), (a4s l a to ev s).out.length <= s.out.length + l.length * ev.length
 | [], s => by simp [a4s]
 | e :: r, s => by
  rw [a4s, List.length_cons, Nat.mul_add, Nat.mul_one]
  split
  ·omega
  ·refine Nat.le_trans (a9h l a to r _) ?_
   split
   ·rw [a3P]; omega
   ·have := a9i (upA l) e.a l.length 0 (C6 l a e s)
    rw [a3P] at this; omega
theorem AllOk.out {l : List Alm} {s : List Ser} {a : List Opr} (h : AllOk l s a) (to : Int) : (a6L l s a to).out.length <= 100000000 := by
 have h1 := a9h l a to (evs l s a) (a0K l)
 have h2 := h.al.len
 have h3 := h.ev
 rw [b4y] at h1
 have h4 : l.length * (Z5 l s a).length <= 200 * 500000 := Nat.mul_le_mul h2 h3
 unfold a6L
 simp only [a0K, List.length_nil] at h1 ⊢
 omega
theorem a8C {l : List Alm} {s : List Ser} (hA : J4 l) (hs : a2o s) : a1E s l := fun x hx => by
 obtain ⟨i, hi, rfl⟩ := G8 hx
 obtain ⟨kk, hff⟩ := a4i (hA.flt i hi)
 obtain ⟨f1, f2, f3, f4, f5, f6⟩ := a3w hff
 unfold m8
 refine a9Q (by omega) f3.1 ?_
 unfold a1J
 split
 ·rename_i h0
  have hr := N2 (fun y : Ser => decide (y.t = (l.getD i default).t)) s 0
  exact c9W (hs.ser _ (by omega))
 ·trivial
section
variable {l : List Alm} {s : List Ser} {a : List Opr}
theorem c2X (h : b1X a) : ∀ x ∈ a, (x.kd = 2 -> x.at_ < x.un) ∧ (1 <= x.kd ∧ x.kd <= 3) ∧ (0 <= x.at_ ∧ x.at_ < 345686400000) := fun x hx => by
 obtain ⟨i, hi, rfl⟩ := G8 hx
 obtain ⟨h1, h2, h3, h4, h5, h6, h7⟩ := c1q (h.flt i hi)
 exact ⟨fun e => (h6 e).1, h4, h3⟩
theorem AllOk.rl (h : AllOk l s a) {to : Int} (ht : to <= 345686399999) : (rlA l s a to).out = (a6L l s a to).out ∧ (rlA l s a to).r.ig = (a6L l s a to).ig :=
 c7t h.al (a8C h.al h.se) (c2X h.ac) ht
end
structure Drw (l : List Alm) (s : List Ser) (a : List Opr) : Prop where
 l3 : l.length <= 3
 s2 : s.length <= 2
 a8 : a.length <= 8
 sl : ∀ x ∈ l, x.sm
 ss : ∀ x ∈ s, x.sm 10
 sa : ∀ x ∈ a, x.sm
section
variable {l : List Alm} {s : List Ser} {a : List Opr}
theorem Drw.ok (h : Drw l s a) (h0 : alF l s a = 0) : AllOk l s a := by
 obtain ⟨h1, h2, h3⟩ := alF_zero.1 h0
 exact b7C h1 h2 h3 h.sl h.ss h.sa
theorem Drw.fault (h : Drw l s a) : FC Tryz.prog 45 none [r6 false l, B1 false s, F7 false a] (fun _ r => r = iv (alF l s a)) :=
 a2D l s a (by have := h.l3; omega) (by have := h.s2; omega) (by have := h.a8; omega) h.sl (fun x hx => ⟨(h.ss x hx).1, by have := (h.ss x hx).2; omega⟩) h.sa
theorem b5e {m : Nat} (h : ∀ x, (m8 s x).length <= m) (k : ByteArray) : ∀ l : List Alm, (wnK s k l).length <= m
 | [] => by simp [wnK]
 | x :: l => by
  rw [wnK]
  split
  ·exact h x
  ·exact b5e h k l
theorem a8h {m : Nat} (h : ∀ x, (m8 s x).length <= m) : ∀ (l : List Alm) (j : Nat), (Z6 s j l).length <= 2 * m * l.length
 | [], j => by simp [Z6]
 | x :: l, j => by
  have h1 := a8h h l (j + 1)
  have h2 : ∀ W : List (Int × Int), (W.flatMap (rvW j)).length <= 2 * W.length := fun W => by
   induction W with
   | nil => simp
   | cons v W ih =>
    rw [List.flatMap_cons, List.length_append, List.length_cons]
    have : (rvW j v).length <= 2 := by unfold rvW; split <;> simp
    omega
  have h3 := h2 (m8 s x)
  have h4 := h x
  rw [Z6, List.length_append, List.length_cons, Nat.mul_add, Nat.mul_one]
  have h5 : (rvA s j x).length = ((m8 s x).flatMap (rvW j)).length := rfl
  omega
theorem a7F : ∀ (a : List Opr) (j : Nat), (a0L j a).length <= 2 * a.length
 | [], j => by simp [a0L]
 | x :: a, j => by
  have h1 := a7F a (j + 1)
  rw [a0L, List.length_append, List.length_cons]
  have : (rvB j x).length <= 2 := by unfold rvB; split <;> simp
  omega
theorem Drw.rl (h : Drw l s a) (h0 : alF l s a = 0) : RlOk l s a := by
 have ok := h.ok h0
 have hw : ∀ x, (m8 s x).length <= 10 := fun x => a1I (m := 10) (fun x hx => by have := (h.ss x hx).2; omega) x
 have h1 := a8h hw l 0
 have h2 := a7F a 0
 have h3 := h.l3
 have h4 := h.a8
 have h5 : (H7 l s a).length <= 76 := by unfold H7; rw [List.length_append]; omega
 have h6 : (Y6 l s a).length = (H7 l s a).length := e6 _ _
 refine ⟨ok.al, ok.se, by have := h.s2; omega, by omega, by omega, fun k => Nat.le_trans (b5e hw k l) (by omega), ?_⟩
 have h7 : ((Y6 l s a).length + 1) * l.length <= 77 * 3 := Nat.mul_le_mul (by omega) h3
 omega
/-! ### the answers -/
def lgE (l : List Alm) (s : List Ser) (a : List Opr) (f t : Int) : Int := if alF l s a ≠ 0 then alF l s a else if 0 <= f ∧ f <= t ∧ t <= 345686400000 then 0 else 1
theorem a6v (h : Drw l s a) (f t : Int) :
  FC Tryz.prog 41 none [r6 false l, B1 false s, F7 false a, .ag [.g (.int .i64 f), .g (.int .i64 t)]] (fun _ r => r = iv (lgE l s a f t)) := by
 have hf := h.fault
 refine fcE Tryz.func41 a4H ?_
 have hwf := b0k f t
 unfold lgE
 generalize alF l s a = e at *
 by_cases h0 : e = 0
 ·subst h0
  rw [if_neg (by omega)]
  by_cases hw : 0 <= f ∧ f <= t ∧ t <= 345686400000
  ·rw [decide_eq_true hw] at hwf
   rw [if_pos hw]
   refine qc hf ?_
   refine qc hwf ?_
   exact qt
  ·rw [decide_eq_false hw] at hwf
   rw [if_neg hw]
   refine qc hf ?_
   refine qc hwf ?_
   exact qt
 ·rw [if_pos h0]
  refine qc hf ?_
  exact qt
end
end Go.Proofs.YtnlafmigfjlnnaaGreatDoor

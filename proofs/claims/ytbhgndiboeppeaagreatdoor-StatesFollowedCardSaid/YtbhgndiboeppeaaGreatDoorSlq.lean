/- The state of an alarm is its last change in the log. Plain Lean. The state of an alarm is that of its last change in the log: the walk. -/
import Derived.Test.YtbhgndiboeppeaaGreatDoorSns
import Derived.Test.YtbhgndiboeppeaaGreatDoorLog
import Derived.Test.YtbhgndiboeppeaaGreatDoorAcl
import Derived.Test.YtbhgndiboeppeaaGreatDoorAgl
import Derived.Test.YtbhgndiboeppeaaGreatDoorAcb
set_option linter.all false
set_option maxHeartbeats 4000000
namespace Go.Proofs.YtbhgndiboeppeaaGreatDoor
open Go Go.Ai
/-! ### windows and events are not before 0 -/
def nnW (l : List (Int × Int)) : Prop := ∀ w ∈ l, 0 ≤ w.1 ∧ 0 ≤ w.2
theorem a8f {l : List (Int × Int)} {t : Int} (h : nnW l) (ht : 0 ≤ t) : nnW (X9 l t) := fun w hw => by
 unfold X9 at hw
 by_cases h0 : l.length = 0
 ·have : l = [] := List.length_eq_zero_iff.1 h0
  subst this; simp at hw
 ·rcases List.mem_or_eq_of_mem_set hw with hw | rfl
  ·exact h w hw
  ·exact ⟨(h _ (j5 l _ (by omega))).1, ht⟩
theorem a8c {on off un nx a : Int} {x y : Bool} {s : N8} (h : nnW s.out) (ha : 0 ≤ a) (hu : 0 ≤ un) : nnW (y8 on off un nx a x y s).out := by
 unfold y8
 simp only []
 have h1 : ∀ t, 0 ≤ max a t := fun t => by omega
 have h2 : ∀ t, nnW (s.out ++ [(max a t, un)]) := fun t w hw => by
  rcases List.mem_append.1 hw with hw | hw
  ·exact h w hw
  ·simp at hw; subst hw; exact ⟨h1 t, hu⟩
 (repeat' split) <;> first | exact a8f (h2 _) (h1 _) | exact a8f h (h1 _) | exact h2 _ | exact h
theorem a7z (kd lim db on off : Int) {un : Int} (hu : 0 ≤ un) : ∀ (l : List Smp) (s : N8), (∀ x ∈ l, 0 ≤ x.a) → nnW s.out → nnW (M0 kd lim db on off un l s).out
 | [], s, _, h => h
 | [x], s, hl, h => a8c h (hl x (by simp)) hu
 | x :: y :: r, s, hl, h => a7z kd lim db on off hu (y :: r) _ (fun z hz => hl z (by simp [hz])) (a8c h (hl x (by simp)) hu)
theorem b4W {s : List Ser} (hs : a3j s) (x : Alm) : nnW (v7 s x) := by
 unfold v7 a9P
 exact a7z _ _ _ _ _ (by omega) _ _ (fun z hz => ((a1e hs x.t).all z hz).1) (fun w hw => by simp at hw)
theorem c0F {x : Opr} (h : opF x = 0) : m5 x.b = true ∧ (1 ≤ x.no ∧ x.no ≤ 2000) ∧ (0 ≤ x.at_ ∧ x.at_ < 345686400000) ∧ (1 ≤ x.kd ∧ x.kd ≤ 3) ∧ m5 x.al = true ∧ (x.kd = 2 → x.at_ < x.un ∧ x.un ≤ 345686400000) ∧ (x.kd ≠ 2 → x.un = 0) := by
 unfold opF at h
 split at h
 ·omega
 split at h
 ·omega
 split at h
 ·omega
 split at h
 ·omega
 split at h
 ·omega
 split at h
 ·omega
 ·rename_i h1 h2 h3 h4 h5 h6
  exact ⟨by simpa using h1, by omega, by omega, by omega, by simpa using h4, by omega, by omega⟩
theorem c0S {l : List Alm} {s : List Ser} {a : List Opr} (hs : a3j s) (ha : b1d a) (e : Ev) (he : e ∈ Z9 l s a) : 0 ≤ e.a := by
 unfold Z9 at he
 rcases List.mem_append.1 he with he | he
 ·obtain ⟨i, hi, hm⟩ := a1c he
  unfold evA at hm
  obtain ⟨v, hv, hm⟩ := List.mem_flatMap.1 hm
  have := b4W hs _ v hv
  simp only [List.mem_cons, List.not_mem_nil, or_false] at hm
  rcases hm with rfl | rfl
  ·exact this.1
  ·exact this.2
 ·obtain ⟨i, hi, hm⟩ := O0 he
  have ho := c0F (ha.flt i hi)
  unfold evB at hm
  rcases List.mem_cons.1 hm with rfl | hm
  ·exact ho.2.2.1.1
  ·split at hm
   ·rename_i hc
    simp only [List.mem_cons, List.not_mem_nil, or_false] at hm
    subst hm
    have := ho.2.2.2.2.2.1 hc.1
    simp only; omega
   ·simp at hm
/-! ### what has been told last -/
def P6 (key : ByteArray) : List Std → Std → Std
 | [], d => d
 | z :: r, d => P6 key r (if z.al = key then z else d)
theorem a1n (key : ByteArray) : ∀ (o p : List Std) (d : Std), P6 key (o ++ p) d = P6 key p (P6 key o d)
 | [], p, d => rfl
 | z :: r, p, d => by rw [List.cons_append, P6, P6, a1n key r]
structure LgI (l : List Alm) (to : Int) (s : Sit) : Prop where
 n : s.td.length = l.length
 k : ∀ i, i < l.length → (s.td.getD i default).al = (l.getD i default).k
 t : ∀ i, i < l.length → P6 (l.getD i default).k s.out ⟨(l.getD i default).k, 1, 0⟩ = s.td.getD i default
 b : ∀ z ∈ s.out, 0 ≤ z.si ∧ z.si ≤ to
theorem LgI.app {l : List Alm} {to : Int} {s : Sit} (h : LgI l to s) (a : List Opr) (e : Ev) : LgI l to (C4 l a e s) := by
 obtain ⟨h1, h2, h3, h4⟩ := h
 have e1 := (Y4 l a e s).2.1
 have e2 : (C4 l a e s).out = s.out := by
  unfold C4
  split
  ·split <;> rfl
  ·rfl
 exact ⟨by rw [e1]; exact h1, by rw [e1]; exact h2, by rw [e1, e2]; exact h3, by rw [e2]; exact h4⟩
theorem LgI.rpt {l : List Alm} {to : Int} {s : Sit} (hk : a0h Alm.k l) (h : LgI l to s) (up : List (List Int)) {at_ : Int} (ha : 0 ≤ at_ ∧ at_ ≤ to) {j : Nat} (hj : j < l.length) : LgI l to (a7s up at_ j s) := by
 unfold a7s
 split
 ·obtain ⟨h1, h2, h3, h4⟩ := h
  refine ⟨by simpa using h1, fun i hi => ?_, fun i hi => ?_, fun z hz => ?_⟩
  ·simp only
   by_cases e : j = i
   ·subst e
    rw [List.getD_eq_getElem?_getD, List.getElem?_set_self (by omega)]
    exact h2 j hi
   ·rw [List.getD_eq_getElem?_getD, List.getElem?_set_ne e, ← List.getD_eq_getElem?_getD]
    exact h2 i hi
  ·simp only
   rw [a1n, h3 i hi]
   by_cases e : j = i
   ·subst e
    rw [List.getD_eq_getElem?_getD (l := s.td.set _ _), List.getElem?_set_self (by omega), P6, P6, if_pos (h2 j hi)]; rfl
   ·rw [List.getD_eq_getElem?_getD (l := s.td.set _ _), List.getElem?_set_ne e, ← List.getD_eq_getElem?_getD, P6, P6, if_neg]
    rw [h2 j hj]
    exact fun he => e (O1 hk hj hi he)
  ·simp only at hz
   rcases List.mem_append.1 hz with hz | hz
   ·exact h4 z hz
   ·simp at hz; subst hz; exact ha
 ·exact h
theorem LgI.rpts {l : List Alm} {to : Int} (hk : a0h Alm.k l) (up : List (List Int)) {at_ : Int} (ha : 0 ≤ at_ ∧ at_ ≤ to) : ∀ (n j : Nat) (s : Sit), n + j ≤ l.length → LgI l to s → LgI l to (U3 up at_ n j s)
 | 0, j, s, _, h => h
 | n + 1, j, s, hn, h => by
  rw [M6]
  exact LgI.rpts hk up ha n (j + 1) _ (by omega) (h.rpt hk up ha (by omega))
theorem LgI.run {l : List Alm} {to : Int} (hk : a0h Alm.k l) (a : List Opr) : ∀ (ev : List Ev) (s : Sit), (∀ e ∈ ev, 0 ≤ e.a) → LgI l to s → LgI l to (U9 l a to ev s)
 | [], s, _, h => h
 | e :: r, s, he, h => by
  rw [U9]
  split
  ·exact h
  ·have h0 := he e (by simp)
   refine LgI.run hk a r _ (fun x hx => he x (by simp [hx])) ?_
   split
   ·exact h.app a e
   ·exact LgI.rpts hk _ ⟨h0, by omega⟩ _ 0 _ (by omega) (h.app a e)
theorem a0z {α β : Type} [Inhabited α] [Inhabited β] (f : α → β) (l : List α) (i : Nat) (h : i < l.length) : (l.map f).getD i default = f (l.getD i default) := t7 f l i default h
theorem AllOk.lg {l : List Alm} {s : List Ser} {a : List Opr} (h : AllOk l s a) (to : Int) : LgI l to (J7 l s a to) := by
 refine LgI.run h.al.up a _ _ (fun e he => c0S h.se h.ac e (ssort_mem.1 he)) ⟨by simp [O6], fun i hi => ?_, fun i hi => ?_, fun z hz => by simp [O6] at hz⟩
 ·simp only [O6]; rw [a0z _ _ _ hi]
 ·simp only [O6]; rw [a0z _ _ _ hi]; rfl
section
variable {P : Program} {s : AS} {k : List KI} {kp : Option Keep} {l : List GI} {Q : AX → AS → Prop}
theorem Y6 {f : FuncId} {key : Nat} {cs0 cs : List Cel} {vargs : List Val} {d : Option Nat} {r : Val} (hf : FC P f (some cs0) vargs (fun cs' x => cs' = cs ∧ x = r)) (hr : N2 r = true) (hc : cs.all C8 = true)
  (h : rg P l kp k Q ({ s with bx := upd s.bx key (some cs) }.put d r)) : b4l P f key cs0 vargs d l kp k Q s :=
 ⟨_, hf, ⟨cs, r, rfl, rfl⟩, fun _ _ hx => by obtain ⟨rfl, rfl⟩ := hx; exact ⟨hr, hc, h⟩⟩
end
theorem b1N (kd lim db on off un : Int) : ∀ (l : List Smp) (s : N8), (M0 kd lim db on off un l s).out.length ≤ s.out.length + l.length := by
 have h1 : ∀ (nx a : Int) (x y : Bool) (s : N8), (y8 on off un nx a x y s).out.length ≤ s.out.length + 1 := fun nx a x y s => by
  unfold y8
  simp only []
  (repeat' split) <;> (first | omega | (simp only [R4, List.length_append, List.length_singleton]; omega))
 intro l
 induction l with
 | nil => intro s; exact Nat.le_refl _
 | cons x r ih =>
  intro s
  cases r with
  | nil => rw [M0]; exact h1 _ _ _ _ _
  | cons y r =>
   rw [M0]
   have h2 := h1 y.a x.a (s6 kd lim db x).1 (s6 kd lim db x).2 s
   have h3 := ih (y8 on off un y.a x.a (s6 kd lim db x).1 (s6 kd lim db x).2 s)
   simp only [List.length_cons] at h3 ⊢
   omega
theorem a4j {s : List Ser} {m : Nat} (h : ∀ x ∈ s, x.l.length ≤ m) (x : Alm) : (v7 s x).length ≤ m := by
 unfold v7 a9P
 refine Nat.le_trans (b1N _ _ _ _ _ _ _ _) ?_
 unfold a5D
 split
 ·rename_i h0
  have hr := O4 (fun y : Ser => decide (y.t = x.t)) s 0
  have := h _ (j5 s (D0 (fun y : Ser => decide (y.t = x.t)) 0 s).toNat (by omega))
  simp only [List.length_nil]; omega
 ·simp
theorem a8o {s : List Ser} {m : Nat} (h : ∀ x ∈ s, x.l.length ≤ m) : ∀ (l : List Alm) (j : Int), (P9 s j l).length ≤ 2 * m * l.length
 | [], j => by simp [P9]
 | x :: l, j => by
  have h1 := a8o h l (j + 1)
  have h2 := a4j h x
  rw [P9, List.length_append, show evA s j x = (v7 s x).flatMap (evV j) from rfl, a6U, List.length_cons]
  have h3 : 2 * m * (l.length + 1) = 2 * m * l.length + 2 * m := by rw [Nat.mul_add, Nat.mul_one]
  omega
theorem a7J (q : List Alm) : ∀ (l : List Opr) (j : Int), (V8 q j l).length ≤ 2 * l.length
 | [], j => by simp [V8]
 | x :: l, j => by
  have h1 := a7J q l (j + 1)
  rw [V8, List.length_append, List.length_cons]
  have : (evB q j x).length ≤ 2 := by unfold evB; split <;> simp
  omega
theorem b8g {l : List Alm} {s : List Ser} {a : List Opr} (h1 : afF l = 0) (h2 : asF s = 0) (h3 : ofF a = 0) (s1 : ∀ x ∈ l, x.sm) (s2 : ∀ x ∈ s, x.sm 10) (s3 : ∀ x ∈ a, x.sm) : AllOk l s a := by
 have a1 := b5c h1
 have a3 := b5w h3
 refine ⟨a1, b8H h2, a3, s1, fun x hx => ⟨(s2 x hx).1, by have := (s2 x hx).2; omega⟩, s3, ?_, alF_zero.2 ⟨h1, h2, h3⟩⟩
 have h5 := a8o (m := 10) (fun x hx => by have := (s2 x hx).2; omega) l 0
 have h6 := a7J l a 0
 have := a1.len
 have := a3.len
 unfold Z9
 rw [List.length_append]; omega
theorem AllOk.td {l : List Alm} {s : List Ser} {a : List Opr} (h : AllOk l s a) (to : Int) {z : Std} (hz : z ∈ (J7 l s a to).td) : ∃ i : Nat, i < l.length ∧ z = (J7 l s a to).td.getD i default ∧ z.al = (l.getD i default).k ∧ q8 l z.al = i := by
 have hg := h.lg to
 obtain ⟨i, hi, rfl⟩ := M7 hz
 rw [hg.n] at hi
 exact ⟨i, hi, rfl, hg.k i hi, by rw [hg.k i hi]; exact a1i h.al.up hi⟩
theorem a8J (up : List (List Int)) (at_ : Int) : ∀ (n i : Nat) (s : Sit), (U3 up at_ n i s).out.length ≤ s.out.length + n
 | 0, i, s => Nat.le_refl _
 | n + 1, i, s => by
  have h1 := a8J up at_ n (i + 1) (a7s up at_ i s)
  have h2 : (a7s up at_ i s).out.length ≤ s.out.length + 1 := by
   unfold a7s
   split
   ·simp
   ·omega
  rw [M6]; omega
theorem a7y (l : List Alm) (a : List Opr) (to : Int) : ∀ (ev : List Ev) (s : Sit), (U9 l a to ev s).out.length ≤ s.out.length + l.length * ev.length
 | [], s => by simp [U9]
 | e :: r, s => by
  rw [U9, List.length_cons, Nat.mul_add, Nat.mul_one]
  split
  ·omega
  ·refine Nat.le_trans (a7y l a to r _) ?_
   split
   ·rw [a0X]; omega
   ·have := a8J (upA l) e.a l.length 0 (C4 l a e s)
    rw [a0X] at this; omega
theorem AllOk.out {l : List Alm} {s : List Ser} {a : List Opr} (h : AllOk l s a) (to : Int) : (J7 l s a to).out.length ≤ 100000000 := by
 have h1 := a7y l a to (evs l s a) (O6 l)
 have h2 := h.al.len
 have h3 := h.ev
 rw [a3k] at h1
 have h4 : l.length * (Z9 l s a).length ≤ 200 * 500000 := Nat.mul_le_mul h2 h3
 unfold J7
 simp only [O6, List.length_nil] at h1 ⊢
 omega
end Go.Proofs.YtbhgndiboeppeaaGreatDoor

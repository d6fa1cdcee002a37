/- Sorting in place of filtering, and events that are done moment by moment. Plain Lean. -/
import Derived.Test.YtbhgndiboeppeaaGreatDoorStb
set_option linter.all false
set_option maxHeartbeats 4000000
namespace Go.Proofs.YtbhgndiboeppeaaGreatDoor
open Go Go.Ai
section
variable {α β : Type}
theorem a1g (c : α → α → Int) (y : α) : mrg c [] [y] = [y] := n5 _ _
theorem a9Z {c : α → α → Int} {x y : α} {s : List α} (h : c y x < 0) : mrg c (x :: s) [y] = y :: x :: s := by rw [F0 h, m4]
theorem a9n {c : α → α → Int} {x y : α} {s : List α} (h : ¬c y x < 0) : mrg c (x :: s) [y] = x :: mrg c s [y] := G7 h
theorem a7j {c d : α → α → Int} {y : α} : ∀ {s : List α}, (∀ x ∈ s, (c y x < 0 ↔ d y x < 0)) → mrg c s [y] = mrg d s [y]
 | [], _ => by rw [a1g, a1g]
 | x :: s, h => by
  have hx := h x (by simp)
  by_cases hc : c y x < 0
  ·rw [a9Z hc, a9Z (hx.1 hc)]
  ·rw [a9n hc, a9n (fun hd => hc (hx.2 hd)), a7j fun z hz => h z (by simp [hz])]
theorem a5k {c d : α → α → Int} : ∀ (l s : List α), (∀ x ∈ s, ∀ y ∈ l, (c y x < 0 ↔ d y x < 0)) → l.Pairwise (fun x y => (c y x < 0 ↔ d y x < 0)) → l.foldl (fun s y => mrg c s [y]) s = l.foldl (fun s y => mrg d s [y]) s
 | [], _, _, _ => rfl
 | y :: l, s, h1, h2 => by
  rw [List.pairwise_cons] at h2
  rw [List.foldl_cons, List.foldl_cons, a7j fun x hx => h1 x hx y (by simp)]
  refine a5k l _ (fun x hx z hz => ?_) h2.2
  rw [mrg_mem] at hx
  all_goals grind
theorem a1D {c d : α → α → Int} {l : List α} (h : l.Pairwise (fun x y => (c y x < 0 ↔ d y x < 0))) : l7 c l = l7 d l :=
 a5k l [] (fun x hx => by simp at hx) h
theorem c6j {c : α → α → Int} {y : α} : ∀ {s : List α}, (∀ x ∈ s, c y x < 0) → mrg c s [y] = y :: s
 | [], _ => a1g c y
 | x :: s, h => a9Z (h x (by simp))
theorem a4N {c : α → α → Int} (h : Swo (fun _ => True) c) (p : α → Bool) (y : α) : ∀ {s : List α}, Ord c s → (mrg c s [y]).filter p = if p y = true then mrg c (s.filter p) [y] else s.filter p
 | [], _ => by rw [a1g]; by_cases hp : p y = true <;> simp [hp, a1g]
 | x :: s, ho => by
  unfold Ord at ho
  rw [List.pairwise_cons] at ho
  by_cases hc : c y x < 0
  ·rw [a9Z hc, List.filter_cons]
   by_cases hp : p y = true
   ·rw [if_pos hp, if_pos hp, c6j]
    intro z hz
    rcases List.mem_cons.1 (List.mem_filter.1 hz).1 with rfl | hz
    ·exact hc
    ·apply Classical.byContradiction
     intro hn
     exact h.ntr y z x trivial trivial trivial hn (ho.1 z hz) hc
   ·rw [if_neg hp, if_neg hp]
  ·rw [a9n hc, List.filter_cons, a4N h p y ho.2]
   by_cases hp : p y = true
   ·rw [if_pos hp, if_pos hp, List.filter_cons]
    by_cases hx : p x = true
    ·rw [if_pos hx, if_pos hx, a9n hc]
    ·rw [if_neg hx, if_neg hx]
   ·grind
theorem a2x {c : α → α → Int} (h : Swo (fun _ => True) c) (p : α → Bool) : ∀ (l s : List α), Ord c s → (l.foldl (fun s y => mrg c s [y]) s).filter p = (l.filter p).foldl (fun s y => mrg c s [y]) (s.filter p)
 | [], _, _ => rfl
 | y :: l, s, ho => by
  rw [List.foldl_cons, a2x h p l _ (b2P h (fun _ _ => trivial) (fun _ _ => trivial) ho (List.pairwise_singleton _ _)), a4N h p y ho, List.filter_cons]
  all_goals grind
theorem S2 {c : α → α → Int} (h : Swo (fun _ => True) c) (p : α → Bool) (l : List α) : (l7 c l).filter p = l7 c (l.filter p) :=
 a2x h p l [] List.Pairwise.nil
theorem c0H {c : α → α → Int} {d : β → β → Int} {f : α → β} (h : ∀ x y, d (f x) (f y) = c x y) (y : α) : ∀ (s : List α), (mrg c s [y]).map f = mrg d (s.map f) [f y]
 | [] => by rw [a1g, List.map_nil, a1g]; rfl
 | x :: s => by
  by_cases hc : c y x < 0
  ·rw [a9Z hc, List.map_cons (l := s), a9Z (by rw [h]; exact hc)]; rfl
  ·rw [a9n hc, List.map_cons, List.map_cons (l := s), a9n (by rw [h]; exact hc), c0H h y s]
theorem a5s {c : α → α → Int} {d : β → β → Int} {f : α → β} (h : ∀ x y, d (f x) (f y) = c x y) (l : List α) : (l7 c l).map f = l7 d (l.map f) := by
 have : ∀ (l s : List α), (l.foldl (fun s y => mrg c s [y]) s).map f = (l.map f).foldl (fun s y => mrg d s [y]) (s.map f) := by
  intro l
  induction l with
  | nil => intro s; rfl
  | cons y l ih => intro s; rw [List.foldl_cons, ih, c0H h, List.map_cons, List.foldl_cons]
 exact this l []
/-! ### events, one after the other, and moment by moment -/
def hdT (tm : α → Int) : List α → Int → Bool
 | [], _ => false
 | e :: _, t => decide (tm e = t)
def a3V (tm : α → Int) (ap : α → β → β) (rp : Int → β → β) (to : Int) : List α → β → β
 | [], s => s
 | e :: r, s => if to < tm e then s else a3V tm ap rp to r (if hdT tm r (tm e) = true then ap e s else rp (tm e) (ap e s))
def atM (tm : α → Int) (E : List α) (t : Int) : List α := E.filter fun e => decide (tm e = t)
def moG (tm : α → Int) (ap : α → β → β) (rp : Int → β → β) (E : List α) : Nat → Int → β → β
 | 0, _, s => s
 | n + 1, t, s => moG tm ap rp E n (t + 1) (if atM tm E t = [] then s else rp t ((atM tm E t).foldl (fun s e => ap e s) s))
theorem b1y {tm : α → Int} {ap : α → β → β} {rp : Int → β → β} {to t : Int} (ht : t ≤ to) {R : List α} (hR : ∀ e ∈ R, t < tm e) : ∀ (G : List α) (s : β), G ≠ [] → (∀ e ∈ G, tm e = t) →
  a3V tm ap rp to (G ++ R) s = a3V tm ap rp to R (rp t (G.foldl (fun s e => ap e s) s))
 | [], _, h, _ => absurd rfl h
 | [e], s, _, h => by
  have he := h e (by simp)
  show a3V tm ap rp to (e :: R) s = _
  have hh : hdT tm R t = false := by
   cases R with
   | nil => rfl
   | cons f R => exact decide_eq_false (by have := hR f (by simp); omega)
  rw [a3V, if_neg (by omega), he, hh, if_neg (by simp)]
  rfl
 | e :: e' :: G, s, _, h => by
  have he := h e (by simp)
  have he' := h e' (by simp)
  show a3V tm ap rp to (e :: (e' :: G ++ R)) s = _
  rw [a3V, if_neg (by omega), he, show hdT tm (e' :: G ++ R) t = true from decide_eq_true he', if_pos rfl, b1y ht hR (e' :: G) _ (by simp) (fun x hx => h x (by simp [hx]))]
  rfl
theorem a8j {tm : α → Int} {t : Int} : ∀ {E : List α}, E.Pairwise (fun x y => tm x ≤ tm y) → (∀ e ∈ E, t ≤ tm e) → E = atM tm E t ++ E.filter (fun e => decide (t < tm e))
 | [], _, _ => rfl
 | e :: E, h, hm => by
  rw [List.pairwise_cons] at h
  have ih := a8j (tm := tm) (t := t) h.2 fun x hx => hm x (by simp [hx])
  unfold atM at ih ⊢
  have h0 := hm e (by simp)
  by_cases he : tm e = t
  ·grind
  ·rw [List.filter_cons, if_neg (by simpa using he), List.filter_cons, if_pos (by simp; omega)]
   have : E.filter (fun e => decide (tm e = t)) = [] := List.filter_eq_nil_iff.2 fun x hx => by have := h.1 x hx; simp; omega
   grind
theorem a8a {tm : α → Int} {ap : α → β → β} {rp : Int → β → β} {E E' : List α} : ∀ (n : Nat) (t : Int) (s : β), (∀ t', t ≤ t' → atM tm E t' = atM tm E' t') → moG tm ap rp E n t s = moG tm ap rp E' n t s
 | 0, _, _, _ => rfl
 | n + 1, t, s, h => by
  rw [moG, moG, h t (Int.le_refl _), a8a n (t + 1) _ fun t' ht => h t' (by omega)]
theorem b0H {tm : α → Int} {ap : α → β → β} {rp : Int → β → β} {to : Int} : ∀ (n : Nat) (t : Int) (E : List α) (s : β), n = (to + 1 - t).toNat → E.Pairwise (fun x y => tm x ≤ tm y) → (∀ e ∈ E, t ≤ tm e) →
  a3V tm ap rp to E s = moG tm ap rp E n t s
 | 0, t, E, s, hn, _, hm => by
  rw [moG]
  cases E with
  | nil => rfl
  | cons e E => rw [a3V, if_pos (by have := hm e (by simp); omega)]
 | n + 1, t, E, s, hn, hp, hm => by
  have hs := a8j hp hm
  have hf : ∀ t', t + 1 ≤ t' → atM tm E t' = atM tm (E.filter fun e => decide (t < tm e)) t' := fun t' ht => by
   unfold atM
   rw [List.filter_filter]
   all_goals grind
  have ih := fun s => b0H (ap := ap) (rp := rp) (to := to) n (t + 1) (E.filter fun e => decide (t < tm e)) s (by omega) (hp.filter _) (fun e he => by have := (List.mem_filter.1 he).2; simp at this; omega)
  rw [moG]
  by_cases hg : atM tm E t = []
  ·grind
  ·rw [if_neg hg, a8a n (t + 1) _ hf, ← ih]
   conv => lhs; rw [hs]
   exact b1y (by omega) (fun e he => by have := (List.mem_filter.1 he).2; simpa using this) _ _ hg (fun e he => by have := (List.mem_filter.1 he).2; simpa using this)
theorem a6i {k : α → Int} : ∀ {E : List α}, E.Pairwise (fun x y => k x ≤ k y) → (∀ e ∈ E, k e = 0 ∨ k e = 1 ∨ k e = 2) → E = E.filter (fun e => decide (k e = 0)) ++ (E.filter (fun e => decide (k e = 1)) ++ E.filter (fun e => decide (k e = 2)))
 | [], _, _ => rfl
 | e :: E, h, hm => by
  rw [List.pairwise_cons] at h
  have ih := a6i (k := k) h.2 fun x hx => hm x (by simp [hx])
  rcases hm e (by simp) with he | he | he
  ·grind
  ·have h0 : E.filter (fun e => decide (k e = 0)) = [] := List.filter_eq_nil_iff.2 fun x hx => by have := h.1 x hx; simp; omega
   grind
  ·have h0 : E.filter (fun e => decide (k e = 0)) = [] := List.filter_eq_nil_iff.2 fun x hx => by have := h.1 x hx; simp; omega
   have h1 : E.filter (fun e => decide (k e = 1)) = [] := List.filter_eq_nil_iff.2 fun x hx => by have := h.1 x hx; simp; omega
   grind
end
end Go.Proofs.YtbhgndiboeppeaaGreatDoor

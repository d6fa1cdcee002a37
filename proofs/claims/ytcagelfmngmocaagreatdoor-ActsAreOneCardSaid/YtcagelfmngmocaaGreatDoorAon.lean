
/-
 Acts that are ignored change nothing; halves of acts that are merged are one. Plain laws.
-/
import Derived.Test.YtcagelfmngmocaaGreatDoorMrp
import Derived.Test.YtcagelfmngmocaaGreatDoorSlq
namespace Go.Proofs.YtcagelfmngmocaaGreatDoor
open Go Go.Ai
set_option linter.unusedSimpArgs false
set_option linter.unusedVariables false
set_option maxHeartbeats 4000000
set_option linter.unusedSectionVars false
section
variable {α : Type} [Inhabited α]
theorem pw_adj {R : α → α → Prop} (tr : ∀ x y z, R x y → R y z → R x z) : ∀ (l : List α), (∀ i, i + 1 < l.length → R (l.getD i default) (l.getD (i + 1) default)) → l.Pairwise R
 | [], _ => .nil
 | [x], _ => by simp
 | x :: y :: r, h => by
  have ih := pw_adj tr (y :: r) (fun i hi => by simpa using h (i + 1) (by simpa using hi))
  have h0 : R x y := by simpa using h 0 (by simp)
  refine List.pairwise_cons.2 ⟨fun z hz => ?_, ih⟩
  rcases List.mem_cons.1 hz with rfl | hz
  ·exact h0
  ·exact tr _ _ _ h0 ((List.pairwise_cons.1 ih).1 z hz)
theorem adj_pw {R : α → α → Prop} : ∀ (l : List α), l.Pairwise R → ∀ i, i + 1 < l.length → R (l.getD i default) (l.getD (i + 1) default)
 | [], _, i, hi => by simp at hi
 | x :: r, h, 0, hi => by
  cases r with
  | nil => simp at hi
  | cons y r => simpa using (List.pairwise_cons.1 h).1 y (by simp)
 | x :: r, h, i + 1, hi => by simpa using adj_pw r (List.pairwise_cons.1 h).2 i (by simpa using hi)
theorem mrg_all {c : α → α → Int} {b : List α} {y : α} (h : ∀ x ∈ b, ltC c y x) : mrg c b [y] = y :: b := by
 have := mrg_last (c := c) (a := []) (b := b) (y := y) (by simp) h
 simpa using this
theorem mrg_filter {p : α → Prop} {c : α → α → Int} (h : Swo p c) (q : α → Bool) {y : α} (py : p y) : ∀ (s : List α), (∀ x ∈ s, p x) → Ord c s → (mrg c s [y]).filter q = if q y = true then mrg c (s.filter q) [y] else s.filter q
 | [], _, _ => by
  rw [mrg_nil, List.filter_nil, mrg_nil]
  by_cases hy : q y = true <;> simp [hy]
 | x :: xs, ps, os => by
  obtain ⟨o1, o2⟩ := List.pairwise_cons.1 os
  by_cases hlt : c y x < 0
  ·have hall : ∀ z ∈ x :: xs, ltC c y z := fun z hz => by
    rcases List.mem_cons.1 hz with rfl | hz
    ·exact hlt
    ·exact Classical.byContradiction fun hn => h.ntr y z x py (ps z (by simp [hz])) (ps x (by simp)) hn (o1 z hz) hlt
   rw [mrg_all hall, mrg_all (fun z hz => hall z (List.mem_filter.1 hz).1), List.filter_cons]
  ·rw [mrg_ge hlt, List.filter_cons, mrg_filter h q py xs (fun z hz => ps z (by simp [hz])) o2, List.filter_cons]
   by_cases hx : q x = true
   ·rw [if_pos hx, if_pos hx]
    by_cases hy : q y = true
    ·rw [if_pos hy, if_pos hy, mrg_ge hlt]
    ·rw [if_neg hy, if_neg hy]
   ·rw [if_neg hx, if_neg hx]
theorem ssort_filter_go {p : α → Prop} {c : α → α → Int} (h : Swo p c) (q : α → Bool) : ∀ (l s : List α), (∀ x ∈ s, p x) → (∀ x ∈ l, p x) → Ord c s →
  (l.foldl (fun s y => mrg c s [y]) s).filter q = (l.filter q).foldl (fun s y => mrg c s [y]) (s.filter q)
 | [], s, _, _, _ => rfl
 | y :: l, s, ps, pl, os => by
  have py := pl y (by simp)
  rw [List.foldl_cons, ssort_filter_go h q l _ (fun x hx => by
   rcases mrg_mem.1 hx with hx | hx
   ·exact ps x hx
   ·simp at hx; subst hx; exact py) (fun x hx => pl x (by simp [hx])) (mrg_ord h ps (fun x hx => by simp at hx; subst hx; exact py) os (by simp [Ord])), mrg_filter h q py s ps os, List.filter_cons]
  by_cases hy : q y = true
  ·rw [if_pos hy, if_pos hy, List.foldl_cons]
  ·rw [if_neg hy, if_neg hy]
theorem ssort_filter {p : α → Prop} {c : α → α → Int} (h : Swo p c) (q : α → Bool) {l : List α} (pl : ∀ x ∈ l, p x) : (ssort c l).filter q = ssort c (l.filter q) :=
 ssort_filter_go h q l [] (fun x hx => by simp at hx) pl List.Pairwise.nil
theorem mrg_map {β : Type} [Inhabited β] {c : α → α → Int} {c' : β → β → Int} (f : β → α) {y : β} : ∀ (s : List β), (∀ x ∈ s, c (f y) (f x) = c' y x) → (mrg c' s [y]).map f = mrg c (s.map f) [f y]
 | [], _ => by rw [mrg_nil, List.map_nil, mrg_nil]; rfl
 | x :: xs, h => by
  have hx := h x (by simp)
  rw [List.map_cons]
  by_cases hlt : c' y x < 0
  ·rw [mrg_lt hlt, mrg_lt (by rw [hx]; exact hlt), mrg_nil', mrg_nil']; rfl
  ·rw [mrg_ge hlt, mrg_ge (by rw [hx]; exact hlt), List.map_cons, mrg_map f xs (fun z hz => h z (by simp [hz]))]
theorem ssort_map_go {β : Type} [Inhabited β] {c : α → α → Int} {c' : β → β → Int} (f : β → α) : ∀ (l s : List β), (∀ x, x ∈ s ∨ x ∈ l → ∀ y ∈ l, c (f y) (f x) = c' y x) →
  (l.foldl (fun s y => mrg c' s [y]) s).map f = (l.map f).foldl (fun s y => mrg c s [y]) (s.map f)
 | [], s, _ => rfl
 | y :: l, s, h => by
  rw [List.foldl_cons, List.map_cons, List.foldl_cons, ssort_map_go f l _ (fun x hx z hz => ?_), mrg_map f s (fun x hx => h x (.inl hx) y (by simp))]
  refine h x ?_ z (by simp [hz])
  rcases hx with hx | hx
  ·rcases mrg_mem.1 hx with hx | hx
   ·exact .inl hx
   ·simp at hx; subst hx; exact .inr (by simp)
  ·exact .inr (by simp [hx])
theorem ssort_map {β : Type} [Inhabited β] {c : α → α → Int} {c' : β → β → Int} (f : β → α) {l : List β} (h : ∀ x ∈ l, ∀ y ∈ l, c (f y) (f x) = c' y x) : (ssort c' l).map f = ssort c (l.map f) :=
 ssort_map_go f l [] (fun x hx => h x (by simpa using hx))
theorem mrg_perm {c : α → α → Int} {y : α} : ∀ (s : List α), (mrg c s [y]).Perm (y :: s)
 | [] => by rw [mrg_nil]
 | x :: xs => by
  by_cases hlt : c y x < 0
  ·rw [mrg_lt hlt, mrg_nil']
  ·rw [mrg_ge hlt]
   exact ((mrg_perm xs).cons x).trans (List.Perm.swap y x xs)
theorem ssort_perm_go {c : α → α → Int} : ∀ (l s : List α), (l.foldl (fun s y => mrg c s [y]) s).Perm (s ++ l)
 | [], s => by simp
 | y :: l, s => by
  refine (ssort_perm_go l _).trans ?_
  refine ((mrg_perm s).append_right l).trans ?_
  exact (List.perm_middle (l₁ := s) (a := y) (l₂ := l)).symm
theorem ssort_perm {c : α → α → Int} (l : List α) : (ssort c l).Perm l := by
 have := ssort_perm_go (c := c) l []
 rw [List.nil_append] at this
 exact this
/-! ### neighbours that are alike -/
def ddG [DecidableEq α] (l : List α) : List α := l.foldl (fun o x => if o.getLast? = some x then o else o ++ [x]) []
theorem ddG_snoc [DecidableEq α] (l : List α) (x : α) : ddG (l ++ [x]) = if (ddG l).getLast? = some x then ddG l else ddG l ++ [x] := by
 unfold ddG
 rw [List.foldl_append]; rfl
theorem ddG_last [DecidableEq α] (l : List α) : (ddG l).getLast? = l.getLast? := by
 rcases List.eq_nil_or_concat l with rfl | ⟨r, x, rfl⟩
 ·rfl
 ·rw [List.concat_eq_append, ddG_snoc]
  split
  ·rename_i h; rw [h]; simp
  ·simp
theorem ddG_snoc' [DecidableEq α] (l : List α) (x : α) : ddG (l ++ [x]) = if l.getLast? = some x then ddG l else ddG l ++ [x] := by
 rw [ddG_snoc, ddG_last]
end
/-! ### halves -/
instance : DecidableEq Opr := fun x y => decidable_of_iff (x.b = y.b ∧ x.no = y.no ∧ x.at_ = y.at_ ∧ x.kd = y.kd ∧ x.al = y.al ∧ x.un = y.un) ⟨fun ⟨h1, h2, h3, h4, h5, h6⟩ => (by cases x; cases y; simp at h1 h2 h3 h4 h5 h6; simp [h1, h2, h3, h4, h5, h6]), fun h => (by subst h; simp)⟩
inductive Hv : List Opr → List Opr → List Opr → Prop
 | nil : Hv [] [] []
 | l {x p q : List Opr} (a : Opr) : Hv x p q → Hv (x ++ [a]) (p ++ [a]) q
 | r {x p q : List Opr} (a : Opr) : Hv x p q → Hv (x ++ [a]) p (q ++ [a])
 | b {x p q : List Opr} (a : Opr) : Hv x p q → Hv (x ++ [a]) (p ++ [a]) (q ++ [a])
theorem Hv.symm {x p q : List Opr} (h : Hv x p q) : Hv x q p := by
 induction h with
 | nil => exact .nil
 | l a _ ih => exact .r a ih
 | r a _ ih => exact .l a ih
 | b a _ ih => exact .b a ih
theorem Hv.sub {x p q : List Opr} (h : Hv x p q) : p.Sublist x := by
 induction h with
 | nil => exact .slnil
 | l a _ ih => exact ih.append (List.Sublist.refl _)
 | r a _ ih => exact ih.trans (List.sublist_append_left _ _)
 | b a _ ih => exact ih.append (List.Sublist.refl _)
theorem cmpO_self (x : Opr) : ¬cmpO x x < 0 := (swoO fun _ => True).irr x trivial
theorem cmpO_asy {x y : Opr} (h : cmpO x y < 0) : ¬cmpO y x < 0 := fun h2 => cmpO_self x ((swoO fun _ => True).tr x y x trivial trivial trivial h h2)
theorem hv_mrg {x p q : List Opr} (h : Hv x p q) (hx : x.Pairwise fun a b => cmpO a b < 0) : ddG (mrg cmpO p q) = x := by
 have key : ∀ {x p q : List Opr}, Hv x p q → ∀ a, (x ++ [a]).Pairwise (fun a b => cmpO a b < 0) → (∀ y ∈ p, cmpO y a < 0) ∧ (∀ y ∈ q, cmpO y a < 0) ∧ (mrg cmpO p q).getLast? ≠ some a := by
  intro x p q h a hx
  have hlt : ∀ y ∈ x, cmpO y a < 0 := fun y hy => (List.pairwise_append.1 hx).2.2 y hy a (by simp)
  have h1 : ∀ y ∈ p, cmpO y a < 0 := fun y hy => hlt y (h.sub.subset hy)
  have h2 : ∀ y ∈ q, cmpO y a < 0 := fun y hy => hlt y (h.symm.sub.subset hy)
  refine ⟨h1, h2, fun hl => ?_⟩
  have hm := List.mem_of_getLast? hl
  rcases mrg_mem.1 hm with hm | hm
  ·exact cmpO_self a (h1 a hm)
  ·exact cmpO_self a (h2 a hm)
 induction h with
 | nil => rw [mrg_nil]; rfl
 | @l x0 p0 q0 a h ih =>
  obtain ⟨k1, k2, k3⟩ := key h a hx
  have e := mrg_parts (c := cmpO) (u1 := p0) (u2 := [a]) (v1 := q0) (v2 := []) (fun y hy x hx => by simp at hx; subst hx; exact k2 y hy) (fun y hy => by simp at hy)
  rw [List.append_nil, mrg_nil'] at e
  rw [e, ddG_snoc', if_neg k3, ih (List.pairwise_append.1 hx).1]
 | @r x0 p0 q0 a h ih =>
  obtain ⟨k1, k2, k3⟩ := key h a hx
  have e := mrg_parts (c := cmpO) (u1 := p0) (u2 := []) (v1 := q0) (v2 := [a]) (fun y hy z hz => by simp at hz) (fun y hy z hz => by simp at hy; subst hy; exact cmpO_asy (k1 z hz))
  rw [List.append_nil, mrg_nil] at e
  rw [e, ddG_snoc', if_neg k3, ih (List.pairwise_append.1 hx).1]
 | @b x0 p0 q0 a h ih =>
  obtain ⟨k1, k2, k3⟩ := key h a hx
  have e := mrg_parts (c := cmpO) (u1 := p0) (u2 := [a]) (v1 := q0) (v2 := [a]) (fun y hy z hz => by simp at hz; subst hz; exact k2 y hy) (fun y hy z hz => by simp at hy; subst hy; exact cmpO_asy (k1 z hz))
  have e2 : mrg cmpO [a] [a] = [a] ++ [a] := by rw [mrg_ge (cmpO_self a), mrg_nil]; rfl
  rw [e, e2, ← List.append_assoc, ddG_snoc', if_pos (by simp), ddG_snoc', if_neg k3, ih (List.pairwise_append.1 hx).1]
/-! ### sublists of right acts -/
def opT (x y : Opr) : Prop := cmpO x y < 0 ∧ (x.b = y.b → x.at_ ≤ y.at_)
theorem opT_tr (x y z : Opr) (h1 : opT x y) (h2 : opT y z) : opT x z := by
 refine ⟨(swoO fun _ => True).tr _ _ _ trivial trivial trivial h1.1 h2.1, fun e => ?_⟩
 have hb : x.b = y.b := by
  rcases (cmpO_ltS x y).1 h1.1 with h | h
  ·rcases (cmpO_ltS y z).1 h2.1 with g | g
   ·exact absurd (ltS_trans h g) (by rw [e]; exact ltS_irr _)
   ·rw [e, ← g.1] at h; exact absurd h (ltS_irr _)
  ·exact h.1
 have := h1.2 hb
 have := h2.2 (hb ▸ e)
 omega
theorem ActOk.pw {a : List Opr} (h : ActOk a) : a.Pairwise opT := pw_adj opT_tr a fun i hi => ⟨h.up i hi, fun e => by
 have := h.tm i hi
 exact Classical.byContradiction fun hn => this ⟨e, by omega⟩⟩
theorem ActOk.sub {a b : List Opr} (h : ActOk a) (hs : b.Sublist a) : ActOk b where
 len := by have := hs.length_le; have := h.len; omega
 flt i hi := by
  obtain ⟨j, hj, e⟩ := at_mem (hs.subset (mem_at hi))
  rw [← e]; exact h.flt j hj
 up i hi := (adj_pw b (h.pw.sublist hs) i hi).1
 tm i hi hc := by
  have := (adj_pw b (h.pw.sublist hs) i hi).2 hc.1
  omega
end Go.Proofs.YtcagelfmngmocaaGreatDoor
